/- Lemmas for the walks of one claim (NodB, NodC, DrS, NodS, NodD, NodE, NodJ, RegM, Cmp, RegO, DrawI, NodF). Conditions: bounds on sizes, as each names them. -/
import Derived.Test.YtfgliohpdgnmcaaGreatB09
import Derived.Test.YtfgliohpdgnmcaaGreatB0C
set_option linter.unusedVariables false
set_option linter.unusedSimpArgs false
set_option maxRecDepth 100000
set_option maxHeartbeats 8000000
namespace Go.Proofs.YtfgliohpdgnmcaaGreat
open Go.RowKit
open List (map_cons map_append length_append append_assoc cons_append length_take getElem_mem take_append_drop flatten_cons mem_cons_of_mem mem_cons not_mem_nil mem_append length_set nodup_nil nodup_append nodup_cons)
theorem fT {ops:Array Oper} {rest:List Oper} {o:Oper} {a:Act} {w:World} {Q:Exit→Act→World→Prop} (hg:o.guard=none) (x:Operand) (ho:o.op = .buildSlice 45 1 #[(0,x)]) (cs:List Value) (hl:cs.length=8) (hx:a.eval x = .agg cs.toArray)
 (h:wpList Tryz.prog ops Q rest (a.put o.dst (.slice (some ⟨w,0,none⟩) 1 1)) (w.alloc (.cells cs.toArray 80))):wpList Tryz.prog ops Q (o::rest) a w:=by
 obtain ⟨ie,I4⟩:∃ie,Tryz.prog.info? 80=some ie:=by
  have:=mh.hi;cases hh:Tryz.prog.info? 80 with
  |none=>rw [hh] at this;cases this
  |some ie=>exact ⟨ie,rfl⟩
 have hi:=mh.hi;rw [I4] at hi;simp only [Option.map_some,Option.some.injEq,Prod.mk.injEq] at hi;obtain ⟨hz,hs,_⟩:=hi;refine wpList_buildSlice hg 45 80 1 _ ho cs.toArray ie _ mh.ht I4 hz (by rw [hs];decide) (by rw [hs];decide) ?_ h;rw [hs];have e:(Array.map (fun (x:Nat × Operand)=>(x.1,a.eval x.2)) #[(0,x)]).toList=[(0,.agg cs.toArray)]:=by
  simp [hx]
 show Instr.fill _ _ (Array.map (fun (x:Nat × Operand)=>(x.1,a.eval x.2)) #[(0,x)]).toList=_;rw [e];exact tJ _ _ 8 hl (by simp)
theorem Bg {B:Nat→Prop} {w:World} {base e sz n c:Nat} {α:Type} {f:α→Cs} {xs:List α} {A:Option Addr} {cells:List Value} (h:w.ownsRow base e sz (.slice A n c) n cells) (hi:aM B w (cat f xs) cells) (hf:∀x,(f x).width=sz) (i:Nat) (hx:i<xs.length) (hn:n=xs.length) :
 ∃g ci,A=some ⟨g,0,none⟩∧g<w.heap.size∧aM B w (f xs[i]) ci∧ci.length=sz∧(∀v∈ci,v∈cells)∧∀j v,ci[j]?=some v→w.cell? ((⟨g,i*sz,none⟩:Addr).add j)=some v:=by
 rcases h.2 with ⟨_,h1⟩|⟨g,cap,cur,hv,hb,hh,_⟩
 ·omega
 ·injection hv with e1 e2 e3;subst e1 e3;rw [lU xs i hx] at hi;obtain ⟨c1,c2,rfl,h1,h2⟩:=aM.app.1 hi;obtain ⟨ci,c3,rfl,h2,h3⟩:=aM.app.1 h2;have xC:c1.length=i*sz:=by rw [h1.length,fz hf,length_take,Nat.min_eq_left (by omega)]
  have ti:ci.length=sz:=by rw [h2.length,hf]
  refine ⟨g,ci,rfl,(Array.getElem?_eq_some_iff.1 hh).1,h2,ti,fun v hv=>by simp [hv],fun j v hv=>?_⟩;have h5:=World.ownsRow.cells (g:=g) h rfl (i*sz+j) v (by
   rw [List.getElem?_append_right (by omega),xC,Nat.add_sub_cancel_left,List.getElem?_append_left (List.getElem?_eq_some_iff.1 hv).1];exact hv);rw [Aab,Nat.zero_add] at h5;rw [Aab];exact h5
structure G4 (base:Nat) (X:List Nat) (n:aY) (vl:Value) (w:World) (e:Ending) (w':World):Prop where
 out:∃(n':aY) (uK:Value) (dE:List Value),e = .returned (.agg dE.toArray)∧dK w' base X n' uK dE∧Step base w vl w' uK∧n'.me=n.me∧n'.next=n.next∧n'.insts=n.insts∧n'.leads.length≤n.leads.length∧∀y∈n'.leads,y∈n.leads
theorem oC (base:Nat) (X:List Nat) (n:aY) (x:aX) (vl:Value) (cs mm:List Value) (w:World) (hB:base≤w.heap.size) (hl:n.leads.length≤1000) (h:dK w base X n vl cs) (h':aM bM w x.c mm) :
 Calls Tryz.prog 108 #[.agg cs.toArray,.agg mm.toArray] w (G4 base X n vl w):=by
 have Fe:=Hi h.low;obtain ⟨A0,k0,tK,rfl,KP,tI,Cb,KZ⟩:=h.out;have Pw:=Hi KZ;clear KZ;obtain rfl:=aX.open h';clear h h';obtain ⟨A1,k1,rfl,_⟩:=eD.bd tI;have Oa:=Hi KP;clear KP;have A7:=Hi tI;clear tI;have CV:=Hi Cb;clear Cb;obtain ⟨xr,eL⟩:=x;simp only [];obtain ⟨N,hN⟩:∃N,N=n.leads.length:=⟨_,rfl⟩;rw [←hN] at Oa A7 Fe CV ⊢;have HN:=Hi hN;clear hN;go_enter Tryz.func108,Tryz.ntmps108;go_wp2;go_loopw [5,6] (fun oo ii wr=>∃(j q:Nat) (A':Option Addr) (k':Nat) (cells:List Value) (acc:List aT),j≤N∧q=acc.length∧q≤j∧((∀y∈acc,y∈n.leads)∧∀v∈cells,ju v)∧oo = .slice A' q k'∧ii = .int .i64 (j:Int)∧wr.ownsRow (w+3) 80 8 (.slice A' q k') q cells∧aM (okB X (.slice A1 N k1)) w (cat aT.c acc) cells∧bf wr w 47 #[n.me,n.next,.slice A0 n.insts k0,.slice A1 N k1]∧bf wr (w+1) 25 #[xr,eL]∧bf wr (w+2) 47 zN∧Below w w wr) (fun _ ii _=>N-(intOf ii).toNat);case atStart=>
  refine ⟨0,0,some ⟨w+3,0,none⟩,0,[],[],Nat.zero_le _,rfl,Nat.le_refl _,⟨(fun y hy=>by cases hy),(fun v hv=>by cases hv)⟩,rfl,rfl,?_,aM.nil.2 rfl,(((bH w _ _).alloc _).alloc _).alloc _,((jg _ _ _ _ _ (by simp) rfl).alloc _).alloc _,(jg _ _ _ _ _ (by simp) rfl).alloc _,(by repeat' (first|with_reducible (first|exact Br|exact BW.o|apply Bs|apply Ba|apply Bd)|(simp<;>omega)|omega))⟩;have h1:=World.ownsRow_made (base:=w.heap.size+3) (size:=8) (e:=80) (((w.alloc (.cells #[n.me,n.next,.slice A0 n.insts k0,.slice A1 N k1] 47)).alloc (.cells #[xr,eL] 25)).alloc (.cells #[cO,cO,cL,cL] 47)) #[] 0 (by simp) (by simp [maxLen]) rfl;simpa using h1
 case round=>
  obtain ⟨j,q,A',k',cells,acc,hj,hq,xJ,xB,rfl,rfl,bg,nP,aD,I2,eJ,bE⟩:=hrel;have SB:=Hi aD;clear aD;have TB:=Hi I2;clear I2;have ZB:=Hi eJ;clear eJ;have BW:=Hi bE;clear bE;have HO:=Hi bg;clear bg;have HA:=Hi nP;clear nP;have HQ:=Hi hq;clear hq;have Mt:=Hi xB;clear xB;have c3:=ah SB.o 3 rfl;have f3:=SB.o.frozen 3;have HZ:=Hi (show w.heap.size+3≤wr.heap.size from ZB.o.lt);by_cases dS:j<N
  ·have fg:j<n.leads.length:=by have:=HN.o;omega
   have qe:(j:Int)<(N:Int):=by omega
   obtain ⟨gL,ci,hA,lv,bZ,K0,Cc,hc⟩:=Bg A7.o CV.o aT.width j fg HN.o;subst hA;have Wt:=Hi Cc;clear Cc;have DH:∀f v,ci[f]?=some v→wr.cell? ((⟨gL,j*8,none⟩:Addr).add f)=some v:=fun f v hv=>by
    rw [World.cell?_of_block (w:=w) (BW.o.block _ (by rw [cR];exact lv))];exact hc f v hv
   have JN:=vc bZ DH;have eZ:=getElem_mem fg;clear hc;generalize n.leads[j]=y at *;have Px:=Hi eZ;clear eZ;have gP:=Hi bZ;clear bZ;have H8:=Hi K0;clear K0;have Py:=Hi DH;clear DH;obtain ⟨yr,Wu⟩:∃r,r=y.id.rep:=⟨_,rfl⟩;obtain ⟨ys,TE⟩:∃r,r=y.id.slot:=⟨_,rfl⟩;rw [←Wu,←TE] at JN;clear Wu TE;have HC:=Hi JN;clear JN;by_cases e1:yr=xr
   ·by_cases e2:ys=eL
    ·subst e1 e2;go_wp2;refine ax 7 DE (by kernel_rfl) (by kernel_rfl) ?_;iterate 5 (refine ae rfl (by kernel_rfl) rfl ?_;go_wp2;refine ⟨rfl,?_⟩)
     refine ae rfl (by kernel_rfl) rfl ?_;go_wp2_with (refine Fn _ ⟨gL,j*8,none⟩ rfl [.int .i64 _,.int .i64 _] aC rfl HC.o ?_);refine ⟨rfl,?_⟩;refine ae rfl (by kernel_rfl) rfl ?_;go_wp2_with (refine Fn _ ⟨w+1,0,none⟩ rfl [.int .i64 _,.int .i64 _] aC rfl (ag TB.o) ?_);refine ⟨rfl,?_⟩;refine aO ?_;simp only [eo,ep];go_wp2;exact ⟨⟨j+1,q,A',k',cells,acc,by omega,HQ.o,by omega,Mt.o,rfl,by go_num,HO.o.drew,HA.o,SB.o.drew,TB.o.drew,ZB.o.drew,BW.o.drew⟩,by simp only [intOf];omega⟩
    ·subst e1;have d1:(ys == eL)=false:=by simp only [beq_eq_false_iff_ne];exact e2
     have d2:(eL == ys)=false:=by simp only [beq_eq_false_iff_ne];exact fun h=>e2 h.symm
     have HE:=Hi e2;clear e2;go_wp2;refine ax 7 DE (by kernel_rfl) (by kernel_rfl) ?_;iterate 5 (refine ae rfl (by kernel_rfl) rfl ?_;go_wp2;refine ⟨rfl,?_⟩)
     refine ae rfl (by kernel_rfl) rfl ?_;go_wp2_with (refine Fn _ ⟨gL,j*8,none⟩ rfl [.int .i64 _,.int .i64 _] aC rfl HC.o ?_);refine ⟨rfl,?_⟩;refine ae rfl (by kernel_rfl) rfl ?_;go_wp2_with (refine Fn _ ⟨w+1,0,none⟩ rfl [.int .i64 _,.int .i64 _] aC rfl (ag TB.o) ?_);refine ⟨rfl,?_⟩;refine aO ?_;simp only [eo,ep];have X:=Hi SB.o.drew;clear SB;have SB:=Hi X.o;clear X;have X:=Hi TB.o.drew;clear TB;have TB:=Hi X.o;clear X;have X:=Hi ZB.o.drew;clear ZB;have ZB:=Hi X.o;clear X;have X:=Hi BW.o.drew;clear BW;have BW:=Hi X.o;clear X;have X:=Hi HO.o.drew;clear HO;have HO:=Hi X.o;clear X c3 f3;have G6:=Hi (show ∀f v,ci[f]?=some v→wr.drew.cell? ((⟨gL,j*8,none⟩:Addr).add f)=some v from Py.o);have yy:=Hi (show w.heap.size+3≤wr.drew.heap.size from HZ.o);generalize wr.drew=w4 at SB TB ZB BW HO G6 yy ⊢;have c3:=ah SB.o 3 rfl;go_wp2_with (first|((with_reducible apply Gl 80);refine Fn _ ⟨gL,j*8,none⟩ rfl ci bV H8.o G6.o ?_)|((with_reducible show wpList _ _ _ ({dst:=_,op:=Op.buildSlice _ _ _,type:=_,pos:=_,after:=_,guard:=_}::_) _ _);go_must (refine fT rfl (.tmp 28) rfl ci H8.o rfl ?_))|(at_builtin;go_must (refine aB mh _ rfl _ _ rfl (w+3) _ q cells rfl (HO.o.alloc _) _ _ _ _ rfl (Reads.new (e:=80) (by simp [H8.o])) gP.o.one (by omega) (by have h1:=yy.o;first|(simp;done)|(simp;omega)|omega) ?_;intro vy w5 dF kB lu;have kP:=HO.o.lt;obtain ⟨ly,kQ,rfl,_⟩:=eD.bd dF;have dO:∀b,b<w.heap.size+3→some b≠(Value.slice A' q k').ownBlock:=(fun b hb e=>by have h7:=(kP _ e.symm).1;omega);have S5:=Hi (show bf w5 w 47 #[n.me,n.next,.slice A0 n.insts k0,.slice (some ⟨gL,0,none⟩) N k1] from (SB.o.alloc _).bL (kB.block _ (SB.o.alloc _).lt (dO _ (by omega))));have T5:=Hi (show bf w5 (w+1) 25 #[yr,eL] from (TB.o.alloc _).bL (kB.block _ (TB.o.alloc _).lt (dO _ (by omega))));have Z5:=Hi (show bf w5 (w+2) 47 zN from (ZB.o.alloc _).bL (kB.block _ (ZB.o.alloc _).lt (dO _ (by omega))));have B5:=Hi (show Below w w w5 from Below.grown (BW.o.alloc BW.o.size _) kB (Nt BW.o.size (by simp)) (fun k' hk=>by have h7:=(kP _ hk).1;omega));have O5:=Hi dF;clear dF kB lu kP dO SB TB ZB)));exact ⟨⟨j+1,q+1,ly,kQ,cells++ci,acc++[y],by omega,by rw [length_append,←HQ.o];rfl,by omega,⟨fun z hz=>by rcases List.mem_append.1 hz with h1|h1;(· exact Mt.o.1 z h1);(· rw [List.mem_singleton.1 h1];exact Px.o),fun v hv=>by rcases List.mem_append.1 hv with h1|h1;(· exact Mt.o.2 v h1);(· exact Pw.o v (Wt.o v h1))⟩,rfl,by go_num,O5.o,by rw [lK,mM];exact aM.app.2 ⟨_,_,rfl,HA.o,gP.o⟩,S5.o,T5.o,Z5.o,B5.o⟩,by simp only [intOf];omega⟩
   ·have d1:(yr == xr)=false:=by simp only [beq_eq_false_iff_ne];exact e1
    have d2:(xr == yr)=false:=by simp only [beq_eq_false_iff_ne];exact fun h=>e1 h.symm
    have HE:=Hi e1;clear e1;go_wp2;refine ax 7 DE (by kernel_rfl) (by kernel_rfl) ?_;iterate 5 (refine ae rfl (by kernel_rfl) rfl ?_;go_wp2;refine ⟨rfl,?_⟩)
    refine ae rfl (by kernel_rfl) rfl ?_;go_wp2_with (refine Fn _ ⟨gL,j*8,none⟩ rfl [.int .i64 _,.int .i64 _] aC rfl HC.o ?_);refine ⟨rfl,?_⟩;refine ae rfl (by kernel_rfl) rfl ?_;go_wp2_with (refine Fn _ ⟨w+1,0,none⟩ rfl [.int .i64 _,.int .i64 _] aC rfl (ag TB.o) ?_);refine ⟨rfl,?_⟩;refine aO ?_;simp only [eo,ep];have X:=Hi SB.o.drew;clear SB;have SB:=Hi X.o;clear X;have X:=Hi TB.o.drew;clear TB;have TB:=Hi X.o;clear X;have X:=Hi ZB.o.drew;clear ZB;have ZB:=Hi X.o;clear X;have X:=Hi BW.o.drew;clear BW;have BW:=Hi X.o;clear X;have X:=Hi HO.o.drew;clear HO;have HO:=Hi X.o;clear X c3 f3;have G6:=Hi (show ∀f v,ci[f]?=some v→wr.drew.cell? ((⟨gL,j*8,none⟩:Addr).add f)=some v from Py.o);have yy:=Hi (show w.heap.size+3≤wr.drew.heap.size from HZ.o);generalize wr.drew=w4 at SB TB ZB BW HO G6 yy ⊢;have c3:=ah SB.o 3 rfl;go_wp2_with (first|((with_reducible apply Gl 80);refine Fn _ ⟨gL,j*8,none⟩ rfl ci bV H8.o G6.o ?_)|((with_reducible show wpList _ _ _ ({dst:=_,op:=Op.buildSlice _ _ _,type:=_,pos:=_,after:=_,guard:=_}::_) _ _);go_must (refine fT rfl (.tmp 28) rfl ci H8.o rfl ?_))|(at_builtin;go_must (refine aB mh _ rfl _ _ rfl (w+3) _ q cells rfl (HO.o.alloc _) _ _ _ _ rfl (Reads.new (e:=80) (by simp [H8.o])) gP.o.one (by omega) (by have h1:=yy.o;first|(simp;done)|(simp;omega)|omega) ?_;intro vy w5 dF kB lu;have kP:=HO.o.lt;obtain ⟨ly,kQ,rfl,_⟩:=eD.bd dF;have dO:∀b,b<w.heap.size+3→some b≠(Value.slice A' q k').ownBlock:=(fun b hb e=>by have h7:=(kP _ e.symm).1;omega);have S5:=Hi (show bf w5 w 47 #[n.me,n.next,.slice A0 n.insts k0,.slice (some ⟨gL,0,none⟩) N k1] from (SB.o.alloc _).bL (kB.block _ (SB.o.alloc _).lt (dO _ (by omega))));have T5:=Hi (show bf w5 (w+1) 25 #[xr,eL] from (TB.o.alloc _).bL (kB.block _ (TB.o.alloc _).lt (dO _ (by omega))));have Z5:=Hi (show bf w5 (w+2) 47 zN from (ZB.o.alloc _).bL (kB.block _ (ZB.o.alloc _).lt (dO _ (by omega))));have B5:=Hi (show Below w w w5 from Below.grown (BW.o.alloc BW.o.size _) kB (Nt BW.o.size (by simp)) (fun k' hk=>by have h7:=(kP _ hk).1;omega));have O5:=Hi dF;clear dF kB lu kP dO SB TB ZB)));exact ⟨⟨j+1,q+1,ly,kQ,cells++ci,acc++[y],by omega,by rw [length_append,←HQ.o];rfl,by omega,⟨fun z hz=>by rcases List.mem_append.1 hz with h1|h1;(· exact Mt.o.1 z h1);(· rw [List.mem_singleton.1 h1];exact Px.o),fun v hv=>by rcases List.mem_append.1 hv with h1|h1;(· exact Mt.o.2 v h1);(· exact Pw.o v (Wt.o v h1))⟩,rfl,by go_num,O5.o,by rw [lK,mM];exact aM.app.2 ⟨_,_,rfl,HA.o,gP.o⟩,S5.o,T5.o,Z5.o,B5.o⟩,by simp only [intOf];omega⟩
  ·have qe:¬(j:Int)<(N:Int):=by omega
   have X:=Hi (show bf (wr.setCell ⟨w,3,none⟩ (.slice A' q k')) w 47 #[n.me,n.next,.slice A0 n.insts k0,.slice A' q k'] from cI SB.o 3 (.slice A' q k'));have Z2:=Hi (show bf (wr.setCell ⟨w,3,none⟩ (.slice A' q k')) (w+2) 47 zN from ZB.o.bK (show w.heap.size≠w.heap.size+2 by omega) _);go_wp2_with (first|((with_reducible apply Gl 47);refine Fn _ ⟨w,0,none⟩ rfl [n.me,n.next,.slice A0 n.insts k0,.slice A' q k'] ab rfl (ag X.o) ?_)|((with_reducible apply Gs 47);go_must (refine Fr _ (w+2) 47 0 [n.me,n.next,.slice A0 n.insts k0,.slice A' q k'] [] zN [] _ rfl rfl ab Z2.o rfl rfl rfl (Oc rfl) ?_;intro v5 h5 g5)));have cW:Below w w (wr.setCell ⟨w,3,none⟩ (.slice A' q k')):=BW.o.setCell (by exact Nat.le_refl _) _;have jW:Below w w v5:=cW.grown g5 cW.size (fun k hk=>by injection hk with hk;omega);have TF:v5.ownsRow base 80 8 (.slice A' q k') q cells:=aH HO.o (fun b hb=>⟨by have:=(HO.o.lt b hb).1;omega,by
    have h1:=(HO.o.lt b hb);rw [g5.block b (by rw [aF];exact h1.2) (fun e=>by injection e with e;omega)];exact Below.heap_setCell _ _ _ _ (fun e=>by have e2:b=w.heap.size:=e;omega)⟩);have dk:Step base w (.slice A1 N k1) v5 (.slice A' q k'):=⟨jW.os,jW.tape,jW.output,jW.size,fun b hb _=>jW.block b hb,.inr (fun b hb=>by have:=(HO.o.lt b hb).1;omega),Fe.o⟩;exact bh rfl ⟨w+2,0,none⟩ rfl [n.me,n.next,.slice A0 n.insts k0,.slice A' q k'] ab rfl (ag (by simpa using h5)) rfl ⟨⟨⟨n.me,n.next,n.insts,acc⟩,.slice A' q k',_,rfl,⟨A0,k0,cells,rfl,dk.rep Oa.o,by rw [←HQ.o];exact TF,dk.rep HA.o,Mt.o.2⟩,dk,rfl,rfl,rfl,by have:=HQ.o;have:=HN.o;simp only;omega,Mt.o.1⟩⟩
theorem JS {B:Nat→Prop} {w:World} {base e sz n c:Nat} {α:Type} {f:α→Cs} {xs:List α} {A:Option Addr} {cells:List Value} (h:w.ownsRow base e sz (.slice A n c) n cells) (hi:aM B w (cat f xs) cells) (hf:∀x,(f x).width=sz) (k:Nat) (hk:k<xs.length) (hn:n=xs.length) :
 ∃(g:Nat) (cur:Array Value) (L1 M L2:List Value),A=some ⟨g,0,none⟩∧base≤g∧g<w.heap.size∧bf w g e cur∧cur.toList=L1++(M++L2)∧L1.length=k*sz∧M.length=sz ∧
  ∀(w2:World) (cs:List Value) (y:α),aM B w (f y) cs→bf w2 g e (L1++(cs++L2)).toArray→∃lz,w2.ownsRow base e sz (.slice A n c) n lz∧aM B w (cat f (xs.set k y)) lz∧∀v∈lz,v∈cells∨v∈cs:=by
 rcases h.2 with ⟨_,h1⟩|⟨g,cap,cur,hv,hb,hh,S7,Cc,G7,Pz⟩
 ·omega
 ·injection hv with e1 e2 e3;subst e1 e3;rw [lU xs k hk] at hi;obtain ⟨c1,c2,ny,h1,h2⟩:=aM.app.1 hi;obtain ⟨ci,c3,rfl,h2,h3⟩:=aM.app.1 h2;have xC:c1.length=k*sz:=by rw [h1.length,fz hf,length_take,Nat.min_eq_left (by omega)]
  have ti:ci.length=sz:=by rw [h2.length,hf]
  have E5:cells.length=n*sz:=h.1;have G9:cur.toList=c1++(ci++(c3++cur.toList.drop (n*sz))):=by
   have h5:=take_append_drop (n*sz) cur.toList;rw [Pz,ny] at h5;exact h5.symm.trans (by simp [append_assoc])
  refine ⟨g,cur,c1,ci,c3++cur.toList.drop (n*sz),rfl,hb,(Array.getElem?_eq_some_iff.1 hh).1,hh,G9,xC,ti,fun w2 cs y hy cz=>?_⟩;have Y7:cs.length=sz:=by rw [hy.length,hf]
  have hlen:(c1++(cs++c3)).length=n*sz:=by
   have:(c1++(ci++c3)).length=n*sz:=by rw [←ny];exact E5
   simp only [length_append] at this ⊢;omega
  refine ⟨c1++(cs++c3),⟨hlen,.inr ⟨g,c,_,rfl,hb,cz,S7,Cc,?_,?_⟩⟩,?_,fun v hv=>?_⟩
  ·have h6:cur.toList.length=cur.size:=by simp
   rw [G9] at h6;simp only [List.size_toArray,length_append] at h6 ⊢;omega
  ·have:c1++(cs++(c3++cur.toList.drop (n*sz)))=(c1++(cs++c3))++cur.toList.drop (n*sz):=by simp [append_assoc]
   rw [this,List.take_left' hlen]
  ·rw [lU (xs.set k y) k (by simpa using hk)];refine aM.app.2 ⟨_,_,rfl,?_,aM.app.2 ⟨_,_,rfl,?_,?_⟩⟩
   ·rw [List.take_set_of_le Nr];exact h1
   ·rw [List.getElem_set_self];exact hy
   ·rw [List.drop_set_of_lt (by omega)];exact h3
  ·simp only [ny,mem_append] at hv ⊢;rcases hv with h|h|h
   ·exact .inl (.inl h)
   ·exact .inr h
   ·exact .inl (.inr (.inr h))
structure Ha (base:Nat) (X:List Nat) (n:aY) (x:aT) (vl:Value) (w:World) (e:Ending) (w':World):Prop where
 out:∃(n':aY) (uK:Value) (dE:List Value),e = .returned (.agg dE.toArray)∧dK w' base X n' uK dE∧Step base w vl w' uK∧n'.me=n.me∧n'.next=n.next∧n'.insts=n.insts∧n'.leads.length≤n.leads.length+1∧∀y∈n'.leads,y∈n.leads∨y=x
theorem gI (base:Nat) (X:List Nat) (n:aY) (x:aT) (vl:Value) (cs mm:List Value) (w:World) (hB:base≤w.heap.size) (hl:n.leads.length≤1000) (h:dK w base X n vl cs) (h':aM (okB X vl) w x.c mm) (mo:∀v∈mm,ju v) :
 Calls Tryz.prog 75 #[.agg cs.toArray,.agg mm.toArray] w (Ha base X n x vl w):=by
 have Fe:=Hi h.low;have TG:=Hi h.rep;obtain ⟨A0,k0,tK,rfl,KP,tI,Cb,KZ⟩:=h.out;have tL:=Hi mo;clear mo;have Pw:=Hi KZ;clear KZ;have HX:=Hi h';have Ob:=Hi (show mm.length=8 from h'.length.trans (aT.width _));have TH:=vc (w:=((w.alloc (.cells #[n.me,n.next,.slice A0 n.insts k0,vl] 47)).alloc (.cells mm.toArray 80)).alloc (.cells #[cO,cO,cL,cL] 47)) (p:=⟨w+1,0,none⟩) h' (ag ((jg _ _ _ _ _ (by simp) rfl).alloc _));clear h h';obtain ⟨A1,k1,rfl,dH⟩:=eD.bd tI;have nz:=Hi dH;clear dH;have Oa:=Hi KP;clear KP;have A7:=Hi tI;clear tI;have CV:=Hi Cb;clear Cb;obtain ⟨xr,K1⟩:∃r,r=x.id.rep:=⟨_,rfl⟩;obtain ⟨eL,TI⟩:∃r,r=x.id.slot:=⟨_,rfl⟩;rw [←K1,←TI] at TH;have Wv:=Hi (show x.id=⟨xr,eL⟩ by rw [K1,TI]);clear K1 TI;have TJ:=Hi TH;clear TH;obtain ⟨N,hN⟩:∃N,N=n.leads.length:=⟨_,rfl⟩;rw [←hN] at Oa A7 Fe CV nz TG HX TJ;have HN:=Hi hN;have SB:=Hi (show bf (((w.alloc (.cells #[n.me,n.next,.slice A0 n.insts k0,.slice A1 N k1] 47)).alloc (.cells mm.toArray 80)).alloc (.cells #[cO,cO,cL,cL] 47)) w 47 #[n.me,n.next,.slice A0 n.insts k0,.slice A1 N k1] from ((bH w _ _).alloc _).alloc _);have TB:=Hi (show bf (((w.alloc (.cells #[n.me,n.next,.slice A0 n.insts k0,.slice A1 N k1] 47)).alloc (.cells mm.toArray 80)).alloc (.cells #[cO,cO,cL,cL] 47)) (w+1) 80 mm.toArray from (jg _ _ _ _ _ (by simp) rfl).alloc _);have ZB:=Hi (show bf (((w.alloc (.cells #[n.me,n.next,.slice A0 n.insts k0,.slice A1 N k1] 47)).alloc (.cells mm.toArray 80)).alloc (.cells #[cO,cO,cL,cL] 47)) (w+2) 47 zN from jg _ _ _ _ _ (by simp) rfl);have BW:=Hi (show Below w w (((w.alloc (.cells #[n.me,n.next,.slice A0 n.insts k0,.slice A1 N k1] 47)).alloc (.cells mm.toArray 80)).alloc (.cells #[cO,cO,cL,cL] 47)) from (by repeat' (first|with_reducible (first|exact Br|exact BW.o|apply Bs|apply Ba|apply Bd)|(simp<;>omega)|omega)));rw [←hN] at hl ⊢;clear hN;go_enter Tryz.func75,Tryz.ntmps75;go_wp2_with (first|((with_reducible apply Gl 47);refine Fn _ ⟨w,0,none⟩ rfl [n.me,n.next,.slice A0 n.insts k0,.slice A1 N k1] ab rfl (ag SB.o) ?_)|((with_reducible apply Gl 25);refine Fn _ ⟨w+1,0,none⟩ rfl [xr,eL] aC rfl TJ.o ?_));have Ww:=TG.o.below BW.o;refine (nN n ⟨xr,eL⟩ _ _ _ (by have:=HN.o;omega) Ww (aX.shut (x:=⟨xr,eL⟩))).mono ?_;rintro e w1 ⟨q,rfl,A6,I6,hb⟩;clear Ww TJ TG;replace SB:=Hi (SB.o.below hb);replace TB:=Hi (TB.o.below hb);replace ZB:=Hi (ZB.o.below hb);replace BW:=Hi (BW.o.trans (hb.mono BW.o.size));clear hb;have hz1:w.heap.size+3≤w1.heap.size:=ZB.o.lt;have c3:=ah SB.o 3 rfl;rw [←HN.o] at I6;by_cases F6:q<0
 ·have I1:=Hi (show (w1.alloc (.cells #[] 80)).ownsRow w1 80 8 (.slice (some ⟨w1,0,none⟩) 0 0) 0 [] from by have h1:=World.ownsRow_made (base:=w1) (size:=8) (e:=80) w1 #[] 0 Nr (by simp [maxLen]) rfl;simpa using h1);have TK:=Hi ((nz.o.below BW.o).below (Br.alloc Nr (.cells #[] 80)));have Y8:=Hi CV.o.one;have Wx:=ah (SB.o.alloc (.cells #[] 80)) 3 rfl;have TL:=Hi HX.o.one;go_wp2_with (first|((with_reducible apply Gl 80);refine Fn _ ⟨w+1,0,none⟩ rfl mm bV Ob.o (ag T2.o) ?_)|((with_reducible show wpList _ _ _ ({dst:=_,op:=Op.buildSlice _ 1 _,type:=_,pos:=_,after:=_,guard:=_}::_) _ _);refine fT rfl (.tmp 18) rfl mm Ob.o rfl ?_)|(at_builtin;refine aB mh _ rfl _ _ rfl w1 _ N _ rfl (rk.o.alloc _) _ _ _ _ rfl (Reads.new (e:=80) (by simp [Ob.o])) TL.o (by omega) (by have h1:=yy.o;first|(simp;done)|(simp;omega)|omega) ?_;intro vy w3 cj eY fY;obtain ⟨ly,kQ,rfl,_⟩:=eD.bd cj;have O3:=Hi cj;have G3:=Hi eY;have S3:=Hi (show bf w3 w 47 #[n.me,n.next,.slice A0 n.insts k0,.slice A1 N k1] from (S2.o.alloc _).bL (eY.block _ (S2.o.alloc _).lt (fun e=>by have h7:=(rk.o.lt _ e.symm).1;omega)));have Z3:=Hi (show bf w3 (w+2) 47 zN from (Z2.o.alloc _).bL (eY.block _ (Z2.o.alloc _).lt (fun e=>by have h7:=(rk.o.lt _ e.symm).1;omega)));have B3:=Hi (show Below w w w3 from Below.grown (B2.o.alloc B2.o.size _) eY (Nt B2.o.size (by simp)) (fun k' hk=>by have h7:=(rk.o.lt _ hk).1;omega));clear cj eY fY;have c33:=ah S3.o 3 rfl;have f33:=S3.o.frozen 3;have S4:=Hi (show bf (w3.setCell ⟨w,3,none⟩ (.slice ly (N+1) kQ)) w 47 #[n.me,n.next,.slice A0 n.insts k0,.slice ly (N+1) kQ] from cI S3.o 3 _);have Z4:=Hi (show bf (w3.setCell ⟨w,3,none⟩ (.slice ly (N+1) kQ)) (w+2) 47 zN from Z3.o.bK (show w.heap.size≠w.heap.size+2 by omega) _))|(at_builtin;go_must (refine aB mh _ rfl _ _ rfl w1 _ 0 _ rfl I1.o _ _ _ tK rfl TK.o Y8.o (by omega) (by first|(simp<;>omega)|omega) ?_;intro vx w2 dJ kL qt;obtain ⟨cr,cm,rfl,_⟩:=eD.bd dJ;have rk:=Hi (show w2.ownsRow w1 80 8 (.slice cr N cm) N tK from by simpa using dJ);have S2:=Hi (show bf w2 w 47 #[n.me,n.next,.slice A0 n.insts k0,.slice A1 N k1] from (SB.o.alloc _).bL (kL.block _ (SB.o.alloc _).lt (fun e=>by injection e with e;have e2:w.heap.size=w1.heap.size:=e;omega)));have T2:=Hi (show bf w2 (w+1) 80 mm.toArray from (TB.o.alloc _).bL (kL.block _ (TB.o.alloc _).lt (fun e=>by injection e with e;have e2:w.heap.size+1=w1.heap.size:=e;omega)));have Z2:=Hi (show bf w2 (w+2) 47 zN from (ZB.o.alloc _).bL (kL.block _ (ZB.o.alloc _).lt (fun e=>by injection e with e;have e2:w.heap.size+2=w1.heap.size:=e;omega)));have B2:=Hi (show Below w w w2 from Below.grown (BW.o.alloc BW.o.size _) kL (Nt BW.o.size (by simp)) (fun k' hk=>by injection hk with hk;have e2:w1.heap.size=k':=hk;omega));have yy:=Hi (show w1.heap.size+1≤w2.heap.size from by have h1:=kL.size;simpa using h1);clear dJ kL qt))|((with_reducible apply Gl 47);refine Fn _ ⟨w,0,none⟩ rfl [n.me,n.next,.slice A0 n.insts k0,.slice ly (N+1) kQ] ab rfl (ag S4.o) ?_)|((with_reducible apply Gs 47);go_must (refine Fr _ (w+2) 47 0 [n.me,n.next,.slice A0 n.insts k0,.slice ly (N+1) kQ] [] zN [] _ rfl rfl ab Z4.o rfl rfl rfl (Oc rfl) ?_;intro v5 h5 g5)));have gN:Below w w (w3.setCell ⟨w,3,none⟩ (.slice ly (N+1) kQ)):=B3.o.setCell (by exact Nat.le_refl _) _;have jW:Below w w v5:=gN.grown g5 gN.size (fun k hk=>by injection hk with hk;omega);have TF:v5.ownsRow base 80 8 (.slice ly (N+1) kQ) (N+1) (tK++mm):=aH O3.o (fun b hb=>⟨by have:=(O3.o.lt b hb).1;omega,by
   have h1:=(O3.o.lt b hb);rw [g5.block b (by rw [aF];exact h1.2) (fun e=>by injection e with e;omega)];exact Below.heap_setCell _ _ _ _ (fun e=>by have e2:b=w.heap.size:=e;omega)⟩);have dk:Step base w (.slice A1 N k1) v5 (.slice ly (N+1) kQ):=⟨jW.os,jW.tape,jW.output,jW.size,fun b hb _=>jW.block b hb,.inr (fun b hb=>by have:=(O3.o.lt b hb).1;omega),Fe.o⟩;have Hb:aM (okB X (.slice A1 N k1)) w (cat aT.c (n.leads++[x])) (tK++mm):=by rw [lK,mM];exact aM.app.2 ⟨_,_,rfl,CV.o,HX.o⟩
  have hlen:(n.leads++[x]).length=N+1:=by rw [length_append,←HN.o];rfl
  exact bh rfl ⟨w+2,0,none⟩ rfl [n.me,n.next,.slice A0 n.insts k0,.slice ly (N+1) kQ] ab rfl (ag (by simpa using h5)) rfl ⟨⟨⟨n.me,n.next,n.insts,n.leads++[x]⟩,.slice ly (N+1) kQ,_,rfl,⟨A0,k0,tK++mm,rfl,dk.rep Oa.o,by rw [hlen];exact TF,dk.rep Hb,fun v hv=>by rcases List.mem_append.1 hv with h1|h1;(· exact Pw.o v h1);(· exact tL.o v h1)⟩,dk,rfl,rfl,rfl,by have e1:=HN.o;have e2:=hlen;simp only;omega,fun y hy=>by rcases List.mem_append.1 hy with h1|h1;(· exact .inl h1);(· exact .inr (List.mem_singleton.1 h1))⟩⟩
 ·obtain ⟨k,rfl⟩:∃k:Nat,q=(k:Int):=⟨q.toNat,by omega⟩;have Wy:k<N:=by omega
  obtain ⟨gL,cur,L1,M,L2,hA,kP,lv,ez,G9,Wz,hM,sL⟩:=JS A7.o CV.o aT.width k (by have:=HN.o;omega) HN.o;subst hA;have PB:=Hi (show bf w1 gL 80 cur from ez.bL (BW.o.block _ lv));clear ez;have ze:=Hi sL;clear sL;have TM:=Hi G9;clear G9;have Y9:=Hi Wz;clear Wz;have HM:=Hi hM;clear hM;have TL:=Hi HX.o.one;go_wp2_with (first|((with_reducible apply Gl 80);refine Fn _ ⟨w+1,0,none⟩ rfl mm bV Ob.o (ag TB.o) ?_)|((with_reducible apply Gs 80);go_must (refine Fr _ gL 80 (k*8) mm L1 M L2 cur rfl rfl (Ob.o ▸ bV) PB.o TM.o Y9.o (HM.o.trans Ob.o.symm) TL.o ?_;intro v2 h2 g2;have S2:=Hi (show bf v2 w 47 #[n.me,n.next,.slice A0 n.insts k0,.slice (some ⟨gL,0,none⟩) N k1] from SB.o.grown g2 (by omega));have Z2:=Hi (show bf v2 (w+2) 47 zN from ZB.o.grown g2 (by omega));have H2:=Hi h2;have G2:=Hi g2;clear h2 g2))|((with_reducible apply Gl 47);refine Fn _ ⟨w,0,none⟩ rfl [n.me,n.next,.slice A0 n.insts k0,.slice (some ⟨gL,0,none⟩) N k1] ab rfl (ag S2.o) ?_)|((with_reducible apply Gs 47);go_must (refine Fr _ (w+2) 47 0 [n.me,n.next,.slice A0 n.insts k0,.slice (some ⟨gL,0,none⟩) N k1] [] zN [] _ rfl rfl ab Z2.o rfl rfl rfl (Oc rfl) ?_;intro v5 h5 g5)));have TN:=Hi (show bf v5 gL 80 (L1++(mm++L2)).toArray from H2.o.grown g5 (by omega));obtain ⟨lz,K2,rl,Gu⟩:=ze.o v5 mm x HX.o TN.o;have dk:Step base w (.slice (some ⟨gL,0,none⟩) N k1) v5 (.slice (some ⟨gL,0,none⟩) N k1):=⟨g5.os.trans (G2.o.os.trans BW.o.os),g5.tape.trans (G2.o.tape.trans BW.o.tape),g5.output.trans (G2.o.output.trans BW.o.output),Nt BW.o.size (Nt G2.o.size g5.size),fun b hb hn=>by
   rw [g5.block b (by have:=G2.o.size;omega) (fun e=>by injection e with e;omega),G2.o.block b (by omega) (fun e=>hn (by rw [e];rfl))];exact BW.o.block b hb,.inl rfl,Fe.o⟩;have hlen:(n.leads.set k x).length=N:=by rw [length_set];exact HN.o.symm
  exact bh rfl ⟨w+2,0,none⟩ rfl [n.me,n.next,.slice A0 n.insts k0,.slice (some ⟨gL,0,none⟩) N k1] ab rfl (ag (by simpa using h5)) rfl ⟨⟨⟨n.me,n.next,n.insts,n.leads.set k x⟩,.slice (some ⟨gL,0,none⟩) N k1,_,rfl,⟨A0,k0,lz,rfl,dk.rep Oa.o,by rw [hlen];exact K2,dk.rep rl,fun v hv=>by rcases Gu v hv with h1|h1;(· exact Pw.o v h1);(· exact tL.o v h1)⟩,dk,rfl,rfl,rfl,by have e1:=HN.o;have e2:=hlen;simp only;omega,fun y hy=>List.mem_or_eq_of_mem_set hy⟩⟩
structure DW (B g:Nat) (xs:List UInt8) (w0:World) (bl:List (Nat × Nat × List Value)) (ow:List (Cs × List Value × List Nat)) (s:jE) (w:World):Prop where
 gr:w0.grownBy w (some g)
 cu:jZ B g xs s w
 gl:g<w0.heap.size
 bk:∀p∈bl,w0.heap.size≤p.1∧bf w p.1 p.2.1 p.2.2.toArray
 on:∀p∈ow,Own w w0 p.1 p.2.1 p.2.2
 nd:(bl.map (fun p=>p.1)++(ow.map (fun p=>p.2.2)).flatten).Nodup
section
variable {B g:Nat} {xs:List UInt8} {w0 w w':World} {bl:List (Nat × Nat × List Value)} {ow:List (Cs × List Value × List Nat)} {s s':jE}
theorem DW.start (hc:jZ B g xs s w):DW B g xs w [] [] s w:=
 ⟨⟨rfl,rfl,rfl,Nat.le_refl _,fun _ _ _=>rfl⟩,hc,hc.lt,fun p hp=>(by cases hp),fun p hp=>(by cases hp),nodup_nil⟩
theorem DW.gD (h:DW B g xs w0 bl ow s w) {b:Nat} (hb:b∈bl.map (fun p=>p.1)++(ow.map (fun p=>p.2.2)).flatten):w0.heap.size≤b∧b<w.heap.size:=by
 rcases List.mem_append.1 hb with hb|hb
 ·obtain ⟨p,hp,rfl⟩:=List.mem_map.1 hb;exact ⟨(h.bk p hp).1,(h.bk p hp).2.lt⟩
 ·obtain ⟨F,hF,hb⟩:=List.mem_flatten.1 hb;obtain ⟨p,hp,rfl⟩:=List.mem_map.1 hF;exact (h.on p hp).in b hb
theorem DW.bL (h:DW B g xs w0 bl ow s w) {r:Option Nat} (hc:jZ B g xs s' w') (hg:w.grownBy w' r) (hr:∀k,r=some k→k=g∨(w0.heap.size≤k∧k∉bl.map (fun p=>p.1)++(ow.map (fun p=>p.2.2)).flatten)):DW B g xs w0 bl ow s' w':=by
 have dO:∀b,b∈bl.map (fun p=>p.1)++(ow.map (fun p=>p.2.2)).flatten→some b≠r:=fun b hb e=>by
  rcases hr b e.symm with h1|⟨_,h1⟩
  ·have:=(h.gD hb).1;have:=h.gl;omega
  ·exact h1 hb
 refine ⟨⟨hg.os.trans h.gr.os,hg.tape.trans h.gr.tape,hg.output.trans h.gr.output,Nt h.gr.size hg.size,fun k hk hn=>?_⟩,hc,h.gl,fun p hp=>⟨(h.bk p hp).1,(h.bk p hp).2.bL (hg.block _ (h.bk p hp).2.lt (dO _ (List.mem_append.2 (.inl (List.mem_map.2 ⟨p,hp,rfl⟩)))))⟩,fun p hp=>(h.on p hp).bL (fun b hb=>hg.block _ ((h.on p hp).in b hb).2 (dO _ (List.mem_append.2 (.inr (List.mem_flatten.2 ⟨_,List.mem_map.2 ⟨p,hp,rfl⟩,hb⟩))))),h.nd⟩;have xt:k<w.heap.size:=Nat.lt_of_lt_of_le hk h.gr.size;refine (hg.block k xt (fun e=>?_)).trans (h.gr.block k hk hn);rcases hr k e.symm with h1|⟨h1,_⟩
 ·exact hn (by rw [h1])
 ·omega
theorem DW.call (h:DW B g xs w0 bl ow s w) (hc:jZ B g xs s' w') (hg:w.grownBy w' (some g)):DW B g xs w0 bl ow s' w':=h.bL hc hg (fun k hk=> .inl (by injection hk with hk;exact hk.symm))
theorem DW.none_ (h:DW B g xs w0 bl ow s w) (hg:w.grownBy w' none):DW B g xs w0 bl ow s w':=h.bL (h.cu.bL hg (fun k hk=>by cases hk)) hg (fun k hk=>by cases hk)
theorem DW.below (h:DW B g xs w0 bl ow s w) (hb:Below w w w'):DW B g xs w0 bl ow s w':=h.none_ ⟨hb.os,hb.tape,hb.output,hb.size,fun k hk _=>hb.block k hk⟩
theorem DW.alloc (h:DW B g xs w0 bl ow s w) (o:Obj):DW B g xs w0 bl ow s (w.alloc o):=h.none_ (bP w o)
theorem DW.drew (h:DW B g xs w0 bl ow s w):DW B g xs w0 bl ow s w.drew:=h.none_ ⟨rfl,rfl,rfl,Nat.le_refl _,fun _ _ _=>rfl⟩
theorem DW.put {b t:Nat} {L L':List Value} {l r:List (Nat × Nat × List Value)} (h:DW B g xs w0 (l++(b,t,L)::r) ow s w) (hg:w.grownBy w' (some b)) (hb:bf w' b t L'.toArray):DW B g xs w0 (l++(b,t,L')::r) ow s w':=by
 have hm:(b,t,L)∈l++(b,t,L)::r:=by simp
 have h0:=(h.bk _ hm).1;have lv:=h.gl;have nO:=h.nd;have hc:jZ B g xs s w':=h.cu.bL hg (fun k hk=>by injection hk with hk;simp only at h0;omega);have h1:DW B g xs w0 (l++r) ow s w:=by
  refine ⟨h.gr,h.cu,h.gl,fun p hp=>h.bk p ?_,h.on,?_⟩
  ·rcases List.mem_append.1 hp with hp|hp
   ·exact List.mem_append.2 (.inl hp)
   ·exact List.mem_append.2 (.inr (mem_cons_of_mem _ hp))
  ·refine List.Nodup.sublist ?_ nO;refine List.Sublist.append_right (List.Sublist.map _ ?_) _;exact List.Sublist.append_left (List.sublist_cons_self _ _) _
 have PC:b∉(l++r).map (fun p=>p.1)++(ow.map (fun p=>p.2.2)).flatten:=by
  intro hx;rw [map_append,map_cons,append_assoc,nodup_append] at nO;obtain ⟨_,n2,d⟩:=nO;rw [cons_append,nodup_cons] at n2;rw [map_append,append_assoc] at hx;rcases List.mem_append.1 hx with hx|hx
  ·exact d b hx b (by simp) rfl
  ·exact n2.1 hx
 have h2:=h1.bL hc hg (fun k hk=> .inr ⟨by injection hk with hk;rw [←hk];exact h0,by injection hk with hk;rw [←hk];exact PC⟩);refine ⟨h2.gr,h2.cu,h2.gl,fun p hp=>?_,h2.on,?_⟩
 ·rcases List.mem_append.1 hp with hp|hp
  ·exact h2.bk p (List.mem_append.2 (.inl hp))
  ·rcases List.mem_cons.1 hp with rfl|hp
   ·exact ⟨h0,hb⟩
   ·exact h2.bk p (List.mem_append.2 (.inr hp))
 ·simpa using nO
theorem DW.new (h:DW B g xs w0 bl ow s w) {b t:Nat} {L:List Value} (hg:w.grownBy w' none) (hb:w.heap.size≤b) (hk:bf w' b t L.toArray):DW B g xs w0 ((b,t,L)::bl) ow s w':=by
 have h2:=h.none_ hg;refine ⟨h2.gr,h2.cu,h2.gl,fun p hp=>?_,h2.on,?_⟩
 ·rcases List.mem_cons.1 hp with rfl|hp
  ·exact ⟨Nt h.gr.size hb,hk⟩
  ·exact h2.bk p hp
 ·rw [map_cons,cons_append,nodup_cons];refine ⟨fun hx=>?_,h.nd⟩;have:=(h.gD hx).2;simp only at this;omega
theorem DW.iW (h:DW B g xs w0 bl ow s w) (t:Nat) (L:List Value):DW B g xs w0 ((w,t,L)::bl) ow s (w.alloc (.cells L.toArray t)):=h.new (bP w _) Nr (bH w _ _)
theorem DW.cast {b b' t:Nat} {L:List Value} (h:DW B g xs w0 ((b,t,L)::bl) ow s w) (e:b=b'):DW B g xs w0 ((b',t,L)::bl) ow s w:=by subst e;exact h
theorem DW.PE (h:DW B g xs w0 bl ow s w) {r:Option Nat} {d:Cs} {cs:List Value} (hc:jZ B g xs s' w') (hg:w.grownBy w' r) (hr:r=none∨r=some g) (hm:fO w' w d cs):∃F,DW B g xs w0 bl ((d,cs,F)::ow) s' w':=by
 have h2:=h.bL hc hg (fun k hk=>by rcases hr with rfl|rfl;(· cases hk);(· injection hk with hk;exact .inl hk.symm));obtain ⟨F,hn,ho⟩:=hm;refine ⟨F,h2.gr,h2.cu,h2.gl,h2.bk,fun p hp=>?_,?_⟩
 ·rcases List.mem_cons.1 hp with rfl|hp
  ·exact ho.mono h.gr.size
  ·exact h2.on p hp
 ·have nO:=h.nd;rw [nodup_append] at nO;obtain ⟨n1,n2,d1⟩:=nO;rw [map_cons,flatten_cons,nodup_append];refine ⟨n1,List.nodup_append.2 ⟨hn,n2,fun a ha c pc e=>?_⟩,fun a ha c pc e=>?_⟩
  ·subst e;have:=(ho.in a ha).1;have:=(h.gD (List.mem_append.2 (.inr pc))).2;omega
  ·subst e;rcases List.mem_append.1 pc with pc|pc
   ·have:=(ho.in a pc).1;have:=(h.gD (List.mem_append.2 (.inl ha))).2;omega
   ·exact d1 a ha a pc rfl
theorem DW.own (h:DW B g xs w0 bl ow s w) (Sb:List (Cs × List Value × List Nat)) (ho:∀p∈Sb,Own w w0 p.1 p.2.1 p.2.2) (hs:∀b∈(Sb.map (fun p=>p.2.2)).flatten,b∈(ow.map (fun p=>p.2.2)).flatten) (hn:(Sb.map (fun p=>p.2.2)).flatten.Nodup):DW B g xs w0 bl Sb s w:=by
 refine ⟨h.gr,h.cu,h.gl,h.bk,ho,?_⟩;have nO:=h.nd;rw [nodup_append] at nO ⊢;exact ⟨nO.1,hn,fun a ha c hc e=>nO.2.2 a ha c (hs c hc) e⟩
theorem DW.set {b t:Nat} {L:List Value} {l r:List (Nat × Nat × List Value)} (h:DW B g xs w0 (l++(b,t,L)::r) ow s w) (f:Nat) (v:Value):DW B g xs w0 (l++(b,t,L.set f v)::r) ow s (w.setCell ⟨b,f,none⟩ v):=
 h.put (dG w b f v) (cI (h.bk (b,t,L) (by simp)).2 f v)
theorem DW.forget (h:DW B g xs w0 bl ow s w):DW B g xs w0 [] ow s w:=⟨h.gr,h.cu,h.gl,fun p hp=>(by cases hp),h.on,(List.nodup_append.1 h.nd).2.1⟩
theorem DW.bare (h:DW B g xs w0 bl ow s w):DW B g xs w0 [] [] s w:=⟨h.gr,h.cu,h.gl,fun p hp=>(by cases hp),fun p hp=>(by cases hp),nodup_nil⟩
theorem DW.add (h:DW B g xs w0 [] [] s w) {d:Cs} {cs:List Value} {F:List Nat} (ho:Own w w0 d cs F) (hn:F.Nodup):DW B g xs w0 [] [(d,cs,F)] s w:=
 ⟨h.gr,h.cu,h.gl,h.bk,fun p hp=>by rcases List.mem_singleton.1 hp with rfl;exact ho,by simpa using hn⟩
theorem DW.b0 {b t:Nat} {L:List Value} {l r:List (Nat × Nat × List Value)} (h:DW B g xs w0 (l++(b,t,L)::r) ow s w):bf w b t L.toArray:=(h.bk (b,t,L) (by simp)).2
theorem DW.o0 {d:Cs} {cs:List Value} {F:List Nat} {l r:List (Cs × List Value × List Nat)} (h:DW B g xs w0 bl (l++(d,cs,F)::r) s w):Own w w0 d cs F:=h.on (d,cs,F) (by simp)
theorem DW.o3 (h:DW B g xs w0 bl ow s w):(ow.map (fun p=>p.2.2)).flatten.Nodup:=(List.nodup_append.1 h.nd).2.1
end
theorem JV {α:Type} (a b c:List α) (j:Nat) (u:α) (hj:j<b.length):(a++(b++c)).set (a.length+j) u=a++(b.set j u++c):=by
 rw [List.set_append_right _ _ (by omega),Nat.add_sub_cancel_left,List.set_append_left _ _ hj]
theorem CY {α:Type} {g:α} {a b b' c:List α} (h:(g::(a++(b++c))).Nodup) (hb:b'.Nodup) (hm:∀x∈b',x∈b∨x∉g::(a++(b++c))):(g::(a++(b'++c))).Nodup:=by
 rw [nodup_cons,nodup_append,nodup_append] at h ⊢;obtain ⟨h1,h2,⟨h3,h4,h5⟩,h6⟩:=h;refine ⟨fun hx=>?_,h2,⟨hb,h4,fun x hx y hy e=>?_⟩,fun x hx y hy e=>?_⟩
 ·rcases List.mem_append.1 hx with hx|hx
  ·exact h1 (by simp [hx])
  ·rcases List.mem_append.1 hx with hx|hx
   ·rcases hm g hx with hx|hx
    ·exact h1 (by simp [hx])
    ·exact hx (by simp)
   ·exact h1 (by simp [hx])
 ·subst e;rcases hm x hx with hx|hx
  ·exact h5 x hx x hy rfl
  ·exact hx (by simp [hy])
 ·subst e;rcases List.mem_append.1 hy with hy|hy
  ·rcases hm x hy with hy|hy
   ·exact h6 x hx x (by simp [hy]) rfl
   ·exact hy (by simp [hx])
  ·exact h6 x hx x (by simp [hy]) rfl
theorem sM {w:World} {base e sz n c:Nat} {α:Type} {f:α→Cs} {xs:List α} {A:Option Addr} {F:List Nat} (hf:∀x,(f x).width=sz) (h:Own w base (.sl e sz n (cat f xs) .nil) [.slice A n c] F) (hn:n=xs.length) (nO:F.Nodup) (k:Nat) (hk:k<xs.length) :
 ∃(gA:Nat) (ci:List Value) (Fk:List Nat),A=some ⟨gA,0,none⟩∧base≤gA∧gA<w.heap.size∧gA∈F∧gA∉Fk∧Own w base (f xs[k]) ci Fk∧Fk.Nodup∧(∀b∈Fk,b∈F)∧(∀j u,ci[j]?=some u→w.cell? ⟨gA,k*sz+j,none⟩=some u)∧(∀j,w.frozen? ⟨gA,j,none⟩=false) ∧
  ∀(w2:World) (j:Nat) (u:Value) (y:α) (Oh:List Nat),j<sz→w2.heap[gA]?=(w.setCell ⟨gA,k*sz+j,none⟩ u).heap[gA]?→(∀b∈F,b∉Fk→b≠gA→w2.heap[b]?=w.heap[b]?)→Own w2 base (f y) (ci.set j u) Oh→(∀b∈Oh,b∈Fk∨b∉F)→Oh.Nodup→
   ∃F',F'.Nodup∧Own w2 base (.sl e sz n (cat f (xs.set k y)) .nil) [.slice A n c] F':=by
 obtain ⟨cells,F1,rfl,hw,hr,hi⟩:=Own.zW.1 h;have Cb:=hr;rw [lU xs k hk] at hi;obtain ⟨c1,c2,Fa,F2,rfl,rfl,h1,h2⟩:=Own.app.1 hi;obtain ⟨ci,c3,Fk,Fb,rfl,rfl,h2,h3⟩:=Own.app.1 h2;have xC:c1.length=k*sz:=by rw [h1.length,fz hf,length_take,Nat.min_eq_left (by omega)]
 have hli:ci.length=sz:=by rw [h2.length,hf]
 rcases hr.2 with ⟨_,h0⟩|⟨g,cap,cur,hv,hb,hh,_⟩
 ·omega
 ·injection hv with e1 e2 e3;subst e1 e3;have Ej:(Value.slice (some ⟨g,0,none⟩) n c).ownBlock.toList=[g]:=rfl;rw [Ej] at nO;have Hf:(g::(Fa++(Fk++Fb))).Nodup:=nO;have Zb:g∉Fk:=fun hx=>(List.nodup_cons.1 Hf).1 (by simp [hx])
  refine ⟨g,ci,Fk,rfl,hb,(Array.getElem?_eq_some_iff.1 hh).1,by rw [Ej];simp,Zb,h2,?_,fun b hb=>by rw [Ej];simp [hb],fun j u hu=>?_,fun j=>hr.frozenAt j,fun w2 j u y Oh hj kL xt K2 Gu fB=>?_⟩
  ·have:=(List.nodup_cons.1 Hf).2;exact (List.nodup_append.1 (List.nodup_append.1 this).2.1).1
  ·have F8:=(List.getElem?_eq_some_iff.1 hu).1;have dS:k*sz+j<n*sz:=by
    have h4:k*sz+sz≤n*sz:=by rw [←Nat.succ_mul];exact Nat.mul_le_mul_right _ (by omega)
    omega
   rw [hr.cellAt _ dS,←xC,List.getElem?_append_right (by omega),Nat.add_sub_cancel_left,List.getElem?_append_left F8];exact hu
  ·rw [Ej] at xt Gu;have dk:=(hr.stored (k*sz+j) u).1;rw [←xC,JV c1 ci c3 j u (by omega),xC] at dk;have rl:=aH (base':=base) dk (w':=w2) (fun b cz=>by
    have e4:b=g:=by simpa [Value.ownBlock] using cz.symm
    subst e4;exact ⟨hb,kL⟩);have cQ:=(List.nodup_cons.1 Hf).1;have gM:=(List.nodup_cons.1 Hf).2;have ha:=h1.mg (w':=w2) (base':=base) (fun b cz=>⟨(h1.in b cz).1,xt b (by simp [cz]) (fun hx=>(List.nodup_append.1 gM).2.2 b cz b (by simp [hx]) rfl) (fun e4=>cQ (by rw [←e4];simp [cz]))⟩);have hc:=h3.mg (w':=w2) (base':=base) (fun b cz=>⟨(h3.in b cz).1,xt b (by simp [cz]) (fun hx=>(List.nodup_append.1 (List.nodup_append.1 gM).2.1).2.2 b hx b cz rfl) (fun e4=>cQ (by rw [←e4];simp [cz]))⟩);refine ⟨(Value.slice (some ⟨g,0,none⟩) n c).ownBlock.toList++(Fa++(Oh++Fb)),?_,Own.zW.2 ⟨_,_,rfl,?_,rl,?_⟩⟩
   ·rw [Ej];exact CY (g:=g) (a:=Fa) (b:=Fk) (b':=Oh) (c:=Fb) Hf fB (fun x hx=>by simpa using Gu x hx)
   ·rw [fz hf,length_set,hn]
   ·rw [lU (xs.set k y) k (by simpa using hk)];refine Own.app.2 ⟨_,_,_,_,rfl,rfl,?_,Own.app.2 ⟨_,_,_,_,rfl,rfl,?_,?_⟩⟩
    ·rw [List.take_set_of_le Nr];exact ha
    ·rw [List.getElem_set_self];exact K2
    ·rw [List.drop_set_of_lt (by omega)];exact hc
structure NW (base:Nat) (w0:World) (dz:Value) (bl:List (Nat × Nat × List Value)) (w:World) (vl:Value):Prop where
 st:Step base w0 dz w vl
 bk:∀p∈bl,w0.heap.size≤p.1∧bf w p.1 p.2.1 p.2.2.toArray∧AX vl p.1
 nd:(bl.map (fun p=>p.1)).Nodup
 lo:base≤w0.heap.size
section
variable {base:Nat} {w0 w w':World} {dz vl uK:Value} {bl:List (Nat × Nat × List Value)}
theorem NW.start (hB:base≤w.heap.size) (h:∀b,vl.ownBlock=some b→base≤b):NW base w vl [] w vl:=⟨Step.refl h,fun p hp=>(by cases hp),nodup_nil,hB⟩
theorem NW.rm (w:World):NW w.heap.size w (.slice none 0 0) [] w (.slice none 0 0):=NW.start Nr (fun b hb=>by cases hb)
theorem NW.size (h:NW base w0 dz bl w vl):w0.heap.size≤w.heap.size:=h.st.size
theorem NW.dc (h:NW base w0 dz bl w vl):base≤w.heap.size:=Nt h.lo h.st.size
theorem NW.low (h:NW base w0 dz bl w vl):∀b,vl.ownBlock=some b→base≤b:=h.st.Mm h.lo
theorem NW.step (h:NW base w0 dz bl w vl) (k:Step base w vl w' uK):NW base w0 dz bl w' uK:=
 ⟨h.st.trans k,fun p hp=>⟨(h.bk p hp).1,(h.bk p hp).2.1.bL (k.block _ (h.bk p hp).2.1.lt (h.bk p hp).2.2),fun e=>by
  rcases k.row with h1|h1
  ·exact (h.bk p hp).2.2 (by rw [←h1];exact e)
  ·have h2:=h1 _ e;have h3:=(h.bk p hp).2.1.lt;omega⟩,h.nd,h.lo⟩
theorem NW.below (h:NW base w0 dz bl w vl) (hb:Below w.heap.size w w'):NW base w0 dz bl w' vl:=h.step (Step.below hb h.low)
theorem NW.alloc (h:NW base w0 dz bl w vl) (o:Obj):NW base w0 dz bl (w.alloc o) vl:=h.below (Br.alloc Nr o)
theorem NW.drew (h:NW base w0 dz bl w vl):NW base w0 dz bl w.drew vl:=h.below Br.drew
theorem NW.iW (h:NW base w0 dz bl w vl) (zh:∀b,vl.ownBlock=some b→b<w.heap.size) (t:Nat) (L:List Value):NW base w0 dz ((w.heap.size,t,L)::bl) (w.alloc (.cells L.toArray t)) vl:=by
 have h2:=h.alloc (.cells L.toArray t);refine ⟨h2.st,fun p hp=>?_,?_,h.lo⟩
 ·rcases List.mem_cons.1 hp with rfl|hp
  ·exact ⟨h.st.size,bH w _ _,fun e=>by have:=zh _ e;simp only at this;omega⟩
  ·exact h2.bk p hp
 ·rw [map_cons,nodup_cons];refine ⟨fun hx=>?_,h.nd⟩;obtain ⟨p,hp,e⟩:=List.mem_map.1 hx;have:=(h.bk p hp).2.1.lt;simp only at e;omega
theorem NW.cast {b b' t:Nat} {L:List Value} (h:NW base w0 dz ((b,t,L)::bl) w vl) (e:b=b'):NW base w0 dz ((b',t,L)::bl) w vl:=by subst e;exact h
theorem NW.put {b t:Nat} {L L':List Value} {l r:List (Nat × Nat × List Value)} (h:NW base w0 dz (l++(b,t,L)::r) w vl) (hg:w.grownBy w' (some b)) (hb:bf w' b t L'.toArray):NW base w0 dz (l++(b,t,L')::r) w' vl:=by
 have h0:=h.bk (b,t,L) (by simp);simp only at h0;have nO:=h.nd;rw [map_append,map_cons,nodup_append] at nO;obtain ⟨_,n2,d⟩:=nO;rw [nodup_cons] at n2;have dO:∀p,p∈l∨p∈r→p.1≠b:=fun p hp e=>by
  rcases hp with hp|hp
  ·exact d p.1 (List.mem_map.2 ⟨p,hp,rfl⟩) b (by simp) e
  ·exact n2.1 (List.mem_map.2 ⟨p,hp,e⟩)
 refine ⟨⟨hg.os.trans h.st.os,hg.tape.trans h.st.tape,hg.output.trans h.st.output,Nt h.st.size hg.size,fun k hk hn=>?_,h.st.row,h.st.low⟩,fun p hp=>?_,by simpa using h.nd,h.lo⟩
 ·rw [hg.block k (Nat.lt_of_lt_of_le hk h.st.size) (fun e=>by injection e with e;omega)];exact h.st.block k hk hn
 ·rcases List.mem_append.1 hp with hp|hp
  ·have h1:=h.bk p (by simp [hp]);exact ⟨h1.1,h1.2.1.bL (hg.block _ h1.2.1.lt (fun e=>by injection e with e;exact dO p (.inl hp) e)),h1.2.2⟩
  ·rcases List.mem_cons.1 hp with rfl|hp
   ·exact ⟨h0.1,hb,h0.2.2⟩
   ·have h1:=h.bk p (by simp [hp]);exact ⟨h1.1,h1.2.1.bL (hg.block _ h1.2.1.lt (fun e=>by injection e with e;exact dO p (.inr hp) e)),h1.2.2⟩
theorem NW.b0 {b t:Nat} {L:List Value} {l r:List (Nat × Nat × List Value)} (h:NW base w0 dz (l++(b,t,L)::r) w vl):bf w b t L.toArray:=(h.bk (b,t,L) (by simp)).2.1
theorem NW.set {b t:Nat} {L:List Value} {l r:List (Nat × Nat × List Value)} (h:NW base w0 dz (l++(b,t,L)::r) w vl) (f:Nat) (v:Value):NW base w0 dz (l++(b,t,L.set f v)::r) (w.setCell ⟨b,f,none⟩ v) vl:=
 h.put (dG w b f v) (cI h.b0 f v)
theorem NW.Hg {p:Nat × Nat × List Value} (h:NW base w0 dz (p::bl) w vl):NW base w0 dz bl w vl:=⟨h.st,fun q hq=>h.bk q (mem_cons_of_mem _ hq),(List.nodup_cons.1 (by simpa using h.nd)).2,h.lo⟩
theorem NW.grown {r:Option Nat} (h:NW base w0 dz bl w vl) (hg:w.grownBy w' r) (hr:∀k,r=some k→w0.heap.size≤k∧AX vl k∧∀p∈bl,p.1≠k):NW base w0 dz bl w' vl:=
 ⟨⟨
  hg.os.trans h.st.os,hg.tape.trans h.st.tape,hg.output.trans h.st.output,Nt h.st.size hg.size,fun k hk hn=>by
  rw [hg.block k (Nat.lt_of_lt_of_le hk h.st.size) (fun e=>by have:=(hr k e.symm).1;omega)];exact h.st.block k hk hn,h.st.row,h.st.low⟩,fun p hp=>⟨(h.bk p hp).1,(h.bk p hp).2.1.bL (hg.block _ (h.bk p hp).2.1.lt (fun e=>(hr _ e.symm).2.2 p hp rfl)),(h.bk p hp).2.2⟩,h.nd,h.lo⟩
theorem NW.e0 {b t:Nat} {L:List Value} {r:List (Nat × Nat × List Value)} (h:NW base w0 dz ((b,t,L)::r) w vl):bf w b t L.toArray:=NW.b0 (l:=[]) h
theorem NW.c0 {b t:Nat} {L:List Value} {r:List (Nat × Nat × List Value)} (h:NW base w0 dz ((b,t,L)::r) w vl) (f:Nat) {u:Value} (hf:L[f]?=some u):w.cell? ⟨b,f,none⟩=some u:=ah h.e0 f hf
theorem NW.e1 {p0:Nat × Nat × List Value} {b t:Nat} {L:List Value} {r:List (Nat × Nat × List Value)} (h:NW base w0 dz (p0::(b,t,L)::r) w vl):bf w b t L.toArray:=NW.b0 (l:=[p0]) h
theorem NW.c1 {p0:Nat × Nat × List Value} {b t:Nat} {L:List Value} {r:List (Nat × Nat × List Value)} (h:NW base w0 dz (p0::(b,t,L)::r) w vl) (f:Nat) {u:Value} (hf:L[f]?=some u):w.cell? ⟨b,f,none⟩=some u:=ah h.e1 f hf
theorem NW.e2 {p0 p1:Nat × Nat × List Value} {b t:Nat} {L:List Value} {r:List (Nat × Nat × List Value)} (h:NW base w0 dz (p0::p1::(b,t,L)::r) w vl):bf w b t L.toArray:=NW.b0 (l:=[p0,p1]) h
theorem NW.c2 {p0 p1:Nat × Nat × List Value} {b t:Nat} {L:List Value} {r:List (Nat × Nat × List Value)} (h:NW base w0 dz (p0::p1::(b,t,L)::r) w vl) (f:Nat) {u:Value} (hf:L[f]?=some u):w.cell? ⟨b,f,none⟩=some u:=ah h.e2 f hf
end
theorem oD {w:World} {base e size n b f:Nat} {v u:Value} {l:List Value} (h:w.ownsRow base e size v n l) (hb:v.ownBlock≠some b):(w.setCell ⟨b,f,none⟩ u).ownsRow base e size v n l:=
 aH h (fun k hk=>⟨(h.lt k hk).1,Below.heap_setCell _ _ _ _ (fun e=>hb (by rw [hk];have e2:k=b:=e;rw [e2]))⟩)
theorem qf {w w':World} {base e size n:Nat} {v:Value} {l:List Value} (h:w.ownsRow base e size v n l) (hb:Below w.heap.size w w'):w'.ownsRow base e size v n l:=
 aH h (fun k hk=>⟨(h.lt k hk).1,hb.block k (h.lt k hk).2⟩)
theorem iB {w w':World} {base e size n:Nat} {v:Value} {l:List Value} {r:Option Nat} (h:w.ownsRow base e size v n l) (hg:w.grownBy w' r) (hb:∀k,r=some k→v.ownBlock≠some k):w'.ownsRow base e size v n l:=
 aH h (fun k hk=>⟨(h.lt k hk).1,hg.block k (h.lt k hk).2 (fun e=>hb k e.symm hk)⟩)
theorem dK.sN {w:World} {base:Nat} {X:List Nat} {n:aY} {vl:Value} {cs:List Value} (h:dK w base X n vl cs):∀b,vl.ownBlock=some b→b<w.heap.size:=fun b hb=>by
 obtain ⟨_,_,_,_,_,ho,_⟩:=h.out;exact (ho.lt b hb).2
theorem dK.insts {w:World} {base:Nat} {X:List Nat} {n:aY} {vl:Value} {cs:List Value} (h:dK w base X n vl cs) {l:List ak} {A2:Option Addr} {k2:Nat} (hl:aM (okB X vl) w (.sl 106 16 l.length (cat ak.c l) .nil) [.slice A2 l k2]) (next:Int) :
 dK w base X ⟨n.me,next,l,n.leads⟩ vl [n.me,next,.slice A2 l k2,vl]:=by
 obtain ⟨A,k,cells,rfl,h1,h2,h3,h4⟩:=h.out;exact ⟨A2,k2,cells,rfl,hl,h2,h3,h4⟩
theorem dK.put {w w':World} {base b:Nat} {X:List Nat} {n:aY} {vl:Value} {cs:List Value} (h:dK w base X n vl cs) (hX:b∈X) (hv:AX vl b) (hg:w.grownBy w' (some b)):dK w' base X n vl cs:=by
 obtain ⟨A,k,cells,rfl,h1,h2,h3,h4⟩:=h.out;have hk:∀c,okB X vl c→c<w.heap.size→okB X vl c∧w'.heap[c]?=w.heap[c]?:=fun c hc hl=>⟨hc,hg.block c hl (fun e=>by injection e with e;exact hc.2 (by rw [e];exact hX))⟩
 exact ⟨A,k,cells,rfl,h1.dt hg.size hk,iB h2 hg (fun k hk=>by injection hk with hk;rw [←hk];exact hv),h3.dt hg.size hk,h4⟩
theorem dK.more {w:World} {base:Nat} {X Y:List Nat} {n:aY} {vl:Value} {cs:List Value} (h:dK w base X n vl cs) (hY:∀b∈Y,b∈X∨w.heap.size≤b):dK w base Y n vl cs:=by
 obtain ⟨A,k,cells,rfl,h1,h2,h3,h4⟩:=h.out;have hk:∀c,okB X vl c→c<w.heap.size→okB Y vl c∧w.heap[c]?=w.heap[c]?:=fun c hc hl=>⟨⟨hc.1,fun hm=>by
  rcases hY c hm with h4|h4
  ·exact hc.2 h4
  ·omega⟩,rfl⟩
 exact ⟨A,k,cells,rfl,h1.dt Nr hk,h2,h3.dt Nr hk,h4⟩
theorem gZ {ops:Array Oper} {rest:List Oper} {o:Oper} {a:Act} {w:World} {Q:Exit→Act→World→Prop} (hg:o.guard=none) (x:Operand) (ho:o.op = .buildSlice 85 1 #[(0,x)]) (cs:List Value) (hl:cs.length=19) (hx:a.eval x = .agg cs.toArray)
 (h:wpList Tryz.prog ops Q rest (a.put o.dst (.slice (some ⟨w,0,none⟩) 1 1)) (w.alloc (.cells cs.toArray 31))):wpList Tryz.prog ops Q (o::rest) a w:=by
 obtain ⟨ie,I4⟩:∃ie,Tryz.prog.info? 31=some ie:=by
  have:=yZ.hi;cases hh:Tryz.prog.info? 31 with
  |none=>rw [hh] at this;cases this
  |some ie=>exact ⟨ie,rfl⟩
 have hi:=yZ.hi;rw [I4] at hi;simp only [Option.map_some,Option.some.injEq,Prod.mk.injEq] at hi;obtain ⟨hz,hs,_⟩:=hi;refine wpList_buildSlice hg 85 31 1 _ ho cs.toArray ie _ yZ.ht I4 hz (by rw [hs];decide) (by rw [hs];decide) ?_ h;rw [hs];have e:(Array.map (fun (x:Nat × Operand)=>(x.1,a.eval x.2)) #[(0,x)]).toList=[(0,.agg cs.toArray)]:=by
  simp [hx]
 show Instr.fill _ _ (Array.map (fun (x:Nat × Operand)=>(x.1,a.eval x.2)) #[(0,x)]).toList=_;rw [e];exact tJ _ _ 19 hl (by simp)
theorem dL {w:World} {g e m:Nat} {L1 E L2:List Value} (h:bf w g e (L1++(E++L2)).toArray) (hm:L1.length=m):∀j v,E[j]?=some v→w.cell? ((⟨g,m,none⟩:Addr).add j)=some v:=fun j v hv=>by
 rw [Aab];exact DP h hm hv
theorem wB {w:World} {g e:Nat} {L E r:List Value} (f:Nat) (hb:bf w g e L.toArray) (hd:L.drop f=E++r) (hE:E≠[]):∀j v,E[j]?=some v→w.cell? ((⟨g,f,none⟩:Addr).add j)=some v:=
 have hf:f≤L.length:=Nat.le_of_not_lt fun h=>hE (by rw [List.drop_of_length_le (Nat.le_of_lt h)] at hd;exact (List.append_eq_nil_iff.1 hd.symm).1)
 dL (L1:=L.take f) (E:=E) (L2:=r) (by rw [←hd,take_append_drop];exact hb) (by rw [length_take];omega)
theorem bQ {P:Program} {w:World} {ops:Array Oper} {rest:List Oper} {a:Act} {Q:Exit→Act→World→Prop} {t ty:TypeId} {x:Operand} {ps:String} {af:Array Edge} {dst:Option Tmp} {g e:Nat} {L r:List Value} {u0 u1:Value} (hb:bf w g e L.toArray) (f:Nat) (h:nV P t 2) (hd:L.drop f=u0::u1::r) (hx:a.eval x = .pointer (some ⟨g,f,none⟩))
 (hK:wpList P ops Q rest (a.put dst (.agg [u0,u1].toArray)) w):wpList P ops Q ({dst:=dst,op:=Op.load t x,type:=ty,pos:=ps,after:=af,guard:=none}::rest) a w:=
 Fn w ⟨g,f,none⟩ hx [u0,u1] h rfl (wB f hb hd (by simp)) hK
theorem iC {P:Program} {w:World} {ops:Array Oper} {rest:List Oper} {a:Act} {Q:Exit→Act→World→Prop} {t ty:TypeId} {x:Operand} {ps:String} {af:Array Edge} {dst:Option Tmp} {g e:Nat} {L r:List Value} {u0 u1 u2 u3 u4 u5 u6 u7:Value} (hb:bf w g e L.toArray) (f:Nat) (h:nV P t 8) (hd:L.drop f=u0::u1::u2::u3::u4::u5::u6::u7::r) (hx:a.eval x = .pointer (some ⟨g,f,none⟩))
 (hK:wpList P ops Q rest (a.put dst (.agg [u0,u1,u2,u3,u4,u5,u6,u7].toArray)) w):wpList P ops Q ({dst:=dst,op:=Op.load t x,type:=ty,pos:=ps,after:=af,guard:=none}::rest) a w:=
 Fn w ⟨g,f,none⟩ hx [u0,u1,u2,u3,u4,u5,u6,u7] h rfl (wB f hb hd (by simp)) hK
theorem rn (me:Int) (v1 v2 v3:Value) (m:aV) (mz:List Value) (w:World) (eC:m.c.wt≤1048576) (h':aM bM w m.c mz) :
 Calls Tryz.prog 79 #[.agg #[me,v1,v2,v3],.agg mz.toArray] w fun e w'=>∃A q k,e = .returned (.slice A q k)∧Below w w w':=by
 have lp:m.c.wt=(m.cmd.set.length+(m.cmd.name.length+(m.cmd.tag.length+(m.cmd.chunks.length+(cat cN m.cmd.chunks).wt+(m.al.length+(cat aX.c m.al).wt+0))))):=rfl;have nM:m.cmd.c.wt≤1048576:=by have e0:m.cmd.c.wt=m.cmd.set.length+(m.cmd.name.length+(m.cmd.tag.length+(m.cmd.chunks.length+(cat cN m.cmd.chunks).wt+0))):=rfl;omega
 have o6:m.al.length≤1048576:=by omega
 clear lp eC;obtain ⟨Ac,kc,Ad,kd,rfl,s0,s1⟩:=aV.open h';have Mw:=Hi (show aM bM w m.cmd.c (rC m.cmd Ac kc) from aR.shut s0);obtain ⟨ids,dH,bZ,E7⟩:=s1.row;have nz:=Hi dH;have gP:=Hi bZ.one;clear dH bZ E7 h' s0 s1;have D:=Hi ((((NW.rm w).iW (fun b hb=>by cases hb) 47 [me,v1,v2,v3]).iW (fun b hb=>by cases hb) 31 (rM m Ac kc Ad kd)).cast (b':=w.heap.size+1) (by simp));go_enter Tryz.func79,Tryz.ntmps79;go_wp2;go_loopw [5,6] (fun oo ii wr=>∃(j q:Nat) (A':Option Addr) (k':Nat) (cells:List Value),j≤3∧q≤j∧oo = .slice A' q k'∧ii = .int .i64 (j:Int)∧wr.ownsRow (w+2) 31 19 (.slice A' q k') q cells∧NW w w (.slice none 0 0) [(w+1,31,(rM m Ac kc Ad kd)),(w,47,[me,v1,v2,v3])] wr (.slice none 0 0)) (fun _ ii _=>3-(intOf ii).toNat);case atStart=>
  refine ⟨0,0,some ⟨w+2,0,none⟩,0,[],Nat.zero_le _,Nat.le_refl _,rfl,rfl,?_,D.o.alloc _⟩;have h1:=World.ownsRow_made (base:=w.heap.size+2) (size:=19) (e:=31) ((w.alloc (.cells #[me,v1,v2,v3] 47)).alloc (.cells (rM m Ac kc Ad kd) 31)) #[] 0 (by simp) (by simp [maxLen]) rfl;simpa using h1
 case round=>
  obtain ⟨j,q,A',k',cells,hj,xJ,rfl,rfl,bg,hD⟩:=hrel;clear D;have D:=Hi hD;clear hD;have HO:=Hi bg;clear bg;have c0:=D.o.c1 0 rfl;by_cases dS:j<3
  ·have qe:(j:Int)<3:=by omega
   by_cases kD:(j:Int)=me
   ·subst kD;go_wp2;exact ⟨⟨j+1,q,A',k',cells,by omega,by omega,rfl,by go_num,HO.o,D.o⟩,by simp only [intOf];omega⟩
   ·have d1:((j:Int) == me)=false:=by simp only [beq_eq_false_iff_ne];exact kD
    have HME:=Hi kD;clear kD;obtain ⟨bx,xM⟩:∃b,b=wr.heap.size:=⟨_,rfl⟩;have eW:=Hi xM;clear xM;go_wp2_with (first|((with_reducible apply Gl 31);refine Fn _ ⟨w+1,0,none⟩ rfl (rM m Ac kc Ad kd) az rfl (ag D.o.e0) ?_)|((with_reducible apply Gs 31);rw [←eW.o];go_must (refine Fr _ bx 31 0 (rM m Ac kc Ad kd) [] zM [] _ rfl rfl az (by rw [eW.o];exact bH wr _ _) rfl rfl rfl (Oc rfl) ?_;intro x1 aD hg;have G1:=Hi hg;have D1:=Hi (show NW w w (.slice none 0 0) ((bx,31,(rM m Ac kc Ad kd))::[(w+1,31,(rM m Ac kc Ad kd)),(w,47,[me,v1,v2,v3])]) x1 (.slice none 0 0) from NW.put (l:=[]) ((D.o.iW (fun b hb=>by cases hb) 31 zM).cast eW.o.symm) hg (by simpa using aD));clear aD hg;have n0:=D1.o.c2 0 rfl;have c1:=D1.o.c0 1 rfl;have f1:=(D1.o.e0).frozen 1;have D2:=Hi (show NW w w (.slice none 0 0) ((bx,31,[m.kind,me,m.to,m.id.rep,m.id.slot,m.aS,m.cmd.kind,m.cmd.aE,m.cmd.no,m.cmd.set,m.cmd.name,m.cmd.tag,m.cmd.n,.slice Ac m.cmd.chunks kc,m.seq,.slice Ad m.al kd,m.status,m.bB,m.same])::[(w+1,31,(rM m Ac kc Ad kd)),(w,47,[me,v1,v2,v3])]) (x1.setCell ⟨bx,1,none⟩ (.int .i64 me)) (.slice none 0 0) from D1.o.set (l:=[]) 1 _);have c2:=D2.o.c0 2 rfl;have f2:=(D2.o.e0).frozen 2;have D3:=Hi (show NW w w (.slice none 0 0) ((bx,31,[m.kind,me,(j:Int),m.id.rep,m.id.slot,m.aS,m.cmd.kind,m.cmd.aE,m.cmd.no,m.cmd.set,m.cmd.name,m.cmd.tag,m.cmd.n,.slice Ac m.cmd.chunks kc,m.seq,.slice Ad m.al kd,m.status,m.bB,m.same])::[(w+1,31,(rM m Ac kc Ad kd)),(w,47,[me,v1,v2,v3])]) ((x1.setCell ⟨bx,1,none⟩ (.int .i64 me)).setCell ⟨bx,2,none⟩ (.int .i64 (j:Int))) (.slice none 0 0) from D2.o.set (l:=[]) 2 _);have Pe:=D3.o.c0 17 rfl;have f17:=(D3.o.e0).frozen 17;have D4:=Hi (show NW w w (.slice none 0 0) ((bx,31,[m.kind,me,(j:Int),m.id.rep,m.id.slot,m.aS,m.cmd.kind,m.cmd.aE,m.cmd.no,m.cmd.set,m.cmd.name,m.cmd.tag,m.cmd.n,.slice Ac m.cmd.chunks kc,m.seq,.slice Ad m.al kd,m.status,.int .i64 (-1),m.same])::[(w+1,31,(rM m Ac kc Ad kd)),(w,47,[me,v1,v2,v3])]) (((x1.setCell ⟨bx,1,none⟩ (.int .i64 me)).setCell ⟨bx,2,none⟩ (.int .i64 (j:Int))).setCell ⟨bx,17,none⟩ (.int .i64 (-1))) (.slice none 0 0) from D3.o.set (l:=[]) 17 _)))|((with_reducible apply Gl 28);refine iC D4.o.e1 6 aN rfl rfl ?_));have Zc:=Hi (show w.heap.size+2≤bx from by have h1:=eW.o;have h2:=(D.o.e0).lt;omega);have Oi:=Hi (show (Value.slice A' q k').ownBlock≠some bx from fun e=>by have h1:=(HO.o.lt _ e).2;have h2:=eW.o;omega);have I1:=Hi (iB (HO.o.alloc (.cells zM 31)) G1.o (fun k hk=>by injection hk with hk;rw [←hk];exact Oi.o));have lE:=Hi (show (((x1.setCell ⟨bx,1,none⟩ (.int .i64 me)).setCell ⟨bx,2,none⟩ (.int .i64 (j:Int))).setCell ⟨bx,17,none⟩ (.int .i64 (-1))).ownsRow (w+2) 31 19 (.slice A' q k') q cells from oD (oD (oD I1.o Oi.o) Oi.o) Oi.o);clear HO I1;refine (cF m.cmd (rC m.cmd Ac kc) _ nM (Mw.o.below (D4.o.st.toBelow Nr))).mono ?_;rintro e x4 ⟨dE,rfl,hM,hb⟩;obtain ⟨F1,KS,o1⟩:=hM;obtain ⟨A2,k2,F2,rfl,-,-⟩:=aR.j8 o1;clear o1 KS;have D5:=Hi (D4.o.below hb);have F9:=Hi (qf lE.o hb);clear hb n0 c1 f1 c2 f2 Pe f17 D1 D2 D3 D4 lE G1 D c0;go_wp2_with (first
     |((with_reducible apply Gs 28);go_must (refine Fr _ bx 31 6 (rC m.cmd A2 k2) [m.kind,me,(j:Int),m.id.rep,m.id.slot,m.aS] (rC m.cmd Ac kc) [m.seq,.slice Ad m.al kd,m.status,.int .i64 (-1),m.same] _ rfl rfl aN D5.o.e0 rfl rfl rfl (Oc rfl) ?_;intro x5 aD hg;have D6:=Hi (show NW w w (.slice none 0 0) ((bx,31,[m.kind,me,(j:Int),m.id.rep,m.id.slot,m.aS,m.cmd.kind,m.cmd.aE,m.cmd.no,m.cmd.set,m.cmd.name,m.cmd.tag,m.cmd.n,.slice A2 m.cmd.chunks k2,m.seq,.slice Ad m.al kd,m.status,.int .i64 (-1),m.same])::[(w+1,31,(rM m Ac kc Ad kd)),(w,47,[me,v1,v2,v3])]) x5 (.slice none 0 0) from D5.o.put (l:=[]) hg (by simpa using aD));have WA:=Hi (iB F9.o hg (fun k hk=>by injection hk with hk;rw [←hk];exact Oi.o));clear aD hg;have HE:=Hi (show (x5.alloc (.cells #[] 25)).ownsRow x5 25 2 (.slice (some ⟨x5,0,none⟩) 0 0) 0 [] from by have h1:=World.ownsRow_made (base:=x5) (size:=2) (e:=25) x5 #[] 0 Nr (by simp [maxLen]) rfl;simpa using h1);have m15:(x5.alloc (.cells #[] 25)).cell? ⟨w+1,15,none⟩=some (.slice Ad m.al kd):=ah ((D6.o.alloc _).b0 (l:=[_])) 15 rfl))
     |((with_reducible apply Gl 31);refine Fn _ ⟨bx,0,none⟩ rfl [m.kind,me,(j:Int),m.id.rep,m.id.slot,m.aS,m.cmd.kind,m.cmd.aE,m.cmd.no,m.cmd.set,m.cmd.name,m.cmd.tag,m.cmd.n,.slice A2 m.cmd.chunks k2,m.seq,.slice cr m.al cm,m.status,.int .i64 (-1),m.same] az rfl (ag D7.o.e0) ?_)
     |((with_reducible show wpList _ _ _ ({dst:=_,op:=Op.buildSlice _ 1 _,type:=_,pos:=_,after:=_,guard:=_}::_) _ _);go_must (refine gZ rfl (.tmp 34) rfl [m.kind,me,(j:Int),m.id.rep,m.id.slot,m.aS,m.cmd.kind,m.cmd.aE,m.cmd.no,m.cmd.set,m.cmd.name,m.cmd.tag,m.cmd.n,.slice A2 m.cmd.chunks k2,m.seq,.slice cr m.al cm,m.status,.int .i64 (-1),m.same] rfl rfl ?_))
     |(at_builtin;refine aB yZ _ rfl _ _ rfl (w+2) _ q cells rfl (JW.o.alloc _) _ _ _ _ rfl (Reads.new (e:=31) rfl) (Oc rfl) (by omega) (by have h2:=Zd.o;first|(simp;done)|(simp;omega)|omega) ?_;intro vy x8 pG K4 CZ;obtain ⟨ly,kQ,rfl,_⟩:=eD.bd pG;have O8:=Hi pG;have D8:=Hi ((D7.o.Hg.alloc (.cells #[m.kind,me,(j:Int),m.id.rep,m.id.slot,m.aS,m.cmd.kind,m.cmd.aE,m.cmd.no,m.cmd.set,m.cmd.name,m.cmd.tag,m.cmd.n,.slice A2 m.cmd.chunks k2,m.seq,.slice cr m.al cm,m.status,.int .i64 (-1),m.same] 31)).grown K4 (fun k hk=>⟨by have:=(JW.o.lt k hk).1;omega,(fun e=>by cases e),(fun p hp e=>by have h7:=(JW.o.lt k hk).1;simp only [mem_cons,not_mem_nil,or_false] at hp;rcases hp with rfl|rfl;(· have e2:w.heap.size+1=k:=e;omega);(· have e2:w.heap.size=k:=e;omega))⟩));clear pG K4 CZ)
     |(at_builtin;go_must (refine aB fp _ rfl _ _ rfl x5 _ 0 _ rfl HE.o _ _ _ ids rfl (nz.o.below ((D6.o.alloc (.cells #[] 25)).st.toBelow Nr)) gP.o (by omega) (by simp) ?_;intro vx x6 aU et ct;obtain ⟨cr,cm,rfl,_⟩:=eD.bd aU;have Sc:=Hi ((D6.o.alloc (.cells #[] 25)).grown et (fun k hk=>by injection hk with hk;have e2:x5.heap.size=k:=hk;exact ⟨by have:=D6.o.size;omega,(fun e=>by cases e),(fun p hp e=>by have h7:=(D6.o.bk p hp).2.1.lt;omega)⟩));have PF:=Hi (show x6.ownsRow (w+2) 31 19 (.slice A' q k') q cells from iB (WA.o.alloc _) et (fun k hk e=>by injection hk with hk;have e2:x5.heap.size=k:=hk;have h7:=(WA.o.lt _ e).2;omega));clear aU et ct;have DS:=Sc.o.c0 15 rfl;have f15:=(Sc.o.e0).frozen 15;have D7:=Hi (show NW w w (.slice none 0 0) ((bx,31,[m.kind,me,(j:Int),m.id.rep,m.id.slot,m.aS,m.cmd.kind,m.cmd.aE,m.cmd.no,m.cmd.set,m.cmd.name,m.cmd.tag,m.cmd.n,.slice A2 m.cmd.chunks k2,m.seq,.slice cr m.al cm,m.status,.int .i64 (-1),m.same])::[(w+1,31,(rM m Ac kc Ad kd)),(w,47,[me,v1,v2,v3])]) (x6.setCell ⟨bx,15,none⟩ (.slice cr m.al cm)) (.slice none 0 0) from Sc.o.set (l:=[]) 15 (.slice cr m.al cm));have JW:=Hi (show (x6.setCell ⟨bx,15,none⟩ (.slice cr m.al cm)).ownsRow (w+2) 31 19 (.slice A' q k') q cells from oD PF.o Oi.o);have Zd:=Hi (show w.heap.size+2≤x6.heap.size from by have h1:=Zc.o;have h2:=Sc.o.e0 |>.lt;omega)))
     |fail);exact ⟨⟨j+1,q+1,ly,kQ,cells++[.int .i64 m.kind,.int .i64 me,.int .i64 (j:Int),.int .i64 m.id.rep,.int .i64 m.id.slot,.int .i64 m.aS,.int .i64 m.cmd.kind,.int .i64 m.cmd.aE,.int .i64 m.cmd.no,.string (bs m.cmd.set),.string (bs m.cmd.name),.string (bs m.cmd.tag),.int .i64 m.cmd.n,.slice A2 m.cmd.chunks k2,.int .i64 m.seq,.slice cr m.al cm,.int .i64 m.status,.int .i64 (-1),.bool m.same],by omega,by omega,rfl,by go_num,O8.o,D8.o⟩,by simp only [intOf];omega⟩
  ·have qe:¬(j:Int)<3:=by omega
   go_wp2;go_ret;exact ⟨⟨A',q,k',au rfl⟩,D.o.st.toBelow Nr⟩
theorem bS (x:ak):x.c.wt=x.cmd.c.wt+x.al.length:=by
 have e1:x.c.wt=x.cmd.set.length+(x.cmd.name.length+(x.cmd.tag.length+(x.cmd.chunks.length+(cat cN x.cmd.chunks).wt+(x.al.length+(cat aX.c x.al).wt+0)))):=rfl;have e2:x.cmd.c.wt=x.cmd.set.length+(x.cmd.name.length+(x.cmd.tag.length+(x.cmd.chunks.length+(cat cN x.cmd.chunks).wt+0))):=rfl;have e3:=pZ x.al;omega
theorem nQ (me:Int) (v1 v2 v3:Value) (kind aS:Int) (x:ak) (mm:List Value) (w:World) (eC:x.c.wt≤1048576) (h':aM bM w x.c mm) :
 Calls Tryz.prog 76 #[.agg #[me,v1,v2,v3],.int .i64 kind,.agg mm.toArray,.int .i64 aS] w fun e w'=>(∃A q k,e = .returned (.slice A q k))∧Below w w w':=by
 have pH:(aV.mk kind 0 0 x.id aS x.cmd x.seq x.al 0 0 false).c.wt≤1048576:=by rw [fw];rw [bS] at eC;exact eC
 obtain ⟨Ac,kc,Ad,kd,rfl,s0,s1⟩:=ak.open h';have PG:aM bM w (aV.mk kind 0 0 x.id aS x.cmd x.seq x.al 0 0 false).c [kind,cO,cO,x.id.rep,x.id.slot,aS,x.cmd.kind,x.cmd.aE,x.cmd.no,x.cmd.set,x.cmd.name,x.cmd.tag,x.cmd.n,.slice Ac x.cmd.chunks kc,x.seq,.slice Ad x.al kd,cO,cO,false]:=aV.shut (x:=aV.mk kind 0 0 x.id aS x.cmd x.seq x.al 0 0 false) s0 s1;have Ze:=Hi PG;clear PG h' s0 s1 eC;have D:=Hi ((((NW.rm w).iW (fun b hb=>by cases hb) 47 [me,v1,v2,v3]).iW (fun b hb=>by cases hb) 106 (rI x Ac kc Ad kd)).cast (b':=w.heap.size+1) (by simp));have NZ:=D.o.c0 13 rfl;have Jw:=D.o.c0 14 rfl;have HB:=Hi (D.o.st.toBelow Nr);go_enter Tryz.func76,Tryz.ntmps76;go_wp2_with (first|((with_reducible apply Gl 47);refine Fn _ ⟨w,0,none⟩ rfl [me,v1,v2,v3] ab rfl (ag D.o.e1) ?_)|((with_reducible apply Gl 25);refine bQ D.o.e0 0 aC rfl rfl ?_)|((with_reducible apply Gl 28);refine iC D.o.e0 5 aN rfl rfl ?_));refine (rn me v1 v2 v3 _ _ _ pH (Ze.o.below HB.o)).mono ?_;rintro e w2 ⟨A,q,k,rfl,hb⟩;have H2:=Hi (HB.o.trans (hb.mono HB.o.size));clear hb;go_wp2;go_ret;exact ⟨⟨A,q,k,au rfl⟩,H2.o⟩
theorem fO.fresh {w:World} {base:Nat} {d:Cs} {cs:List Value} (h:fO w base d cs):aM (fun b=>base≤b) w d cs:=by
 obtain ⟨F,_,ho⟩:=h;exact ho.rep.mono (fun b hb=>(ho.in b hb).1)
structure Hh (base:Nat) (X:List Nat) (vl:Value) (w:World) (i j K:Nat) (e:Ending) (w':World):Prop where
 out:∃(n':aY) (uK:Value) (dE:List Value) (A:Option Addr) (q k:Nat),e = .returned (.tuple #[.agg dE.toArray,.slice A q k])∧dK w' base X n' uK dE∧Step base w vl w' uK∧Fair i j K n'
structure pI (base:Nat) (X:List Nat) (vl:Value) (w:World) (i j K:Nat) (e:Ending) (w':World):Prop where
 out:∃(n':aY) (uK:Value) (dE:List Value) (A:Option Addr) (q k:Nat) (b:Bool),e = .returned (.tuple #[.agg dE.toArray,.slice A q k,.bool b])∧dK w' base X n' uK dE∧Step base w vl w' uK∧Fair i j K n'
structure NX (base:Nat) (X:List Nat) (w0:World) (dz:Value) (bl:List (Nat × Nat × List Value)) (R:List (Cs × List Value)) (n:aY) (cs:List Value) (w:World) (vl:Value):Prop where
 nw:NW base w0 dz bl w vl
 node:dK w base (bl.map (fun p=>p.1)++X) n vl cs
 lA:∀r∈R,aM (okB (bl.map (fun p=>p.1)++X) vl) w r.1 r.2
 low:∀b∈X,b<w0.heap.size
section
variable {base:Nat} {X:List Nat} {w0 w w':World} {dz vl uK:Value} {bl:List (Nat × Nat × List Value)} {R:List (Cs × List Value)} {n n':aY} {cs dE:List Value}
theorem NX.start (hB:base≤w.heap.size) (hX:∀b∈X,b<w.heap.size) (h:dK w base X n vl cs) (hR:∀r∈R,aM (okB X vl) w r.1 r.2):NX base X w vl [] R n cs w vl:=
 ⟨NW.start hB h.low,h,hR,hX⟩
theorem NX.iD (h:NX base X w0 dz bl R n cs w vl):∀b∈bl.map (fun p=>p.1)++X,b<w.heap.size:=fun b hb=>by
 rcases List.mem_append.1 hb with hb|hb
 ·obtain ⟨p,hp,rfl⟩:=List.mem_map.1 hb;exact (h.nw.bk p hp).2.1.lt
 ·exact Nat.lt_of_lt_of_le (h.low b hb) h.nw.size
theorem NX.below (h:NX base X w0 dz bl R n cs w vl) (hb:Below w.heap.size w w'):NX base X w0 dz bl R n cs w' vl:=
 ⟨h.nw.below hb,h.node.below hb,fun r hr=>(h.lA r hr).below hb,h.low⟩
theorem NX.alloc (h:NX base X w0 dz bl R n cs w vl) (o:Obj):NX base X w0 dz bl R n cs (w.alloc o) vl:=h.below (Br.alloc Nr o)
theorem NX.drew (h:NX base X w0 dz bl R n cs w vl):NX base X w0 dz bl R n cs w.drew vl:=h.below Br.drew
theorem NX.iW (h:NX base X w0 dz bl R n cs w vl) (t:Nat) (L:List Value):NX base X w0 dz ((w.heap.size,t,L)::bl) R n cs (w.alloc (.cells L.toArray t)) vl:=by
 have hk:∀c,okB (bl.map (fun p=>p.1)++X) vl c→c<w.heap.size→okB (((w.heap.size,t,L)::bl).map (fun p=>p.1)++X) vl c∧(w.alloc (.cells L.toArray t)).heap[c]?=w.heap[c]?:=fun c hc hl=>
  ⟨⟨
   hc.1,fun hm=>by
   rw [map_cons,cons_append,mem_cons] at hm;rcases hm with hm|hm
   ·simp only at hm;omega
   ·exact hc.2 hm⟩,((Below.refl w.heap.size w).alloc Nr (.cells L.toArray t)).block c hl⟩
 obtain ⟨A,k,cells,rfl,h1,h2,h3,h4⟩:=h.node.out;exact ⟨h.nw.iW h.node.sN t L,⟨A,k,cells,rfl,h1.dt (by simp) hk,qf h2 (Br.alloc Nr _),h3.dt (by simp) hk,h4⟩,fun r hr=>(h.lA r hr).dt (by simp) hk,h.low⟩
theorem NX.cast {b b' t:Nat} {L:List Value} (h:NX base X w0 dz ((b,t,L)::bl) R n cs w vl) (e:b=b'):NX base X w0 dz ((b',t,L)::bl) R n cs w vl:=by subst e;exact h
theorem NX.new {b:Nat} (h:NX base X w0 dz bl R n cs w vl) (e:w.heap.size=b) (t:Nat) (L:List Value):NX base X w0 dz ((b,t,L)::bl) R n cs (w.alloc (.cells L.toArray t)) vl:=(h.iW t L).cast e
theorem NX.put {b t:Nat} {L L':List Value} {l r:List (Nat × Nat × List Value)} (h:NX base X w0 dz (l++(b,t,L)::r) R n cs w vl) (hg:w.grownBy w' (some b)) (hb:bf w' b t L'.toArray):NX base X w0 dz (l++(b,t,L')::r) R n cs w' vl:=by
 have e:(l++(b,t,L')::r).map (fun p=>p.1)++X=(l++(b,t,L)::r).map (fun p=>p.1)++X:=by simp
 have hm:b∈(l++(b,t,L)::r).map (fun p=>p.1)++X:=by simp
 refine ⟨h.nw.put hg hb,?_,fun q hq=>?_,h.low⟩
 ·rw [e];exact h.node.put hm (h.nw.bk (b,t,L) (by simp)).2.2 hg
 ·rw [e];exact (h.lA q hq).dt hg.size (fun c hc hl=>⟨hc,hg.block c hl (fun e2=>by injection e2 with e2;exact hc.2 (by rw [e2];exact hm))⟩)
theorem NX.set {b t:Nat} {L:List Value} {l r:List (Nat × Nat × List Value)} (h:NX base X w0 dz (l++(b,t,L)::r) R n cs w vl) (f:Nat) (v:Value):NX base X w0 dz (l++(b,t,L.set f v)::r) R n cs (w.setCell ⟨b,f,none⟩ v) vl:=
 h.put (dG w b f v) (cI (h.nw.bk (b,t,L) (by simp)).2.1 f v)
theorem NX.b0 {b t:Nat} {L:List Value} {l r:List (Nat × Nat × List Value)} (h:NX base X w0 dz (l++(b,t,L)::r) R n cs w vl):bf w b t L.toArray:=h.nw.b0
theorem NX.fresh {d:Cs} {ds:List Value} (h:NX base X w0 dz bl R n cs w vl) (hb:Below w.heap.size w w') (hr:aM (fun b=>w.heap.size≤b) w' d ds):NX base X w0 dz bl ((d,ds)::R) n cs w' vl:=by
 have h2:=h.below hb;refine ⟨h2.nw,h2.node,fun r rl=>?_,h.low⟩;rcases List.mem_cons.1 rl with rfl|rl
 ·exact hr.mono (fun b h3=>⟨fun e=>by have:=h.node.sN b e;omega,fun hm=>by have:=h.iD b hm;omega⟩)
 ·exact h2.lA r rl
theorem NX.ji {d:Cs} {ds:List Value} (h:NX base X w0 dz bl R n cs w vl) (hb:Below w.heap.size w w') (hr:aM (fun b=>okB (bl.map (fun p=>p.1)++X) vl b∨w.heap.size≤b) w' d ds):NX base X w0 dz bl ((d,ds)::R) n cs w' vl:=by
 have h2:=h.below hb;refine ⟨h2.nw,h2.node,fun r rl=>?_,h.low⟩;rcases List.mem_cons.1 rl with rfl|rl
 ·exact hr.mono (fun b h3=>by
   rcases h3 with h3|h3
   ·exact h3
   ·exact ⟨fun e=>by have:=h.node.sN b e;omega,fun hm=>by have:=h.iD b hm;omega⟩)
 ·exact h2.lA r rl
theorem NX.add {d:Cs} {ds:List Value} (h:NX base X w0 dz bl R n cs w vl) (hr:aM (okB (bl.map (fun p=>p.1)++X) vl) w d ds):NX base X w0 dz bl ((d,ds)::R) n cs w vl:=by
 refine ⟨h.nw,h.node,fun r rl=>?_,h.low⟩;rcases List.mem_cons.1 rl with rfl|rl
 ·exact hr
 ·exact h.lA r rl
theorem NX.pick {R':List (Cs × List Value)} (h:NX base X w0 dz bl R n cs w vl) (hs:∀r∈R',r∈R):NX base X w0 dz bl R' n cs w vl:=⟨h.nw,h.node,fun r hr=>h.lA r (hs r hr),h.low⟩
theorem NX.step (h:NX base X w0 dz bl R n cs w vl) (k:Step base w vl w' uK) (hn:dK w' base (bl.map (fun p=>p.1)++X) n' uK dE):NX base X w0 dz bl R n' dE w' uK:=
 ⟨h.nw.step k,hn,fun r hr=>k.rep (h.lA r hr),h.low⟩
theorem NX.insts {l:List ak} {A2:Option Addr} {k2:Nat} {m:Nat} (h:NX base X w0 dz bl (((.sl 106 16 m (cat ak.c l) .nil),[.slice A2 m k2])::R) n cs w vl) (hm:m=l.length) (next:Int) :
 NX base X w0 dz bl R ⟨n.me,next,l,n.leads⟩ [n.me,next,.slice A2 m k2,vl] w vl:=by
 subst hm;exact ⟨h.nw,h.node.insts (h.lA (_,_) (by simp)) next,fun r hr=>h.lA r (by simp [hr]),h.low⟩
theorem NX.size (h:NX base X w0 dz bl R n cs w vl):w0.heap.size≤w.heap.size:=h.nw.size
theorem NX.dc (h:NX base X w0 dz bl R n cs w vl):base≤w.heap.size:=h.nw.dc
theorem NX.out (h:NX base X w0 dz bl R n cs w vl):dK w base X n vl cs∧Step base w0 dz w vl:=⟨h.node.more (fun b hb=> .inl (List.mem_append.2 (.inr hb))),h.nw.st⟩
theorem NX.cells (h:NX base X w0 dz bl R n cs w vl):∃(A0:Option Addr) (k0:Nat) (A1:Option Addr) (k1:Nat),cs=[.int .i64 n.me,.int .i64 n.next,.slice A0 n.insts k0,.slice A1 n.leads k1]∧vl = .slice A1 n.leads k1∧aM (okB (bl.map (fun p=>p.1)++X) vl) w (.sl 106 16 n.insts.length (cat ak.c n.insts) .nil) [.slice A0 n.insts k0]:=by
 obtain ⟨A,k,cells,rfl,h1,h2,h3,h4⟩:=h.node.out;obtain ⟨A1,k1,rfl,_⟩:=eD.bd h2;exact ⟨A,k,A1,k1,rfl,rfl,h1⟩
theorem NX.e0 {b t:Nat} {L:List Value} {r:List (Nat × Nat × List Value)} (h:NX base X w0 dz ((b,t,L)::r) R n cs w vl):bf w b t L.toArray:=NX.b0 (l:=[]) h
theorem NX.c0 {b t:Nat} {L:List Value} {r:List (Nat × Nat × List Value)} (h:NX base X w0 dz ((b,t,L)::r) R n cs w vl) (f:Nat) {u:Value} (hf:L[f]?=some u):w.cell? ⟨b,f,none⟩=some u:=ah h.e0 f hf
theorem NX.e1 {p0:Nat × Nat × List Value} {b t:Nat} {L:List Value} {r:List (Nat × Nat × List Value)} (h:NX base X w0 dz (p0::(b,t,L)::r) R n cs w vl):bf w b t L.toArray:=NX.b0 (l:=[p0]) h
theorem NX.c1 {p0:Nat × Nat × List Value} {b t:Nat} {L:List Value} {r:List (Nat × Nat × List Value)} (h:NX base X w0 dz (p0::(b,t,L)::r) R n cs w vl) (f:Nat) {u:Value} (hf:L[f]?=some u):w.cell? ⟨b,f,none⟩=some u:=ah h.e1 f hf
theorem NX.e2 {p0 p1:Nat × Nat × List Value} {b t:Nat} {L:List Value} {r:List (Nat × Nat × List Value)} (h:NX base X w0 dz (p0::p1::(b,t,L)::r) R n cs w vl):bf w b t L.toArray:=NX.b0 (l:=[p0,p1]) h
theorem NX.c2 {p0 p1:Nat × Nat × List Value} {b t:Nat} {L:List Value} {r:List (Nat × Nat × List Value)} (h:NX base X w0 dz (p0::p1::(b,t,L)::r) R n cs w vl) (f:Nat) {u:Value} (hf:L[f]?=some u):w.cell? ⟨b,f,none⟩=some u:=ah h.e2 f hf
theorem NX.e3 {p0 p1 p2:Nat × Nat × List Value} {b t:Nat} {L:List Value} {r:List (Nat × Nat × List Value)} (h:NX base X w0 dz (p0::p1::p2::(b,t,L)::r) R n cs w vl):bf w b t L.toArray:=NX.b0 (l:=[p0,p1,p2]) h
theorem NX.c3 {p0 p1 p2:Nat × Nat × List Value} {b t:Nat} {L:List Value} {r:List (Nat × Nat × List Value)} (h:NX base X w0 dz (p0::p1::p2::(b,t,L)::r) R n cs w vl) (f:Nat) {u:Value} (hf:L[f]?=some u):w.cell? ⟨b,f,none⟩=some u:=ah h.e3 f hf
theorem NX.e4 {p0 p1 p2 p3:Nat × Nat × List Value} {b t:Nat} {L:List Value} {r:List (Nat × Nat × List Value)} (h:NX base X w0 dz (p0::p1::p2::p3::(b,t,L)::r) R n cs w vl):bf w b t L.toArray:=NX.b0 (l:=[p0,p1,p2,p3]) h
theorem NX.c4 {p0 p1 p2 p3:Nat × Nat × List Value} {b t:Nat} {L:List Value} {r:List (Nat × Nat × List Value)} (h:NX base X w0 dz (p0::p1::p2::p3::(b,t,L)::r) R n cs w vl) (f:Nat) {u:Value} (hf:L[f]?=some u):w.cell? ⟨b,f,none⟩=some u:=ah h.e4 f hf
theorem NX.e5 {p0 p1 p2 p3 p4:Nat × Nat × List Value} {b t:Nat} {L:List Value} {r:List (Nat × Nat × List Value)} (h:NX base X w0 dz (p0::p1::p2::p3::p4::(b,t,L)::r) R n cs w vl):bf w b t L.toArray:=NX.b0 (l:=[p0,p1,p2,p3,p4]) h
theorem NX.c5 {p0 p1 p2 p3 p4:Nat × Nat × List Value} {b t:Nat} {L:List Value} {r:List (Nat × Nat × List Value)} (h:NX base X w0 dz (p0::p1::p2::p3::p4::(b,t,L)::r) R n cs w vl) (f:Nat) {u:Value} (hf:L[f]?=some u):w.cell? ⟨b,f,none⟩=some u:=ah h.e5 f hf
theorem NX.e6 {p0 p1 p2 p3 p4 p5:Nat × Nat × List Value} {b t:Nat} {L:List Value} {r:List (Nat × Nat × List Value)} (h:NX base X w0 dz (p0::p1::p2::p3::p4::p5::(b,t,L)::r) R n cs w vl):bf w b t L.toArray:=NX.b0 (l:=[p0,p1,p2,p3,p4,p5]) h
theorem NX.c6 {p0 p1 p2 p3 p4 p5:Nat × Nat × List Value} {b t:Nat} {L:List Value} {r:List (Nat × Nat × List Value)} (h:NX base X w0 dz (p0::p1::p2::p3::p4::p5::(b,t,L)::r) R n cs w vl) (f:Nat) {u:Value} (hf:L[f]?=some u):w.cell? ⟨b,f,none⟩=some u:=ah h.e6 f hf
end
section
variable {base:Nat} {X:List Nat} {w0 w w':World} {dz vl uK:Value} {bl:List (Nat × Nat × List Value)} {R:List (Cs × List Value)} {n n':aY} {cs dE:List Value}
theorem NX.ri {A:Option Addr} {m k:Nat} {a b v:Value} (h:NX base X w0 dz bl R n [a,b,.slice A m k,v] w vl):m=n.insts.length∧aM (okB (bl.map (fun p=>p.1)++X) vl) w (.sl 106 16 m (cat ak.c n.insts) .nil) [.slice A m k]:=by
 obtain ⟨A0,k0,A1,k1,he,_,hr⟩:=h.cells;injection he with _ he;injection he with _ he;injection he with he _;injection he with e1 e2 e3;subst e1 e2 e3;exact ⟨rfl,hr⟩
theorem NX.Mx {L:List (Cs × List Value)} (h:NX base X w0 dz bl R n cs w vl) (hb:Below w.heap.size w w') (hr:∀r∈L,aM (fun b=>w.heap.size≤b) w' r.1 r.2):NX base X w0 dz bl (L++R) n cs w' vl:=by
 have h2:=h.below hb;refine ⟨h2.nw,h2.node,fun r rl=>?_,h.low⟩;rcases List.mem_append.1 rl with rl|rl
 ·exact (hr r rl).mono (fun b h3=>⟨fun e=>by have:=h.node.sN b e;omega,fun hm=>by have:=h.iD b hm;omega⟩)
 ·exact h2.lA r rl
theorem NX.r0 {d:Cs} {ds:List Value} {l r:List (Cs × List Value)} (h:NX base X w0 dz bl (l++(d,ds)::r) n cs w vl):aM (okB (bl.map (fun p=>p.1)++X) vl) w d ds:=h.lA (d,ds) (by simp)
theorem NX.Ek {A:Option Addr} {q k i j K:Nat} {e:Ending} (h:NX base X w0 dz bl R n cs w vl) (he:e = .returned (.tuple #[.agg cs.toArray,.slice A q k])) (hf:Fair i j K n):Hh base X dz w0 i j K e w:=
 ⟨⟨n,vl,cs,A,q,k,he,h.out.1,h.out.2,hf⟩⟩
theorem NX.cY {A:Option Addr} {q k i j K:Nat} {b:Bool} {e:Ending} (h:NX base X w0 dz bl R n cs w vl) (he:e = .returned (.tuple #[.agg cs.toArray,.slice A q k,.bool b])) (hf:Fair i j K n):pI base X dz w0 i j K e w:=
 ⟨⟨n,vl,cs,A,q,k,b,he,h.out.1,h.out.2,hf⟩⟩
theorem NX.p0 {d:Cs} {ds:List Value} {r:List (Cs × List Value)} (h:NX base X w0 dz bl ((d,ds)::r) n cs w vl):aM (okB (bl.map (fun p=>p.1)++X) vl) w d ds:=NX.r0 (l:=[]) h
theorem NX.p1 {p0:Cs × List Value} {d:Cs} {ds:List Value} {r:List (Cs × List Value)} (h:NX base X w0 dz bl (p0::(d,ds)::r) n cs w vl):aM (okB (bl.map (fun p=>p.1)++X) vl) w d ds:=NX.r0 (l:=[p0]) h
theorem NX.p2 {p0 p1:Cs × List Value} {d:Cs} {ds:List Value} {r:List (Cs × List Value)} (h:NX base X w0 dz bl (p0::p1::(d,ds)::r) n cs w vl):aM (okB (bl.map (fun p=>p.1)++X) vl) w d ds:=NX.r0 (l:=[p0,p1]) h
theorem NX.p3 {p0 p1 p2:Cs × List Value} {d:Cs} {ds:List Value} {r:List (Cs × List Value)} (h:NX base X w0 dz bl (p0::p1::p2::(d,ds)::r) n cs w vl):aM (okB (bl.map (fun p=>p.1)++X) vl) w d ds:=NX.r0 (l:=[p0,p1,p2]) h
theorem NX.p4 {p0 p1 p2 p3:Cs × List Value} {d:Cs} {ds:List Value} {r:List (Cs × List Value)} (h:NX base X w0 dz bl (p0::p1::p2::p3::(d,ds)::r) n cs w vl):aM (okB (bl.map (fun p=>p.1)++X) vl) w d ds:=NX.r0 (l:=[p0,p1,p2,p3]) h
theorem NX.p5 {p0 p1 p2 p3 p4:Cs × List Value} {d:Cs} {ds:List Value} {r:List (Cs × List Value)} (h:NX base X w0 dz bl (p0::p1::p2::p3::p4::(d,ds)::r) n cs w vl):aM (okB (bl.map (fun p=>p.1)++X) vl) w d ds:=NX.r0 (l:=[p0,p1,p2,p3,p4]) h
theorem NX.p6 {p0 p1 p2 p3 p4 p5:Cs × List Value} {d:Cs} {ds:List Value} {r:List (Cs × List Value)} (h:NX base X w0 dz bl (p0::p1::p2::p3::p4::p5::(d,ds)::r) n cs w vl):aM (okB (bl.map (fun p=>p.1)++X) vl) w d ds:=NX.r0 (l:=[p0,p1,p2,p3,p4,p5]) h
end
theorem Fair.Cd {i j K:Nat} {n:aY} (h:Fair i j K n) (hi:i≤30) (hj:j≤30) (hK:K≤10000):n.insts.length+(cat ak.c n.insts).wt≤1048576∧n.insts.length≤1000∧n.leads.length≤1000∧n.c.wt≤1048576:=by
 have h1:=h.wt;have h2:=Nat.mul_le_mul hK hi;have h3:=Nat.mul_le_mul hK hj;have h4:=sH n;have h5:=h.il;have h6:=h.ll;omega
theorem av {P:Program} {fn:Func} {R:Ending→World→Prop} {a:Act} {w:World} {s s2 s3:Tmp} {t n:Nat} (lH:fn.results=#[.cell s t,.tmp s2,.tmp s3]) (p:Addr) (hp:a.tmps.getD s undef = .pointer (some p)) (cs:List Value) (u u':Value) (hu:a.tmps.getD s2 undef=u) (Zi:a.tmps.getD s3 undef=u') (h:nV P t n) (hl:cs.length=n)
 (hc:∀j v,cs[j]?=some v→w.cell? (p.add j)=some v) (hd:a.defers=[]) (hR:R (.returned (.tuple #[.agg cs.toArray,u,u'])) w):bodyPost P fn R .ret a w:=by
 refine bodyPost_ret (v:= .tuple #[.agg cs.toArray,u,u']) ?_ hd hR;unfold results;rw [lH];have KM:a.tmps[s]?.getD undef = .pointer (some p):=by simpa using hp
 have N6:a.tmps[s2]?.getD undef=u:=by simpa using hu
 have Zj:a.tmps[s3]?.getD undef=u':=by simpa using Zi
 simp [KM,N6,Zj,asAddr,loadVar,(hl ▸ h:nV P t cs.length).isAgg,(hl ▸ h:nV P t cs.length).size,run_loadCells_list (P:=P) (w:=w) p cs hc,Result.andThen]
theorem iE {w:World} {base e size n c:Nat} {A:Option Addr} {xs:List Value} (h:w.ownsRow base e size (.slice A n c) n xs):n≤c:=by
 rcases h.2 with ⟨h1,h2⟩|⟨g,cap,cur,h1,_,_,hc,_⟩
 ·omega
 ·injection h1 with e1 e2 e3;omega
theorem fC {w:World} {base n:Nat} {A:Option Addr} {c:Nat} {l:List aX} {ids:List Value} (h:w.ownsRow base 25 2 (.slice A n c) n ids) (hi:ids=bO l) (hn:n=l.length):aM (fun b=>base≤b) w (.sl 25 2 n (cat aX.c l) .nil) [.slice A n c]:=by
 subst hi;exact (mn h hn).fresh
theorem NX.kS {base:Nat} {X:List Nat} {w0 w w':World} {dz vl:Value} {bl:List (Nat × Nat × List Value)} {R:List (Cs × List Value)} {n:aY} {cs:List Value} {sz m c:Nat} {A:Option Addr} {o:Obj} {l:List aX} {ids:List Value}
 (h:NX base X w0 dz bl R n cs w vl) (hs:w.heap.size=sz) (hg:(w.alloc o).grownBy w' (some sz)) (bg:w'.ownsRow sz 25 2 (.slice A m c) m ids) (hi:ids=bO l) (hm:m=l.length) :
 NX base X w0 dz bl ((.sl 25 2 m (cat aX.c l) .nil,[.slice A m c])::R) n cs w' vl:=by
 subst hs;exact h.fresh (Below.grown (Br.alloc Nr _) hg (by simp) (fun k hk=>by injection hk with hk;omega)) (fC bg hi hm)
theorem hI {xs:List ak} {x:aX} {K:Nat} (h:∀y∈xs,y.c.wt≤K):(eR xs x).c.wt≤K:=by
 unfold eR;cases hf:xs.find? (fun y=>y.id=x) with
 |none=>exact Nat.zero_le _
 |some y=>exact h y (List.mem_of_find?_eq_some hf)
theorem dx (x:aT):x.c.wt=x.al.length+x.da.length:=by
 have e1:x.c.wt=x.al.length+(cat aX.c x.al).wt+(x.da.length+(cat qS x.da).wt+0):=rfl;have e3:=pZ x.al;have e4:(cat qS x.da).wt=0:=by
  induction x.da with
  |nil=>rfl
  |cons a r ih=>rw [dA,Cs.mf,ih];rfl
 omega
theorem Fair.mono {i j K i' j' K':Nat} {n:aY} (h:Fair i j K n) (hi:i≤i') (hj:j≤j') (hK:K≤K'):Fair i' j' K' n:=
 ⟨Nt h.il hi,Nt h.ll hj,fun y hy=>Nt (h.iw y hy) hK,fun y hy=>Nt (h.lw y hy) hK⟩
theorem Fair.put {i j K K':Nat} {n:aY} {x:ak} (h:Fair i j K n) (hx:x.c.wt≤K') (hK:K≤K') (next:Int):Fair (i+1) j K' ⟨n.me,next,iN n.insts x,n.leads⟩:=
 ⟨Nt (wj x n.insts false) (Nat.succ_le_succ h.il),h.ll,fun y hy=>by
  rcases nL.1 hy with ⟨rfl,_⟩|⟨h1,_⟩
  ·exact hx
  ·exact Nt (h.iw y h1) hK,fun y hy=>Nt (h.lw y hy) hK⟩
theorem Fair.xN {i j K K':Nat} {n n':aY} {x:aT} (h:Fair i j K n) (hx:x.c.wt≤K') (hK:K≤K') (he:n'.insts=n.insts) (hl:n'.leads.length≤n.leads.length+1) (hm:∀y∈n'.leads,y∈n.leads∨y=x):Fair i (j+1) K' n':=
 ⟨by rw [he];exact h.il,Nt hl (Nat.succ_le_succ h.ll),fun y hy=>by rw [he] at hy;exact Nt (h.iw y hy) hK,fun y hy=>by
  rcases hm y hy with h1|rfl
  ·exact Nt (h.lw y h1) hK
  ·exact hx⟩
theorem Fair.El {i j K:Nat} {n n':aY} (h:Fair i j K n) (he:n'.insts=n.insts) (hl:n'.leads.length≤n.leads.length) (hm:∀y∈n'.leads,y∈n.leads):Fair i j K n':=
 ⟨by rw [he];exact h.il,Nt hl h.ll,fun y hy=>by rw [he] at hy;exact h.iw y hy,fun y hy=>h.lw y (hm y hy)⟩
inductive CT where
 |leaf
 |rd (i:Nat) (r:CT)
 |act (i:Nat) (r:CT)
 |two (i k:Nat) (r s:CT)
def CT.len:CT→Nat
 |.leaf=>0
 |.rd _ r=>r.len+1
 |.act _ r=>r.len+1
 |.two _ _ r _=>r.len+1
section
variable {P:Program} {md:Region.Mode} {ops:Array Oper}
def jT (P:Program) (ops:Array Oper) (C:World→Prop) (K:Act→World→Prop):CT→Act→World→Prop
 |.leaf,a,w=>K a w
 |.rd i r,a,w=>match ops[i]? with
  |none=>False
  |some o=>∃v,fv P ops C o v a∧jT P ops C K r (a.put o.dst v) w
 |.act i r,a,w=>match ops[i]? with
  |none=>False
  |some o=>wpList P ops (gg C (jT P ops C K r)) [o] a w
 |.two i k r s,a,w=>match ops[i]? with
  |none=>False
  |some o=>match ops[k]? with
   |none=>False
   |some o'=>wpList P ops (gg C (jT P ops C K r)) [o] a w∧wpList P ops (gg C (jT P ops C K s)) [o'] a w
section
variable {C:World→Prop} {K:Act→World→Prop} {i k:Nat} {r s:CT} {a:Act} {w:World} {o o':Oper}
theorem bA (h:K a w):jT P ops C K .leaf a w:=h
theorem aL (hi:ops[i]?=some o) (hg:o.guard=none) (v:Value) (hv:∀w',C w'→(execOp a.eval o).run P w' = .ok (.value v) w') (h:jT P ops C K r (a.put o.dst v) w):jT P ops C K (.rd i r) a w:=by
 have hw:Region.wanted o (yielded ops a.tmps)=true:=by simp [Region.wanted,hg]
 simp only [jT,hi];exact ⟨v,.inl ⟨hw,hv⟩,h⟩
theorem Fm (hi:ops[i]?=some o) (hw:Region.wanted o (yielded ops a.tmps)=true) (v:Value) (hv:∀w',C w'→(execOp a.eval o).run P w' = .ok (.value v) w') (h:jT P ops C K r (a.put o.dst v) w):jT P ops C K (.rd i r) a w:=by
 simp only [jT,hi];exact ⟨v,.inl ⟨hw,hv⟩,h⟩
theorem ay (hi:ops[i]?=some o) (hk:cU P o.op=true) (hp:fm o a=true) (hw:Region.wanted o (yielded ops a.tmps)=true)
 (h:wpList P ops (nC (bare w) (fun a' _=>jT P ops C K r a' w)) [o] a (bare w)):jT P ops C K (.rd i r) a w:=by
 simp only [wpList,hw,if_true] at h;rcases h with h|⟨_,_,_,hx⟩
 ·unfold Oper.wp at h;cases bX:(execOp a.eval o).run P (bare w) with
  |halt x w'=>
   rw [bX] at h;cases x<;>simp only [Oper.upon] at h
   exact h.elim
  |ok nx w'=>
   obtain ⟨rfl,v,rfl,dX⟩:=sR hk hp bX;rw [bX] at h;simp only [Oper.upon] at h;exact Fm hi hw v (fun w' _=>dX w') h.2
 ·exact hx.elim
theorem cZ (hi:ops[i]?=some o) {t:TypeId} {parts:Array (Nat × Operand)} (hb:jS o.op=some (t,parts)) (hg:o.guard=none) (cells:Array Value) (hc:P.built t (parts.map fun (i,x)=>(i,a.eval x)).toList=some cells)
 (h:jT P ops C K r (a.put o.dst (.agg cells)) w):jT P ops C K (.rd i r) a w:=
 aL hi hg (.agg cells) (fun w' _=>oG hb hc w') h
theorem aI (hi:ops[i]?=some o) (h:wpList P ops (gg C (jT P ops C K r)) [o] a w):jT P ops C K (.act i r) a w:=by
 simp only [jT,hi];exact h
theorem dI (hi:ops[i]?=some o) (hk:ops[k]?=some o') (h:wpList P ops (gg C (jT P ops C K r)) [o] a w) (h':wpList P ops (gg C (jT P ops C K s)) [o'] a w):jT P ops C K (.two i k r s) a w:=by
 simp only [jT,hi,hk];exact ⟨h,h'⟩
end
def zm (md:Region.Mode) (ops:Array Oper) (n:Nat) (next:Array Bool→Bool):CT→Array Bool→Bool
 |.leaf,aj=>next aj
 |.rd i r,aj=>decide (i<n) && ((Region.ready md ops aj).contains i && Region.free md ops aj i) && zm md ops n next r (aj.setIfInBounds i true)
 |.act i r,aj=>decide (i<n) && decide (Region.ready md ops aj=[i]) && zm md ops n next r (aj.setIfInBounds i true)
 |.two i k r s,aj=>decide (i<n) && decide (k<n) && decide (r.len=s.len) && decide (Region.ready md ops aj=[i,k]) && zm md ops n next r (aj.setIfInBounds i true) && zm md ops n next s (aj.setIfInBounds k true)
theorem np {n:Nat} {C:World→Prop} {K:Act→World→Prop} {L:Array Bool→Act→World→Prop} {r:CT} {j:Nat} {o:Oper} {aj:Array Bool} {a:Act} {w:World} {f:Nat} (ho:ops[j]?=some o)
 (step:∀a' w',gg C (jT P ops C K r) .normal a' w'→dP P md ops n C L f (aj.setIfInBounds j true) a' w')
 (h:wpList P ops (gg C (jT P ops C K r)) [o] a w):wpOp P ops LZ j (dP P md ops n C L f (aj.setIfInBounds j true)) a w:=by
 unfold wpOp;simp only [ho];simp only [wpList] at h;by_cases hw:Region.wanted o (yielded ops a.tmps)=true
 ·rw [if_pos hw] at h ⊢;rcases h with h|⟨_,_,_,hx⟩
  ·exact .inl (pd tQ step h)
  ·exact hx.elim
 ·rw [if_neg hw] at h ⊢;exact step _ _ h
theorem kU {n:Nat} {C:World→Prop} {K:Act→World→Prop} {next:Array Bool→Bool} {L:Array Bool→Act→World→Prop} (ef:∀(j:Nat) (o:Oper) cs b,ops[j]?=some o→o.op ≠ .select cs b) (ez:oE md ops n [])
 (fJ:∀aj a w,L aj a w→∀j∈Region.ready md ops aj,n≤j) (hK:∀aj a w,next aj=true→C w→K a w→L aj a w) :
 ∀(t:CT) (aj:Array Bool) (a:Act) (w:World),mr md ops [] aj→zm md ops n next t aj=true→C w→jT P ops C K t a w→dP P md ops n C L t.len aj a w
 |.leaf,aj,a,w,_,hB,hC,h=>⟨hC,hK _ _ _ hB hC h⟩
 |.rd i r,aj,a,w,inv,hB,hC,h=>by
  simp only [zm,Bool.and_eq_true,decide_eq_true_eq] at hB;obtain ⟨⟨eN,vg,xu⟩,nh⟩:=hB;have hr:i∈Region.ready md ops aj:=by simpa using vg
  obtain ⟨_,o,ho,_⟩:=mem_ready.1 hr;simp only [jT,ho] at h;obtain ⟨v,hy,h⟩:=h;exact hU (fl:=[]) ho ef ez eN fJ _ aj a w inv (fun j oj hj dO pe iR=>Region.free_spec ho xu j oj hj dO pe iR) hr hy hC
   (kU ef ez fJ hK r _ _ w (inv.set hr) nh hC h)
 |.act i r,aj,a,w,inv,hB,hC,h=>by
  simp only [zm,Bool.and_eq_true,decide_eq_true_eq] at hB;obtain ⟨⟨eN,dH⟩,nh⟩:=hB;have hr:i∈Region.ready md ops aj:=by rw [dH];simp
  obtain ⟨_,o,ho,_⟩:=mem_ready.1 hr;refine ⟨hC,by rw [dH];simp,fun j hj=>?_⟩;rw [dH] at hj;have oY:j=i:=by simpa using hj
  subst oY;simp only [jT,ho] at h;exact ⟨eN,np ho (fun a' w' h'=>kU ef ez fJ hK r _ a' w' (inv.set hr) nh h'.1 h'.2) h⟩
 |.two i k r s,aj,a,w,inv,hB,hC,h=>by
  simp only [zm,Bool.and_eq_true,decide_eq_true_eq] at hB;obtain ⟨⟨⟨⟨⟨eN,xo⟩,hlen⟩,dH⟩,iI⟩,nh⟩:=hB;have IY:i∈Region.ready md ops aj:=by rw [dH];simp
  have IZ:k∈Region.ready md ops aj:=by rw [dH];simp
  obtain ⟨_,o,ho,_⟩:=mem_ready.1 IY;obtain ⟨_,o',yx,_⟩:=mem_ready.1 IZ;simp only [jT,ho,yx] at h;refine ⟨hC,by rw [dH];simp,fun j hj=>?_⟩;rw [dH] at hj;simp only [mem_cons,not_mem_nil,or_false] at hj;rcases hj with rfl|rfl
  ·exact ⟨eN,np ho (fun a' w' h'=>kU ef ez fJ hK r _ a' w' (inv.set IY) iI h'.1 h'.2) h.1⟩
  ·refine ⟨xo,np yx (fun a' w' h'=>?_) h.2⟩;have:=kU ef ez fJ hK s _ a' w' (inv.set IZ) nh h'.1 h'.2;rw [←hlen] at this;exact this
def PK (md:Region.Mode) (ops:Array Oper) (n:Nat) (t:CT) (z:List Nat):Bool:=
 Region.noSelect ops && decide (n≤ops.size) && decide (t.len+z.length=ops.size) && z.all (fun j=>decide (n≤j)) && wC md ops n [] &&
  zm md ops n (oH md ops z) t (Array.replicate ops.size false)
theorem bz {id:Nat} {Q:Exit→Act→World→Prop} {a:Act} {w:World} {l:List Oper} (C:World→Prop) (n:Nat) (t:CT) (z:List Nat) (hm:P.follows .mixedOrders=true) (hB:PK .any l.toArray n t z=true) (hC:C w.drew)
 (h:jT P l.toArray C (fun a w=>wpList P l.toArray (mu Q) (aQ l.toArray z) a w) t a w.drew):(Code.region id l.toArray true).wp P Q a w:=by
 simp only [PK,Bool.and_eq_true,decide_eq_true_eq] at hB;obtain ⟨⟨⟨⟨⟨ef,hn⟩,hlen⟩,hz⟩,ez⟩,tu⟩:=hB;have My:∀j∈z,n≤j:=fun j hj=>by simpa using List.all_eq_true.1 hz j hj
 have tv:mr .any l.toArray [] (Array.replicate l.toArray.size false):=⟨fun j oj _ hl=>(by rw [getD_replicate_false] at hl;cases hl),fun t ht=>absurd ht (by simp)⟩
 let L:Array Bool→Act→World→Prop:=fun aj a w=>oH .any l.toArray z aj=true∧wpList P l.toArray (mu Q) (aQ l.toArray z) a w
 have h1:=kU (P:=P) (md:= .any) (ops:=l.toArray) (n:=n) (C:=C) (L:=L) (next:=oH .any l.toArray z) (K:=fun a w=>wpList P l.toArray (mu Q) (aQ l.toArray z) a w) (Region.noSelect_spec ef) (oF ez)
  (fun aj a w hL=>vh My hL.1) (fun aj a w hs _ hk=>⟨hs,hk⟩) t _ a w.drew tv tu hC h;have h2:=kT (P:=P) (md:= .any) (L':=LQ .any l.toArray Q) (g:=z.length) hn (fun aj a w hL=>jw z aj a w hL.1 hL.2) t.len _ a w.drew h1;have h3:=gW (P:=P) (md:= .any) (Q:=Q) (g:=0) (n:=l.toArray.size) (C:=fun _=>True) (L:=LQ .any l.toArray Q) (fun aj a w hL=>hL) _ _ a w.drew h2;refine wp_region_any hm ?_;rw [show t.len+z.length+0=l.toArray.size by omega] at h3;exact h3
end
section
variable {P:Program}
theorem ai {w:World} {ops:Array Oper} {rest:List Oper} {a:Act} {Q:Exit→Act→World→Prop} {t ty:TypeId} {x y:Operand} {ps:String} {af:Array Edge} {g e n:Nat} {L cs:List Value} (hb:bf w g e L.toArray) (h:nV P t n) (hL:L.length=n) (hx:a.eval x = .pointer (some ⟨g,0,none⟩)) (hy:a.eval y = .agg cs.toArray) (hn:cs.length=n) (h1:∀u∈cs,u.oneCell'=true)
 (hK:∀w',bf w' g e cs.toArray→w.grownBy w' (some g)→wpList P ops Q rest a w'):wpList P ops Q ({dst:=none,op:=Op.store t x y,type:=ty,pos:=ps,after:=af,guard:=none}::rest) a w:=
 Fr w g e 0 cs [] L [] _ hx hy (hn ▸ h) hb (by simp) rfl (hL.trans hn.symm) h1 (fun w' h1 h2=>hK w' (by simpa using h1) h2)
theorem ao {w:World} {ops:Array Oper} {rest:List Oper} {a:Act} {Q:Exit→Act→World→Prop} {t ty:TypeId} {x:Operand} {ps:String} {af:Array Edge} {dst:Option Tmp} {g e n:Nat} {L:List Value} (hb:bf w g e L.toArray) (h:nV P t n) (hL:L.length=n) (hx:a.eval x = .pointer (some ⟨g,0,none⟩))
 (hK:wpList P ops Q rest (a.put dst (.agg L.toArray)) w):wpList P ops Q ({dst:=dst,op:=Op.load t x,type:=ty,pos:=ps,after:=af,guard:=none}::rest) a w:=
 Fn w ⟨g,0,none⟩ hx L h hL (ag hb) hK
theorem oI {w:World} {ops:Array Oper} {rest:List Oper} {a:Act} {Q:Exit→Act→World→Prop} {t ty:TypeId} {x:Operand} {ps:String} {af:Array Edge} {dst:Option Tmp} {gd:Option (Nat × Bool)} {g e n:Nat} {L:List Value} (hb:bf w g e L.toArray) (h:nV P t n) (hL:L.length=n)
 (hw:Region.wanted {dst:=dst,op:=Op.load t x,type:=ty,pos:=ps,after:=af,guard:=gd} (yielded ops a.tmps)=true) (hx:a.eval x = .pointer (some ⟨g,0,none⟩)) (hK:wpList P ops Q rest (a.put dst (.agg L.toArray)) w):wpList P ops Q ({dst:=dst,op:=Op.load t x,type:=ty,pos:=ps,after:=af,guard:=gd}::rest) a w:=
 an w hw ⟨g,0,none⟩ hx L h hL (ag hb) hK
theorem eh {a:Act} {o:Oper} {t:TypeId} {x:Operand} {w:World} {g e n:Nat} {L:List Value} (hb:bf w g e L.toArray) (h:nV P t n) (hL:L.length=n) (ho:o.op = .load t x) (hx:a.eval x = .pointer (some ⟨g,0,none⟩)):(execOp a.eval o).run P w = .ok (.value (.agg L.toArray)) w:=
 cq ho hx (hL ▸ h) (ag hb)
end
section
variable {base:Nat} {X:List Nat} {w0 w w':World} {dz vl uK:Value} {bl:List (Nat × Nat × List Value)} {R:List (Cs × List Value)} {n n':aY} {cs dE:List Value}
theorem NX.bU {b t:Nat} {L L':List Value} {r:List (Nat × Nat × List Value)} (h:NX base X w0 dz ((b,t,L)::r) R n cs w vl) (hg:w.grownBy w' (some b)) (hb:bf w' b t L'.toArray):NX base X w0 dz ((b,t,L')::r) R n cs w' vl:=
 NX.put (l:=[]) h hg hb
theorem NX.fN {b t:Nat} {L:List Value} {r:List (Nat × Nat × List Value)} (f:Nat) (v:Value) (L':List Value) (e:L.set f v=L') (h:NX base X w0 dz ((b,t,L)::r) R n cs w vl):NX base X w0 dz ((b,t,L')::r) R n cs (w.setCell ⟨b,f,none⟩ v) vl:=by
 subst e;exact NX.set (l:=[]) h f v
theorem NX.eK {b t:Nat} {L L':List Value} {p0:Nat × Nat × List Value} {r:List (Nat × Nat × List Value)} (h:NX base X w0 dz (p0::(b,t,L)::r) R n cs w vl) (hg:w.grownBy w' (some b)) (hb:bf w' b t L'.toArray):NX base X w0 dz (p0::(b,t,L')::r) R n cs w' vl:=
 NX.put (l:=[p0]) h hg hb
theorem NX.Az {b t:Nat} {L:List Value} {p0:Nat × Nat × List Value} {r:List (Nat × Nat × List Value)} (f:Nat) (v:Value) (L':List Value) (e:L.set f v=L') (h:NX base X w0 dz (p0::(b,t,L)::r) R n cs w vl):NX base X w0 dz (p0::(b,t,L')::r) R n cs (w.setCell ⟨b,f,none⟩ v) vl:=by
 subst e;exact NX.set (l:=[p0]) h f v
theorem NX.fZ {b t:Nat} {L L':List Value} {p0 p1:Nat × Nat × List Value} {r:List (Nat × Nat × List Value)} (h:NX base X w0 dz (p0::p1::(b,t,L)::r) R n cs w vl) (hg:w.grownBy w' (some b)) (hb:bf w' b t L'.toArray):NX base X w0 dz (p0::p1::(b,t,L')::r) R n cs w' vl:=
 NX.put (l:=[p0,p1]) h hg hb
theorem NX.mD {b t:Nat} {L:List Value} {p0 p1:Nat × Nat × List Value} {r:List (Nat × Nat × List Value)} (f:Nat) (v:Value) (L':List Value) (e:L.set f v=L') (h:NX base X w0 dz (p0::p1::(b,t,L)::r) R n cs w vl):NX base X w0 dz (p0::p1::(b,t,L')::r) R n cs (w.setCell ⟨b,f,none⟩ v) vl:=by
 subst e;exact NX.set (l:=[p0,p1]) h f v
theorem NX.qv {b t:Nat} {L L':List Value} {p0 p1 p2:Nat × Nat × List Value} {r:List (Nat × Nat × List Value)} (h:NX base X w0 dz (p0::p1::p2::(b,t,L)::r) R n cs w vl) (hg:w.grownBy w' (some b)) (hb:bf w' b t L'.toArray):NX base X w0 dz (p0::p1::p2::(b,t,L')::r) R n cs w' vl:=
 NX.put (l:=[p0,p1,p2]) h hg hb
theorem NX.J0 {b t:Nat} {L:List Value} {p0 p1 p2:Nat × Nat × List Value} {r:List (Nat × Nat × List Value)} (f:Nat) (v:Value) (L':List Value) (e:L.set f v=L') (h:NX base X w0 dz (p0::p1::p2::(b,t,L)::r) R n cs w vl):NX base X w0 dz (p0::p1::p2::(b,t,L')::r) R n cs (w.setCell ⟨b,f,none⟩ v) vl:=by
 subst e;exact NX.set (l:=[p0,p1,p2]) h f v
theorem NX.J1 {b t:Nat} {L L':List Value} {p0 p1 p2 p3:Nat × Nat × List Value} {r:List (Nat × Nat × List Value)} (h:NX base X w0 dz (p0::p1::p2::p3::(b,t,L)::r) R n cs w vl) (hg:w.grownBy w' (some b)) (hb:bf w' b t L'.toArray):NX base X w0 dz (p0::p1::p2::p3::(b,t,L')::r) R n cs w' vl:=
 NX.put (l:=[p0,p1,p2,p3]) h hg hb
theorem NX.Fo {b t:Nat} {L:List Value} {p0 p1 p2 p3:Nat × Nat × List Value} {r:List (Nat × Nat × List Value)} (f:Nat) (v:Value) (L':List Value) (e:L.set f v=L') (h:NX base X w0 dz (p0::p1::p2::p3::(b,t,L)::r) R n cs w vl):NX base X w0 dz (p0::p1::p2::p3::(b,t,L')::r) R n cs (w.setCell ⟨b,f,none⟩ v) vl:=by
 subst e;exact NX.set (l:=[p0,p1,p2,p3]) h f v
theorem NX.PL {b t:Nat} {L L':List Value} {p0 p1 p2 p3 p4:Nat × Nat × List Value} {r:List (Nat × Nat × List Value)} (h:NX base X w0 dz (p0::p1::p2::p3::p4::(b,t,L)::r) R n cs w vl) (hg:w.grownBy w' (some b)) (hb:bf w' b t L'.toArray):NX base X w0 dz (p0::p1::p2::p3::p4::(b,t,L')::r) R n cs w' vl:=
 NX.put (l:=[p0,p1,p2,p3,p4]) h hg hb
theorem NX.PM {b t:Nat} {L L':List Value} {p0 p1 p2 p3 p4 p5:Nat × Nat × List Value} {r:List (Nat × Nat × List Value)} (h:NX base X w0 dz (p0::p1::p2::p3::p4::p5::(b,t,L)::r) R n cs w vl) (hg:w.grownBy w' (some b)) (hb:bf w' b t L'.toArray):NX base X w0 dz (p0::p1::p2::p3::p4::p5::(b,t,L')::r) R n cs w' vl:=
 NX.put (l:=[p0,p1,p2,p3,p4,p5]) h hg hb
theorem NX.PN {b t:Nat} {L:List Value} {p0 p1 p2 p3 p4 p5:Nat × Nat × List Value} {r:List (Nat × Nat × List Value)} (f:Nat) (v:Value) (L':List Value) (e:L.set f v=L') (h:NX base X w0 dz (p0::p1::p2::p3::p4::p5::(b,t,L)::r) R n cs w vl):NX base X w0 dz (p0::p1::p2::p3::p4::p5::(b,t,L')::r) R n cs (w.setCell ⟨b,f,none⟩ v) vl:=by
 subst e;exact NX.set (l:=[p0,p1,p2,p3,p4,p5]) h f v
theorem NX.mY {d1 d2:Cs} {s1 s2:List Value} (h:NX base X w0 dz bl R n cs w vl) (hb:Below w w w') (h1:aM (fun b=>w.heap.size≤b) w' d1 s1) (h2:aM (fun b=>w.heap.size≤b) w' d2 s2):NX base X w0 dz bl ((d1,s1)::(d2,s2)::R) n cs w' vl:=
 NX.Mx (L:=[(d1,s1),(d2,s2)]) h hb (by intro r hr;simp only [mem_cons,not_mem_nil,or_false] at hr;rcases hr with rfl|rfl;(· exact h1);(· exact h2))
end
inductive C3 where
 |leaf
 |rd (i:Nat) (r:C3)
 |act (i:Nat) (r:C3)
 |two (i k:Nat) (r s:C3)
 |three (i k m:Nat) (r s t:C3)
def C3.len:C3→Nat
 |.leaf=>0
 |.rd _ r=>r.len+1
 |.act _ r=>r.len+1
 |.two _ _ r _=>r.len+1
 |.three _ _ _ r _ _=>r.len+1
section
variable {P:Program} {md:Region.Mode} {ops:Array Oper}
def fU (P:Program) (ops:Array Oper) (C:World→Prop) (K:Act→World→Prop):C3→Act→World→Prop
 |.leaf,a,w=>K a w
 |.rd i r,a,w=>match ops[i]? with
  |none=>False
  |some o=>∃v,fv P ops C o v a∧fU P ops C K r (a.put o.dst v) w
 |.act i r,a,w=>match ops[i]? with
  |none=>False
  |some o=>wpList P ops (gg C (fU P ops C K r)) [o] a w
 |.two i k r s,a,w=>match ops[i]? with
  |none=>False
  |some o=>match ops[k]? with
   |none=>False
   |some o'=>wpList P ops (gg C (fU P ops C K r)) [o] a w∧wpList P ops (gg C (fU P ops C K s)) [o'] a w
 |.three i k m r s t,a,w=>match ops[i]? with
  |none=>False
  |some o=>match ops[k]? with
   |none=>False
   |some o'=>match ops[m]? with
    |none=>False
    |some o2=>wpList P ops (gg C (fU P ops C K r)) [o] a w∧wpList P ops (gg C (fU P ops C K s)) [o'] a w∧wpList P ops (gg C (fU P ops C K t)) [o2] a w
section
variable {C:World→Prop} {K:Act→World→Prop} {i k m:Nat} {r s t3:C3} {a:Act} {w:World} {o o' o2:Oper}
theorem ee (h:K a w):fU P ops C K .leaf a w:=h
theorem cJ (hi:ops[i]?=some o) (hg:o.guard=none) (v:Value) (hv:∀w',C w'→(execOp a.eval o).run P w' = .ok (.value v) w') (h:fU P ops C K r (a.put o.dst v) w):fU P ops C K (.rd i r) a w:=by
 have hw:Region.wanted o (yielded ops a.tmps)=true:=by simp [Region.wanted,hg]
 simp only [fU,hi];exact ⟨v,.inl ⟨hw,hv⟩,h⟩
theorem nR (hi:ops[i]?=some o) (hw:Region.wanted o (yielded ops a.tmps)=true) (v:Value) (hv:∀w',C w'→(execOp a.eval o).run P w' = .ok (.value v) w') (h:fU P ops C K r (a.put o.dst v) w):fU P ops C K (.rd i r) a w:=by
 simp only [fU,hi];exact ⟨v,.inl ⟨hw,hv⟩,h⟩
theorem gG (hi:ops[i]?=some o) (hw:Region.wanted o (yielded ops a.tmps)=false) (h:fU P ops C K r (a.put o.dst undef) w):fU P ops C K (.rd i r) a w:=by
 simp only [fU,hi];exact ⟨undef,.inr ⟨hw,rfl⟩,h⟩
theorem aZ (hi:ops[i]?=some o) (hk:cU P o.op=true) (hp:fm o a=true) (hw:Region.wanted o (yielded ops a.tmps)=true)
 (h:wpList P ops (nC (bare w) (fun a' _=>fU P ops C K r a' w)) [o] a (bare w)):fU P ops C K (.rd i r) a w:=by
 simp only [wpList,hw,if_true] at h;rcases h with h|⟨_,_,_,hx⟩
 ·unfold Oper.wp at h;cases bX:(execOp a.eval o).run P (bare w) with
  |halt x w'=>
   rw [bX] at h;cases x<;>simp only [Oper.upon] at h
   exact h.elim
  |ok nx w'=>
   obtain ⟨rfl,v,rfl,dX⟩:=sR hk hp bX;rw [bX] at h;simp only [Oper.upon] at h;exact nR hi hw v (fun w' _=>dX w') h.2
 ·exact hx.elim
theorem de (hi:ops[i]?=some o) {t:TypeId} {parts:Array (Nat × Operand)} (hb:jS o.op=some (t,parts)) (hg:o.guard=none) (cells:Array Value) (hc:P.built t (parts.map fun (i,x)=>(i,a.eval x)).toList=some cells)
 (h:fU P ops C K r (a.put o.dst (.agg cells)) w):fU P ops C K (.rd i r) a w:=
 cJ hi hg (.agg cells) (fun w' _=>oG hb hc w') h
theorem dv (hi:ops[i]?=some o) (h:wpList P ops (gg C (fU P ops C K r)) [o] a w):fU P ops C K (.act i r) a w:=by
 simp only [fU,hi];exact h
theorem gS (hi:ops[i]?=some o) (hk:ops[k]?=some o') (h:wpList P ops (gg C (fU P ops C K r)) [o] a w) (h':wpList P ops (gg C (fU P ops C K s)) [o'] a w):fU P ops C K (.two i k r s) a w:=by
 simp only [fU,hi,hk];exact ⟨h,h'⟩
theorem yF (hi:ops[i]?=some o) (hk:ops[k]?=some o') (hm:ops[m]?=some o2) (h:wpList P ops (gg C (fU P ops C K r)) [o] a w) (h':wpList P ops (gg C (fU P ops C K s)) [o'] a w) (h2:wpList P ops (gg C (fU P ops C K t3)) [o2] a w):fU P ops C K (.three i k m r s t3) a w:=by
 simp only [fU,hi,hk,hm];exact ⟨h,h',h2⟩
end
def tR (md:Region.Mode) (ops:Array Oper) (n:Nat) (next:Array Bool→Bool):C3→Array Bool→Bool
 |.leaf,aj=>next aj
 |.rd i r,aj=>decide (i<n) && ((Region.ready md ops aj).contains i && Region.free md ops aj i) && tR md ops n next r (aj.setIfInBounds i true)
 |.act i r,aj=>decide (i<n) && decide (Region.ready md ops aj=[i]) && tR md ops n next r (aj.setIfInBounds i true)
 |.two i k r s,aj=>decide (i<n) && decide (k<n) && decide (r.len=s.len) && decide (Region.ready md ops aj=[i,k]) && tR md ops n next r (aj.setIfInBounds i true) && tR md ops n next s (aj.setIfInBounds k true)
 |.three i k m r s t,aj=>decide (i<n) && decide (k<n) && decide (m<n) && decide (r.len=s.len) && decide (r.len=t.len) && decide (Region.ready md ops aj=[i,k,m]) && tR md ops n next r (aj.setIfInBounds i true) && tR md ops n next s (aj.setIfInBounds k true) && tR md ops n next t (aj.setIfInBounds m true)
theorem gJ {n:Nat} {C:World→Prop} {K:Act→World→Prop} {L:Array Bool→Act→World→Prop} {r:C3} {j:Nat} {o:Oper} {aj:Array Bool} {a:Act} {w:World} {f:Nat} (ho:ops[j]?=some o)
 (step:∀a' w',gg C (fU P ops C K r) .normal a' w'→dP P md ops n C L f (aj.setIfInBounds j true) a' w')
 (h:wpList P ops (gg C (fU P ops C K r)) [o] a w):wpOp P ops LZ j (dP P md ops n C L f (aj.setIfInBounds j true)) a w:=by
 unfold wpOp;simp only [ho];simp only [wpList] at h;by_cases hw:Region.wanted o (yielded ops a.tmps)=true
 ·rw [if_pos hw] at h ⊢;rcases h with h|⟨_,_,_,hx⟩
  ·exact .inl (pd tQ step h)
  ·exact hx.elim
 ·rw [if_neg hw] at h ⊢;exact step _ _ h
theorem gj {n:Nat} {C:World→Prop} {K:Act→World→Prop} {next:Array Bool→Bool} {L:Array Bool→Act→World→Prop} (ef:∀(j:Nat) (o:Oper) cs b,ops[j]?=some o→o.op ≠ .select cs b) (ez:oE md ops n [])
 (fJ:∀aj a w,L aj a w→∀j∈Region.ready md ops aj,n≤j) (hK:∀aj a w,next aj=true→C w→K a w→L aj a w) :
 ∀(t:C3) (aj:Array Bool) (a:Act) (w:World),mr md ops [] aj→tR md ops n next t aj=true→C w→fU P ops C K t a w→dP P md ops n C L t.len aj a w
 |.leaf,aj,a,w,_,hB,hC,h=>⟨hC,hK _ _ _ hB hC h⟩
 |.rd i r,aj,a,w,inv,hB,hC,h=>by
  simp only [tR,Bool.and_eq_true,decide_eq_true_eq] at hB;obtain ⟨⟨eN,vg,xu⟩,nh⟩:=hB;have hr:i∈Region.ready md ops aj:=by simpa using vg
  obtain ⟨_,o,ho,_⟩:=mem_ready.1 hr;simp only [fU,ho] at h;obtain ⟨v,hy,h⟩:=h;exact hU (fl:=[]) ho ef ez eN fJ _ aj a w inv (fun j oj hj dO pe iR=>Region.free_spec ho xu j oj hj dO pe iR) hr hy hC
   (gj ef ez fJ hK r _ _ w (inv.set hr) nh hC h)
 |.act i r,aj,a,w,inv,hB,hC,h=>by
  simp only [tR,Bool.and_eq_true,decide_eq_true_eq] at hB;obtain ⟨⟨eN,dH⟩,nh⟩:=hB;have hr:i∈Region.ready md ops aj:=by rw [dH];simp
  obtain ⟨_,o,ho,_⟩:=mem_ready.1 hr;refine ⟨hC,by rw [dH];simp,fun j hj=>?_⟩;rw [dH] at hj;have oY:j=i:=by simpa using hj
  subst oY;simp only [fU,ho] at h;exact ⟨eN,gJ ho (fun a' w' h'=>gj ef ez fJ hK r _ a' w' (inv.set hr) nh h'.1 h'.2) h⟩
 |.two i k r s,aj,a,w,inv,hB,hC,h=>by
  simp only [tR,Bool.and_eq_true,decide_eq_true_eq] at hB;obtain ⟨⟨⟨⟨⟨eN,xo⟩,hlen⟩,dH⟩,iI⟩,nh⟩:=hB;have IY:i∈Region.ready md ops aj:=by rw [dH];simp
  have IZ:k∈Region.ready md ops aj:=by rw [dH];simp
  obtain ⟨_,o,ho,_⟩:=mem_ready.1 IY;obtain ⟨_,o',yx,_⟩:=mem_ready.1 IZ;simp only [fU,ho,yx] at h;refine ⟨hC,by rw [dH];simp,fun j hj=>?_⟩;rw [dH] at hj;simp only [mem_cons,not_mem_nil,or_false] at hj;rcases hj with rfl|rfl
  ·exact ⟨eN,gJ ho (fun a' w' h'=>gj ef ez fJ hK r _ a' w' (inv.set IY) iI h'.1 h'.2) h.1⟩
  ·refine ⟨xo,gJ yx (fun a' w' h'=>?_) h.2⟩;have:=gj ef ez fJ hK s _ a' w' (inv.set IZ) nh h'.1 h'.2;rw [←hlen] at this;exact this
 |.three i k m r s t,aj,a,w,inv,hB,hC,h=>by
  simp only [tR,Bool.and_eq_true,decide_eq_true_eq] at hB;obtain ⟨⟨⟨⟨⟨⟨⟨⟨eN,xo⟩,WG⟩,hlen⟩,PS⟩,dH⟩,iI⟩,nh⟩,Zo⟩:=hB;have IY:i∈Region.ready md ops aj:=by rw [dH];simp
  have IZ:k∈Region.ready md ops aj:=by rw [dH];simp
  have PG:m∈Region.ready md ops aj:=by rw [dH];simp
  obtain ⟨_,o,ho,_⟩:=mem_ready.1 IY;obtain ⟨_,o',yx,_⟩:=mem_ready.1 IZ;obtain ⟨_,o2,K2,_⟩:=mem_ready.1 PG;simp only [fU,ho,yx,K2] at h;refine ⟨hC,by rw [dH];simp,fun j hj=>?_⟩;rw [dH] at hj;simp only [mem_cons,not_mem_nil,or_false] at hj;rcases hj with rfl|rfl|rfl
  ·exact ⟨eN,gJ ho (fun a' w' h'=>gj ef ez fJ hK r _ a' w' (inv.set IY) iI h'.1 h'.2) h.1⟩
  ·refine ⟨xo,gJ yx (fun a' w' h'=>?_) h.2.1⟩;have:=gj ef ez fJ hK s _ a' w' (inv.set IZ) nh h'.1 h'.2;rw [←hlen] at this;exact this
  ·refine ⟨WG,gJ K2 (fun a' w' h'=>?_) h.2.2⟩;have:=gj ef ez fJ hK t _ a' w' (inv.set PG) Zo h'.1 h'.2;rw [←PS] at this;exact this
def PT (md:Region.Mode) (ops:Array Oper) (n:Nat) (t:C3) (z:List Nat):Bool:=
 Region.noSelect ops && decide (n≤ops.size) && decide (t.len+z.length=ops.size) && z.all (fun j=>decide (n≤j)) && wC md ops n [] &&
  tR md ops n (oH md ops z) t (Array.replicate ops.size false)
theorem jy {id:Nat} {Q:Exit→Act→World→Prop} {a:Act} {w:World} {l:List Oper} (C:World→Prop) (n:Nat) (t:C3) (z:List Nat) (hm:P.follows .mixedOrders=true) (hB:PT .any l.toArray n t z=true) (hC:C w.drew)
 (h:fU P l.toArray C (fun a w=>wpList P l.toArray (mu Q) (aQ l.toArray z) a w) t a w.drew):(Code.region id l.toArray true).wp P Q a w:=by
 simp only [PT,Bool.and_eq_true,decide_eq_true_eq] at hB;obtain ⟨⟨⟨⟨⟨ef,hn⟩,hlen⟩,hz⟩,ez⟩,tu⟩:=hB;have My:∀j∈z,n≤j:=fun j hj=>by simpa using List.all_eq_true.1 hz j hj
 have tv:mr .any l.toArray [] (Array.replicate l.toArray.size false):=⟨fun j oj _ hl=>(by rw [getD_replicate_false] at hl;cases hl),fun t ht=>absurd ht (by simp)⟩
 let L:Array Bool→Act→World→Prop:=fun aj a w=>oH .any l.toArray z aj=true∧wpList P l.toArray (mu Q) (aQ l.toArray z) a w
 have h1:=gj (P:=P) (md:= .any) (ops:=l.toArray) (n:=n) (C:=C) (L:=L) (next:=oH .any l.toArray z) (K:=fun a w=>wpList P l.toArray (mu Q) (aQ l.toArray z) a w) (Region.noSelect_spec ef) (oF ez)
  (fun aj a w hL=>vh My hL.1) (fun aj a w hs _ hk=>⟨hs,hk⟩) t _ a w.drew tv tu hC h;have h2:=kT (P:=P) (md:= .any) (L':=LQ .any l.toArray Q) (g:=z.length) hn (fun aj a w hL=>jw z aj a w hL.1 hL.2) t.len _ a w.drew h1;have h3:=gW (P:=P) (md:= .any) (Q:=Q) (g:=0) (n:=l.toArray.size) (C:=fun _=>True) (L:=LQ .any l.toArray Q) (fun aj a w hL=>hL) _ _ a w.drew h2;refine wp_region_any hm ?_;rw [show t.len+z.length+0=l.toArray.size by omega] at h3;exact h3
end
theorem lT (B g n:Nat) (xs:List UInt8) (s:jE) (w:World) (hc:jZ B g xs s w) (h1:1≤n) (h2:n≤1000000000) :
 Calls Tryz.prog 32 #[.pointer (some ⟨g,0,none⟩),.int .i64 (n:Int)] w fun e w'=>∃k s',k<n∧e = .returned (.int .i64 (k:Int))∧jZ B g xs s' w'∧w.grownBy w' (some g):=
 (fe B g n xs s w hc h1 h2).mono (fun _ _ h=>⟨_,_,fc xs n s h1,h.1,h.2.1,h.2.2⟩)
theorem wS (B g n:Nat) (xs:List UInt8) (s:jE) (w:World) (hc:jZ B g xs s w) (h1:1≤n) (h2:n≤1000000000) :
 Calls Tryz.prog 26 #[.pointer (some ⟨g,0,none⟩),.int .i64 (n:Int)] w fun e w'=>∃b s',e = .returned (.bool b)∧jZ B g xs s' w'∧w.grownBy w' (some g):=
 (wJ B g n xs s w hc h1 h2).mono (fun _ _ h=>⟨_,_,h.1,h.2.1,h.2.2⟩)
theorem zz (B g:Nat) (xs:List UInt8) (s:jE) (L:List Int) (g2 n c:Nat) (w:World) (hc:jZ B g xs s w) (hn:n=L.length) (h0:1≤n) (h1:n≤256) (kL:g2≠g) (hr:Reads w 1 (some ⟨g2,0,none⟩) n (L.map (Value.int .i64))) :
 Calls Tryz.prog 48 #[.pointer (some ⟨g,0,none⟩),.slice (some ⟨g2,0,none⟩) n c] w fun e w'=>∃v s',e = .returned (.int .i64 v)∧jZ B g xs s' w'∧w.grownBy w' (some g):=
 (uw B g xs s L g2 n c w hc hn h0 h1 kL hr).mono (fun _ _ h=>⟨_,_,h.1,h.2.1,h.2.2⟩)
theorem ic (v:World) (cs:Array Value) (e g:Nat) (L:List Int) (hc:cs.toList=L.map (Value.int .i64)) (hg:g=v.heap.size):Reads (v.alloc (.cells cs e)) 1 (some ⟨g,0,none⟩) L.length (L.map (Value.int .i64)):=by
 subst hg;exact pM v cs e L hc
theorem Im {w w':World} {base e size n g:Nat} {v:Value} {xs:List Value} (h:w.ownsRow base e size v n xs) (hg:w.grownBy w' (some g)) (dS:g<base):w'.ownsRow base e size v n xs:=
 aH h (fun b hb=>⟨(h.lt b hb).1,hg.block b (h.lt b hb).2 (fun e=>by have:=(h.lt b hb).1;injection e with e;omega)⟩)
structure Nh (B g:Nat) (xs:List UInt8) (w:World) (e:Ending) (w':World):Prop where
 out:∃(d:aX) (s':jE),e = .returned (.agg #[d.rep,d.slot])∧jZ B g xs s' w'∧w.grownBy w' (some g)
theorem Dl (B g:Nat) (xs:List UInt8) (s:jE) (w:World) (hc:jZ B g xs s w) :
 Calls Tryz.prog 81 #[.pointer (some ⟨g,0,none⟩)] w (Nh B g xs w):=by
 have lv:=hc.lt;have o8:=Hi (fun w s hc=>lT B g 3 xs s w hc (by omega) (by omega));have Uv:=Hi (fun w s hc=>lT B g 5 xs s w hc (by omega) (by omega));have TN:=Hi (fun w s hc=>wS B g 25 xs s w hc (by omega) (by omega));have Z8:=Hi (fun w s g2 c hc hg hr=>zz B g xs s [0,6,7] g2 3 c w hc rfl (by omega) (by omega) hg hr);have D:=Hi ((DW.start hc).iW 25 [cO,cO]);clear hc;go_enter Tryz.func81,Tryz.ntmps81;go_wp2_with fail;refine (o8.o _ _ D.o.cu).mono ?_;rintro e w1 ⟨k1,s1,DI,rfl,dd,cQ⟩;replace D:=Hi (D.o.call dd cQ);clear dd cQ;go_wp2_with fail;refine (o8.o _ _ D.o.cu).mono ?_;rintro e w2 ⟨k2,s2,xt,rfl,dd,cQ⟩;replace D:=Hi (D.o.call dd cQ);clear dd cQ;obtain ⟨gx,df⟩:∃x,x=w2.heap.size:=⟨_,rfl⟩;have zx:=Hi df;clear df;obtain ⟨r,hr⟩:∃r:Int,r=(k1:Int):=⟨_,rfl⟩;obtain ⟨q,hq⟩:∃r:Int,r=1+(k2:Int):=⟨_,rfl⟩;go_wp2_with ((with_reducible apply Gs 25);rw [←zx.o,←hr,←hq];go_must (refine Fr _ gx 25 0 [r,q] [] [cO,cO] [] _ rfl rfl aC (by rw [zx.o];exact bH w2 _ _) rfl rfl rfl (Oc rfl) ?_;intro w4 aD hg;replace D:=Hi (show DW B g xs w [(gx,25,[r,q]),(w,25,[cO,cO])] [] s2 w4 from DW.put (l:=[]) ((D.o.iW 25 [cO,cO]).cast zx.o.symm) hg (by simpa using aD));clear aD hg));clear hr hq;refine (TN.o _ _ D.o.cu).mono ?_;rintro e w5 ⟨b,s3,rfl,dd,cQ⟩;replace D:=Hi (D.o.call dd cQ);clear dd cQ;cases b with
 |false=>
  go_wp2_with (first|((with_reducible apply Gl 25);refine Fn _ ⟨gx,0,none⟩ rfl [r,q] aC rfl (ag (DW.b0 (l:=[]) D.o)) ?_)|((with_reducible apply Gs 25);go_must (refine Fr _ w 25 0 [r,q] [] [cO,cO] [] _ rfl rfl aC (DW.b0 (l:=[_]) D.o) rfl rfl rfl (Oc rfl) ?_;intro v10 eJ ei))|fail);have X:=Hi (D.o.put (l:=[_]) ei (by simpa using eJ));clear D ei;exact bh rfl ⟨w,0,none⟩ rfl [r,q] aC rfl (ag (by simpa using eJ)) rfl ⟨⟨⟨r,q⟩,_,rfl,X.o.cu,X.o.gr⟩⟩
 |true=>
  go_wp2_with fail;refine (Uv.o _ _ D.o.cu).mono ?_;rintro e w6 ⟨k3,s4,Gf,rfl,dd,cQ⟩;replace D:=Hi (D.o.call dd cQ);clear dd cQ;obtain ⟨r2,rl⟩:∃r:Int,r=(k3:Int)-1:=⟨_,rfl⟩;go_wp2_with fail;refine (Z8.o _ _ _ _ (D.o.alloc _).cu (by have:=D.o.gr.size;omega) (ic _ _ _ _ [0,6,7] rfl rfl)).mono ?_;rintro e w7 ⟨q2,s5,rfl,dd,cQ⟩;replace D:=Hi ((D.o.alloc _).call dd cQ);clear dd cQ;rw [←rl];clear rl;go_wp2_with (first|((with_reducible apply Gs 25);(refine Fr _ gx 25 0 [r2,q2] [] [r,q] [] _ rfl rfl aC (DW.b0 (l:=[]) D.o) rfl rfl rfl (Oc rfl) ?_;intro v8 aD hg;replace D:=Hi (D.o.put (l:=[]) hg (by simpa using aD));clear aD hg))|((with_reducible apply Gl 25);refine Fn _ ⟨gx,0,none⟩ rfl [r2,q2] aC rfl (ag (DW.b0 (l:=[]) D.o)) ?_)|((with_reducible apply Gs 25);go_must (refine Fr _ w 25 0 [r2,q2] [] [cO,cO] [] _ rfl rfl aC (DW.b0 (l:=[_]) D.o) rfl rfl rfl (Oc rfl) ?_;intro v10 eJ ei))|fail);have X:=Hi (D.o.put (l:=[_]) ei (by simpa using eJ));clear D ei;exact bh rfl ⟨w,0,none⟩ rfl [r2,q2] aC rfl (ag (by simpa using eJ)) rfl ⟨⟨⟨r2,q2⟩,_,rfl,X.o.cu,X.o.gr⟩⟩
noncomputable def zP (x y:ak):Bool:=(x.status == 1) && ((y.status == 1) && ((x.bB == x.id.rep) && ((y.bB == x.id.rep) && (x.same && (y.same && ((x.seq == y.seq) && decide (x.al=y.al)))))))
theorem BS (x:ak) (ot:List Value) (y:ak) (Lz:List Value) (w:World) (jO:x.c.wt≤1048576) (IB:y.c.wt≤1048576) (h0:aM bM w x.c ot) (h1:aM bM w y.c Lz) :
 Calls Tryz.prog 113 #[.agg ot.toArray,.agg Lz.toArray] w fun e w'=>e = .returned (.bool (zP x y))∧Below w w w':=by
 have lp:x.c.wt=(x.cmd.set.length+(x.cmd.name.length+(x.cmd.tag.length+(x.cmd.chunks.length+(cat cN x.cmd.chunks).wt+(x.al.length+(cat aX.c x.al).wt+0))))):=rfl;obtain ⟨pz,pA,tE,sy,rfl,ou,ov⟩:=ak.open h0;obtain ⟨⟨a0,a1⟩,a2,a3,a4,⟨a5,a6,a7,a8,a9,dR,dU,ec⟩,dN,gX,dV⟩:=x;have qT:y.c.wt=(y.cmd.set.length+(y.cmd.name.length+(y.cmd.tag.length+(y.cmd.chunks.length+(cat cN y.cmd.chunks).wt+(y.al.length+(cat aX.c y.al).wt+0))))):=rfl;obtain ⟨QY,QZ,Xx,Xy,rfl,IC,ID⟩:=ak.open h1;obtain ⟨⟨b0,b1⟩,b2,b3,b4,⟨b5,b6,b7,b8,b9,o4,qm,qM⟩,rD,IE,EC⟩:=y;simp only [] at ou ov IC ID lp qT ⊢;have YJ:a8.length≤1048576:=by omega
 have JF:a9.length≤1048576:=by omega
 have y5:dR.length≤1048576:=by omega
 have Ml:=Hi ou;clear ou;have To:ec.length+(cat cN ec).wt≤1048576:=by omega
 have JJ:=Hi ov;clear ov;have Po:gX.length+(cat aX.c gX).wt≤1048576:=by omega
 have qX:=Hi (show aM bM w (aX.c ⟨a0,a1⟩) [a0,a1] from aX.shut);have iJ:(aR.c ⟨a5,a6,a7,a8,a9,dR,dU,ec⟩).wt≤1048576:=by have e0:(aR.c ⟨a5,a6,a7,a8,a9,dR,dU,ec⟩).wt=(a8.length+(a9.length+(dR.length+(ec.length+(cat cN ec).wt+0)))):=rfl;omega
 have kb:=Hi (show aM bM w (aR.c ⟨a5,a6,a7,a8,a9,dR,dU,ec⟩) [a5,a6,a7,a8,a9,dR,dU,.slice pz ec pA] from aR.shut Ml.o);have Wb8:b8.length≤1048576:=by omega
 have Xz:b9.length≤1048576:=by omega
 have Q0:o4.length≤1048576:=by omega
 have U7:=Hi IC;clear IC;have aa2:qM.length+(cat cN qM).wt≤1048576:=by omega
 have U8:=Hi ID;clear ID;have aa3:IE.length+(cat aX.c IE).wt≤1048576:=by omega
 have Q1:=Hi (show aM bM w (aX.c ⟨b0,b1⟩) [b0,b1] from aX.shut);have ED:(aR.c ⟨b5,b6,b7,b8,b9,o4,qm,qM⟩).wt≤1048576:=by have e0:(aR.c ⟨b5,b6,b7,b8,b9,o4,qm,qM⟩).wt=(b8.length+(b9.length+(o4.length+(qM.length+(cat cN qM).wt+0)))):=rfl;omega
 have EF:=Hi (show aM bM w (aR.c ⟨b5,b6,b7,b8,b9,o4,qm,qM⟩) [b5,b6,b7,b8,b9,o4,qm,.slice QY qM QZ] from aR.shut U7.o);clear h0 jO lp h1 IB qT;obtain ⟨R,hR⟩:∃R,R=zP (⟨⟨a0,a1⟩,a2,a3,a4,⟨a5,a6,a7,a8,a9,dR,dU,ec⟩,dN,gX,dV⟩:ak) (⟨⟨b0,b1⟩,b2,b3,b4,⟨b5,b6,b7,b8,b9,o4,qm,qM⟩,rD,IE,EC⟩:ak):=⟨_,rfl⟩;rw [←hR];rw [zP] at hR;simp only [] at hR;have HR:=Hi hR;clear hR;go_enter Tryz.func113,Tryz.ntmps113;cases gB:(a4 == 1)
 case false=>
  go_wp2;go_ret;exact ⟨au (congrArg Value.bool (by rw [HR.o,gB];rfl)),(by repeat' (first|with_reducible (first|exact Br|exact BW.o|apply Bs|apply Ba|apply Bd)|(simp<;>omega)|omega))⟩
 case true=>
  cases cW:(b4 == 1)
  case false=>
   go_wp2;go_ret;exact ⟨au (congrArg Value.bool (by rw [HR.o,gB,cW];rfl)),(by repeat' (first|with_reducible (first|exact Br|exact BW.o|apply Bs|apply Ba|apply Bd)|(simp<;>omega)|omega))⟩
  case true=>
   cases cz:(a3 == a0)
   case false=>
    go_wp2;go_ret;exact ⟨au (congrArg Value.bool (by rw [HR.o,gB,cW,cz];rfl)),(by repeat' (first|with_reducible (first|exact Br|exact BW.o|apply Bs|apply Ba|apply Bd)|(simp<;>omega)|omega))⟩
   case true=>
    cases fh:(b3 == a0)
    case false=>
     go_wp2;go_ret;exact ⟨au (congrArg Value.bool (by rw [HR.o,gB,cW,cz,fh];rfl)),(by repeat' (first|with_reducible (first|exact Br|exact BW.o|apply Bs|apply Ba|apply Bd)|(simp<;>omega)|omega))⟩
    case true=>
     cases gN:dV
     case false=>
      go_wp2;go_ret;exact ⟨au (congrArg Value.bool (by rw [HR.o,gB,cW,cz,fh,gN];rfl)),(by repeat' (first|with_reducible (first|exact Br|exact BW.o|apply Bs|apply Ba|apply Bd)|(simp<;>omega)|omega))⟩
     case true=>
      cases jW:EC
      case false=>
       go_wp2;go_ret;exact ⟨au (congrArg Value.bool (by rw [HR.o,gB,cW,cz,fh,gN,jW];rfl)),(by repeat' (first|with_reducible (first|exact Br|exact BW.o|apply Bs|apply Ba|apply Bd)|(simp<;>omega)|omega))⟩
      case true=>
       cases mN:(dN == rD)
       case false=>
        go_wp2;go_ret;exact ⟨au (congrArg Value.bool (by rw [HR.o,gB,cW,cz,fh,gN,jW,mN];rfl)),(by repeat' (first|with_reducible (first|exact Br|exact BW.o|apply Bs|apply Ba|apply Bd)|(simp<;>omega)|omega))⟩
       case true=>
        go_wp2_with fail;refine (uk gX IE _ _ _ _ _ _ _ rfl rfl (by omega) (by omega) (JJ.o.below (by repeat' (first|with_reducible (first|exact Br|exact BW.o|apply Bs|apply Ba|apply Bd)|(simp<;>omega)|omega))) (U8.o.below (by repeat' (first|with_reducible (first|exact Br|exact BW.o|apply Bs|apply Ba|apply Bd)|(simp<;>omega)|omega)))).mono ?_;rintro e v1 ⟨rfl,hb⟩;have B0:=Hi (bf.below (pq _ _ _ _) hb);have B1:=Hi (bf.below (pr _ _ _ _) hb);have BW:=Hi (show Below w w v1 from Below.trans (by repeat' (first|with_reducible (first|exact Br|exact BW.o|apply Bs|apply Ba|apply Bd)|(simp<;>omega)|omega)) (hb.mono (by first|(simp<;>omega)|omega)));clear hb;cases sA:decide (gX=IE)
        case false=>
         go_wp2;go_ret;exact ⟨au (congrArg Value.bool (by rw [HR.o,gB,cW,cz,fh,gN,jW,mN,sA];rfl)),BW.o⟩
        case true=>
         go_wp2;go_ret;exact ⟨au (congrArg Value.bool (by rw [HR.o,gB,cW,cz,fh,gN,jW,mN,sA];rfl)),BW.o⟩
end Go.Proofs.YtfgliohpdgnmcaaGreat
