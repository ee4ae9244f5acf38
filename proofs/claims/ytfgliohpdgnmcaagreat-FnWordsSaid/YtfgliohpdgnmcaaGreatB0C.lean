/- Lemmas for the walks of one claim (DrawX, RegH, RegI, RegL, DrawY, DrawZ, DrawV, ReadCS). Conditions: bounds on sizes, as each names them. -/
import Derived.Test.YtfgliohpdgnmcaaGreatB04
set_option linter.unusedVariables false
set_option linter.unusedSimpArgs false
set_option maxRecDepth 100000
set_option maxHeartbeats 8000000
namespace Go.Proofs.YtfgliohpdgnmcaaGreat
open Go.RowKit
open List (length_drop map_cons map_toArray map_nil length_cons map_append length_append length_take append_nil flatten_append flatten_cons length_nil flatten_nil)
def jZ (B g:Nat) (xs:List UInt8) (s:jE) (w:World):Prop:=∃(A:Option Addr) (n c:Nat),bf w g 77 #[.slice A n c,.int .i64 (s.i:Int),.int .i64 s.h]∧Reads w 1 A n (xs.map pT)∧n=xs.length∧s.i≤n∧n≤1048576∧B≤g∧∀ad,A=some ad→0<n→ad.block<B
theorem Eh {w:World} {ad:Addr} {v:Value} (h:w.cell? (ad.add 0)=some v):∃b o,ad=⟨b,o,none⟩:=by
 obtain ⟨b,o,sp⟩:=ad;cases sp with
 |none=>exact ⟨b,o,rfl⟩
 |some x=>
  simp only [Addr.add,if_true,World.cell?] at h;split at h<;>cases h
theorem tN {w:World} {g k n:Nat} {A:Option Addr} {xs:List Value} (h:Reads w 1 A n xs) (hA:∀ad,A=some ad→0<n→ad.block≠g) (v:Value):Reads (w.setCell ⟨g,k,none⟩ v) 1 A n xs:=
 ⟨h.1,fun hn=>by
  obtain ⟨ad,e,hc⟩:=h.2 hn;refine ⟨ad,e,fun j u hu=>?_⟩;have h2:=hc j u hu;rw [World.cell?_of_block (w:=w) (w':=w.setCell ⟨g,k,none⟩ v) (Below.heap_setCell _ _ _ _ (by rw [cR];exact hA ad e hn))];exact h2⟩
theorem dG (w:World) (g k:Nat) (v:Value):w.grownBy (w.setCell ⟨g,k,none⟩ v) (some g):=
 ⟨rfl,rfl,rfl,by simp [World.setCell],fun b hb hn=>Below.heap_setCell _ _ _ _ (fun e=>hn (by rw [e]))⟩
theorem qK {a b:World} {r:Option Nat} (h:a.grownBy b r):a.grownBy b.drew r:=⟨h.os,h.tape,h.output,h.size,h.block⟩
theorem bN {a b c:World} {r:Option Nat} (h:a.grownBy b r) (k:b.grownBy c r):a.grownBy c r:=
 ⟨k.os.trans h.os,k.tape.trans h.tape,k.output.trans h.output,Nt h.size k.size,fun j hj hn=>(k.block j (Nat.lt_of_lt_of_le hj h.size) hn).trans (h.block j hj hn)⟩
theorem bP (w:World) (o:Obj):w.grownBy (w.alloc o) none:=
 ⟨rfl,rfl,rfl,by simp,fun k hk _=>Below.block ((Below.refl _ w).alloc Nr o) k hk⟩
theorem eO {a b:World} {r:Option Nat} (h:a.grownBy b none):a.grownBy b r:=⟨h.os,h.tape,h.output,h.size,fun k hk _=>h.block k hk (by simp)⟩
theorem jZ.lt {B g:Nat} {xs:List UInt8} {s:jE} {w:World} (h:jZ B g xs s w):g<w.heap.size:=by
 obtain ⟨A,n,c,hb,_⟩:=h;exact hb.lt
theorem jZ.bL {B g:Nat} {xs:List UInt8} {s:jE} {w w':World} {r:Option Nat} (h:jZ B g xs s w) (hg:w.grownBy w' r) (hr:∀k,r=some k→g<k):jZ B g xs s w':=by
 obtain ⟨A,n,c,hb,dH,nF,eN,hn,Od,hA⟩:=h;refine ⟨A,n,c,hb.bL (hg.block g hb.lt (fun e=>by have:=hr g e.symm;omega)),⟨dH.1,fun I7=>?_⟩,nF,eN,hn,Od,hA⟩;obtain ⟨ad,e,hc⟩:=dH.2 I7;refine ⟨ad,e,fun j u hu=>?_⟩;have h2:=hc j u hu;have dS:=World.block_lt_of_cell? _ _ h2;have cz:=hA ad e I7;rw [World.cell?_of_block (hg.block _ dS (fun e2=>by have:=hr _ e2.symm;rw [cR] at this;omega))];exact h2
theorem jR (B g:Nat) (xs:List UInt8) (s:jE) (w:World) (hc:jZ B g xs s w) :
 Calls Tryz.prog 63 #[.pointer (some ⟨g,0,none⟩)] w fun e w'=>e = .returned (.int .i64 ((dD xs s).1:Int))∧jZ B g xs (dD xs s).2 w'∧w.grownBy w' (some g):=by
 obtain ⟨A,n,c,hb,hr,nF,eN,hn,Od,PA⟩:=hc;have vI:=@Fg xs s;have iR:=@Hd xs s;have Oe:=JT (xs:=xs) (s:=s) (by omega);generalize dD xs s=R at vI iR Oe ⊢;obtain ⟨i,h⟩:=s;obtain ⟨rv,⟨ri,rh⟩⟩:=R;simp only [] at vI iR eN hb Oe;have hA:∀ad,A=some ad→0<n→ad.block≠g:=fun ad e hn=>by have:=PA ad e hn;omega
 have c0:=ah hb 0 rfl;have c1:=ah hb 1 rfl;have c2:=ah hb 2 rfl;have f1:=hb.frozen 1;have f2:=hb.frozen 2;have JU:=(zg (qu h)).2;have K3:=(zg (qu h)).1;have Of:=Hi nF;clear nF;by_cases dS:i<n
 ·obtain ⟨ad,rfl,G7⟩:=hr.2 (by omega);have hl:i<xs.length:=by have:=Of.o;omega
  have He:0<xs.length:=by omega
  obtain ⟨gA,oA,rfl⟩:=Eh (G7 0 (pT xs[0]) (by rw [List.getElem?_map,List.getElem?_eq_getElem He];rfl));have hd:decide ((i:Int)<(n:Int))=true:=by simp;omega
  obtain ⟨hv,dk⟩:=vI hl;injection dk with xL eQ;have HV:=Hi hv;have Cr:=Hi xL;have O6:=Hi eQ;have Sa:=Hi JU;clear vI iR hv xL eQ JU;go_enter Tryz.func63,Tryz.ntmps63;go_wp2;refine ax 13 Ag (by kernel_rfl) (by kernel_rfl) ?_;iterate 13 (refine ae rfl (by kernel_rfl) rfl ?_;go_wp2;refine ⟨rfl,?_⟩)
  refine aO ?_;simp only [eo,ep];go_wp2_with fail;have hh:qu h=wrap64 (wrap64 (h*6364136223846793005)+1442695040888963407):=rfl;rw [←hh];have HH:=Hi hh;clear hh;rw [Sa.o];generalize qu h=h' at *;generalize TA:xK h'=m1 at *;generalize h'/8589934592=q1;generalize h'/35184372088832=q2;generalize bits .xor .i64 q1 q2=q3;have HMm:=Hi TA;clear TA;have qT:bf (w.setCell ⟨g,2,none⟩ (.int .i64 h')) g 77 #[.slice (some ⟨gA,oA,none⟩) n c,(i:Int),h']:=by
   have:=hb.set 2 (.int .i64 h');exact this
  have vg:=tN (k:=2) hr hA (.int .i64 h');have cQ:=dG w g 2 (.int .i64 h');generalize w.setCell ⟨g,2,none⟩ (.int .i64 h')=w1 at qT vg cQ ⊢;clear c0 c1 c2 f1 f2 hb hr;have c0:=ah qT 0 rfl;have c1:=ah qT 1 rfl;have f1:=qT.frozen 1;go_wp2;refine ax 10 OR (by kernel_rfl) (by kernel_rfl) ?_;iterate 10 (refine ae rfl (by kernel_rfl) rfl ?_;go_wp2;refine ⟨rfl,?_⟩)
  refine aO ?_;simp only [eo,ep];have cA:w1.cell? ⟨gA,oA+i,none⟩=some (.int .u8 ((xs[i].toNat:Nat):Int)):=by
   obtain ⟨ad,e,TO⟩:=vg.2 (by omega);injection e with e;subst e;have:=TO i (pT xs[i]) (by rw [List.getElem?_map,List.getElem?_eq_getElem hl];rfl);rw [Aab] at this;exact this
  have Mv:=xs[i].toNat_lt;generalize xs[i]=xb at *;go_wp2;refine ax 15 Ah (by kernel_rfl) (by kernel_rfl) ?_;iterate 15 (refine ae rfl (by kernel_rfl) rfl ?_;go_wp2;refine ⟨rfl,?_⟩)
  refine aO ?_;simp only [eo,ep];go_wp2_with fail;rw [HV.o];have TP:=Hi Oe;clear Oe;go_wp2;go_ret;refine ⟨au rfl,⟨some ⟨gA,oA,none⟩,n,c,?_,tN vg hA _,Of.o,by have:=TP.o;have:=Of.o;simp only;omega,hn,Od,PA⟩,?_⟩
  ·have:=qT.set 1 (.int .i64 ((i:Int)+1));simp only [Cr.o,O6.o];exact this
  ·exact bN cQ (qK (qK (qK (dG w1 g 1 _))))
 ·have hd:decide ((i:Int)<(n:Int))=false:=by simp;omega
  have hv:=iR (by have:=Of.o;omega);injection hv with FW dk;injection dk with xL eQ;have HV:=Hi FW;have Cr:=Hi xL;have O6:=Hi eQ;have Sa:=Hi JU;clear vI iR FW xL eQ JU;go_enter Tryz.func63,Tryz.ntmps63;go_wp2;refine ax 13 Ag (by kernel_rfl) (by kernel_rfl) ?_;iterate 13 (refine ae rfl (by kernel_rfl) rfl ?_;go_wp2;refine ⟨rfl,?_⟩)
  refine aO ?_;simp only [eo,ep];go_wp2_with fail;have hh:qu h=wrap64 (wrap64 (h*6364136223846793005)+1442695040888963407):=rfl;rw [←hh];have HH:=Hi hh;clear hh;rw [Sa.o,←HV.o];have Og:rv≤255:=by rw [HV.o];exact K3
  clear K3 Sa HH;generalize qu h=h' at *;generalize h'/8589934592=q1;generalize h'/35184372088832=q2;generalize bits .xor .i64 q1 q2=q3;have qT:bf (w.setCell ⟨g,2,none⟩ (.int .i64 h')) g 77 #[.slice A n c,(i:Int),h']:=by
   have:=hb.set 2 (.int .i64 h');exact this
  have vg:=tN (k:=2) hr hA (.int .i64 h');have cQ:=dG w g 2 (.int .i64 h');generalize w.setCell ⟨g,2,none⟩ (.int .i64 h')=w1 at qT vg cQ ⊢;clear c0 c1 c2 f1 f2 hb hr;have c0:=ah qT 0 rfl;have c1:=ah qT 1 rfl;have f1:=qT.frozen 1;have TP:=Hi Oe;clear Oe;go_wp2;refine ax 10 OR (by kernel_rfl) (by kernel_rfl) ?_;iterate 10 (refine ae rfl (by kernel_rfl) rfl ?_;go_wp2;refine ⟨rfl,?_⟩)
  refine aO ?_;simp only [eo,ep];go_wp2;go_ret;refine ⟨au rfl,⟨A,n,c,?_,vg,Of.o,by have:=TP.o;have:=Of.o;simp only;omega,hn,Od,PA⟩,qK (qK cQ)⟩;simp only [Cr.o,O6.o];exact qT
theorem fe (B g n:Nat) (xs:List UInt8) (s:jE) (w:World) (hc:jZ B g xs s w) (h1:1≤n) (h2:n≤1000000000) :
 Calls Tryz.prog 32 #[.pointer (some ⟨g,0,none⟩),.int .i64 (n:Int)] w fun e w'=>e = .returned (.int .i64 ((dw xs n s).1:Int))∧jZ B g xs (dw xs n s).2 w'∧w.grownBy w' (some g):=by
 have qe:decide ((n:Int)≤0)=false:=by simp;omega
 have dO:((n:Int) == 0)=false:=by simp;omega
 unfold dw;by_cases hs:n≤256
 ·rw [if_pos hs];have Ei:decide ((n:Int)≤256)=true:=by simp;omega
  have hb:=jQ xs s;have H1:=Hi (fun w hc=>jR B g xs s w hc);generalize dD xs s=R at *;obtain ⟨rv,rs⟩:=R;simp only [] at hb ⊢;go_enter Tryz.func32,Tryz.ntmps32;go_wp2_with fail;refine (H1.o _ hc).mono ?_;rintro e w2 ⟨rfl,iL,hg⟩;have HC:=Hi iL;clear iL;have HG:=Hi hg;clear hg;go_wp2;go_ret;exact ⟨au (by first|rfl|simp),HC.o,HG.o⟩
 ·rw [if_neg hs];have Ei:decide ((n:Int)≤256)=false:=by simp;omega
  have cW:=jQ xs s;have cz:=jQ xs (dD xs s).2;have fh:=jQ xs (dD xs (dD xs s).2).2;have gN:=jQ xs (dD xs (dD xs (dD xs s).2).2).2;have T1:=Hi (fun w hc=>jR B g xs s w hc);have T2:=Hi (fun w hc=>jR B g xs (dD xs s).2 w hc);have T3:=Hi (fun w hc=>jR B g xs (dD xs (dD xs s).2).2 w hc);have T4:=Hi (fun w hc=>jR B g xs (dD xs (dD xs (dD xs s).2).2).2 w hc);simp only [];generalize dD xs (dD xs (dD xs (dD xs s).2).2).2=R4 at *;generalize dD xs (dD xs (dD xs s).2).2=R3 at *;generalize dD xs (dD xs s).2=R2 at *;generalize dD xs s=R1 at *;obtain ⟨r4,s4⟩:=R4;obtain ⟨r3,s3⟩:=R3;obtain ⟨r2,s2⟩:=R2;obtain ⟨r1,s1⟩:=R1;simp only [] at cW cz fh gN ⊢;go_enter Tryz.func32,Tryz.ntmps32;go_wp2_with fail;refine (T1.o _ hc).mono ?_;rintro e w2 ⟨rfl,iL,kL⟩;have H2:=Hi kL;clear kL hc;go_wp2_with fail;refine (T2.o _ iL).mono ?_;rintro e w3 ⟨rfl,rK,eY⟩;have H3:=Hi (bN H2.o eY);clear eY iL H2;go_wp2_with fail;refine (T3.o _ rK).mono ?_;rintro e w4 ⟨rfl,uL,tO⟩;have H4:=Hi (bN H3.o tO);clear tO rK H3;go_wp2_with fail;refine (T4.o _ uL).mono ?_;rintro e w5 ⟨rfl,Fi,kB⟩;have H5:=Hi (bN H4.o kB);clear kB uL H4;have HC:=Hi Fi;clear Fi;go_wp2;go_ret;exact ⟨au (by first|rfl|simp|(congr 1;push_cast;rfl)),HC.o,H5.o⟩
section
variable {P:Program} {md:Region.Mode} {ops:Array Oper}
structure mr (md:Region.Mode) (ops:Array Oper) (fl:List Nat) (aj:Array Bool):Prop where
 closed:∀j oj,ops[j]?=some oj→aj.getD j false=true→∀e∈oj.after,Region.binds md e=true→aj.getD e.on false=true
 C0:∀t∈fl,aj.getD t true=true
theorem mr.set {fl:List Nat} {i:Nat} {aj:Array Bool} (inv:mr md ops fl aj) (hi:i∈Region.ready md ops aj):mr md ops fl (aj.setIfInBounds i true):=by
 obtain ⟨_,oi,Zk,dX⟩:=mem_ready.1 hi;refine ⟨fun j oj hj hl e he hb=>?_,fun t ht=>?_⟩
 ·by_cases y4:i=j
  ·subst y4;have:oj=oi:=Option.some.inj (hj.symm.trans Zk);subst this;exact getD_set_true (dX e he hb)
  ·rw [getD_set_ne false y4] at hl;exact getD_set_true (inv.closed j oj hj hl e he hb)
 ·by_cases y4:i=t
  ·subst y4;rcases Nat.lt_or_ge i aj.size with h|h
   ·simp [h]
   ·simp [h]
  ·rw [getD_set_ne true y4];exact inv.C0 t ht
def pJ (md:Region.Mode) (ops:Array Oper):Nat→Nat→Nat→Bool
 |0,_,_=>false
 |f+1,t,i=>match ops[t]? with
  |none=>false
  |some o=>o.after.toList.any fun e=>Region.binds md e && (e.on == i || pJ md ops f e.on i)
theorem qL {fl:List Nat} {aj:Array Bool} (inv:mr md ops fl aj):∀(f t i:Nat),aj.getD t false=true→pJ md ops f t i=true→aj.getD i false=true
 |0,_,_,_,h=>by simp [pJ] at h
 |f+1,t,i,ht,h=>by
  simp only [pJ] at h;split at h
  ·cases h
  ·rename_i o ho;obtain ⟨e,he,hb⟩:=List.any_eq_true.1 h;simp only [Bool.and_eq_true,Bool.or_eq_true,beq_iff_eq] at hb;have hl:=inv.closed t o ho ht e (by simpa using he) hb.1;rcases hb.2 with h1|h1
   ·rw [←h1];exact hl
   ·exact qL inv f e.on i hl h1
theorem Bi {fl:List Nat} {aj:Array Bool} (inv:mr md ops fl aj) {f t i:Nat} (ht:t∈Region.ready md ops aj) (h:pJ md ops f t i=true):aj.getD i false=true:=by
 obtain ⟨_,o,ho,dX⟩:=mem_ready.1 ht;cases f with
 |zero=>simp [pJ] at h
 |succ f=>
  simp only [pJ,ho] at h;obtain ⟨e,he,hb⟩:=List.any_eq_true.1 h;simp only [Bool.and_eq_true,Bool.or_eq_true,beq_iff_eq] at hb;have hl:=dX e (by simpa using he) hb.1;rcases hb.2 with h1|h1
  ·rw [←h1];exact hl
  ·exact qL inv f e.on i hl h1
def wC (md:Region.Mode) (ops:Array Oper) (n:Nat) (fl:List Nat):Bool:=
 (List.range ops.size).all fun t=>decide (t<n) || fl.contains t || (List.range n).all fun i=>fl.contains i || pJ md ops ops.size t i
def oE (md:Region.Mode) (ops:Array Oper) (n:Nat) (fl:List Nat):Prop:=∀aj,mr md ops fl aj→∀i,i<n→aj.getD i true=false→∀t∈Region.ready md ops aj,t<n
theorem oF {n:Nat} {fl:List Nat} (h:wC md ops n fl=true):oE md ops n fl:=by
 intro aj inv i eN pe t ht;have Zl:t<ops.size:=by
  obtain ⟨_,o,ho,_⟩:=mem_ready.1 ht;exact (Array.getElem?_eq_some_iff.1 ho).1
 have h1:=List.all_eq_true.1 h t (List.mem_range.2 Zl);simp only [Bool.or_eq_true,decide_eq_true_eq] at h1;rcases h1 with (h1|h1)|h1
 ·exact h1
 ·have h2:=inv.C0 t (by simpa using h1);have h3:=(mem_ready.1 ht).1;rw [h2] at h3;cases h3
 ·have h2:=List.all_eq_true.1 h1 i (List.mem_range.2 eN);simp only [Bool.or_eq_true] at h2;rcases h2 with h2|h2
  ·have h3:=inv.C0 i (by simpa using h2);rw [h3] at pe;cases pe
  ·have h3:=Bi inv ht h2;rw [getD_both pe] at h3;cases h3
theorem hU {n i:Nat} {fl:List Nat} {oi:Oper} {v:Value} {C:World→Prop} {L:Array Bool→Act→World→Prop} (hi:ops[i]?=some oi) (ef:∀(j:Nat) (o:Oper) cs b,ops[j]?=some o→o.op ≠ .select cs b)
 (ez:oE md ops n fl) (eN:i<n) (fJ:∀aj a w,L aj a w→∀j∈Region.ready md ops aj,n≤j) :
 ∀(f:Nat) (aj:Array Bool) (a:Act) (w:World),mr md ops fl aj→
  (∀j oj,ops[j]?=some oj→j≠i→aj.getD j true=false→(∀e∈oj.after,Region.binds md e=true→e.on≠i)→oi.apart ops oj=true)→
  i∈Region.ready md ops aj→fv P ops C oi v a→C w→
  dP P md ops n C L f (aj.setIfInBounds i true) (a.put oi.dst v) w→dP P md ops n C L (f+1) aj a w:=by
 intro f;induction f with
 |zero=>
  intro aj a w inv _ hr hy hw H;have pe:=(mem_ready.1 hr).1;refine ⟨hw,fun h=>(by rw [h] at hr;cases hr),fun j hj=>?_⟩;have iQ:=ez aj inv i eN pe j hj;refine ⟨iQ,?_⟩;by_cases oY:j=i
  ·subst oY;exact hy.go hi hw H
  ·have:=fJ _ _ _ H.2 j (ready_mono hj oY);omega
 |succ f ih=>
  intro aj a w inv Aq hr hy hw H;have pe:=(mem_ready.1 hr).1;refine ⟨hw,fun h=>(by rw [h] at hr;cases hr),fun j hj=>?_⟩;have iQ:=ez aj inv i eN pe j hj;refine ⟨iQ,?_⟩;by_cases oY:j=i
  ·subst oY;exact hy.go hi hw H
  ·have h1:=(H.2.2 j (ready_mono hj oY)).2;obtain ⟨Gq,oj,L6,dX⟩:=mem_ready.1 hj;have L7:∀e∈oj.after,Region.binds md e=true→e.on≠i:=fun e he hb heq=>by
    have h1:=dX e he hb;rw [heq,getD_both pe] at h1;cases h1
   have h2:=xW L6 (Aq j oj L6 oY Gq L7) (fun cs b=>ef i oi cs b hi) (fun cs b=>ef j oj cs b L6) hy h1;have Cm:∀k ok,ops[k]?=some ok→k≠i→(aj.setIfInBounds j true).getD k true=false→
    (∀e∈ok.after,Region.binds md e=true→e.on≠i)→oi.apart ops ok=true:=fun k ok hk RB Gr iR=>by
    refine Aq k ok hk RB ?_ iR;by_cases L8:j=k
    ·subst L8;exact Gq
    ·rw [getD_set_ne true L8] at Gr;exact Gr
   refine wpOp_mono (fun a' w' h3=>?_) h2;have DH:C w':=by
    cases f with
    |zero=>exact h3.2.1
    |succ f=>exact h3.2.1
   refine ih (aj.setIfInBounds j true) a' w' (inv.set hj) Cm (ready_mono hr (Ne.symm oY)) h3.1 DH ?_;rw [Array.setIfInBounds_comm _ _ oY];exact h3.2
def jS:Op→Option (TypeId × Array (Nat × Operand))
 |.build t parts=>some (t,parts)
 |_=>none
theorem zj {op:Op} {t:TypeId} {parts:Array (Nat × Operand)} (h:jS op=some (t,parts)):op = .build t parts:=by
 cases op<;>simp [jS] at h
 obtain ⟨rfl,rfl⟩:=h;rfl
def zk (P:Program) (ops:Array Oper) (Q:Exit→Act→World→Prop) (tail:List Oper):List Nat→Act→World→Prop
 |[],a,w=>wpList P ops Q tail a w
 |i::r,a,w=>match ops[i]? with
  |none=>False
  |some o=>match jS o.op with
   |some (t,parts)=>o.guard=none∧∃cells,P.built t (parts.map fun (i,x)=>(i,a.eval x)).toList=some cells∧zk P ops Q tail r (a.put o.dst (.agg cells)) w
   |none=>
    if cU P o.op=true then (Region.wanted o (yielded ops a.tmps)=true→fm o a=true)∧wpList P ops (nC w (zk P ops Q tail r)) [o] a w
    else wpList P ops (j7 w (zk P ops Q tail r)) [o] a w
section
variable {Q:Exit→Act→World→Prop} {tail:List Oper} {i:Nat} {r:List Nat} {a:Act} {w:World} {o:Oper}
theorem qh (hi:ops[i]?=some o) {t:TypeId} {parts:Array (Nat × Operand)} (hb:jS o.op=some (t,parts)) (hg:o.guard=none) (cells:Array Value) (hc:P.built t (parts.map fun (i,x)=>(i,a.eval x)).toList=some cells)
 (h:zk P ops Q tail r (a.put o.dst (.agg cells)) w):zk P ops Q tail (i::r) a w:=by
 simp only [zk,hi,hb];exact ⟨hg,cells,hc,h⟩
theorem qi (hi:ops[i]?=some o) (hb:jS o.op=none) (hk:cU P o.op=true) (hp:fm o a=true)
 (h:wpList P ops (nC w (zk P ops Q tail r)) [o] a w):zk P ops Q tail (i::r) a w:=by
 simp only [zk,hi,hb,hk,if_true];exact ⟨fun _=>hp,h⟩
theorem tP (hi:ops[i]?=some o) (hb:jS o.op=none) (hk:cU P o.op=false)
 (h:wpList P ops (j7 w (zk P ops Q tail r)) [o] a w):zk P ops Q tail (i::r) a w:=by
 simp only [zk,hi,hb,hk,Bool.false_eq_true,if_false];exact h
theorem zl (h:wpList P ops Q tail a w):zk P ops Q tail [] a w:=h
end
theorem oG {a:Act} {o:Oper} {t:TypeId} {parts:Array (Nat × Operand)} (hb:jS o.op=some (t,parts)) {cells:Array Value} (hc:P.built t (parts.map fun (i,x)=>(i,a.eval x)).toList=some cells) (w:World) :
 (execOp a.eval o).run P w = .ok (.value (.agg cells)) w:=by
 obtain ⟨dst,op,type,pos,after,guard⟩:=o;have:=zj hb;simp only at this;subst this;show (do Pure.pure (Next.value (←Instr.build t (parts.map fun (i,x)=>(i,a.eval x)))):Sem Next).run P w=_;rw [Sem.run_bind,run_build w t _ cells hc];simp only [Result.andThen,Sem.run_pure]
def sO (P:Program) (md:Region.Mode) (ops:Array Oper) (n:Nat) (seq:Array Bool→Bool):List Nat→Array Bool→Bool
 |[],aj=>seq aj
 |i::r,aj=>decide (i<n) && (match ops[i]? with
  |none=>false
  |some o=>if (jS o.op).isSome || cU P o.op then (Region.ready md ops aj).contains i && Region.free md ops aj i else decide (Region.ready md ops aj=[i])) &&
  sO P md ops n seq r (aj.setIfInBounds i true)
theorem lO {n:Nat} {fl:List Nat} {Q:Exit→Act→World→Prop} {tail:List Oper} {seq:Array Bool→Bool} (ef:∀(j:Nat) (o:Oper) cs b,ops[j]?=some o→o.op ≠ .select cs b) (ez:oE md ops n fl) (JX:∀aj,seq aj=true→∀j∈Region.ready md ops aj,n≤j) :
 ∀(r:List Nat) (aj:Array Bool) (a:Act) (w:World),mr md ops fl aj→sO P md ops n seq r aj=true→zk P ops Q tail r a w→
  dP P md ops n (Ext w) (fun fD a' w'=>seq fD=true∧wpList P ops Q tail a' w') r.length aj a w
 |[],_,_,w,_,hB,h=>⟨Ext.refl w,hB,h⟩
 |i::r,aj,a,w,inv,hB,h=>by
  simp only [sO,Bool.and_eq_true,decide_eq_true_eq] at hB;obtain ⟨⟨eN,iI⟩,nh⟩:=hB;cases ho:ops[i]? with
  |none=>rw [ho] at iI;cases iI
  |some o=>
   rw [ho] at iI;simp only [zk,ho] at h;simp only at iI;have fJ:∀(aj:Array Bool) (a:Act) (w:World),(seq aj=true∧wpList P ops Q tail a w)→∀j∈Region.ready md ops aj,n≤j:=fun _ _ _ hx=>JX _ hx.1
   cases zZ:jS o.op with
   |some tp=>
    obtain ⟨t,parts⟩:=tp;rw [zZ] at iI h;simp only [Option.isSome_some,Bool.true_or,if_true,Bool.and_eq_true] at iI;have hr:i∈Region.ready md ops aj:=by simpa using iI.1
    obtain ⟨hg,cells,hc,hX⟩:=h;have hw:Region.wanted o (yielded ops a.tmps)=true:=by simp [Region.wanted,hg]
    exact hU ho ef ez eN fJ r.length aj a w inv (fun j oj hj dO pe iR=>Region.free_spec ho iI.2 j oj hj dO pe iR) hr (.inl ⟨hw,fun w2 _=>oG zZ hc w2⟩) (Ext.refl w)
     (lO ef ez JX r _ _ w (inv.set hr) nh hX)
   |none=>
   rw [zZ] at iI h;simp only [Option.isSome_none,Bool.false_or] at iI h;by_cases hk:cU P o.op=true
   ·rw [if_pos hk] at iI h;simp only [Bool.and_eq_true] at iI;have hr:i∈Region.ready md ops aj:=by simpa using iI.1
    obtain ⟨hp,h⟩:=h;simp only [wpList] at h;have key:∃v,fv P ops (Ext w) o v a∧zk P ops Q tail r (a.put o.dst v) w:=by
     by_cases hw:Region.wanted o (yielded ops a.tmps)=true
     ·rw [if_pos hw] at h;rcases h with h|⟨_,_,_,hx⟩
      ·have dk:=aq.op (P:=P) (o:=o) (a:=a) hk (hp hw);unfold Oper.wp at h;cases bX:(execOp a.eval o).run P w with
       |halt x w'=>
        rw [bX] at h;cases x<;>simp only [Oper.upon] at h
        exact h.elim
       |ok nx w'=>
        obtain ⟨rfl,dX⟩:=dk w nx w' bX;rw [bX] at h;have Ar:∃v,nx = .value v:=by
         obtain ⟨dst,op,type,pos,after,guard⟩:=o;have jK:∀{s:Sem Value},(do Pure.pure (Next.value (←s)):Sem Next).run P w' = .ok nx w'→∃v,nx = .value v:=fun {s} hs=>by
          rw [Sem.run_bind] at hs;cases mK:s.run P w' with
          |halt _ _=>rw [mK] at hs;cases hs
          |ok v w2=>
           rw [mK] at hs;simp only [Result.andThen,Sem.run_pure,Result.ok.injEq] at hs;exact ⟨v,hs.1.symm⟩
         cases op<;>first|exact absurd hk Bool.false_ne_true|exact jK bX|skip
         case move x=>simp only [execOp,Sem.run_pure,Result.ok.injEq] at bX;exact ⟨_,bX.1.symm⟩
         case assign x=>simp only [execOp,Sem.run_pure,Result.ok.injEq] at bX;exact ⟨_,bX.1.symm⟩
         case pick c x y=>
          simp only [execOp,Sem.run_bind] at bX;cases mK:(asBool (a.eval c)).run P w' with
          |halt _ _=>rw [mK] at bX;cases bX
          |ok v w2=>
           rw [mK] at bX;simp only [Result.andThen,Sem.run_pure,Result.ok.injEq] at bX;exact ⟨_,bX.1.symm⟩
         case nilCheck x=>
          have As:=hp hw;simp only [fm] at As;simp only [execOp] at bX;split at As
          ·rename_i ad he;rw [he] at bX;simp only [Sem.run_pure,Result.ok.injEq] at bX;exact ⟨_,bX.1.symm⟩
          ·cases As
         case call c=>
          obtain ⟨⟨x,t⟩,hc⟩:=Option.isSome_iff_exists.1 (show (mJ c).isSome=true from hk);have pc:=jJ hc;subst pc;refine jK (s:=Builtin.len_ #[t] type #[a.eval x]) ?_;rw [←bX];simp only [execOp,resolve,invoke,builtin,Sem.run_bind,Sem.run_pure,Result.andThen_ok,map_toArray,map_cons,map_nil]
        obtain ⟨v,rfl⟩:=Ar;simp only [Oper.upon] at h;exact ⟨v,.inl ⟨hw,fun w2 mA=>dX w2 mA⟩,h.2⟩
      ·exact hx.elim
     ·rw [if_neg hw] at h;exact ⟨undef,.inr ⟨by simpa using hw,rfl⟩,h.2⟩
    obtain ⟨v,hy,hX⟩:=key;exact hU ho ef ez eN fJ r.length aj a w inv (fun j oj hj dO pe iR=>Region.free_spec ho iI.2 j oj hj dO pe iR) hr hy (Ext.refl w)
     (lO ef ez JX r _ _ w (inv.set hr) nh hX)
   ·rw [if_neg hk] at iI h;have fQ:Region.ready md ops aj=[i]:=by simpa using iI
    have hr:i∈Region.ready md ops aj:=by rw [fQ];simp
    refine ⟨Ext.refl w,by rw [fQ];simp,fun j hj=>?_⟩;rw [fQ] at hj;have oY:j=i:=by simpa using hj
    subst oY;refine ⟨eN,?_⟩;have step:∀a' w',j7 w (zk P ops Q tail r) .normal a' w'→dP P md ops n (Ext w) (fun fD a' w'=>seq fD=true∧wpList P ops Q tail a' w') r.length (aj.setIfInBounds j true) a' w':=
     fun a' w' hs=>gV (fun w2 h2=>hs.1.trans h2) _ _ _ _ (lO ef ez JX r _ a' w' (inv.set hr) nh hs.2)
    unfold wpOp;simp only [ho];simp only [wpList] at h;by_cases hw:Region.wanted o (yielded ops a.tmps)=true
    ·rw [if_pos hw] at h ⊢;rcases h with h|⟨_,_,_,hx⟩
     ·exact .inl (pd tr step h)
     ·exact hx.elim
    ·rw [if_neg hw] at h ⊢;exact step _ _ h
def mu (Q:Exit→Act→World→Prop):Exit→Act→World→Prop
 |.normal,a,w=>True∧Q .normal a w
 |_,_,_=>False
def oH (md:Region.Mode) (ops:Array Oper):List Nat→Array Bool→Bool
 |[],aj=>decide (Region.ready md ops aj=[])
 |i::z,aj=>decide (Region.ready md ops aj=[i]) && oH md ops z (aj.setIfInBounds i true)
theorem vh {n:Nat}:∀{z:List Nat} {aj:Array Bool},(∀t∈z,n≤t)→oH md ops z aj=true→∀j∈Region.ready md ops aj,n≤j
 |[],aj,_,h,j,hj=>by simp only [oH,decide_eq_true_eq] at h;rw [h] at hj;cases hj
 |i::z,aj,hz,h,j,hj=>by
  simp only [oH,Bool.and_eq_true,decide_eq_true_eq] at h;rw [h.1] at hj;have:j=i:=by simpa using hj
  subst this;exact hz j (by simp)
def LQ (md:Region.Mode) (ops:Array Oper) (Q:Exit→Act→World→Prop) (aj:Array Bool) (a:Act) (w:World):Prop:=Region.ready md ops aj=[]∧Q .normal a w
def aQ (ops:Array Oper):List Nat→List Oper
 |[]=>[]
 |i::z=>match ops[i]? with|none=>[]|some o=>o::aQ ops z
theorem jw {Q:Exit→Act→World→Prop}:∀(z:List Nat) (aj:Array Bool) (a:Act) (w:World),oH md ops z aj=true→wpList P ops (mu Q) (aQ ops z) a w→
 dP P md ops ops.size (fun _=>True) (LQ md ops Q) z.length aj a w
 |[],aj,a,w,hB,h=>⟨trivial,by simpa [oH] using hB,h.2⟩
 |i::z,aj,a,w,hB,h=>by
  simp only [oH,Bool.and_eq_true,decide_eq_true_eq] at hB;have hr:i∈Region.ready md ops aj:=by rw [hB.1];simp
  obtain ⟨_,o,ho,_⟩:=mem_ready.1 hr;refine ⟨trivial,by rw [hB.1];simp,fun j hj=>?_⟩;rw [hB.1] at hj;have oY:j=i:=by simpa using hj
  subst oY;refine ⟨(Array.getElem?_eq_some_iff.1 ho).1,?_⟩;simp only [aQ,ho] at h;unfold wpOp;simp only [ho];simp only [wpList] at h;have step:∀a' w',wpList P ops (mu Q) (aQ ops z) a' w'→dP P md ops ops.size (fun _=>True) (LQ md ops Q) z.length (aj.setIfInBounds j true) a' w':=fun a' w' h'=>jw z _ a' w' hB.2 h'
  by_cases hw:Region.wanted o (yielded ops a.tmps)=true
  ·rw [if_pos hw] at h ⊢;rcases h with h|⟨_,_,_,hx⟩
   ·refine .inl (pd (fun e a w hs=>?_) step h);cases e<;>first|rfl|exact hs.elim
   ·exact hx.elim
  ·rw [if_neg hw] at h ⊢;exact step _ _ h
theorem kT {n g:Nat} {C:World→Prop} {L L':Array Bool→Act→World→Prop} (hn:n≤ops.size) (hL:∀aj a w,L aj a w→dP P md ops ops.size (fun _=>True) L' g aj a w) :
 ∀(f:Nat) (aj:Array Bool) (a:Act) (w:World),dP P md ops n C L f aj a w→dP P md ops ops.size (fun _=>True) L' (f+g) aj a w
 |0,aj,a,w,h=>by rw [Nat.zero_add];exact hL _ _ _ h.2
 |f+1,aj,a,w,h=>by
  rw [show f+1+g=(f+g)+1 by omega];exact ⟨trivial,h.2.1,fun i hi=>⟨Nat.lt_of_lt_of_le (h.2.2 i hi).1 hn,wpOp_mono (fun a' w' h'=>kT hn hL f _ a' w' h') (h.2.2 i hi).2⟩⟩
def Aao (P:Program):Op→Bool
 |.fieldAddr t _ f=>kh P t f
 |.move _=>true
 |.assign _=>true
 |_=>false
theorem Fl {o:Oper} {a:Act} {w w1:World} {nx:Next} (hk:Aao P o.op=true) (bX:(execOp a.eval o).run P w = .ok nx w1):w1=w∧∃v,nx = .value v∧∀w',(execOp a.eval o).run P w' = .ok nx w':=by
 obtain ⟨dst,op,type,pos,after,guard⟩:=o;cases op<;>first|exact absurd hk Bool.false_ne_true|skip
 case move x=>
  simp only [execOp,Sem.run_pure,Result.ok.injEq] at bX;obtain ⟨rfl,rfl⟩:=bX;exact ⟨rfl,_,rfl,fun w'=>by simp only [execOp,Sem.run_pure]⟩
 case assign x=>
  simp only [execOp,Sem.run_pure,Result.ok.injEq] at bX;obtain ⟨rfl,rfl⟩:=bX;exact ⟨rfl,_,rfl,fun w'=>by simp only [execOp,Sem.run_pure]⟩
 case fieldAddr t x f=>
  have h:kh P t f=true:=hk;unfold kh at h;split at h
  ·rename_i fs OW;split at h
   ·rename_i fd Rz;split at h
    ·rename_i i hi;have kX:i.size≠0:=by simpa using h
     have hr:∀w:World,(Instr.fieldAt t (a.eval x) f).run P w=(do
      let a ←Instr.sureAddr (a.eval x)
      Pure.pure (Value.pointer (some (a.add fd.offset))):Sem Value).run P w:=by
      intro w;unfold Instr.fieldAt;simp only [Sem.run_bind,run_underlying OW,Result.andThen,Rz];cases hs:(Instr.sureAddr (a.eval x)).run P w with
      |halt _ _=>rfl
      |ok a w1=>
       simp only [fieldPlace,Sem.run_bind,sizeOf,typeInfo,Go.program,Sem.run];simp [Sem.run,Result.andThen,hi,kX,Sem.run_bind,Go.program]
     have hex:∀w:World,(execOp a.eval {dst:=dst,op:=Op.fieldAddr t x f,type:=type,pos:=pos,after:=after,guard:=guard}).run P w=(do Pure.pure (Next.value (←(Instr.fieldAt t (a.eval x) f))):Sem Next).run P w:=fun w=>rfl
     rw [hex,Sem.run_bind,hr] at bX;cases hx:a.eval x<;>first|(simp [hx,Instr.sureAddr,Sem.run_bind,Sem.run,Result.andThen] at bX;done)|skip
     rename_i pa;cases pa with
     |none=>simp [hx,Instr.sureAddr,Sem.run_bind,Sem.run,Result.andThen] at bX
     |some ad=>
      simp only [hx,Instr.sureAddr,Sem.run_bind,Sem.run_pure,Result.andThen,Result.ok.injEq] at bX;obtain ⟨rfl,rfl⟩:=bX;exact ⟨rfl,_,rfl,fun w'=>by rw [hex,Sem.run_bind,hr];simp only [hx,Instr.sureAddr,Sem.run_bind,Sem.run_pure,Result.andThen]⟩
    ·cases h
   ·cases h
  ·cases h
def Hj (P:Program) (ops:Array Oper) (K:Act→World→Prop):List Nat→Act→World→Prop
 |[],a,w=>K a w
 |i::r,a,w=>match ops[i]? with
  |none=>False
  |some o=>wpList P ops (nC w (Hj P ops K r)) [o] a w
theorem wD {K:Act→World→Prop} {a:Act} {w:World} (h:K a w):Hj P ops K [] a w:=h
def sP (P:Program) (md:Region.Mode) (ops:Array Oper) (next:Array Bool→Bool):List Nat→Array Bool→Bool
 |[],aj=>next aj
 |i::r,aj=>(match ops[i]? with
  |none=>false
  |some o=>Aao P o.op && (o.guard.isNone && ((Region.ready md ops aj).contains i && Region.free md ops aj i))) && sP P md ops next r (aj.setIfInBounds i true)
theorem ur:oE md ops ops.size []:=fun aj _ i _ _ t ht=>by
 obtain ⟨_,o,ho,_⟩:=mem_ready.1 ht;exact (Array.getElem?_eq_some_iff.1 ho).1
theorem sQ {Q:Exit→Act→World→Prop} {K:Act→World→Prop} {next:Array Bool→Bool} {g:Nat} (ef:∀(j:Nat) (o:Oper) cs b,ops[j]?=some o→o.op ≠ .select cs b)
 (hK:∀aj a w,mr md ops [] aj→next aj=true→K a w→dP P md ops ops.size (fun _=>True) (LQ md ops Q) g aj a w) :
 ∀(r:List Nat) (aj:Array Bool) (a:Act) (w:World),mr md ops [] aj→sP P md ops next r aj=true→Hj P ops K r a w→
  dP P md ops ops.size (fun _=>True) (LQ md ops Q) (r.length+g) aj a w
 |[],aj,a,w,inv,hB,h=>by rw [length_nil,Nat.zero_add];exact hK _ _ _ inv hB h
 |i::r,aj,a,w,inv,hB,h=>by
  simp only [sP,Bool.and_eq_true] at hB;obtain ⟨iI,nh⟩:=hB;cases ho:ops[i]? with
  |none=>rw [ho] at iI;cases iI
  |some o=>
   rw [ho] at iI;simp only [Bool.and_eq_true] at iI;obtain ⟨hk,o7,vg,xu⟩:=iI;have hr:i∈Region.ready md ops aj:=by simpa using vg
   simp only [Hj,ho] at h;have hw:Region.wanted o (yielded ops a.tmps)=true:=by
    have:o.guard=none:=by simpa using o7
    simp [Region.wanted,this]
   simp only [wpList,hw,if_true] at h;rcases h with h|⟨_,_,_,hx⟩
   ·unfold Oper.wp at h;cases bX:(execOp a.eval o).run P w with
    |halt x w'=>
     rw [bX] at h;cases x<;>simp only [Oper.upon] at h
     exact h.elim
    |ok nx w'=>
     obtain ⟨rfl,v,rfl,dX⟩:=Fl hk bX;rw [bX] at h;simp only [Oper.upon] at h;rw [show (i::r).length+g=(r.length+g)+1 by simp only [length_cons];omega];exact hU (fl:=[]) ho ef ur (by exact (Array.getElem?_eq_some_iff.1 ho).1) (fun _ _ _ hx j hj=>by rw [hx.1] at hj;cases hj) _ aj a w' inv (fun j oj hj dO pe iR=>Region.free_spec ho xu j oj hj dO pe iR) hr (.inl ⟨hw,fun w2 _=>dX w2⟩) trivial
      (sQ ef hK r _ _ w' (inv.set hr) nh h.2)
   ·exact hx.elim
theorem mr.JY {fl:List Nat} {aj:Array Bool} (inv:mr md ops [] aj) (h:fl.all (fun t=>aj.getD t true)=true):mr md ops fl aj:=
 ⟨inv.closed,fun t ht=>List.all_eq_true.1 h t ht⟩
def PH (P:Program) (md:Region.Mode) (ops:Array Oper) (n:Nat) (fl r z:List Nat):Bool:=
 Region.noSelect ops && decide (n≤ops.size) && decide (fl.length+r.length+z.length=ops.size) && z.all (fun t=>decide (n≤t)) && wC md ops n fl &&
  sP P md ops (fun aj=>fl.all (fun t=>aj.getD t true) && sO P md ops n (oH md ops z) r aj) fl (Array.replicate ops.size false)
theorem pK {id:Nat} {Q:Exit→Act→World→Prop} {a:Act} {w:World} {l:List Oper} (n:Nat) (fl r z:List Nat) (hm:P.follows .mixedOrders=true) (hB:PH P .any l.toArray n fl r z=true)
 (h:Hj P l.toArray (zk P l.toArray (mu Q) (aQ l.toArray z) r) fl a w.drew):(Code.region id l.toArray true).wp P Q a w:=by
 simp only [PH,Bool.and_eq_true,decide_eq_true_eq] at hB;obtain ⟨⟨⟨⟨⟨ef,hn⟩,hlen⟩,hz⟩,ez⟩,tu⟩:=hB;have My:∀t∈z,n≤t:=fun t ht=>by simpa using List.all_eq_true.1 hz t ht
 have tv:mr .any l.toArray [] (Array.replicate l.toArray.size false):=⟨fun j oj _ hl=>(by rw [getD_replicate_false] at hl;cases hl),fun t ht=>absurd ht (by simp)⟩;have h1:=sQ (P:=P) (md:= .any) (ops:=l.toArray) (Q:=Q) (g:=r.length+z.length) (K:=zk P l.toArray (mu Q) (aQ l.toArray z) r) (Region.noSelect_spec ef) (fun aj a w inv nF hK=>by
  simp only [Bool.and_eq_true] at nF;have h2:=lO (P:=P) (Region.noSelect_spec ef) (oF ez) (fun aj hs=>vh My hs) r aj a w (inv.JY nF.1) nF.2 hK;exact kT hn (fun aj a w hL=>jw z aj a w hL.1 hL.2) r.length aj a w h2) fl _ a w.drew tv tu h;have h3:=gW (P:=P) (md:= .any) (Q:=Q) (g:=0) (n:=l.toArray.size) (C:=fun _=>True) (L:=LQ .any l.toArray Q) (fun aj a w hL=>hL) _ _ a w.drew h1;refine wp_region_any hm ?_;rw [show l.toArray.size=fl.length+(r.length+z.length)+0 by omega];rw [show fl.length+(r.length+z.length)+0=l.toArray.size by omega];rw [show fl.length+(r.length+z.length)+0=l.toArray.size by omega] at h3;exact h3
end
section
variable {P:Program} {md:Region.Mode} {ops:Array Oper}
theorem Bj {o:Oper} {a:Act} {w':World} {nx:Next} (hk:cU P o.op=true) (hp:fm o a=true) (bX:(execOp a.eval o).run P w' = .ok nx w'):∃v,nx = .value v:=by
 obtain ⟨dst,op,type,pos,after,guard⟩:=o;have jK:∀{s:Sem Value},(do Pure.pure (Next.value (←s)):Sem Next).run P w' = .ok nx w'→∃v,nx = .value v:=fun {s} hs=>by
  rw [Sem.run_bind] at hs;cases mK:s.run P w' with
  |halt _ _=>rw [mK] at hs;cases hs
  |ok v w2=>
   rw [mK] at hs;simp only [Result.andThen,Sem.run_pure,Result.ok.injEq] at hs;exact ⟨v,hs.1.symm⟩
 cases op<;>first|exact absurd hk Bool.false_ne_true|exact jK bX|skip
 case move x=>simp only [execOp,Sem.run_pure,Result.ok.injEq] at bX;exact ⟨_,bX.1.symm⟩
 case assign x=>simp only [execOp,Sem.run_pure,Result.ok.injEq] at bX;exact ⟨_,bX.1.symm⟩
 case pick c x y=>
  simp only [execOp,Sem.run_bind] at bX;cases mK:(asBool (a.eval c)).run P w' with
  |halt _ _=>rw [mK] at bX;cases bX
  |ok v w2=>
   rw [mK] at bX;simp only [Result.andThen,Sem.run_pure,Result.ok.injEq] at bX;exact ⟨_,bX.1.symm⟩
 case nilCheck x=>
  have As:=hp;simp only [fm] at As;simp only [execOp] at bX;split at As
  ·rename_i ad he;rw [he] at bX;simp only [Sem.run_pure,Result.ok.injEq] at bX;exact ⟨_,bX.1.symm⟩
  ·cases As
 case call c=>
  obtain ⟨⟨x,t⟩,hc⟩:=Option.isSome_iff_exists.1 (show (mJ c).isSome=true from hk);have pc:=jJ hc;subst pc;refine jK (s:=Builtin.len_ #[t] type #[a.eval x]) ?_;rw [←bX];simp only [execOp,resolve,invoke,builtin,Sem.run_bind,Sem.run_pure,Result.andThen_ok,map_toArray,map_cons,map_nil]
def bare (w:World):World:={w with heap:=#[]}
theorem Hk (w w':World):Ext (bare w) w':=fun b hb=>absurd hb (by simp [bare])
theorem sR {o:Oper} {a:Act} {w w1:World} {nx:Next} (hk:cU P o.op=true) (hp:fm o a=true) (bX:(execOp a.eval o).run P (bare w) = .ok nx w1):w1=bare w∧∃v,nx = .value v∧∀w',(execOp a.eval o).run P w' = .ok nx w':=by
 obtain ⟨rfl,dX⟩:=aq.op (P:=P) (o:=o) (a:=a) hk hp _ _ _ bX;obtain ⟨v,rfl⟩:=Bj hk hp bX;exact ⟨rfl,v,rfl,fun w'=>dX w' (Hk w w')⟩
def K5 (P:Program) (ops:Array Oper) (K:Act→World→Prop):List Nat→Act→World→Prop
 |[],a,w=>K a w
 |i::r,a,w=>match ops[i]? with
  |none=>False
  |some o=>fm o a=true∧wpList P ops (nC (bare w) (fun a' _=>K5 P ops K r a' w)) [o] a (bare w)
theorem Bk {K:Act→World→Prop} {i:Nat} {r:List Nat} {a:Act} {w:World} {o:Oper} (hi:ops[i]?=some o) (hp:fm o a=true) (h:wpList P ops (nC (bare w) (fun a' _=>K5 P ops K r a' w)) [o] a (bare w)):K5 P ops K (i::r) a w:=by
 simp only [K5,hi];exact ⟨hp,h⟩
theorem Em {K:Act→World→Prop} {a:Act} {w:World} (h:K a w):K5 P ops K [] a w:=h
def vi (P:Program) (md:Region.Mode) (ops:Array Oper) (next:Array Bool→Bool):List Nat→Array Bool→Bool
 |[],aj=>next aj
 |i::r,aj=>(match ops[i]? with
  |none=>false
  |some o=>cU P o.op && (o.guard.isNone && ((Region.ready md ops aj).contains i && Region.free md ops aj i))) && vi P md ops next r (aj.setIfInBounds i true)
theorem uu {Q:Exit→Act→World→Prop} {K:Act→World→Prop} {next:Array Bool→Bool} {g:Nat} (ef:∀(j:Nat) (o:Oper) cs b,ops[j]?=some o→o.op ≠ .select cs b)
 (hK:∀aj a w,mr md ops [] aj→next aj=true→K a w→dP P md ops ops.size (fun _=>True) (LQ md ops Q) g aj a w) :
 ∀(r:List Nat) (aj:Array Bool) (a:Act) (w:World),mr md ops [] aj→vi P md ops next r aj=true→K5 P ops K r a w→
  dP P md ops ops.size (fun _=>True) (LQ md ops Q) (r.length+g) aj a w
 |[],aj,a,w,inv,hB,h=>by rw [length_nil,Nat.zero_add];exact hK _ _ _ inv hB h
 |i::r,aj,a,w,inv,hB,h=>by
  simp only [vi,Bool.and_eq_true] at hB;obtain ⟨iI,nh⟩:=hB;cases ho:ops[i]? with
  |none=>rw [ho] at iI;cases iI
  |some o=>
   rw [ho] at iI;simp only [Bool.and_eq_true] at iI;obtain ⟨hk,o7,vg,xu⟩:=iI;have hr:i∈Region.ready md ops aj:=by simpa using vg
   simp only [K5,ho] at h;obtain ⟨hp,h⟩:=h;have hw:Region.wanted o (yielded ops a.tmps)=true:=by
    have:o.guard=none:=by simpa using o7
    simp [Region.wanted,this]
   simp only [wpList,hw,if_true] at h;rcases h with h|⟨_,_,_,hx⟩
   ·unfold Oper.wp at h;cases bX:(execOp a.eval o).run P (bare w) with
    |halt x w'=>
     rw [bX] at h;cases x<;>simp only [Oper.upon] at h
     exact h.elim
    |ok nx w'=>
     obtain ⟨rfl,v,rfl,dX⟩:=sR hk hp bX;rw [bX] at h;simp only [Oper.upon] at h;rw [show (i::r).length+g=(r.length+g)+1 by simp only [length_cons];omega];exact hU (fl:=[]) ho ef ur (by exact (Array.getElem?_eq_some_iff.1 ho).1) (fun _ _ _ hx j hj=>by rw [hx.1] at hj;cases hj) _ aj a w inv (fun j oj hj dO pe iR=>Region.free_spec ho xu j oj hj dO pe iR) hr (.inl ⟨hw,fun w2 _=>dX w2⟩) trivial
      (uu ef hK r _ _ w (inv.set hr) nh h.2)
   ·exact hx.elim
def PI (P:Program) (md:Region.Mode) (ops:Array Oper) (fl z:List Nat):Bool:=
 Region.noSelect ops && decide (fl.length+z.length=ops.size) && vi P md ops (oH md ops z) fl (Array.replicate ops.size false)
theorem uv {id:Nat} {Q:Exit→Act→World→Prop} {a:Act} {w:World} {l:List Oper} (fl z:List Nat) (hm:P.follows .mixedOrders=true) (hB:PI P .any l.toArray fl z=true)
 (h:K5 P l.toArray (fun a w=>wpList P l.toArray (mu Q) (aQ l.toArray z) a w) fl a w.drew):(Code.region id l.toArray true).wp P Q a w:=by
 simp only [PI,Bool.and_eq_true,decide_eq_true_eq] at hB;obtain ⟨⟨ef,hlen⟩,tu⟩:=hB;have tv:mr .any l.toArray [] (Array.replicate l.toArray.size false):=⟨fun j oj _ hl=>(by rw [getD_replicate_false] at hl;cases hl),fun t ht=>absurd ht (by simp)⟩;have h1:=uu (P:=P) (md:= .any) (ops:=l.toArray) (Q:=Q) (g:=z.length) (K:=fun a w=>wpList P l.toArray (mu Q) (aQ l.toArray z) a w) (Region.noSelect_spec ef) (fun aj a w inv nF hK=>jw z aj a w nF hK) fl _ a w.drew tv tu h;have h3:=gW (P:=P) (md:= .any) (Q:=Q) (g:=0) (n:=l.toArray.size) (C:=fun _=>True) (L:=LQ .any l.toArray Q) (fun aj a w hL=>hL) _ _ a w.drew h1;refine wp_region_any hm ?_;rw [show fl.length+z.length+0=l.toArray.size by omega] at h3;exact h3
end
section
variable {P:Program} {md:Region.Mode} {ops:Array Oper}
def gg (C:World→Prop) (K:Act→World→Prop):Exit→Act→World→Prop
 |.normal,a',w'=>C w'∧K a' w'
 |_,_,_=>False
theorem tQ {C:World→Prop} {K:Act→World→Prop} (e:Exit) (a:Act) (w:World) (h:gg C K e a w):e = .normal:=by
 cases e<;>first|rfl|exact h.elim
def xO (P:Program) (ops:Array Oper) (C:World→Prop) (K:Act→World→Prop):List Nat→Act→World→Prop
 |[],a,w=>K a w
 |i::r,a,w=>match ops[i]? with
  |none=>False
  |some o=>∃v,(∀w',C w'→(execOp a.eval o).run P w' = .ok (.value v) w')∧xO P ops C K r (a.put o.dst v) w
def xP (P:Program) (ops:Array Oper) (C:World→Prop) (K:Act→World→Prop):List Nat→Act→World→Prop
 |[],a,w=>K a w
 |i::r,a,w=>match ops[i]? with
  |none=>False
  |some o=>wpList P ops (gg C (xP P ops C K r)) [o] a w
theorem wE {C:World→Prop} {K:Act→World→Prop} {a:Act} {w:World} (h:K a w):xO P ops C K [] a w:=h
theorem wF {C:World→Prop} {K:Act→World→Prop} {a:Act} {w:World} (h:K a w):xP P ops C K [] a w:=h
theorem qj {C:World→Prop} {K:Act→World→Prop} {i:Nat} {r:List Nat} {a:Act} {w:World} {o:Oper} (hi:ops[i]?=some o) (v:Value) (hv:∀w',C w'→(execOp a.eval o).run P w' = .ok (.value v) w') (h:xO P ops C K r (a.put o.dst v) w):xO P ops C K (i::r) a w:=by
 simp only [xO,hi];exact ⟨v,hv,h⟩
theorem lV {C:World→Prop} {K:Act→World→Prop} {i:Nat} {r:List Nat} {a:Act} {w:World} {o:Oper} (hi:ops[i]?=some o) (hk:cU P o.op=true) (hp:fm o a=true) (hg:o.guard=none)
 (h:wpList P ops (nC (bare w) (fun a' _=>xO P ops C K r a' w)) [o] a (bare w)):xO P ops C K (i::r) a w:=by
 have hw:Region.wanted o (yielded ops a.tmps)=true:=by simp [Region.wanted,hg]
 simp only [wpList,hw,if_true] at h;rcases h with h|⟨_,_,_,hx⟩
 ·unfold Oper.wp at h;cases bX:(execOp a.eval o).run P (bare w) with
  |halt x w'=>
   rw [bX] at h;cases x<;>simp only [Oper.upon] at h
   exact h.elim
  |ok nx w'=>
   obtain ⟨rfl,v,rfl,dX⟩:=sR hk hp bX;rw [bX] at h;simp only [Oper.upon] at h;exact qj hi v (fun w' _=>dX w') h.2
 ·exact hx.elim
theorem eM {C:World→Prop} {K:Act→World→Prop} {i:Nat} {r:List Nat} {a:Act} {w:World} {o:Oper} (hi:ops[i]?=some o) (h:wpList P ops (gg C (xP P ops C K r)) [o] a w):xP P ops C K (i::r) a w:=by
 simp only [xP,hi];exact h
theorem bu {a:Act} {o:Oper} {t:TypeId} {x:Operand} {ad:Addr} {v:Value} {w:World} (ho:o.op = .load t x) (hx:a.eval x = .pointer (some ad)) (hs:∀w,(Instr.loadAt t (.pointer (some ad))).run P w=(Sem.load .plain ad Sem.pure:Sem Value).run P w) (hc:w.cell? ad=some v):(execOp a.eval o).run P w = .ok (.value v) w:=by
 unfold execOp;simp only [ho,hx,Sem.run_bind,hs,Sem.run,hc,Result.andThen,Sem.run_pure]
theorem cq {a:Act} {o:Oper} {t:TypeId} {x:Operand} {ad:Addr} {cs:List Value} {w:World} (ho:o.op = .load t x) (hx:a.eval x = .pointer (some ad)) (h:nV P t cs.length) (hc:∀j v,cs[j]?=some v→w.cell? (ad.add j)=some v):(execOp a.eval o).run P w = .ok (.value (.agg cs.toArray)) w:=by
 unfold execOp;simp only [ho,hx,Sem.run_bind,oe w ad cs h hc,Result.andThen,Sem.run_pure]
def JZ (P:Program) (md:Region.Mode) (ops:Array Oper) (n:Nat) (next:Array Bool→Bool):List Nat→Array Bool→Bool
 |[],aj=>next aj
 |i::r,aj=>decide (i<n) && (match ops[i]? with
  |none=>false
  |some o=>o.guard.isNone && ((Region.ready md ops aj).contains i && Region.free md ops aj i)) && JZ P md ops n next r (aj.setIfInBounds i true)
def Hl (md:Region.Mode) (ops:Array Oper) (n:Nat) (next:Array Bool→Bool):List Nat→Array Bool→Bool
 |[],aj=>next aj
 |i::z,aj=>decide (i<n) && decide (Region.ready md ops aj=[i]) && Hl md ops n next z (aj.setIfInBounds i true)
theorem sS {n:Nat} {C:World→Prop} {K:Act→World→Prop} {next:Array Bool→Bool} {L:Array Bool→Act→World→Prop} (hK:∀aj a w,next aj=true→C w→K a w→L aj a w) :
 ∀(z:List Nat) (aj:Array Bool) (a:Act) (w:World),Hl md ops n next z aj=true→C w→xP P ops C K z a w→dP P md ops n C L z.length aj a w
 |[],aj,a,w,hB,hC,h=>⟨hC,hK _ _ _ hB hC h⟩
 |i::z,aj,a,w,hB,hC,h=>by
  simp only [Hl,Bool.and_eq_true,decide_eq_true_eq] at hB;obtain ⟨⟨eN,dH⟩,nh⟩:=hB;have hr:i∈Region.ready md ops aj:=by rw [dH];simp
  obtain ⟨_,o,ho,_⟩:=mem_ready.1 hr;refine ⟨hC,by rw [dH];simp,fun j hj=>?_⟩;rw [dH] at hj;have oY:j=i:=by simpa using hj
  subst oY;refine ⟨eN,?_⟩;simp only [xP,ho] at h;unfold wpOp;simp only [ho];simp only [wpList] at h;have step:∀a' w',gg C (xP P ops C K z) .normal a' w'→dP P md ops n C L z.length (aj.setIfInBounds j true) a' w':=fun a' w' h'=>sS hK z _ a' w' nh h'.1 h'.2
  by_cases hw:Region.wanted o (yielded ops a.tmps)=true
  ·rw [if_pos hw] at h ⊢;rcases h with h|⟨_,_,_,hx⟩
   ·exact .inl (pd tQ step h)
   ·exact hx.elim
  ·rw [if_neg hw] at h ⊢;exact step _ _ h
theorem sT {n g:Nat} {C:World→Prop} {K:Act→World→Prop} {next:Array Bool→Bool} {L:Array Bool→Act→World→Prop} (ef:∀(j:Nat) (o:Oper) cs b,ops[j]?=some o→o.op ≠ .select cs b) (ez:oE md ops n [])
 (fJ:∀aj a w,L aj a w→∀j∈Region.ready md ops aj,n≤j)
 (hK:∀aj a w,next aj=true→C w→K a w→dP P md ops n C L g aj a w) :
 ∀(r:List Nat) (aj:Array Bool) (a:Act) (w:World),mr md ops [] aj→JZ P md ops n next r aj=true→C w→xO P ops C K r a w→dP P md ops n C L (r.length+g) aj a w
 |[],aj,a,w,inv,hB,hC,h=>by rw [length_nil,Nat.zero_add];exact hK _ _ _ hB hC h
 |i::r,aj,a,w,inv,hB,hC,h=>by
  simp only [JZ,Bool.and_eq_true,decide_eq_true_eq] at hB;obtain ⟨⟨eN,iI⟩,nh⟩:=hB;cases ho:ops[i]? with
  |none=>rw [ho] at iI;cases iI
  |some o=>
   rw [ho] at iI;simp only [Bool.and_eq_true] at iI;obtain ⟨o7,vg,xu⟩:=iI;have hr:i∈Region.ready md ops aj:=by simpa using vg
   simp only [xO,ho] at h;obtain ⟨v,hv,h⟩:=h;have hw:Region.wanted o (yielded ops a.tmps)=true:=by
    have:o.guard=none:=by simpa using o7
    simp [Region.wanted,this]
   rw [show (i::r).length+g=(r.length+g)+1 by simp only [length_cons];omega];exact hU (fl:=[]) ho ef ez eN fJ _ aj a w inv (fun j oj hj dO pe iR=>Region.free_spec ho xu j oj hj dO pe iR) hr (.inl ⟨hw,hv⟩) hC
    (sT ef ez fJ hK r _ _ w (inv.set hr) nh hC h)
def PJ (P:Program) (md:Region.Mode) (ops:Array Oper) (n:Nat) (r z1 z2:List Nat):Bool:=
 Region.noSelect ops && decide (n≤ops.size) && decide (r.length+z1.length+z2.length=ops.size) && z2.all (fun t=>decide (n≤t)) && wC md ops n [] &&
  JZ P md ops n (Hl md ops n (oH md ops z2) z1) r (Array.replicate ops.size false)
theorem pL {id:Nat} {Q:Exit→Act→World→Prop} {a:Act} {w:World} {l:List Oper} (C:World→Prop) (n:Nat) (r z1 z2:List Nat) (hm:P.follows .mixedOrders=true) (hB:PJ P .any l.toArray n r z1 z2=true) (hC:C w.drew)
 (h:xO P l.toArray C (xP P l.toArray C (fun a w=>wpList P l.toArray (mu Q) (aQ l.toArray z2) a w) z1) r a w.drew):(Code.region id l.toArray true).wp P Q a w:=by
 simp only [PJ,Bool.and_eq_true,decide_eq_true_eq] at hB;obtain ⟨⟨⟨⟨⟨ef,hn⟩,hlen⟩,hz⟩,ez⟩,tu⟩:=hB;have My:∀t∈z2,n≤t:=fun t ht=>by simpa using List.all_eq_true.1 hz t ht
 have tv:mr .any l.toArray [] (Array.replicate l.toArray.size false):=⟨fun j oj _ hl=>(by rw [getD_replicate_false] at hl;cases hl),fun t ht=>absurd ht (by simp)⟩
 let L:Array Bool→Act→World→Prop:=fun aj a w=>oH .any l.toArray z2 aj=true∧wpList P l.toArray (mu Q) (aQ l.toArray z2) a w
 have h1:=sT (P:=P) (md:= .any) (ops:=l.toArray) (n:=n) (g:=z1.length) (C:=C) (L:=L) (next:=Hl .any l.toArray n (oH .any l.toArray z2) z1) (K:=xP P l.toArray C (fun a w=>wpList P l.toArray (mu Q) (aQ l.toArray z2) a w) z1) (Region.noSelect_spec ef) (oF ez)
  (fun aj a w hL=>vh My hL.1)
  (fun aj a w nF hC hK=>sS (P:=P) (md:= .any) (n:=n) (C:=C) (L:=L) (next:=oH .any l.toArray z2) (fun aj a w hs _ hk=>⟨hs,hk⟩) z1 aj a w nF hC hK) r _ a w.drew tv tu hC h;have h2:=kT (P:=P) (md:= .any) (L':=LQ .any l.toArray Q) (g:=z2.length) hn (fun aj a w hL=>jw z2 aj a w hL.1 hL.2) (r.length+z1.length) _ a w.drew h1;have h3:=gW (P:=P) (md:= .any) (Q:=Q) (g:=0) (n:=l.toArray.size) (C:=fun _=>True) (L:=LQ .any l.toArray Q) (fun aj a w hL=>hL) _ _ a w.drew h2;refine wp_region_any hm ?_;rw [show r.length+z1.length+z2.length+0=l.toArray.size by omega] at h3;exact h3
end
theorem wJ (B g n:Nat) (xs:List UInt8) (s:jE) (w:World) (hc:jZ B g xs s w) (h1:1≤n) (h2:n≤1000000000) :
 Calls Tryz.prog 26 #[.pointer (some ⟨g,0,none⟩),.int .i64 (n:Int)] w fun e w'=>e = .returned (.bool (Eg xs n s).1)∧jZ B g xs (Eg xs n s).2 w'∧w.grownBy w' (some g):=by
 unfold Eg;have H1:=Hi (fun w hc=>fe B g n xs s w hc h1 h2);generalize dw xs n s=R at *;obtain ⟨rv,rs⟩:=R;simp only [];go_enter Tryz.func26,Tryz.ntmps26;go_wp2_with fail;refine (H1.o _ hc).mono ?_;rintro e w2 ⟨rfl,iL,hg⟩;have HC:=Hi iL;clear iL;have HG:=Hi hg;clear hg;by_cases h0:rv=0
 ·subst h0;go_wp2;go_ret;exact ⟨au (by first|rfl|simp),HC.o,HG.o⟩
 ·have hb:((rv:Int) == 0)=false:=by simpa using h0
  have hd:decide (rv=0)=false:=by simpa using h0
  have HD:=Hi hd;clear hd h0;go_wp2;go_ret;exact ⟨au (by rw [HD.o];rfl),HC.o,HG.o⟩
theorem rq {w:World} {base e n:Nat} {v:Value} {l:List UInt8} {b:Nat} {R:Int} (h:w.ownsRow base e 1 v n (l.map pT++[.int .u8 R])) (hR:R=(b:Int)) (hb:b≤255):w.ownsRow base e 1 v n ((l++[UInt8.ofNat b]).map pT):=by
 subst hR;rw [map_append];have:[UInt8.ofNat b].map pT=[.int .u8 (b:Int)]:=by
  simp only [map_cons,map_nil,pT];rw [Aac (by omega)]
 rw [this];exact h
theorem Bw (B g jY:Nat) (xs:List UInt8) (s:jE) (w:World) (hc:jZ B g xs s w) (hm:jY≤1000) :
 Calls Tryz.prog 62 #[.pointer (some ⟨g,0,none⟩),.int .i64 (jY:Int)] w fun e w'=>e = .returned (.string (bs (uq xs jY s).1))∧jZ B g xs (uq xs jY s).2 w'∧w.grownBy w' (some g):=by
 have lv:=hc.lt;have H1:=Hi (fun w hc=>fe B g 4 xs s w hc (by omega) (by omega));have Ht:=fc xs 4 s (by omega);obtain ⟨RT,MG⟩:∃RT,RT=uq xs jY s:=⟨_,rfl⟩;rw [←MG];unfold uq at MG;simp only [] at MG;generalize dw xs 4 s=R1 at *;obtain ⟨Gb,s1⟩:=R1;simp only [] at Ht MG;have H2:=Hi (fun w hc=>fe B g (jY+1) xs s1 w hc (by omega) (by omega));have Jd:=fc xs (jY+1) s1 (by omega);generalize dw xs (jY+1) s1=R2 at *;obtain ⟨fG,s2⟩:=R2;simp only [] at Jd MG;have vR:=Hi (show pF xs Gb fG [] s2=RT from MG.symm);clear MG;have Cc:((jY+1:Nat):Int)=(jY:Int)+1:=by push_cast;rfl
 rw [Cc] at H2;go_enter Tryz.func62,Tryz.ntmps62;go_wp2_with fail;refine (H1.o _ (hc.bL (bP w _) (fun k hk=>by cases hk))).mono ?_;rintro e w2 ⟨rfl,iL,kL⟩;have hO:(w.alloc (.cells #[] 5)).ownsRow w 5 1 (.slice (some ⟨w,0,none⟩) 0 0) 0 (([]:List UInt8).map pT):=World.ownsRow_made w #[] 0 Nr (by simp [maxLen]) rfl;have Sg:=hO.kept kL (.inr (by simp [Value.ownBlock];omega));have WJ:w.grownBy w2 (some g):=bN (eO (bP w _)) kL;clear kL hO hc;generalize Value.slice (some ⟨w,0,none⟩) 0 0=v0 at Sg ⊢;go_wp2_with fail;refine (H2.o _ iL).mono ?_;rintro e w3 ⟨rfl,rK,eY⟩;have WK:=Sg.kept eY (.inr (fun e=>by have:=(Sg.lt g e).1;omega));have WL:w.grownBy w3 (some g):=bN WJ eY;clear eY iL Sg WJ Cc;have Gc:=Hi (And.intro WK (And.intro rK WL));clear WK rK WL;have kM:=Hi (fun b (hb:b≤255)=>@Fh Gb b hb);have T6:Gb=1∨Gb=2∨(¬Gb=1∧¬Gb=2):=by omega
 rcases T6 with rfl|rfl|⟨tq,mK⟩
 ·go_wp2_with fail;go_loopw [5,7] (fun v i wr=>∃(k:Nat) (l:List UInt8) (st:jE),i = .int .i64 (k:Int)∧l.length+k≤jY∧pF xs 1 k l st=RT∧wr.ownsRow w 5 1 v l.length (l.map pT)∧jZ B g xs st wr∧w.grownBy wr (some g)) (fun _ i _=>(intOf i).toNat);case atStart=>exact ⟨fG,[],s2,rfl,by simp;omega,vR.o,Gc.o.1,Gc.o.2.1,Gc.o.2.2⟩
  case round=>
   clear Gc vR;obtain ⟨k,l,st,rfl,zV,hT,hO,hC,hG⟩:=hrel;have HT:=Hi hT;clear hT;by_cases hk:0<k
   ·obtain ⟨k',rfl⟩:∃k',k=k'+1:=⟨k-1,by omega⟩;have iY:=HT.o;rw [pF] at iY;have H3:=Hi (fun w hc=>jR B g xs st w hc);have nS:=jQ xs st;have aD:=kM.o _ nS;generalize dD xs st=R3 at *;obtain ⟨x,PW⟩:=R3;simp only [] at iY nS aD;have vk:=Hi iY;clear iY HT;go_wp2_with fail;refine (H3.o _ hC).mono ?_;rintro e w4 ⟨rfl,uL,tO⟩;have Lb:=hO.kept tO (.inr (fun e=>by have:=(hO.lt g e).1;omega));have zn:w.grownBy w4 (some g):=bN hG tO;have kX:w.heap.size≤w4.heap.size:=zn.size;clear hO hC hG tO;have HO:=Hi Lb;clear Lb;have HC:=Hi uL;clear uL;have HG:=Hi zn;clear zn;have Je:=Hi aD;clear aD;go_wp2_with (at_builtin;go_must (refine aB jV _ rfl _ _ rfl w _ l.length _ rfl (HO.o.alloc _) _ _ _ _ rfl (Reads.new (e:=5) rfl) (by intro u hu;rw [List.mem_singleton.1 hu];rfl) (by omega) (Nt kX (by simp)) ?_;intro v' w5 dF Bx lu));have hb:=rq (b:=kC 1 x) dF (by rw [show kC 1 x=x%2 from rfl];push_cast;first|rfl|omega) Je.o;exact ⟨⟨k',l++[UInt8.ofNat (kC 1 x)],PW,by first|rfl|go_num,by rw [length_append];show l.length+1+k'≤jY;omega,vk.o,by rw [length_append];exact hb,(HC.o.bL (bP _ _) (fun k hk=>by cases hk)).bL Bx (fun k hk=>by have:=(HO.o.lt k hk).1;omega),bR (bN HG.o (eO (bP _ _))) Bx (fun k hk=> .inr (HO.o.lt k hk).1)⟩,by simp only [intOf];omega⟩
   ·have ni:k=0:=by omega
    subst ni;have iY:(l,st)=RT:=HT.o;subst iY;have HO:=Hi hO;clear hO;go_wp2_with (refine di _ rfl 22 9 _ rfl 5 jV.ht Tryz.underlying5 Tryz.underlying9 w _ _ l rfl (by exact HO.o) ?_);go_ret;exact ⟨au rfl,hC,hG⟩
 ·go_wp2_with fail;go_loopw [5,7] (fun v i wr=>∃(k:Nat) (l:List UInt8) (st:jE),i = .int .i64 (k:Int)∧l.length+k≤jY∧pF xs 2 k l st=RT∧wr.ownsRow w 5 1 v l.length (l.map pT)∧jZ B g xs st wr∧w.grownBy wr (some g)) (fun _ i _=>(intOf i).toNat);case atStart=>exact ⟨fG,[],s2,rfl,by simp;omega,vR.o,Gc.o.1,Gc.o.2.1,Gc.o.2.2⟩
  case round=>
   clear Gc vR;obtain ⟨k,l,st,rfl,zV,hT,hO,hC,hG⟩:=hrel;have HT:=Hi hT;clear hT;by_cases hk:0<k
   ·obtain ⟨k',rfl⟩:∃k',k=k'+1:=⟨k-1,by omega⟩;have iY:=HT.o;rw [pF] at iY;have H3:=Hi (fun w hc=>jR B g xs st w hc);have nS:=jQ xs st;have aD:=kM.o _ nS;generalize dD xs st=R3 at *;obtain ⟨x,PW⟩:=R3;simp only [] at iY nS aD;have vk:=Hi iY;clear iY HT;go_wp2_with fail;refine (H3.o _ hC).mono ?_;rintro e w4 ⟨rfl,uL,tO⟩;have Lb:=hO.kept tO (.inr (fun e=>by have:=(hO.lt g e).1;omega));have zn:w.grownBy w4 (some g):=bN hG tO;have kX:w.heap.size≤w4.heap.size:=zn.size;clear hO hC hG tO;have HO:=Hi Lb;clear Lb;have HC:=Hi uL;clear uL;have HG:=Hi zn;clear zn;have Je:=Hi aD;clear aD;go_wp2_with (at_builtin;go_must (refine aB jV _ rfl _ _ rfl w _ l.length _ rfl (HO.o.alloc _) _ _ _ _ rfl (Reads.new (e:=5) rfl) (by intro u hu;rw [List.mem_singleton.1 hu];rfl) (by omega) (Nt kX (by simp)) ?_;intro v' w5 dF Bx lu));have hb:=rq (b:=kC 2 x) dF (by rw [show kC 2 x=97+x%4 from rfl];push_cast;first|rfl|omega) Je.o;exact ⟨⟨k',l++[UInt8.ofNat (kC 2 x)],PW,by first|rfl|go_num,by rw [length_append];show l.length+1+k'≤jY;omega,vk.o,by rw [length_append];exact hb,(HC.o.bL (bP _ _) (fun k hk=>by cases hk)).bL Bx (fun k hk=>by have:=(HO.o.lt k hk).1;omega),bR (bN HG.o (eO (bP _ _))) Bx (fun k hk=> .inr (HO.o.lt k hk).1)⟩,by simp only [intOf];omega⟩
   ·have ni:k=0:=by omega
    subst ni;have iY:(l,st)=RT:=HT.o;subst iY;have HO:=Hi hO;clear hO;go_wp2_with (refine di _ rfl 22 9 _ rfl 5 jV.ht Tryz.underlying5 Tryz.underlying9 w _ _ l rfl (by exact HO.o) ?_);go_ret;exact ⟨au rfl,hC,hG⟩
 ·have JL:((Gb:Int) == 1)=false:=by simp only [beq_eq_false_iff_ne];omega
  have Mh:((Gb:Int) == 2)=false:=by simp only [beq_eq_false_iff_ne];omega
  have Zt:=Hi (fun x:Nat=>show kC Gb x=x by unfold kC;rw [if_neg tq,if_neg mK]);clear tq mK;go_wp2_with fail;go_loopw [5,7] (fun v i wr=>∃(k:Nat) (l:List UInt8) (st:jE),i = .int .i64 (k:Int)∧l.length+k≤jY∧pF xs Gb k l st=RT∧wr.ownsRow w 5 1 v l.length (l.map pT)∧jZ B g xs st wr∧w.grownBy wr (some g)) (fun _ i _=>(intOf i).toNat);case atStart=>exact ⟨fG,[],s2,rfl,by simp;omega,vR.o,Gc.o.1,Gc.o.2.1,Gc.o.2.2⟩
  case round=>
   clear Gc vR;obtain ⟨k,l,st,rfl,zV,hT,hO,hC,hG⟩:=hrel;have HT:=Hi hT;clear hT;by_cases hk:0<k
   ·obtain ⟨k',rfl⟩:∃k',k=k'+1:=⟨k-1,by omega⟩;have iY:=HT.o;rw [pF] at iY;have H3:=Hi (fun w hc=>jR B g xs st w hc);have nS:=jQ xs st;have aD:=kM.o _ nS;generalize dD xs st=R3 at *;obtain ⟨x,PW⟩:=R3;simp only [] at iY nS aD;have vk:=Hi iY;clear iY HT;go_wp2_with fail;refine (H3.o _ hC).mono ?_;rintro e w4 ⟨rfl,uL,tO⟩;have Lb:=hO.kept tO (.inr (fun e=>by have:=(hO.lt g e).1;omega));have zn:w.grownBy w4 (some g):=bN hG tO;have kX:w.heap.size≤w4.heap.size:=zn.size;clear hO hC hG tO;have HO:=Hi Lb;clear Lb;have HC:=Hi uL;clear uL;have HG:=Hi zn;clear zn;have Je:=Hi aD;clear aD;go_wp2_with (at_builtin;go_must (refine aB jV _ rfl _ _ rfl w _ l.length _ rfl (HO.o.alloc _) _ _ _ _ rfl (Reads.new (e:=5) rfl) (by intro u hu;rw [List.mem_singleton.1 hu];rfl) (by omega) (Nt kX (by simp)) ?_;intro v' w5 dF Bx lu));have hb:=rq (b:=kC Gb x) dF (by rw [Zt.o]) Je.o;exact ⟨⟨k',l++[UInt8.ofNat (kC Gb x)],PW,by first|rfl|go_num,by rw [length_append];show l.length+1+k'≤jY;omega,vk.o,by rw [length_append];exact hb,(HC.o.bL (bP _ _) (fun k hk=>by cases hk)).bL Bx (fun k hk=>by have:=(HO.o.lt k hk).1;omega),bR (bN HG.o (eO (bP _ _))) Bx (fun k hk=> .inr (HO.o.lt k hk).1)⟩,by simp only [intOf];omega⟩
   ·have ni:k=0:=by omega
    subst ni;have iY:(l,st)=RT:=HT.o;subst iY;have HO:=Hi hO;clear hO;go_wp2_with (refine di _ rfl 22 9 _ rfl 5 jV.ht Tryz.underlying5 Tryz.underlying9 w _ _ l rfl (by exact HO.o) ?_);go_ret;exact ⟨au rfl,hC,hG⟩
theorem zo (A:Option Addr) (n c:Nat) (xs:List UInt8) (w:World) (hr:Reads w 1 A n (xs.map pT)) (hn:n≤1048576) :
 Calls Tryz.prog 15 #[.slice A n c] w fun e w'=>∃g,e = .returned (.pointer (some ⟨g,0,none⟩))∧jZ w g xs (CX xs) w'∧Below w w w':=by
 have T7:xs.length=n:=by have:=hr.1;simpa using this
 have WM:∀ad,A=some ad→0<n→ad.block<w.heap.size:=fun ad e h0=>by
  obtain ⟨rQ,e',G7⟩:=hr.2 h0;have:ad=rQ:=by rw [e] at e';injection e'
  subst this;have h1:=G7 0 (pT (xs[0]'(by omega))) (by rw [List.getElem?_map,List.getElem?_eq_getElem (by omega)];rfl);have:=World.block_lt_of_cell? _ _ h1
  rwa [cR] at this
 have H0:=Hi (show (10101:Int)+(n:Int)=Bh xs 0 by rw [Bh,T7]);have GI:=Hi (fun k=>Ff xs k);have HF:=Hi (fun k (h:k=min xs.length 4000)=>show (⟨0,Bh xs k⟩:jE)=CX xs by rw [h];rfl);obtain ⟨NH,WN⟩:∃NH,NH=Bh xs:=⟨_,rfl⟩;rw [←WN] at H0 GI HF;clear WN;generalize CX xs=SF at *;go_enter Tryz.func15,Tryz.ntmps15;go_wp2_with fail;go_loopw [3,4] (fun h i wr=>∃(k:Nat),k≤n∧k≤4000∧i = .int .i64 (k:Int)∧h = .int .i64 (NH k)∧w=wr) (fun _ i _=>n-(intOf i).toNat);case atStart=>exact ⟨0,Nat.zero_le _,by omega,rfl,by rw [←H0.o],rfl⟩
 case round=>
  obtain ⟨k,hk,Ht,rfl,rfl,rfl⟩:=hrel;by_cases dS:k<n∧k<4000
  ·obtain ⟨xC,ti⟩:=dS;have qe:decide ((k:Int)<(n:Int))=true:=by simp;omega
   have Ei:decide ((k:Int)<4000)=true:=by simp;omega
   obtain ⟨ad,rfl,G7⟩:=hr.2 (by omega);have He:0<xs.length:=by omega
   obtain ⟨gA,oA,rfl⟩:=Eh (G7 0 (pT xs[0]) (by rw [List.getElem?_map,List.getElem?_eq_getElem He];rfl));have hl:k<xs.length:=by omega
   have cA:w.cell? ⟨gA,oA+k,none⟩=some (.int .u8 ((xs[k].toNat:Nat):Int)):=by
    have:=G7 k (pT xs[k]) (by rw [List.getElem?_map,List.getElem?_eq_getElem hl];rfl);rw [Aab] at this;exact this
   have T8:=GI.o k;have o7:xs.getD k 0=xs[k]:=by simp [hl]
   rw [o7] at T8;have Cr:=Hi T8;clear T8 o7;have Mv:=xs[k].toNat_lt;go_wp2;exact ⟨⟨k+1,by omega,by omega,by go_num,by rw [Cr.o],by first|rfl|trivial⟩,by simp only [intOf];omega⟩
  ·have fW:=Hi (HF.o k (by omega));by_cases xC:k<n
   ·have qe:decide ((k:Int)<(n:Int))=true:=by simp;omega
    have Ei:decide ((k:Int)<4000)=false:=by simp;omega
    go_wp2;go_ret;exact ⟨_,au rfl,⟨A,n,c,by rw [←fW.o];exact bH _ _ _,hr.below (Br.alloc Nr _),T7.symm,by rw [←fW.o];exact Nat.zero_le _,hn,Nat.le_refl _,WM⟩,(by repeat' (first|with_reducible (first|exact Br|exact BW.o|apply Bs|apply Ba|apply Bd)|(simp<;>omega)|omega))⟩
   ·have qe:decide ((k:Int)<(n:Int))=false:=by simp;omega
    go_wp2;go_ret;exact ⟨_,au rfl,⟨A,n,c,by rw [←fW.o];exact bH _ _ _,hr.below (Br.alloc Nr _),T7.symm,by rw [←fW.o];exact Nat.zero_le _,hn,Nat.le_refl _,WM⟩,(by repeat' (first|with_reducible (first|exact Br|exact BW.o|apply Bs|apply Ba|apply Bd)|(simp<;>omega)|omega))⟩
theorem pM (v:World) (cs:Array Value) (e:Nat) (L:List Int) (hc:cs.toList=L.map (Value.int .i64)):Reads (v.alloc (.cells cs e)) 1 (some ⟨v,0,none⟩) L.length (L.map (Value.int .i64)):=by
 rw [←hc];refine Reads.new ?_;have:=congrArg List.length hc;simpa using this
theorem uw (B g:Nat) (xs:List UInt8) (s:jE) (L:List Int) (g2 n c:Nat) (w:World) (hc:jZ B g xs s w) (hn:n=L.length) (h0:1≤n) (h1:n≤256) (kL:g2≠g) (hr:Reads w 1 (some ⟨g2,0,none⟩) n (L.map (Value.int .i64))) :
 Calls Tryz.prog 48 #[.pointer (some ⟨g,0,none⟩),.slice (some ⟨g2,0,none⟩) n c] w fun e w'=>e = .returned (.int .i64 (L.getD (dw xs n s).1 0))∧jZ B g xs (dw xs n s).2 w'∧w.grownBy w' (some g):=by
 have H1:=Hi (fun w hc=>fe B g n xs s w hc (by omega) (by omega));have dS:=fc xs n s (by omega);generalize dw xs n s=R at *;obtain ⟨rv,rs⟩:=R;simp only [] at dS ⊢;have HR:=Hi hr;clear hr;have HN:=Hi hn;clear hn;go_enter Tryz.func48,Tryz.ntmps48;go_wp2_with fail;refine (H1.o _ hc).mono ?_;rintro e w2 ⟨rfl,iL,hg⟩;have Og:rv<L.length:=by have:=HN.o;omega
 have jU:w2.cell? ⟨g2,rv,none⟩=some (.int .i64 L[rv]):=by
  obtain ⟨ad,e,G7⟩:=HR.o.2 (by omega);injection e with e;subst e;have h2:=G7 rv (.int .i64 L[rv]) (by rw [List.getElem?_map,List.getElem?_eq_getElem Og];rfl);rw [Aab,Nat.zero_add] at h2;have hb:=World.block_lt_of_cell? _ _ h2;rw [World.cell?_of_block (hg.block _ hb (fun e=>kL (by injection e)))];exact h2
 have o7:L.getD rv 0=L[rv]:=by simp [Og]
 have C9:=Hi o7;clear o7;have HC:=Hi iL;clear iL;have HG:=Hi hg;clear hg;generalize L[rv]=val at *;go_wp2;go_ret;exact ⟨au (by rw [C9.o];rfl),HC.o,HG.o⟩
theorem ql (w:World) (base:Nat) (b:Nat) (cs:Array Value) (hb:base≤w.heap.size) (hc:cs=#[.int .u8 (b:Int)]) (Zu:b≤255):(w.alloc (.cells cs 5)).ownsRow base 5 1 (.slice (some ⟨w,0,none⟩) 1 1) 1 ([UInt8.ofNat b].map pT):=by
 subst hc;have:[UInt8.ofNat b].map pT=[.int .u8 (b:Int)]:=by
  simp only [map_cons,map_nil,pT];rw [Aac (by omega)]
 rw [this];exact ⟨rfl,.inr ⟨w,1,_,rfl,hb,heap_alloc_new w _,Nat.le_refl _,by simp [maxLen],rfl,rfl⟩⟩
theorem jZ.below {B g:Nat} {xs:List UInt8} {s:jE} {w w':World} (h:jZ B g xs s w) (hb:Below w w w'):jZ B g xs s w':=by
 obtain ⟨A,n,c,Jf,dH,nF,eN,hn,Od,hA⟩:=h;refine ⟨A,n,c,Jf.below hb,dH.below hb,nF,eN,hn,Od,hA⟩
theorem Fp (B g:Nat) (xs:List UInt8) (s:jE) (l:List UInt8) (w:World) (hc:jZ B g xs s w) (hl:l.length≤1000) :
 Calls Tryz.prog 27 #[.pointer (some ⟨g,0,none⟩),.string (bs l)] w fun e w'=>e = .returned (.string (bs (tM xs s l).1))∧jZ B g xs (tM xs s l).2 w'∧w.grownBy w' (some g):=by
 unfold tM;by_cases He:l=[]
 ·subst He;rw [if_pos rfl];have H1:=Hi (fun w hc=>Bw B g 3 xs s w hc (by omega));generalize uq xs 3 s=R at *;obtain ⟨rv,rs⟩:=R;simp only [] at H1 ⊢;go_enter Tryz.func27,Tryz.ntmps27;go_wp2_with fail;refine (H1.o _ hc).mono ?_;rintro e w2 ⟨rfl,iL,hg⟩;have HC:=Hi iL;clear iL;have HG:=Hi hg;clear hg;go_wp2;go_ret;exact ⟨au rfl,HC.o,HG.o⟩
 ·rw [if_neg He];have hlp:0<l.length:=List.length_pos_iff.2 He;have gB:((l.length:Int) == 0)=false:=by simp only [beq_eq_false_iff_ne];omega
  clear He;simp only [];have H1:=Hi (fun w hc=>fe B g l.length xs s w hc (by omega) (by omega));have hr:=fc xs l.length s (by omega);generalize dw xs l.length s=R1 at *;obtain ⟨r,s1⟩:=R1;simp only [] at H1 hr ⊢;have H2:=Hi (fun w hc=>fe B g 4 xs s1 w hc (by omega) (by omega));have hm:=fc xs 4 s1 (by omega);generalize dw xs 4 s1=R2 at *;obtain ⟨m,s2⟩:=R2;simp only [] at H2 hm ⊢;have Zv:(r:Int)≤(l.length:Int):=by omega
  have Zw:(r:Int)+1≤(l.length:Int):=by omega
  by_cases h0:m=0
  ·subst h0;rw [if_pos rfl];go_enter Tryz.func27,Tryz.ntmps27;go_wp2_with fail;refine (H1.o _ hc).mono ?_;rintro e w2 ⟨rfl,iL,kL⟩;go_wp2_with fail;refine (H2.o _ iL).mono ?_;rintro e w3 ⟨rfl,rK,eY⟩;have HC:=Hi rK;clear rK iL;have HG:=Hi (bN kL eY);clear kL eY;go_wp2;refine ax 9 OQ (by kernel_rfl) (by kernel_rfl) ?_;iterate 9 (refine ae rfl (by kernel_rfl) rfl ?_;go_wp2;refine ⟨rfl,?_⟩)
   refine aO ?_;simp only [eo,ep];go_wp2;go_ret;exact ⟨au (by first|rfl|simp),HC.o,qK HG.o⟩
  ·rw [if_neg h0];have cW:((m:Int) == 0)=false:=by simp only [beq_eq_false_iff_ne];omega
   by_cases h1:m=1
   ·subst h1;rw [if_pos rfl];have H3:=Hi (fun w hc=>jR B g xs s2 w hc);have nS:=jQ xs s2;generalize dD xs s2=R3 at *;obtain ⟨b,s3⟩:=R3;simp only [] at H3 nS ⊢;clear h0 cW;go_enter Tryz.func27,Tryz.ntmps27;go_wp2_with fail;refine (H1.o _ hc).mono ?_;rintro e w2 ⟨rfl,iL,kL⟩;go_wp2_with fail;refine (H2.o _ iL).mono ?_;rintro e w3 ⟨rfl,rK,eY⟩;have HC:=Hi rK;clear rK iL;have HG:=Hi (bN kL eY);clear kL eY;go_wp2;refine uv [0,1,2,3,9,10,11] [4,5,6,7,8,12,13] (by kernel_rfl) (by kernel_rfl) ?_;iterate 7 (refine Bk rfl rfl ?_;go_wp2;refine ⟨rfl,?_⟩)
    refine Em ?_;simp only [aQ,eX,fj,eV];go_wp2_with fail;refine (H3.o _ (HC.o.bL (qK (show w3.grownBy w3 none from ⟨rfl,rfl,rfl,Nat.le_refl _,fun _ _ _=>rfl⟩)) (fun k hk=>by cases hk))).mono ?_;rintro e w4 ⟨rfl,uL,tO⟩;have zn:w.grownBy w4 (some g):=bN (qK HG.o) tO;have J5:=Hi (ql w4 w b #[.int .u8 (b:Int)] zn.size rfl nS);have T9:=Hi (uL.bL (bP w4 (.cells #[.int .u8 (b:Int)] 5)) (fun k hk=>by cases hk));have Ua:=Hi (bN zn (eO (bP w4 (.cells #[.int .u8 (b:Int)] 5)) (r:=some g)));clear uL tO zn;go_wp2_with (refine di _ rfl 22 9 _ rfl 5 jV.ht Tryz.underlying5 Tryz.underlying9 w _ _ [UInt8.ofNat b] rfl (by exact J5.o) ?_);refine ⟨trivial,?_⟩;go_wp2;go_ret;exact ⟨au (by first|rfl|simp),T9.o,Ua.o⟩
   ·rw [if_neg h1];have cz:((m:Int) == 1)=false:=by simp only [beq_eq_false_iff_ne];omega
    by_cases h2:m=2
    ·subst h2;rw [if_pos rfl];go_enter Tryz.func27,Tryz.ntmps27;go_wp2_with fail;refine (H1.o _ hc).mono ?_;rintro e w2 ⟨rfl,iL,kL⟩;go_wp2_with fail;refine (H2.o _ iL).mono ?_;rintro e w3 ⟨rfl,rK,eY⟩;have HC:=Hi rK;clear rK iL;have HG:=Hi (bN kL eY);clear kL eY;go_wp2;go_ret;exact ⟨au (by first|rfl|simp),HC.o,HG.o⟩
    ·rw [if_neg h2];have fh:((m:Int) == 2)=false:=by simp only [beq_eq_false_iff_ne];omega
     have H3:=Hi (fun w hc=>fe B g 255 xs s2 w hc (by omega) (by omega));have nS:=fc xs 255 s2 (by omega);generalize dw xs 255 s2=R3 at *;obtain ⟨b,s3⟩:=R3;simp only [] at H3 nS ⊢;have o7:l.getD r 0=l[r]:=by simp [hr]
     rw [o7];obtain ⟨v,hv⟩:∃v,v=CW l[r] b:=⟨_,rfl⟩;rw [←hv];have xp:=l[r].toNat_lt;obtain ⟨q,PX,Au⟩:=Mu (bits .xor .i64 ((l[r].toNat:Nat):Int) (1+(b:Int)));have WO:v=UInt8.ofNat q:=by rw [hv,CW,Au];rfl
     clear o7;have HV:=Hi WO;clear WO hv h0 h1 h2;go_enter Tryz.func27,Tryz.ntmps27;go_wp2_with fail;refine (H1.o _ hc).mono ?_;rintro e w2 ⟨rfl,iL,kL⟩;go_wp2_with fail;refine (H2.o _ iL).mono ?_;rintro e w3 ⟨rfl,rK,eY⟩;have HC:=Hi rK;clear rK iL;have HG:=Hi (bN kL eY);clear kL eY;go_wp2;refine uv [0,1,2,3,4,5,6,7,15,16,17,18] [8,9,10,11,12,13,14,19,20] (by kernel_rfl) (by kernel_rfl) ?_;iterate 12 (refine Bk rfl rfl ?_;go_wp2;refine ⟨rfl,?_⟩)
     refine Em ?_;simp only [aQ,eX,fj,eV];go_wp2_with fail;refine (H3.o _ (HC.o.bL (qK (show w3.grownBy w3 none from ⟨rfl,rfl,rfl,Nat.le_refl _,fun _ _ _=>rfl⟩)) (fun k hk=>by cases hk))).mono ?_;rintro e w4 ⟨rfl,uL,tO⟩;have zn:w.grownBy w4 (some g):=bN (qK HG.o) tO;have J5:=Hi (ql w4 w q #[.int .u8 (q:Int)] zn.size rfl PX);have T9:=Hi (uL.bL (bP w4 (.cells #[.int .u8 (q:Int)] 5)) (fun k hk=>by cases hk));have Ua:=Hi (bN zn (eO (bP w4 (.cells #[.int .u8 (q:Int)] 5)) (r:=some g)));clear uL tO zn;go_wp2_with (refine di _ rfl 22 9 _ rfl 5 jV.ht Tryz.underlying5 Tryz.underlying9 w _ _ [UInt8.ofNat q] rfl (by exact J5.o) ?_);refine ⟨trivial,?_⟩;go_wp2;go_ret;exact ⟨au (by rw [HV.o];first|rfl|simp),T9.o,Ua.o⟩
theorem _root_.Go.World.ownsRow.iG {w w':World} {base e sz n:Nat} {v:Value} {xs:List Value} (h:w.ownsRow base e sz v n xs) (hb:Below w w w'):w'.ownsRow base e sz v n xs:=
 aH h (fun b hk=>⟨(h.lt b hk).1,hb.block b (h.lt b hk).2⟩)
theorem oP (s:List UInt8):∀(n:Nat) (at_:Int),0≤(fX s n at_).2→at_+n≤(fX s n at_).2∧0≤at_
 |0,at_,h=>by simp only [fX] at h ⊢;omega
 |n+1,at_,h=>by
  by_cases hb:at_<0∨at_>s.length
  ·rw [uS s n _ hb] at h;simp at h
  ·by_cases h0:(bJ (s.drop at_.toNat)).2=0
   ·rw [rY s n _ hb h0] at h;simp at h
   ·rw [rZ s n _ hb h0] at h ⊢;have:=oP s n _ h;simp only [] at this ⊢;omega
theorem vp (s:List UInt8) (at_:Int) (h:0≤(nH s at_).2):at_+1+(nH s at_).1.length≤(nH s at_).2∧0≤at_:=by
 unfold nH at h ⊢;split at h
 ·simp at h
 ·rename_i hc;rw [if_neg hc];have dd:0≤(fX s 1 at_).2:=Int.not_lt.1 fun hh=>hc (.inl hh)
  have:=oP s 1 at_ dd;simp only [length_take,length_drop];omega
theorem FD {s:List UInt8} {l:List Nat} {ta tb tt:List UInt8} {p0 p1 p2 p3 p4:Int} {n:Nat} (hV:fX s 4 0=(l,p0)) (hA:nH s p0=(ta,p1)) (hB:nH s p1=(tb,p2)) (hT:nH s p2=(tt,p3)) (hN:fX s 1 p3=([n],p4))
 (h4:0≤p4) (hn:n≤4) (hl:(s.length:Int)=p4+8*n):(oq s).c.wt≤s.length:=by
 have e4:=oP s 1 p3 (by rw [hN];exact h4);rw [hN] at e4;have e3:=vp s p2 (by rw [hT];exact e4.2);rw [hT] at e3;have e2:=vp s p1 (by rw [hB];exact e3.2);rw [hB] at e2;have e1:=vp s p0 (by rw [hA];exact e2.2);rw [hA] at e1;have e0:=oP s 4 0 (by rw [hV];exact e1.2);rw [hV] at e0;rw [vN];unfold oq;simp only [hV,hA,hB,hT,hN,List.getD_cons_zero] at *;have hf:∀k,(ej s p4.toNat k).flatten.length≤8*k:=fun k=>by
  induction k with
  |zero=>simp [ej]
  |succ k ih=>
   rw [ej,flatten_append,length_append];simp only [flatten_cons,flatten_nil,append_nil,length_take];omega
 have:=hf n;have hk:=lr s p4.toNat n;omega
theorem zu (s:List UInt8) (w:World) (hs:s.length≤1048576) :
 Calls Tryz.prog 30 #[s] w fun e w'=>∃dE,e = .returned (.tuple #[.agg dE.toArray,.bool (dj s).2])∧fO w' w (dj s).1.c dE∧Below w w w':=by
 obtain ⟨R,hR⟩:∃R,R=dj s:=⟨_,rfl⟩;rw [←hR];obtain ⟨l,p0,hV⟩:∃a b,fX s 4 0=(a,b):=⟨_,_,rfl⟩;obtain ⟨ta,p1,hA⟩:∃a b,nH s p0=(a,b):=⟨_,_,rfl⟩;obtain ⟨tb,p2,hB⟩:∃a b,nH s p1=(a,b):=⟨_,_,rfl⟩;obtain ⟨tt,p3,hT⟩:∃a b,nH s p2=(a,b):=⟨_,_,rfl⟩;obtain ⟨ln,p4,hN⟩:∃a b,fX s 1 p3=(a,b):=⟨_,_,rfl⟩;have q0:=jo s 4 0 (by omega) (.inr (by omega));rw [hV] at q0;have q1:=pV s p0 q0.1;rw [hA] at q1;have q2:=pV s p1 q1.1;rw [hB] at q2;have q3:=pV s p2 q2.1;rw [hT] at q3;have q4:=jo s 1 p3 q3.1 (.inr (by omega));rw [hN] at q4;have k0:=nZ s 4 0;rw [hV] at k0;have k4:=nZ s 1 p3;rw [hN] at k4;have la:=uT s p0;rw [hA] at la;have lb:=uT s p1;rw [hB] at lb;have lt:=uT s p2;rw [hT] at lt;simp only [] at q0 q1 q2 q3 q4 k0 k4 la lb lt;obtain ⟨ZX,ZY⟩:=q0;obtain ⟨WX,ZZ⟩:=q1;obtain ⟨Z0,WY⟩:=q2;obtain ⟨q3a,q3b⟩:=q3;obtain ⟨q4a,q4b⟩:=q4;have la':ta.length≤1048576:=by omega
 have lb':tb.length≤1048576:=by omega
 have WZ:tt.length≤1048576:=by omega
 clear la lb lt;have F1:=@CF s;have F3:=@CH s;have F2:=fun n m=>@CG s n m
 simp only [hV,hA,hB,hT,hN,←hR] at F1 F2 F3;have F4:=@CI s;have F5:=@CJ s;rw [←hR] at F4 F5;have Qo:=Hi F1;clear F1;have fW:=Hi F2;clear F2;have kG:=Hi F3;clear F3;have wP:=Hi F4;clear F4;have Qp:=Hi F5;clear F5;have Ou:=Hi k0;clear k0;have Uo:=Hi k4;clear k4;have HV:=Hi hV;clear hV;have HA:=Hi hA;clear hA;have HB:=Hi hB;clear hB;have HT:=Hi hT;clear hT;have HN:=Hi hN;clear hN hR;go_enter Tryz.func30,Tryz.ntmps30;go_wp2_with fail;refine (kn s 0 4 _ (by omega) ⟨by omega,by omega⟩ (by omega)).mono ?_;rintro e v1 ⟨vl,rfl,bg,hb⟩;rw [HV.o] at bg ⊢;simp only [] at bg ⊢;have ZB:=Hi (bf.below (bH w #[cO,cO,cO,cS,cS,cS,cO,cL] 28) hb);have BW:=Hi (show Below w w v1 from Below.trans (by repeat' (first|with_reducible (first|exact Br|exact BW.o|apply Bs|apply Ba|apply Bd)|(simp<;>omega)|omega)) (hb.mono (by first|(simp<;>omega)|omega)));have HZ:=Hi (show w.heap.size+1≤v1.heap.size from Nt (by simp) hb.size);clear hb;have bg:=aH (base':=w.heap.size+1) bg (w':=v1) (fun k hk=>⟨by have:=(bg.lt k hk).1;simp at this;omega,rfl⟩);by_cases h0:p0<0
 ·have lR:=Qo.o h0;subst lR;go_wp2_with ((with_reducible apply Gs 28);refine Fr _ w 28 0 zC [] zC [] _ rfl rfl aN ZB.o rfl rfl rfl (Oc rfl) ?_;intro v9 eJ ei);exact aK rfl ⟨w,0,none⟩ rfl zC _ rfl aN rfl (ag eJ) rfl ⟨_,rfl,eG _ _,Below.grown BW.o ei BW.o.size (fun k hk=>by injection hk with hk;omega)⟩
 ·have W0:=Ou.o.2.1 (by omega);obtain ⟨x0,x1,x2,x3,rfl⟩:∃a b c d,l=[a,b,c,d]:=by
   match l,W0 with
   |[a,b,c,d],_=>exact ⟨a,b,c,d,rfl⟩
  clear W0;obtain ⟨gl,cl,rfl,Qq,Km⟩:=mc bg (by simp);have HL:=Hi bg;clear bg Km;go_wp2_with fail;refine (od s p0 _ (by omega) ⟨by omega,by omega⟩).mono ?_;rintro e v2 ⟨rfl,hb⟩;rw [HA.o];simp only [];replace ZB:=Hi (ZB.o.below hb);replace HL:=Hi (HL.o.iG hb);replace HZ:=Hi (Nt HZ.o hb.size);replace BW:=Hi (Bt BW.o hb);clear hb;go_wp2_with fail;refine (od s p1 _ (by omega) ⟨by omega,by omega⟩).mono ?_;rintro e v3 ⟨rfl,hb⟩;rw [HB.o];simp only [];replace ZB:=Hi (ZB.o.below hb);replace HL:=Hi (HL.o.iG hb);replace HZ:=Hi (Nt HZ.o hb.size);replace BW:=Hi (Bt BW.o hb);clear hb;go_wp2_with fail;refine (od s p2 _ (by omega) ⟨by omega,by omega⟩).mono ?_;rintro e v4 ⟨rfl,hb⟩;rw [HT.o];simp only [];replace ZB:=Hi (ZB.o.below hb);replace HL:=Hi (HL.o.iG hb);replace HZ:=Hi (Nt HZ.o hb.size);replace BW:=Hi (Bt BW.o hb);clear hb;go_wp2_with fail;refine (kn s p3 1 _ (by omega) ⟨by omega,by omega⟩ (by omega)).mono ?_;rintro e v5 ⟨vn,rfl,bg,hb⟩;rw [HN.o] at bg ⊢;simp only [] at bg ⊢;have bg:=aH (base':=w.heap.size+1) bg (w':=v5) (fun k hk=>⟨by have:=(bg.lt k hk).1;have:=HZ.o;omega,rfl⟩);replace ZB:=Hi (ZB.o.below hb);replace HL:=Hi (HL.o.iG hb);replace HZ:=Hi (Nt HZ.o hb.size);replace BW:=Hi (Bt BW.o hb);clear hb;by_cases h4:p4<0
  ·have lR:=kG.o h4;subst lR;go_wp2_with ((with_reducible apply Gs 28);refine Fr _ w 28 0 zC [] zC [] _ rfl rfl aN ZB.o rfl rfl rfl (Oc rfl) ?_;intro v9 eJ ei);exact aK rfl ⟨w,0,none⟩ rfl zC _ rfl aN rfl (ag eJ) rfl ⟨_,rfl,eG _ _,Below.grown BW.o ei BW.o.size (fun k hk=>by injection hk with hk;omega)⟩
  ·have AS:=Uo.o.2.1 (by omega);obtain ⟨n,rfl⟩:∃a,ln=[a]:=by
    match ln,AS with
    |[a],_=>exact ⟨a,rfl⟩
   have FV:=Uo.o.2.2 n (by simp);clear AS;obtain ⟨gn,cn,rfl,Up,Qr⟩:=mc bg (by simp);have qI:=Hi bg;clear bg Qr;have I7:v5.cell? ⟨gn,0,none⟩=some (.int .i64 (n:Int)):=World.ownsRow.cells (g:=gn) qI.o rfl 0 _ rfl;obtain ⟨P,rfl⟩:=Int.eq_ofNat_of_zero_le (show 0≤p4 by omega);by_cases Z1:4<n
   ·have Uq:(4:Int)<(n:Int):=by omega
    have lR:=fW.o n _ rfl (.inl Z1);subst lR;go_wp2_with ((with_reducible apply Gs 28);refine Fr _ w 28 0 zC [] zC [] _ rfl rfl aN ZB.o rfl rfl rfl (Oc rfl) ?_;intro v9 eJ ei);exact aK rfl ⟨w,0,none⟩ rfl zC _ rfl aN rfl (ag eJ) rfl ⟨_,rfl,eG _ _,Below.grown BW.o ei BW.o.size (fun k hk=>by injection hk with hk;omega)⟩
   by_cases vf:(s.length:Int)=(P:Int)+8*(n:Int);case neg=>
    have M5:((s.length:Int) != (P:Int)+8*(n:Int))=true:=by simpa using vf
    have lR:=fW.o n _ rfl (.inr vf);subst lR;go_wp2_with ((with_reducible apply Gs 28);refine Fr _ w 28 0 zC [] zC [] _ rfl rfl aN ZB.o rfl rfl rfl (Oc rfl) ?_;intro v9 eJ ei);exact aK rfl ⟨w,0,none⟩ rfl zC _ rfl aN rfl (ag eJ) rfl ⟨_,rfl,eG _ _,Below.grown BW.o ei BW.o.size (fun k hk=>by injection hk with hk;omega)⟩
   have Uq:¬(4:Int)<(n:Int):=by omega
   have M5:((s.length:Int) != (P:Int)+8*(n:Int))=false:=by simpa using vf
   have Z6:=Hi (show 1≤s.length by have hh:=oP s 1 p3 (by rw [HN.o];simp only [];omega);rw [HN.o] at hh;simp only [] at hh;omega);have og:=Hi (Nt (FD HV.o HA.o HB.o HT.o HN.o (by omega) (by omega) vf) hs);have Es:oq s=⟨(x0:Int),(x1:Int),(x2:Int),ta,tb,tt,(x3:Int),ej s P n⟩:=by
    unfold oq;simp only [HV.o,HA.o,HB.o,HT.o,HN.o,List.getD_cons_zero,List.getD_cons_succ,Int.toNat_natCast]
   have Lf:=Hi Es;clear Es;have Ic:v5.cell? ⟨gl,0,none⟩=some (.int .i64 (x0:Int)):=World.ownsRow.cells (g:=gl) HL.o rfl 0 _ rfl;have dd:v5.cell? ⟨gl,1,none⟩=some (.int .i64 (x1:Int)):=World.ownsRow.cells (g:=gl) HL.o rfl 1 _ rfl;have iL:v5.cell? ⟨gl,2,none⟩=some (.int .i64 (x2:Int)):=World.ownsRow.cells (g:=gl) HL.o rfl 2 _ rfl;have rK:v5.cell? ⟨gl,3,none⟩=some (.int .i64 (x3:Int)):=World.ownsRow.cells (g:=gl) HL.o rfl 3 _ rfl;go_wp2;refine pK 17 [] [0,1,2,3,4,5,6,7,8,9,10,11,12,13,14,15,16] [17] (by kernel_rfl) (by kernel_rfl) ?_;refine wD ?_;iterate 15 (refine qi rfl rfl (by kernel_rfl) rfl ?_;go_wp2;refine ⟨rfl,?_⟩)
   refine qh rfl rfl rfl #[(x0:Int),(x1:Int),(x2:Int),ta,tb,tt,(x3:Int),cL] (by kernel_rfl) ?_;refine tP rfl rfl (by kernel_rfl) ?_;go_wp2;refine ⟨Ext.alloc (Ext.refl _) _,?_⟩;refine zl ?_;simp only [aQ,eX,fj,eV];obtain ⟨gc,Hz⟩:∃g,g=v5.heap.size:=⟨_,rfl⟩;have nW:=Hi Hz;clear Hz I7 Ic dd iL rK;have Qs:=Hi qI.o;go_wp2_with ((with_reducible apply Gs 28);refine Fr _ v5 28 0 [(x0:Int),(x1:Int),(x2:Int),ta,tb,tt,(x3:Int),cL] [] zC [] _ rfl rfl aN ((bH v5 _ _).drew) rfl rfl rfl (Oc rfl) ?_;intro v6 aD pX);refine ⟨trivial,?_⟩;rw [←nW.o] at aD pX ⊢;have CB:=Hi (show bf v6 gc 28 #[(x0:Int),(x1:Int),(x2:Int),ta,tb,tt,(x3:Int),cL] by simpa using aD);have dW:=Hi (show w.heap.size+1≤gc by rw [nW.o];exact HZ.o);have X:=Hi ((ZB.o.alloc _).drew.grown pX (fun e=>by have:=dW.o;omega));clear ZB;have ZB:=Hi X.o;clear X;have X:=Hi ((qI.o.alloc _).drew.kept pX (.inr (fun e=>by have h1:=(qI.o.lt gn rfl).2;have h2:=nW.o;have e2:some gn=some gc:=e;injection e2 with e2;omega)));clear qI;have qI:=Hi X.o;clear X;have X:=Hi (Below.grown (BW.o.alloc BW.o.size _).drew pX (Nt BW.o.size (by simp)) (fun k hk=>by injection hk with hk;have:=dW.o;omega));clear BW;have BW:=Hi X.o;clear X;have eb:=Hi (show gc+1≤v6.heap.size from Nt (by rw [nW.o];simp) pX.size);have FE:=Hi (show gn<gc by rw [nW.o];exact (Qs.o.lt gn rfl).2);clear aD pX;go_wp2;clear Qs HL FV HV HA HB HT HN Ou Uo Qo fW kG;go_loopw [11] (fun ii wr=>∃(j:Nat) (Aj:Option Addr) (kj:Nat),j≤n∧ii = .int .i64 (j:Int)∧bf wr w 28 zC∧bf wr gc 28 #[(x0:Int),(x1:Int),(x2:Int),ta,tb,tt,(x3:Int),.slice Aj j kj]∧wr.ownsRow (gc+1) 9 1 (.slice Aj j kj) j ((ej s P j).map iK)∧wr.ownsRow (w+1) 3 1 (.slice (some ⟨gn,0,none⟩) 1 cn) 1 [xE n]∧Below w w wr∧gc+1≤wr.heap.size) (fun ii _=>n-(intOf ii).toNat);case atStart=>exact ⟨0,none,0,Nat.zero_le _,rfl,ZB.o,CB.o,⟨by simp [ej],.inl ⟨rfl,rfl⟩⟩,qI.o,BW.o,eb.o⟩
   case round=>
    obtain ⟨j,Aj,kj,hj,rfl,eJ,xp,bg,gM,jD,kP⟩:=hrel;clear ZB CB qI BW eb HZ;have ZB:=Hi eJ;clear eJ;have CB:=Hi xp;clear xp;have HO:=Hi bg;clear bg;have qI:=Hi gM;clear gM;have BW:=Hi jD;clear jD;have eb:=Hi kP;clear kP;have I7:wr.cell? ⟨gn,0,none⟩=some (.int .i64 (n:Int)):=World.ownsRow.cells (g:=gn) qI.o rfl 0 _ rfl;by_cases dS:j<n
    ·have iQ:(j:Int)<(n:Int):=by omega
     have hjP:P+8*j+8≤s.length:=by omega
     have Jg:wr.cell? ⟨gc,7,none⟩=some (.slice Aj j kj):=ah CB.o 7 rfl;have dk:(ej s P (j+1))=ej s P j++[(s.drop (P+8*j)).take 8]:=by rw [ej]
     have kM:=Hi dk;clear dk vf M5;go_wp2;refine ax 14 SY (by kernel_rfl) (by kernel_rfl) ?_;iterate 12 (refine ae rfl (by kernel_rfl) rfl ?_;go_wp2;refine ⟨rfl,?_⟩)
     refine ae rfl (by kernel_rfl) rfl ?_;go_wp2;refine ⟨rfl,?_⟩;refine aA rfl (by kernel_rfl) ?_;go_wp2;refine ⟨Ext.alloc (Ext.refl _) _,?_⟩;refine aO ?_;simp only [eo,ep];clear Jg;go_wp2_with (first|(at_builtin;go_must (refine aB xX _ rfl _ _ rfl (gc+1) _ j _ rfl ((HO.o.alloc _).drew) _ _ _ _ rfl (Reads.new rfl) (xA rfl) (by omega) (Nt eb.o (by simp)) ?_;intro vv w3 cj eY fY;obtain ⟨Av,kv,rfl,_⟩:=eD.bd cj;have lB:∀k,(Value.slice Aj j kj).ownBlock=some k→gc<k:=(fun k hk=>by have:=(HO.o.lt k hk).1;omega);have oN:=bf.bL ((CB.o.alloc (.cells #[.string (bs ((s.drop (P+8*j)).take 8))] 9)).drew) (eY.block _ (CB.o.alloc _).lt (fun e=>by have:=lB _ e.symm;omega));have Ot:w3.cell? ⟨gc,7,none⟩=some (.slice Aj j kj):=ah oN 7 rfl;have FC:w3.frozen? ⟨gc,7,none⟩=false:=oN.frozen 7;have Dh:=Hi oN;have lE:=Hi cj;have tk:=Hi eY;have oO:=Hi lB;have Kj:=Hi fY;clear oN cj eY lB fY))|fail);have Ul:wr.heap.size+1≤w3.heap.size:=Nt (by simp) tk.o.size;have MY:∀k,(Value.slice Av (j+1) kv).ownBlock=some k→gc<k:=fun k hk=>by
      rcases Kj.o with h|h
      ·exact oO.o k (h.symm.trans hk)
      ·have e:=hk.symm.trans h;injection e with e;have:=eb.o;simp at e;omega
     have Di:=bf.bL ((ZB.o.alloc (.cells #[.string (bs ((s.drop (P+8*j)).take 8))] 9)).drew) (tk.o.block _ (ZB.o.alloc _).lt (fun e=>by have:=oO.o _ e.symm;have:=dW.o;omega));have Ie:=aH (base':=w.heap.size+1) ((qI.o.alloc (.cells #[.string (bs ((s.drop (P+8*j)).take 8))] 9)).drew) (w':=w3) (fun k hk=>⟨(qI.o.lt k hk).1,tk.o.block _ ((qI.o.alloc _).lt k hk).2 (fun e=>by have:=oO.o _ e.symm;have:=FE.o;have e2:some gn=some k:=hk;injection e2 with e2;omega)⟩);have Dk:Below w w w3:=Below.grown ((BW.o.alloc BW.o.size _).drew) tk.o (Nt BW.o.size (by simp)) (fun k hk=>by have:=oO.o k hk;have:=dW.o;omega);have wO:(w3.setCell ⟨gc,7,none⟩ (.slice Av (j+1) kv)).ownsRow (gc+1) 9 1 (.slice Av (j+1) kv) (j+1) ((ej s P (j+1)).map iK):=by
      rw [kM.o,map_append];exact aH lE.o (fun k hk=>⟨(lE.o.lt k hk).1,Below.heap_setCell _ _ _ _ (fun e=>by have:=MY k hk;have e2:k=gc:=e;omega)⟩)
     have M6:(w3.setCell ⟨gc,7,none⟩ (.slice Av (j+1) kv)).ownsRow (w+1) 3 1 (.slice (some ⟨gn,0,none⟩) 1 cn) 1 [xE n]:=aH Ie (fun k hk=>⟨(Ie.lt k hk).1,Below.heap_setCell _ _ _ _ (fun e=>by have:=FE.o;have e1:some gn=some k:=hk;injection e1 with e1;have e2:k=gc:=e;omega)⟩);exact ⟨⟨j+1,Av,kv,by omega,by go_num,bf.bK Di (a:=⟨gc,7,none⟩) (by have:=dW.o;show gc≠_;omega) _,cI Dh.o 7 _,wO,M6,Below.setCell Dk (p:=⟨gc,7,none⟩) (by have:=dW.o;show _≤gc;omega) _,by rw [aF];have:=eb.o;omega⟩,by simp only [intOf];omega⟩
    ·have iQ:j=n:=by omega
     subst iQ;have RD:¬(j:Int)<(j:Int):=by omega
     have FG:=lr s P j;obtain ⟨cc,xq⟩:∃cc:aR,cc=⟨(x0:Int),(x1:Int),(x2:Int),ta,tb,tt,(x3:Int),ej s P j⟩:=⟨_,rfl⟩;have Lg:fO wr (gc+1) cc.c [(x0:Int),(x1:Int),(x2:Int),ta,tb,tt,(x3:Int),.slice Aj j kj]:=by
      have h0:=HO.o;rw [xq];have h1:=fq (w:=wr) (base:=gc+1) (c:=⟨(x0:Int),(x1:Int),(x2:Int),ta,tb,tt,(x3:Int),ej s P j⟩) (A:=Aj) (k:=kj) (by simp only [FG];exact h0);simp only [FG] at h1;exact h1
     have iM:=Hi Lg;have Es:=Lf.o;rw [←xq] at Es;have M0:=og.o;have Ge:=wP.o;have Kn:=Qp.o;rw [Es] at M0 Ge Kn;have BI:=Hi (fun W h=>om cc [(x0:Int),(x1:Int),(x2:Int),ta,tb,tt,(x3:Int),.slice Aj j kj] W M0 h);obtain ⟨sh,yH⟩:∃sh,sh=bt cc:=⟨_,rfl⟩;rw [←yH] at BI Ge Kn;have Ur:=Hi Ge;have Us:=Hi Kn;have tV:s≠[]:=by
      intro e;subst e;have:=Z6.o;simp at this
     clear Ge Kn yH M0 Lg xq Es Lf og wP Qp RD vf M5;go_wp2_with ((with_reducible apply Gl 28);refine Fn _ ⟨gc,0,none⟩ rfl [(x0:Int),(x1:Int),(x2:Int),ta,tb,tt,(x3:Int),.slice Aj j kj] aN rfl (ag CB.o) ?_);refine (BI.o _ iM.o.rep.any).mono ?_;rintro e v9 ⟨rfl,hb⟩;replace ZB:=Hi (ZB.o.below hb);replace CB:=Hi (CB.o.below hb);replace iM:=Hi (iM.o.below hb);replace BW:=Hi (Bt BW.o hb);clear hb;by_cases hq:sh=s
     ·have lR:=Us.o tV hq;subst lR;have cW:(sh == s)=true:=by simp [hq]
      clear hq tV;go_wp2_with (first|((with_reducible apply Gl 28);refine Fn _ ⟨gc,0,none⟩ rfl [(x0:Int),(x1:Int),(x2:Int),ta,tb,tt,(x3:Int),.slice Aj j kj] aN rfl (ag CB.o) ?_)|((with_reducible apply Gs 28);refine Fr _ w 28 0 [(x0:Int),(x1:Int),(x2:Int),ta,tb,tt,(x3:Int),.slice Aj j kj] [] zC [] _ rfl rfl aN ZB.o rfl rfl rfl (Oc rfl) ?_;intro v10 eJ ei)|fail);exact aK rfl ⟨w,0,none⟩ rfl [(x0:Int),(x1:Int),(x2:Int),ta,tb,tt,(x3:Int),.slice Aj j kj] _ rfl aN rfl (ag eJ) rfl ⟨_,rfl,iM.o.lQ ei (fun e=>by have:=dW.o;omega) (by have:=dW.o;omega),Below.grown BW.o ei BW.o.size (fun k hk=>by injection hk with hk;omega)⟩
     ·have lR:=Ur.o hq;subst lR;have cW:(sh == s)=false:=by simpa using hq
      clear hq tV;go_wp2_with ((with_reducible apply Gs 28);refine Fr _ w 28 0 zC [] zC [] _ rfl rfl aN ZB.o rfl rfl rfl (Oc rfl) ?_;intro v9 eJ ei);exact aK rfl ⟨w,0,none⟩ rfl zC _ rfl aN rfl (ag eJ) rfl ⟨_,rfl,eG _ _,Below.grown BW.o ei BW.o.size (fun k hk=>by injection hk with hk;omega)⟩
end Go.Proofs.YtfgliohpdgnmcaaGreat
