/- Lemmas for the walks of one claim (PutW, PutN, PutX). Conditions: bounds on sizes, as each names them. -/
import Derived.Test.YtfgliohpdgnmcaaGreatB09
set_option linter.unusedVariables false
set_option linter.unusedSimpArgs false
set_option maxRecDepth 100000
set_option maxHeartbeats 8000000
namespace Go.Proofs.YtfgliohpdgnmcaaGreat
open Go.RowKit
open List (map_cons map_append append_assoc getElem_mem drop_eq_getElem_cons flatten_append flatten_cons nil_append length_map nodup_nil)
def mE (x:ak) (cs:List Value):List (ak × List Value)→Bool→List (ak × List Value)
 |[],put=>if put then [] else [(x,cs)]
 |(y,ci)::r,put=>(if put || eA y.id x.id then [] else [(x,cs)])++((if y.id=x.id then [] else [(y,ci)])++mE x cs r (put || !eA y.id x.id))
theorem sU {x:ak} {cs:List Value}:∀(ps:List (ak × List Value)) (b:Bool),(mE x cs ps b).map Prod.fst=qs x (ps.map Prod.fst) b
 |[],b=>by cases b<;>rfl
 |(y,ci)::r,b=>by
  rw [mE,map_cons,qs,map_append,map_append,sU r];congr 1
  ·split<;>rfl
  ·congr 1;split<;>rfl
theorem yB {w:World} {base e sz n:Nat} {v:Value} {xs:List Value} (h:w.ownsRow (base+1) e sz v n xs):w.ownsRow base e sz v n xs:=aH h (fun b hb=>⟨by have:=(h.lt b hb).1;omega,rfl⟩)
theorem Aal:∀(ps:List (ak × List Value)) (_:∀p∈ps,p.2.length=16) (j:Nat) (hj:j<ps.length) (f:Nat) (u:Value),(ps[j].2)[f]?=some u→((ps.map Prod.snd).flatten)[j*16+f]?=some u
 |p::ps,h,0,_,f,u,hu=>by
  have N6:p.2[f]?=some u:=hu;rw [map_cons,flatten_cons,Nat.zero_mul,Nat.zero_add,List.getElem?_append_left (List.getElem?_eq_some_iff.1 N6).1];exact N6
 |p::ps,h,j+1,hj,f,u,hu=>by
  have h1:=h p (by simp);rw [map_cons,flatten_cons,List.getElem?_append_right (by omega),h1,show (j+1)*16+f-16=j*16+f by omega];exact Aal ps (fun q hq=>h q (by simp [hq])) j (by simpa using hj) f u hu
theorem C5 {w:World} {base e n c:Nat} {A:Option Addr} {ps:List (ak × List Value)} (h:w.ownsRow base e 16 (.slice A n c) n ((ps.map Prod.snd).flatten)) (ya:∀p∈ps,p.2.length=16) (j:Nat) (hj:j<ps.length) :
 ∃ad,A=some ad∧ad.block<w.heap.size∧∀f u,(ps[j].2)[f]?=some u→w.cell? ((ad.add (j*16)).add f)=some u:=by
 rcases h.2 with ⟨h0,h1⟩|⟨g,cap,cur,hv,hb,hh,_⟩
 ·have h2:=h.1;have h3:=Aal ps ya j hj 0 _ (List.getElem?_eq_getElem (by rw [ya _ (getElem_mem hj)];omega));have h4:=(List.getElem?_eq_some_iff.1 h3).1;omega
 ·injection hv with e1 _ e3;subst e1;refine ⟨⟨g,0,none⟩,rfl,(Array.getElem?_eq_some_iff.1 hh).1,fun f u hu=>?_⟩;have h5:=World.ownsRow.cells (g:=g) h rfl (j*16+f) u (Aal ps ya j hj f u hu);rw [Aab,Nat.zero_add] at h5;rw [Aab,Aab,Nat.zero_add];exact h5
theorem wG (ps:List (ak × List Value)) (x:ak) (A:Option Addr) (n c:Nat) (cs:List Value) (w:World) (hn:n=ps.length) (AS:n≤1048576) (PO:∀p∈ps,p.2.length=16) (WC:∀p∈ps,aM bM w p.1.c p.2) (h:∀j (hj:j<ps.length),∃ad,A=some ad∧ad.block<w.heap.size∧∀f u,(ps[j].2)[f]?=some u→w.cell? ((ad.add (j*16)).add f)=some u) (h':aM bM w x.c cs) :
 Calls Tryz.prog 74 #[.slice A n c,.agg cs.toArray] w fun e w'=>∃A2 m c2,e = .returned (.slice A2 m c2)∧m=(mE x cs ps false).length∧w'.ownsRow w 106 16 (.slice A2 m c2) m (((mE x cs ps false).map Prod.snd).flatten)∧Below w w w':=by
 have TR:=Hi PO;clear PO;have Zm:=Hi WC;clear WC;have HL:=Hi (show cs.length=16 from h'.length.trans (ak.width x));have WD:=Hi h'.one;have HXR:=Hi h'.lt;have PQ:=fun (v:World) (hb:bf v w 106 cs.toArray)=>kO h' (ag hb)
 have Hn:=Hi PQ;clear PQ h';have HR:=Hi h;clear h;have HN:=Hi hn;clear hn;obtain ⟨R,hR⟩:∃R,R=mE x cs ps false:=⟨_,rfl⟩;rw [←hR];have zY:=Hi hR;clear hR;obtain ⟨xr,eL,TS⟩:∃xr eL,x.id=⟨xr,eL⟩:=⟨x.id.rep,x.id.slot,rfl⟩;rw [TS] at Hn;have Wv:=Hi TS;clear TS;go_enter Tryz.func74,Tryz.ntmps74;go_wp2;go_loopw [5,6,7] (fun oo pp ii wr=>∃(j q:Nat) (p:Bool) (A':Option Addr) (c':Nat) (cells:List Value) (acc:List (ak × List Value)),j≤n∧oo = .slice A' q c'∧pp = .bool p∧ii = .int .i64 (j:Int)∧q=acc.length∧q≤2*j∧acc++mE x cs (ps.drop j) p=R∧wr.ownsRow (w+1) 106 16 (.slice A' q c') q cells∧cells=(acc.map Prod.snd).flatten∧bf wr w 106 cs.toArray∧Below w w wr) (fun _ _ ii _=>n-(intOf ii).toNat);case atStart=>exact ⟨0,0,false,some ⟨w+1,0,none⟩,0,[],[],Nat.zero_le _,by simp,rfl,rfl,rfl,by omega,by rw [zY.o];rfl,by have h1:=World.ownsRow_made (base:=w.heap.size+1) (size:=16) (e:=106) (w.alloc (.cells cs.toArray 106)) #[] 0 (by simp) (by simp [maxLen]) rfl;simpa using h1,rfl,(bH _ _ _).alloc _,(by repeat' (first|with_reducible (first|exact Br|exact BW.o|apply Bs|apply Ba|apply Bd)|(simp<;>omega)|omega))⟩
 case round=>
  obtain ⟨j,q,p,A',c',cells,acc,hj,rfl,rfl,rfl,hq,KU,hT,bg,nP,xM,bE⟩:=hrel;have HQ:=Hi hq;clear hq;have HO:=Hi bg;clear bg;have HA:=Hi nP;clear nP;have eW:=Hi xM;clear xM;have BW:=Hi bE;clear bE;have HZ:=Hi (show w.heap.size+1≤wr.heap.size from eW.o.lt);by_cases dS:j<n
  ·have fg:j<ps.length:=by have:=HN.o;omega
   obtain ⟨ad,rfl,C6,hc⟩:=HR.o j fg;have hl:=TR.o _ (getElem_mem fg);have bZ:=Zm.o _ (getElem_mem fg);have JO:ps.drop j=ps[j]::ps.drop (j+1):=drop_eq_getElem_cons fg;obtain ⟨y,ci,hy⟩:∃y ci,ps[j]=(y,ci):=⟨_,_,rfl⟩;rw [hy] at hl bZ hc JO;rw [JO,mE] at hT;simp only [] at hl bZ hc;clear JO;have Ho:=Hi bZ.one;have sa:=fun (v:World) (hb:Below w w v) f u (hv:ci[f]?=some u)=>show v.cell? ((ad.add (j*16)).add f)=some u from (hb.cell (by rw [cR,cR];exact C6)).trans (hc f u hv)
   have Fj:=fun (v:World) (hb:Below w w v)=>kO bZ (sa v hb)
   obtain ⟨yr,ys,xI⟩:∃yr ys,y.id=⟨yr,ys⟩:=⟨y.id.rep,y.id.slot,rfl⟩;rw [xI,Wv.o] at hT;rw [xI] at Fj;have jF:=Hi hl;clear hl;have HC:=Hi sa;clear sa hc;have I8:=Hi Fj;clear Fj bZ xI;have HT:=Hi hT;clear hT;cases p with
   |true=>
    have X:=Hi HT.o;clear HT;have HT:=Hi (show acc++([]++((if (⟨yr,ys⟩:aX)=⟨xr,eL⟩ then [] else [(y,ci)])++mE x cs (ps.drop (j+1)) true))=R from X.o);clear X;go_wp2;refine ax 13 Ag (by kernel_rfl) (by kernel_rfl) ?_;have X:=Hi eW.o.drew;clear eW;have eW:=Hi X.o;clear X;have X:=Hi BW.o.drew;clear BW;have BW:=Hi X.o;clear X;iterate 3 (refine ae rfl (by kernel_rfl) rfl ?_;go_wp2;refine ⟨rfl,?_⟩)
    (iterate 6 (refine bn rfl rfl (by kernel_rfl) ?_));simp only [fk,ft,fu];(iterate 3 (refine bn rfl rfl (by kernel_rfl) ?_));simp only [fk,ft,fu]
    (refine ae rfl (by kernel_rfl) rfl ?_;go_wp2;refine ⟨rfl,?_⟩)
    refine aO ?_;try simp only [eo,ep]
    replace HO:=Hi (show World.ownsRow wr.drew (w+1) 106 16 (.slice A' q c') q cells from HO.o);by_cases e1:yr=xr
    ·subst e1;by_cases e2:ys=eL
     ·subst e2;have iY:=HT.o;rw [if_pos rfl] at iY;have vk:=Hi iY;clear iY;go_wp2;refine ax 7 DE (by kernel_rfl) (by kernel_rfl) ?_;have X:=Hi eW.o.drew;clear eW;have eW:=Hi X.o;clear X;have X:=Hi BW.o.drew;clear BW;have BW:=Hi X.o;clear X;iterate 4 (refine ae rfl (by kernel_rfl) rfl ?_;go_wp2;refine ⟨rfl,?_⟩)
      refine ae rfl (by kernel_rfl) rfl ?_;go_wp2_with (refine an _ (by first|rfl|kernel_rfl) (ad.add (j*16)) rfl [.int .i64 _,.int .i64 _] aC rfl (I8.o _ BW.o) ?_);refine ⟨rfl,?_⟩
      (refine ae rfl (by kernel_rfl) rfl ?_;go_wp2;refine ⟨rfl,?_⟩)
      refine ae rfl (by kernel_rfl) rfl ?_;go_wp2_with (refine an _ (by first|rfl|kernel_rfl) ⟨w,0,none⟩ rfl [.int .i64 _,.int .i64 _] aC rfl (Hn.o _ eW.o) ?_);refine ⟨rfl,?_⟩;refine aO ?_;try simp only [eo,ep]
      go_wp2;exact ⟨⟨j+1,_,true,A',c',_,_,by omega,rfl,rfl,by go_num,HQ.o,by omega,by have h0:=vk.o;simpa [append_assoc] using h0,HO.o,HA.o,eW.o,BW.o⟩,by simp only [intOf];omega⟩
     ·have e3:(ys == eL)=false:=by simpa using e2
      have dO:¬(⟨yr,ys⟩:aX)=⟨yr,eL⟩:=fun h=>e2 (by injection h)
      have yD:=Hi dO;clear dO e2;have iY:=HT.o;rw [if_neg yD.o] at iY;have vk:=Hi iY;clear iY;go_wp2;refine ax 7 DE (by kernel_rfl) (by kernel_rfl) ?_;have X:=Hi eW.o.drew;clear eW;have eW:=Hi X.o;clear X;have X:=Hi BW.o.drew;clear BW;have BW:=Hi X.o;clear X;iterate 4 (refine ae rfl (by kernel_rfl) rfl ?_;go_wp2;refine ⟨rfl,?_⟩)
      refine ae rfl (by kernel_rfl) rfl ?_;go_wp2_with (refine an _ (by first|rfl|kernel_rfl) (ad.add (j*16)) rfl [.int .i64 _,.int .i64 _] aC rfl (I8.o _ BW.o) ?_);refine ⟨rfl,?_⟩
      (refine ae rfl (by kernel_rfl) rfl ?_;go_wp2;refine ⟨rfl,?_⟩)
      refine ae rfl (by kernel_rfl) rfl ?_;go_wp2_with (refine an _ (by first|rfl|kernel_rfl) ⟨w,0,none⟩ rfl [.int .i64 _,.int .i64 _] aC rfl (Hn.o _ eW.o) ?_);refine ⟨rfl,?_⟩;refine aO ?_;try simp only [eo,ep]
      go_wp2_with (first|((with_reducible apply Gl 106);refine Fn _ (ad.add (j*16)) rfl ci aw jF.o (HC.o _ BW.o) ?_)|((with_reducible show wpList _ _ _ ({dst:=_,op:=Op.buildSlice _ _ _,type:=_,pos:=_,after:=_,guard:=_}::_) _ _);go_must (refine eF rfl (.tmp 44) rfl ci jF.o rfl ?_))|(at_builtin;go_must (refine aB lj _ rfl (.tmp 40) (.tmp 45) rfl (w+1) _ q cells rfl (HO.o.alloc _) _ _ _ _ rfl (Reads.new (e:=106) (by simp [jF.o])) Ho.o (by omega) (by have h1:=HZ.o;simp;omega) ?_;intro vy w5 dF kB lu;have kP:=HO.o.lt;obtain ⟨ly,kQ,rfl,_⟩:=eD.bd dF;replace eW:=Hi (show bf w5 w 106 cs.toArray from (eW.o.alloc _).bL (kB.block _ (eW.o.alloc _).lt (fun e=>by have h7:=(kP _ e.symm).1;omega)));replace BW:=Hi (show Below w w w5 from Below.grown (BW.o.alloc BW.o.size _) kB (Nt BW.o.size (by simp)) (fun k' hk=>by have h7:=(kP _ hk).1;omega));replace HZ:=Hi (show w.heap.size+1≤w5.heap.size from eW.o.lt);replace HA:=Hi (show cells++ci=((acc++[(y,ci)]).map Prod.snd).flatten from by rw [HA.o];simp);clear HO;have HO:=Hi dF;clear dF kB lu kP)));exact ⟨⟨j+1,_,true,ly,kQ,_,_,by omega,rfl,rfl,by go_num,by have h0:=HQ.o;simp;omega,by omega,by have h0:=vk.o;simpa [append_assoc] using h0,HO.o,HA.o,eW.o,BW.o⟩,by simp only [intOf];omega⟩
    ·have e3:(yr == xr)=false:=by simpa using e1
     have dO:¬(⟨yr,ys⟩:aX)=⟨xr,eL⟩:=fun h=>e1 (by injection h)
     have yD:=Hi dO;clear dO e1;have iY:=HT.o;rw [if_neg yD.o] at iY;have vk:=Hi iY;clear iY;go_wp2;refine ax 7 DE (by kernel_rfl) (by kernel_rfl) ?_;have X:=Hi eW.o.drew;clear eW;have eW:=Hi X.o;clear X;have X:=Hi BW.o.drew;clear BW;have BW:=Hi X.o;clear X;iterate 4 (refine ae rfl (by kernel_rfl) rfl ?_;go_wp2;refine ⟨rfl,?_⟩)
     refine ae rfl (by kernel_rfl) rfl ?_;go_wp2_with (refine an _ (by first|rfl|kernel_rfl) (ad.add (j*16)) rfl [.int .i64 _,.int .i64 _] aC rfl (I8.o _ BW.o) ?_);refine ⟨rfl,?_⟩
     (refine ae rfl (by kernel_rfl) rfl ?_;go_wp2;refine ⟨rfl,?_⟩)
     refine ae rfl (by kernel_rfl) rfl ?_;go_wp2_with (refine an _ (by first|rfl|kernel_rfl) ⟨w,0,none⟩ rfl [.int .i64 _,.int .i64 _] aC rfl (Hn.o _ eW.o) ?_);refine ⟨rfl,?_⟩;refine aO ?_;try simp only [eo,ep]
     go_wp2_with (first|((with_reducible apply Gl 106);refine Fn _ (ad.add (j*16)) rfl ci aw jF.o (HC.o _ BW.o) ?_)|((with_reducible show wpList _ _ _ ({dst:=_,op:=Op.buildSlice _ _ _,type:=_,pos:=_,after:=_,guard:=_}::_) _ _);go_must (refine eF rfl (.tmp 44) rfl ci jF.o rfl ?_))|(at_builtin;go_must (refine aB lj _ rfl (.tmp 40) (.tmp 45) rfl (w+1) _ q cells rfl (HO.o.alloc _) _ _ _ _ rfl (Reads.new (e:=106) (by simp [jF.o])) Ho.o (by omega) (by have h1:=HZ.o;simp;omega) ?_;intro vy w5 dF kB lu;have kP:=HO.o.lt;obtain ⟨ly,kQ,rfl,_⟩:=eD.bd dF;replace eW:=Hi (show bf w5 w 106 cs.toArray from (eW.o.alloc _).bL (kB.block _ (eW.o.alloc _).lt (fun e=>by have h7:=(kP _ e.symm).1;omega)));replace BW:=Hi (show Below w w w5 from Below.grown (BW.o.alloc BW.o.size _) kB (Nt BW.o.size (by simp)) (fun k' hk=>by have h7:=(kP _ hk).1;omega));replace HZ:=Hi (show w.heap.size+1≤w5.heap.size from eW.o.lt);replace HA:=Hi (show cells++ci=((acc++[(y,ci)]).map Prod.snd).flatten from by rw [HA.o];simp);clear HO;have HO:=Hi dF;clear dF kB lu kP)));exact ⟨⟨j+1,_,true,ly,kQ,_,_,by omega,rfl,rfl,by go_num,by have h0:=HQ.o;simp;omega,by omega,by have h0:=vk.o;simpa [append_assoc] using h0,HO.o,HA.o,eW.o,BW.o⟩,by simp only [intOf];omega⟩
   |false=>
    cases fE:eA ⟨yr,ys⟩ ⟨xr,eL⟩ with
    |true=>
     rw [fE] at HT;have rG:=Hi fE;have X:=Hi HT.o;clear HT;have HT:=Hi (show acc++([]++((if (⟨yr,ys⟩:aX)=⟨xr,eL⟩ then [] else [(y,ci)])++mE x cs (ps.drop (j+1)) false))=R from X.o);clear X;go_wp2;refine ax 13 Ag (by kernel_rfl) (by kernel_rfl) ?_;have X:=Hi eW.o.drew;clear eW;have eW:=Hi X.o;clear X;have X:=Hi BW.o.drew;clear BW;have BW:=Hi X.o;clear X;iterate 7 (refine ae rfl (by kernel_rfl) rfl ?_;go_wp2;refine ⟨rfl,?_⟩)
     refine ae rfl (by kernel_rfl) rfl ?_;go_wp2_with (refine an _ (by first|rfl|kernel_rfl) (ad.add (j*16)) rfl [.int .i64 _,.int .i64 _] aC rfl (I8.o _ BW.o) ?_);refine ⟨rfl,?_⟩
     (refine ae rfl (by kernel_rfl) rfl ?_;go_wp2;refine ⟨rfl,?_⟩)
     refine ae rfl (by kernel_rfl) rfl ?_;go_wp2_with (refine an _ (by first|rfl|kernel_rfl) ⟨w,0,none⟩ rfl [.int .i64 _,.int .i64 _] aC rfl (Hn.o _ eW.o) ?_);refine ⟨rfl,?_⟩;refine aA rfl (by kernel_rfl) ?_;go_wp2_with fail;refine (fH ⟨yr,ys⟩ ⟨xr,eL⟩ _ _ _ (vj _ _) (vj _ _)).mono ?_;rintro e v6 ⟨rfl,mN⟩;rw [rG.o];have En:=Hi mN;clear mN;replace eW:=Hi (eW.o.below En.o);replace BW:=Hi (BW.o.trans (En.o.mono BW.o.size));replace HO:=Hi (show World.ownsRow v6 (w+1) 106 16 (.slice A' q c') q cells from World.ownsRow.jh (w:=wr.drew) HO.o En.o);replace HZ:=Hi (show w.heap.size+1≤v6.heap.size from eW.o.lt);go_wp2;refine ⟨Ext.aJ En.o,?_⟩;clear En;iterate 2 (refine ae rfl (by kernel_rfl) rfl ?_;go_wp2;refine ⟨rfl,?_⟩)
     refine aO ?_;try simp only [eo,ep]
     by_cases e1:yr=xr
     ·subst e1;by_cases e2:ys=eL
      ·subst e2;rw [jr] at fE;cases fE
      ·have e3:(ys == eL)=false:=by simpa using e2
       have dO:¬(⟨yr,ys⟩:aX)=⟨yr,eL⟩:=fun h=>e2 (by injection h)
       have yD:=Hi dO;clear dO e2;have iY:=HT.o;rw [if_neg yD.o] at iY;have vk:=Hi iY;clear iY;go_wp2;refine ax 7 DE (by kernel_rfl) (by kernel_rfl) ?_;have X:=Hi eW.o.drew;clear eW;have eW:=Hi X.o;clear X;have X:=Hi BW.o.drew;clear BW;have BW:=Hi X.o;clear X;iterate 4 (refine ae rfl (by kernel_rfl) rfl ?_;go_wp2;refine ⟨rfl,?_⟩)
       refine ae rfl (by kernel_rfl) rfl ?_;go_wp2_with (refine an _ (by first|rfl|kernel_rfl) (ad.add (j*16)) rfl [.int .i64 _,.int .i64 _] aC rfl (I8.o _ BW.o) ?_);refine ⟨rfl,?_⟩
       (refine ae rfl (by kernel_rfl) rfl ?_;go_wp2;refine ⟨rfl,?_⟩)
       refine ae rfl (by kernel_rfl) rfl ?_;go_wp2_with (refine an _ (by first|rfl|kernel_rfl) ⟨w,0,none⟩ rfl [.int .i64 _,.int .i64 _] aC rfl (Hn.o _ eW.o) ?_);refine ⟨rfl,?_⟩;refine aO ?_;try simp only [eo,ep]
       go_wp2_with (first|((with_reducible apply Gl 106);refine Fn _ (ad.add (j*16)) rfl ci aw jF.o (HC.o _ BW.o) ?_)|((with_reducible show wpList _ _ _ ({dst:=_,op:=Op.buildSlice _ _ _,type:=_,pos:=_,after:=_,guard:=_}::_) _ _);go_must (refine eF rfl (.tmp 44) rfl ci jF.o rfl ?_))|(at_builtin;go_must (refine aB lj _ rfl (.tmp 40) (.tmp 45) rfl (w+1) _ q cells rfl (HO.o.alloc _) _ _ _ _ rfl (Reads.new (e:=106) (by simp [jF.o])) Ho.o (by omega) (by have h1:=HZ.o;simp;omega) ?_;intro vy w5 dF kB lu;have kP:=HO.o.lt;obtain ⟨ly,kQ,rfl,_⟩:=eD.bd dF;replace eW:=Hi (show bf w5 w 106 cs.toArray from (eW.o.alloc _).bL (kB.block _ (eW.o.alloc _).lt (fun e=>by have h7:=(kP _ e.symm).1;omega)));replace BW:=Hi (show Below w w w5 from Below.grown (BW.o.alloc BW.o.size _) kB (Nt BW.o.size (by simp)) (fun k' hk=>by have h7:=(kP _ hk).1;omega));replace HZ:=Hi (show w.heap.size+1≤w5.heap.size from eW.o.lt);replace HA:=Hi (show cells++ci=((acc++[(y,ci)]).map Prod.snd).flatten from by rw [HA.o];simp);clear HO;have HO:=Hi dF;clear dF kB lu kP)));exact ⟨⟨j+1,_,false,ly,kQ,_,_,by omega,rfl,rfl,by go_num,by have h0:=HQ.o;simp;omega,by omega,by have h0:=vk.o;simpa [append_assoc] using h0,HO.o,HA.o,eW.o,BW.o⟩,by simp only [intOf];omega⟩
     ·have e3:(yr == xr)=false:=by simpa using e1
      have dO:¬(⟨yr,ys⟩:aX)=⟨xr,eL⟩:=fun h=>e1 (by injection h)
      have yD:=Hi dO;clear dO e1;have iY:=HT.o;rw [if_neg yD.o] at iY;have vk:=Hi iY;clear iY;go_wp2;refine ax 7 DE (by kernel_rfl) (by kernel_rfl) ?_;have X:=Hi eW.o.drew;clear eW;have eW:=Hi X.o;clear X;have X:=Hi BW.o.drew;clear BW;have BW:=Hi X.o;clear X;iterate 4 (refine ae rfl (by kernel_rfl) rfl ?_;go_wp2;refine ⟨rfl,?_⟩)
      refine ae rfl (by kernel_rfl) rfl ?_;go_wp2_with (refine an _ (by first|rfl|kernel_rfl) (ad.add (j*16)) rfl [.int .i64 _,.int .i64 _] aC rfl (I8.o _ BW.o) ?_);refine ⟨rfl,?_⟩
      (refine ae rfl (by kernel_rfl) rfl ?_;go_wp2;refine ⟨rfl,?_⟩)
      refine ae rfl (by kernel_rfl) rfl ?_;go_wp2_with (refine an _ (by first|rfl|kernel_rfl) ⟨w,0,none⟩ rfl [.int .i64 _,.int .i64 _] aC rfl (Hn.o _ eW.o) ?_);refine ⟨rfl,?_⟩;refine aO ?_;try simp only [eo,ep]
      go_wp2_with (first|((with_reducible apply Gl 106);refine Fn _ (ad.add (j*16)) rfl ci aw jF.o (HC.o _ BW.o) ?_)|((with_reducible show wpList _ _ _ ({dst:=_,op:=Op.buildSlice _ _ _,type:=_,pos:=_,after:=_,guard:=_}::_) _ _);go_must (refine eF rfl (.tmp 44) rfl ci jF.o rfl ?_))|(at_builtin;go_must (refine aB lj _ rfl (.tmp 40) (.tmp 45) rfl (w+1) _ q cells rfl (HO.o.alloc _) _ _ _ _ rfl (Reads.new (e:=106) (by simp [jF.o])) Ho.o (by omega) (by have h1:=HZ.o;simp;omega) ?_;intro vy w5 dF kB lu;have kP:=HO.o.lt;obtain ⟨ly,kQ,rfl,_⟩:=eD.bd dF;replace eW:=Hi (show bf w5 w 106 cs.toArray from (eW.o.alloc _).bL (kB.block _ (eW.o.alloc _).lt (fun e=>by have h7:=(kP _ e.symm).1;omega)));replace BW:=Hi (show Below w w w5 from Below.grown (BW.o.alloc BW.o.size _) kB (Nt BW.o.size (by simp)) (fun k' hk=>by have h7:=(kP _ hk).1;omega));replace HZ:=Hi (show w.heap.size+1≤w5.heap.size from eW.o.lt);replace HA:=Hi (show cells++ci=((acc++[(y,ci)]).map Prod.snd).flatten from by rw [HA.o];simp);clear HO;have HO:=Hi dF;clear dF kB lu kP)));exact ⟨⟨j+1,_,false,ly,kQ,_,_,by omega,rfl,rfl,by go_num,by have h0:=HQ.o;simp;omega,by omega,by have h0:=vk.o;simpa [append_assoc] using h0,HO.o,HA.o,eW.o,BW.o⟩,by simp only [intOf];omega⟩
    |false=>
     rw [fE] at HT;have rG:=Hi fE;clear fE;have X:=Hi HT.o;clear HT;have HT:=Hi (show (acc++[(x,cs)])++((if (⟨yr,ys⟩:aX)=⟨xr,eL⟩ then [] else [(y,ci)])++mE x cs (ps.drop (j+1)) true)=R from by rw [append_assoc];exact X.o);clear X;go_wp2;refine ax 13 Ag (by kernel_rfl) (by kernel_rfl) ?_;have X:=Hi eW.o.drew;clear eW;have eW:=Hi X.o;clear X;have X:=Hi BW.o.drew;clear BW;have BW:=Hi X.o;clear X;iterate 7 (refine ae rfl (by kernel_rfl) rfl ?_;go_wp2;refine ⟨rfl,?_⟩)
     refine ae rfl (by kernel_rfl) rfl ?_;go_wp2_with (refine an _ (by first|rfl|kernel_rfl) (ad.add (j*16)) rfl [.int .i64 _,.int .i64 _] aC rfl (I8.o _ BW.o) ?_);refine ⟨rfl,?_⟩
     (refine ae rfl (by kernel_rfl) rfl ?_;go_wp2;refine ⟨rfl,?_⟩)
     refine ae rfl (by kernel_rfl) rfl ?_;go_wp2_with (refine an _ (by first|rfl|kernel_rfl) ⟨w,0,none⟩ rfl [.int .i64 _,.int .i64 _] aC rfl (Hn.o _ eW.o) ?_);refine ⟨rfl,?_⟩;refine aA rfl (by kernel_rfl) ?_;go_wp2_with fail;refine (fH ⟨yr,ys⟩ ⟨xr,eL⟩ _ _ _ (vj _ _) (vj _ _)).mono ?_;rintro e v6 ⟨rfl,mN⟩;rw [rG.o];have En:=Hi mN;clear mN;replace eW:=Hi (eW.o.below En.o);replace BW:=Hi (BW.o.trans (En.o.mono BW.o.size));replace HO:=Hi (show World.ownsRow v6 (w+1) 106 16 (.slice A' q c') q cells from World.ownsRow.jh (w:=wr.drew) HO.o En.o);replace HZ:=Hi (show w.heap.size+1≤v6.heap.size from eW.o.lt);go_wp2;refine ⟨Ext.aJ En.o,?_⟩;clear En;iterate 2 (refine ae rfl (by kernel_rfl) rfl ?_;go_wp2;refine ⟨rfl,?_⟩)
     refine aO ?_;try simp only [eo,ep]
     go_wp2_with (first|((with_reducible apply Gl 106);refine Fn _ ⟨w,0,none⟩ rfl cs aw HL.o (ag eW.o) ?_)|((with_reducible show wpList _ _ _ ({dst:=_,op:=Op.buildSlice _ _ _,type:=_,pos:=_,after:=_,guard:=_}::_) _ _);go_must (refine eF rfl (.tmp 29) rfl cs HL.o rfl ?_))|(at_builtin;go_must (refine aB lj _ rfl (.tmp 28) (.tmp 30) rfl (w+1) _ q cells rfl (HO.o.alloc _) _ _ _ _ rfl (Reads.new (e:=106) (by simp [HL.o])) WD.o (by omega) (by have h1:=HZ.o;simp;omega) ?_;intro vx w5 dF kB lu;have kP:=HO.o.lt;obtain ⟨cr,cm,rfl,_⟩:=eD.bd dF;replace eW:=Hi (show bf w5 w 106 cs.toArray from (eW.o.alloc _).bL (kB.block _ (eW.o.alloc _).lt (fun e=>by have h7:=(kP _ e.symm).1;omega)));replace BW:=Hi (show Below w w w5 from Below.grown (BW.o.alloc BW.o.size _) kB (Nt BW.o.size (by simp)) (fun k' hk=>by have h7:=(kP _ hk).1;omega));replace HZ:=Hi (show w.heap.size+1≤w5.heap.size from eW.o.lt);replace HA:=Hi (show cells++cs=((acc++[(x,cs)]).map Prod.snd).flatten from by rw [HA.o];simp);clear HO;have HO:=Hi dF;clear dF kB lu kP)));by_cases e1:yr=xr
     ·subst e1;by_cases e2:ys=eL
      ·subst e2;have iY:=HT.o;rw [if_pos rfl] at iY;have vk:=Hi iY;clear iY;go_wp2;refine ax 7 DE (by kernel_rfl) (by kernel_rfl) ?_;have X:=Hi eW.o.drew;clear eW;have eW:=Hi X.o;clear X;have X:=Hi BW.o.drew;clear BW;have BW:=Hi X.o;clear X;iterate 4 (refine ae rfl (by kernel_rfl) rfl ?_;go_wp2;refine ⟨rfl,?_⟩)
       refine ae rfl (by kernel_rfl) rfl ?_;go_wp2_with (refine an _ (by first|rfl|kernel_rfl) (ad.add (j*16)) rfl [.int .i64 _,.int .i64 _] aC rfl (I8.o _ BW.o) ?_);refine ⟨rfl,?_⟩
       (refine ae rfl (by kernel_rfl) rfl ?_;go_wp2;refine ⟨rfl,?_⟩)
       refine ae rfl (by kernel_rfl) rfl ?_;go_wp2_with (refine an _ (by first|rfl|kernel_rfl) ⟨w,0,none⟩ rfl [.int .i64 _,.int .i64 _] aC rfl (Hn.o _ eW.o) ?_);refine ⟨rfl,?_⟩;refine aO ?_;try simp only [eo,ep]
       go_wp2;exact ⟨⟨j+1,_,true,cr,cm,_,_,by omega,rfl,rfl,by go_num,by have h0:=HQ.o;simp;omega,by omega,by have h0:=vk.o;simpa [append_assoc] using h0,HO.o,HA.o,eW.o,BW.o⟩,by simp only [intOf];omega⟩
      ·have e3:(ys == eL)=false:=by simpa using e2
       have dO:¬(⟨yr,ys⟩:aX)=⟨yr,eL⟩:=fun h=>e2 (by injection h)
       have yD:=Hi dO;clear dO e2;have iY:=HT.o;rw [if_neg yD.o] at iY;have vk:=Hi iY;clear iY;go_wp2;refine ax 7 DE (by kernel_rfl) (by kernel_rfl) ?_;have X:=Hi eW.o.drew;clear eW;have eW:=Hi X.o;clear X;have X:=Hi BW.o.drew;clear BW;have BW:=Hi X.o;clear X;iterate 4 (refine ae rfl (by kernel_rfl) rfl ?_;go_wp2;refine ⟨rfl,?_⟩)
       refine ae rfl (by kernel_rfl) rfl ?_;go_wp2_with (refine an _ (by first|rfl|kernel_rfl) (ad.add (j*16)) rfl [.int .i64 _,.int .i64 _] aC rfl (I8.o _ BW.o) ?_);refine ⟨rfl,?_⟩
       (refine ae rfl (by kernel_rfl) rfl ?_;go_wp2;refine ⟨rfl,?_⟩)
       refine ae rfl (by kernel_rfl) rfl ?_;go_wp2_with (refine an _ (by first|rfl|kernel_rfl) ⟨w,0,none⟩ rfl [.int .i64 _,.int .i64 _] aC rfl (Hn.o _ eW.o) ?_);refine ⟨rfl,?_⟩;refine aO ?_;try simp only [eo,ep]
       go_wp2_with (first|((with_reducible apply Gl 106);refine Fn _ (ad.add (j*16)) rfl ci aw jF.o (HC.o _ BW.o) ?_)|((with_reducible show wpList _ _ _ ({dst:=_,op:=Op.buildSlice _ _ _,type:=_,pos:=_,after:=_,guard:=_}::_) _ _);go_must (refine eF rfl (.tmp 44) rfl ci jF.o rfl ?_))|(at_builtin;go_must (refine aB lj _ rfl (.tmp 40) (.tmp 45) rfl (w+1) _ (q+1) (cells++cs) rfl (HO.o.alloc _) _ _ _ _ rfl (Reads.new (e:=106) (by simp [jF.o])) Ho.o (by omega) (by have h1:=HZ.o;simp;omega) ?_;intro Zn w5 dF kB lu;have kP:=HO.o.lt;obtain ⟨Mz,MC,rfl,_⟩:=eD.bd dF;replace eW:=Hi (show bf w5 w 106 cs.toArray from (eW.o.alloc _).bL (kB.block _ (eW.o.alloc _).lt (fun e=>by have h7:=(kP _ e.symm).1;omega)));replace BW:=Hi (show Below w w w5 from Below.grown (BW.o.alloc BW.o.size _) kB (Nt BW.o.size (by simp)) (fun k' hk=>by have h7:=(kP _ hk).1;omega));replace HZ:=Hi (show w.heap.size+1≤w5.heap.size from eW.o.lt);replace HA:=Hi (show (cells++cs)++ci=(((acc++[(x,cs)])++[(y,ci)]).map Prod.snd).flatten from by rw [HA.o];simp);clear HO;have HO:=Hi dF;clear dF kB lu kP)));exact ⟨⟨j+1,_,true,Mz,MC,_,_,by omega,rfl,rfl,by go_num,by have h0:=HQ.o;simp;omega,by omega,by have h0:=vk.o;simpa [append_assoc] using h0,HO.o,HA.o,eW.o,BW.o⟩,by simp only [intOf];omega⟩
     ·have e3:(yr == xr)=false:=by simpa using e1
      have dO:¬(⟨yr,ys⟩:aX)=⟨xr,eL⟩:=fun h=>e1 (by injection h)
      have yD:=Hi dO;clear dO e1;have iY:=HT.o;rw [if_neg yD.o] at iY;have vk:=Hi iY;clear iY;go_wp2;refine ax 7 DE (by kernel_rfl) (by kernel_rfl) ?_;have X:=Hi eW.o.drew;clear eW;have eW:=Hi X.o;clear X;have X:=Hi BW.o.drew;clear BW;have BW:=Hi X.o;clear X;iterate 4 (refine ae rfl (by kernel_rfl) rfl ?_;go_wp2;refine ⟨rfl,?_⟩)
      refine ae rfl (by kernel_rfl) rfl ?_;go_wp2_with (refine an _ (by first|rfl|kernel_rfl) (ad.add (j*16)) rfl [.int .i64 _,.int .i64 _] aC rfl (I8.o _ BW.o) ?_);refine ⟨rfl,?_⟩
      (refine ae rfl (by kernel_rfl) rfl ?_;go_wp2;refine ⟨rfl,?_⟩)
      refine ae rfl (by kernel_rfl) rfl ?_;go_wp2_with (refine an _ (by first|rfl|kernel_rfl) ⟨w,0,none⟩ rfl [.int .i64 _,.int .i64 _] aC rfl (Hn.o _ eW.o) ?_);refine ⟨rfl,?_⟩;refine aO ?_;try simp only [eo,ep]
      go_wp2_with (first|((with_reducible apply Gl 106);refine Fn _ (ad.add (j*16)) rfl ci aw jF.o (HC.o _ BW.o) ?_)|((with_reducible show wpList _ _ _ ({dst:=_,op:=Op.buildSlice _ _ _,type:=_,pos:=_,after:=_,guard:=_}::_) _ _);go_must (refine eF rfl (.tmp 44) rfl ci jF.o rfl ?_))|(at_builtin;go_must (refine aB lj _ rfl (.tmp 40) (.tmp 45) rfl (w+1) _ (q+1) (cells++cs) rfl (HO.o.alloc _) _ _ _ _ rfl (Reads.new (e:=106) (by simp [jF.o])) Ho.o (by omega) (by have h1:=HZ.o;simp;omega) ?_;intro Zn w5 dF kB lu;have kP:=HO.o.lt;obtain ⟨Mz,MC,rfl,_⟩:=eD.bd dF;replace eW:=Hi (show bf w5 w 106 cs.toArray from (eW.o.alloc _).bL (kB.block _ (eW.o.alloc _).lt (fun e=>by have h7:=(kP _ e.symm).1;omega)));replace BW:=Hi (show Below w w w5 from Below.grown (BW.o.alloc BW.o.size _) kB (Nt BW.o.size (by simp)) (fun k' hk=>by have h7:=(kP _ hk).1;omega));replace HZ:=Hi (show w.heap.size+1≤w5.heap.size from eW.o.lt);replace HA:=Hi (show (cells++cs)++ci=(((acc++[(x,cs)])++[(y,ci)]).map Prod.snd).flatten from by rw [HA.o];simp);clear HO;have HO:=Hi dF;clear dF kB lu kP)));exact ⟨⟨j+1,_,true,Mz,MC,_,_,by omega,rfl,rfl,by go_num,by have h0:=HQ.o;simp;omega,by omega,by have h0:=vk.o;simpa [append_assoc] using h0,HO.o,HA.o,eW.o,BW.o⟩,by simp only [intOf];omega⟩
  ·have iQ:j=n:=by omega
   subst iQ;have hd:ps.drop j=[]:=List.drop_eq_nil_of_le (by have:=HN.o;omega);rw [hd] at hT;have HT:=Hi hT;clear hT hd;cases p with
   |true=>
    have iY:acc=R:=by have h0:=HT.o;simpa [mE] using h0
    subst iY;go_wp2;go_ret;exact ⟨_,_,_,rfl,HQ.o,by have h1:=HO.o;rw [HA.o] at h1;exact yB h1,BW.o⟩
   |false=>
    have iY:acc++[(x,cs)]=R:=by have h0:=HT.o;simpa [mE] using h0
    have vk:=Hi iY;clear iY;go_wp2_with (first|((with_reducible apply Gl 106);refine Fn _ ⟨w,0,none⟩ rfl cs aw HL.o (ag eW.o) ?_)|((with_reducible show wpList _ _ _ ({dst:=_,op:=Op.buildSlice _ _ _,type:=_,pos:=_,after:=_,guard:=_}::_) _ _);go_must (refine eF rfl (.tmp 50) rfl cs HL.o rfl ?_))|(at_builtin;go_must (refine aB lj _ rfl (.tmp 49) (.tmp 51) rfl (w+1) _ q cells rfl (HO.o.alloc _) _ _ _ _ rfl (Reads.new (e:=106) (by simp [HL.o])) WD.o (by omega) (by have h1:=HZ.o;simp;omega) ?_;intro vx w5 dF kB lu;have kP:=HO.o.lt;obtain ⟨cr,cm,rfl,_⟩:=eD.bd dF;replace eW:=Hi (show bf w5 w 106 cs.toArray from (eW.o.alloc _).bL (kB.block _ (eW.o.alloc _).lt (fun e=>by have h7:=(kP _ e.symm).1;omega)));replace BW:=Hi (show Below w w w5 from Below.grown (BW.o.alloc BW.o.size _) kB (Nt BW.o.size (by simp)) (fun k' hk=>by have h7:=(kP _ hk).1;omega));replace HZ:=Hi (show w.heap.size+1≤w5.heap.size from eW.o.lt);replace HA:=Hi (show cells++cs=((acc++[(x,cs)]).map Prod.snd).flatten from by rw [HA.o];simp);clear HO;have HO:=Hi dF;clear dF kB lu kP)));go_ret;exact ⟨_,_,_,rfl,by rw [←vk.o,HQ.o];simp,by have h1:=HO.o;rw [HA.o] at h1;rw [←vk.o];exact yB h1,BW.o⟩
theorem Bl {B:Nat→Prop} {w:World} {base e sz n c:Nat} {A:Option Addr} {i:Cs} {cells:List Value} (hB:∀b,base≤b→B b) (h:w.ownsRow base e sz (.slice A n c) n cells) (hw:i.width=n*sz) (hi:aM B w i cells):aM B w (.sl e sz n i .nil) [.slice A n c]:=by
 simp only [aM];refine ⟨A,c,cells,[],rfl,hw,fun h0=>?_,hi,rfl⟩;rcases h.2 with ⟨_,h1⟩|⟨g,cap,cur,hv,hb,hh,_⟩
 ·exact absurd h1 h0
 ·injection hv with e1 _ e3;subst e1;exact ⟨⟨g,0,none⟩,rfl,hB g hb,(Array.getElem?_eq_some_iff.1 hh).1,fun j u hu=>h.cells rfl j u hu⟩
theorem Hp {B:Nat→Prop} {w:World} {n c:Nat} {A:Option Addr} {xs:List ak} (h:aM B w (.sl 106 16 n (cat ak.c xs) .nil) [.slice A n c]) (hn:n=xs.length) :
 ∃ps:List (ak × List Value),ps.map Prod.fst=xs∧(∀p∈ps,p.2.length=16)∧(∀p∈ps,aM B w p.1.c p.2)∧∀j (hj:j<ps.length),∃ad,A=some ad∧ad.block<w.heap.size∧∀f u,(ps[j].2)[f]?=some u→w.cell? ((ad.add (j*16)).add f)=some u:=by
 obtain ⟨C,hC⟩:∃C:Fin xs.length→List Value,∀i:Fin xs.length,∃ad,A=some ad∧B ad.block∧ad.block<w.heap.size∧aM B w (ak.c xs[i.1]) (C i)∧(C i).length=16∧∀j v,(C i)[j]?=some v→w.cell? ((ad.add (i.1*16)).add j)=some v:=
  ⟨fun i=>(h.elem ak.width i.1 i.2 hn).choose_spec.choose,fun i=>⟨_,(h.elem ak.width i.1 i.2 hn).choose_spec.choose_spec⟩⟩;refine ⟨List.ofFn fun i:Fin xs.length=>(xs[i.1],C i),?_,fun p hp=>?_,fun p hp=>?_,fun j hj=>?_⟩
 ·refine List.ext_getElem (by simp) fun i h1 h2=>by simp
 ·obtain ⟨i,rfl⟩:=List.mem_ofFn.1 hp;obtain ⟨_,_,_,_,_,h5,_⟩:=hC i;exact h5
 ·obtain ⟨i,rfl⟩:=List.mem_ofFn.1 hp;obtain ⟨_,_,_,_,h4,_,_⟩:=hC i;exact h4
 ·have tx:j<xs.length:=by simpa using hj
  obtain ⟨ad,h1,_,h3,_,_,h6⟩:=hC ⟨j,tx⟩;refine ⟨ad,h1,h3,fun f u hu=>h6 f u ?_⟩;simpa using hu
theorem Bn {x:ak} {cs:List Value}:∀(d:List (ak × List Value)) (b:Bool) (p:ak × List Value),p∈mE x cs d b→p=(x,cs)∨p∈d
 |[],b,p,h=>by
  cases b
  ·exact .inl (by simpa [mE] using h)
  ·simp [mE] at h
 |(y,ci)::r,b,p,h=>by
  rw [mE] at h;rcases List.mem_append.1 h with h|h
  ·split at h
   ·cases h
   ·exact .inl (by simpa using h)
  ·rcases List.mem_append.1 h with h|h
   ·split at h
    ·cases h
    ·exact .inr (by simp at h;simp [h])
   ·rcases Bn r _ p h with h|h
    ·exact .inl h
    ·exact .inr (by simp [h])
theorem wH {B:Nat→Prop} {w:World}:∀(ps:List (ak × List Value)),(∀p∈ps,aM B w p.1.c p.2)→aM B w (cat ak.c (ps.map Prod.fst)) ((ps.map Prod.snd).flatten)
 |[],_=>aM.nil.2 rfl
 |p::ps,h=>by
  rw [map_cons,map_cons,flatten_cons,dA];exact aM.app.2 ⟨_,_,rfl,h p (by simp),wH ps fun q hq=>h q (by simp [hq])⟩
theorem ea (B:Nat→Prop) (xs:List ak) (x:ak) (A:Option Addr) (n c:Nat) (cs:List Value) (w:World) (hn:n=xs.length) (AS:n≤1048576) (h:aM B w (.sl 106 16 n (cat ak.c xs) .nil) [.slice A n c]) (h':aM B w x.c cs) :
 Calls Tryz.prog 74 #[.slice A n c,.agg cs.toArray] w fun e w'=>∃A2 m c2,e = .returned (.slice A2 m c2)∧m=(iN xs x).length∧aM (fun b=>B b∨w.heap.size≤b) w' (.sl 106 16 m (cat ak.c (iN xs x)) .nil) [.slice A2 m c2]∧Below w w w':=by
 obtain ⟨d,rfl,ya,hr,he⟩:=Hp h hn;have hm:(mE x cs d false).map Prod.fst=iN (d.map Prod.fst) x:=sU (cs:=cs) d false;refine (wG d x A n c cs w (by rw [hn,length_map]) AS ya (fun p hp=>(hr p hp).any) he h'.any).mono ?_;rintro e w' ⟨A2,m,c2,rfl,Gu,ho,C7⟩;have hl:m=(iN (d.map Prod.fst) x).length:=by rw [Gu,←hm,length_map]
 refine ⟨A2,m,c2,rfl,hl,Bl (fun b hb=> .inr hb) ho (by rw [fz ak.width,←hl]) ?_,C7⟩;rw [←hm];refine wH _ fun p hp=>?_
 have key:∀{q:ak} {c:List Value},aM B w q.c c→aM (fun b=>B b∨w.heap.size≤b) w' q.c c:=fun hq=>hq.dt C7.size fun b h0 h1=>⟨.inl h0,C7.block b h1⟩
 rcases Bn d false p hp with rfl|hp
 ·exact key h'
 ·exact key (hr p hp)
theorem wT {w:World} {base:Nat} {a b:List (ak × List Value)} {F1 F2:List Nat} (h1:Own w base (cat ak.c (a.map Prod.fst)) ((a.map Prod.snd).flatten) F1) (h2:Own w base (cat ak.c (b.map Prod.fst)) ((b.map Prod.snd).flatten) F2) :
 Own w base (cat ak.c ((a++b).map Prod.fst)) (((a++b).map Prod.snd).flatten) (F1++F2):=by
 rw [map_append,map_append,flatten_append,lK];exact Own.app.2 ⟨_,_,_,_,rfl,rfl,h1,h2⟩
theorem BK {w:World} {base:Nat}:Own w base (cat ak.c (([]:List (ak × List Value)).map Prod.fst)) ((([]:List (ak × List Value)).map Prod.snd).flatten) []:=Own.nil.2 ⟨rfl,rfl⟩
theorem wU {w:World} {base:Nat} {x:ak} {cs:List Value} {F:List Nat} (h:Own w base x.c cs F):Own w base (cat ak.c ([(x,cs)].map Prod.fst)) (([(x,cs)].map Prod.snd).flatten) F:=by
 have h1:Own w base (cat ak.c [x]) cs F:=by rw [mM];exact h
 simpa using h1
theorem FH {w:World} {base:Nat} {y:ak} {ci:List Value} {r:List (ak × List Value)} {F:List Nat} (ya:ci.length=16) (h:Own w base (cat ak.c (((y,ci)::r).map Prod.fst)) ((((y,ci)::r).map Prod.snd).flatten) F) :
 ∃F1 F2,F=F1++F2∧Own w base y.c ci F1∧Own w base (cat ak.c (r.map Prod.fst)) ((r.map Prod.snd).flatten) F2:=by
 rw [map_cons,map_cons,flatten_cons,dA] at h;obtain ⟨c1,c2,F1,F2,hc,rfl,h1,h2⟩:=Own.app.1 h;obtain ⟨rfl,rfl⟩:=List.append_inj hc (by show ci.length=c1.length;rw [h1.length,ak.width];exact ya);exact ⟨F1,F2,rfl,h1,h2⟩
theorem BM {w:World} {base:Nat} {x:ak} {cs:List Value} {Fx:List Nat} (hx:Own w base x.c cs Fx):∀(d:List (ak × List Value)) (b:Bool) {F:List Nat},(∀p∈d,p.2.length=16)→Own w base (cat ak.c (d.map Prod.fst)) ((d.map Prod.snd).flatten) F→(F++Fx).Nodup→
 ∃F',F'.Nodup∧(∀g∈F',g∈F∨(b=false∧g∈Fx))∧Own w base (cat ak.c ((mE x cs d b).map Prod.fst)) (((mE x cs d b).map Prod.snd).flatten) F'
 |[],true,F,_,h,hn=>⟨[],nodup_nil,fun g hg=>(by cases hg),BK⟩
 |[],false,F,_,h,hn=>⟨Fx,(List.nodup_append.1 hn).2.1,fun g hg=> .inr ⟨rfl,hg⟩,wU hx⟩
 |(y,ci)::r,b,F,ya,h,hn=>by
  obtain ⟨F1,F2,rfl,h1,h2⟩:=FH (ya (y,ci) (by simp)) h;obtain ⟨n1,nx,d1⟩:=List.nodup_append.1 hn;obtain ⟨n1,n2,d2⟩:=List.nodup_append.1 n1;obtain ⟨F3,n3,s3,h3⟩:=BM hx r (b || !eA y.id x.id) (fun p hp=>ya p (by simp [hp])) h2 (List.nodup_append.2 ⟨n2,nx,fun a ha c hc=>d1 a (by simp [ha]) c hc⟩);obtain ⟨F4,n4,s4,h4⟩:∃F4:List Nat,F4.Nodup∧(∀g∈F4,g∈F1)∧Own w base (cat ak.c ((if y.id=x.id then [] else [(y,ci)]:List (ak × List Value)).map Prod.fst)) (((if y.id=x.id then [] else [(y,ci)]:List (ak × List Value)).map Prod.snd).flatten) F4:=by
   split
   ·exact ⟨[],nodup_nil,fun g hg=>(by cases hg),BK⟩
   ·exact ⟨F1,n1,fun g hg=>hg,wU h1⟩
  have n5:(F4++F3).Nodup:=List.nodup_append.2 ⟨n4,n3,fun a ha c hc e=>by
   subst e;rcases s3 a hc with h5|⟨_,h5⟩
   ·exact d2 a (s4 a ha) a h5 rfl
   ·exact d1 a (by simp [s4 a ha]) a h5 rfl⟩;rw [mE];cases hb:(b || eA y.id x.id) with
  |true=>
   refine ⟨F4++F3,n5,fun g hg=>?_,?_⟩
   ·rcases List.mem_append.1 hg with h5|h5
    ·exact .inl (by simp [s4 g h5])
    ·rcases s3 g h5 with h6|⟨h6,h7⟩
     ·exact .inl (by simp [h6])
     ·exact .inr ⟨by simp at h6;exact h6.1,h7⟩
   ·rw [if_pos rfl,nil_append];exact wT h4 h3
  |false=>
   have cW:b=false:=by simp at hb;exact hb.1
   have cz:eA y.id x.id=false:=by simp at hb;exact hb.2
   have s5:∀g∈F3,g∈F2:=fun g hg=>by
    rcases s3 g hg with h6|⟨h6,_⟩
    ·exact h6
    ·simp [cz] at h6
   refine ⟨Fx++(F4++F3),List.nodup_append.2 ⟨nx,n5,fun a ha c hc e=>?_⟩,fun g hg=>?_,?_⟩
   ·subst e;rcases List.mem_append.1 hc with h5|h5
    ·exact d1 a (by simp [s4 a h5]) a ha rfl
    ·exact d1 a (by simp [s5 a h5]) a ha rfl
   ·rcases List.mem_append.1 hg with h5|h5
    ·exact .inr ⟨cW,h5⟩
    ·rcases List.mem_append.1 h5 with h6|h6
     ·exact .inl (by simp [s4 g h6])
     ·exact .inl (by simp [s5 g h6])
   ·rw [if_neg (by simp)];exact wT (wU hx) (wT h4 h3)
theorem Aay {w:World} {base:Nat}:∀{xs:List ak} {cells:List Value} {F:List Nat},Own w base (cat ak.c xs) cells F→∃d:List (ak × List Value),d.map Prod.fst=xs∧(d.map Prod.snd).flatten=cells∧(∀p∈d,p.2.length=16)∧∀p∈d,aM bM w p.1.c p.2
 |[],cells,F,h=>by
  obtain ⟨rfl,_⟩:=Own.nil.1 (show Own w base .nil cells F from h);exact ⟨[],rfl,rfl,fun p hp=>(by cases hp),fun p hp=>(by cases hp)⟩
 |x::r,cells,F,h=>by
  rw [dA] at h;obtain ⟨c1,c2,F1,F2,rfl,rfl,h1,h2⟩:=Own.app.1 h;obtain ⟨d,e1,e2,e3,e4⟩:=Aay h2;refine ⟨(x,c1)::d,by rw [map_cons,e1],by rw [map_cons,flatten_cons,e2],fun p hp=>?_,fun p hp=>?_⟩
  ·rcases List.mem_cons.1 hp with rfl|hp
   ·exact h1.length.trans (ak.width x)
   ·exact e3 p hp
  ·rcases List.mem_cons.1 hp with rfl|hp
   ·exact h1.nj
   ·exact e4 p hp
theorem ru (xs:List ak) (x:ak) (A:Option Addr) (base n c:Nat) (cs:List Value) (Fx:List Nat) (w:World) (hn:n=xs.length) (AS:n≤1048576) (hb:base≤w.heap.size) (F:List Nat) (h:Own w base (.sl 106 16 n (cat ak.c xs) .nil) [.slice A n c] F) (hx:Own w base x.c cs Fx) (hF:(F++Fx).Nodup) :
 Calls Tryz.prog 74 #[.slice A n c,.agg cs.toArray] w fun e w'=>∃A2 m c2,e = .returned (.slice A2 m c2)∧m=(iN xs x).length∧fO w' base (.sl 106 16 m (cat ak.c (iN xs x)) .nil) [.slice A2 m c2]∧Below w w w':=by
 obtain ⟨cells,F1,rfl,_,hr,hi⟩:=Own.zW.1 h;obtain ⟨d,rfl,rfl,ya,vq⟩:=Aay hi;have nO:(F1++Fx).Nodup:=by rw [append_assoc] at hF;exact (List.nodup_append.1 hF).2.1
 obtain ⟨F',n',s',o'⟩:=BM hx d false ya hi nO;have hm:∀v:Value,(mE x cs d false).length=(iN (d.map Prod.fst) x).length:=fun _=>by unfold iN;rw [←sU (cs:=cs),length_map]
 refine (wG d x A n c cs w (by rw [hn,length_map]) AS ya vq (C5 hr ya) hx.nj).mono ?_;rintro e w' ⟨A2,m,c2,rfl,Gu,ho,C7⟩;refine ⟨A2,m,c2,rfl,Gu.trans (hm (.bool true)),?_,C7⟩;have o2:=o'.below C7;rw [sU] at o2;have dS:∀b,(Value.slice A2 m c2).ownBlock=some b→w.heap.size≤b:=fun b cz=>(ho.lt b cz).1
 refine ⟨(Value.slice A2 m c2).ownBlock.toList++F',?_,Own.zW.2 ⟨_,F',rfl,by rw [fz ak.width];show (iN _ _).length*16=_;rw [Gu,hm (.bool true)],aH ho (fun b cz=>⟨Nt hb (dS b cz),rfl⟩),o2⟩⟩;refine List.nodup_append.2 ⟨kA _,n',fun a ha c hc e=>?_⟩;subst e;have h5:=dS a (by simpa using ha);have h6:=(o'.in a hc).2;omega
end Go.Proofs.YtfgliohpdgnmcaaGreat
