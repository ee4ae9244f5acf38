/- Lemmas for the walks of one claim (PutP, NodP, NodA, Join, PutR, InstAt, InstF, InstAtI, PutS). Conditions: bounds on sizes, as each names them. -/
import Derived.Great.BuildSlice
import Derived.Test.YtfgliohpdgnmcaaGreatB04
import Derived.Test.YtfgliohpdgnmcaaGreatB0A
set_option linter.unusedVariables false
set_option linter.unusedSimpArgs false
set_option maxRecDepth 100000
set_option maxHeartbeats 8000000
namespace Go.Proofs.YtfgliohpdgnmcaaGreat
open List (take_of_length_le length_drop length_cons length_append append_assoc cons_append take_succ_eq_append_getElem length_take getElem_mem drop_eq_getElem_cons length_nil nil_append getElem_of_mem mem_cons not_mem_nil mem_append nodup_nil)
def AV (xs:List ak):Prop:=xs.Pairwise fun a b=>eA a.id b.id=true
theorem nK {x:ak} {xs:List ak}:AV (x::xs)↔(∀y∈xs,eA x.id y.id=true)∧AV xs:=List.pairwise_cons
theorem Aak {xs:List ak} (h:Pi xs=true):Aad xs xs.length:=by simpa [Pi] using h
theorem Aam {xs:List ak} (h:Pi xs=true):AV xs:=by
 have hg:=Aak h;have step:∀(i:Nat) (hi:i+1<xs.length),eA (xs[i]'(by omega)).id xs[i+1].id=true:=fun i hi=>by
  obtain ⟨x,hx,_,h2⟩:=hg (i+1) hi;obtain ⟨_,rfl⟩:=List.getElem?_eq_some_iff.1 hx;exact h2 _ (by omega) (List.getElem?_eq_getElem (by omega))
 refine List.pairwise_iff_getElem.2 fun i j hi hj y4=>?_
 obtain ⟨k,rfl⟩:∃k,j=i+1+k:=⟨j-i-1,by omega⟩;clear y4;induction k with
 |zero=>exact step i hj
 |succ k ih=>exact qY (ih (by omega)) (step (i+1+k) hj)
theorem Aag {xs:List ak} (h:Pi xs=true):∀x∈xs,Aaa x=true:=fun x hx=>by
 obtain ⟨i,hi,rfl⟩:=getElem_of_mem hx;obtain ⟨y,hy,h1,_⟩:=Aak h i hi;obtain ⟨_,rfl⟩:=List.getElem?_eq_some_iff.1 hy;exact h1
theorem Aaw {xs:List ak} (h1:AV xs) (h2:∀x∈xs,Aaa x=true):Pi xs=true:=Aae fun i hi=>by
 refine ⟨xs[i],List.getElem?_eq_getElem hi,h2 _ (getElem_mem hi),fun y KP hy=>?_⟩;obtain ⟨hl,rfl⟩:=List.getElem?_eq_some_iff.1 hy;exact List.pairwise_iff_getElem.1 h1 (i-1) i hl hi (by omega)
def qs (x:ak):List ak→Bool→List ak
 |[],put=>if put then [] else [x]
 |y::r,put=>(if put || eA y.id x.id then [] else [x])++((if y.id=x.id then [] else [y])++qs x r (put || !eA y.id x.id))
def iN (l:List ak) (x:ak):List ak:=qs x l false
theorem p8 (x:ak):∀r:List ak,qs x r true=r.filter fun y => !decide (y.id=x.id)
 |[]=>rfl
 |y::r=>by
  rw [qs,List.filter_cons,Bool.true_or,Bool.true_or,p8 x r];by_cases h:y.id=x.id<;>simp [h]
theorem nL {x z:ak}:∀{r:List ak} {p:Bool},z∈qs x r p↔(z=x∧p=false)∨(z∈r∧¬z.id=x.id)
 |[],true=>by simp [qs]
 |[],false=>by simp [qs]
 |y::r,true=>by
  rw [p8];simp
 |y::r,false=>by
  rw [qs];simp only [Bool.false_or,mem_append,nL (r:=r)];cases h1:eA y.id x.id with
  |true=>
   have dO:¬y.id=x.id:=fun e=>by rw [e,jr] at h1;cases h1
   simp only [if_pos,if_neg dO,mem_cons,not_mem_nil,or_false,false_or];constructor
   ·rintro (rfl|⟨rfl,_⟩|⟨h,h2⟩)
    ·exact .inr ⟨.inl rfl,dO⟩
    ·exact .inl ⟨rfl,by trivial⟩
    ·exact .inr ⟨.inr h,h2⟩
   ·rintro (⟨rfl,_⟩|⟨rfl|h,h2⟩)
    ·exact .inr (.inl ⟨rfl,by trivial⟩)
    ·exact .inl rfl
    ·exact .inr (.inr ⟨h,h2⟩)
  |false=>
   by_cases dO:y.id=x.id
   ·simp only [Bool.false_eq_true,if_false,if_pos dO,mem_cons,not_mem_nil,or_false,false_or,Bool.not_false];constructor
    ·rintro (rfl|⟨_,h⟩|⟨h,h2⟩)
     ·exact .inl ⟨rfl,by trivial⟩
     ·cases h
     ·exact .inr ⟨.inr h,h2⟩
    ·rintro (⟨rfl,_⟩|⟨rfl|h,h2⟩)
     ·exact .inl rfl
     ·exact absurd dO h2
     ·exact .inr (.inr ⟨h,h2⟩)
   ·simp only [Bool.false_eq_true,if_false,if_neg dO,mem_cons,not_mem_nil,or_false,Bool.not_false];constructor
    ·rintro (rfl|rfl|⟨_,h⟩|⟨h,h2⟩)
     ·exact .inl ⟨rfl,by trivial⟩
     ·exact .inr ⟨.inl rfl,dO⟩
     ·cases h
     ·exact .inr ⟨.inr h,h2⟩
    ·rintro (⟨rfl,_⟩|⟨rfl|h,h2⟩)
     ·exact .inl rfl
     ·exact .inr (.inl rfl)
     ·exact .inr (.inr (.inr ⟨h,h2⟩))
theorem AW {x:ak}:∀{r:List ak},AV r→AV (qs x r false)
 |[],_=>by simp [qs,AV]
 |y::r,h=>by
  obtain ⟨h1,h2⟩:=nK.1 h;rw [qs];simp only [Bool.false_or];cases hl:eA y.id x.id with
  |true=>
   have dO:¬y.id=x.id:=fun e=>by rw [e,jr] at hl;cases hl
   simp only [if_pos,if_neg dO,nil_append,cons_append,Bool.not_true];refine nK.2 ⟨fun z hz=>?_,AW h2⟩;rcases nL.1 hz with ⟨rfl,_⟩|⟨hz,_⟩
   ·exact hl
   ·exact h1 z hz
  |false=>
   simp only [Bool.false_eq_true,if_false,Bool.not_false,p8,cons_append,nil_append];have hf:AV (r.filter fun y => !decide (y.id=x.id)):=List.Pairwise.sublist List.filter_sublist h2;by_cases dO:y.id=x.id
   ·rw [if_pos dO,nil_append];exact nK.2 ⟨fun z hz=>by rw [←dO];exact h1 z ((List.mem_filter.1 hz).1),hf⟩
   ·rw [if_neg dO];have qp:eA x.id y.id=true:=by
     cases hh:eA x.id y.id with
     |true=>rfl
     |false=>exact absurd (JG hl hh) dO
    refine nK.2 ⟨fun z hz=>?_,nK.2 ⟨fun z hz=>h1 z ((List.mem_filter.1 hz).1),hf⟩⟩;rcases List.mem_cons.1 hz with rfl|hz
    ·exact qp
    ·exact qY qp (h1 z ((List.mem_filter.1 hz).1))
theorem CP {l:List ak} {x:ak} (hl:Pi l=true):Pi (iN l x)=Aaa x:=by
 cases h:Aaa x with
 |true=>
  refine Aaw (AW (Aam hl)) fun z hz=>?_
  rcases nL.1 hz with ⟨rfl,_⟩|⟨hz,_⟩
  ·exact h
  ·exact Aag hl z hz
 |false=>
  cases hh:Pi (iN l x) with
  |false=>rfl
  |true=>
   have:=Aag hh x (nL.2 (.inl ⟨rfl,rfl⟩));rw [h] at this;cases this
noncomputable def Pp (l:List ak) (x:ak):List ak:=if Pi l=true then (if Aaa x=true then iN l x else l) else []
theorem wj (x:ak):∀(r:List ak) (p:Bool),(qs x r p).length≤r.length+1
 |[],p=>by cases p<;>simp [qs]
 |y::r,p=>by
  have ih:=wj x r (p || !eA y.id x.id);rw [qs];cases hp:p || eA y.id x.id with
  |true=>
   simp only [if_pos,nil_append,length_append,length_cons];split<;>simp<;>omega
  |false=>
   have h2:p=false∧eA y.id x.id=false:=by simpa using hp
   rw [h2.1,h2.2] at ih ⊢;simp only [Bool.false_or,Bool.not_false,p8,Bool.false_eq_true,if_false,length_append,length_cons,length_nil] at ih ⊢;have hf:=List.length_filter_le (fun y => !decide (y.id=x.id)) r;split<;>simp<;>omega
end Go.Proofs.YtfgliohpdgnmcaaGreat
namespace Go.Proofs.YtfgliohpdgnmcaaGreat
open Go.RowKit
open List (take_of_length_le length_drop length_cons length_append append_assoc cons_append take_succ_eq_append_getElem length_take getElem_mem drop_eq_getElem_cons length_nil nil_append getElem_of_mem mem_cons not_mem_nil mem_append nodup_nil)
theorem qa {c:aR} (h:dQ c=true):c.c.wt≤100:=by
 obtain ⟨_,_,_,_,h5,h6,h7,h8,h9⟩:=iz h;have yY:=vN c;have zX:=AK c.chunks h9;omega
theorem Aas {x:ak} (h:Aaa x=true):x.c.wt≤200:=by
 unfold Aaa at h;simp only [Bool.and_eq_true] at h;obtain ⟨_,_,_,_,hc,_,hd,_⟩:=h;have h1:=qa hc;have h2:=oy hd;have e1:x.c.wt=x.cmd.set.length+(x.cmd.name.length+(x.cmd.tag.length+(x.cmd.chunks.length+(cat cN x.cmd.chunks).wt+(x.al.length+(cat aX.c x.al).wt+0)))):=rfl;have e2:x.cmd.c.wt=x.cmd.set.length+(x.cmd.name.length+(x.cmd.tag.length+(x.cmd.chunks.length+(cat cN x.cmd.chunks).wt+0))):=rfl;have e3:=pZ x.al;omega
theorem Aax {l:List ak} (h:Pi l=true):l.length≤18:=by
 have h1:(l.map ak.id).Nodup:=by
  rw [List.Nodup,List.pairwise_map];exact (Aam h).imp fun {a b} Ed e=>by rw [e,jr] at Ed;cases Ed
 have h2:=GP h1 (fun x hx=>by
  obtain ⟨y,hy,rfl⟩:=List.mem_map.1 hx;have h3:=Aag h y hy;unfold Aaa at h3;simp only [Bool.and_eq_true] at h3;exact h3.1);simpa using h2
def AX (v:Value) (b:Nat):Prop:=v.ownBlock≠some b
def okB (X:List Nat) (v:Value) (b:Nat):Prop:=AX v b∧b∉X
def ju:Value→Prop
 |.slice _ n c=>n≤c
 |_=>True
theorem Own.ju {w:World} {base:Nat}:∀{d:Cs} {cs:List Value} {F:List Nat},Own w base d cs F→∀v∈cs,Go.Proofs.YtfgliohpdgnmcaaGreat.ju v
 |.nil,_,_,h,v,hv=>by simp only [Own] at h;rw [h.1] at hv;cases hv
 |.int _ r,_,_,h,v,hv=>by
  simp only [Own] at h;obtain ⟨c',rfl,h⟩:=h;rcases List.mem_cons.1 hv with rfl|hv
  ·trivial
  ·exact Own.ju h v hv
 |.bool _ r,_,_,h,v,hv=>by
  simp only [Own] at h;obtain ⟨c',rfl,h⟩:=h;rcases List.mem_cons.1 hv with rfl|hv
  ·trivial
  ·exact Own.ju h v hv
 |.str _ r,_,_,h,v,hv=>by
  simp only [Own] at h;obtain ⟨c',rfl,h⟩:=h;rcases List.mem_cons.1 hv with rfl|hv
  ·trivial
  ·exact Own.ju h v hv
 |.sl e sz n i r,_,_,h,v,hv=>by
  simp only [Own] at h;obtain ⟨v',cells,c',F1,F2,rfl,rfl,h1,h2,h3,h4⟩:=h;rcases List.mem_cons.1 hv with rfl|hv
  ·rcases h2.2 with ⟨rfl,_⟩|⟨g,cap,cur,rfl,_,_,hc,_⟩
   ·exact Nat.le_refl _
   ·exact hc
  ·exact Own.ju h4 v hv
structure dK (w:World) (base:Nat) (X:List Nat) (n:aY) (vl:Value) (cs:List Value):Prop where
 out:∃(A:Option Addr) (k:Nat) (cells:List Value),cs=[.int .i64 n.me,.int .i64 n.next,.slice A n.insts k,vl]∧aM (okB X vl) w (.sl 106 16 n.insts.length (cat ak.c n.insts) .nil) [.slice A n.insts k]∧w.ownsRow base 80 8 vl n.leads.length cells∧aM (okB X vl) w (cat aT.c n.leads) cells∧∀v∈cells,ju v
structure Step (base:Nat) (w:World) (v:Value) (w':World) (v':Value):Prop where
 os:w'.os=w.os
 tape:w'.tape=w.tape
 output:w'.output=w.output
 size:w.heap.size≤w'.heap.size
 block:∀b,b<w.heap.size→AX v b→w'.heap[b]?=w.heap[b]?
 row:v'.ownBlock=v.ownBlock∨∀b,v'.ownBlock=some b→w.heap.size≤b
 low:∀b,v.ownBlock=some b→base≤b
theorem Step.refl {base:Nat} {w:World} {v:Value} (h:∀b,v.ownBlock=some b→base≤b):Step base w v w v:=⟨rfl,rfl,rfl,Nat.le_refl _,fun _ _ _=>rfl,.inl rfl,h⟩
theorem Step.trans {base:Nat} {a b c:World} {u v x:Value} (h:Step base a u b v) (k:Step base b v c x):Step base a u c x:=by
 refine ⟨k.os.trans h.os,k.tape.trans h.tape,k.output.trans h.output,Nt h.size k.size,fun j hj hn=>?_,?_,h.low⟩
 ·refine (k.block j (Nat.lt_of_lt_of_le hj h.size) (fun e=>?_)).trans (h.block j hj hn);rcases h.row with h1|h1
  ·exact hn (by rw [←h1];exact e)
  ·have:=h1 j e;omega
 ·rcases k.row with h1|h1
  ·rw [h1];exact h.row
  ·right;intro j hj;exact Nt h.size (h1 j hj)
theorem Step.below {base:Nat} {w w':World} {v:Value} (hb:Below w.heap.size w w') (h:∀b,v.ownBlock=some b→base≤b):Step base w v w' v:=⟨hb.os,hb.tape,hb.output,hb.size,fun k hk _=>hb.block k hk,.inl rfl,h⟩
theorem Step.rep {base:Nat} {X:List Nat} {w w':World} {v v':Value} {d:Cs} {cs:List Value} (h:Step base w v w' v') (hr:aM (okB X v) w d cs):aM (okB X v') w' d cs:=
 hr.dt h.size (fun b h1 h2=>⟨⟨fun e=>by
  rcases h.row with h3|h3
  ·exact h1.1 (by rw [←h3];exact e)
  ·have:=h3 b e;omega,h1.2⟩,h.block b h2 h1.1⟩)
theorem Step.toBelow {base:Nat} {w w':World} {v v':Value} (h:Step base w v w' v') (hB:base≤w.heap.size):Below base w w':=
 ⟨h.os,h.tape,h.output,h.size,fun k hk=>h.block k (by omega) (fun e=>by have:=h.low k e;omega)⟩
theorem Step.Mm {base:Nat} {w w':World} {v v':Value} (h:Step base w v w' v') (hB:base≤w.heap.size):∀b,v'.ownBlock=some b→base≤b:=fun b hb=>by
 rcases h.row with h1|h1
 ·exact h.low b (by rw [←h1];exact hb)
 ·have:=h1 b hb;omega
theorem dK.low {w:World} {base:Nat} {X:List Nat} {n:aY} {vl:Value} {cs:List Value} (h:dK w base X n vl cs):∀b,vl.ownBlock=some b→base≤b:=fun b hb=>by
 obtain ⟨_,_,_,_,_,ho,_⟩:=h.out;exact (ho.lt b hb).1
theorem dK.rep {w:World} {base:Nat} {X:List Nat} {n:aY} {vl:Value} {cs:List Value} (h:dK w base X n vl cs):aM bM w n.c cs:=by
 obtain ⟨A,k,cells,rfl,h1,h2,h3,h4⟩:=h.out;have hl:=h3.length;refine aY.shut h1.any ?_;obtain ⟨Av,kv,rfl,_⟩:=eD.bd h2;rcases h2.2 with ⟨h5,h6⟩|⟨g,cap,cur,h5,hb,hh,_⟩
 ·simp only [aM];injection h5 with e1 e2 e3;subst e1 e3;exact ⟨none,0,cells,[],rfl,hl.symm.trans h2.1,fun dO=>absurd h6 dO,h3.any,rfl⟩
 ·simp only [aM];injection h5 with e1 e2 e3;subst e1 e3;exact ⟨_,_,cells,[],rfl,hl.symm.trans h2.1,fun _=>⟨_,rfl,trivial,(Array.getElem?_eq_some_iff.1 hh).1,h2.cells (g:=g) rfl⟩,h3.any,rfl⟩
theorem dK.below {w w':World} {base:Nat} {X:List Nat} {n:aY} {vl:Value} {cs:List Value} (h:dK w base X n vl cs) (hb:Below w.heap.size w w'):dK w' base X n vl cs:=by
 obtain ⟨A,k,cells,rfl,h1,h2,h3,h4⟩:=h.out;exact ⟨A,k,cells,rfl,h1.below hb,aH h2 (fun b cz=>⟨(h2.lt b cz).1,hb.block b (h2.lt b cz).2⟩),h3.below hb,h4⟩
structure Fair (i j K:Nat) (n:aY):Prop where
 il:n.insts.length≤i
 ll:n.leads.length≤j
 iw:∀y∈n.insts,y.c.wt≤K
 lw:∀y∈n.leads,y.c.wt≤K
structure Good (n:aY):Prop where
 me:0≤n.me∧n.me≤2
 insts:Pi n.insts=true
 leads:n.leads.length≤8
 lw:∀y∈n.leads,y.c.wt≤21
theorem Good.fair {n:aY} (h:Good n):Fair 18 8 200 n:=
 ⟨Aax h.insts,h.leads,fun y hy=>Aas (Aag h.insts y hy),fun y hy=>Nt (h.lw y hy) (by omega)⟩
theorem pE {α:Type} {f:α→Cs} {m:Nat}:∀{l:List α},(∀y∈l,(f y).wt≤m)→(cat f l).wt≤m*l.length
 |[],_=>Nat.le_refl _
 |y::r,h=>by
  rw [dA,Cs.mf,length_cons,Nat.mul_succ];have h1:=h y (by simp);have h2:=pE (f:=f) (l:=r) (fun z hz=>h z (by simp [hz]));omega
theorem sH (n:aY):n.c.wt=n.insts.length+(cat ak.c n.insts).wt+(n.leads.length+(cat aT.c n.leads).wt):=by
 have e:n.c.wt=n.insts.length+(cat ak.c n.insts).wt+(n.leads.length+(cat aT.c n.leads).wt+0):=rfl;omega
theorem Fair.wt {i j K:Nat} {n:aY} (h:Fair i j K n):n.insts.length+(cat ak.c n.insts).wt≤i+K*i∧n.leads.length+(cat aT.c n.leads).wt≤j+K*j:=by
 have h1:=pE (f:=ak.c) h.iw;have h2:=pE (f:=aT.c) h.lw;have h3:=Nat.mul_le_mul_left K h.il;have h4:=Nat.mul_le_mul_left K h.ll;have h5:=h.il;have h6:=h.ll;omega
theorem vc {B:Nat→Prop} {w w':World} {x:aT} {cs:List Value} {p:Addr} (h:aM B w' x.c cs) (hc:∀f v,cs[f]?=some v→w.cell? (p.add f)=some v):∀f v,[Value.int .i64 x.id.rep,Value.int .i64 x.id.slot][f]?=some v→w.cell? (p.add f)=some v:=by
 obtain ⟨A0,k0,A1,k1,rfl,-,-⟩:=aT.open h;intro f v hv
 match f,hv with
 |0,hv=>exact hc 0 v hv
 |1,hv=>exact hc 1 v hv
theorem nN (n:aY) (x:aX) (cs mm:List Value) (w:World) (hl:n.leads.length≤1048576) (h:aM bM w n.c cs) (h':aM bM w x.c mm) :
 Calls Tryz.prog 78 #[.agg cs.toArray,.agg mm.toArray] w fun e w'=>∃q:Int,e = .returned (.int .i64 q) ∧ -1≤q∧q<n.leads.length∧Below w w w':=by
 obtain ⟨A0,k0,A1,k1,rfl,-,s1⟩:=aY.open h;obtain rfl:=aX.open h';clear h h';have HL:=Hi s1;clear s1;obtain ⟨xr,eL⟩:=x;simp only [];go_enter Tryz.func78,Tryz.ntmps78;go_wp2;have SB:=Hi (show bf ((w.alloc (.cells #[n.me,n.next,.slice A0 n.insts k0,.slice A1 n.leads k1] 47)).alloc (.cells #[xr,eL] 25)) w 47 (rN n A0 k0 A1 k1) from (bH w _ _).alloc _);have TB:=Hi (show bf ((w.alloc (.cells #[n.me,n.next,.slice A0 n.insts k0,.slice A1 n.leads k1] 47)).alloc (.cells #[xr,eL] 25)) (w+1) 25 #[xr,eL] from jg _ _ _ _ _ (by simp) rfl);generalize hN:n.leads.length=N at *;have qI:=Hi hN;clear hN;go_loopw [5] (fun ii wr=>∃j:Nat,j≤N∧ii = .int .i64 (j:Int)∧bf wr w 47 #[n.me,n.next,.slice A0 n.insts k0,.slice A1 N k1]∧bf wr (w+1) 25 #[xr,eL]∧Below w w wr) (fun ii _=>N-(intOf ii).toNat);case atStart=>exact ⟨0,Nat.zero_le _,rfl,SB.o,TB.o,(by repeat' (first|with_reducible (first|exact Br|exact BW.o|apply Bs|apply Ba|apply Bd)|(simp<;>omega)|omega))⟩
 case round=>
  obtain ⟨j,hj,rfl,aD,I2,bE⟩:=hrel;clear SB TB;have SB:=Hi aD;clear aD;have TB:=Hi I2;clear I2;have BW:=Hi bE;clear bE;have c3:=ah SB.o 3 rfl;by_cases dS:j<N
  ·have fg:j<n.leads.length:=by have:=qI.o;omega
   have qe:(j:Int)<(N:Int):=by omega
   obtain ⟨ad,ci,hA,-,-,bZ,-,hc⟩:=(HL.o.below BW.o).elem aT.width j fg qI.o.symm;have JN:=vc bZ hc;clear hc bZ;generalize n.leads[j]=y at *;obtain ⟨⟨yr,ys⟩,yb,yp,yq,yd,yf,ym⟩:=y;simp only [] at JN;have HC:=Hi JN;clear JN;subst hA;by_cases e1:yr=xr
   ·by_cases e2:ys=eL
    ·have he:=Hi (And.intro e1 e2);subst e1 e2;go_wp2;refine ax 7 DE (by kernel_rfl) (by kernel_rfl) ?_;iterate 5 (refine ae rfl (by kernel_rfl) rfl ?_;go_wp2;refine ⟨rfl,?_⟩)
     refine ae rfl (by kernel_rfl) rfl ?_;go_wp2_with (refine Fn _ (ad.add (j*8)) rfl [.int .i64 _,.int .i64 _] aC rfl HC.o ?_);refine ⟨rfl,?_⟩;refine ae rfl (by kernel_rfl) rfl ?_;go_wp2_with (refine Fn _ ⟨w+1,0,none⟩ rfl [.int .i64 _,.int .i64 _] aC rfl (ag TB.o) ?_);refine ⟨rfl,?_⟩;refine aO ?_;simp only [eo,ep];go_wp2;go_ret;exact ⟨(j:Int),au rfl,by omega,by omega,BW.o.drew⟩
    ·subst e1;have d1:(ys == eL)=false:=by simp only [beq_eq_false_iff_ne];exact e2
     have d2:(eL == ys)=false:=by simp only [beq_eq_false_iff_ne];exact fun h=>e2 h.symm
     have HE:=Hi e2;clear e2;go_wp2;refine ax 7 DE (by kernel_rfl) (by kernel_rfl) ?_;iterate 5 (refine ae rfl (by kernel_rfl) rfl ?_;go_wp2;refine ⟨rfl,?_⟩)
     refine ae rfl (by kernel_rfl) rfl ?_;go_wp2_with (refine Fn _ (ad.add (j*8)) rfl [.int .i64 _,.int .i64 _] aC rfl HC.o ?_);refine ⟨rfl,?_⟩;refine ae rfl (by kernel_rfl) rfl ?_;go_wp2_with (refine Fn _ ⟨w+1,0,none⟩ rfl [.int .i64 _,.int .i64 _] aC rfl (ag TB.o) ?_);refine ⟨rfl,?_⟩;refine aO ?_;simp only [eo,ep];go_wp2;exact ⟨⟨j+1,by omega,by go_num,SB.o.drew,TB.o.drew,BW.o.drew⟩,by simp only [intOf];omega⟩
   ·have d1:(yr == xr)=false:=by simp only [beq_eq_false_iff_ne];exact e1
    have d2:(xr == yr)=false:=by simp only [beq_eq_false_iff_ne];exact fun h=>e1 h.symm
    have HE:=Hi e1;clear e1;go_wp2;refine ax 7 DE (by kernel_rfl) (by kernel_rfl) ?_;iterate 5 (refine ae rfl (by kernel_rfl) rfl ?_;go_wp2;refine ⟨rfl,?_⟩)
    refine ae rfl (by kernel_rfl) rfl ?_;go_wp2_with (refine Fn _ (ad.add (j*8)) rfl [.int .i64 _,.int .i64 _] aC rfl HC.o ?_);refine ⟨rfl,?_⟩;refine ae rfl (by kernel_rfl) rfl ?_;go_wp2_with (refine Fn _ ⟨w+1,0,none⟩ rfl [.int .i64 _,.int .i64 _] aC rfl (ag TB.o) ?_);refine ⟨rfl,?_⟩;refine aO ?_;simp only [eo,ep];go_wp2;exact ⟨⟨j+1,by omega,by go_num,SB.o.drew,TB.o.drew,BW.o.drew⟩,by simp only [intOf];omega⟩
  ·have qe:¬(j:Int)<(N:Int):=by omega
   go_wp2;go_ret;exact ⟨-1,au rfl,by omega,by omega,BW.o⟩
theorem dC {B:Nat→Prop} {w:World}:∀{xs:List aX} {cells:List Value},aM B w (cat aX.c xs) cells→cells=bO xs
 |[],_,h=>by simp only [cat,aM] at h;rw [h];rfl
 |s::r,_,h=>by
  rw [dA] at h;obtain ⟨c1,c2,rfl,h1,h2⟩:=aM.app.1 h;rw [aX.open h1,dC h2];rfl
theorem sK:∀(xs:List aX) (i:Nat),(bO xs).drop (i*2)=bO (xs.drop i)
 |xs,0=>by simp
 |[],i+1=>by simp [bO]
 |x::xs,i+1=>by
  rw [List.drop_succ_cons,←sK xs i,show (i+1)*2=i*2+2 by omega,bO];rfl
theorem CR {w:World} {ad:Addr} {n i:Nat} {cells:List Value} (h:Reads w 2 (some ad) n cells) (hi:i≤n):Reads w 2 (some (ad.add (i*2))) (n-i) (cells.drop (i*2)):=by
 refine ⟨by rw [length_drop,h.1];omega,fun h0=>⟨_,rfl,fun j u hu=>?_⟩⟩;obtain ⟨rQ,e,hc⟩:=h.2 (by omega);injection e with e;subst e;rw [List.getElem?_drop] at hu;rw [je];exact hc _ _ hu
theorem _root_.Go.World.ownsRow.jh {w w':World} {base e sz n:Nat} {v:Value} {xs:List Value} (h:w.ownsRow base e sz v n xs) (hb:Below w w w'):w'.ownsRow base e sz v n xs:=
 aH h (fun b hk=>⟨(h.lt b hk).1,hb.block b (h.lt b hk).2⟩)
theorem oB (xs ys:List aX) (A A':Option Addr) (n n' c c':Nat) (w:World) (hn:n=xs.length) (yc:n'=ys.length) (eC:n≤1048576) (vJ:n'≤1048576) (mo:n≤c) (h:aM bM w (.sl 25 2 n (cat aX.c xs) .nil) [.slice A n c]) (h':aM bM w (.sl 25 2 n' (cat aX.c ys) .nil) [.slice A' n' c']) :
 Calls Tryz.prog 47 #[.slice A n c,.slice A' n' c'] w fun e w'=>∃A2 c2,e = .returned (.slice A2 (eI xs ys).length c2)∧w'.ownsRow w 25 2 (.slice A2 (eI xs ys).length c2) (eI xs ys).length (bO (eI xs ys))∧Below w w w':=by
 have HN:=Hi hn;clear hn;have Ec:=Hi yc;clear yc;have HR:=Hi h;clear h;have Pg:=Hi h';clear h';have RY:=jt xs ys;obtain ⟨T,hT⟩:∃T,T=eI xs ys:=⟨_,rfl⟩;rw [←hT] at RY ⊢;have YZ:T.length≤2097152:=by have:=HN.o;have:=Ec.o;omega
 have HT:=Hi hT;clear hT RY;go_enter Tryz.func47,Tryz.ntmps47;go_wp2;go_loopw [5,6,7] (fun oo ii kk wr=>∃(acc:List aX) (q i k:Nat) (Av:Option Addr) (kv:Nat),i≤n∧k≤n'∧q=acc.length∧q≤2097152∧oo = .slice Av q kv∧ii = .int .i64 (i:Int)∧kk = .int .i64 (k:Int)∧acc++eI (xs.drop i) (ys.drop k)=T∧wr.ownsRow w 25 2 (.slice Av q kv) q (bO acc)∧Below w w wr) (fun _ _ kk _=>n'-(intOf kk).toNat);case atStart=>exact ⟨[],0,0,0,some ⟨w,0,none⟩,0,Nat.zero_le _,Nat.zero_le _,rfl,by omega,rfl,rfl,rfl,by rw [HT.o];rfl,World.ownsRow_made w #[] 0 Nr (by simp [maxLen]) rfl,(by repeat' (first|with_reducible (first|exact Br|exact BW.o|apply Bs|apply Ba|apply Bd)|(simp<;>omega)|omega))⟩
 case round=>
  obtain ⟨acc,q,i,k,Av,kv,hi,hk,hq,KU,rfl,rfl,rfl,hT,bg,jD⟩:=hrel;by_cases dS:k<n'
  ·have Wm:k<ys.length:=by have:=Ec.o;omega
   have JO:ys.drop k=ys[k]::ys.drop (k+1):=drop_eq_getElem_cons Wm;rw [JO] at hT;obtain ⟨y,hy⟩:∃y,y=ys[k]:=⟨_,rfl⟩;rw [←hy] at hT;have HY:=Hi hy;clear hy JO;have Wn:=hT;clear hT;have Wo:=Hi Wn;clear Wn;have KV:=bg;clear bg;have A7:=Hi KV;clear KV;have Wp:=Hi jD;clear jD;have Wq:=Hi hq;clear hq;go_wp2;go_loopw [5,6] (fun oo ii wr=>∃(acc:List aX) (q i:Nat) (Av:Option Addr) (kv:Nat),i≤n∧q=acc.length∧q≤2097152∧oo = .slice Av q kv∧ii = .int .i64 (i:Int)∧acc++eI (xs.drop i) (y::ys.drop (k+1))=T∧wr.ownsRow w 25 2 (.slice Av q kv) q (bO acc)∧Below w w wr) (fun _ ii _=>n-(intOf ii).toNat);case atStart=>exact ⟨acc,q,i,Av,kv,hi,Wq.o,KU,rfl,rfl,Wo.o,A7.o,Wp.o⟩
   case round=>
    clear Wo A7 Wp Wq hi KU;obtain ⟨acc,q,i,Av,kv,hi,hq,KU,rfl,rfl,hT,bg,jD⟩:=hrel;have HTT:=Hi hT;have HO:=Hi bg;clear bg;have BW:=Hi jD;clear jD;have HQ:=Hi hq;clear hq;obtain ⟨rQ,cy,rfl,_,_,bZ,hl,hc⟩:=(Pg.o.below BW.o).elem aX.width k Wm Ec.o;rw [←HY.o] at bZ;obtain rfl:=aX.open bZ;have I3:=Hi hc;have RZ:=Hi bZ;clear hc bZ hl;obtain ⟨yr,ve⟩:=y;simp only [] at I3;by_cases eN:i<n
    ·have R5:i<xs.length:=by have:=HN.o;omega
     have Ms:xs.drop i=xs[i]::xs.drop (i+1):=drop_eq_getElem_cons R5;obtain ⟨ad,cx,rfl,_,_,bZ,hl,hc⟩:=(HR.o.below BW.o).elem aX.width i R5 HN.o;rw [Ms] at hT;obtain rfl:=aX.open bZ;generalize xs[i]=x at *;obtain ⟨xr,rJ⟩:=x;simp only [] at hc;have KW:=Hi hc;have R6:=Hi bZ;have Y2:=Hi Ms;clear hc bZ hl Ms;have hlen:=congrArg List.length hT;rw [length_append] at hlen;have A6:=HQ.o;cases fE:eA ⟨xr,rJ⟩ ⟨yr,ve⟩
     case true=>
      rw [vU fE] at hT hlen;simp only [length_cons] at hlen;have R7:q+1≤2097152:=by omega
      have rG:=Hi fE;clear fE;have F7:=Hi (show (acc++[⟨xr,rJ⟩])++eI (xs.drop (i+1)) (⟨yr,ve⟩::ys.drop (k+1))=T by rw [←hT,append_assoc];rfl);clear hT hlen A6;go_wp2;refine ax 15 Ah (by kernel_rfl) (by kernel_rfl) ?_;iterate 8 (refine ae rfl (by kernel_rfl) rfl ?_;go_wp2;refine ⟨rfl,?_⟩)
      refine ae rfl (by kernel_rfl) rfl ?_;refine an _ rfl (ad.add (i*2)) rfl [xr,rJ] aC rfl KW.o ?_;go_wp2;refine ⟨rfl,?_⟩;iterate 3 (refine ae rfl (by kernel_rfl) rfl ?_;go_wp2;refine ⟨rfl,?_⟩)
      refine ae rfl (by kernel_rfl) rfl ?_;refine an _ rfl (rQ.add (k*2)) rfl [yr,ve] aC rfl I3.o ?_;go_wp2;refine ⟨rfl,?_⟩;refine aA rfl (by kernel_rfl) ?_;go_wp2_with fail;refine (fH ⟨xr,rJ⟩ ⟨yr,ve⟩ [xr,rJ] [yr,ve] _ R6.o.drew RZ.o.drew).mono ?_;rintro e v2 ⟨rfl,hb⟩;rw [rG.o];have HB:=Hi hb;have rk:=Hi (HO.o.drew.jh hb);have uo:=Hi (show Below w w v2 from BW.o.trans ((aW hb).mono BW.o.size));have CS:=Hi (db KW.o (aW hb));have zc:=Hi (db I3.o (aW hb));clear hb;go_wp2;refine ⟨Ext.aJ HB.o,?_⟩
      (refine ae rfl (by kernel_rfl) rfl ?_;go_wp2;refine ⟨rfl,?_⟩)
      refine aO ?_;simp only [eo,ep];go_wp2_with (first|((with_reducible apply Gl 25);refine Fn _ (ad.add (i*2)) rfl [xr,rJ] aC rfl CS.o ?_)|(at_builtin;go_must (refine aB fp _ rfl _ _ rfl w _ q _ rfl (rk.o.alloc _) _ _ _ _ rfl (Reads.new rfl) (Oc rfl) (by omega) (Nt uo.o.size (by simp)) ?_;intro vv w3 cj eY fY;obtain ⟨Bb,Bc,rfl,_⟩:=eD.bd cj;have lE:=Hi cj;have o8:=Hi (Below.grown ((uo.o).alloc (uo.o).size _) eY (Nt (uo.o).size (by simp)) (fun k hk=>(rk.o.lt k hk).1));clear cj eY fY))|fail);exact ⟨⟨acc++[⟨xr,rJ⟩],q+1,i+1,Bb,Bc,by omega,by rw [length_append,←HQ.o];rfl,R7,rfl,by go_num,F7.o,by rw [ev];exact lE.o,o8.o⟩,by simp only [intOf];omega⟩
     case false=>
      have rG:=Hi fE;by_cases qp:(⟨xr,rJ⟩:aX)=⟨yr,ve⟩
      ·rw [qp,sB] at hT;rw [qp,sB] at hlen;simp only [length_cons] at hlen;have R7:q+1≤2097152:=by omega
       injection qp with e1 e2;subst e1 e2;have F7:=Hi (show (acc++[⟨xr,rJ⟩])++eI (xs.drop (i+1)) (ys.drop (k+1))=T by rw [←hT,append_assoc];rfl);clear hT hlen A6 fE;go_wp2;refine ax 15 Ah (by kernel_rfl) (by kernel_rfl) ?_;iterate 8 (refine ae rfl (by kernel_rfl) rfl ?_;go_wp2;refine ⟨rfl,?_⟩)
       refine ae rfl (by kernel_rfl) rfl ?_;refine an _ rfl (ad.add (i*2)) rfl [xr,rJ] aC rfl KW.o ?_;go_wp2;refine ⟨rfl,?_⟩;iterate 3 (refine ae rfl (by kernel_rfl) rfl ?_;go_wp2;refine ⟨rfl,?_⟩)
       refine ae rfl (by kernel_rfl) rfl ?_;refine an _ rfl (rQ.add (k*2)) rfl [xr,rJ] aC rfl I3.o ?_;go_wp2;refine ⟨rfl,?_⟩;refine aA rfl (by kernel_rfl) ?_;go_wp2_with fail;refine (fH ⟨xr,rJ⟩ ⟨xr,rJ⟩ [xr,rJ] [xr,rJ] _ R6.o.drew RZ.o.drew).mono ?_;rintro e v2 ⟨rfl,hb⟩;rw [rG.o];have HB:=Hi hb;have rk:=Hi (HO.o.drew.jh hb);have uo:=Hi (show Below w w v2 from BW.o.trans ((aW hb).mono BW.o.size));have CS:=Hi (db KW.o (aW hb));have zc:=Hi (db I3.o (aW hb));clear hb;go_wp2;refine ⟨Ext.aJ HB.o,?_⟩
       (refine ae rfl (by kernel_rfl) rfl ?_;go_wp2;refine ⟨rfl,?_⟩)
       refine aO ?_;simp only [eo,ep];go_wp2;refine ax 13 Ag (by kernel_rfl) (by kernel_rfl) ?_;iterate 8 (refine ae rfl (by kernel_rfl) rfl ?_;go_wp2;refine ⟨rfl,?_⟩)
       refine ae rfl (by kernel_rfl) rfl ?_;refine an _ rfl (ad.add (i*2)) rfl [xr,rJ] aC rfl CS.o ?_;go_wp2;refine ⟨rfl,?_⟩;iterate 3 (refine ae rfl (by kernel_rfl) rfl ?_;go_wp2;refine ⟨rfl,?_⟩)
       refine ae rfl (by kernel_rfl) rfl ?_;refine an _ rfl (rQ.add (k*2)) rfl [xr,rJ] aC rfl zc.o ?_;go_wp2;refine ⟨rfl,?_⟩;refine aO ?_;simp only [eo,ep];go_wp2_with (first|((with_reducible apply Gl 25);refine Fn _ (rQ.add (k*2)) rfl [xr,rJ] aC rfl zc.o ?_)|(at_builtin;go_must (refine aB fp _ rfl _ _ rfl w _ q _ rfl ((rk.o.alloc _).drew) _ _ _ _ rfl (Reads.new rfl) (Oc rfl) (by omega) (Nt uo.o.size (by simp)) ?_;intro vv w3 cj eY fY;obtain ⟨Bb,Bc,rfl,_⟩:=eD.bd cj;have lE:=Hi cj;have o8:=Hi (Below.grown (((uo.o).alloc (uo.o).size _).drew) eY (Nt (uo.o).size (by simp)) (fun k hk=>(rk.o.lt k hk).1));clear cj eY fY))|fail);exact ⟨⟨acc++[⟨xr,rJ⟩],q+1,i+1,k+1,Bb,Bc,by omega,by omega,by rw [length_append,←HQ.o];rfl,by omega,rfl,by go_num,by go_num,F7.o,by rw [ev];exact lE.o,o8.o⟩,by simp only [intOf];omega⟩
      ·rw [vV fE qp] at hT hlen;simp only [length_cons] at hlen;have R7:q+1≤2097152:=by omega
       have F7:=Hi (show (acc++[⟨yr,ve⟩])++eI (⟨xr,rJ⟩::xs.drop (i+1)) (ys.drop (k+1))=T by rw [←hT,append_assoc];rfl);rw [←Y2.o] at F7;clear hT hlen A6 fE;by_cases e1:xr=yr
       ·subst e1;have e2:(rJ == ve)=false:=by simp only [beq_eq_false_iff_ne];intro h;exact qp (by rw [h])
        have e3:(ve == rJ)=false:=by simp only [beq_eq_false_iff_ne];intro h;exact qp (by rw [h])
        clear qp;go_wp2;refine ax 15 Ah (by kernel_rfl) (by kernel_rfl) ?_;iterate 8 (refine ae rfl (by kernel_rfl) rfl ?_;go_wp2;refine ⟨rfl,?_⟩)
        refine ae rfl (by kernel_rfl) rfl ?_;refine an _ rfl (ad.add (i*2)) rfl [xr,rJ] aC rfl KW.o ?_;go_wp2;refine ⟨rfl,?_⟩;iterate 3 (refine ae rfl (by kernel_rfl) rfl ?_;go_wp2;refine ⟨rfl,?_⟩)
        refine ae rfl (by kernel_rfl) rfl ?_;refine an _ rfl (rQ.add (k*2)) rfl [xr,ve] aC rfl I3.o ?_;go_wp2;refine ⟨rfl,?_⟩;refine aA rfl (by kernel_rfl) ?_;go_wp2_with fail;refine (fH ⟨xr,rJ⟩ ⟨xr,ve⟩ [xr,rJ] [xr,ve] _ R6.o.drew RZ.o.drew).mono ?_;rintro e v2 ⟨rfl,hb⟩;rw [rG.o];have HB:=Hi hb;have rk:=Hi (HO.o.drew.jh hb);have uo:=Hi (show Below w w v2 from BW.o.trans ((aW hb).mono BW.o.size));have CS:=Hi (db KW.o (aW hb));have zc:=Hi (db I3.o (aW hb));clear hb;go_wp2;refine ⟨Ext.aJ HB.o,?_⟩
        (refine ae rfl (by kernel_rfl) rfl ?_;go_wp2;refine ⟨rfl,?_⟩)
        refine aO ?_;simp only [eo,ep];go_wp2;refine ax 13 Ag (by kernel_rfl) (by kernel_rfl) ?_;iterate 8 (refine ae rfl (by kernel_rfl) rfl ?_;go_wp2;refine ⟨rfl,?_⟩)
        refine ae rfl (by kernel_rfl) rfl ?_;refine an _ rfl (ad.add (i*2)) rfl [xr,rJ] aC rfl CS.o ?_;go_wp2;refine ⟨rfl,?_⟩;iterate 3 (refine ae rfl (by kernel_rfl) rfl ?_;go_wp2;refine ⟨rfl,?_⟩)
        refine ae rfl (by kernel_rfl) rfl ?_;refine an _ rfl (rQ.add (k*2)) rfl [xr,ve] aC rfl zc.o ?_;go_wp2;refine ⟨rfl,?_⟩;refine aO ?_;simp only [eo,ep];go_wp2_with (first|((with_reducible apply Gl 25);refine Fn _ (rQ.add (k*2)) rfl [xr,ve] aC rfl zc.o ?_)|(at_builtin;go_must (refine aB fp _ rfl _ _ rfl w _ q _ rfl ((rk.o.alloc _).drew) _ _ _ _ rfl (Reads.new rfl) (Oc rfl) (by omega) (Nt uo.o.size (by simp)) ?_;intro vv w3 cj eY fY;obtain ⟨Bb,Bc,rfl,_⟩:=eD.bd cj;have lE:=Hi cj;have o8:=Hi (Below.grown (((uo.o).alloc (uo.o).size _).drew) eY (Nt (uo.o).size (by simp)) (fun k hk=>(rk.o.lt k hk).1));clear cj eY fY))|fail);exact ⟨⟨acc++[⟨xr,ve⟩],q+1,i,k+1,Bb,Bc,by omega,by omega,by rw [length_append,←HQ.o];rfl,by omega,rfl,rfl,by go_num,F7.o,by rw [ev];exact lE.o,o8.o⟩,by simp only [intOf];omega⟩
       ·have e2:(xr == yr)=false:=by simp only [beq_eq_false_iff_ne];exact e1
        have e3:(yr == xr)=false:=by simp only [beq_eq_false_iff_ne];exact fun h=>e1 h.symm
        clear qp e1;go_wp2;refine ax 15 Ah (by kernel_rfl) (by kernel_rfl) ?_;iterate 8 (refine ae rfl (by kernel_rfl) rfl ?_;go_wp2;refine ⟨rfl,?_⟩)
        refine ae rfl (by kernel_rfl) rfl ?_;refine an _ rfl (ad.add (i*2)) rfl [xr,rJ] aC rfl KW.o ?_;go_wp2;refine ⟨rfl,?_⟩;iterate 3 (refine ae rfl (by kernel_rfl) rfl ?_;go_wp2;refine ⟨rfl,?_⟩)
        refine ae rfl (by kernel_rfl) rfl ?_;refine an _ rfl (rQ.add (k*2)) rfl [yr,ve] aC rfl I3.o ?_;go_wp2;refine ⟨rfl,?_⟩;refine aA rfl (by kernel_rfl) ?_;go_wp2_with fail;refine (fH ⟨xr,rJ⟩ ⟨yr,ve⟩ [xr,rJ] [yr,ve] _ R6.o.drew RZ.o.drew).mono ?_;rintro e v2 ⟨rfl,hb⟩;rw [rG.o];have HB:=Hi hb;have rk:=Hi (HO.o.drew.jh hb);have uo:=Hi (show Below w w v2 from BW.o.trans ((aW hb).mono BW.o.size));have CS:=Hi (db KW.o (aW hb));have zc:=Hi (db I3.o (aW hb));clear hb;go_wp2;refine ⟨Ext.aJ HB.o,?_⟩
        (refine ae rfl (by kernel_rfl) rfl ?_;go_wp2;refine ⟨rfl,?_⟩)
        refine aO ?_;simp only [eo,ep];go_wp2;refine ax 13 Ag (by kernel_rfl) (by kernel_rfl) ?_;iterate 8 (refine ae rfl (by kernel_rfl) rfl ?_;go_wp2;refine ⟨rfl,?_⟩)
        refine ae rfl (by kernel_rfl) rfl ?_;refine an _ rfl (ad.add (i*2)) rfl [xr,rJ] aC rfl CS.o ?_;go_wp2;refine ⟨rfl,?_⟩;iterate 3 (refine ae rfl (by kernel_rfl) rfl ?_;go_wp2;refine ⟨rfl,?_⟩)
        refine ae rfl (by kernel_rfl) rfl ?_;refine an _ rfl (rQ.add (k*2)) rfl [yr,ve] aC rfl zc.o ?_;go_wp2;refine ⟨rfl,?_⟩;refine aO ?_;simp only [eo,ep];go_wp2_with (first|((with_reducible apply Gl 25);refine Fn _ (rQ.add (k*2)) rfl [yr,ve] aC rfl zc.o ?_)|(at_builtin;go_must (refine aB fp _ rfl _ _ rfl w _ q _ rfl ((rk.o.alloc _).drew) _ _ _ _ rfl (Reads.new rfl) (Oc rfl) (by omega) (Nt uo.o.size (by simp)) ?_;intro vv w3 cj eY fY;obtain ⟨Bb,Bc,rfl,_⟩:=eD.bd cj;have lE:=Hi cj;have o8:=Hi (Below.grown (((uo.o).alloc (uo.o).size _).drew) eY (Nt (uo.o).size (by simp)) (fun k hk=>(rk.o.lt k hk).1));clear cj eY fY))|fail);exact ⟨⟨acc++[⟨yr,ve⟩],q+1,i,k+1,Bb,Bc,by omega,by omega,by rw [length_append,←HQ.o];rfl,by omega,rfl,rfl,by go_num,F7.o,by rw [ev];exact lE.o,o8.o⟩,by simp only [intOf];omega⟩
    ·have I4:i=n:=by omega
     subst I4;have Ms:xs.drop i=[]:=List.drop_of_length_le (by have:=HN.o;omega);rw [Ms,pY] at hT;have hlen:=congrArg List.length hT;rw [length_append] at hlen;simp only [length_cons] at hlen;have A6:=HQ.o;have R7:q+1≤2097152:=by omega
     have F7:=Hi (show (acc++[⟨yr,ve⟩])++eI (xs.drop i) (ys.drop (k+1))=T by rw [Ms,pY,←hT,append_assoc];rfl);clear hT hlen A6 Ms;go_wp2;refine ax 15 Ah (by kernel_rfl) (by kernel_rfl) ?_;iterate 5 (refine ae rfl (by kernel_rfl) rfl ?_;go_wp2;refine ⟨rfl,?_⟩)
     (iterate 6 (refine bn rfl rfl (by kernel_rfl) ?_));simp only [fk,ft,fu];(iterate 3 (refine bn rfl rfl (by kernel_rfl) ?_));simp only [fk,ft,fu]
     (refine ae rfl (by kernel_rfl) rfl ?_;go_wp2;refine ⟨rfl,?_⟩)
     refine aO ?_;simp only [eo,ep];go_wp2;refine ax 15 Ah (by kernel_rfl) (by kernel_rfl) ?_;iterate 5 (refine ae rfl (by kernel_rfl) rfl ?_;go_wp2;refine ⟨rfl,?_⟩)
     (iterate 6 (refine bn rfl rfl (by kernel_rfl) ?_));simp only [fk,ft,fu];(iterate 3 (refine bn rfl rfl (by kernel_rfl) ?_));simp only [fk,ft,fu]
     (refine ae rfl (by kernel_rfl) rfl ?_;go_wp2;refine ⟨rfl,?_⟩)
     refine aO ?_;simp only [eo,ep];go_wp2_with (first|((with_reducible apply Gl 25);refine Fn _ (rQ.add (k*2)) rfl [yr,ve] aC rfl I3.o ?_)|(at_builtin;go_must (refine aB fp _ rfl _ _ rfl w _ q _ rfl ((HO.o.alloc _).drew.drew) _ _ _ _ rfl (Reads.new rfl) (Oc rfl) (by omega) (Nt BW.o.size (by simp)) ?_;intro vv w3 cj eY fY;obtain ⟨Bb,Bc,rfl,_⟩:=eD.bd cj;have lE:=Hi cj;have o8:=Hi (Below.grown (((BW.o).alloc (BW.o).size _).drew.drew) eY (Nt (BW.o).size (by simp)) (fun k hk=>(HO.o.lt k hk).1));clear cj eY fY))|fail);exact ⟨⟨acc++[⟨yr,ve⟩],q+1,i,k+1,Bb,Bc,by omega,by omega,by rw [length_append,←HQ.o];rfl,by omega,rfl,rfl,by go_num,F7.o,by rw [ev];exact lE.o,o8.o⟩,by simp only [intOf];omega⟩
  ·have Y3:k=n':=by omega
   subst Y3;have JO:ys.drop k=[]:=List.drop_of_length_le (by have:=Ec.o;omega);rw [JO,qZ] at hT;have F7:=Hi hT;have HO:=Hi bg;clear bg;have BW:=Hi jD;clear jD;have HQ:=Hi hq;clear hq hT JO;obtain ⟨cells,dH,bZ,_⟩:=HR.o.row;obtain rfl:=dC bZ;have nz:=Hi (dH.below BW.o);clear dH bZ;have KX:q+(n-i)=T.length:=by rw [←F7.o,length_append,length_drop,←HQ.o,←HN.o]
   have KY:bO acc++bO (xs.drop i)=bO T:=by rw [←F7.o,ev]
   have rG:=Hi KX;have R8:=Hi KY;have TA:q+(n-i)≤2097152:=by omega
   have JP:=Hi (show ∀u∈bO (xs.drop i),u.oneCell'=true from (qc wr 0 (xs.drop i)).one);clear KX KY;have O7:=sK xs i;by_cases vf:c=i∨A=none
   ·have TC:n-i=0:=by
     rcases vf with h|h
     ·omega
     ·subst h;rcases Nat.eq_zero_or_pos n with h0|h0
      ·omega
      ·obtain ⟨ad,e,_⟩:=nz.o.2 h0;cases e
    have I5:xs.drop i=[]:=List.drop_of_length_le (by have:=HN.o;omega);have vR:=Hi (show ∀B:Option Addr,Reads wr 2 B (n-i) (bO (xs.drop i)) from fun B=>by rw [TC,I5];exact ⟨by simp [bO],fun h=>absurd h (by omega)⟩);clear O7 TC I5;rcases vf with h|h
    ·cases A with
     |none=>
      go_wp2_with (at_builtin;go_must (refine aB fp _ rfl _ _ rfl w _ q _ rfl HO.o _ _ _ (bO (xs.drop i)) rfl (vR.o _) JP.o (by omega) BW.o.size ?_;intro vv w3 cj eY fY;obtain ⟨Bb,Bc,rfl,_⟩:=eD.bd cj;have lE:=Hi cj;have o8:=Hi (Below.grown BW.o eY BW.o.size (fun k hk=>(HO.o.lt k hk).1));clear cj eY fY));go_ret;exact ⟨Bb,Bc,au (by rw [rG.o];rfl),by rw [←rG.o,←R8.o];exact lE.o,o8.o⟩
     |some ad=>
      go_wp2_with (at_builtin;go_must (refine aB fp _ rfl _ _ rfl w _ q _ rfl HO.o _ _ _ (bO (xs.drop i)) rfl (vR.o _) JP.o (by omega) BW.o.size ?_;intro vv w3 cj eY fY;obtain ⟨Bb,Bc,rfl,_⟩:=eD.bd cj;have lE:=Hi cj;have o8:=Hi (Below.grown BW.o eY BW.o.size (fun k hk=>(HO.o.lt k hk).1));clear cj eY fY));go_ret;exact ⟨Bb,Bc,au (by rw [rG.o];rfl),by rw [←rG.o,←R8.o];exact lE.o,o8.o⟩
    ·subst h;go_wp2_with (at_builtin;go_must (refine aB fp _ rfl _ _ rfl w _ q _ rfl HO.o _ _ _ (bO (xs.drop i)) rfl (vR.o _) JP.o (by omega) BW.o.size ?_;intro vv w3 cj eY fY;obtain ⟨Bb,Bc,rfl,_⟩:=eD.bd cj;have lE:=Hi cj;have o8:=Hi (Below.grown BW.o eY BW.o.size (fun k hk=>(HO.o.lt k hk).1));clear cj eY fY));go_ret;exact ⟨Bb,Bc,au (by rw [rG.o];rfl),by rw [←rG.o,←R8.o];exact lE.o,o8.o⟩
   ·obtain ⟨ad,rfl⟩:∃ad,A=some ad:=by
     cases A with
     |none=>exact absurd (Or.inr rfl) vf
     |some ad=>exact ⟨ad,rfl⟩
    have JN:¬c=i:=fun h=>vf (.inl h)
    have Y4:¬c-i=0:=by omega
    have vR:=Hi (show Reads wr 2 (some (ad.add (i*2))) (n-i) (bO (xs.drop i)) by rw [←O7];exact CR nz.o hi);clear O7 vf;go_wp2_with (at_builtin;go_must (refine aB fp _ rfl _ _ rfl w _ q _ rfl HO.o _ _ _ (bO (xs.drop i)) rfl vR.o JP.o (by omega) BW.o.size ?_;intro vv w3 cj eY fY;obtain ⟨Bb,Bc,rfl,_⟩:=eD.bd cj;have lE:=Hi cj;have o8:=Hi (Below.grown BW.o eY BW.o.size (fun k hk=>(HO.o.lt k hk).1));clear cj eY fY));go_ret;exact ⟨Bb,Bc,au (by rw [rG.o];rfl),by rw [←rG.o,←R8.o];exact lE.o,o8.o⟩
theorem Be:∀(L:List Value) (k:Nat) (acc:Array Value) (i:Nat),((L.zipIdx k).foldl (fun (a:Array Value) (p:Value × Nat)=>a.setIfInBounds (0+p.2) p.1) acc)[i]?=if k≤i∧i<k+L.length∧i<acc.size then L[i-k]? else acc[i]?
 |[],k,acc,i=>by
  rw [if_neg (by rintro ⟨h1,h2,_⟩;simp at h2;omega)];rfl
 |x::L,k,acc,i=>by
  rw [List.zipIdx_cons,List.foldl_cons,Be L (k+1) _ i,Array.size_setIfInBounds,Array.getElem?_setIfInBounds,length_cons];by_cases h0:i=k
  ·subst h0;rw [if_neg (by omega),if_pos (by omega)];by_cases h1:i<acc.size
   ·rw [if_pos (by omega),if_pos (by omega)];simp
   ·rw [if_neg (by omega),if_neg (by omega)];simp;omega
  ·by_cases h1:k+1≤i∧i<k+1+L.length∧i<acc.size
   ·rw [if_pos h1,if_pos (by omega),show i-k=(i-(k+1))+1 by omega,List.getElem?_cons_succ]
   ·rw [if_neg h1,if_neg (by omega),if_neg (by omega)]
theorem tJ (cur:Array Value) (cs:List Value) (n:Nat) (h1:cs.length=n) (h2:cur.size=n):Instr.fill (fun i=>some (i*n,n)) cur [(0,.agg cs.toArray)]=some cs.toArray:=by
 have hc:(Value.agg cs.toArray).cells=cs.toArray:=rfl;simp only [Instr.fill,hc,Nat.zero_mul,List.size_toArray];rw [if_neg (by rw [h1];simp;omega)];congr 1;apply Array.ext_getElem?;intro i;rw [←Array.foldl_toList,Array.toList_zipIdx];rw [Be cs 0 cur i];split
 ·simp
 ·rw [Array.getElem?_eq_none (by omega)];simp;omega
theorem eF {ops:Array Oper} {rest:List Oper} {o:Oper} {a:Act} {w:World} {Q:Exit→Act→World→Prop} (hg:o.guard=none) (x:Operand) (ho:o.op = .buildSlice 44 1 #[(0,x)]) (cs:List Value) (hl:cs.length=16) (hx:a.eval x = .agg cs.toArray)
 (h:wpList Tryz.prog ops Q rest (a.put o.dst (.slice (some ⟨w,0,none⟩) 1 1)) (w.alloc (.cells cs.toArray 106))):wpList Tryz.prog ops Q (o::rest) a w:=by
 obtain ⟨ie,I4⟩:∃ie,Tryz.prog.info? 106=some ie:=by
  have:=lj.hi;cases hh:Tryz.prog.info? 106 with
  |none=>rw [hh] at this;cases this
  |some ie=>exact ⟨ie,rfl⟩
 have hi:=lj.hi;rw [I4] at hi;simp only [Option.map_some,Option.some.injEq,Prod.mk.injEq] at hi;obtain ⟨hz,hs,_⟩:=hi;refine wpList_buildSlice hg 44 106 1 _ ho cs.toArray ie _ lj.ht I4 hz (by rw [hs];decide) (by rw [hs];decide) ?_ h;rw [hs];have e:(Array.map (fun (x:Nat × Operand)=>(x.1,a.eval x.2)) #[(0,x)]).toList=[(0,.agg cs.toArray)]:=by
  simp [hx]
 show Instr.fill _ _ (Array.map (fun (x:Nat × Operand)=>(x.1,a.eval x.2)) #[(0,x)]).toList=_;rw [e];exact tJ _ _ 16 hl (by simp)
theorem JQ {w w':World} {base e sz n:Nat} {α:Type} {f:α→Cs} {xs:List α} {x:α} {v v':Value} {cells cs:List Value} {F F':List Nat} (hn:n=xs.length) (hf:∀x,(f x).width=sz)
 (ho:Own w base (cat f xs) cells F) (nO:(v.ownBlock.toList++F).Nodup) (hx:Own w base (f x) cs F') (TD:F'.Nodup) (Pu:∀b∈F',b∉v.ownBlock.toList++F)
 (h':w'.ownsRow base e sz v' (n+1) (cells++cs)) (hg:w.grownBy w' v.ownBlock) (xV:v'.ownBlock=v.ownBlock∨v'.ownBlock=some w) :
 fO w' base (.sl e sz (n+1) (cat f (xs++[x])) .nil) [v']:=by
 have hv:∀b∈F,v.ownBlock≠some b:=fun b hb e=>by
  rw [e] at nO;simp at nO;exact nO.1 hb
 have Wr:∀b∈F',v.ownBlock≠some b:=fun b hb e=>Pu b hb (by simp [e])
 have Ws:(F++F').Nodup:=List.nodup_append.2 ⟨(List.nodup_append.1 nO).2.1,TD,fun a ha b hb e=>Pu b hb (by rw [←e];exact List.mem_append_right _ ha)⟩;refine ⟨v'.ownBlock.toList++(F++F'),?_,Own.zW.2 ⟨cells++cs,F++F',rfl,?_,h',?_⟩⟩
 ·rcases xV with e|e
  ·rw [e];refine List.nodup_append.2 ⟨by cases v.ownBlock<;>simp,Ws,fun a ha b hb e2=>?_⟩;subst e2;have R9:v.ownBlock=some a:=by simpa using ha
   rcases List.mem_append.1 hb with h|h
   ·exact hv a h R9
   ·exact Wr a h R9
  ·rw [e];refine List.nodup_append.2 ⟨by simp,Ws,fun a ha b hb e2=>?_⟩;subst e2;have R9:a=w.heap.size:=by simpa using ha
   subst R9;rcases List.mem_append.1 hb with h|h
   ·exact Nat.lt_irrefl _ (ho.in _ h).2
   ·exact Nat.lt_irrefl _ (hx.in _ h).2
 ·rw [fz hf,length_append,hn];rfl
 ·rw [lK,mM];exact Own.app.2 ⟨_,_,_,_,rfl,rfl,ho.bL (fun b hb=>hg.block b (ho.in b hb).2 (fun e=>hv b hb e.symm)),hx.bL (fun b hb=>hg.block b (hx.in b hb).2 (fun e=>Wr b hb e.symm))⟩
theorem E8 {w:World} {base e sz n:Nat} {i:Cs} {v:Value} (h:fO w base (.sl e sz n i .nil) [v]):∃cells F,w.ownsRow base e sz v n cells∧Own w base i cells F∧(v.ownBlock.toList++F).Nodup∧i.width=n*sz:=by
 obtain ⟨F0,nd,o⟩:=h;obtain ⟨cells,F,rfl,hw,hr,hi⟩:=Own.zW.1 o;exact ⟨cells,F,hr,hi,nd,hw⟩
theorem zd {w:World} {base e sz n:Nat} {i:Cs} {v:Value} {cells:List Value} {F:List Nat} (h1:w.ownsRow base e sz v n cells) (h2:Own w base i cells F):∀b∈v.ownBlock.toList++F,b<w.heap.size:=fun b hb=>by
 rcases List.mem_append.1 hb with h|h
 ·exact (h1.lt b (by simpa using h)).2
 ·exact (h2.in b h).2
theorem E9 {w:World} {base e sz c g:Nat} (h:w.ownsRow base e sz (.slice (some ⟨g,0,none⟩) 0 c) 0 []):fO w base (.sl e sz 0 .nil .nil) [.slice (some ⟨g,0,none⟩) 0 c]:=⟨[g],by simp,Own.zW.2 ⟨[],[],rfl,by simp [Cs.width],h,Own.nil.2 ⟨rfl,rfl⟩⟩⟩
theorem qJ (xs:List ak) (A:Option Addr) (n c:Nat) (w:World) (hn:n=xs.length) (AS:n≤2097152) (eC:∀y∈xs,(y.c).wt≤1048576) (h:aM bM w (.sl 106 16 n (cat ak.c xs) .nil) [.slice A n c]) :
 Calls Tryz.prog 91 #[.slice A n c] w fun e w'=>∃A' c',e = .returned (.slice A' n c')∧fO w' w (.sl 106 16 n (cat ak.c xs) .nil) [.slice A' n c']∧Below w w w':=by
 have HR:=Hi h;clear h;have HN:=Hi hn;clear hn;have og:=Hi eC;clear eC;go_enter Tryz.func91,Tryz.ntmps91;go_wp2;go_loopw [3,4] (fun oo ii wr=>∃(j:Nat) (A':Option Addr) (c':Nat),j≤n∧ii = .int .i64 (j:Int)∧oo = .slice A' j c'∧fO wr w (.sl 106 16 j (cat ak.c (xs.take j)) .nil) [.slice A' j c']∧Below w w wr) (fun _ ii _=>n-(intOf ii).toNat);case atStart=>exact ⟨0,some ⟨w,0,none⟩,0,Nat.zero_le _,rfl,rfl,E9 (World.ownsRow_made w #[] 0 Nr (by simp [maxLen]) rfl),(by repeat' (first|with_reducible (first|exact Br|exact BW.o|apply Bs|apply Ba|apply Bd)|(simp<;>omega)|omega))⟩
 case round=>
  obtain ⟨j,A',c',hj,rfl,rfl,hm,bE⟩:=hrel;have L0:=Hi hm;clear hm;have L5:=Hi bE;clear bE;by_cases dS:j<n
  ·have fg:j<xs.length:=by have:=HN.o;omega
   obtain ⟨ad,ci,rfl,_,_,bZ,hl,hc⟩:=(HR.o.below L5.o).elem ak.width j fg HN.o;have dk:xs.take (j+1)=xs.take j++[xs[j]]:=take_succ_eq_append_getElem fg;have vf:=og.o _ (getElem_mem fg);have F8:j=(xs.take j).length:=by rw [length_take,Nat.min_eq_left (Nat.le_of_lt fg)]
   generalize xs[j]=x at *;have Pv:=Hi F8;clear F8;have HL:=Hi hl;clear hl;have HC:=Hi hc;clear hc;have gP:=Hi bZ;clear bZ;have kM:=Hi dk;clear dk;have Y5:=Hi vf;clear vf;obtain ⟨cells,F,Cb,tI,Bf,_⟩:=E8 L0.o;have R0:=Hi Cb;have O0:=Hi tI;have N0:=Hi Bf;have Y6:=Hi (zd Cb tI);clear Cb tI Bf;go_wp2_with ((with_reducible apply Gl 106);refine Fn _ (ad.add (j*16)) rfl ci aw HL.o HC.o ?_);refine (wA x ci _ Y5.o gP.o).mono ?_;rintro e v2 ⟨dE,rfl,⟨F',n',o'⟩,hb⟩;have JR:=Hi (show dE.length=16 from o'.length.trans (ak.width _));have N1:=Hi n';clear n';have O1:=Hi o';clear o';have BB:=Hi hb;clear hb;go_wp2_with (first|((with_reducible show wpList _ _ _ ({dst:=_,op:=Op.buildSlice _ _ _,type:=_,pos:=_,after:=_,guard:=_}::_) _ _);go_must (refine eF rfl (.tmp 17) rfl dE JR.o rfl ?_))|(at_builtin;go_must (refine aB lj _ rfl (.tmp 12) (.tmp 18) rfl w _ j cells rfl ((R0.o.jh BB.o).alloc _) _ _ _ _ rfl (Reads.new (e:=106) (by simp [JR.o])) O1.o.one (by omega) (by have h1:=L5.o.size;have h2:=BB.o.size;simp;omega) ?_;intro v' w5 dF kB lu;have W5:=Hi dF;have G5:=Hi kB;have T5:=Hi lu;clear dF kB lu)));obtain ⟨Av,kv,rfl,_⟩:=eD.bd W5.o;refine ⟨⟨j+1,Av,kv,by omega,by go_num,rfl,?_,?_⟩,by simp only [intOf];omega⟩
   ·rw [kM.o];refine JQ Pv.o ak.width ((O0.o.below BB.o).below (Br.alloc Nr _)) N0.o ((O1.o.mono L5.o.size).below (Br.alloc Nr _)) N1.o (fun b hb hm=>?_) W5.o G5.o T5.o;have h1:=Y6.o b hm;have h2:=(O1.o.in b hb).1;omega
   ·exact Below.grown ((L5.o.trans (BB.o.mono L5.o.size)).alloc (Nt L5.o.size BB.o.size) _) G5.o (by have h1:=L5.o.size;have h2:=BB.o.size;simp;omega) (fun k hk=>((R0.o.lt k hk).1))
  ·have iQ:j=n:=by omega
   subst iQ;have dX:xs.take j=xs:=take_of_length_le (by have:=HN.o;omega);have h0:=L0.o;rw [dX] at h0;have H0:=Hi h0;clear h0 dX;go_wp2;go_ret;exact ⟨_,_,rfl,H0.o,L5.o⟩
def qg (x:aX):ak:=⟨x,-1,-1,0,⟨0,0,0,[],[],[],0,[]⟩,0,[],false⟩
def eR (xs:List ak) (x:aX):ak:=(xs.find? fun y=>decide (y.id=x)).getD (qg x)
theorem Aat {xs:List ak} {x:aX} {j:Nat} (hj:j<xs.length) (h:∀i (hi:i<xs.length),i<j→¬xs[i].id=x) (he:xs[j].id=x):eR xs x=xs[j]:=by
 unfold eR;have:xs.find? (fun y=>decide (y.id=x))=some xs[j]:=by
  rw [List.find?_eq_some_iff_getElem];refine ⟨by simpa using he,j,hj,rfl,fun i hi=>?_⟩;simpa using h i (by omega) hi
 rw [this];rfl
theorem Aau {xs:List ak} {x:aX} (h:∀i (hi:i<xs.length),¬xs[i].id=x):eR xs x=qg x:=by
 unfold eR;have:xs.find? (fun y=>decide (y.id=x))=none:=by
  rw [List.find?_eq_none];intro y hy;obtain ⟨i,hi,rfl⟩:=getElem_of_mem hy;simpa using h i hi
 rw [this];rfl
theorem zi (w:World) (base:Nat) (xr eL:Int):fO w base (qg ⟨xr,eL⟩).c [xr,eL,.int .i64 (-1),.int .i64 (-1),cO,cO,cO,cO,cS,cS,cS,cO,cL,cO,cL,false]:=
 ⟨[],nodup_nil,ak.jM (x:=qg ⟨xr,eL⟩) (F0:=[]) (F1:=[]) (Own.uX _ rfl) (Own.uX _ rfl)⟩
theorem gf (xs:List ak) (x:aX) (A:Option Addr) (n c:Nat) (cs:List Value) (w:World) (hn:n=xs.length) (eC:n+(cat ak.c xs).wt≤1048576) (_:x.c.wt≤1048576) (h:aM bM w (.sl 106 16 n (cat ak.c xs) .nil) [.slice A n c]) (h':aM bM w x.c cs) :
 Calls Tryz.prog 77 #[.slice A n c,.agg cs.toArray] w fun e w'=>∃dE,e = .returned (.agg dE.toArray)∧fO w' w (eR xs x).c dE∧Below w w w':=by
 have HN:=Hi hn;clear hn;have HR:=Hi h;clear h;obtain rfl:=aX.open h';clear h';obtain ⟨R,hR⟩:∃R,R=eR xs x:=⟨_,rfl⟩;rw [←hR];have iR:=@Aau xs x;rw [←hR] at iR;have xI:=fun j hj h he=>(hR.trans (@Aat xs x j hj h he))
 have qE:=Hi iR;clear iR;have FY:=Hi xI;clear xI hR;obtain ⟨xr,eL⟩:=x;simp only [] at qE FY ⊢;have FV:n≤1048576:=by omega
 have og:=Hi eC;clear eC;have SB:=Hi (show bf ((w.alloc (.cells #[xr,eL] 25)).alloc (.cells #[cO,cO,cO,cO,cO,cO,cO,cO,cE,cE,cE,cO,cL,cO,cL,false] 106)) w 25 #[xr,eL] from pq _ _ _ _);have ZB:=Hi (show bf ((w.alloc (.cells #[xr,eL] 25)).alloc (.cells #[cO,cO,cO,cO,cO,cO,cO,cO,cE,cE,cE,cO,cL,cO,cL,false] 106)) (w+1) 106 yI from pr _ _ _ _);go_enter Tryz.func77,Tryz.ntmps77;go_wp2;go_loopw [5] (fun ii wr=>∃j:Nat,j≤n∧ii = .int .i64 (j:Int)∧(∀i (hi:i<xs.length),i<j→¬xs[i].id=⟨xr,eL⟩)∧bf wr w 25 #[xr,eL]∧bf wr (w+1) 106 yI∧Below w w wr) (fun ii _=>n-(intOf ii).toNat);case atStart=>exact ⟨0,Nat.zero_le _,rfl,fun i hi h=>absurd h (Nat.not_lt_zero _),SB.o,ZB.o,(by repeat' (first|with_reducible (first|exact Br|exact BW.o|apply Bs|apply Ba|apply Bd)|(simp<;>omega)|omega))⟩
 case round=>
  obtain ⟨j,hj,rfl,dX,aD,eJ,bE⟩:=hrel;clear SB ZB;have SB:=Hi aD;clear aD;have ZB:=Hi eJ;clear eJ;have HA:=Hi dX;clear dX;have BW:=Hi bE;clear bE;by_cases dS:j<n
  ·have fg:j<xs.length:=by have:=HN.o;omega
   obtain ⟨ad,ci,rfl,_,_,bZ,hl,hc⟩:=(HR.o.below BW.o).elem ak.width j fg HN.o;have IX:(xs[j].c).wt≤1048576:=by have:=ko (f:=ak.c) (getElem_mem fg);have:=og.o;omega
   have xI:=FY.o j fg (fun i hi y4=>HA.o i hi y4);have dk:¬xs[j].id=⟨xr,eL⟩→∀i (hi:i<xs.length),i<j+1→¬xs[i].id=⟨xr,eL⟩:=fun dO i hi y4=>by
    by_cases he:i=j
    ·subst he;exact dO
    ·exact HA.o i hi (by omega)
   have kM:=Hi dk;clear dk;have N5:=Hi xI;clear xI;have CQ:=kO bZ hc;generalize xs[j]=y at *;have HL:=Hi hl;clear hl;have HC:=Hi hc;clear hc;have gP:=Hi bZ;clear bZ;obtain ⟨yr,ys,Fj⟩:∃yr ys,y.id=⟨yr,ys⟩:=⟨y.id.rep,y.id.slot,rfl⟩;rw [Fj] at kM N5 CQ;have JK:=Hi CQ;clear CQ Fj;by_cases e1:yr=xr
   ·subst e1;by_cases e2:ys=eL
    ·subst e2;have Zf:=N5.o rfl;subst Zf;go_wp2;refine ax 6 SX (by kernel_rfl) (by kernel_rfl) ?_;iterate 4 (refine ae rfl (by kernel_rfl) rfl ?_;go_wp2;refine ⟨rfl,?_⟩)
     refine ae rfl (by kernel_rfl) rfl ?_;go_wp2_with (refine Fn _ (ad.add (j*16)) rfl [.int .i64 _,.int .i64 _] aC rfl JK.o ?_);refine ⟨rfl,?_⟩;refine ae rfl (by kernel_rfl) rfl ?_;go_wp2_with (refine Fn _ ⟨w,0,none⟩ rfl [.int .i64 _,.int .i64 _] aC rfl (ag SB.o) ?_);refine ⟨rfl,?_⟩;refine aO ?_;try simp only [eo,ep]
     go_wp2_with ((with_reducible apply Gl 106);refine Fn _ (ad.add (j*16)) rfl ci aw HL.o HC.o ?_);refine (wA _ ci _ IX gP.o.drew).mono ?_;rintro e v1 ⟨dE,rfl,hM,hb⟩;have ti:dE.length=16:=hM.rep.length.trans (ak.width _);have JR:=Hi ti;clear ti;have HM:=Hi hM;clear hM;have cz:=aW hb;have Zg:=Hi (ZB.o.below cz);have WB:=Hi (BW.o.trans (cz.mono BW.o.size));have HZ:=Hi (show w.heap.size+1<wr.heap.size from ZB.o.lt);clear hb cz;go_wp2_with ((with_reducible apply Gs 106);refine Fr _ (w+1) 106 0 dE [] yI [] _ rfl rfl (JR.o ▸ aw) Zg.o rfl rfl JR.o.symm HM.o.rep.one ?_;intro v9 TQ ei);have eJ:bf v9 (w+1) 106 dE.toArray:=by simpa using TQ
     obtain ⟨F,nO,ho⟩:=HM.o;have K2:=ho.mg (base':=w.heap.size) (w':=v9) (fun b hb=>by
      have h1:=ho.in b hb;have h2:wr.heap.size≤b:=h1.1;have h3:=HZ.o;exact ⟨by omega,ei.block b h1.2 (fun e=>by injection e with e;omega)⟩);exact bh rfl ⟨w+1,0,none⟩ rfl dE aw JR.o (ag eJ) rfl ⟨_,rfl,⟨F,nO,K2⟩,Below.grown WB.o ei WB.o.size (fun k hk=>by injection hk with hk;omega)⟩
    ·have hS:=kM.o (fun h=>e2 (by injection h));have HS:=Hi hS;clear hS;have e3:(ys == eL)=false:=by simpa using e2
     have e4:(eL == ys)=false:=by simp only [beq_eq_false_iff_ne];exact fun h=>e2 h.symm
     clear e2;go_wp2;refine ax 6 SX (by kernel_rfl) (by kernel_rfl) ?_;iterate 4 (refine ae rfl (by kernel_rfl) rfl ?_;go_wp2;refine ⟨rfl,?_⟩)
     refine ae rfl (by kernel_rfl) rfl ?_;go_wp2_with (refine Fn _ (ad.add (j*16)) rfl [.int .i64 _,.int .i64 _] aC rfl JK.o ?_);refine ⟨rfl,?_⟩;refine ae rfl (by kernel_rfl) rfl ?_;go_wp2_with (refine Fn _ ⟨w,0,none⟩ rfl [.int .i64 _,.int .i64 _] aC rfl (ag SB.o) ?_);refine ⟨rfl,?_⟩;refine aO ?_;try simp only [eo,ep]
     go_wp2;exact ⟨⟨j+1,by omega,by go_num,HS.o,SB.o.drew,ZB.o.drew,BW.o.drew⟩,by simp only [intOf];omega⟩
   ·have hS:=kM.o (fun h=>e1 (by injection h));have HS:=Hi hS;clear hS;have e3:(yr == xr)=false:=by simpa using e1
    have e4:(xr == yr)=false:=by simp only [beq_eq_false_iff_ne];exact fun h=>e1 h.symm
    clear e1;go_wp2;refine ax 6 SX (by kernel_rfl) (by kernel_rfl) ?_;iterate 4 (refine ae rfl (by kernel_rfl) rfl ?_;go_wp2;refine ⟨rfl,?_⟩)
    refine ae rfl (by kernel_rfl) rfl ?_;go_wp2_with (refine Fn _ (ad.add (j*16)) rfl [.int .i64 _,.int .i64 _] aC rfl JK.o ?_);refine ⟨rfl,?_⟩;refine ae rfl (by kernel_rfl) rfl ?_;go_wp2_with (refine Fn _ ⟨w,0,none⟩ rfl [.int .i64 _,.int .i64 _] aC rfl (ag SB.o) ?_);refine ⟨rfl,?_⟩;refine aO ?_;try simp only [eo,ep]
    go_wp2;exact ⟨⟨j+1,by omega,by go_num,HS.o,SB.o.drew,ZB.o.drew,BW.o.drew⟩,by simp only [intOf];omega⟩
  ·have iQ:j=n:=by omega
   subst iQ;have Zh:=qE.o (fun i hi=>HA.o i hi (by have:=HN.o;omega));subst Zh;go_wp2_with (first|((with_reducible apply Gl 25);refine Fn _ ⟨w,0,none⟩ rfl [xr,eL] aC rfl (ag SB.o) ?_)|((with_reducible apply Gs 106);refine Fr _ (w+1) 106 0 [xr,eL,.int .i64 (-1),.int .i64 (-1),cO,cO,cO,cO,cS,cS,cS,cO,cL,cO,cL,false] [] yI [] _ rfl rfl aw ZB.o rfl rfl rfl (Oc rfl) ?_;intro v9 eJ ei));exact bh rfl ⟨w+1,0,none⟩ rfl [xr,eL,.int .i64 (-1),.int .i64 (-1),cO,cO,cO,cO,cS,cS,cS,cO,cL,cO,cL,false] aw rfl (ag eJ) rfl ⟨_,rfl,zi _ _ _ _,Below.grown BW.o ei BW.o.size (fun k hk=>by injection hk with hk;omega)⟩
end Go.Proofs.YtfgliohpdgnmcaaGreat
namespace Go.Proofs.YtfgliohpdgnmcaaGreat
open List (take_of_length_le length_drop length_cons length_append append_assoc cons_append take_succ_eq_append_getElem length_take getElem_mem drop_eq_getElem_cons length_nil nil_append getElem_of_mem mem_cons not_mem_nil mem_append nodup_nil)
open Go.RowKit
open Go.RowKit
end Go.Proofs.YtfgliohpdgnmcaaGreat
namespace Go.Proofs.YtfgliohpdgnmcaaGreat
open Go.RowKit
open List (take_of_length_le length_drop length_cons length_append append_assoc cons_append take_succ_eq_append_getElem length_take getElem_mem drop_eq_getElem_cons length_nil nil_append getElem_of_mem mem_cons not_mem_nil mem_append nodup_nil)
theorem vj (x:aX) (w:World):aM bM w x.c [x.rep,x.slot]:=aM.int.2 ⟨_,rfl,aM.int.2 ⟨_,rfl,aM.nil.2 rfl⟩⟩
end Go.Proofs.YtfgliohpdgnmcaaGreat
