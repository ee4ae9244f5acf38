/- Lemmas for the walks of one claim (Frame, Scan, Unframe, Mark, Dat, Row, Ty, Strs, Sz, To, Eq, Mk, RegF, Arr, Sha2, Sha4, Open). Conditions: bounds on sizes, as each names them. -/
import Derived.Laws.Cells
import Derived.Deep.Slices
import Derived.Test.YtfgliohpdgnmcaaGreatB01
import Derived.Test.YtfgliohpdgnmcaaGreatB02
set_option linter.unusedVariables false
set_option linter.unusedSimpArgs false
set_option maxRecDepth 100000
set_option maxHeartbeats 8000000
namespace Go.Proofs.YtfgliohpdgnmcaaGreat
open Go.RowKit
open List (take_of_length_le length_drop length_cons map_append length_append append_assoc cons_append take_succ_eq_append_getElem length_take drop_eq_getElem_cons take_append_drop append_nil mem_cons not_mem_nil)
def bF (l:List UInt8):List UInt8:=ba (l.length:Int)++l
theorem dm (l:List UInt8):(bF l).length≤l.length+7:=by
 unfold bF;have:=aG (l.length:Int);rw [length_append];omega
def pj (l:List UInt8):List UInt8:=if l.length≤200 then gz 4 (Tb (bF l))++bF l else []
theorem lY (l:List UInt8) (w:World) (yS:(l.length:Int)≤9223372036854775000) :
 Calls Tryz.prog 20 #[l] w fun e w'=>e = .returned (.string (bs (bF l)))∧Below w w w':=by
 have hv:=aG (l.length:Int);go_enter Tryz.func20,Tryz.ntmps20;go_wp2_with (go_at_call 19;refine (eP _ _).mono ?_;rintro e w1 ⟨rfl,cW⟩;have B1:=Hi cW;clear cW);go_ret;exact ⟨rfl,B1.o⟩
theorem lZ (l:List UInt8) (w:World) (yS:(l.length:Int)≤9223372036854775000) :
 Calls Tryz.prog 34 #[l] w fun e w'=>e = .returned (.string (bs (bF l)))∧Below w w w':=by
 have hv:=aG (l.length:Int);go_enter Tryz.func34,Tryz.ntmps34;go_wp2_with (go_at_call 33;refine (cH _ _).mono ?_;rintro e w1 ⟨rfl,cW⟩;have B1:=Hi cW;clear cW);go_ret;exact ⟨rfl,B1.o⟩
def aP (rest:List UInt8) (bad:Bool):Nat × List UInt8 × Bool:=
 if bad=true∨(bJ rest).2=0 then (0,rest,true) else ((bJ rest).1,rest.drop (bJ rest).2,false)
def dn (rest:List UInt8) (bad:Bool) (n:Int):List UInt8 × List UInt8 × Bool:=
 if bad=true∨¬(0≤n∧n≤rest.length) then ([],rest,true) else (rest.take n.toNat,rest.drop n.toNat,false)
theorem iU {a w:World} (h:Below a a w) (row:Option Nat):a.grownBy w row:=⟨h.os,h.tape,h.output,h.size,fun i hi _=>h.block i hi⟩
def bq (w:World) (b:Nat) (rest:List UInt8) (bad:Bool):Prop:=w.heap[b]?=some (.cells #[rest,bad] 55 (0,0))
theorem bq.c0 {w:World} {b:Nat} {rest:List UInt8} {bad:Bool} (h:bq w b rest bad):w.cell? ⟨b,0,none⟩=some (.string (bs rest)):=cell_of_row w b 0 _ _ _ h
theorem bq.c1 {w:World} {b:Nat} {rest:List UInt8} {bad:Bool} (h:bq w b rest bad):w.cell? ⟨b,1,none⟩=some (.bool bad):=cell_of_row w b 1 _ _ _ h
theorem bq.fr {w:World} {b:Nat} {rest:List UInt8} {bad:Bool} (h:bq w b rest bad) (i:Nat):w.frozen? ⟨b,i,none⟩=false:=by
 unfold bq at h;simp [World.frozen?,h]
theorem bq.lt {w:World} {b:Nat} {rest:List UInt8} {bad:Bool} (h:bq w b rest bad):b<w.heap.size:=(Array.getElem?_eq_some_iff.1 h).1
theorem bq.below {w w':World} {b:Nat} {rest:List UInt8} {bad:Bool} (h:bq w b rest bad) (hb:Below w w w'):bq w' b rest bad:=(hb.block b h.lt).trans h
theorem bq.fN {w:World} {b:Nat} {rest:List UInt8} {bad:Bool} (h:bq w b rest bad) (r:List UInt8):bq (w.setCell ⟨b,0,none⟩ (.string (bs r))) b r bad:=by
 unfold bq at *;simp [World.setCell,Array.getElem?_modify,h]
theorem bq.Az {w:World} {b:Nat} {rest:List UInt8} {bad:Bool} (h:bq w b rest bad) (x:Bool):bq (w.setCell ⟨b,1,none⟩ (.bool x)) b rest x:=by
 unfold bq at *;simp [World.setCell,Array.getElem?_modify,h]
theorem iv {a w:World} {g:Nat} (h:a.grownBy w (some g)) (i:Nat) (u:Value):a.grownBy (w.setCell ⟨g,i,none⟩ u) (some g):=
 ⟨h.os,h.tape,h.output,by simpa [World.setCell] using h.size,fun i hi dO=>(Below.heap_setCell w _ u i (by
  rintro rfl;exact dO rfl)).trans (h.block i hi dO)⟩
theorem dh (b:Nat) (rest:List UInt8) (bad:Bool) (w:World) (yS:(rest.length:Int)≤9223372036854775807) (hs:bq w b rest bad) :
 Calls Tryz.prog 22 #[.pointer (some ⟨b,0,none⟩)] w fun e w'=>e = .returned (.int .i64 ((aP rest bad).1:Int))∧bq w' b (aP rest bad).2.1 (aP rest bad).2.2∧w.grownBy w' (some b):=by
 have c0:=hs.c0;have c1:=hs.c1;have f0:=hs.fr 0;have f1:=hs.fr 1;have HS:=Hi hs;clear hs;have hle:=jn rest;by_cases pk:bad=true∨(bJ rest).2=0
 ·have dY:aP rest bad=(0,rest,true):=by rw [aP,if_pos pk]
  rw [dY];clear dY;cases nG:bad with
  |true=>
   subst nG;clear pk;go_enter Tryz.func22,Tryz.ntmps22;go_wp2_with fail;refine (nY rest _ yS).mono ?_;rintro e w1 ⟨rfl,cW⟩;have d0:=(cW.cell (p:=⟨b,0,none⟩) HS.o.lt).trans c0;have d1:=(cW.cell (p:=⟨b,1,none⟩) HS.o.lt).trans c1;have g1:=(cW.frozen (p:=⟨b,1,none⟩) HS.o.lt).trans f1;have B1:=Hi cW;clear cW;go_wp2_with fail;go_ret;exact ⟨rfl,(HS.o.below B1.o).Az true,iv (iU B1.o _) 1 _⟩
  |false=>
   subst nG;have hz:(bJ rest).2=0:=by simpa using pk
   have xD:(((bJ rest).2:Int) == 0)=true:=by rw [hz];rfl
   clear pk hz;go_enter Tryz.func22,Tryz.ntmps22;go_wp2_with fail;refine (nY rest _ yS).mono ?_;rintro e w1 ⟨rfl,cW⟩;have d0:=(cW.cell (p:=⟨b,0,none⟩) HS.o.lt).trans c0;have d1:=(cW.cell (p:=⟨b,1,none⟩) HS.o.lt).trans c1;have g1:=(cW.frozen (p:=⟨b,1,none⟩) HS.o.lt).trans f1;have B1:=Hi cW;clear cW;go_wp2_with fail;go_ret;exact ⟨rfl,(HS.o.below B1.o).Az true,iv (iU B1.o _) 1 _⟩
 ·have dY:aP rest bad=((bJ rest).1,rest.drop (bJ rest).2,false):=by rw [aP,if_neg pk]
  rw [dY];clear dY;obtain rfl:bad=false:=by cases bad<;>simp_all
  have hz:¬(bJ rest).2=0:=fun h=>pk (Or.inr h)
  have xD:(((bJ rest).2:Int) == 0)=false:=by simp;omega
  clear pk hz;generalize hr:bJ rest=r at *;obtain ⟨q,k⟩:=r;have HR:=Hi hr;clear hr;simp only at hle xD ⊢;obtain ⟨xC,ti,O2⟩:=hle;have dd:(0:Int)≤(k:Int)∧(k:Int)≤(rest.length:Int):=by omega
  go_enter Tryz.func22,Tryz.ntmps22;go_wp2_with fail;refine (nY rest _ yS).mono ?_;rintro e w1 ⟨rfl,cW⟩;rw [HR.o];have d0:=(cW.cell (p:=⟨b,0,none⟩) HS.o.lt).trans c0;have d1:=(cW.cell (p:=⟨b,1,none⟩) HS.o.lt).trans c1;have g0:=(cW.frozen (p:=⟨b,0,none⟩) HS.o.lt).trans f0;have B1:=Hi cW;clear cW;go_wp2_with fail;go_ret;refine ⟨rfl,?_,iv (iU B1.o _) 0 _⟩;exact (HS.o.below B1.o).fN (rest.drop k)
theorem bC (rest:List UInt8) (bad:Bool):(aP rest bad).2.1.length≤rest.length∧(aP rest bad).1≤562949953421311:=by
 unfold aP;split
 ·exact ⟨Nat.le_refl _,by simp⟩
 ·exact ⟨by simp,(jn rest).2.2⟩
def bY (rest:List UInt8) (bad:Bool):List UInt8 × List UInt8 × Bool:=dn (aP rest bad).2.1 (aP rest bad).2.2 ((aP rest bad).1:Int)
theorem mL (rest:List UInt8) (bad:Bool) (n:Int):(dn rest bad n).2.1.length≤rest.length∧(dn rest bad n).1.length≤rest.length:=by
 unfold dn;split
 ·exact ⟨Nat.le_refl _,by simp⟩
 ·exact ⟨by simp,by simp [length_take];omega⟩
theorem fF (rest:List UInt8) (bad:Bool):(bY rest bad).2.1.length≤rest.length∧(bY rest bad).1.length≤rest.length:=by
 have h1:=bC rest bad;have h2:=mL (aP rest bad).2.1 (aP rest bad).2.2 ((aP rest bad).1:Int);exact ⟨Nt h2.1 h1.1,Nt h2.2 h1.1⟩
theorem pn (b:Nat) (rest:List UInt8) (bad:Bool) (n:Int) (w:World) (yS:(rest.length:Int)≤9223372036854775807) (hs:bq w b rest bad) :
 Calls Tryz.prog 23 #[.pointer (some ⟨b,0,none⟩),.int .i64 n] w fun e w'=>e = .returned (.string (bs (dn rest bad n).1))∧bq w' b (dn rest bad n).2.1 (dn rest bad n).2.2∧w.grownBy w' (some b):=by
 have c0:=hs.c0;have c1:=hs.c1;have f0:=hs.fr 0;have f1:=hs.fr 1;have HS:=Hi hs;clear hs;cases nG:bad with
 |true=>
  subst nG;have dY:dn rest true n=([],rest,true):=by rw [dn,if_pos (Or.inl rfl)]
  rw [dY];clear dY;go_enter Tryz.func23,Tryz.ntmps23;go_wp2_with fail;go_ret;exact ⟨rfl,HS.o.Az true,iv (World.grownBy.refl _ _) 1 _⟩
 |false=>
  subst nG;by_cases hn:0≤n∧n≤rest.length
  ·have dY:dn rest false n=(rest.take n.toNat,rest.drop n.toNat,false):=by rw [dn,if_neg (by simp;omega)]
   rw [dY];clear dY;obtain ⟨k,rfl⟩:=Int.eq_ofNat_of_zero_le hn.1;simp only [Int.toNat_natCast];go_enter Tryz.func23,Tryz.ntmps23;go_wp2_with (go_at_call 56;refine (qQ _ _ _ _ hn).mono ?_;rintro e w1 ⟨rfl,rfl⟩);go_ret;exact ⟨rfl,HS.o.fN _,iv (World.grownBy.refl _ _) 0 _⟩
  ·have dY:dn rest false n=([],rest,true):=by rw [dn,if_pos (Or.inr hn)]
   rw [dY];clear dY;go_enter Tryz.func23,Tryz.ntmps23;go_wp2_with (go_at_call 56;refine (tw _ _ _ _ hn).mono ?_;rintro e w1 ⟨rfl,rfl⟩);go_ret;exact ⟨rfl,HS.o.Az true,iv (World.grownBy.refl _ _) 1 _⟩
theorem Cq {a b c:World} {r:Option Nat} (h:a.grownBy b r) (k:b.grownBy c r):a.grownBy c r:=
 bR h k (fun _ hg=>Or.inl hg)
theorem lI (b:Nat) (rest:List UInt8) (bad:Bool) (w:World) (yS:(rest.length:Int)≤9223372036854775807) (hs:bq w b rest bad) :
 Calls Tryz.prog 24 #[.pointer (some ⟨b,0,none⟩)] w fun e w'=>e = .returned (.string (bs (bY rest bad).1))∧bq w' b (bY rest bad).2.1 (bY rest bad).2.2∧w.grownBy w' (some b):=by
 have HS:=Hi hs;clear hs;have hl:=bC rest bad;unfold bY;generalize hr:aP rest bad=r at *;obtain ⟨n,O4,Tc⟩:=r;have HR:=Hi hr;clear hr;simp only at hl ⊢;go_enter Tryz.func24,Tryz.ntmps24;go_wp2_with fail;refine (dh b rest bad _ yS HS.o).mono ?_;rintro e w1 ⟨rfl,tq,cQ⟩;rw [HR.o] at tq ⊢;simp only at tq;have Cr:=Hi tq;clear tq;have Yq:=Hi cQ;clear cQ;go_wp2_with fail;refine (pn b O4 Tc (n:Int) _ (by omega) Cr.o).mono ?_;rintro e w2 ⟨rfl,mK,kL⟩;have O6:=Hi mK;clear mK;have Yr:=Hi kL;clear kL;go_wp2_with fail;go_ret;exact ⟨rfl,O6.o,Cq Yq.o Yr.o⟩
def fX (s:List UInt8):Nat→Int→List Nat × Int
 |0,at_=>([],at_)
 |n+1,at_=>if at_<0∨at_>s.length then ([],-1) else
  if (bJ (s.drop at_.toNat)).2=0 then ([],-1) else
   ((bJ (s.drop at_.toNat)).1::(fX s n (at_+(bJ (s.drop at_.toNat)).2)).1,(fX s n (at_+(bJ (s.drop at_.toNat)).2)).2)
theorem uS (s:List UInt8) (n:Nat) (at_:Int) (h:at_<0∨at_>s.length):fX s (n+1) at_=([],-1):=by rw [fX,if_pos h]
theorem rY (s:List UInt8) (n:Nat) (at_:Int) (h:¬(at_<0∨at_>s.length)) (h2:(bJ (s.drop at_.toNat)).2=0):fX s (n+1) at_=([],-1):=by rw [fX,if_neg h,if_pos h2]
theorem rZ (s:List UInt8) (n:Nat) (at_:Int) (h:¬(at_<0∨at_>s.length)) (h2:¬(bJ (s.drop at_.toNat)).2=0) :
 fX s (n+1) at_=((bJ (s.drop at_.toNat)).1::(fX s n (at_+(bJ (s.drop at_.toNat)).2)).1,(fX s n (at_+(bJ (s.drop at_.toNat)).2)).2):=by
 rw [fX,if_neg h,if_neg h2]
def xE (n:Nat):Value:= .int .i64 (n:Int)
theorem EU {w:World} {base:Nat} {e:TypeId} {v:Value} {acc:List Nat} {x:Int} (h:w.ownsRow base e 1 v (acc.length+1) (acc.map xE++#[Value.int .i64 x].toList)) (b:Nat) (hx:x=(b:Int)) :
 w.ownsRow base e 1 v (acc++[b]).length ((acc++[b]).map xE):=by
 subst hx;rw [map_append,length_append];exact h
theorem qC (s:List UInt8) (a:Nat) (h:a≤s.length):a+(bJ (s.drop a)).2≤s.length:=by
 have:=(jn (s.drop a)).2.1;rw [length_drop] at this;omega
theorem jo (s:List UInt8):∀(n:Nat) (at_:Int),-1≤at_→(at_≤s.length∨0<n) → -1≤(fX s n at_).2∧((fX s n at_).2≤s.length)
 |0,at_,h1,h2=>⟨h1,by rw [fX];omega⟩
 |n+1,at_,h1,h2=>by
  by_cases h:at_<0∨at_>s.length
  ·rw [uS s n at_ h];exact ⟨Int.le_refl _,by show (-1:Int)≤_;omega⟩
  ·by_cases h0:(bJ (s.drop at_.toNat)).2=0
   ·rw [rY s n at_ h h0];exact ⟨Int.le_refl _,by show (-1:Int)≤_;omega⟩
   ·rw [rZ s n at_ h h0];have:=qC s at_.toNat (by omega);exact jo s n _ (by omega) (Or.inl (by omega))
theorem nZ (s:List UInt8):∀(n:Nat) (at_:Int),(fX s n at_).1.length≤n∧(0≤(fX s n at_).2→(fX s n at_).1.length=n)∧∀x∈(fX s n at_).1,x≤562949953421311
 |0,at_=>⟨by simp [fX],by simp [fX],by simp [fX]⟩
 |n+1,at_=>by
  by_cases h:at_<0∨at_>s.length
  ·rw [uS s n at_ h];exact ⟨by simp,by intro h;simp at h,by simp⟩
  ·by_cases h0:(bJ (s.drop at_.toNat)).2=0
   ·rw [rY s n at_ h h0];exact ⟨by simp,by intro h;simp at h,by simp⟩
   ·rw [rZ s n at_ h h0];obtain ⟨a,b,c⟩:=nZ s n (at_+(bJ (s.drop at_.toNat)).2);refine ⟨by simp only [length_cons];omega,fun hx=>by simp only [length_cons];have:=b hx;omega,?_⟩;intro x hx;rcases List.mem_cons.1 hx with rfl|hx
    ·exact (jn _).2.2
    ·exact c x hx
theorem DN:xz Tryz.prog 49 3 (.int .i64 0) 1 8:=⟨Tryz.underlying49,by kernel_rfl,rfl,by decide,by decide⟩
theorem kn (s:List UInt8) (at_:Int) (n:Nat) (w:World) (yS:(s.length:Int)≤4611686018427387904) (xV : -1≤at_∧at_≤4611686018427387910) (hn:n≤1000) :
 Calls Tryz.prog 28 #[s,at_,n] w fun e w'=>∃v,e = .returned (.tuple #[v,.int .i64 (fX s n at_).2])∧w'.ownsRow w 3 1 v (fX s n at_).1.length ((fX s n at_).1.map xE)∧Below w w w':=by
 obtain ⟨T,hT⟩:∃T,T=fX s n at_:=⟨_,rfl⟩;rw [←hT];have HT:=Hi hT;clear hT;go_enter Tryz.func28,Tryz.ntmps28;go_wp2;go_loopw [1,8,9] (fun aa v ii wr=>∃(j:Nat) (a:Int) (acc:List Nat),j≤n∧acc.length=j∧ii = .int .i64 (j:Int)∧aa = .int .i64 a ∧ -1≤a∧a≤4611686018427387910∧acc++(fX s (n-j) a).1=T.1∧(fX s (n-j) a).2=T.2∧wr.ownsRow w 3 1 v acc.length (acc.map xE)∧Below w w wr) (fun _ _ ii _=>n-(intOf ii).toNat);case atStart=>
  exact ⟨0,at_,[],Nat.zero_le _,rfl,rfl,rfl,xV.1,xV.2,by rw [HT.o];rfl,by rw [HT.o];rfl,World.ownsRow_made w #[] 0 Nr (by simp [maxLen]) rfl,Br.alloc Nr _⟩
 case round=>
  obtain ⟨j,a,acc,hj,uG,rfl,rfl,ha1,ha2,lJ,mB,bg,bE⟩:=hrel;have H1:=Hi bg;clear bg;have H2:=Hi bE;clear bE;by_cases dS:j<n
  ·rw [show n-j=(n-j-1)+1 by omega] at lJ mB;by_cases pk:a<0∨a>s.length
   ·rw [uS s _ a pk] at lJ mB;have h1:acc=T.1:=by simpa using lJ
    have h2 : -1=T.2:=mB;have H3:=Hi h1;clear h1 lJ;have H4:=Hi h2;clear h2 mB;by_cases h0:a<0
    ·clear pk;have AA:=Hi uG;clear uG;go_wp2
     go_ret2
     exact ⟨u8,au (by rw [←H4.o];rfl),by rw [←H3.o];exact H1.o,H2.o⟩
    ·have h1:(s.length:Int)<a:=by omega
     have AA:=Hi uG;clear uG pk;go_wp2
     go_ret2
     exact ⟨u8,au (by rw [←H4.o];rfl),by rw [←H3.o];exact H1.o,H2.o⟩
   ·have Ys:0≤a∧a≤(s.length:Int):=by omega
    obtain ⟨A,rfl⟩:=Int.eq_ofNat_of_zero_le Ys.1;have hle:=jn (s.drop A);have O7:=qC s A (by omega);have hlen:((s.drop A).length:Int)≤9223372036854775807:=by rw [length_drop];omega
    generalize hr:bJ (s.drop A)=r at *;obtain ⟨x,k⟩:=r;have HR:=Hi hr;clear hr;simp only at hle O7;by_cases ni:k=0
    ·rw [rY s _ _ pk (by rw [Int.toNat_natCast,HR.o];exact ni)] at lJ mB;have h1:acc=T.1:=by simpa using lJ
     have h2 : -1=T.2:=mB;have H3:=Hi h1;clear h1 lJ;have H4:=Hi h2;clear h2 mB;have KJ:((k:Int) == 0)=true:=by rw [ni];rfl
     have AA:=Hi uG;clear uG pk ni;go_wp2_with fail;refine (rX (s.drop A) _ hlen).mono ?_;rintro e w1 ⟨rfl,cW⟩;rw [HR.o];have B1:=Hi cW;clear cW;go_wp2_with fail
     go_ret2
     exact ⟨u8,au (by rw [←H4.o];rfl),by rw [←H3.o];exact H1.o.kept (iU B1.o none) (by cases u8.ownBlock<;>simp),H2.o.trans (B1.o.mono H2.o.size)⟩
    ·rw [rZ s _ _ pk (by rw [Int.toNat_natCast,HR.o];exact ni)] at lJ mB;rw [Int.toNat_natCast,HR.o] at lJ mB;simp only at lJ mB;have h1:(acc++[x])++(fX s (n-(j+1)) ((A:Int)+(k:Int))).1=T.1:=by rw [←lJ,append_assoc,show n-(j+1)=n-j-1 by omega];rfl
     have h2:(fX s (n-(j+1)) ((A:Int)+(k:Int))).2=T.2:=by rw [←mB,show n-(j+1)=n-j-1 by omega]
     have H3:=Hi h1;clear h1 lJ;have H4:=Hi h2;clear h2 mB;have KJ:((k:Int) == 0)=false:=by simp;omega
     have ES:acc.length≤1000:=by omega
     have AA:=Hi uG;clear uG pk ni;go_wp2_with fail;refine (rX (s.drop A) _ hlen).mono ?_;rintro e w1 ⟨rfl,cW⟩;rw [HR.o];have B1:=Hi cW;clear cW;have dJ:=H1.o.kept (iU B1.o none) (by cases u8.ownBlock<;>simp);have H5:=Hi dJ;clear dJ;have AB:=H2.o.trans (B1.o.mono H2.o.size);have H6:=Hi AB;clear AB;go_wp2_with (at_builtin;refine aB DN _ rfl (.tmp 37) (.tmp 39) rfl w u8 acc.length _ rfl (H5.o.alloc _) _ _ _ _ rfl (Reads.new rfl) (xA rfl) (by omega) (Nt H6.o.size (by simp)) ?_;intro v1 w2 nD cQ Jn);exact ⟨⟨j+1,(A:Int)+(k:Int),acc++[x],by omega,by rw [length_append,AA.out];rfl,by go_num,rfl,by omega,by omega,H3.o,H4.o,EU nD x rfl,((H6.o.alloc H6.o.size _).grown cQ (Nt H6.o.size (by simp)) (fun g hg=>(H5.o.lt g hg).1))⟩,by simp only [intOf];omega⟩
  ·have iQ:j=n:=by omega
   subst iQ;rw [Nat.sub_self] at lJ mB;have h1:acc=T.1:=by simpa [fX] using lJ
   have h2:a=T.2:=mB;have H3:=Hi h1;clear h1 lJ;have H4:=Hi h2;clear h2 mB;have AA:=Hi uG;clear uG;go_wp2
   go_ret2
   exact ⟨u8,au (by rw [←H4.o];rfl),by rw [←H3.o];exact H1.o,H2.o⟩
def Gz (s:List UInt8):Bool:=
 (bY (s.drop 4) false).2.2 || (pj (bY (s.drop 4) false).1).isEmpty || decide (s.length<(pj (bY (s.drop 4) false).1).length) || !(s.take (pj (bY (s.drop 4) false).1).length == pj (bY (s.drop 4) false).1)
def Mc (s:List UInt8):Option (List UInt8):=if s.length<5 then none else if Gz s then none else some (bY (s.drop 4) false).1
def Js:Nat→List UInt8→List (List UInt8) × Nat
 |0,_=>([],0)
 |f+1,s=>match Mc s with
  |none=>([],0)
  |some t=>(t::(Js f (s.drop (pj t).length)).1,(pj t).length+(Js f (s.drop (pj t).length)).2)
def GA (s:List UInt8):List (List UInt8) × Nat:=Js (s.length+1) s
def iK (l:List UInt8):Value:= .string (bs l)
theorem mc {w:World} {base:Nat} {e:TypeId} {size:Nat} {v:Value} {n:Nat} {xs:List Value} (h:w.ownsRow base e size v n xs) (hn:0<n):∃g c,v = .slice (some ⟨g,0,none⟩) n c∧base≤g∧g<w.heap.size:=by
 rcases h.2 with ⟨_,h0⟩|⟨g,cap,cur,hv,hb,hg,_⟩
 ·omega
 ·exact ⟨g,cap,hv,hb,(Array.getElem?_eq_some_iff.1 hg).1⟩
theorem xX:xz Tryz.prog 26 9 (.string ⟨#[]⟩) 1 16:=⟨Tryz.underlying26,by kernel_rfl,rfl,by decide,by decide⟩
def uf (k:Nat):List UInt8:=109::Jt k
def AaC (k n:Nat):List (List UInt8):=(List.range n).map fun i=>uf (k+i)
def eD (w:World) (size:Nat) (v:Value) (n:Nat) (xs:List Value):Prop:=∃A c,v = .slice A n c∧Reads w size A n xs
theorem eD.bd {w:World} {base size:Nat} {e:TypeId} {v:Value} {n:Nat} {xs:List Value} (h:w.ownsRow base e size v n xs):eD w size v n xs:=by
 have h2:=h.2;rcases h2 with ⟨rfl,rfl⟩|⟨g,cap,cur,rfl,_⟩
 ·exact ⟨none,0,rfl,Reads.bd h⟩
 ·exact ⟨_,_,rfl,Reads.bd h⟩
theorem eD.below {w w':World} {size:Nat} {v:Value} {n:Nat} {xs:List Value} (h:eD w size v n xs) (hb:Below w w w'):eD w' size v n xs:=by
 obtain ⟨A,c,rfl,h⟩:=h;exact ⟨A,c,rfl,h.below hb⟩
attribute [local irreducible] uf AaC dB
inductive Cs where
 |nil
 |int (n:Int) (r:Cs)
 |bool (b:Bool) (r:Cs)
 |str (s:List UInt8) (r:Cs)
 |sl (e sz n:Nat) (i:Cs) (r:Cs)
def Cs.width:Cs→Nat
 |.nil=>0
 |.int _ r=>r.width+1
 |.bool _ r=>r.width+1
 |.str _ r=>r.width+1
 |.sl _ _ _ _ r=>r.width+1
def Cs.wt:Cs→Nat
 |.nil=>0
 |.int _ r=>r.wt
 |.bool _ r=>r.wt
 |.str s r=>s.length+r.wt
 |.sl _ _ n i r=>n+i.wt+r.wt
def Cs.fG:Cs→Nat
 |.nil=>0
 |.int _ r=>1+r.fG
 |.bool _ r=>1+r.fG
 |.str _ r=>1+r.fG
 |.sl _ _ _ i r=>i.fG+r.fG
def Cs.sd:Cs→Nat
 |.nil=>0
 |.int _ r=>r.sd
 |.bool _ r=>r.sd
 |.str _ r=>r.sd
 |.sl _ _ _ i r=>i.fG+r.sd
def Cs.NU:Cs→Nat→Cs
 |.nil,_=> .nil
 |.int _ r,k=> .int (k:Int) (r.NU (k+1))
 |.bool _ r,k=> .bool (decide (k%3=0)) (r.NU (k+1))
 |.str _ r,k=> .str (uf k) (r.NU (k+1))
 |.sl e sz n i r,k=> .sl e sz n (i.NU k) (r.NU (k+i.fG))
def Cs.Ct:Cs→Nat→Cs
 |.nil,_=> .nil
 |.int n r,k=> .int n (r.Ct k)
 |.bool b r,k=> .bool b (r.Ct k)
 |.str s r,k=> .str s (r.Ct k)
 |.sl e sz n i r,k=> .sl e sz n (i.NU k) (r.Ct (k+i.fG))
def Cs.app:Cs→Cs→Cs
 |.nil,b=>b
 |.int n r,b=> .int n (r.app b)
 |.bool x r,b=> .bool x (r.app b)
 |.str s r,b=> .str s (r.app b)
 |.sl e sz n i r,b=> .sl e sz n i (r.app b)
def cat {α:Type} (f:α→Cs):List α→Cs
 |[]=> .nil
 |x::xs=>(f x).app (cat f xs)
def Cs.fit:Cs→Prop
 |.nil=>True
 |.int _ r=>r.fit
 |.bool _ r=>r.fit
 |.str _ r=>r.fit
 |.sl _ sz n i r=>i.width=n*sz∧i.fit∧r.fit
theorem Cs.se:∀a:Cs,a.app .nil=a
 |.nil=>rfl
 |.int _ r=>by rw [app,se r]
 |.bool _ r=>by rw [app,se r]
 |.str _ r=>by rw [app,se r]
 |.sl _ _ _ _ r=>by rw [app,se r]
theorem Cs.nI (b c:Cs):∀a:Cs,(a.app b).app c=a.app (b.app c)
 |.nil=>rfl
 |.int _ r=>by simp only [app,nI b c r]
 |.bool _ r=>by simp only [app,nI b c r]
 |.str _ r=>by simp only [app,nI b c r]
 |.sl _ _ _ _ r=>by simp only [app,nI b c r]
theorem Cs.nJ (b:Cs):∀a:Cs,(a.app b).width=a.width+b.width
 |.nil=>by simp [app,width]
 |.int _ r=>by simp only [app,width,nJ b r];omega
 |.bool _ r=>by simp only [app,width,nJ b r];omega
 |.str _ r=>by simp only [app,width,nJ b r];omega
 |.sl _ _ _ _ r=>by simp only [app,width,nJ b r];omega
theorem Cs.mf (b:Cs):∀a:Cs,(a.app b).wt=a.wt+b.wt
 |.nil=>by simp [app,wt]
 |.int _ r=>by simp only [app,wt,mf b r]
 |.bool _ r=>by simp only [app,wt,mf b r]
 |.str _ r=>by simp only [app,wt,mf b r];omega
 |.sl _ _ _ _ r=>by simp only [app,wt,mf b r];omega
section
variable {α:Type} {f:α→Cs}
theorem Ju:cat f [] = .nil:=rfl
theorem dA (x:α) (xs:List α):cat f (x::xs)=(f x).app (cat f xs):=rfl
theorem lK (ys:List α):∀xs:List α,cat f (xs++ys)=(cat f xs).app (cat f ys)
 |[]=>rfl
 |x::xs=>by rw [cons_append,dA,lK ys xs,dA,Cs.nI]
theorem mM (x:α):cat f [x]=f x:=by rw [dA,Ju,Cs.se]
theorem fz {sz:Nat} (h:∀x,(f x).width=sz):∀xs:List α,(cat f xs).width=xs.length*sz
 |[]=>by simp [cat,Cs.width]
 |x::xs=>by rw [dA,Cs.nJ,h,fz h xs,length_cons,Nat.succ_mul];omega
theorem ko {xs:List α} {x:α} (h:x∈xs):(f x).wt≤(cat f xs).wt:=by
 induction xs with
 |nil=>cases h
 |cons y ys ih=>
  rw [dA,Cs.mf];rcases List.mem_cons.1 h with rfl|h
  ·omega
  ·have:=ih h;omega
theorem lU (xs:List α) (i:Nat) (hi:i<xs.length):cat f xs=(cat f (xs.take i)).app ((f xs[i]).app (cat f (xs.drop (i+1)))):=by
 conv=>lhs;rw [←take_append_drop i xs]
 rw [lK,drop_eq_getElem_cons hi,dA]
end
def aM (B:Nat→Prop) (w:World):Cs→List Value→Prop
 |.nil,cs=>cs=[]
 |.int n r,cs=>∃c',cs = .int .i64 n::c'∧aM B w r c'
 |.bool b r,cs=>∃c',cs = .bool b::c'∧aM B w r c'
 |.str s r,cs=>∃c',cs = .string (bs s)::c'∧aM B w r c'
 |.sl _ sz n i r,cs=>∃A c cells c',cs = .slice A n c::c'∧i.width=n*sz∧(n≠0→∃ad,A=some ad∧B ad.block∧ad.block<w.heap.size∧∀j u,cells[j]?=some u→w.cell? (ad.add j)=some u)∧aM B w i cells∧aM B w r c'
theorem aM.length {B:Nat→Prop} {w:World}:∀{d:Cs} {cs:List Value},aM B w d cs→cs.length=d.width
 |.nil,_,h=>by simp only [aM] at h;subst h;rfl
 |.int _ r,_,h=>by simp only [aM] at h;obtain ⟨c',rfl,h⟩:=h;simp only [length_cons,Cs.width,h.length]
 |.bool _ r,_,h=>by simp only [aM] at h;obtain ⟨c',rfl,h⟩:=h;simp only [length_cons,Cs.width,h.length]
 |.str _ r,_,h=>by simp only [aM] at h;obtain ⟨c',rfl,h⟩:=h;simp only [length_cons,Cs.width,h.length]
 |.sl _ _ _ _ r,_,h=>by simp only [aM] at h;obtain ⟨_,_,_,c',rfl,_,_,_,h⟩:=h;simp only [length_cons,Cs.width,h.length]
theorem aM.dt {B B':Nat→Prop} {w w':World} (hs:w.heap.size≤w'.heap.size) (hB:∀b,B b→b<w.heap.size→B' b∧w'.heap[b]?=w.heap[b]?):∀{d:Cs} {cs:List Value},aM B w d cs→aM B' w' d cs
 |.nil,_,h=>h
 |.int _ r,_,h=>by simp only [aM] at h ⊢;obtain ⟨c',rfl,h⟩:=h;exact ⟨c',rfl,h.dt hs hB⟩
 |.bool _ r,_,h=>by simp only [aM] at h ⊢;obtain ⟨c',rfl,h⟩:=h;exact ⟨c',rfl,h.dt hs hB⟩
 |.str _ r,_,h=>by simp only [aM] at h ⊢;obtain ⟨c',rfl,h⟩:=h;exact ⟨c',rfl,h.dt hs hB⟩
 |.sl _ sz n i r,_,h=>by
  simp only [aM] at h ⊢;obtain ⟨A,c,cells,c',rfl,h1,h2,h3,h4⟩:=h;refine ⟨A,c,cells,c',rfl,h1,fun dO=>?_,h3.dt hs hB,h4.dt hs hB⟩;obtain ⟨ad,rfl,hb,dS,hc⟩:=h2 dO;have hk:=hB _ hb dS;exact ⟨ad,rfl,hk.1,Nat.lt_of_lt_of_le dS hs,fun j u hu=>by
   rw [World.cell?_of_block (w:=w) (a:=ad.add j) (by rw [cR];exact hk.2)];exact hc j u hu⟩
def bM:Nat→Prop:=fun _=>True
section
variable {B:Nat→Prop} {w w':World} {d:Cs} {cs:List Value}
theorem aM.bL (h:aM B w d cs) (hs:w.heap.size≤w'.heap.size) (hB:∀b,B b→b<w.heap.size→w'.heap[b]?=w.heap[b]?):aM B w' d cs:=h.dt hs (fun b h1 h2=>⟨h1,hB b h1 h2⟩)
theorem aM.below (h:aM B w d cs) (hb:Below w w w'):aM B w' d cs:=h.bL hb.size fun b _ dS=>hb.block b dS
theorem aM.drew (h:aM B w d cs):aM B w.drew d cs:=h.bL Nr fun _ _ _=>rfl
theorem aM.mono (h:aM B w d cs) {B':Nat→Prop} (hB:∀b,B b→B' b):aM B' w d cs:=h.dt Nr (fun b h1 _=>⟨hB b h1,rfl⟩)
theorem aM.any (h:aM B w d cs):aM bM w d cs:=h.mono fun _ _=>trivial
theorem aM.lt (h:aM B w d cs):aM (fun b=>b<w.heap.size) w d cs:=h.dt Nr (fun _ _ h2=>⟨h2,rfl⟩)
theorem aM.int {n:Int} {r:Cs}:aM B w (.int n r) cs↔∃c',cs = .int .i64 n::c'∧aM B w r c':=by simp only [aM]
theorem aM.bool {b:Bool} {r:Cs}:aM B w (.bool b r) cs↔∃c',cs = .bool b::c'∧aM B w r c':=by simp only [aM]
theorem aM.str {s:List UInt8} {r:Cs}:aM B w (.str s r) cs↔∃c',cs = .string (bs s)::c'∧aM B w r c':=by simp only [aM]
theorem aM.nil:aM B w .nil cs↔cs=[]:=by simp only [aM]
theorem aM.sl {e sz n:Nat} {i r:Cs}:aM B w (.sl e sz n i r) cs↔∃A c c',cs = .slice A n c::c'∧aM B w (.sl e sz n i .nil) [.slice A n c]∧aM B w r c':=by
 simp only [aM];constructor
 ·rintro ⟨A,c,cells,c',rfl,h1,h2,h3,h4⟩;exact ⟨A,c,c',rfl,⟨A,c,cells,[],rfl,h1,h2,h3,rfl⟩,h4⟩
 ·rintro ⟨A,c,c',rfl,⟨A',c2,cells,c3,he,h1,h2,h3,rfl⟩,h4⟩;injection he with he _;injection he with e1 e2 e3;subst e1 e3;exact ⟨A,c,cells,c',rfl,h1,h2,h3,h4⟩
end
theorem aM.app {B:Nat→Prop} {w:World} {b:Cs}:∀{a:Cs} {cs:List Value},aM B w (a.app b) cs↔∃c1 c2,cs=c1++c2∧aM B w a c1∧aM B w b c2
 |.nil,cs=>by
  simp only [Cs.app,aM.nil];exact ⟨fun h=>⟨[],cs,rfl,rfl,h⟩,fun ⟨c1,c2,e,e1,h⟩=>by subst e1;rw [e];exact h⟩
 |.int n r,cs=>by
  simp only [Cs.app,aM.int,aM.app (a:=r)];exact ⟨fun ⟨c',e,c1,c2,e2,h1,h2⟩=>⟨_::c1,c2,by rw [e,e2];rfl,⟨c1,rfl,h1⟩,h2⟩,fun ⟨_,c2,e,⟨c1,e1,h1⟩,h2⟩=>⟨c1++c2,by rw [e,e1];rfl,c1,c2,rfl,h1,h2⟩⟩
 |.bool n r,cs=>by
  simp only [Cs.app,aM.bool,aM.app (a:=r)];exact ⟨fun ⟨c',e,c1,c2,e2,h1,h2⟩=>⟨_::c1,c2,by rw [e,e2];rfl,⟨c1,rfl,h1⟩,h2⟩,fun ⟨_,c2,e,⟨c1,e1,h1⟩,h2⟩=>⟨c1++c2,by rw [e,e1];rfl,c1,c2,rfl,h1,h2⟩⟩
 |.str n r,cs=>by
  simp only [Cs.app,aM.str,aM.app (a:=r)];exact ⟨fun ⟨c',e,c1,c2,e2,h1,h2⟩=>⟨_::c1,c2,by rw [e,e2];rfl,⟨c1,rfl,h1⟩,h2⟩,fun ⟨_,c2,e,⟨c1,e1,h1⟩,h2⟩=>⟨c1++c2,by rw [e,e1];rfl,c1,c2,rfl,h1,h2⟩⟩
 |.sl e sz n i r,cs=>by
  simp only [Cs.app];rw [aM.sl];simp only [aM.app (a:=r)];constructor
  ·rintro ⟨A,c,_,rfl,h0,c1,c2,rfl,h1,h2⟩;exact ⟨_::c1,c2,rfl,aM.sl.2 ⟨A,c,c1,rfl,h0,h1⟩,h2⟩
  ·rintro ⟨_,c2,rfl,h,h2⟩;obtain ⟨A,c,c1,rfl,h0,h1⟩:=aM.sl.1 h;exact ⟨A,c,c1++c2,rfl,h0,c1,c2,rfl,h1,h2⟩
theorem aM.elem {B:Nat→Prop} {w:World} {e sz n c:Nat} {α:Type} {f:α→Cs} {xs:List α} {A:Option Addr} (h:aM B w (.sl e sz n (cat f xs) .nil) [.slice A n c]) (hf:∀x,(f x).width=sz) (i:Nat) (hi:i<xs.length) (hn:n=xs.length) :
 ∃ad ci,A=some ad∧B ad.block∧ad.block<w.heap.size∧aM B w (f xs[i]) ci∧ci.length=sz∧∀j v,ci[j]?=some v→w.cell? ((ad.add (i*sz)).add j)=some v:=by
 subst hn;simp only [aM] at h;obtain ⟨A',c',cells,_,he,hw,dO,hL,rfl⟩:=h;injection he with he _;injection he with e1 e2 e3;subst e1 e3;obtain ⟨ad,rfl,hb,dS,hc⟩:=dO (by omega);rw [lU xs i hi,aM.app] at hL;obtain ⟨c1,c2,rfl,h1,h2⟩:=hL;obtain ⟨ci,c3,rfl,h2,h3⟩:=aM.app.1 h2;have xC:=h1.length;rw [fz hf,length_take,Nat.min_eq_left (by omega)] at xC;have ti:=h2.length;rw [hf] at ti;refine ⟨ad,ci,rfl,hb,dS,h2,ti,fun j v hv=>?_⟩;rw [je];refine hc _ _ ?_;rw [List.getElem?_append_right (by omega),xC,Nat.add_sub_cancel_left,List.getElem?_append_left (List.getElem?_eq_some_iff.1 hv).1];exact hv
theorem aM.fy {B:Nat→Prop} {w:World} {e sz c:Nat} {A:Option Addr}:aM B w (.sl e sz 0 .nil .nil) [.slice A 0 c]:=by
 simp only [aM];exact ⟨A,c,[],[],rfl,by simp [Cs.width],by simp,rfl,rfl⟩
def Own (w:World) (base:Nat):Cs→List Value→List Nat→Prop
 |.nil,cs,F=>cs=[]∧F=[]
 |.int n r,cs,F=>∃c',cs = .int .i64 n::c'∧Own w base r c' F
 |.bool b r,cs,F=>∃c',cs = .bool b::c'∧Own w base r c' F
 |.str s r,cs,F=>∃c',cs = .string (bs s)::c'∧Own w base r c' F
 |.sl e sz n i r,cs,F=>∃v cells c' F1 F2,cs=v::c'∧F=(v.ownBlock.toList++F1)++F2∧i.width=n*sz∧w.ownsRow base e sz v n cells∧Own w base i cells F1∧Own w base r c' F2
theorem aH {w w':World} {base base' e size n:Nat} {v:Value} {xs:List Value} (h:w.ownsRow base e size v n xs) (hk:∀b,v.ownBlock=some b→base'≤b∧w'.heap[b]?=w.heap[b]?):w'.ownsRow base' e size v n xs:=by
 refine ⟨h.1,?_⟩;rcases h.2 with h0|⟨g,cap,cur,rfl,hg,hh,r⟩
 ·exact .inl h0
 ·have:=hk g rfl;exact .inr ⟨g,cap,cur,rfl,this.1,by rw [this.2];exact hh,r⟩
theorem Own.mg {w w':World} {base base':Nat}:∀{d:Cs} {cs:List Value} {F:List Nat},Own w base d cs F→(∀b∈F,base'≤b∧w'.heap[b]?=w.heap[b]?)→Own w' base' d cs F
 |.nil,_,_,h,_=>h
 |.int _ r,_,_,h,hk=>by simp only [Own] at h ⊢;obtain ⟨c',rfl,h⟩:=h;exact ⟨c',rfl,h.mg hk⟩
 |.bool _ r,_,_,h,hk=>by simp only [Own] at h ⊢;obtain ⟨c',rfl,h⟩:=h;exact ⟨c',rfl,h.mg hk⟩
 |.str _ r,_,_,h,hk=>by simp only [Own] at h ⊢;obtain ⟨c',rfl,h⟩:=h;exact ⟨c',rfl,h.mg hk⟩
 |.sl e sz n i r,_,_,h,hk=>by
  simp only [Own] at h ⊢;obtain ⟨v,cells,c',F1,F2,rfl,rfl,h1,h2,h3,h4⟩:=h;exact ⟨v,cells,c',F1,F2,rfl,rfl,h1,aH h2 (fun b hb=>hk b (by simp [hb])),h3.mg (fun b hb=>hk b (by simp [hb])),h4.mg (fun b hb=>hk b (by simp [hb]))⟩
theorem Own.in {w:World} {base:Nat}:∀{d:Cs} {cs:List Value} {F:List Nat},Own w base d cs F→∀b∈F,base≤b∧b<w.heap.size
 |.nil,_,_,h=>by simp only [Own] at h;obtain ⟨_,rfl⟩:=h;simp
 |.int _ r,_,_,h=>by simp only [Own] at h;obtain ⟨c',rfl,h⟩:=h;exact h.in
 |.bool _ r,_,_,h=>by simp only [Own] at h;obtain ⟨c',rfl,h⟩:=h;exact h.in
 |.str _ r,_,_,h=>by simp only [Own] at h;obtain ⟨c',rfl,h⟩:=h;exact h.in
 |.sl e sz n i r,_,_,h=>by
  simp only [Own] at h;obtain ⟨v,cells,c',F1,F2,rfl,rfl,h1,h2,h3,h4⟩:=h;intro b hb;rcases List.mem_append.1 hb with hb|hb
  ·rcases List.mem_append.1 hb with hb|hb
   ·exact h2.lt b (by simpa using hb)
   ·exact h3.in b hb
  ·exact h4.in b hb
theorem Own.EW {w:World} {base:Nat} {B:Nat→Prop}:∀{d:Cs} {cs:List Value} {F:List Nat},Own w base d cs F→(∀b∈F,B b)→aM B w d cs
 |.nil,_,_,h,_=>by simp only [Own] at h;simp only [aM];exact h.1
 |.int _ r,_,_,h,hB=>by simp only [Own] at h;simp only [aM];obtain ⟨c',rfl,h⟩:=h;exact ⟨c',rfl,h.EW hB⟩
 |.bool _ r,_,_,h,hB=>by simp only [Own] at h;simp only [aM];obtain ⟨c',rfl,h⟩:=h;exact ⟨c',rfl,h.EW hB⟩
 |.str _ r,_,_,h,hB=>by simp only [Own] at h;simp only [aM];obtain ⟨c',rfl,h⟩:=h;exact ⟨c',rfl,h.EW hB⟩
 |.sl e sz n i r,_,_,h,hB=>by
  simp only [Own] at h;obtain ⟨v,cells,c',F1,F2,rfl,rfl,h1,h2,h3,h4⟩:=h;have hL:=h3.EW (B:=B) (fun b hb=>hB b (by simp [hb]));have hR:=h4.EW (B:=B) (fun b hb=>hB b (by simp [hb]));simp only [aM];have VZ:=h2;rcases h2.2 with ⟨rfl,rfl⟩|⟨g,cap,cur,rfl,hg,hh,_⟩
  ·exact ⟨none,0,cells,c',rfl,h1,fun dO=>absurd rfl dO,hL,hR⟩
  ·exact ⟨_,cap,cells,c',rfl,h1,fun _=>⟨_,rfl,hB g (by simp [Value.ownBlock]),(VZ.lt g rfl).2,VZ.cells (g:=g) rfl⟩,hL,hR⟩
structure Mod (F:List Nat) (w w':World):Prop where
 os:w'.os=w.os
 tape:w'.tape=w.tape
 output:w'.output=w.output
 size:w.heap.size≤w'.heap.size
 block:∀k,k<w.heap.size→k∉F→w'.heap[k]?=w.heap[k]?
section
variable {w w':World} {base:Nat} {d:Cs} {cs:List Value} {F:List Nat}
theorem Own.rep (h:Own w base d cs F):aM (fun b=>b∈F) w d cs:=h.EW fun _ hb=>hb
theorem Own.nj (h:Own w base d cs F):aM bM w d cs:=h.rep.any
theorem Own.bL (h:Own w base d cs F) (hk:∀b∈F,w'.heap[b]?=w.heap[b]?):Own w' base d cs F:=h.mg fun b hb=>⟨(h.in b hb).1,hk b hb⟩
theorem Own.below (h:Own w base d cs F) (hb:Below w w w'):Own w' base d cs F:=h.bL fun b hm=>hb.block b (h.in b hm).2
theorem Own.mono (h:Own w base d cs F) {base':Nat} (hb:base'≤base):Own w base' d cs F:=h.mg fun b hm=>⟨Nt hb (h.in b hm).1,rfl⟩
theorem Own.nil:Own w base .nil cs F↔cs=[]∧F=[]:=by simp only [Own]
theorem Own.int {n:Int} {r:Cs}:Own w base (.int n r) cs F↔∃c',cs = .int .i64 n::c'∧Own w base r c' F:=by simp only [Own]
theorem Own.bool {b:Bool} {r:Cs}:Own w base (.bool b r) cs F↔∃c',cs = .bool b::c'∧Own w base r c' F:=by simp only [Own]
theorem Own.str {s:List UInt8} {r:Cs}:Own w base (.str s r) cs F↔∃c',cs = .string (bs s)::c'∧Own w base r c' F:=by simp only [Own]
theorem Own.sl {e sz n:Nat} {i r:Cs}:Own w base (.sl e sz n i r) cs F↔∃A c c' F1 F2,cs = .slice A n c::c'∧F=F1++F2∧Own w base (.sl e sz n i .nil) [.slice A n c] F1∧Own w base r c' F2:=by
 simp only [Own];constructor
 ·rintro ⟨v,cells,c',F1,F2,rfl,rfl,h1,h2,h3,h4⟩;obtain ⟨A,c,rfl,_⟩:=eD.bd h2;exact ⟨A,c,c',_,F2,rfl,rfl,⟨_,cells,[],F1,[],rfl,(append_nil _).symm,h1,h2,h3,rfl,rfl⟩,h4⟩
 ·rintro ⟨A,c,c',_,F2,rfl,rfl,⟨v,cells,c2,F1,F3,he,rfl,h1,h2,h3,rfl,rfl⟩,h4⟩;injection he with he _;subst he;exact ⟨_,cells,c',F1,F2,rfl,by rw [append_nil],h1,h2,h3,h4⟩
end
theorem Own.app {w:World} {base:Nat} {b:Cs}:∀{a:Cs} {cs:List Value} {F:List Nat},Own w base (a.app b) cs F↔∃c1 c2 F1 F2,cs=c1++c2∧F=F1++F2∧Own w base a c1 F1∧Own w base b c2 F2
 |.nil,cs,F=>by
  simp only [Cs.app,Own];exact ⟨fun h=>⟨[],cs,[],F,rfl,rfl,⟨rfl,rfl⟩,h⟩,fun ⟨c1,c2,F1,F2,e1,e2,⟨e3,e4⟩,h⟩=>by subst e1 e2 e3 e4;exact h⟩
 |.int n r,cs,F=>by
  simp only [Cs.app,Own.int,Own.app (a:=r)];exact ⟨fun ⟨c',e,c1,c2,F1,F2,e2,e3,h1,h2⟩=>⟨_::c1,c2,F1,F2,by rw [e,e2];rfl,e3,⟨c1,rfl,h1⟩,h2⟩,fun ⟨_,c2,F1,F2,e,e3,⟨c1,e1,h1⟩,h2⟩=>⟨c1++c2,by rw [e,e1];rfl,c1,c2,F1,F2,rfl,e3,h1,h2⟩⟩
 |.bool n r,cs,F=>by
  simp only [Cs.app,Own.bool,Own.app (a:=r)];exact ⟨fun ⟨c',e,c1,c2,F1,F2,e2,e3,h1,h2⟩=>⟨_::c1,c2,F1,F2,by rw [e,e2];rfl,e3,⟨c1,rfl,h1⟩,h2⟩,fun ⟨_,c2,F1,F2,e,e3,⟨c1,e1,h1⟩,h2⟩=>⟨c1++c2,by rw [e,e1];rfl,c1,c2,F1,F2,rfl,e3,h1,h2⟩⟩
 |.str n r,cs,F=>by
  simp only [Cs.app,Own.str,Own.app (a:=r)];exact ⟨fun ⟨c',e,c1,c2,F1,F2,e2,e3,h1,h2⟩=>⟨_::c1,c2,F1,F2,by rw [e,e2];rfl,e3,⟨c1,rfl,h1⟩,h2⟩,fun ⟨_,c2,F1,F2,e,e3,⟨c1,e1,h1⟩,h2⟩=>⟨c1++c2,by rw [e,e1];rfl,c1,c2,F1,F2,rfl,e3,h1,h2⟩⟩
 |.sl e sz n i r,cs,F=>by
  simp only [Cs.app];rw [Own.sl];simp only [Own.app (a:=r)];constructor
  ·rintro ⟨A,c,_,F1,_,rfl,rfl,h0,c1,c2,F3,F4,rfl,rfl,h1,h2⟩;exact ⟨_::c1,c2,F1++F3,F4,rfl,(append_assoc ..).symm,Own.sl.2 ⟨A,c,c1,F1,F3,rfl,rfl,h0,h1⟩,h2⟩
  ·rintro ⟨_,c2,_,F4,rfl,rfl,h,h2⟩;obtain ⟨A,c,c1,F1,F3,rfl,rfl,h0,h1⟩:=Own.sl.1 h;exact ⟨A,c,c1++c2,F1,F3++F4,rfl,append_assoc ..,h0,c1,c2,F3,F4,rfl,rfl,h1,h2⟩
def fO (w:World) (base:Nat) (d:Cs) (cs:List Value):Prop:=∃F,F.Nodup∧Own w base d cs F
theorem fO.below {w w':World} {base:Nat} {d:Cs} {cs:List Value} (h:fO w base d cs) (hb:Below w w w'):fO w' base d cs:=let ⟨F,h1,h2⟩:=h;⟨F,h1,h2.below hb⟩
theorem fO.mono {w:World} {base base':Nat} {d:Cs} {cs:List Value} (h:fO w base d cs) (hb:base'≤base):fO w base' d cs:=let ⟨F,h1,h2⟩:=h;⟨F,h1,h2.mono hb⟩
theorem fO.rep {w:World} {base:Nat} {d:Cs} {cs:List Value} (h:fO w base d cs):aM (fun b=>base≤b) w d cs:=let ⟨_,_,h2⟩:=h;h2.rep.mono fun b hb=>(h2.in b hb).1
theorem EX {F1 F2:List Nat} {m:Nat} (h1:F1.Nodup) (h2:F2.Nodup) (a:∀b∈F1,b<m) (b:∀b∈F2,m≤b):(F1++F2).Nodup:=
 List.nodup_append.2 ⟨h1,h2,fun x hx y hy e=>by have:=a x hx;have:=b y hy;omega⟩
def bf (w:World) (g e:Nat) (cs:Array Value):Prop:=w.heap[g]?=some (.cells cs e (0,0))
section
variable {w w':World} {g e:Nat} {cs:Array Value}
theorem bf.cell (h:bf w g e cs) (p:Nat):w.cell? ⟨g,p,none⟩=cs[p]?:=by simp [World.cell?,show w.heap[g]?=_ from h]
theorem bf.frozen (h:bf w g e cs) (p:Nat):w.frozen? ⟨g,p,none⟩=false:=by simp [World.frozen?,show w.heap[g]?=_ from h]
theorem bf.lt (h:bf w g e cs):g<w.heap.size:=(Array.getElem?_eq_some_iff.1 (show w.heap[g]?=_ from h)).1
theorem bf.set (h:bf w g e cs) (p:Nat) (v:Value):bf (w.setCell ⟨g,p,none⟩ v) g e (cs.setIfInBounds p v):=by
 simp [bf,World.setCell,Array.getElem?_modify,show w.heap[g]?=_ from h]
theorem bf.bL (h:bf w g e cs) (hk:w'.heap[g]?=w.heap[g]?):bf w' g e cs:=hk.trans h
theorem bf.below (h:bf w g e cs) (hb:Below w w w'):bf w' g e cs:=h.bL (hb.block g h.lt)
theorem bf.drew (h:bf w g e cs):bf w.drew g e cs:=h
theorem bf.alloc (h:bf w g e cs) (o:Obj):bf (w.alloc o) g e cs:=h.below (Br.alloc Nr o)
end
section
variable {P:Program}
structure nV (P:Program) (t:TypeId) (n:Nat):Prop where
 agg:(match P.underlying t with|some (.struct _)=>true|_=>false)=true
 info:(P.info? t).map (fun i=>i.size)=some n
theorem nV.isAgg {t:TypeId} {n:Nat} (h:nV P t n) (w:World):(isAgg t).run P w = .ok true w:=by
 have h1:=h.agg;split at h1
 ·rename_i fs OW;unfold Go.isAgg;simp [Sem.run_bind,run_underlying OW,Result.andThen]
 ·cases h1
theorem nV.size {t:TypeId} {n:Nat} (h:nV P t n) (w:World):(sizeOf t).run P w = .ok n w:=by
 obtain ⟨i,hi,hz⟩:=Option.map_eq_some_iff.1 h.info;unfold sizeOf typeInfo Go.program;simp only [Sem.run_bind,Sem.run,Result.andThen,hi,hz,Sem.run_pure]
theorem oe (w:World) {t:TypeId} (p:Addr) (cs:List Value) (h:nV P t cs.length) (hc:∀j v,cs[j]?=some v→w.cell? (p.add j)=some v) :
 (Instr.loadAt t (.pointer (some p))).run P w = .ok (.agg cs.toArray) w:=by
 unfold Instr.loadAt Instr.sureAddr loadVar;simp only [Sem.run_bind,Sem.run_pure,Result.andThen,h.isAgg,h.size,if_true];rw [run_loadCells_list (P:=P) (w:=w) p cs hc]
theorem Fn (w:World) {ops:Array Oper} {rest:List Oper} {a:Act} {Q:Exit→Act→World→Prop} {t ty:TypeId} {x:Operand} {ps:String} {af:Array Edge} {dst:Option Tmp} (p:Addr) (hx:a.eval x = .pointer (some p)) (cs:List Value) {n:Nat} (h:nV P t n) (hl:cs.length=n)
 (hc:∀j v,cs[j]?=some v→w.cell? (p.add j)=some v) (hK:wpList P ops Q rest (a.put dst (.agg cs.toArray)) w):wpList P ops Q ({dst:=dst,op:=Op.load t x,type:=ty,pos:=ps,after:=af,guard:=none}::rest) a w:=by
 refine wpList_plain rfl fun K OT=>?_
 unfold Oper.wp;simp only [execOp,hx,Sem.run_bind,oe w p cs (hl ▸ h) hc,Result.andThen,Sem.run_pure];exact OT _ _ hK
theorem an (w:World) {ops:Array Oper} {rest:List Oper} {a:Act} {Q:Exit→Act→World→Prop} {t ty:TypeId} {x:Operand} {ps:String} {af:Array Edge} {dst:Option Tmp} {gd:Option (Nat × Bool)}
 (hw:Region.wanted {dst:=dst,op:=Op.load t x,type:=ty,pos:=ps,after:=af,guard:=gd} (yielded ops a.tmps)=true) (p:Addr) (hx:a.eval x = .pointer (some p)) (cs:List Value) {n:Nat} (h:nV P t n) (hl:cs.length=n)
 (hc:∀j v,cs[j]?=some v→w.cell? (p.add j)=some v) (hK:wpList P ops Q rest (a.put dst (.agg cs.toArray)) w):wpList P ops Q ({dst:=dst,op:=Op.load t x,type:=ty,pos:=ps,after:=af,guard:=gd}::rest) a w:=by
 simp only [wpList,hw,if_true];refine .inl ?_;unfold Oper.wp;simp only [execOp,hx,Sem.run_bind,oe w p cs (hl ▸ h) hc,Result.andThen,Sem.run_pure];exact hK
end
theorem aM.one {B:Nat→Prop} {w:World}:∀{d:Cs} {cs:List Value},aM B w d cs→∀u∈cs,u.oneCell'=true
 |.nil,_,h=>by simp only [aM] at h;subst h;simp
 |.int _ r,_,h=>by simp only [aM] at h;obtain ⟨c',rfl,h⟩:=h;intro u hu;rcases List.mem_cons.1 hu with rfl|hu;rfl;exact h.one u hu
 |.bool _ r,_,h=>by simp only [aM] at h;obtain ⟨c',rfl,h⟩:=h;intro u hu;rcases List.mem_cons.1 hu with rfl|hu;rfl;exact h.one u hu
 |.str _ r,_,h=>by simp only [aM] at h;obtain ⟨c',rfl,h⟩:=h;intro u hu;rcases List.mem_cons.1 hu with rfl|hu;rfl;exact h.one u hu
 |.sl _ _ _ _ r,_,h=>by simp only [aM] at h;obtain ⟨_,_,_,c',rfl,_,_,_,h⟩:=h;intro u hu;rcases List.mem_cons.1 hu with rfl|hu;rfl;exact h.one u hu
theorem Own.one {w:World} {base:Nat} {d:Cs} {cs:List Value} {F:List Nat} (h:Own w base d cs F):∀u∈cs,u.oneCell'=true:=h.nj.one
theorem Own.length {w:World} {base:Nat} {d:Cs} {cs:List Value} {F:List Nat} (h:Own w base d cs F):cs.length=d.width:=h.nj.length
theorem Own.zW {w:World} {base e sz n:Nat} {i:Cs} {v:Value} {F:List Nat}:Own w base (.sl e sz n i .nil) [v] F↔∃cells F1,F=v.ownBlock.toList++F1∧i.width=n*sz∧w.ownsRow base e sz v n cells∧Own w base i cells F1:=by
 simp only [Own];constructor
 ·rintro ⟨v,cells,c',F1,F2,he,rfl,h1,h2,h3,rfl,rfl⟩;injection he with he _;subst he;exact ⟨cells,F1,append_nil _,h1,h2,h3⟩
 ·rintro ⟨cells,F1,rfl,h1,h2,h3⟩;exact ⟨v,cells,[],F1,[],rfl,(append_nil _).symm,h1,h2,h3,rfl,rfl⟩
section
variable {P:Program}
theorem Cu {w:World} {g e:Nat} {cur cs:Array Value} (h:bf w g e cur):bf (w.setRow g cs) g e cs:=setRow_heap w g cur cs e (0,0) h
theorem yX (w:World) (g:Nat) (cs:Array Value):w.grownBy (w.setRow g cs) (some g):=
 ⟨rfl,rfl,rfl,by simp [World.setRow],fun k _ hn=>by
  simp only [World.setRow,Array.getElem?_modify];rw [if_neg (fun e=>hn (by rw [e]))]⟩
theorem Fr (w:World) {ops:Array Oper} {rest:List Oper} {a:Act} {Q:Exit→Act→World→Prop} {t ty:TypeId} {x y:Operand} {ps:String} {af:Array Edge} (g e off:Nat) (cs A M C:List Value) (cur:Array Value) (hx:a.eval x = .pointer (some ⟨g,off,none⟩)) (hy:a.eval y = .agg cs.toArray) (h:nV P t cs.length)
 (hb:bf w g e cur) (hc:cur.toList=A++(M++C)) (hA:A.length=off) (hM:M.length=cs.length) (h1:∀u∈cs,u.oneCell'=true)
 (hK:∀w',bf w' g e (A++(cs++C)).toArray→w.grownBy w' (some g)→wpList P ops Q rest a w'):wpList P ops Q ({dst:=none,op:=Op.store t x y,type:=ty,pos:=ps,after:=af,guard:=none}::rest) a w:=by
 refine wpList_plain rfl fun K OT=>?_
 have kX:cur.size=A.length+(M.length+C.length):=by
  have:=congrArg List.length hc;simpa using this
 have hs:=run_storeCells_at (P:=P) g off e cs 0 cur w hb (by omega) h1;have e1:cur.toList.take (off+0)++cs++cur.toList.drop (off+0+cs.length)=A++(cs++C):=by
  rw [Nat.add_zero,hc,←hA,←hM,List.take_left',append_assoc,←append_assoc A M C,←length_append,List.drop_left'];all_goals rfl
 rw [e1] at hs;have bX:(Instr.storeAt t (.pointer (some ⟨g,off,none⟩)) (.agg cs.toArray)).run P w = .ok () (w.setRow g (A++(cs++C)).toArray):=by
  unfold Instr.storeAt Instr.sureAddr storeVar;simp [Sem.run_bind,Sem.run_pure,Result.andThen,Value.cells,h.size,hs]
 unfold Oper.wp;simp only [execOp,hx,hy,Sem.run_bind,Sem.run_pure,Result.andThen,bX];exact OT (a.put none undef) (w.setRow g (A++(cs++C)).toArray) (hK _ (Cu hb) (yX _ _ _))
end
def szZ (l:Int) (n:Nat):Int:=if (n:Int)≤l then l-n else -1
def Cs.ok:Cs→Prop
 |.nil=>True
 |.int n r=>OS n∧r.ok
 |.bool _ r=>r.ok
 |.str s r=>s.length≤9223372036854775807∧r.ok
 |.sl _ _ n i r=>n≤9223372036854775807∧i.ok∧r.ok
section
variable {α:Type} {f:α→Cs}
end
def cN (s:List UInt8):Cs:= .str s .nil
def qS (n:Int):Cs:= .int n .nil
theorem Cv (s:List UInt8):(cN s).width=1:=rfl
theorem DO:∀xs:List (List UInt8),(cat cN xs).wt=(xs.map List.length).sum
 |[]=>rfl
 |x::xs=>by rw [dA,Cs.mf,DO xs];simp [cN,Cs.wt]
theorem AD {B:Nat→Prop} {w:World}:∀{xs:List (List UInt8)} {cells:List Value},aM B w (cat cN xs) cells→cells=xs.map iK
 |[],_,h=>by simp only [cat,aM] at h;exact h
 |x::xs,_,h=>by
  rw [dA] at h;simp only [cN,Cs.app,aM] at h;obtain ⟨c',rfl,h⟩:=h;rw [AD h];rfl
theorem AE {w:World} {base:Nat}:∀{xs:List (List UInt8)} {cells:List Value} {F:List Nat},Own w base (cat cN xs) cells F→cells=xs.map iK∧F=[]
 |[],_,_,h=>by simp only [cat,Own] at h;exact h
 |x::xs,_,_,h=>by
  rw [dA] at h;simp only [cN,Cs.app,Own] at h;obtain ⟨c',rfl,h⟩:=h;obtain ⟨rfl,rfl⟩:=AE h;exact ⟨rfl,rfl⟩
theorem ug (w:World) (base:Nat):∀(xs:List (List UInt8)),Own w base (cat cN xs) (xs.map iK) []
 |[]=>by simp [cat,Own]
 |x::xs=>by
  rw [dA];simp only [cN,Cs.app,Own];exact ⟨_,rfl,ug w base xs⟩
theorem aM.strs {B:Nat→Prop} {w:World} {e n:Nat} {xs:List (List UInt8)} {v:Value} (h:aM B w (.sl e 1 n (cat cN xs) .nil) [v]):eD w 1 v n (xs.map iK):=by
 simp only [aM] at h;obtain ⟨A,c,cells,_,he,hw,dO,hL,rfl⟩:=h;injection he with he _;subst he;have hl:=hL.length;rw [hw] at hl;obtain rfl:=AD hL;refine ⟨A,c,rfl,hl,fun hn=>?_⟩;obtain ⟨ad,rfl,_,_,hc⟩:=dO (by omega);exact ⟨ad,rfl,hc⟩
theorem Own.strs {w:World} {base e n:Nat} {xs:List (List UInt8)} {v:Value} {F:List Nat} (h:Own w base (.sl e 1 n (cat cN xs) .nil) [v] F):w.ownsRow base e 1 v n (xs.map iK)∧F=v.ownBlock.toList:=by
 obtain ⟨cells,F1,rfl,h1,h2,h3⟩:=Own.zW.1 h;obtain ⟨rfl,rfl⟩:=AE h3;exact ⟨h2,append_nil _⟩
theorem Own.uV {w:World} {base e n:Nat} {xs:List (List UInt8)} {v:Value} (hn:n=xs.length) (h:w.ownsRow base e 1 v n (xs.map iK)):Own w base (.sl e 1 n (cat cN xs) .nil) [v] v.ownBlock.toList:=
 Own.zW.2 ⟨_,[],(append_nil _).symm,by rw [fz Cv,hn],h,ug w base xs⟩
def Cw {α:Type} (mk:α→Nat→α) (fG:α→Nat):List α→Nat→List α
 |[],_=>[]
 |x::xs,k=>mk x k::Cw mk fG xs (k+fG x)
def uH {α:Type} (fG:α→Nat):List α→Nat
 |[]=>0
 |x::xs=>fG x+uH fG xs
section
variable {α:Type} {mk:α→Nat→α} {fG:α→Nat}
end
theorem DP {w:World} {g e m:Nat} {L1 E L2:List Value} (h:bf w g e (L1++(E++L2)).toArray) (hm:L1.length=m) {f:Nat} {u:Value} (hf:E[f]?=some u):w.cell? ⟨g,m+f,none⟩=some u:=by
 subst hm;rw [h.cell];simp only [eX];rw [List.getElem?_append_right (by omega),Nat.add_sub_cancel_left,List.getElem?_append_left (List.getElem?_eq_some_iff.1 hf).1];exact hf
theorem bH (w:World) (cs:Array Value) (e:Nat):bf (w.alloc (.cells cs e)) w e cs:=heap_alloc_new w _
theorem bf.bK {w:World} {g e:Nat} {cs:Array Value} (h:bf w g e cs) {a:Addr} (ha:a.block≠g) (v:Value):bf (w.setCell a v) g e cs:=h.bL (Below.heap_setCell _ _ _ _ (fun e=>ha e.symm))
theorem bf.grown {w w':World} {g e g':Nat} {cs:Array Value} (h:bf w g e cs) (hg:w.grownBy w' (some g')) (hn:g≠g'):bf w' g e cs:=h.bL (hg.block g h.lt (fun e=>hn (by injection e)))
theorem ag {w:World} {g e:Nat} {L:List Value} (h:bf w g e L.toArray):∀j v,L[j]?=some v→w.cell? ((⟨g,0,none⟩:Addr).add j)=some v:=fun j v hv=>by
 rw [Aab,Nat.zero_add,h.cell];simpa using hv
theorem ah {w:World} {g e:Nat} {L:List Value} (h:bf w g e L.toArray) (f:Nat) {u:Value} (hf:L[f]?=some u):w.cell? ⟨g,f,none⟩=some u:=by
 rw [h.cell];simpa using hf
theorem Te {w:World} {g e:Nat} {u0 u1 u2 u3 u4 u5 u6 u7:Value} (h:bf w g e [u0,u1,u2,u3,u4,u5,u6,u7].toArray):w.cell? ⟨g,0,none⟩=some u0∧w.cell? ⟨g,1,none⟩=some u1∧w.cell? ⟨g,2,none⟩=some u2∧w.cell? ⟨g,3,none⟩=some u3∧w.cell? ⟨g,4,none⟩=some u4∧w.cell? ⟨g,5,none⟩=some u5∧w.cell? ⟨g,6,none⟩=some u6∧w.cell? ⟨g,7,none⟩=some u7:=⟨ah h 0 rfl,ah h 1 rfl,ah h 2 rfl,ah h 3 rfl,ah h 4 rfl,ah h 5 rfl,ah h 6 rfl,ah h 7 rfl⟩
theorem uW {w:World} {g e:Nat} {u0 u1 u2 u3 u4 u5 u6 u7 u8 u9 Md IV NV Jv KL NY:Value} (h:bf w g e [u0,u1,u2,u3,u4,u5,u6,u7,u8,u9,Md,IV,NV,Jv,KL,NY].toArray):w.cell? ⟨g,0,none⟩=some u0∧w.cell? ⟨g,1,none⟩=some u1∧w.cell? ⟨g,2,none⟩=some u2∧w.cell? ⟨g,3,none⟩=some u3∧w.cell? ⟨g,4,none⟩=some u4∧w.cell? ⟨g,5,none⟩=some u5∧w.cell? ⟨g,6,none⟩=some u6∧w.cell? ⟨g,7,none⟩=some u7∧w.cell? ⟨g,8,none⟩=some u8∧w.cell? ⟨g,9,none⟩=some u9∧w.cell? ⟨g,10,none⟩=some Md∧w.cell? ⟨g,11,none⟩=some IV∧w.cell? ⟨g,12,none⟩=some NV∧w.cell? ⟨g,13,none⟩=some Jv∧w.cell? ⟨g,14,none⟩=some KL∧w.cell? ⟨g,15,none⟩=some NY:=⟨ah h 0 rfl,ah h 1 rfl,ah h 2 rfl,ah h 3 rfl,ah h 4 rfl,ah h 5 rfl,ah h 6 rfl,ah h 7 rfl,ah h 8 rfl,ah h 9 rfl,ah h 10 rfl,ah h 11 rfl,ah h 12 rfl,ah h 13 rfl,ah h 14 rfl,ah h 15 rfl⟩
theorem eE {w:World} {g e:Nat} {u0 u1 u2 u3 u4 u5 u6 u7 u8 u9 Md IV NV Jv KL NY u16 RH RI:Value} (h:bf w g e [u0,u1,u2,u3,u4,u5,u6,u7,u8,u9,Md,IV,NV,Jv,KL,NY,u16,RH,RI].toArray):w.cell? ⟨g,0,none⟩=some u0∧w.cell? ⟨g,1,none⟩=some u1∧w.cell? ⟨g,2,none⟩=some u2∧w.cell? ⟨g,3,none⟩=some u3∧w.cell? ⟨g,4,none⟩=some u4∧w.cell? ⟨g,5,none⟩=some u5∧w.cell? ⟨g,6,none⟩=some u6∧w.cell? ⟨g,7,none⟩=some u7∧w.cell? ⟨g,8,none⟩=some u8∧w.cell? ⟨g,9,none⟩=some u9∧w.cell? ⟨g,10,none⟩=some Md∧w.cell? ⟨g,11,none⟩=some IV∧w.cell? ⟨g,12,none⟩=some NV∧w.cell? ⟨g,13,none⟩=some Jv∧w.cell? ⟨g,14,none⟩=some KL∧w.cell? ⟨g,15,none⟩=some NY∧w.cell? ⟨g,16,none⟩=some u16∧w.cell? ⟨g,17,none⟩=some RH∧w.cell? ⟨g,18,none⟩=some RI:=⟨ah h 0 rfl,ah h 1 rfl,ah h 2 rfl,ah h 3 rfl,ah h 4 rfl,ah h 5 rfl,ah h 6 rfl,ah h 7 rfl,ah h 8 rfl,ah h 9 rfl,ah h 10 rfl,ah h 11 rfl,ah h 12 rfl,ah h 13 rfl,ah h 14 rfl,ah h 15 rfl,ah h 16 rfl,ah h 17 rfl,ah h 18 rfl⟩
theorem cI {w:World} {g e:Nat} {L:List Value} (h:bf w g e L.toArray) (f:Nat) (v:Value):bf (w.setCell ⟨g,f,none⟩ v) g e (L.set f v).toArray:=by
 have:=h.set f v;simpa only [fk] using this
structure V0 (B:Nat) (w w':World):Prop where
 size:w.heap.size≤w'.heap.size
 qo:∀b,B≤b→b<w.heap.size→w'.heap[b]?=w.heap[b]?
theorem bh {P:Program} {fn:Func} {R:Ending→World→Prop} {a:Act} {w:World} {s:Tmp} {t n:Nat} (lH:fn.results=#[.cell s t]) (p:Addr) (hp:a.tmps.getD s undef = .pointer (some p)) (cs:List Value) (h:nV P t n) (hl:cs.length=n)
 (hc:∀j v,cs[j]?=some v→w.cell? (p.add j)=some v) (hd:a.defers=[]) (hR:R (.returned (.agg cs.toArray)) w):bodyPost P fn R .ret a w:=by
 refine bodyPost_ret (v:= .agg cs.toArray) ?_ hd hR;unfold results;rw [lH];have KM:a.tmps[s]?.getD undef = .pointer (some p):=by simpa using hp
 simp [KM,asAddr,loadVar,(hl ▸ h:nV P t cs.length).isAgg,(hl ▸ h:nV P t cs.length).size,run_loadCells_list (P:=P) (w:=w) p cs hc,Result.andThen]
theorem bn {P:Program} {ops:Array Oper} {Q:Exit→Act→World→Prop} {tail:List Oper} {i:Nat} {r:List Nat} {T:Array Value} {D:List Deferred} {w:World} {o:Oper} {d:Tmp} (hi:ops[i]?=some o) (hd:o.dst=some d) (hw:Region.wanted o (yielded ops T)=false)
 (h:yT P ops Q tail r ⟨T.setIfInBounds d undef,D⟩ w):yT P ops Q tail (i::r) ⟨T,D⟩ w:=
 Gt hi hw (by rw [hd];exact h)
structure aX where
 rep:Int
 slot:Int
 deriving DecidableEq
def aX.cs (x:aX) (r:Cs):Cs:=(.int x.rep (.int x.slot r))
def aX.c (x:aX):Cs:=x.cs .nil
def aX.fG (_:aX):Nat:=1+1
def aX.xZ (_:aX) (k:Nat):aX:=⟨((k:Nat):Int),((k+1:Nat):Int)⟩
def aX.sd (_:aX):Nat:=0
def aX.Ct (x:aX) (_:Nat):aX:=⟨x.rep,x.slot⟩
theorem aX.width (x:aX):x.c.width=2:=rfl
theorem fp:xz Tryz.prog 29 25 (.agg #[.int .i64 0,.int .i64 0]) 2 16:=⟨Tryz.underlying29,by kernel_rfl,rfl,by decide,by decide⟩
theorem aC:nV Tryz.prog 25 2:=⟨by kernel_rfl,by kernel_rfl⟩
theorem aX.open {B:Nat→Prop} {w:World} {x:aX} {cs:List Value} (h:aM B w x.c cs):cs=[.int .i64 x.rep,.int .i64 x.slot]:=by
 have h0:aM B w x.c cs:=h;obtain ⟨c1,rfl,h1⟩:=aM.int.1 h0;obtain ⟨c2,rfl,h2⟩:=aM.int.1 h1;obtain rfl:=aM.nil.1 h2;exact rfl
theorem aX.shut {B:Nat→Prop} {w:World} {x:aX}:aM B w x.c [.int .i64 x.rep,.int .i64 x.slot]:=by
 have z:aM B w .nil []:=aM.nil.2 rfl;exact (aM.int.2 ⟨_,rfl,(aM.int.2 ⟨_,rfl,z⟩)⟩)
theorem aX.j8 {w:World} {base:Nat} {x:aX} {cs:List Value} {F:List Nat} (h:Own w base x.c cs F):cs=[.int .i64 x.rep,.int .i64 x.slot]∧F=[]:=by
 have h0:Own w base x.c cs F:=h;obtain ⟨c1,rfl,h1⟩:=Own.int.1 h0;obtain ⟨c2,rfl,h2⟩:=Own.int.1 h1;obtain ⟨rfl,rfl⟩:=Own.nil.1 h2;exact ⟨rfl,rfl⟩
theorem aX.jM {w:World} {base:Nat} {x:aX}:Own w base x.c [.int .i64 x.rep,.int .i64 x.slot] ([]):=by
 have z:Own w base .nil [] []:=Own.nil.2 ⟨rfl,rfl⟩;exact (Own.int.2 ⟨_,rfl,(Own.int.2 ⟨_,rfl,z⟩)⟩)
structure aR where
 kind:Int
 aE:Int
 no:Int
 set:List UInt8
 name:List UInt8
 tag:List UInt8
 n:Int
 chunks:List (List UInt8)
 deriving DecidableEq
def aR.cs (x:aR) (r:Cs):Cs:=(.int x.kind (.int x.aE (.int x.no (.str x.set (.str x.name (.str x.tag (.int x.n (.sl 9 1 x.chunks.length (cat cN x.chunks) r))))))))
def aR.c (x:aR):Cs:=x.cs .nil
def aR.fG (x:aR):Nat:=1+1+1+1+1+1+1+uH (fun _=>1) x.chunks
def aR.xZ (x:aR) (k:Nat):aR:=⟨((k:Nat):Int),((k+1:Nat):Int),((k+1+1:Nat):Int),uf (k+1+1+1),uf (k+1+1+1+1),uf (k+1+1+1+1+1),((k+1+1+1+1+1+1:Nat):Int),Cw (fun _ k=>uf k) (fun _=>1) x.chunks (k+1+1+1+1+1+1+1)⟩
def aR.sd (x:aR):Nat:=uH (fun _=>1) x.chunks
def aR.Ct (x:aR) (k:Nat):aR:=⟨x.kind,x.aE,x.no,x.set,x.name,x.tag,x.n,Cw (fun _ k=>uf k) (fun _=>1) x.chunks (k)⟩
theorem aR.width (x:aR):x.c.width=8:=rfl
theorem aN:nV Tryz.prog 28 8:=⟨by kernel_rfl,by kernel_rfl⟩
theorem aR.open {B:Nat→Prop} {w:World} {x:aR} {cs:List Value} (h:aM B w x.c cs):∃A0 k0,cs=[.int .i64 x.kind,.int .i64 x.aE,.int .i64 x.no,.string (bs x.set),.string (bs x.name),.string (bs x.tag),.int .i64 x.n,.slice A0 x.chunks.length k0]∧aM B w (.sl 9 1 x.chunks.length (cat cN x.chunks) .nil) [.slice A0 x.chunks.length k0]:=by
 have h0:aM B w x.c cs:=h;obtain ⟨c1,rfl,h1⟩:=aM.int.1 h0;obtain ⟨c2,rfl,h2⟩:=aM.int.1 h1;obtain ⟨c3,rfl,h3⟩:=aM.int.1 h2;obtain ⟨c4,rfl,h4⟩:=aM.str.1 h3;obtain ⟨c5,rfl,h5⟩:=aM.str.1 h4;obtain ⟨c6,rfl,h6⟩:=aM.str.1 h5;obtain ⟨c7,rfl,h7⟩:=aM.int.1 h6;obtain ⟨A0,k0,c8,rfl,s0,h8⟩:=aM.sl.1 h7;obtain rfl:=aM.nil.1 h8;exact ⟨A0,k0,rfl,s0⟩
theorem aR.shut {B:Nat→Prop} {w:World} {x:aR} {v0:Value} (s0:aM B w (.sl 9 1 x.chunks.length (cat cN x.chunks) .nil) [v0]):aM B w x.c [.int .i64 x.kind,.int .i64 x.aE,.int .i64 x.no,.string (bs x.set),.string (bs x.name),.string (bs x.tag),.int .i64 x.n,v0]:=by
 obtain ⟨A0,k0,q0,e0,s0,_⟩:=aM.sl.1 s0;injection e0 with e0 _;subst e0;have z:aM B w .nil []:=aM.nil.2 rfl;exact (aM.int.2 ⟨_,rfl,(aM.int.2 ⟨_,rfl,(aM.int.2 ⟨_,rfl,(aM.str.2 ⟨_,rfl,(aM.str.2 ⟨_,rfl,(aM.str.2 ⟨_,rfl,(aM.int.2 ⟨_,rfl,(aM.sl.2 ⟨_,_,_,rfl,s0,z⟩)⟩)⟩)⟩)⟩)⟩)⟩)⟩)
theorem aR.j8 {w:World} {base:Nat} {x:aR} {cs:List Value} {F:List Nat} (h:Own w base x.c cs F):∃A0 k0 F0,cs=[.int .i64 x.kind,.int .i64 x.aE,.int .i64 x.no,.string (bs x.set),.string (bs x.name),.string (bs x.tag),.int .i64 x.n,.slice A0 x.chunks.length k0]∧F=F0∧Own w base (.sl 9 1 x.chunks.length (cat cN x.chunks) .nil) [.slice A0 x.chunks.length k0] F0:=by
 have h0:Own w base x.c cs F:=h;obtain ⟨c1,rfl,h1⟩:=Own.int.1 h0;obtain ⟨c2,rfl,h2⟩:=Own.int.1 h1;obtain ⟨c3,rfl,h3⟩:=Own.int.1 h2;obtain ⟨c4,rfl,h4⟩:=Own.str.1 h3;obtain ⟨c5,rfl,h5⟩:=Own.str.1 h4;obtain ⟨c6,rfl,h6⟩:=Own.str.1 h5;obtain ⟨c7,rfl,h7⟩:=Own.int.1 h6;obtain ⟨A0,k0,c8,F0,G0,rfl,rfl,s0,h8⟩:=Own.sl.1 h7;obtain ⟨rfl,rfl⟩:=Own.nil.1 h8;exact ⟨A0,k0,F0,rfl,by simp only [append_nil],s0⟩
theorem aR.jM {w:World} {base:Nat} {x:aR} {v0:Value} {F0:List Nat} (s0:Own w base (.sl 9 1 x.chunks.length (cat cN x.chunks) .nil) [v0] F0):Own w base x.c [.int .i64 x.kind,.int .i64 x.aE,.int .i64 x.no,.string (bs x.set),.string (bs x.name),.string (bs x.tag),.int .i64 x.n,v0] (F0):=by
 obtain ⟨A0,k0,q0,X0,Y0,e0,f0,s0,g0⟩:=Own.sl.1 s0;injection e0 with e0 p0;subst e0;subst p0;obtain ⟨_,rfl⟩:=Own.nil.1 g0;rw [append_nil] at f0;subst f0;have z:Own w base .nil [] []:=Own.nil.2 ⟨rfl,rfl⟩;have hh:=(show Own w base x.c [.int .i64 x.kind,.int .i64 x.aE,.int .i64 x.no,.string (bs x.set),.string (bs x.name),.string (bs x.tag),.int .i64 x.n,.slice A0 _ k0] (_) from (Own.int.2 ⟨_,rfl,(Own.int.2 ⟨_,rfl,(Own.int.2 ⟨_,rfl,(Own.str.2 ⟨_,rfl,(Own.str.2 ⟨_,rfl,(Own.str.2 ⟨_,rfl,(Own.int.2 ⟨_,rfl,(Own.sl.2 ⟨_,_,_,_,_,rfl,rfl,s0,z⟩)⟩)⟩)⟩)⟩)⟩)⟩)⟩));simp only [append_nil] at hh;exact hh
structure ak where
 id:aX
 aS:Int
 bB:Int
 status:Int
 cmd:aR
 seq:Int
 al:List aX
 same:Bool
 deriving DecidableEq
def ak.cs (x:ak) (r:Cs):Cs:=(aX.cs x.id (.int x.aS (.int x.bB (.int x.status (aR.cs x.cmd (.int x.seq (.sl 25 2 x.al.length (cat aX.c x.al) (.bool x.same r))))))))
def ak.c (x:ak):Cs:=x.cs .nil
def ak.fG (x:ak):Nat:=aX.fG x.id+1+1+1+aR.fG x.cmd+1+uH aX.fG x.al+1
def ak.xZ (x:ak) (k:Nat):ak:=⟨aX.xZ x.id (k),((k+aX.fG x.id:Nat):Int),((k+aX.fG x.id+1:Nat):Int),((k+aX.fG x.id+1+1:Nat):Int),aR.xZ x.cmd (k+aX.fG x.id+1+1+1),((k+aX.fG x.id+1+1+1+aR.fG x.cmd:Nat):Int),Cw aX.xZ aX.fG x.al (k+aX.fG x.id+1+1+1+aR.fG x.cmd+1),decide ((k+aX.fG x.id+1+1+1+aR.fG x.cmd+1+uH aX.fG x.al)%3=0)⟩
def ak.sd (x:ak):Nat:=aR.sd x.cmd+uH aX.fG x.al
def ak.Ct (x:ak) (k:Nat):ak:=⟨aX.Ct x.id (k),x.aS,x.bB,x.status,aR.Ct x.cmd (k),x.seq,Cw aX.xZ aX.fG x.al (k+aR.sd x.cmd),x.same⟩
theorem ak.width (x:ak):x.c.width=16:=rfl
theorem lj:xz Tryz.prog 44 106 (.agg #[.int .i64 0,.int .i64 0,.int .i64 0,.int .i64 0,.int .i64 0,.int .i64 0,.int .i64 0,.int .i64 0,.string ⟨#[]⟩,.string ⟨#[]⟩,.string ⟨#[]⟩,.int .i64 0,.slice none 0 0,.int .i64 0,.slice none 0 0,.bool false]) 16 184:=⟨Tryz.underlying44,by kernel_rfl,rfl,by decide,by decide⟩
theorem aw:nV Tryz.prog 106 16:=⟨by kernel_rfl,by kernel_rfl⟩
theorem ak.open {B:Nat→Prop} {w:World} {x:ak} {cs:List Value} (h:aM B w x.c cs):∃A0 k0 A1 k1,cs=[.int .i64 x.id.rep,.int .i64 x.id.slot,.int .i64 x.aS,.int .i64 x.bB,.int .i64 x.status,.int .i64 x.cmd.kind,.int .i64 x.cmd.aE,.int .i64 x.cmd.no,.string (bs x.cmd.set),.string (bs x.cmd.name),.string (bs x.cmd.tag),.int .i64 x.cmd.n,.slice A0 x.cmd.chunks.length k0,.int .i64 x.seq,.slice A1 x.al.length k1,.bool x.same]∧aM B w (.sl 9 1 x.cmd.chunks.length (cat cN x.cmd.chunks) .nil) [.slice A0 x.cmd.chunks.length k0]∧aM B w (.sl 25 2 x.al.length (cat aX.c x.al) .nil) [.slice A1 x.al.length k1]:=by
 have h0:aM B w x.c cs:=h;obtain ⟨c1,rfl,h1⟩:=aM.int.1 h0;obtain ⟨c2,rfl,h2⟩:=aM.int.1 h1;obtain ⟨c3,rfl,h3⟩:=aM.int.1 h2;obtain ⟨c4,rfl,h4⟩:=aM.int.1 h3;obtain ⟨c5,rfl,h5⟩:=aM.int.1 h4;obtain ⟨c6,rfl,h6⟩:=aM.int.1 h5;obtain ⟨c7,rfl,h7⟩:=aM.int.1 h6;obtain ⟨c8,rfl,h8⟩:=aM.int.1 h7;obtain ⟨c9,rfl,h9⟩:=aM.str.1 h8;obtain ⟨Tf,rfl,yY⟩:=aM.str.1 h9;obtain ⟨RJ,rfl,zX⟩:=aM.str.1 yY;obtain ⟨Tg,rfl,DQ⟩:=aM.int.1 zX;obtain ⟨A0,k0,NZ,rfl,s0,AF⟩:=aM.sl.1 DQ;obtain ⟨Jw,rfl,Pc⟩:=aM.int.1 AF;obtain ⟨A1,k1,DS,rfl,s1,Pd⟩:=aM.sl.1 Pc;obtain ⟨N3,rfl,ya⟩:=aM.bool.1 Pd;obtain rfl:=aM.nil.1 ya;exact ⟨A0,k0,A1,k1,rfl,s0,s1⟩
theorem ak.shut {B:Nat→Prop} {w:World} {x:ak} {v0 v1:Value} (s0:aM B w (.sl 9 1 x.cmd.chunks.length (cat cN x.cmd.chunks) .nil) [v0]) (s1:aM B w (.sl 25 2 x.al.length (cat aX.c x.al) .nil) [v1]):aM B w x.c [.int .i64 x.id.rep,.int .i64 x.id.slot,.int .i64 x.aS,.int .i64 x.bB,.int .i64 x.status,.int .i64 x.cmd.kind,.int .i64 x.cmd.aE,.int .i64 x.cmd.no,.string (bs x.cmd.set),.string (bs x.cmd.name),.string (bs x.cmd.tag),.int .i64 x.cmd.n,v0,.int .i64 x.seq,v1,.bool x.same]:=by
 obtain ⟨A0,k0,q0,e0,s0,_⟩:=aM.sl.1 s0;injection e0 with e0 _;subst e0;obtain ⟨A1,k1,q1,e1,s1,_⟩:=aM.sl.1 s1;injection e1 with e1 _;subst e1;have z:aM B w .nil []:=aM.nil.2 rfl;exact (aM.int.2 ⟨_,rfl,(aM.int.2 ⟨_,rfl,(aM.int.2 ⟨_,rfl,(aM.int.2 ⟨_,rfl,(aM.int.2 ⟨_,rfl,(aM.int.2 ⟨_,rfl,(aM.int.2 ⟨_,rfl,(aM.int.2 ⟨_,rfl,(aM.str.2 ⟨_,rfl,(aM.str.2 ⟨_,rfl,(aM.str.2 ⟨_,rfl,(aM.int.2 ⟨_,rfl,(aM.sl.2 ⟨_,_,_,rfl,s0,(aM.int.2 ⟨_,rfl,(aM.sl.2 ⟨_,_,_,rfl,s1,(aM.bool.2 ⟨_,rfl,z⟩)⟩)⟩)⟩)⟩)⟩)⟩)⟩)⟩)⟩)⟩)⟩)⟩)⟩)⟩)⟩)
theorem ak.j8 {w:World} {base:Nat} {x:ak} {cs:List Value} {F:List Nat} (h:Own w base x.c cs F):∃A0 k0 A1 k1 F0 F1,cs=[.int .i64 x.id.rep,.int .i64 x.id.slot,.int .i64 x.aS,.int .i64 x.bB,.int .i64 x.status,.int .i64 x.cmd.kind,.int .i64 x.cmd.aE,.int .i64 x.cmd.no,.string (bs x.cmd.set),.string (bs x.cmd.name),.string (bs x.cmd.tag),.int .i64 x.cmd.n,.slice A0 x.cmd.chunks.length k0,.int .i64 x.seq,.slice A1 x.al.length k1,.bool x.same]∧F=F0++(F1)∧Own w base (.sl 9 1 x.cmd.chunks.length (cat cN x.cmd.chunks) .nil) [.slice A0 x.cmd.chunks.length k0] F0∧Own w base (.sl 25 2 x.al.length (cat aX.c x.al) .nil) [.slice A1 x.al.length k1] F1:=by
 have h0:Own w base x.c cs F:=h;obtain ⟨c1,rfl,h1⟩:=Own.int.1 h0;obtain ⟨c2,rfl,h2⟩:=Own.int.1 h1;obtain ⟨c3,rfl,h3⟩:=Own.int.1 h2;obtain ⟨c4,rfl,h4⟩:=Own.int.1 h3;obtain ⟨c5,rfl,h5⟩:=Own.int.1 h4;obtain ⟨c6,rfl,h6⟩:=Own.int.1 h5;obtain ⟨c7,rfl,h7⟩:=Own.int.1 h6;obtain ⟨c8,rfl,h8⟩:=Own.int.1 h7;obtain ⟨c9,rfl,h9⟩:=Own.str.1 h8;obtain ⟨Tf,rfl,yY⟩:=Own.str.1 h9;obtain ⟨RJ,rfl,zX⟩:=Own.str.1 yY;obtain ⟨Tg,rfl,DQ⟩:=Own.int.1 zX;obtain ⟨A0,k0,NZ,F0,G0,rfl,rfl,s0,AF⟩:=Own.sl.1 DQ;obtain ⟨Jw,rfl,Pc⟩:=Own.int.1 AF;obtain ⟨A1,k1,DS,F1,G1,rfl,rfl,s1,Pd⟩:=Own.sl.1 Pc;obtain ⟨N3,rfl,ya⟩:=Own.bool.1 Pd;obtain ⟨rfl,rfl⟩:=Own.nil.1 ya;exact ⟨A0,k0,A1,k1,F0,F1,rfl,by simp only [append_nil],s0,s1⟩
theorem ak.jM {w:World} {base:Nat} {x:ak} {v0 v1:Value} {F0 F1:List Nat} (s0:Own w base (.sl 9 1 x.cmd.chunks.length (cat cN x.cmd.chunks) .nil) [v0] F0) (s1:Own w base (.sl 25 2 x.al.length (cat aX.c x.al) .nil) [v1] F1):Own w base x.c [.int .i64 x.id.rep,.int .i64 x.id.slot,.int .i64 x.aS,.int .i64 x.bB,.int .i64 x.status,.int .i64 x.cmd.kind,.int .i64 x.cmd.aE,.int .i64 x.cmd.no,.string (bs x.cmd.set),.string (bs x.cmd.name),.string (bs x.cmd.tag),.int .i64 x.cmd.n,v0,.int .i64 x.seq,v1,.bool x.same] (F0++(F1)):=by
 obtain ⟨A0,k0,q0,X0,Y0,e0,f0,s0,g0⟩:=Own.sl.1 s0;injection e0 with e0 p0;subst e0;subst p0;obtain ⟨_,rfl⟩:=Own.nil.1 g0;rw [append_nil] at f0;subst f0;obtain ⟨A1,k1,q1,X1,Y1,e1,f1,s1,g1⟩:=Own.sl.1 s1;injection e1 with e1 p1;subst e1;subst p1;obtain ⟨_,rfl⟩:=Own.nil.1 g1;rw [append_nil] at f1;subst f1;have z:Own w base .nil [] []:=Own.nil.2 ⟨rfl,rfl⟩;have hh:=(show Own w base x.c [.int .i64 x.id.rep,.int .i64 x.id.slot,.int .i64 x.aS,.int .i64 x.bB,.int .i64 x.status,.int .i64 x.cmd.kind,.int .i64 x.cmd.aE,.int .i64 x.cmd.no,.string (bs x.cmd.set),.string (bs x.cmd.name),.string (bs x.cmd.tag),.int .i64 x.cmd.n,.slice A0 _ k0,.int .i64 x.seq,.slice A1 _ k1,.bool x.same] (_) from (Own.int.2 ⟨_,rfl,(Own.int.2 ⟨_,rfl,(Own.int.2 ⟨_,rfl,(Own.int.2 ⟨_,rfl,(Own.int.2 ⟨_,rfl,(Own.int.2 ⟨_,rfl,(Own.int.2 ⟨_,rfl,(Own.int.2 ⟨_,rfl,(Own.str.2 ⟨_,rfl,(Own.str.2 ⟨_,rfl,(Own.str.2 ⟨_,rfl,(Own.int.2 ⟨_,rfl,(Own.sl.2 ⟨_,_,_,_,_,rfl,rfl,s0,(Own.int.2 ⟨_,rfl,(Own.sl.2 ⟨_,_,_,_,_,rfl,rfl,s1,(Own.bool.2 ⟨_,rfl,z⟩)⟩)⟩)⟩)⟩)⟩)⟩)⟩)⟩)⟩)⟩)⟩)⟩)⟩)⟩)⟩));simp only [append_nil] at hh;exact hh
structure aV where
 kind:Int
 da:Int
 to:Int
 id:aX
 aS:Int
 cmd:aR
 seq:Int
 al:List aX
 status:Int
 bB:Int
 same:Bool
 deriving DecidableEq
def aV.cs (x:aV) (r:Cs):Cs:=(.int x.kind (.int x.da (.int x.to (aX.cs x.id (.int x.aS (aR.cs x.cmd (.int x.seq (.sl 25 2 x.al.length (cat aX.c x.al) (.int x.status (.int x.bB (.bool x.same r)))))))))))
def aV.c (x:aV):Cs:=x.cs .nil
def aV.fG (x:aV):Nat:=1+1+1+aX.fG x.id+1+aR.fG x.cmd+1+uH aX.fG x.al+1+1+1
def aV.xZ (x:aV) (k:Nat):aV:=⟨((k:Nat):Int),((k+1:Nat):Int),((k+1+1:Nat):Int),aX.xZ x.id (k+1+1+1),((k+1+1+1+aX.fG x.id:Nat):Int),aR.xZ x.cmd (k+1+1+1+aX.fG x.id+1),((k+1+1+1+aX.fG x.id+1+aR.fG x.cmd:Nat):Int),Cw aX.xZ aX.fG x.al (k+1+1+1+aX.fG x.id+1+aR.fG x.cmd+1),((k+1+1+1+aX.fG x.id+1+aR.fG x.cmd+1+uH aX.fG x.al:Nat):Int),((k+1+1+1+aX.fG x.id+1+aR.fG x.cmd+1+uH aX.fG x.al+1:Nat):Int),decide ((k+1+1+1+aX.fG x.id+1+aR.fG x.cmd+1+uH aX.fG x.al+1+1)%3=0)⟩
def aV.sd (x:aV):Nat:=aR.sd x.cmd+uH aX.fG x.al
def aV.Ct (x:aV) (k:Nat):aV:=⟨x.kind,x.da,x.to,aX.Ct x.id (k),x.aS,aR.Ct x.cmd (k),x.seq,Cw aX.xZ aX.fG x.al (k+aR.sd x.cmd),x.status,x.bB,x.same⟩
theorem aV.width (x:aV):x.c.width=19:=rfl
theorem yZ:xz Tryz.prog 85 31 (.agg #[.int .i64 0,.int .i64 0,.int .i64 0,.int .i64 0,.int .i64 0,.int .i64 0,.int .i64 0,.int .i64 0,.int .i64 0,.string ⟨#[]⟩,.string ⟨#[]⟩,.string ⟨#[]⟩,.int .i64 0,.slice none 0 0,.int .i64 0,.slice none 0 0,.int .i64 0,.int .i64 0,.bool false]) 19 208:=⟨Tryz.underlying85,by kernel_rfl,rfl,by decide,by decide⟩
theorem az:nV Tryz.prog 31 19:=⟨by kernel_rfl,by kernel_rfl⟩
theorem aV.open {B:Nat→Prop} {w:World} {x:aV} {cs:List Value} (h:aM B w x.c cs):∃A0 k0 A1 k1,cs=[.int .i64 x.kind,.int .i64 x.da,.int .i64 x.to,.int .i64 x.id.rep,.int .i64 x.id.slot,.int .i64 x.aS,.int .i64 x.cmd.kind,.int .i64 x.cmd.aE,.int .i64 x.cmd.no,.string (bs x.cmd.set),.string (bs x.cmd.name),.string (bs x.cmd.tag),.int .i64 x.cmd.n,.slice A0 x.cmd.chunks.length k0,.int .i64 x.seq,.slice A1 x.al.length k1,.int .i64 x.status,.int .i64 x.bB,.bool x.same]∧aM B w (.sl 9 1 x.cmd.chunks.length (cat cN x.cmd.chunks) .nil) [.slice A0 x.cmd.chunks.length k0]∧aM B w (.sl 25 2 x.al.length (cat aX.c x.al) .nil) [.slice A1 x.al.length k1]:=by
 have h0:aM B w x.c cs:=h;obtain ⟨c1,rfl,h1⟩:=aM.int.1 h0;obtain ⟨c2,rfl,h2⟩:=aM.int.1 h1;obtain ⟨c3,rfl,h3⟩:=aM.int.1 h2;obtain ⟨c4,rfl,h4⟩:=aM.int.1 h3;obtain ⟨c5,rfl,h5⟩:=aM.int.1 h4;obtain ⟨c6,rfl,h6⟩:=aM.int.1 h5;obtain ⟨c7,rfl,h7⟩:=aM.int.1 h6;obtain ⟨c8,rfl,h8⟩:=aM.int.1 h7;obtain ⟨c9,rfl,h9⟩:=aM.int.1 h8;obtain ⟨Tf,rfl,yY⟩:=aM.str.1 h9;obtain ⟨RJ,rfl,zX⟩:=aM.str.1 yY;obtain ⟨Tg,rfl,DQ⟩:=aM.str.1 zX;obtain ⟨NZ,rfl,AF⟩:=aM.int.1 DQ;obtain ⟨A0,k0,Jw,rfl,s0,Pc⟩:=aM.sl.1 AF;obtain ⟨DS,rfl,Pd⟩:=aM.int.1 Pc;obtain ⟨A1,k1,N3,rfl,s1,ya⟩:=aM.sl.1 Pd;obtain ⟨Pe,rfl,Yu⟩:=aM.int.1 ya;obtain ⟨RK,rfl,Yv⟩:=aM.int.1 Yu;obtain ⟨Yw,rfl,Yx⟩:=aM.bool.1 Yv;obtain rfl:=aM.nil.1 Yx;exact ⟨A0,k0,A1,k1,rfl,s0,s1⟩
theorem aV.shut {B:Nat→Prop} {w:World} {x:aV} {v0 v1:Value} (s0:aM B w (.sl 9 1 x.cmd.chunks.length (cat cN x.cmd.chunks) .nil) [v0]) (s1:aM B w (.sl 25 2 x.al.length (cat aX.c x.al) .nil) [v1]):aM B w x.c [.int .i64 x.kind,.int .i64 x.da,.int .i64 x.to,.int .i64 x.id.rep,.int .i64 x.id.slot,.int .i64 x.aS,.int .i64 x.cmd.kind,.int .i64 x.cmd.aE,.int .i64 x.cmd.no,.string (bs x.cmd.set),.string (bs x.cmd.name),.string (bs x.cmd.tag),.int .i64 x.cmd.n,v0,.int .i64 x.seq,v1,.int .i64 x.status,.int .i64 x.bB,.bool x.same]:=by
 obtain ⟨A0,k0,q0,e0,s0,_⟩:=aM.sl.1 s0;injection e0 with e0 _;subst e0;obtain ⟨A1,k1,q1,e1,s1,_⟩:=aM.sl.1 s1;injection e1 with e1 _;subst e1;have z:aM B w .nil []:=aM.nil.2 rfl;exact (aM.int.2 ⟨_,rfl,(aM.int.2 ⟨_,rfl,(aM.int.2 ⟨_,rfl,(aM.int.2 ⟨_,rfl,(aM.int.2 ⟨_,rfl,(aM.int.2 ⟨_,rfl,(aM.int.2 ⟨_,rfl,(aM.int.2 ⟨_,rfl,(aM.int.2 ⟨_,rfl,(aM.str.2 ⟨_,rfl,(aM.str.2 ⟨_,rfl,(aM.str.2 ⟨_,rfl,(aM.int.2 ⟨_,rfl,(aM.sl.2 ⟨_,_,_,rfl,s0,(aM.int.2 ⟨_,rfl,(aM.sl.2 ⟨_,_,_,rfl,s1,(aM.int.2 ⟨_,rfl,(aM.int.2 ⟨_,rfl,(aM.bool.2 ⟨_,rfl,z⟩)⟩)⟩)⟩)⟩)⟩)⟩)⟩)⟩)⟩)⟩)⟩)⟩)⟩)⟩)⟩)⟩)⟩)⟩)
theorem aV.jM {w:World} {base:Nat} {x:aV} {v0 v1:Value} {F0 F1:List Nat} (s0:Own w base (.sl 9 1 x.cmd.chunks.length (cat cN x.cmd.chunks) .nil) [v0] F0) (s1:Own w base (.sl 25 2 x.al.length (cat aX.c x.al) .nil) [v1] F1):Own w base x.c [.int .i64 x.kind,.int .i64 x.da,.int .i64 x.to,.int .i64 x.id.rep,.int .i64 x.id.slot,.int .i64 x.aS,.int .i64 x.cmd.kind,.int .i64 x.cmd.aE,.int .i64 x.cmd.no,.string (bs x.cmd.set),.string (bs x.cmd.name),.string (bs x.cmd.tag),.int .i64 x.cmd.n,v0,.int .i64 x.seq,v1,.int .i64 x.status,.int .i64 x.bB,.bool x.same] (F0++(F1)):=by
 obtain ⟨A0,k0,q0,X0,Y0,e0,f0,s0,g0⟩:=Own.sl.1 s0;injection e0 with e0 p0;subst e0;subst p0;obtain ⟨_,rfl⟩:=Own.nil.1 g0;rw [append_nil] at f0;subst f0;obtain ⟨A1,k1,q1,X1,Y1,e1,f1,s1,g1⟩:=Own.sl.1 s1;injection e1 with e1 p1;subst e1;subst p1;obtain ⟨_,rfl⟩:=Own.nil.1 g1;rw [append_nil] at f1;subst f1;have z:Own w base .nil [] []:=Own.nil.2 ⟨rfl,rfl⟩;have hh:=(show Own w base x.c [.int .i64 x.kind,.int .i64 x.da,.int .i64 x.to,.int .i64 x.id.rep,.int .i64 x.id.slot,.int .i64 x.aS,.int .i64 x.cmd.kind,.int .i64 x.cmd.aE,.int .i64 x.cmd.no,.string (bs x.cmd.set),.string (bs x.cmd.name),.string (bs x.cmd.tag),.int .i64 x.cmd.n,.slice A0 _ k0,.int .i64 x.seq,.slice A1 _ k1,.int .i64 x.status,.int .i64 x.bB,.bool x.same] (_) from (Own.int.2 ⟨_,rfl,(Own.int.2 ⟨_,rfl,(Own.int.2 ⟨_,rfl,(Own.int.2 ⟨_,rfl,(Own.int.2 ⟨_,rfl,(Own.int.2 ⟨_,rfl,(Own.int.2 ⟨_,rfl,(Own.int.2 ⟨_,rfl,(Own.int.2 ⟨_,rfl,(Own.str.2 ⟨_,rfl,(Own.str.2 ⟨_,rfl,(Own.str.2 ⟨_,rfl,(Own.int.2 ⟨_,rfl,(Own.sl.2 ⟨_,_,_,_,_,rfl,rfl,s0,(Own.int.2 ⟨_,rfl,(Own.sl.2 ⟨_,_,_,_,_,rfl,rfl,s1,(Own.int.2 ⟨_,rfl,(Own.int.2 ⟨_,rfl,(Own.bool.2 ⟨_,rfl,z⟩)⟩)⟩)⟩)⟩)⟩)⟩)⟩)⟩)⟩)⟩)⟩)⟩)⟩)⟩)⟩)⟩)⟩)⟩));simp only [append_nil] at hh;exact hh
structure aT where
 id:aX
 aS:Int
 phase:Int
 seq:Int
 al:List aX
 da:List Int
 same:Bool
 deriving DecidableEq
def aT.cs (x:aT) (r:Cs):Cs:=(aX.cs x.id (.int x.aS (.int x.phase (.int x.seq (.sl 25 2 x.al.length (cat aX.c x.al) (.sl 3 1 x.da.length (cat qS x.da) (.bool x.same r)))))))
def aT.c (x:aT):Cs:=x.cs .nil
def aT.fG (x:aT):Nat:=aX.fG x.id+1+1+1+uH aX.fG x.al+uH (fun _=>1) x.da+1
def aT.xZ (x:aT) (k:Nat):aT:=⟨aX.xZ x.id (k),((k+aX.fG x.id:Nat):Int),((k+aX.fG x.id+1:Nat):Int),((k+aX.fG x.id+1+1:Nat):Int),Cw aX.xZ aX.fG x.al (k+aX.fG x.id+1+1+1),Cw (fun _ k=>(k:Int)) (fun _=>1) x.da (k+aX.fG x.id+1+1+1+uH aX.fG x.al),decide ((k+aX.fG x.id+1+1+1+uH aX.fG x.al+uH (fun _=>1) x.da)%3=0)⟩
def aT.sd (x:aT):Nat:=uH aX.fG x.al+uH (fun _=>1) x.da
def aT.Ct (x:aT) (k:Nat):aT:=⟨aX.Ct x.id (k),x.aS,x.phase,x.seq,Cw aX.xZ aX.fG x.al (k),Cw (fun _ k=>(k:Int)) (fun _=>1) x.da (k+uH aX.fG x.al),x.same⟩
theorem aT.width (x:aT):x.c.width=8:=rfl
theorem mh:xz Tryz.prog 45 80 (.agg #[.int .i64 0,.int .i64 0,.int .i64 0,.int .i64 0,.int .i64 0,.slice none 0 0,.slice none 0 0,.bool false]) 8 96:=⟨Tryz.underlying45,by kernel_rfl,rfl,by decide,by decide⟩
theorem bV:nV Tryz.prog 80 8:=⟨by kernel_rfl,by kernel_rfl⟩
theorem aT.open {B:Nat→Prop} {w:World} {x:aT} {cs:List Value} (h:aM B w x.c cs):∃A0 k0 A1 k1,cs=[.int .i64 x.id.rep,.int .i64 x.id.slot,.int .i64 x.aS,.int .i64 x.phase,.int .i64 x.seq,.slice A0 x.al.length k0,.slice A1 x.da.length k1,.bool x.same]∧aM B w (.sl 25 2 x.al.length (cat aX.c x.al) .nil) [.slice A0 x.al.length k0]∧aM B w (.sl 3 1 x.da.length (cat qS x.da) .nil) [.slice A1 x.da.length k1]:=by
 have h0:aM B w x.c cs:=h;obtain ⟨c1,rfl,h1⟩:=aM.int.1 h0;obtain ⟨c2,rfl,h2⟩:=aM.int.1 h1;obtain ⟨c3,rfl,h3⟩:=aM.int.1 h2;obtain ⟨c4,rfl,h4⟩:=aM.int.1 h3;obtain ⟨c5,rfl,h5⟩:=aM.int.1 h4;obtain ⟨A0,k0,c6,rfl,s0,h6⟩:=aM.sl.1 h5;obtain ⟨A1,k1,c7,rfl,s1,h7⟩:=aM.sl.1 h6;obtain ⟨c8,rfl,h8⟩:=aM.bool.1 h7;obtain rfl:=aM.nil.1 h8;exact ⟨A0,k0,A1,k1,rfl,s0,s1⟩
theorem aT.shut {B:Nat→Prop} {w:World} {x:aT} {v0 v1:Value} (s0:aM B w (.sl 25 2 x.al.length (cat aX.c x.al) .nil) [v0]) (s1:aM B w (.sl 3 1 x.da.length (cat qS x.da) .nil) [v1]):aM B w x.c [.int .i64 x.id.rep,.int .i64 x.id.slot,.int .i64 x.aS,.int .i64 x.phase,.int .i64 x.seq,v0,v1,.bool x.same]:=by
 obtain ⟨A0,k0,q0,e0,s0,_⟩:=aM.sl.1 s0;injection e0 with e0 _;subst e0;obtain ⟨A1,k1,q1,e1,s1,_⟩:=aM.sl.1 s1;injection e1 with e1 _;subst e1;have z:aM B w .nil []:=aM.nil.2 rfl;exact (aM.int.2 ⟨_,rfl,(aM.int.2 ⟨_,rfl,(aM.int.2 ⟨_,rfl,(aM.int.2 ⟨_,rfl,(aM.int.2 ⟨_,rfl,(aM.sl.2 ⟨_,_,_,rfl,s0,(aM.sl.2 ⟨_,_,_,rfl,s1,(aM.bool.2 ⟨_,rfl,z⟩)⟩)⟩)⟩)⟩)⟩)⟩)⟩)
structure aY where
 me:Int
 next:Int
 insts:List ak
 leads:List aT
 deriving DecidableEq
def aY.cs (x:aY) (r:Cs):Cs:=(.int x.me (.int x.next (.sl 106 16 x.insts.length (cat ak.c x.insts) (.sl 80 8 x.leads.length (cat aT.c x.leads) r))))
def aY.c (x:aY):Cs:=x.cs .nil
def aY.fG (x:aY):Nat:=1+1+uH ak.fG x.insts+uH aT.fG x.leads
def aY.xZ (x:aY) (k:Nat):aY:=⟨((k:Nat):Int),((k+1:Nat):Int),Cw ak.xZ ak.fG x.insts (k+1+1),Cw aT.xZ aT.fG x.leads (k+1+1+uH ak.fG x.insts)⟩
def aY.sd (x:aY):Nat:=uH ak.fG x.insts+uH aT.fG x.leads
def aY.Ct (x:aY) (k:Nat):aY:=⟨x.me,x.next,Cw ak.xZ ak.fG x.insts (k),Cw aT.xZ aT.fG x.leads (k+uH ak.fG x.insts)⟩
theorem ab:nV Tryz.prog 47 4:=⟨by kernel_rfl,by kernel_rfl⟩
theorem aY.open {B:Nat→Prop} {w:World} {x:aY} {cs:List Value} (h:aM B w x.c cs):∃A0 k0 A1 k1,cs=[.int .i64 x.me,.int .i64 x.next,.slice A0 x.insts.length k0,.slice A1 x.leads.length k1]∧aM B w (.sl 106 16 x.insts.length (cat ak.c x.insts) .nil) [.slice A0 x.insts.length k0]∧aM B w (.sl 80 8 x.leads.length (cat aT.c x.leads) .nil) [.slice A1 x.leads.length k1]:=by
 have h0:aM B w x.c cs:=h;obtain ⟨c1,rfl,h1⟩:=aM.int.1 h0;obtain ⟨c2,rfl,h2⟩:=aM.int.1 h1;obtain ⟨A0,k0,c3,rfl,s0,h3⟩:=aM.sl.1 h2;obtain ⟨A1,k1,c4,rfl,s1,h4⟩:=aM.sl.1 h3;obtain rfl:=aM.nil.1 h4;exact ⟨A0,k0,A1,k1,rfl,s0,s1⟩
theorem aY.shut {B:Nat→Prop} {w:World} {x:aY} {v0 v1:Value} (s0:aM B w (.sl 106 16 x.insts.length (cat ak.c x.insts) .nil) [v0]) (s1:aM B w (.sl 80 8 x.leads.length (cat aT.c x.leads) .nil) [v1]):aM B w x.c [.int .i64 x.me,.int .i64 x.next,v0,v1]:=by
 obtain ⟨A0,k0,q0,e0,s0,_⟩:=aM.sl.1 s0;injection e0 with e0 _;subst e0;obtain ⟨A1,k1,q1,e1,s1,_⟩:=aM.sl.1 s1;injection e1 with e1 _;subst e1;have z:aM B w .nil []:=aM.nil.2 rfl;exact (aM.int.2 ⟨_,rfl,(aM.int.2 ⟨_,rfl,(aM.sl.2 ⟨_,_,_,rfl,s0,(aM.sl.2 ⟨_,_,_,rfl,s1,z⟩)⟩)⟩)⟩)
def rM (x:aV) (A0:Option Addr) (k0:Nat) (A1:Option Addr) (k1:Nat):Li [.int .i64 x.kind,.int .i64 x.da,.int .i64 x.to,.int .i64 x.id.rep,.int .i64 x.id.slot,.int .i64 x.aS,.int .i64 x.cmd.kind,.int .i64 x.cmd.aE,.int .i64 x.cmd.no,.string (bs x.cmd.set),.string (bs x.cmd.name),.string (bs x.cmd.tag),.int .i64 x.cmd.n,.slice A0 x.cmd.chunks.length k0,.int .i64 x.seq,.slice A1 x.al.length k1,.int .i64 x.status,.int .i64 x.bB,.bool x.same]:=⟨⟩
def zM:Li [.int .i64 0,.int .i64 0,.int .i64 0,.int .i64 0,.int .i64 0,.int .i64 0,.int .i64 0,.int .i64 0,.int .i64 0,.string (bs []),.string (bs []),.string (bs []),.int .i64 0,.slice none 0 0,.int .i64 0,.slice none 0 0,.int .i64 0,.int .i64 0,.bool false]:=⟨⟩
def yM:Li [.int .i64 0,.int .i64 0,.int .i64 0,.int .i64 0,.int .i64 0,.int .i64 0,.int .i64 0,.int .i64 0,.int .i64 0,.string ⟨#[]⟩,.string ⟨#[]⟩,.string ⟨#[]⟩,.int .i64 0,.slice none 0 0,.int .i64 0,.slice none 0 0,.int .i64 0,.int .i64 0,.bool false]:=⟨⟩
def rI (x:ak) (A0:Option Addr) (k0:Nat) (A1:Option Addr) (k1:Nat):Li [.int .i64 x.id.rep,.int .i64 x.id.slot,.int .i64 x.aS,.int .i64 x.bB,.int .i64 x.status,.int .i64 x.cmd.kind,.int .i64 x.cmd.aE,.int .i64 x.cmd.no,.string (bs x.cmd.set),.string (bs x.cmd.name),.string (bs x.cmd.tag),.int .i64 x.cmd.n,.slice A0 x.cmd.chunks.length k0,.int .i64 x.seq,.slice A1 x.al.length k1,.bool x.same]:=⟨⟩
def zI:Li [.int .i64 0,.int .i64 0,.int .i64 0,.int .i64 0,.int .i64 0,.int .i64 0,.int .i64 0,.int .i64 0,.string (bs []),.string (bs []),.string (bs []),.int .i64 0,.slice none 0 0,.int .i64 0,.slice none 0 0,.bool false]:=⟨⟩
def yI:Li [.int .i64 0,.int .i64 0,.int .i64 0,.int .i64 0,.int .i64 0,.int .i64 0,.int .i64 0,.int .i64 0,.string ⟨#[]⟩,.string ⟨#[]⟩,.string ⟨#[]⟩,.int .i64 0,.slice none 0 0,.int .i64 0,.slice none 0 0,.bool false]:=⟨⟩
def rL (x:aT) (A0:Option Addr) (k0:Nat) (A1:Option Addr) (k1:Nat):Li [.int .i64 x.id.rep,.int .i64 x.id.slot,.int .i64 x.aS,.int .i64 x.phase,.int .i64 x.seq,.slice A0 x.al.length k0,.slice A1 x.da.length k1,.bool x.same]:=⟨⟩
def zL:Li [.int .i64 0,.int .i64 0,.int .i64 0,.int .i64 0,.int .i64 0,.slice none 0 0,.slice none 0 0,.bool false]:=⟨⟩
def rN (x:aY) (A0:Option Addr) (k0:Nat) (A1:Option Addr) (k1:Nat):Li [.int .i64 x.me,.int .i64 x.next,.slice A0 x.insts.length k0,.slice A1 x.leads.length k1]:=⟨⟩
def zN:Li [.int .i64 0,.int .i64 0,.slice none 0 0,.slice none 0 0]:=⟨⟩
def rC (x:aR) (A0:Option Addr) (k0:Nat):Li [.int .i64 x.kind,.int .i64 x.aE,.int .i64 x.no,.string (bs x.set),.string (bs x.name),.string (bs x.tag),.int .i64 x.n,.slice A0 x.chunks.length k0]:=⟨⟩
def zC:Li [.int .i64 0,.int .i64 0,.int .i64 0,.string (bs []),.string (bs []),.string (bs []),.int .i64 0,.slice none 0 0]:=⟨⟩
def yC:Li [.int .i64 0,.int .i64 0,.int .i64 0,.string ⟨#[]⟩,.string ⟨#[]⟩,.string ⟨#[]⟩,.int .i64 0,.slice none 0 0]:=⟨⟩
instance:CoeOut (List aX) Nat:=⟨fun l=>l.length⟩
instance:CoeOut (List ak) Nat:=⟨fun l=>l.length⟩
instance:CoeOut (List aT) Nat:=⟨fun l=>l.length⟩
instance:CoeOut (List Int) Nat:=⟨fun l=>l.length⟩
instance:CoeOut (List (List UInt8)) Nat:=⟨fun l=>l.length⟩
structure Lp (p:Cs × List Value) where
structure Lc (c:Cs) where
instance {p:Cs × List Value}:CoeOut (Lp p) (Cs × List Value):=⟨fun _=>p⟩
instance {c:Cs}:CoeOut (Lc c) Cs:=⟨fun _=>c⟩
def tD (x:List aX) (A:Option Addr) (k:Nat):Lp ((.sl 25 2 x.length (cat aX.c x) .nil),[.slice A x.length k]):=⟨⟩
def tC (x:List (List UInt8)) (A:Option Addr) (k:Nat):Lp ((.sl 9 1 x.length (cat cN x) .nil),[.slice A x.length k]):=⟨⟩
def tF (x:List Int) (A:Option Addr) (k:Nat):Lp ((.sl 3 1 x.length (cat qS x) .nil),[.slice A x.length k]):=⟨⟩
def sD (x:List aX):Lc (.sl 25 2 x.length (cat aX.c x) .nil):=⟨⟩
def sC (x:List (List UInt8)):Lc (.sl 9 1 x.length (cat cN x) .nil):=⟨⟩
def sF (x:List Int):Lc (.sl 3 1 x.length (cat qS x) .nil):=⟨⟩
def Th (xs:List (List UInt8)):Nat:=(xs.map List.length).sum
def wtS (xs:List (List UInt8)):Nat:=xs.length+Th xs
def szR (left wt:Nat):Int:=if wt≤left then (left:Int)-wt else -1
theorem vH {xs ys:List (List UInt8)} {j:Nat} (h:xs.take j=ys.take j) (hx:j<xs.length) (hy:j<ys.length) (he:xs[j]=ys[j]):xs.take (j+1)=ys.take (j+1):=by
 rw [take_succ_eq_append_getElem hx,take_succ_eq_append_getElem hy,h,he]
theorem AH (v v':Value) (xs ys:List (List UInt8)) (w:World) (hn:xs.length≤4611686018427387904) (yc:ys.length≤4611686018427387904)
 (hr:eD w 1 v xs.length (xs.map iK)) (Jx:eD w 1 v' ys.length (ys.map iK)) :
 Calls Tryz.prog 68 #[v,v'] w fun e w'=>e = .returned (.bool (decide (xs=ys)))∧Below w w w':=by
 obtain ⟨A,c,rfl,hR⟩:=hr;obtain ⟨A',c',rfl,Jy⟩:=Jx;obtain ⟨D,hD⟩:∃D,D=decide (xs=ys):=⟨_,rfl⟩;rw [←hD];by_cases hlen:xs.length=ys.length
 ·have vI:xs=ys→D=true:=fun h=>by rw [hD];exact decide_eq_true h
  have iR:¬xs=ys→D=false:=fun h=>by rw [hD];exact decide_eq_false h
  obtain ⟨n,gM⟩:∃n,n=xs.length:=⟨_,rfl⟩;rw [←hlen,←gM] at Jy;rw [←gM] at hR;rw [←gM] at hn;rw [←hlen,←gM];have hy:ys.length=n:=by omega
  clear hlen hD yc;have HN:=Hi gM;clear gM;have Pf:=Hi hy;clear hy;have Me:=Hi vI;clear vI;have qE:=Hi iR;clear iR;have HR:=Hi hR;clear hR;have Pg:=Hi Jy;clear Jy;go_enter Tryz.func68,Tryz.ntmps68;go_wp2;go_loopw [5] (fun ii wr=>∃j:Nat,j≤n∧ii = .int .i64 (j:Int)∧xs.take j=ys.take j∧Below w w wr) (fun ii _=>n-(intOf ii).toNat);case atStart=>exact ⟨0,Nat.zero_le _,rfl,rfl,Below.refl _ _⟩
  case round=>
   obtain ⟨j,hj,rfl,dX,bE⟩:=hrel;by_cases dS:j<n
   ·have fg:j<xs.length:=by have:=HN.o;omega
    have GD:j<ys.length:=by have:=Pf.o;omega
    obtain ⟨ad,rfl,gu⟩:=HR.o.2 (by omega);obtain ⟨rQ,rfl,sf⟩:=Pg.o.2 (by omega);have hc:=gu j (iK xs[j]) (by rw [List.getElem?_map,List.getElem?_eq_getElem fg];rfl);have pc:=sf j (iK ys[j]) (by rw [List.getElem?_map,List.getElem?_eq_getElem GD];rfl);have iL:wr.cell? (ad.add j)=some (.string (bs xs[j])):=by
     rw [bE.cell (World.block_lt_of_cell? _ _ hc)];exact hc
    have Ti:wr.cell? (rQ.add j)=some (.string (bs ys[j])):=by
     rw [bE.cell (World.block_lt_of_cell? _ _ pc)];exact pc
    have ph:=vH dX fg GD;have dO:xs[j]≠ys[j]→¬xs=ys:=fun h e=>h (by subst e;rfl)
    have H2:=Hi bE;clear bE gu hc sf pc dX;generalize xs[j]=x at *;generalize ys[j]=y at *;by_cases qp:x=y
    ·have dk:=ph qp;subst qp;have kM:=Hi dk;clear dk ph dO;go_wp2;refine ax 9 OQ (by kernel_rfl) (by kernel_rfl) ?_;iterate 9 (refine ae rfl (by kernel_rfl) rfl ?_;go_wp2;refine ⟨rfl,?_⟩)
     refine aO ?_;simp only [eo,ep];go_wp2;exact ⟨⟨j+1,by omega,by go_num,kM.o,H2.o.drew⟩,by simp only [intOf];omega⟩
    ·have hr:D=false:=qE.o (dO qp);have zY:=Hi hr;clear hr ph dO;have cW:(x == y)=false:=by simpa using qp
     clear qp;go_wp2;refine ax 9 OQ (by kernel_rfl) (by kernel_rfl) ?_;iterate 9 (refine ae rfl (by kernel_rfl) rfl ?_;go_wp2;refine ⟨rfl,?_⟩)
     refine aO ?_;simp only [eo,ep];go_wp2;go_ret;exact ⟨au (by rw [zY.o];rfl),H2.o.drew⟩
   ·have iQ:j=n:=by omega
    subst iQ;rw [take_of_length_le (by have:=HN.o;omega),take_of_length_le (by have:=Pf.o;omega)] at dX;have hr:D=true:=Me.o dX;have zY:=Hi hr;clear hr dX;have H2:=Hi bE;clear bE;go_wp2;go_ret;exact ⟨au (by rw [zY.o];rfl),H2.o⟩
 ·have hr:D=false:=by rw [hD];exact decide_eq_false (fun h=>hlen (by rw [h]))
  have zY:=Hi hr;clear hr hD hR Jy;have cW:((xs.length:Int) == (ys.length:Int))=false:=by simp only [beq_eq_false_iff_ne];omega
  generalize xs.length=n at *;generalize ys.length=m at *;clear hlen;go_enter Tryz.func68,Tryz.ntmps68;go_wp2;go_ret;exact ⟨au (by rw [zY.o];rfl),Below.refl _ _⟩
theorem y0 (v v':Value) (xs ys:List (List UInt8)) (w:World) (hn:xs.length≤4611686018427387904) (yc:ys.length≤4611686018427387904)
 (hr:eD w 1 v xs.length (xs.map iK)) (Jx:eD w 1 v' ys.length (ys.map iK)) :
 Calls Tryz.prog 67 #[v,v'] w fun e w'=>e = .returned (.bool (decide (xs=ys)))∧Below w w w':=by
 obtain ⟨A,c,rfl,hR⟩:=hr;obtain ⟨A',c',rfl,Jy⟩:=Jx;obtain ⟨D,hD⟩:∃D,D=decide (xs=ys):=⟨_,rfl⟩;rw [←hD];by_cases hlen:xs.length=ys.length
 ·have vI:xs=ys→D=true:=fun h=>by rw [hD];exact decide_eq_true h
  have iR:¬xs=ys→D=false:=fun h=>by rw [hD];exact decide_eq_false h
  obtain ⟨n,gM⟩:∃n,n=xs.length:=⟨_,rfl⟩;rw [←hlen,←gM] at Jy;rw [←gM] at hR;rw [←gM] at hn;rw [←hlen,←gM];have hy:ys.length=n:=by omega
  clear hlen hD yc;have HN:=Hi gM;clear gM;have Pf:=Hi hy;clear hy;have Me:=Hi vI;clear vI;have qE:=Hi iR;clear iR;have HR:=Hi hR;clear hR;have Pg:=Hi Jy;clear Jy;go_enter Tryz.func67,Tryz.ntmps67;go_wp2;go_loopw [5,13] (fun _ ii wr=>∃j:Nat,j≤n∧ii = .int .i64 (j:Int)∧xs.take j=ys.take j∧Below w w wr) (fun _ ii _=>n-(intOf ii).toNat);case atStart=>exact ⟨0,Nat.zero_le _,rfl,rfl,Below.refl _ _⟩
  case round=>
   obtain ⟨j,hj,rfl,dX,bE⟩:=hrel;by_cases dS:j<n
   ·have fg:j<xs.length:=by have:=HN.o;omega
    have GD:j<ys.length:=by have:=Pf.o;omega
    obtain ⟨ad,rfl,gu⟩:=HR.o.2 (by omega);obtain ⟨rQ,rfl,sf⟩:=Pg.o.2 (by omega);have hc:=gu j (iK xs[j]) (by rw [List.getElem?_map,List.getElem?_eq_getElem fg];rfl);have pc:=sf j (iK ys[j]) (by rw [List.getElem?_map,List.getElem?_eq_getElem GD];rfl);have iL:wr.cell? (ad.add j)=some (.string (bs xs[j])):=by
     rw [bE.cell (World.block_lt_of_cell? _ _ hc)];exact hc
    have Ti:wr.cell? (rQ.add j)=some (.string (bs ys[j])):=by
     rw [bE.cell (World.block_lt_of_cell? _ _ pc)];exact pc
    have ph:=vH dX fg GD;have dO:xs[j]≠ys[j]→¬xs=ys:=fun h e=>h (by subst e;rfl)
    have H2:=Hi bE;clear bE gu hc sf pc dX;generalize xs[j]=x at *;generalize ys[j]=y at *;by_cases qp:x=y
    ·have dk:=ph qp;subst qp;have kM:=Hi dk;clear dk ph dO;go_wp2;refine ax 9 OQ (by kernel_rfl) (by kernel_rfl) ?_;iterate 9 (refine ae rfl (by kernel_rfl) rfl ?_;go_wp2;refine ⟨rfl,?_⟩)
     refine aO ?_;simp only [eo,ep];go_wp2;exact ⟨⟨j+1,by omega,by go_num,kM.o,H2.o.drew⟩,by simp only [intOf];omega⟩
    ·have hr:D=false:=qE.o (dO qp);have zY:=Hi hr;clear hr ph dO;have cW:(x == y)=false:=by simpa using qp
     clear qp;go_wp2;refine ax 9 OQ (by kernel_rfl) (by kernel_rfl) ?_;iterate 9 (refine ae rfl (by kernel_rfl) rfl ?_;go_wp2;refine ⟨rfl,?_⟩)
     refine aO ?_;simp only [eo,ep];go_wp2;go_ret;exact ⟨au (by rw [zY.o];rfl),H2.o.drew⟩
   ·have iQ:j=n:=by omega
    subst iQ;rw [take_of_length_le (by have:=HN.o;omega),take_of_length_le (by have:=Pf.o;omega)] at dX;have hr:D=true:=Me.o dX;have zY:=Hi hr;clear hr dX;have H2:=Hi bE;clear bE;go_wp2;go_ret;exact ⟨au (by rw [zY.o];rfl),H2.o⟩
 ·have hr:D=false:=by rw [hD];exact decide_eq_false (fun h=>hlen (by rw [h]))
  have zY:=Hi hr;clear hr hD hR Jy;have cW:((xs.length:Int) == (ys.length:Int))=false:=by simp only [beq_eq_false_iff_ne];omega
  generalize xs.length=n at *;generalize ys.length=m at *;clear hlen;go_enter Tryz.func67,Tryz.ntmps67;go_wp2;go_ret;exact ⟨au (by rw [zY.o];rfl),Below.refl _ _⟩
end Go.Proofs.YtfgliohpdgnmcaaGreat
namespace Go.Proofs.YtfgliohpdgnmcaaGreat
open List (take_of_length_le length_drop length_cons map_append length_append append_assoc cons_append take_succ_eq_append_getElem length_take drop_eq_getElem_cons take_append_drop append_nil mem_cons not_mem_nil)
open Go.RowKit
end Go.Proofs.YtfgliohpdgnmcaaGreat
namespace Go.Proofs.YtfgliohpdgnmcaaGreat
open Go.RowKit
open List (take_of_length_le length_drop length_cons map_append length_append append_assoc cons_append take_succ_eq_append_getElem length_take drop_eq_getElem_cons take_append_drop append_nil mem_cons not_mem_nil)
theorem Mf (w:World) (c:Array Value) (e:Nat) (o1 o2:Obj):bf (((w.alloc (.cells c e)).alloc o1).alloc o2) w e c:=((bH w c e).alloc _).alloc _
theorem Mg (w:World) (o:Obj) (c:Array Value) (e:Nat) (o2:Obj):bf (((w.alloc o).alloc (.cells c e)).alloc o2) (w+1) e c:=by
 have:=(bH (w.alloc o) c e).alloc o2;simpa using this
theorem aF (w:World) (a:Addr) (v:Value):(w.setCell a v).heap.size=w.heap.size:=by simp [World.setCell]
theorem pq (w:World) (c:Array Value) (e:Nat) (o1:Obj):bf ((w.alloc (.cells c e)).alloc o1) w e c:=(bH w c e).alloc _
theorem pr (w:World) (o:Obj) (c:Array Value) (e:Nat):bf ((w.alloc o).alloc (.cells c e)) (w+1) e c:=by
 have:=bH (w.alloc o) c e;simpa using this
theorem aW {w w':World} (h:Below w.drew.heap.size w.drew w'):Below w w w':=⟨h.os,h.tape,h.output,h.size,h.block⟩
theorem db {w w':World} {ci:List Value} {p:Addr} (h:∀f v,ci[f]?=some v→w.cell? (p.add f)=some v) (hb:Below w w w'):∀f v,ci[f]?=some v→w'.cell? (p.add f)=some v:=
 fun f v hv=>(hb.cell (World.block_lt_of_cell? _ _ (h f v hv))).trans (h f v hv)
inductive HT where
 |leaf
 |one (i:Nat) (r:HT)
 |two (i k:Nat) (r s:HT)
def HT.len:HT→Nat
 |.leaf=>0
 |.one _ r=>r.len+1
 |.two _ _ r _=>r.len+1
section
variable {P:Program} {md:Region.Mode} {ops:Array Oper}
def Sf (P:Program) (ops:Array Oper) (Q:Exit→Act→World→Prop) (tail:List Oper):HT→Act→World→Prop
 |.leaf,a,w=>wpList P ops Q tail a w
 |.one i r,a,w=>match ops[i]? with
  |none=>False
  |some o=>
   if cU P o.op=true then (Region.wanted o (yielded ops a.tmps)=true→fm o a=true)∧wpList P ops (nC w (Sf P ops Q tail r)) [o] a w
   else wpList P ops (j7 w (Sf P ops Q tail r)) [o] a w
 |.two i k r s,a,w=>match ops[i]? with
  |none=>False
  |some o=>match ops[k]? with
   |none=>False
   |some o'=>wpList P ops (j7 w (Sf P ops Q tail r)) [o] a w∧wpList P ops (j7 w (Sf P ops Q tail s)) [o'] a w
def Eo (P:Program) (md:Region.Mode) (ops:Array Oper) (n:Nat):HT→Array Bool→Bool
 |.leaf,aj=>Region.seqB md ops (ops.size-n) n aj
 |.one i r,aj=>decide (i<n) && (match ops[i]? with
  |none=>false
  |some o=>if cU P o.op=true then (Region.ready md ops aj).contains i && Region.free md ops aj i else decide (Region.ready md ops aj=[i])) &&
  Eo P md ops n r (aj.setIfInBounds i true)
 |.two i k r s,aj=>decide (i<n) && decide (k<n) && decide (r.len=s.len) && decide (Region.ready md ops aj=[i,k]) && Eo P md ops n r (aj.setIfInBounds i true) && Eo P md ops n s (aj.setIfInBounds k true)
def TZ (P:Program) (md:Region.Mode) (ops:Array Oper) (n:Nat) (r:HT):Bool:=
 Region.noSelect ops && (decide (n=ops.size) || (decide (n<ops.size) && Region.sinkB md ops n && Region.chainB md ops n)) && decide (r.len=n) && Eo P md ops n r (Array.replicate ops.size false)
theorem oK {c:Code} {Q:Exit→Act→World→Prop} {a:Act} {w:World} (J:Act→Act→World→Prop) (h1:c.wp P (fun e a' w'=>e = .normal∧J a a' w') a w) (h2:∀a' w',J a a' w'→Q .normal a' w'):c.wp P Q a w:=
 Code.wp_mono (Q:=fun e a' w'=>e = .normal∧J a a' w') (by rintro e a' w' ⟨rfl,h⟩;exact h2 a' w' h) h1
end
section
variable {P:Program}
structure Zx (P:Program) (t:TypeId) (n:Nat):Prop where
 agg:(match P.underlying t with|some (.array _ _)=>true|_=>false)=true
 info:(P.info? t).map (fun i=>i.size)=some n
end
def Zy (n:Nat):Value:= .int .u32 (n:Int)
def qx (b:List UInt8) (k:Nat):List Nat:=sW b k++List.replicate (64-k) 0
theorem uz (b:List UInt8) (k:Nat) (hk:k≤64):(qx b k).length=64:=by rw [qx,length_append,mw,List.length_replicate];omega
def Zz (h v:V8) (j:Nat):List Nat:=(h.add v).pN.take j++h.pN.drop j
theorem Db {v:V8} (hv:v.ok) (j:Nat):v.pN.getD j 0<4294967296:=by
 refine oL ?_ j;obtain ⟨a,b,c,d,e,f,g,h⟩:=hv;intro x hx;simp only [V8.pN,mem_cons,not_mem_nil,or_false] at hx;omega
theorem Fw (l:List Nat) (j:Nat) (hj:j<l.length):tT (l.take j)++gz 4 (l.getD j 0)=tT (l.take (j+1)):=by
 rw [take_succ_eq_append_getElem hj,tT,tT,List.flatMap_append,List.getD_eq_getElem?_getD,List.getElem?_eq_getElem hj];simp
def tU (l:List UInt8):List UInt8:=(BC l).take 8
end Go.Proofs.YtfgliohpdgnmcaaGreat
namespace Go.Proofs.YtfgliohpdgnmcaaGreat
open Go.RowKit Go.ChangeShapes Go.WideShapes Go.ChangeAt Go.Deep
open List (take_of_length_le length_drop length_cons map_append length_append append_assoc cons_append take_succ_eq_append_getElem length_take drop_eq_getElem_cons take_append_drop append_nil mem_cons not_mem_nil)
section
variable {H:Type} {enc:TypeId × Value→H} {w:World} {base b0:Nat} {r:Reach} {spare:Nat→Bool} {held:Bool} {v:Value} {d:DataW H} {ps:List MemPlace}
end
end Go.Proofs.YtfgliohpdgnmcaaGreat
