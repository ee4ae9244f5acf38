/- Lemmas for the walks of one claim (Ids, IdsB). Conditions: bounds on sizes, as each names them. -/
import Derived.Test.YtfgliohpdgnmcaaGreatB03
set_option linter.unusedVariables false
set_option linter.unusedSimpArgs false
set_option maxRecDepth 100000
set_option maxHeartbeats 8000000
namespace Go.Proofs.YtfgliohpdgnmcaaGreat
open Go.RowKit
open List (take_of_length_le take_succ_eq_append_getElem getElem_of_mem)
def fK (x:aX):Bool:=gD 0 2 x.rep && gD 1 6 x.slot
def eA (a b:aX):Bool:=decide (a.rep<b.rep∨a.rep=b.rep∧a.slot<b.slot)
def lC (a b:aX):Int:=if eA a b=true then -1 else if a=b then 0 else 1
def mR (xs:List aX) (j:Nat):Prop:=∀i,i<j→∃x,xs[i]?=some x∧fK x=true∧∀y,i≠0→xs[i-1]?=some y→eA y x=true
open Classical in
noncomputable def ek (xs:List aX):Bool:=decide (mR xs xs.length)
theorem su (xs:List aX):mR xs 0:=fun i hi=>absurd hi (Nat.not_lt_zero _)
theorem sx {xs:List aX} {j:Nat} (h:mR xs j) (hj:j<xs.length) (h1:fK xs[j]=true) (h2:∀y,j≠0→xs[j-1]?=some y→eA y xs[j]=true):mR xs (j+1):=fun i hi=>by
 by_cases y4:i=j
 ·subst y4;exact ⟨xs[i],List.getElem?_eq_getElem hj,h1,h2⟩
 ·exact h i (by omega)
theorem vO {xs:List aX} (h:mR xs xs.length):ek xs=true:=by simp [ek,h]
theorem vP {xs:List aX} {j:Nat} (hj:j<xs.length) (h1:fK xs[j]=false):ek xs=false:=by
 simp only [ek,decide_eq_false_iff_not];intro h;obtain ⟨x,h2,h3,_⟩:=h j hj;rw [List.getElem?_eq_getElem hj] at h2;injection h2 with h2;rw [h2,h3] at h1;cases h1
theorem vQ {xs:List aX} {j:Nat} (hj:j+1<xs.length) (h1:eA (xs[j]'(by omega)) xs[j+1]=false):ek xs=false:=by
 simp only [ek,decide_eq_false_iff_not];intro h;obtain ⟨x,h2,_,h3⟩:=h (j+1) hj;rw [List.getElem?_eq_getElem hj] at h2;injection h2 with h2;have:=h3 (xs[j]'(by omega)) (by omega) (List.getElem?_eq_getElem (by omega));rw [←h2,h1] at this;cases this
theorem kN (x:aX) (cs:List Value) (w:World) (h:aM bM w x.c cs) :
 Calls Tryz.prog 38 #[.agg cs.toArray] w fun e w'=>e = .returned (.bool (fK x))∧Below w w w':=by
 obtain rfl:=aX.open h;clear h;by_cases h1:0≤x.rep∧x.rep≤2
 ·have HR:=Hi (show fK x=gD 1 6 x.slot by rw [fK,lX h1.1 h1.2,Bool.true_and]);have H1:=Hi h1;clear h1;go_enter Tryz.func38,Tryz.ntmps38;go_wp2_with fail;refine (rS _ _ _ _ H1.o).mono ?_;rintro e w' ⟨rfl,rfl⟩;go_wp2_with fail;refine (ew _ _ _ _).mono ?_;rintro e w' ⟨rfl,rfl⟩;go_wp2;go_ret;exact ⟨au (by rw [HR.o];rfl),(by repeat' (first|with_reducible (first|exact Br|exact BW.o|apply Bs|apply Ba|apply Bd)|(simp<;>omega)|omega))⟩
 ·have HR:=Hi (show fK x=false by rw [fK,iu h1,Bool.false_and]);have H1:=Hi h1;clear h1;go_enter Tryz.func38,Tryz.ntmps38;go_wp2_with fail;refine (yU _ _ _ _ H1.o).mono ?_;rintro e w' ⟨rfl,rfl⟩;go_wp2;go_ret;exact ⟨au (by rw [HR.o];rfl),(by repeat' (first|with_reducible (first|exact Br|exact BW.o|apply Bs|apply Ba|apply Bd)|(simp<;>omega)|omega))⟩
theorem pw (x:aX) (cs:List Value) (w:World) (h:aM bM w x.c cs) :
 Calls Tryz.prog 58 #[.agg cs.toArray] w fun e w'=>e = .returned (.bool (fK x))∧Below w w w':=by
 obtain rfl:=aX.open h;clear h;by_cases h1:0≤x.rep∧x.rep≤2
 ·have HR:=Hi (show fK x=gD 1 6 x.slot by rw [fK,lX h1.1 h1.2,Bool.true_and]);have H1:=Hi h1;clear h1;go_enter Tryz.func58,Tryz.ntmps58;go_wp2_with fail;refine (qQ _ _ _ _ H1.o).mono ?_;rintro e w' ⟨rfl,rfl⟩;go_wp2_with fail;refine (fo _ _ _ _).mono ?_;rintro e w' ⟨rfl,rfl⟩;go_wp2;go_ret;exact ⟨au (by rw [HR.o];rfl),(by repeat' (first|with_reducible (first|exact Br|exact BW.o|apply Bs|apply Ba|apply Bd)|(simp<;>omega)|omega))⟩
 ·have HR:=Hi (show fK x=false by rw [fK,iu h1,Bool.false_and]);have H1:=Hi h1;clear h1;go_enter Tryz.func58,Tryz.ntmps58;go_wp2_with fail;refine (tw _ _ _ _ H1.o).mono ?_;rintro e w' ⟨rfl,rfl⟩;go_wp2;go_ret;exact ⟨au (by rw [HR.o];rfl),(by repeat' (first|with_reducible (first|exact Br|exact BW.o|apply Bs|apply Ba|apply Bd)|(simp<;>omega)|omega))⟩
theorem fH (x y:aX) (cs dE:List Value) (w:World) (h:aM bM w x.c cs) (h':aM bM w y.c dE) :
 Calls Tryz.prog 66 #[.agg cs.toArray,.agg dE.toArray] w fun e w'=>e = .returned (.bool (eA x y))∧Below w w w':=by
 obtain rfl:=aX.open h;obtain rfl:=aX.open h';clear h h';obtain ⟨xr,xs⟩:=x;obtain ⟨yr,ys⟩:=y;have hid:eA ⟨xr,xs⟩ ⟨yr,ys⟩=decide (xr<yr∨xr=yr∧xs<ys):=rfl;have HI:=Hi hid;clear hid;simp only [];by_cases h1:xr<yr
 ·have HR:=Hi (show eA ⟨xr,xs⟩ ⟨yr,ys⟩=true by rw [HI.o];simp [h1]);go_enter Tryz.func66,Tryz.ntmps66;go_wp2;go_ret;exact ⟨au (by rw [HR.o];rfl),(by repeat' (first|with_reducible (first|exact Br|exact BW.o|apply Bs|apply Ba|apply Bd)|(simp<;>omega)|omega))⟩
 ·by_cases h2:xr=yr
  ·subst h2;have HR:=Hi (show eA ⟨xr,xs⟩ ⟨xr,ys⟩=decide (xs<ys) by rw [HI.o];simp);clear h1;go_enter Tryz.func66,Tryz.ntmps66;go_wp2;go_ret;exact ⟨au (by rw [HR.o];rfl),(by repeat' (first|with_reducible (first|exact Br|exact BW.o|apply Bs|apply Ba|apply Bd)|(simp<;>omega)|omega))⟩
  ·have HR:=Hi (show eA ⟨xr,xs⟩ ⟨yr,ys⟩=false by rw [HI.o];simp;omega);have h3:(xr == yr)=false:=by simpa using h2
   clear h2;go_enter Tryz.func66,Tryz.ntmps66;go_wp2;go_ret;exact ⟨au (by rw [HR.o];rfl),(by repeat' (first|with_reducible (first|exact Br|exact BW.o|apply Bs|apply Ba|apply Bd)|(simp<;>omega)|omega))⟩
theorem qU (xs:List aX) (A:Option Addr) (n c:Nat) (w:World) (hn:n=xs.length) (eC:n+(cat aX.c xs).wt≤1048576) (h:aM bM w (.sl 25 2 n (cat aX.c xs) .nil) [.slice A n c]) :
 Calls Tryz.prog 40 #[.slice A n c] w fun e w'=>e = .returned (.bool (ek xs))∧Below w w w':=by
 have FV:n≤1048576:=by omega
 have HN:=Hi hn;clear hn eC;have HR:=Hi h;clear h;go_enter Tryz.func40,Tryz.ntmps40;go_wp2;go_loopw [3] (fun ii wr=>∃j:Nat,j≤n∧ii = .int .i64 (j:Int)∧mR xs j∧Below w w wr) (fun ii _=>n-(intOf ii).toNat);case atStart=>exact ⟨0,Nat.zero_le _,rfl,su _,Below.refl _ _⟩
 case round=>
  obtain ⟨j,hj,rfl,j9,bE⟩:=hrel;have HG:=Hi j9;clear j9;have BW:=Hi bE;clear bE;by_cases dS:j<n
  ·have fg:j<xs.length:=by have:=HN.o;omega
   obtain ⟨ad,ci,rfl,_,_,bZ,hl,hc⟩:=(HR.o.below BW.o).elem aX.width j fg HN.o;have AM:=fun h=>vP fg h
   have uj:=fun h1 h2=>sx HG.o fg h1 h2
   have px:∀m,(hm:j=m+1)→eA (xs[m]'(by omega)) xs[j]=false→ek xs=false:=fun m hm h=>by subst hm;exact vQ fg h
   have GH:=Hi AM;clear AM;have GI:=Hi uj;clear uj;have GJ:=Hi px;clear px;have HX:=Hi (show xs[j]?=some xs[j] from List.getElem?_eq_getElem fg);generalize xs[j]=x at *;have HL:=Hi hl;clear hl;have HC:=Hi hc;clear hc;have gP:=Hi bZ;clear bZ;cases mS:fK x with
   |false=>
    have HF:=Hi (GH.o mS);have nk:=Hi mS;clear mS;go_wp2;refine ax 23 Jj (by kernel_rfl) (by kernel_rfl) ?_;iterate 3 (refine ae rfl (by kernel_rfl) rfl ?_;go_wp2;refine ⟨rfl,?_⟩)
    refine ae rfl (by kernel_rfl) rfl ?_;go_wp2_with (refine Fn _ (ad.add (j*2)) rfl ci aC HL.o HC.o ?_);refine ⟨rfl,?_⟩;refine aA rfl (by kernel_rfl) ?_;go_wp2_with fail;refine (kN x ci _ gP.o.drew).mono ?_;rintro e v1 ⟨rfl,hb⟩;rw [nk.o];have HB:=Hi hb;clear hb;go_wp2;refine ⟨Ext.aJ HB.o,?_⟩;iterate 2 (refine ae rfl (by kernel_rfl) rfl ?_;go_wp2;refine ⟨rfl,?_⟩)
    (iterate 6 (refine bn rfl rfl (by kernel_rfl) ?_));simp only [fk,ft,fu];(iterate 6 (refine bn rfl rfl (by kernel_rfl) ?_));simp only [fk,ft,fu];(iterate 3 (refine bn rfl rfl (by kernel_rfl) ?_));simp only [fk,ft,fu]
    (refine ae rfl (by kernel_rfl) rfl ?_;go_wp2;refine ⟨rfl,?_⟩)
    refine aO ?_;simp only [eo,ep];go_wp2;go_ret;exact ⟨au (by rw [HF.o];rfl),BW.o.trans ((aW HB.o).mono BW.o.size)⟩
   |true=>
    have nk:=Hi mS;clear mS;cases j with
    |zero=>
     go_wp2;refine ax 23 Jj (by kernel_rfl) (by kernel_rfl) ?_;iterate 3 (refine ae rfl (by kernel_rfl) rfl ?_;go_wp2;refine ⟨rfl,?_⟩)
     refine ae rfl (by kernel_rfl) rfl ?_;go_wp2_with (refine Fn _ (ad.add (0*2)) rfl ci aC HL.o HC.o ?_);refine ⟨rfl,?_⟩;refine aA rfl (by kernel_rfl) ?_;go_wp2_with fail;refine (kN x ci _ gP.o.drew).mono ?_;rintro e v1 ⟨rfl,hb⟩;rw [nk.o];have HB:=Hi hb;clear hb;go_wp2;refine ⟨Ext.aJ HB.o,?_⟩;iterate 5 (refine ae rfl (by kernel_rfl) rfl ?_;go_wp2;refine ⟨rfl,?_⟩)
     (iterate 6 (refine bn rfl rfl (by kernel_rfl) ?_));simp only [fk,ft,fu];(iterate 5 (refine bn rfl rfl (by kernel_rfl) ?_));simp only [fk,ft,fu]
     iterate 2 (refine ae rfl (by kernel_rfl) rfl ?_;go_wp2;refine ⟨rfl,?_⟩)
     refine aO ?_;simp only [eo,ep];go_wp2;exact ⟨⟨1,by omega,by go_num,GI.o nk.o (fun _ h=>absurd rfl h),BW.o.trans ((aW HB.o).mono BW.o.size)⟩,by simp only [intOf];omega⟩
    |succ m=>
     have KN:m<xs.length:=by omega
     obtain ⟨rQ,cp,he,_,_,bZ,hl,hc⟩:=(HR.o.below BW.o).elem aX.width m KN HN.o;injection he with he;subst he;have px:=GJ.o m rfl;have HY:=Hi (show xs[m]?=some xs[m] from List.getElem?_eq_getElem KN);generalize xs[m]=y at *;have N4:=Hi hl;clear hl;have uI:=Hi hc;clear hc;have Ea:=Hi bZ;clear bZ;have qE:=Hi px;clear px;cases fE:eA y x with
     |false=>
      have HF:=Hi (qE.o fE);have rG:=Hi fE;clear fE;go_wp2;refine ax 23 Jj (by kernel_rfl) (by kernel_rfl) ?_;iterate 3 (refine ae rfl (by kernel_rfl) rfl ?_;go_wp2;refine ⟨rfl,?_⟩)
      refine ae rfl (by kernel_rfl) rfl ?_;go_wp2_with (refine Fn _ (ad.add ((m+1)*2)) rfl ci aC HL.o HC.o ?_);refine ⟨rfl,?_⟩;refine aA rfl (by kernel_rfl) ?_;go_wp2_with fail;refine (kN x ci _ gP.o.drew).mono ?_;rintro e v1 ⟨rfl,hb⟩;rw [nk.o];have HB:=Hi hb;clear hb;have JE:=Hi (db HC.o (aW HB.o));have EZ:=Hi (db uI.o (aW HB.o));go_wp2;refine ⟨Ext.aJ HB.o,?_⟩;iterate 9 (refine ae rfl (by kernel_rfl) rfl ?_;go_wp2;refine ⟨rfl,?_⟩)
      refine ae rfl (by kernel_rfl) rfl ?_;go_wp2_with (refine an _ rfl (ad.add (m*2)) rfl cp aC N4.o EZ.o ?_);refine ⟨rfl,?_⟩;iterate 3 (refine ae rfl (by kernel_rfl) rfl ?_;go_wp2;refine ⟨rfl,?_⟩)
      refine ae rfl (by kernel_rfl) rfl ?_;go_wp2_with (refine an _ rfl (ad.add ((m+1)*2)) rfl ci aC HL.o JE.o ?_);refine ⟨rfl,?_⟩;refine aA rfl (by kernel_rfl) ?_;go_wp2_with fail;refine (fH y x cp ci _ (Ea.o.below (aW HB.o)) (gP.o.below (aW HB.o))).mono ?_;rintro e v2 ⟨rfl,hb⟩;rw [rG.o];have qV:=Hi hb;clear hb;go_wp2;refine ⟨Ext.aJ qV.o,?_⟩;iterate 3 (refine ae rfl (by kernel_rfl) rfl ?_;go_wp2;refine ⟨rfl,?_⟩)
      refine aO ?_;simp only [eo,ep];go_wp2;go_ret;exact ⟨au (by rw [HF.o];rfl),(BW.o.trans ((aW HB.o).mono BW.o.size)).trans (qV.o.mono (Nt BW.o.size HB.o.size))⟩
     |true=>
      have rG:=Hi fE;clear fE;go_wp2;refine ax 23 Jj (by kernel_rfl) (by kernel_rfl) ?_;iterate 3 (refine ae rfl (by kernel_rfl) rfl ?_;go_wp2;refine ⟨rfl,?_⟩)
      refine ae rfl (by kernel_rfl) rfl ?_;go_wp2_with (refine Fn _ (ad.add ((m+1)*2)) rfl ci aC HL.o HC.o ?_);refine ⟨rfl,?_⟩;refine aA rfl (by kernel_rfl) ?_;go_wp2_with fail;refine (kN x ci _ gP.o.drew).mono ?_;rintro e v1 ⟨rfl,hb⟩;rw [nk.o];have HB:=Hi hb;clear hb;have JE:=Hi (db HC.o (aW HB.o));have EZ:=Hi (db uI.o (aW HB.o));go_wp2;refine ⟨Ext.aJ HB.o,?_⟩;iterate 9 (refine ae rfl (by kernel_rfl) rfl ?_;go_wp2;refine ⟨rfl,?_⟩)
      refine ae rfl (by kernel_rfl) rfl ?_;go_wp2_with (refine an _ rfl (ad.add (m*2)) rfl cp aC N4.o EZ.o ?_);refine ⟨rfl,?_⟩;iterate 3 (refine ae rfl (by kernel_rfl) rfl ?_;go_wp2;refine ⟨rfl,?_⟩)
      refine ae rfl (by kernel_rfl) rfl ?_;go_wp2_with (refine an _ rfl (ad.add ((m+1)*2)) rfl ci aC HL.o JE.o ?_);refine ⟨rfl,?_⟩;refine aA rfl (by kernel_rfl) ?_;go_wp2_with fail;refine (fH y x cp ci _ (Ea.o.below (aW HB.o)) (gP.o.below (aW HB.o))).mono ?_;rintro e v2 ⟨rfl,hb⟩;rw [rG.o];have qV:=Hi hb;clear hb;go_wp2;refine ⟨Ext.aJ qV.o,?_⟩;iterate 3 (refine ae rfl (by kernel_rfl) rfl ?_;go_wp2;refine ⟨rfl,?_⟩)
      refine aO ?_;simp only [eo,ep];go_wp2;exact ⟨⟨m+1+1,by omega,by go_num,GI.o nk.o (fun z _ hz=>by rw [Nat.add_sub_cancel,HY.o] at hz;injection hz with hz;subst hz;exact rG.o),(BW.o.trans ((aW HB.o).mono BW.o.size)).trans (qV.o.mono (Nt BW.o.size HB.o.size))⟩,by simp only [intOf];omega⟩
  ·have iQ:j=n:=by omega
   subst iQ;have HF:=Hi (vO (by have:=HG.o;rw [HN.o] at this;exact this));go_wp2;go_ret;exact ⟨au (by rw [HF.o];rfl),BW.o⟩
theorem py (x y:aX) (cs dE:List Value) (w:World) (h:aM bM w x.c cs) (h':aM bM w y.c dE) :
 Calls Tryz.prog 102 #[.agg cs.toArray,.agg dE.toArray] w fun e w'=>e = .returned (.int .i64 (lC x y))∧Below w w w':=by
 obtain rfl:=aX.open h;obtain rfl:=aX.open h';clear h h';obtain ⟨xr,xs⟩:=x;obtain ⟨yr,ys⟩:=y;have hid:eA ⟨xr,xs⟩ ⟨yr,ys⟩=decide (xr<yr∨xr=yr∧xs<ys):=rfl;have HI:=Hi hid;clear hid;simp only [];by_cases h1:xr<yr
 ·have HR:=Hi (show lC ⟨xr,xs⟩ ⟨yr,ys⟩ = -1 by rw [lC,if_pos (by rw [HI.o];simp [h1])]);go_enter Tryz.func102,Tryz.ntmps102;go_wp2;go_ret;exact ⟨au (by rw [HR.o];rfl),(by repeat' (first|with_reducible (first|exact Br|exact BW.o|apply Bs|apply Ba|apply Bd)|(simp<;>omega)|omega))⟩
 ·by_cases h2:xr=yr
  ·subst h2;clear h1;by_cases h3:xs<ys
   ·have HR:=Hi (show lC ⟨xr,xs⟩ ⟨xr,ys⟩ = -1 by rw [lC,if_pos (by rw [HI.o];simp [h3])]);go_enter Tryz.func102,Tryz.ntmps102;go_wp2;go_ret;exact ⟨au (by rw [HR.o];rfl),(by repeat' (first|with_reducible (first|exact Br|exact BW.o|apply Bs|apply Ba|apply Bd)|(simp<;>omega)|omega))⟩
   ·by_cases h4:xs=ys
    ·subst h4;have HR:=Hi (show lC ⟨xr,xs⟩ ⟨xr,xs⟩=0 by rw [lC,if_neg (by rw [HI.o];simp),if_pos rfl]);clear h3;go_enter Tryz.func102,Tryz.ntmps102;go_wp2;go_ret;exact ⟨au (by rw [HR.o];rfl),(by repeat' (first|with_reducible (first|exact Br|exact BW.o|apply Bs|apply Ba|apply Bd)|(simp<;>omega)|omega))⟩
    ·have HR:=Hi (show lC ⟨xr,xs⟩ ⟨xr,ys⟩=1 by rw [lC,if_neg (by rw [HI.o];simp;omega),if_neg (by simp [h4])]);have h5:(xs == ys)=false:=by simpa using h4
     clear h4;go_enter Tryz.func102,Tryz.ntmps102;go_wp2;go_ret;exact ⟨au (by rw [HR.o];rfl),(by repeat' (first|with_reducible (first|exact Br|exact BW.o|apply Bs|apply Ba|apply Bd)|(simp<;>omega)|omega))⟩
  ·have HR:=Hi (show lC ⟨xr,xs⟩ ⟨yr,ys⟩=1 by rw [lC,if_neg (by rw [HI.o];simp;omega),if_neg (by simp [h2])]);have h3:(xr == yr)=false:=by simpa using h2
   clear h2;go_enter Tryz.func102,Tryz.ntmps102;go_wp2;go_ret;exact ⟨au (by rw [HR.o];rfl),(by repeat' (first|with_reducible (first|exact Br|exact BW.o|apply Bs|apply Ba|apply Bd)|(simp<;>omega)|omega))⟩
theorem E0 {a b:aX} (h:eA a b=true):lC a b = -1:=by rw [lC,if_pos h]
theorem GK {a b:aX} (h:eA a b=false):0≤lC a b:=by
 rw [lC,if_neg (by simp [h])];split<;>omega
theorem CK (xs:List aX) (A:Option Addr) (n c:Nat) (w:World) (hn:n=xs.length) (eC:n+(cat aX.c xs).wt≤1048576) (h:aM bM w (.sl 25 2 n (cat aX.c xs) .nil) [.slice A n c]) :
 Calls Tryz.prog 85 #[.slice A n c] w fun e w'=>e = .returned (.bool (ek xs))∧Below w w w':=by
 have FV:n≤1048576:=by omega
 have HN:=Hi hn;clear hn eC;have HR:=Hi h;clear h;go_enter Tryz.func85,Tryz.ntmps85;go_wp2;go_loopw [7] (fun ii wr=>∃j:Nat,j≤n∧ii = .int .i64 (j:Int)∧mR xs j∧Below w w wr) (fun ii _=>n-(intOf ii).toNat);case atStart=>exact ⟨0,Nat.zero_le _,rfl,su _,Below.refl _ _⟩
 case round=>
  obtain ⟨j,hj,rfl,j9,bE⟩:=hrel;have HG:=Hi j9;clear j9;have BW:=Hi bE;clear bE;by_cases dS:j<n
  ·have fg:j<xs.length:=by have:=HN.o;omega
   obtain ⟨ad,ci,rfl,_,_,bZ,hl,hc⟩:=(HR.o.below BW.o).elem aX.width j fg HN.o;have AM:=fun h=>vP fg h
   have uj:=fun h1 h2=>sx HG.o fg h1 h2
   have px:∀m,(hm:j=m+1)→eA (xs[m]'(by omega)) xs[j]=false→ek xs=false:=fun m hm h=>by subst hm;exact vQ fg h
   have GH:=Hi AM;clear AM;have GI:=Hi uj;clear uj;have GJ:=Hi px;clear px;generalize xs[j]=x at *;have HL:=Hi hl;clear hl;have HC:=Hi hc;clear hc;have gP:=Hi bZ;clear bZ;go_wp2_with (first|((with_reducible apply Gl 25);refine Fn _ (ad.add (j*2)) rfl ci aC HL.o HC.o ?_)|((with_reducible apply Gs 25);refine Fr _ (World.heap wr).size 25 0 ci [] [cO,cO] [] _ rfl rfl (HL.o ▸ aC) (bH wr _ _) rfl rfl HL.o.symm gP.o.one ?_;intro v0 aD pX)|fail);have hb:Below (World.heap wr).size wr v0:=Below.grown (Below.alloc Br Nr _) pX (by simp) (fun k hk=>by injection hk with hk;omega);have Mh:bf v0 (World.heap wr).size 25 ci.toArray:=by simpa using aD
   have XB:=Hi Mh;clear aD Mh pX;have B0:=Hi (BW.o.trans (hb.mono BW.o.size));have E1:=Hi (gP.o.below hb);have V2:=Hi hb;clear hb;cases mS:fK x with
   |false=>
    have HF:=Hi (GH.o mS);have nk:=Hi mS;clear mS;refine ax 17 Ji (by kernel_rfl) (by kernel_rfl) ?_;refine ae rfl (by kernel_rfl) rfl ?_;go_wp2_with (refine Fn _ ⟨wr,0,none⟩ rfl ci aC HL.o (ag XB.o.drew) ?_);refine ⟨rfl,?_⟩;refine aA rfl (by kernel_rfl) ?_;go_wp2_with fail;refine (pw x ci _ E1.o.drew).mono ?_;rintro e v1 ⟨rfl,hb⟩;rw [nk.o];have HB:=Hi hb;clear hb;go_wp2;refine ⟨Ext.aJ HB.o,?_⟩;iterate 2 (refine ae rfl (by kernel_rfl) rfl ?_;go_wp2;refine ⟨rfl,?_⟩)
    (iterate 6 (refine bn rfl rfl (by kernel_rfl) ?_));simp only [fk,ft,fu];(iterate 6 (refine bn rfl rfl (by kernel_rfl) ?_));simp only [fk,ft,fu]
    (refine ae rfl (by kernel_rfl) rfl ?_;go_wp2;refine ⟨rfl,?_⟩)
    refine aO ?_;simp only [eo,ep];go_wp2;go_ret;exact ⟨au (by rw [HF.o];rfl),B0.o.trans ((aW HB.o).mono B0.o.size)⟩
   |true=>
    have nk:=Hi mS;clear mS;cases j with
    |zero=>
     refine ax 17 Ji (by kernel_rfl) (by kernel_rfl) ?_;refine ae rfl (by kernel_rfl) rfl ?_;go_wp2_with (refine Fn _ ⟨wr,0,none⟩ rfl ci aC HL.o (ag XB.o.drew) ?_);refine ⟨rfl,?_⟩;refine aA rfl (by kernel_rfl) ?_;go_wp2_with fail;refine (pw x ci _ E1.o.drew).mono ?_;rintro e v1 ⟨rfl,hb⟩;rw [nk.o];have HB:=Hi hb;clear hb;go_wp2;refine ⟨Ext.aJ HB.o,?_⟩;iterate 5 (refine ae rfl (by kernel_rfl) rfl ?_;go_wp2;refine ⟨rfl,?_⟩)
     (iterate 6 (refine bn rfl rfl (by kernel_rfl) ?_));simp only [fk,ft,fu];(iterate 2 (refine bn rfl rfl (by kernel_rfl) ?_));simp only [fk,ft,fu]
     iterate 2 (refine ae rfl (by kernel_rfl) rfl ?_;go_wp2;refine ⟨rfl,?_⟩)
     refine aO ?_;simp only [eo,ep];go_wp2;exact ⟨⟨1,by omega,by go_num,GI.o nk.o (fun _ h=>absurd rfl h),B0.o.trans ((aW HB.o).mono B0.o.size)⟩,by simp only [intOf];omega⟩
    |succ m=>
     have KN:m<xs.length:=by omega
     obtain ⟨rQ,cp,he,_,_,bZ,hl,hc⟩:=(HR.o.below BW.o).elem aX.width m KN HN.o;injection he with he;subst he;have px:=GJ.o m rfl;have HY:=Hi (show xs[m]?=some xs[m] from List.getElem?_eq_getElem KN);generalize xs[m]=y at *;have N4:=Hi hl;clear hl;have uI:=Hi (db hc V2.o);clear hc;have Ea:=Hi (bZ.below V2.o);clear bZ;have qE:=Hi px;clear px;cases fE:eA y x with
     |false=>
      have HF:=Hi (qE.o fE);have hq:=GK fE;clear fE;refine ax 17 Ji (by kernel_rfl) (by kernel_rfl) ?_;refine ae rfl (by kernel_rfl) rfl ?_;go_wp2_with (refine Fn _ ⟨wr,0,none⟩ rfl ci aC HL.o (ag XB.o.drew) ?_);refine ⟨rfl,?_⟩;refine aA rfl (by kernel_rfl) ?_;go_wp2_with fail;refine (pw x ci _ E1.o.drew).mono ?_;rintro e v1 ⟨rfl,hb⟩;rw [nk.o];have HB:=Hi hb;clear hb;have EZ:=Hi (db uI.o (aW HB.o));have Tk:=Hi (XB.o.below (aW HB.o));go_wp2;refine ⟨Ext.aJ HB.o,?_⟩;iterate 9 (refine ae rfl (by kernel_rfl) rfl ?_;go_wp2;refine ⟨rfl,?_⟩)
      refine ae rfl (by kernel_rfl) rfl ?_;go_wp2_with (refine an _ rfl (ad.add (m*2)) rfl cp aC N4.o EZ.o ?_);refine ⟨rfl,?_⟩;refine ae rfl (by kernel_rfl) rfl ?_;go_wp2_with (refine an _ rfl ⟨wr,0,none⟩ rfl ci aC HL.o (ag Tk.o) ?_);refine ⟨rfl,?_⟩;refine aA rfl (by kernel_rfl) ?_;go_wp2_with fail;refine (py y x cp ci _ (Ea.o.below (aW HB.o)) (E1.o.below (aW HB.o))).mono ?_;rintro e v2 ⟨rfl,hb⟩;have qV:=Hi hb;clear hb;generalize lC y x=q at *;go_wp2;refine ⟨Ext.aJ qV.o,?_⟩;iterate 3 (refine ae rfl (by kernel_rfl) rfl ?_;go_wp2;refine ⟨rfl,?_⟩)
      refine aO ?_;simp only [eo,ep];go_wp2;go_ret;exact ⟨au (by rw [HF.o];rfl),(B0.o.trans ((aW HB.o).mono B0.o.size)).trans (qV.o.mono (Nt B0.o.size HB.o.size))⟩
     |true=>
      have rG:=Hi fE;have HQ:=Hi (E0 fE);clear fE;refine ax 17 Ji (by kernel_rfl) (by kernel_rfl) ?_;refine ae rfl (by kernel_rfl) rfl ?_;go_wp2_with (refine Fn _ ⟨wr,0,none⟩ rfl ci aC HL.o (ag XB.o.drew) ?_);refine ⟨rfl,?_⟩;refine aA rfl (by kernel_rfl) ?_;go_wp2_with fail;refine (pw x ci _ E1.o.drew).mono ?_;rintro e v1 ⟨rfl,hb⟩;rw [nk.o];have HB:=Hi hb;clear hb;have EZ:=Hi (db uI.o (aW HB.o));have Tk:=Hi (XB.o.below (aW HB.o));go_wp2;refine ⟨Ext.aJ HB.o,?_⟩;iterate 9 (refine ae rfl (by kernel_rfl) rfl ?_;go_wp2;refine ⟨rfl,?_⟩)
      refine ae rfl (by kernel_rfl) rfl ?_;go_wp2_with (refine an _ rfl (ad.add (m*2)) rfl cp aC N4.o EZ.o ?_);refine ⟨rfl,?_⟩;refine ae rfl (by kernel_rfl) rfl ?_;go_wp2_with (refine an _ rfl ⟨wr,0,none⟩ rfl ci aC HL.o (ag Tk.o) ?_);refine ⟨rfl,?_⟩;refine aA rfl (by kernel_rfl) ?_;go_wp2_with fail;refine (py y x cp ci _ (Ea.o.below (aW HB.o)) (E1.o.below (aW HB.o))).mono ?_;rintro e v2 ⟨rfl,hb⟩;rw [HQ.o];have qV:=Hi hb;clear hb;go_wp2;refine ⟨Ext.aJ qV.o,?_⟩;iterate 3 (refine ae rfl (by kernel_rfl) rfl ?_;go_wp2;refine ⟨rfl,?_⟩)
      refine aO ?_;simp only [eo,ep];go_wp2;exact ⟨⟨m+1+1,by omega,by go_num,GI.o nk.o (fun z _ hz=>by rw [Nat.add_sub_cancel,HY.o] at hz;injection hz with hz;subst hz;exact rG.o),(B0.o.trans ((aW HB.o).mono B0.o.size)).trans (qV.o.mono (Nt B0.o.size HB.o.size))⟩,by simp only [intOf];omega⟩
  ·have iQ:j=n:=by omega
   subst iQ;have HF:=Hi (vO (by have:=HG.o;rw [HN.o] at this;exact this));go_wp2;go_ret;exact ⟨au (by rw [HF.o];rfl),BW.o⟩
attribute [irreducible] ek
def Aah (xs:List aX) (x:aX):Bool:=xs.contains x
def Yy (xs:List aX) (x:aX):Int:=if Aah xs x=true then ((xs.findIdx (· == x):Nat):Int) else -1
theorem AN {xs:List aX} {j:Nat} (hj:j<xs.length):Aah xs xs[j]=true:=by simp [Aah]
theorem Eb {xs:List aX} {x:aX} (h:∀i (hi:i<xs.length),¬xs[i]=x):Aah xs x=false:=by
 simp only [Aah,Bool.eq_false_iff,ne_eq,List.contains_iff_mem];intro hm;obtain ⟨i,hi,rfl⟩:=getElem_of_mem hm;exact h i hi rfl
theorem tB (xs:List aX) (x:aX) (A:Option Addr) (n c:Nat) (cs:List Value) (w:World) (hn:n=xs.length) (eC:n≤1048576) (h:aM bM w (.sl 25 2 n (cat aX.c xs) .nil) [.slice A n c]) (h':aM bM w x.c cs) :
 Calls Tryz.prog 41 #[.slice A n c,.agg cs.toArray] w fun e w'=>(e = .returned (.bool (Aah xs x)))∧Below w w w':=by
 have HN:=Hi hn;clear hn;have HR:=Hi h;clear h;obtain rfl:=aX.open h';clear h';obtain ⟨R,hR⟩:∃R,R=Aah xs x:=⟨_,rfl⟩;rw [←hR];have iR:=@Eb xs x;rw [←hR] at iR;have qE:=Hi iR;clear iR;have xI:∀j (hj:j<xs.length),xs[j]=x→R=true:=fun j hj h=>by rw [hR,←h];exact AN hj
 have FY:=Hi xI;clear xI hR;obtain ⟨xr,eL⟩:=x;simp only [] at qE FY ⊢;go_enter Tryz.func41,Tryz.ntmps41;go_wp2;have SB:=Hi (show bf (w.alloc (.cells #[xr,eL] 25)) w 25 #[xr,eL] from bH _ _ _);go_loopw [5] (fun ii wr=>∃j:Nat,j≤n∧ii = .int .i64 (j:Int)∧(∀i (hi:i<xs.length),i<j→¬xs[i]=⟨xr,eL⟩)∧bf wr w 25 #[xr,eL]∧Below w w wr) (fun ii _=>n-(intOf ii).toNat);case atStart=>exact ⟨0,Nat.zero_le _,rfl,fun i hi h=>absurd h (Nat.not_lt_zero _),SB.o,(by repeat' (first|with_reducible (first|exact Br|exact BW.o|apply Bs|apply Ba|apply Bd)|(simp<;>omega)|omega))⟩
 case round=>
  obtain ⟨j,hj,rfl,dX,aD,bE⟩:=hrel;clear SB;have SB:=Hi aD;clear aD;have HA:=Hi dX;clear dX;have BW:=Hi bE;clear bE;by_cases dS:j<n
  ·have fg:j<xs.length:=by have:=HN.o;omega
   obtain ⟨ad,ci,rfl,_,_,bZ,hl,hc⟩:=(HR.o.below BW.o).elem aX.width j fg HN.o;obtain rfl:=aX.open bZ;have xI:=FY.o j fg;have dk:¬xs[j]=⟨xr,eL⟩→∀i (hi:i<xs.length),i<j+1→¬xs[i]=⟨xr,eL⟩:=fun dO i hi y4=>by
    by_cases he:i=j
    ·subst he;exact dO
    ·exact HA.o i hi (by omega)
   have kM:=Hi dk;have N5:=Hi xI;clear dk xI bZ hl;generalize xs[j]=y at *;obtain ⟨yr,ys⟩:=y;have HC:=Hi hc;clear hc;by_cases heq:(⟨yr,ys⟩:aX)=⟨xr,eL⟩
   ·have Ph:=N5.o heq;injection heq with e1 e2;subst e1 e2;have vR:=Hi Ph;clear Ph;go_wp2;refine ax 5 NS (by kernel_rfl) (by kernel_rfl) ?_;iterate 3 (refine ae rfl (by kernel_rfl) rfl ?_;go_wp2;refine ⟨rfl,?_⟩)
    refine ae rfl (by kernel_rfl) rfl ?_;go_wp2_with (refine Fn _ (ad.add (j*2)) rfl [.int .i64 _,.int .i64 _] aC rfl HC.o ?_);refine ⟨rfl,?_⟩;refine ae rfl (by kernel_rfl) rfl ?_;go_wp2_with (refine Fn _ ⟨w,0,none⟩ rfl [.int .i64 _,.int .i64 _] aC rfl (ag SB.o) ?_);refine ⟨rfl,?_⟩;refine aO ?_;simp only [eo,ep];go_wp2;go_ret;exact ⟨au (by rw [vR.o];rfl),BW.o.drew⟩
   ·have hS:=kM.o heq;have HS:=Hi hS;clear hS;by_cases e1:yr=xr
    ·subst e1;have e2:(ys == eL)=false:=by simp only [beq_eq_false_iff_ne];intro h;exact heq (by rw [h])
     have e3:(eL == ys)=false:=by simp only [beq_eq_false_iff_ne];intro h;exact heq (by rw [h])
     clear heq;go_wp2;refine ax 5 NS (by kernel_rfl) (by kernel_rfl) ?_;iterate 3 (refine ae rfl (by kernel_rfl) rfl ?_;go_wp2;refine ⟨rfl,?_⟩)
     refine ae rfl (by kernel_rfl) rfl ?_;go_wp2_with (refine Fn _ (ad.add (j*2)) rfl [.int .i64 _,.int .i64 _] aC rfl HC.o ?_);refine ⟨rfl,?_⟩;refine ae rfl (by kernel_rfl) rfl ?_;go_wp2_with (refine Fn _ ⟨w,0,none⟩ rfl [.int .i64 _,.int .i64 _] aC rfl (ag SB.o) ?_);refine ⟨rfl,?_⟩;refine aO ?_;simp only [eo,ep];go_wp2;exact ⟨⟨j+1,by omega,by go_num,HS.o,SB.o.drew,BW.o.drew⟩,by simp only [intOf];omega⟩
    ·have e2:(yr == xr)=false:=by simp only [beq_eq_false_iff_ne];exact e1
     have e3:(xr == yr)=false:=by simp only [beq_eq_false_iff_ne];exact fun h=>e1 h.symm
     clear heq e1;go_wp2;refine ax 5 NS (by kernel_rfl) (by kernel_rfl) ?_;iterate 3 (refine ae rfl (by kernel_rfl) rfl ?_;go_wp2;refine ⟨rfl,?_⟩)
     refine ae rfl (by kernel_rfl) rfl ?_;go_wp2_with (refine Fn _ (ad.add (j*2)) rfl [.int .i64 _,.int .i64 _] aC rfl HC.o ?_);refine ⟨rfl,?_⟩;refine ae rfl (by kernel_rfl) rfl ?_;go_wp2_with (refine Fn _ ⟨w,0,none⟩ rfl [.int .i64 _,.int .i64 _] aC rfl (ag SB.o) ?_);refine ⟨rfl,?_⟩;refine aO ?_;simp only [eo,ep];go_wp2;exact ⟨⟨j+1,by omega,by go_num,HS.o,SB.o.drew,BW.o.drew⟩,by simp only [intOf];omega⟩
  ·have iQ:j=n:=by omega
   subst iQ;have HF:=Hi (qE.o (fun i hi=>HA.o i hi (by have:=HN.o;omega)));go_wp2;go_ret;exact ⟨au (by rw [HF.o];rfl),BW.o⟩
theorem AO (xs:List aX) (x:aX) (A:Option Addr) (n c:Nat) (cs:List Value) (w:World) (hn:n=xs.length) (eC:n≤1048576) (h:aM bM w (.sl 25 2 n (cat aX.c xs) .nil) [.slice A n c]) (h':aM bM w x.c cs) :
 Calls Tryz.prog 103 #[.slice A n c,.agg cs.toArray] w fun e w'=>(∃q:Int,e = .returned (.int .i64 q)∧decide (q ≥ 0)=Aah xs x∧(0≤q↔Aah xs x=true))∧Below w w w':=by
 have HN:=Hi hn;clear hn;have HR:=Hi h;clear h;obtain rfl:=aX.open h';clear h';obtain ⟨R,hR⟩:∃R,R=Aah xs x:=⟨_,rfl⟩;rw [←hR];have iR:=@Eb xs x;rw [←hR] at iR;have qE:=Hi iR;clear iR;have xI:∀j (hj:j<xs.length),xs[j]=x→R=true:=fun j hj h=>by rw [hR,←h];exact AN hj
 have FY:=Hi xI;clear xI hR;obtain ⟨xr,eL⟩:=x;simp only [] at qE FY ⊢;go_enter Tryz.func103,Tryz.ntmps103;go_wp2;have SB:=Hi (show bf (w.alloc (.cells #[xr,eL] 25)) w 25 #[xr,eL] from bH _ _ _);go_loopw [8] (fun ii wr=>∃j:Nat,j≤n∧ii = .int .i64 (j:Int)∧(∀i (hi:i<xs.length),i<j→¬xs[i]=⟨xr,eL⟩)∧bf wr w 25 #[xr,eL]∧Below w w wr) (fun ii _=>n-(intOf ii).toNat);case atStart=>exact ⟨0,Nat.zero_le _,rfl,fun i hi h=>absurd h (Nat.not_lt_zero _),SB.o,(by repeat' (first|with_reducible (first|exact Br|exact BW.o|apply Bs|apply Ba|apply Bd)|(simp<;>omega)|omega))⟩
 case round=>
  obtain ⟨j,hj,rfl,dX,aD,bE⟩:=hrel;clear SB;have SB:=Hi aD;clear aD;have HA:=Hi dX;clear dX;have BW:=Hi bE;clear bE;by_cases dS:j<n
  ·have fg:j<xs.length:=by have:=HN.o;omega
   obtain ⟨ad,ci,rfl,_,_,bZ,hl,hc⟩:=(HR.o.below BW.o).elem aX.width j fg HN.o;obtain rfl:=aX.open bZ;have xI:=FY.o j fg;have dk:¬xs[j]=⟨xr,eL⟩→∀i (hi:i<xs.length),i<j+1→¬xs[i]=⟨xr,eL⟩:=fun dO i hi y4=>by
    by_cases he:i=j
    ·subst he;exact dO
    ·exact HA.o i hi (by omega)
   have kM:=Hi dk;have N5:=Hi xI;clear dk xI bZ hl;generalize xs[j]=y at *;obtain ⟨yr,ys⟩:=y;have HC:=Hi hc;clear hc;by_cases heq:(⟨yr,ys⟩:aX)=⟨xr,eL⟩
   ·have Ph:=N5.o heq;injection heq with e1 e2;subst e1 e2;have vR:=Hi Ph;clear Ph;go_wp2;refine ax 5 NS (by kernel_rfl) (by kernel_rfl) ?_;refine ae rfl (by kernel_rfl) rfl ?_;go_wp2_with (refine Fn _ ⟨w,0,none⟩ rfl [.int .i64 _,.int .i64 _] aC rfl (ag SB.o) ?_);refine ⟨rfl,?_⟩;iterate 3 (refine ae rfl (by kernel_rfl) rfl ?_;go_wp2;refine ⟨rfl,?_⟩)
    refine ae rfl (by kernel_rfl) rfl ?_;go_wp2_with (refine Fn _ (ad.add (j*2)) rfl [.int .i64 _,.int .i64 _] aC rfl HC.o ?_);refine ⟨rfl,?_⟩;refine aO ?_;simp only [eo,ep];go_wp2;go_ret;exact ⟨⟨_,rfl,by rw [vR.o];simp,by rw [vR.o];simp⟩,BW.o.drew⟩
   ·have hS:=kM.o heq;have HS:=Hi hS;clear hS;by_cases e1:yr=xr
    ·subst e1;have e2:(ys == eL)=false:=by simp only [beq_eq_false_iff_ne];intro h;exact heq (by rw [h])
     have e3:(eL == ys)=false:=by simp only [beq_eq_false_iff_ne];intro h;exact heq (by rw [h])
     clear heq;go_wp2;refine ax 5 NS (by kernel_rfl) (by kernel_rfl) ?_;refine ae rfl (by kernel_rfl) rfl ?_;go_wp2_with (refine Fn _ ⟨w,0,none⟩ rfl [.int .i64 _,.int .i64 _] aC rfl (ag SB.o) ?_);refine ⟨rfl,?_⟩;iterate 3 (refine ae rfl (by kernel_rfl) rfl ?_;go_wp2;refine ⟨rfl,?_⟩)
     refine ae rfl (by kernel_rfl) rfl ?_;go_wp2_with (refine Fn _ (ad.add (j*2)) rfl [.int .i64 _,.int .i64 _] aC rfl HC.o ?_);refine ⟨rfl,?_⟩;refine aO ?_;simp only [eo,ep];go_wp2;exact ⟨⟨j+1,by omega,by go_num,HS.o,SB.o.drew,BW.o.drew⟩,by simp only [intOf];omega⟩
    ·have e2:(yr == xr)=false:=by simp only [beq_eq_false_iff_ne];exact e1
     have e3:(xr == yr)=false:=by simp only [beq_eq_false_iff_ne];exact fun h=>e1 h.symm
     clear heq e1;go_wp2;refine ax 5 NS (by kernel_rfl) (by kernel_rfl) ?_;refine ae rfl (by kernel_rfl) rfl ?_;go_wp2_with (refine Fn _ ⟨w,0,none⟩ rfl [.int .i64 _,.int .i64 _] aC rfl (ag SB.o) ?_);refine ⟨rfl,?_⟩;iterate 3 (refine ae rfl (by kernel_rfl) rfl ?_;go_wp2;refine ⟨rfl,?_⟩)
     refine ae rfl (by kernel_rfl) rfl ?_;go_wp2_with (refine Fn _ (ad.add (j*2)) rfl [.int .i64 _,.int .i64 _] aC rfl HC.o ?_);refine ⟨rfl,?_⟩;refine aO ?_;simp only [eo,ep];go_wp2;exact ⟨⟨j+1,by omega,by go_num,HS.o,SB.o.drew,BW.o.drew⟩,by simp only [intOf];omega⟩
  ·have iQ:j=n:=by omega
   subst iQ;have HF:=Hi (qE.o (fun i hi=>HA.o i hi (by have:=HN.o;omega)));go_wp2;go_ret;exact ⟨⟨_,rfl,by rw [HF.o];simp,by rw [HF.o];simp⟩,BW.o⟩
theorem vS (xs:List aX) (x:aX) (A:Option Addr) (n c:Nat) (cs:List Value) (w:World) (hn:n=xs.length) (eC:n≤1048576) (h:aM bM w (.sl 25 2 n (cat aX.c xs) .nil) [.slice A n c]) (h':aM bM w x.c cs) :
 Calls Tryz.prog 86 #[.slice A n c,.agg cs.toArray] w fun e w'=>e = .returned (.bool (Aah xs x))∧Below w w w':=by
 have hr:=h';obtain rfl:=aX.open h';have H:=Hi h;clear h;have HR:=Hi hr;clear hr h';have HN:=Hi hn;clear hn;go_enter Tryz.func86,Tryz.ntmps86;go_wp2_with fail;refine (AO xs x A n c _ _ HN.o eC (H.o.below (by repeat' (first|with_reducible (first|exact Br|exact BW.o|apply Bs|apply Ba|apply Bd)|(simp<;>omega)|omega))) (HR.o.below (by repeat' (first|with_reducible (first|exact Br|exact BW.o|apply Bs|apply Ba|apply Bd)|(simp<;>omega)|omega)))).mono ?_;rintro e w1 ⟨⟨q,rfl,hq,_⟩,hb⟩;have HQ:=Hi hq;clear hq;have BW:=Hi (show Below w w w1 from Below.trans (by repeat' (first|with_reducible (first|exact Br|exact BW.o|apply Bs|apply Ba|apply Bd)|(simp<;>omega)|omega)) (hb.mono (by first|(simp<;>omega)|omega)));clear hb;go_wp2;go_ret;exact ⟨au (by rw [←HQ.o];rfl),BW.o⟩
theorem uk (xs ys:List aX) (A A':Option Addr) (n n' c c':Nat) (w:World) (hn:n=xs.length) (yc:n'=ys.length) (eC:n≤1048576) (vJ:n'≤1048576) (h:aM bM w (.sl 25 2 n (cat aX.c xs) .nil) [.slice A n c]) (h':aM bM w (.sl 25 2 n' (cat aX.c ys) .nil) [.slice A' n' c']) :
 Calls Tryz.prog 45 #[.slice A n c,.slice A' n' c'] w fun e w'=>e = .returned (.bool (decide (xs=ys)))∧Below w w w':=by
 have HN:=Hi hn;clear hn;have Ec:=Hi yc;clear yc;have H:=Hi h;clear h;have H':=Hi h';clear h';by_cases gM:n=n'
 ·subst gM;go_enter Tryz.func45,Tryz.ntmps45;go_wp2;go_loopw [5] (fun ii wr=>∃j:Nat,j≤n∧ii = .int .i64 (j:Int)∧xs.take j=ys.take j∧Below w w wr) (fun ii _=>n-(intOf ii).toNat);case atStart=>exact ⟨0,Nat.zero_le _,rfl,rfl,Below.refl _ _⟩
  case round=>
   obtain ⟨j,hj,rfl,xY,bE⟩:=hrel;have HT:=Hi xY;clear xY;have BW:=Hi bE;clear bE;by_cases dS:j<n
   ·have fg:j<xs.length:=by have:=HN.o;omega
    have GD:j<ys.length:=by have:=Ec.o;omega
    obtain ⟨ad,ci,rfl,_,_,bZ,hl,hc⟩:=(H.o.below BW.o).elem aX.width j fg HN.o;obtain ⟨rQ,Yz,rfl,_,_,GL,Tl,pc⟩:=(H'.o.below BW.o).elem aX.width j GD Ec.o;obtain rfl:=aX.open bZ;obtain rfl:=aX.open GL;have dk:xs[j]=ys[j]→xs.take (j+1)=ys.take (j+1):=fun he=>by rw [take_succ_eq_append_getElem fg,take_succ_eq_append_getElem GD,HT.o,he]
    have iR:¬xs[j]=ys[j]→decide (xs=ys)=false:=fun he=>by
     simp only [decide_eq_false_iff_not];intro qp;subst qp;exact he rfl
    clear bZ hl GL Tl;have kM:=Hi dk;clear dk;have qE:=Hi iR;clear iR;generalize xs[j]=x at *;generalize ys[j]=y at *;obtain ⟨xr,eL⟩:=x;obtain ⟨yr,GM⟩:=y;have HC:=Hi hc;clear hc;have Pj:=Hi pc;clear pc;by_cases heq:(⟨xr,eL⟩:aX)=⟨yr,GM⟩
    ·have HS:=Hi (kM.o heq);injection heq with e1 e2;subst e1 e2;go_wp2;refine ax 8 OP (by kernel_rfl) (by kernel_rfl) ?_;iterate 3 (refine ae rfl (by kernel_rfl) rfl ?_;go_wp2;refine ⟨rfl,?_⟩)
     refine ae rfl (by kernel_rfl) rfl ?_;go_wp2_with (refine Fn _ (ad.add (j*2)) rfl [.int .i64 _,.int .i64 _] aC rfl HC.o ?_);refine ⟨rfl,?_⟩;iterate 3 (refine ae rfl (by kernel_rfl) rfl ?_;go_wp2;refine ⟨rfl,?_⟩)
     refine ae rfl (by kernel_rfl) rfl ?_;go_wp2_with (refine Fn _ (rQ.add (j*2)) rfl [.int .i64 _,.int .i64 _] aC rfl Pj.o ?_);refine ⟨rfl,?_⟩;refine aO ?_;simp only [eo,ep];go_wp2;exact ⟨⟨j+1,by omega,by go_num,HS.o,BW.o.drew⟩,by simp only [intOf];omega⟩
    ·have HS:=Hi (qE.o heq);have dO:(xr == yr && eL == GM)=false:=by
      cases h1:xr == yr<;>cases h2:eL == GM
      all_goals first|rfl|(exfalso;apply heq;rw [show xr=yr by simpa using h1,show eL=GM by simpa using h2])
     have Tm:¬(xr=yr∧eL=GM):=fun h=>heq (by rw [h.1,h.2])
     clear heq;go_wp2;refine ax 8 OP (by kernel_rfl) (by kernel_rfl) ?_;iterate 3 (refine ae rfl (by kernel_rfl) rfl ?_;go_wp2;refine ⟨rfl,?_⟩)
     refine ae rfl (by kernel_rfl) rfl ?_;go_wp2_with (refine Fn _ (ad.add (j*2)) rfl [.int .i64 _,.int .i64 _] aC rfl HC.o ?_);refine ⟨rfl,?_⟩;iterate 3 (refine ae rfl (by kernel_rfl) rfl ?_;go_wp2;refine ⟨rfl,?_⟩)
     refine ae rfl (by kernel_rfl) rfl ?_;go_wp2_with (refine Fn _ (rQ.add (j*2)) rfl [.int .i64 _,.int .i64 _] aC rfl Pj.o ?_);refine ⟨rfl,?_⟩;refine aO ?_;simp only [eo,ep];go_wp2;all_goals first
      |(go_ret;exact ⟨au (by rw [HS.o];rfl),BW.o.drew⟩)
      |(exfalso;simp_all;done)
   ·have iQ:j=n:=by omega
    subst iQ;have qp:xs=ys:=by
     have h1:=HT.o
     rwa [take_of_length_le (by have:=HN.o;omega),take_of_length_le (by have:=Ec.o;omega)] at h1
    have HS:=Hi (show decide (xs=ys)=true by simp [qp]);clear qp;go_wp2;go_ret;exact ⟨au (by rw [HS.o];rfl),BW.o⟩
 ·have HS:=Hi (show decide (xs=ys)=false by simp only [decide_eq_false_iff_not];intro h;apply gM;rw [HN.o,Ec.o,h]);go_enter Tryz.func45,Tryz.ntmps45;go_wp2;go_ret;exact ⟨au (by rw [HS.o];rfl),(by repeat' (first|with_reducible (first|exact Br|exact BW.o|apply Bs|apply Ba|apply Bd)|(simp<;>omega)|omega))⟩
theorem AQ (xs ys:List aX) (A A':Option Addr) (n n' c c':Nat) (w:World) (hn:n=xs.length) (yc:n'=ys.length) (eC:n≤1048576) (vJ:n'≤1048576) (h:aM bM w (.sl 25 2 n (cat aX.c xs) .nil) [.slice A n c]) (h':aM bM w (.sl 25 2 n' (cat aX.c ys) .nil) [.slice A' n' c']) :
 Calls Tryz.prog 43 #[.slice A n c,.slice A' n' c'] w fun e w'=>e = .returned (.bool (decide (xs=ys)))∧Below w w w':=by
 have HN:=Hi hn;clear hn;have Ec:=Hi yc;clear yc;have H:=Hi h;clear h;have H':=Hi h';clear h';by_cases gM:n=n'
 ·subst gM;go_enter Tryz.func43,Tryz.ntmps43;go_wp2;go_loopw [13] (fun ii wr=>∃j:Nat,j≤n∧ii = .int .i64 (j:Int)∧xs.take j=ys.take j∧Below w w wr) (fun ii _=>n-(intOf ii).toNat);case atStart=>exact ⟨0,Nat.zero_le _,rfl,rfl,Below.refl _ _⟩
  case round=>
   obtain ⟨j,hj,rfl,xY,bE⟩:=hrel;have HT:=Hi xY;clear xY;have BW:=Hi bE;clear bE;by_cases dS:j<n
   ·have fg:j<xs.length:=by have:=HN.o;omega
    have GD:j<ys.length:=by have:=Ec.o;omega
    obtain ⟨ad,ci,rfl,_,_,bZ,hl,hc⟩:=(H.o.below BW.o).elem aX.width j fg HN.o;obtain ⟨rQ,Yz,rfl,_,_,GL,Tl,pc⟩:=(H'.o.below BW.o).elem aX.width j GD Ec.o;obtain rfl:=aX.open bZ;obtain rfl:=aX.open GL;have dk:xs[j]=ys[j]→xs.take (j+1)=ys.take (j+1):=fun he=>by rw [take_succ_eq_append_getElem fg,take_succ_eq_append_getElem GD,HT.o,he]
    have iR:¬xs[j]=ys[j]→decide (xs=ys)=false:=fun he=>by
     simp only [decide_eq_false_iff_not];intro qp;subst qp;exact he rfl
    clear bZ hl GL Tl;have kM:=Hi dk;clear dk;have qE:=Hi iR;clear iR;generalize xs[j]=x at *;generalize ys[j]=y at *;obtain ⟨xr,eL⟩:=x;obtain ⟨yr,GM⟩:=y;have HC:=Hi hc;clear hc;have Pj:=Hi pc;clear pc;by_cases heq:(⟨xr,eL⟩:aX)=⟨yr,GM⟩
    ·have HS:=Hi (kM.o heq);injection heq with e1 e2;subst e1 e2;go_wp2;refine ax 8 OP (by kernel_rfl) (by kernel_rfl) ?_;iterate 3 (refine ae rfl (by kernel_rfl) rfl ?_;go_wp2;refine ⟨rfl,?_⟩)
     refine ae rfl (by kernel_rfl) rfl ?_;go_wp2_with (refine Fn _ (ad.add (j*2)) rfl [.int .i64 _,.int .i64 _] aC rfl HC.o ?_);refine ⟨rfl,?_⟩;iterate 3 (refine ae rfl (by kernel_rfl) rfl ?_;go_wp2;refine ⟨rfl,?_⟩)
     refine ae rfl (by kernel_rfl) rfl ?_;go_wp2_with (refine Fn _ (rQ.add (j*2)) rfl [.int .i64 _,.int .i64 _] aC rfl Pj.o ?_);refine ⟨rfl,?_⟩;refine aO ?_;simp only [eo,ep];go_wp2;exact ⟨⟨j+1,by omega,by go_num,HS.o,BW.o.drew⟩,by simp only [intOf];omega⟩
    ·have HS:=Hi (qE.o heq);have dO:(xr == yr && eL == GM)=false:=by
      cases h1:xr == yr<;>cases h2:eL == GM
      all_goals first|rfl|(exfalso;apply heq;rw [show xr=yr by simpa using h1,show eL=GM by simpa using h2])
     have Tm:¬(xr=yr∧eL=GM):=fun h=>heq (by rw [h.1,h.2])
     clear heq;go_wp2;refine ax 8 OP (by kernel_rfl) (by kernel_rfl) ?_;iterate 3 (refine ae rfl (by kernel_rfl) rfl ?_;go_wp2;refine ⟨rfl,?_⟩)
     refine ae rfl (by kernel_rfl) rfl ?_;go_wp2_with (refine Fn _ (ad.add (j*2)) rfl [.int .i64 _,.int .i64 _] aC rfl HC.o ?_);refine ⟨rfl,?_⟩;iterate 3 (refine ae rfl (by kernel_rfl) rfl ?_;go_wp2;refine ⟨rfl,?_⟩)
     refine ae rfl (by kernel_rfl) rfl ?_;go_wp2_with (refine Fn _ (rQ.add (j*2)) rfl [.int .i64 _,.int .i64 _] aC rfl Pj.o ?_);refine ⟨rfl,?_⟩;refine aO ?_;simp only [eo,ep];go_wp2;all_goals first
      |(go_ret;exact ⟨au (by rw [HS.o];rfl),BW.o.drew⟩)
      |(exfalso;simp_all;done)
   ·have iQ:j=n:=by omega
    subst iQ;have qp:xs=ys:=by
     have h1:=HT.o
     rwa [take_of_length_le (by have:=HN.o;omega),take_of_length_le (by have:=Ec.o;omega)] at h1
    have HS:=Hi (show decide (xs=ys)=true by simp [qp]);clear qp;go_wp2;go_ret;exact ⟨au (by rw [HS.o];rfl),BW.o⟩
 ·have HS:=Hi (show decide (xs=ys)=false by simp only [decide_eq_false_iff_not];intro h;apply gM;rw [HN.o,Ec.o,h]);go_enter Tryz.func43,Tryz.ntmps43;go_wp2;go_ret;exact ⟨au (by rw [HS.o];rfl),(by repeat' (first|with_reducible (first|exact Br|exact BW.o|apply Bs|apply Ba|apply Bd)|(simp<;>omega)|omega))⟩
attribute [irreducible] Aah
end Go.Proofs.YtfgliohpdgnmcaaGreat
