/- Lemmas for the walks of one claim (Same, CmdOk, Clash, Flat, Cpy, CpyC, CpyI, CpyS, CpyIS). Conditions: bounds on sizes, as each names them. -/
import Derived.Test.YtfgliohpdgnmcaaGreatB03
set_option linter.unusedVariables false
set_option linter.unusedSimpArgs false
set_option maxRecDepth 100000
set_option maxHeartbeats 8000000
namespace Go.Proofs.YtfgliohpdgnmcaaGreat
open Go.RowKit
open List (take_of_length_le take_succ_eq_append_getElem getElem_mem append_nil nil_append)
def cC (x y:aR):Bool:=decide (x=y)
theorem sg (x y:aR) (cs dE:List Value) (w:World) (eC:x.c.wt≤1048576) (vJ:y.c.wt≤1048576) (h:aM bM w x.c cs) (h':aM bM w y.c dE) :
 Calls Tryz.prog 42 #[.agg cs.toArray,.agg dE.toArray] w fun e w'=>e = .returned (.bool (cC x y))∧Below w w w':=by
 have qT:x.chunks.length≤1048576:=by have h0:x.c.wt=x.set.length+(x.name.length+(x.tag.length+(x.chunks.length+(cat cN x.chunks).wt+0))):=rfl;omega
 have mA:y.chunks.length≤1048576:=by have h0:y.c.wt=y.set.length+(y.name.length+(y.tag.length+(y.chunks.length+(cat cN y.chunks).wt+0))):=rfl;omega
 obtain ⟨A0,k0,rfl,s0⟩:=aR.open h;obtain ⟨A1,k1,rfl,s1⟩:=aR.open h';obtain ⟨a0,a1,a2,a3,a4,a5,a6,xs⟩:=x;obtain ⟨b0,b1,b2,b3,b4,b5,b6,ys⟩:=y;simp only [] at s0 s1 qT mA ⊢;have S0:=Hi s0.strs;have S1:=Hi s1.strs;clear s0 s1 h h' eC vJ;by_cases h0:a0=b0
 ·subst h0;by_cases h1:a1=b1
  ·subst h1;by_cases h2:a2=b2
   ·subst h2;by_cases h3:a3=b3
    ·subst h3;by_cases h4:a4=b4
     ·subst h4;by_cases h5:a5=b5
      ·subst h5;by_cases h6:a6=b6
       ·subst h6;have HR:=Hi (show cC (⟨a0,a1,a2,a3,a4,a5,a6,xs⟩:aR) (⟨a0,a1,a2,a3,a4,a5,a6,ys⟩:aR)=decide (xs=ys) by simp [cC]);go_enter Tryz.func42,Tryz.ntmps42;go_wp2_with fail;refine (y0 _ _ xs ys _ (by omega) (by omega) (S0.o.below (by repeat' (first|with_reducible (first|exact Br|exact BW.o|apply Bs|apply Ba|apply Bd)|(simp<;>omega)|omega))) (S1.o.below (by repeat' (first|with_reducible (first|exact Br|exact BW.o|apply Bs|apply Ba|apply Bd)|(simp<;>omega)|omega)))).mono ?_;rintro e v1 ⟨rfl,hb⟩;have BW:=Hi (show Below w w v1 from Below.trans (by repeat' (first|with_reducible (first|exact Br|exact BW.o|apply Bs|apply Ba|apply Bd)|(simp<;>omega)|omega)) (hb.mono (by first|(simp<;>omega)|omega)));clear hb;go_wp2;go_ret;exact ⟨au (by rw [HR.o];rfl),BW.o⟩
       ·have HR:=Hi (show cC (⟨a0,a1,a2,a3,a4,a5,a6,xs⟩:aR) (⟨a0,a1,a2,a3,a4,a5,b6,ys⟩:aR)=false by simp [cC,h6]);have mN:(a6 == b6)=false:=by simpa using h6
        clear h6;go_enter Tryz.func42,Tryz.ntmps42;go_wp2;go_ret;exact ⟨au (by rw [HR.o];rfl),(by repeat' (first|with_reducible (first|exact Br|exact BW.o|apply Bs|apply Ba|apply Bd)|(simp<;>omega)|omega))⟩
      ·have HR:=Hi (show cC (⟨a0,a1,a2,a3,a4,a5,a6,xs⟩:aR) (⟨a0,a1,a2,a3,a4,b5,b6,ys⟩:aR)=false by simp [cC,h5]);have jW:(a5 == b5)=false:=by simpa using h5
       clear h5;go_enter Tryz.func42,Tryz.ntmps42;go_wp2;go_ret;exact ⟨au (by rw [HR.o];rfl),(by repeat' (first|with_reducible (first|exact Br|exact BW.o|apply Bs|apply Ba|apply Bd)|(simp<;>omega)|omega))⟩
     ·have HR:=Hi (show cC (⟨a0,a1,a2,a3,a4,a5,a6,xs⟩:aR) (⟨a0,a1,a2,a3,b4,b5,b6,ys⟩:aR)=false by simp [cC,h4]);have gN:(a4 == b4)=false:=by simpa using h4
      clear h4;go_enter Tryz.func42,Tryz.ntmps42;go_wp2;go_ret;exact ⟨au (by rw [HR.o];rfl),(by repeat' (first|with_reducible (first|exact Br|exact BW.o|apply Bs|apply Ba|apply Bd)|(simp<;>omega)|omega))⟩
    ·have HR:=Hi (show cC (⟨a0,a1,a2,a3,a4,a5,a6,xs⟩:aR) (⟨a0,a1,a2,b3,b4,b5,b6,ys⟩:aR)=false by simp [cC,h3]);have fh:(a3 == b3)=false:=by simpa using h3
     clear h3;go_enter Tryz.func42,Tryz.ntmps42;go_wp2;go_ret;exact ⟨au (by rw [HR.o];rfl),(by repeat' (first|with_reducible (first|exact Br|exact BW.o|apply Bs|apply Ba|apply Bd)|(simp<;>omega)|omega))⟩
   ·have HR:=Hi (show cC (⟨a0,a1,a2,a3,a4,a5,a6,xs⟩:aR) (⟨a0,a1,b2,b3,b4,b5,b6,ys⟩:aR)=false by simp [cC,h2]);have cz:(a2 == b2)=false:=by simpa using h2
    clear h2;go_enter Tryz.func42,Tryz.ntmps42;go_wp2;go_ret;exact ⟨au (by rw [HR.o];rfl),(by repeat' (first|with_reducible (first|exact Br|exact BW.o|apply Bs|apply Ba|apply Bd)|(simp<;>omega)|omega))⟩
  ·have HR:=Hi (show cC (⟨a0,a1,a2,a3,a4,a5,a6,xs⟩:aR) (⟨a0,b1,b2,b3,b4,b5,b6,ys⟩:aR)=false by simp [cC,h1]);have cW:(a1 == b1)=false:=by simpa using h1
   clear h1;go_enter Tryz.func42,Tryz.ntmps42;go_wp2;go_ret;exact ⟨au (by rw [HR.o];rfl),(by repeat' (first|with_reducible (first|exact Br|exact BW.o|apply Bs|apply Ba|apply Bd)|(simp<;>omega)|omega))⟩
 ·have HR:=Hi (show cC (⟨a0,a1,a2,a3,a4,a5,a6,xs⟩:aR) (⟨b0,b1,b2,b3,b4,b5,b6,ys⟩:aR)=false by simp [cC,h0]);have gB:(a0 == b0)=false:=by simpa using h0
  clear h0;go_enter Tryz.func42,Tryz.ntmps42;go_wp2;go_ret;exact ⟨au (by rw [HR.o];rfl),(by repeat' (first|with_reducible (first|exact Br|exact BW.o|apply Bs|apply Ba|apply Bd)|(simp<;>omega)|omega))⟩
theorem si (x y:aR) (cs dE:List Value) (w:World) (eC:x.c.wt≤1048576) (vJ:y.c.wt≤1048576) (h:aM bM w x.c cs) (h':aM bM w y.c dE) :
 Calls Tryz.prog 44 #[.agg cs.toArray,.agg dE.toArray] w fun e w'=>e = .returned (.bool (cC x y))∧Below w w w':=by
 have qT:x.chunks.length≤1048576:=by have h0:x.c.wt=x.set.length+(x.name.length+(x.tag.length+(x.chunks.length+(cat cN x.chunks).wt+0))):=rfl;omega
 have mA:y.chunks.length≤1048576:=by have h0:y.c.wt=y.set.length+(y.name.length+(y.tag.length+(y.chunks.length+(cat cN y.chunks).wt+0))):=rfl;omega
 obtain ⟨A0,k0,rfl,s0⟩:=aR.open h;obtain ⟨A1,k1,rfl,s1⟩:=aR.open h';obtain ⟨a0,a1,a2,a3,a4,a5,a6,xs⟩:=x;obtain ⟨b0,b1,b2,b3,b4,b5,b6,ys⟩:=y;simp only [] at s0 s1 qT mA ⊢;have S0:=Hi s0.strs;have S1:=Hi s1.strs;clear s0 s1 h h' eC vJ;by_cases h0:a0=b0
 ·subst h0;by_cases h1:a1=b1
  ·subst h1;by_cases h2:a2=b2
   ·subst h2;by_cases h3:a3=b3
    ·subst h3;by_cases h4:a4=b4
     ·subst h4;by_cases h5:a5=b5
      ·subst h5;by_cases h6:a6=b6
       ·subst h6;have HR:=Hi (show cC (⟨a0,a1,a2,a3,a4,a5,a6,xs⟩:aR) (⟨a0,a1,a2,a3,a4,a5,a6,ys⟩:aR)=decide (xs=ys) by simp [cC]);go_enter Tryz.func44,Tryz.ntmps44;go_wp2_with fail;refine (AH _ _ xs ys _ (by omega) (by omega) (S0.o.below (by repeat' (first|with_reducible (first|exact Br|exact BW.o|apply Bs|apply Ba|apply Bd)|(simp<;>omega)|omega))) (S1.o.below (by repeat' (first|with_reducible (first|exact Br|exact BW.o|apply Bs|apply Ba|apply Bd)|(simp<;>omega)|omega)))).mono ?_;rintro e v1 ⟨rfl,hb⟩;have BW:=Hi (show Below w w v1 from Below.trans (by repeat' (first|with_reducible (first|exact Br|exact BW.o|apply Bs|apply Ba|apply Bd)|(simp<;>omega)|omega)) (hb.mono (by first|(simp<;>omega)|omega)));clear hb;go_wp2;go_ret;exact ⟨au (by rw [HR.o];rfl),BW.o⟩
       ·have HR:=Hi (show cC (⟨a0,a1,a2,a3,a4,a5,a6,xs⟩:aR) (⟨a0,a1,a2,a3,a4,a5,b6,ys⟩:aR)=false by simp [cC,h6]);have mN:(a6 == b6)=false:=by simpa using h6
        clear h6;go_enter Tryz.func44,Tryz.ntmps44;go_wp2;go_ret;exact ⟨au (by rw [HR.o];rfl),(by repeat' (first|with_reducible (first|exact Br|exact BW.o|apply Bs|apply Ba|apply Bd)|(simp<;>omega)|omega))⟩
      ·have HR:=Hi (show cC (⟨a0,a1,a2,a3,a4,a5,a6,xs⟩:aR) (⟨a0,a1,a2,a3,a4,b5,b6,ys⟩:aR)=false by simp [cC,h5]);have jW:(a5 == b5)=false:=by simpa using h5
       clear h5;go_enter Tryz.func44,Tryz.ntmps44;go_wp2;go_ret;exact ⟨au (by rw [HR.o];rfl),(by repeat' (first|with_reducible (first|exact Br|exact BW.o|apply Bs|apply Ba|apply Bd)|(simp<;>omega)|omega))⟩
     ·have HR:=Hi (show cC (⟨a0,a1,a2,a3,a4,a5,a6,xs⟩:aR) (⟨a0,a1,a2,a3,b4,b5,b6,ys⟩:aR)=false by simp [cC,h4]);have gN:(a4 == b4)=false:=by simpa using h4
      clear h4;go_enter Tryz.func44,Tryz.ntmps44;go_wp2;go_ret;exact ⟨au (by rw [HR.o];rfl),(by repeat' (first|with_reducible (first|exact Br|exact BW.o|apply Bs|apply Ba|apply Bd)|(simp<;>omega)|omega))⟩
    ·have HR:=Hi (show cC (⟨a0,a1,a2,a3,a4,a5,a6,xs⟩:aR) (⟨a0,a1,a2,b3,b4,b5,b6,ys⟩:aR)=false by simp [cC,h3]);have fh:(a3 == b3)=false:=by simpa using h3
     clear h3;go_enter Tryz.func44,Tryz.ntmps44;go_wp2;go_ret;exact ⟨au (by rw [HR.o];rfl),(by repeat' (first|with_reducible (first|exact Br|exact BW.o|apply Bs|apply Ba|apply Bd)|(simp<;>omega)|omega))⟩
   ·have HR:=Hi (show cC (⟨a0,a1,a2,a3,a4,a5,a6,xs⟩:aR) (⟨a0,a1,b2,b3,b4,b5,b6,ys⟩:aR)=false by simp [cC,h2]);have cz:(a2 == b2)=false:=by simpa using h2
    clear h2;go_enter Tryz.func44,Tryz.ntmps44;go_wp2;go_ret;exact ⟨au (by rw [HR.o];rfl),(by repeat' (first|with_reducible (first|exact Br|exact BW.o|apply Bs|apply Ba|apply Bd)|(simp<;>omega)|omega))⟩
  ·have HR:=Hi (show cC (⟨a0,a1,a2,a3,a4,a5,a6,xs⟩:aR) (⟨a0,b1,b2,b3,b4,b5,b6,ys⟩:aR)=false by simp [cC,h1]);have cW:(a1 == b1)=false:=by simpa using h1
   clear h1;go_enter Tryz.func44,Tryz.ntmps44;go_wp2;go_ret;exact ⟨au (by rw [HR.o];rfl),(by repeat' (first|with_reducible (first|exact Br|exact BW.o|apply Bs|apply Ba|apply Bd)|(simp<;>omega)|omega))⟩
 ·have HR:=Hi (show cC (⟨a0,a1,a2,a3,a4,a5,a6,xs⟩:aR) (⟨b0,b1,b2,b3,b4,b5,b6,ys⟩:aR)=false by simp [cC,h0]);have gB:(a0 == b0)=false:=by simpa using h0
  clear h0;go_enter Tryz.func44,Tryz.ntmps44;go_wp2;go_ret;exact ⟨au (by rw [HR.o];rfl),(by repeat' (first|with_reducible (first|exact Br|exact BW.o|apply Bs|apply Ba|apply Bd)|(simp<;>omega)|omega))⟩
attribute [irreducible] cC
def iy (xs:List (List UInt8)):Bool:=xs.all fun s=>decide (s.length=8)
def bG:aR:=⟨0,0,0,[],[],[],0,[]⟩
def dQ (c:aR):Bool:=
 if (c.kind == 0)=true then cC c bG else
 gD 1 7 c.kind && (gD 1 9 c.aE && (gD 1 1000 c.no && (fP c.set (c.kind != 7) && (fP c.name (c.kind == 3 || c.kind == 4) && (fP c.tag (c.kind == 4) &&
  ((c.n == 0 || (c.kind == 5 && gD 0 9 c.n)) && (if (c.kind == 3)=true then gD 1 4 (c.chunks.length:Int) && iy c.chunks else ((c.chunks.length:Int) == 0))))))))
theorem Tj {k:Int} (h:(k == 0)=false):gD 0 7 k=gD 1 7 k:=by
 simp only [beq_eq_false_iff_ne] at h;simp only [gD,decide_eq_decide];omega
theorem sk {xs:List (List UInt8)} {j:Nat} (h:iy (xs.take j)=true) (hj:j<xs.length) (hb:xs[j].length=8):iy (xs.take (j+1))=true:=by
 unfold iy at *;rw [take_succ_eq_append_getElem hj,List.all_append,h,Bool.true_and];simp [hb]
theorem vK {xs:List (List UInt8)} {j:Nat} (hj:j<xs.length) (hb:¬xs[j].length=8):iy xs=false:=by
 unfold iy;rw [List.all_eq_false];exact ⟨xs[j],getElem_mem hj,by simpa using hb⟩
theorem AJ (w:World):aM bM w bG.c zC:=aR.shut (x:=bG) aM.fy
theorem xG (xs:List (List UInt8)) (v:Value) (w:World) (hn:xs.length≤1048576) (hr:eD w 1 v xs.length (xs.map iK)) :
 Calls Tryz.prog 84 #[v] w fun e w'=>e = .returned (.bool (iy xs))∧w=w':=by
 obtain ⟨A,c,rfl,hR⟩:=hr;obtain ⟨n,gM⟩:∃n,n=xs.length:=⟨_,rfl⟩;rw [←gM] at hn hR ⊢;have HN:=Hi gM;clear gM;have HR:=Hi hR;clear hR;go_enter Tryz.func84,Tryz.ntmps84;go_wp2
 go_loop [7] (fun ii=>∃j:Nat,j≤n∧ii = .int .i64 (j:Int)∧iy (xs.take j)=true) (fun ii=>n-(intOf ii).toNat)
 case atStart=>exact ⟨0,Nat.zero_le _,rfl,rfl⟩
 case round=>
  obtain ⟨j,hj,rfl,dX⟩:=hrel;have HA:=Hi dX;clear dX;by_cases dS:j<n
  ·have fg:j<xs.length:=by have:=HN.o;omega
   obtain ⟨ad,rfl,gu⟩:=HR.o.2 (by omega);have hc:=gu j (iK xs[j]) (by rw [List.getElem?_map,List.getElem?_eq_getElem fg];rfl);have iL:w.cell? (ad.add j)=some (.string (bs xs[j])):=hc;have dk:=fun h=>sk HA.o fg h
   have iR:=fun h=>vK (xs:=xs) fg h
   clear hc gu;generalize xs[j]=x at *;have kM:=Hi dk;clear dk;have qE:=Hi iR;clear iR;by_cases h8:x.length=8
   ·have HS:=Hi (kM.o h8);have hb:((x.length:Int) == 8)=true:=by simp only [beq_iff_eq];omega
    clear h8;go_wp2;exact ⟨⟨j+1,by omega,by go_num,HS.o⟩,by simp only [intOf];omega⟩
   ·have HS:=Hi (qE.o h8);have hb:((x.length:Int) == 8)=false:=by simp only [beq_eq_false_iff_ne];omega
    clear h8;go_wp2;go_ret;exact ⟨au (by rw [HS.o];rfl),rfl⟩
  ·have iQ:j=n:=by omega
   subst iQ;have HS:=Hi (show iy xs=true by have:=HA.o;rwa [take_of_length_le (by have:=HN.o;omega)] at this);go_wp2;go_ret;exact ⟨au (by rw [HS.o];rfl),rfl⟩
theorem vL (x:aR) (cs:List Value) (w:World) (eC:x.c.wt≤1048576) (h:aM bM w x.c cs) :
 Calls Tryz.prog 59 #[.agg cs.toArray] w fun e w'=>e = .returned (.bool (dQ x))∧Below w w w':=by
 have lp:x.c.wt=x.set.length+(x.name.length+(x.tag.length+(x.chunks.length+(cat cN x.chunks).wt+0))):=rfl;have iM:=Hi h;obtain ⟨A0,k0,rfl,s0⟩:=aR.open h;obtain ⟨kind,aE,no,set,name,tag,n,chunks⟩:=x;simp only [] at s0 lp ⊢;have e1:set.length≤1048576:=by omega
 have e2:name.length≤1048576:=by omega
 have e3:tag.length≤1048576:=by omega
 have e4:chunks.length≤1048576:=by omega
 have og:=Hi eC;clear eC lp h;have S0:=Hi s0;clear s0;obtain ⟨R,hR⟩:∃R,R=dQ ⟨kind,aE,no,set,name,tag,n,chunks⟩:=⟨_,rfl⟩;rw [←hR];rw [dQ] at hR;simp only [] at hR;have HR:=Hi hR;clear hR;cases ni:kind == 0
 case true=>
  obtain rfl:kind=0:=by simpa using ni
  have HK:=Hi (show (0:Int)≤0∧(0:Int)≤7 by omega);go_enter Tryz.func59,Tryz.ntmps59;go_wp2_with fail;refine (sg ⟨0,aE,no,set,name,tag,n,chunks⟩ bG _ _ _ og.o (by decide) (iM.o.below (by repeat' (first|with_reducible (first|exact Br|exact BW.o|apply Bs|apply Ba|apply Bd)|(simp<;>omega)|omega))) (AJ _)).mono ?_;rintro e w1 ⟨rfl,hb⟩;have BW:=Hi (show Below w w w1 from Below.trans (by repeat' (first|with_reducible (first|exact Br|exact BW.o|apply Bs|apply Ba|apply Bd)|(simp<;>omega)|omega)) (hb.mono (by first|(simp<;>omega)|omega)));clear hb;go_wp2;go_ret;exact ⟨au (by rw [HR.o];rfl),BW.o⟩
 case false=>
  go_enter Tryz.func59,Tryz.ntmps59;repeat' (go_wp2_with fail;any_goals (first|(refine (fo _ _ _ _).mono ?_;rintro e w' ⟨rfl,rfl⟩;cases hb:gD _ _ _)|(refine (Cz _ _ _ (by omega)).mono ?_;rintro e w' ⟨rfl,rfl⟩;cases hb:fP _ _)|(refine (xG chunks _ _ (by omega) (S0.o.below (by repeat' (first|with_reducible (first|exact Br|exact BW.o|apply Bs|apply Ba|apply Bd)|(simp<;>omega)|omega))).strs).mono ?_;rintro e w' ⟨rfl,rfl⟩;cases hb:iy _)))
  all_goals (go_wp2;go_ret;refine ⟨au ?_,(by repeat' (first|with_reducible (first|exact Br|exact BW.o|apply Bs|apply Ba|apply Bd)|(simp<;>omega)|omega))⟩;rw [HR.o];clear HR iM og S0;first|(simp [*];done)|(subst_vars;simp [*];done)|(simp_all;done)|(rw [show fP name (kind == 3 || kind == 4)=true from ‹_›];simp [*];done))
theorem kr (x:aR) (cs:List Value) (w:World) (eC:x.c.wt≤1048576) (h:aM bM w x.c cs) :
 Calls Tryz.prog 39 #[.agg cs.toArray] w fun e w'=>e = .returned (.bool (dQ x))∧Below w w w':=by
 have lp:x.c.wt=x.set.length+(x.name.length+(x.tag.length+(x.chunks.length+(cat cN x.chunks).wt+0))):=rfl;have iM:=Hi h;obtain ⟨A0,k0,rfl,s0⟩:=aR.open h;obtain ⟨kind,aE,no,set,name,tag,n,chunks⟩:=x;simp only [] at s0 lp ⊢;have e1:set.length≤1048576:=by omega
 have e2:name.length≤1048576:=by omega
 have e3:tag.length≤1048576:=by omega
 have e4:chunks.length≤1048576:=by omega
 have og:=Hi eC;clear eC lp h;have S0:=Hi s0;clear s0;obtain ⟨R,hR⟩:∃R,R=dQ ⟨kind,aE,no,set,name,tag,n,chunks⟩:=⟨_,rfl⟩;rw [←hR];rw [dQ] at hR;simp only [] at hR;have HR:=Hi hR;clear hR;cases ni:kind == 0
 case true=>
  obtain rfl:kind=0:=by simpa using ni
  have HK:=Hi (show (0:Int)≤0∧(0:Int)≤7 by omega);go_enter Tryz.func39,Tryz.ntmps39;go_wp2_with fail;refine (rS _ _ _ _ HK.o).mono ?_;rintro e w' ⟨rfl,rfl⟩;go_wp2_with fail;refine (si ⟨0,aE,no,set,name,tag,n,chunks⟩ bG _ _ _ og.o (by decide) (iM.o.below (by repeat' (first|with_reducible (first|exact Br|exact BW.o|apply Bs|apply Ba|apply Bd)|(simp<;>omega)|omega))) (AJ _)).mono ?_;rintro e w1 ⟨rfl,hb⟩;have BW:=Hi (show Below w w w1 from Below.trans (by repeat' (first|with_reducible (first|exact Br|exact BW.o|apply Bs|apply Ba|apply Bd)|(simp<;>omega)|omega)) (hb.mono (by first|(simp<;>omega)|omega)));clear hb;go_wp2;go_ret;exact ⟨au (by rw [HR.o];rfl),BW.o⟩
 case false=>
  have HI:=Hi (Tj ni);go_enter Tryz.func39,Tryz.ntmps39;repeat' (go_wp2_with fail;any_goals (first|(refine (ew _ _ _ _).mono ?_;rintro e w' ⟨rfl,rfl⟩;(try rw [HI.o]);cases hb:gD _ _ _)|(refine (EY _ _ _ (by omega)).mono ?_;rintro e w' ⟨rfl,rfl⟩;cases hb:fP _ _)))
  all_goals try (go_wp2;go_ret;refine ⟨au ?_,(by repeat' (first|with_reducible (first|exact Br|exact BW.o|apply Bs|apply Ba|apply Bd)|(simp<;>omega)|omega))⟩;rw [HR.o];clear HR iM og S0;first|(simp [*];done)|(subst_vars;simp [*];done)|(simp_all;done)|(rw [show fP name (kind == 3 || kind == 4)=true from ‹_›];simp [*];done))
  all_goals
   obtain rfl:kind=3:=by assumption
   obtain rfl:n=0:=by assumption
   have gP:=Hi (show R=iy chunks by rw [HR.o];simp_all);clear HR;have SL:=(S0.o.below (show Below w w (w.alloc (.cells #[.int .i64 3,aE,no,set,name,tag,cO,.slice A0 chunks k0] 28)) from (by repeat' (first|with_reducible (first|exact Br|exact BW.o|apply Bs|apply Ba|apply Bd)|(simp<;>omega)|omega)))).strs;obtain ⟨A,c,he,hR⟩:=SL;injection he with lJ _ mB;subst lJ mB;obtain ⟨m,hm⟩:∃m,m=chunks.length:=⟨_,rfl⟩;rw [←hm] at hR e4 ⊢;have HM:=Hi hm;clear hm;have HR:=Hi hR;clear hR;go_wp2
   go_loop [4] (fun ii=>∃j:Nat,j≤m∧ii = .int .i64 (j:Int)∧iy (chunks.take j)=true) (fun ii=>m-(intOf ii).toNat)
   case atStart=>exact ⟨0,Nat.zero_le _,rfl,rfl⟩
   case round=>
    obtain ⟨j,hj,rfl,dX⟩:=hrel;have HA:=Hi dX;clear dX;by_cases dS:j<m
    ·have fg:j<chunks.length:=by have:=HM.o;omega
     obtain ⟨ad,rfl,gu⟩:=HR.o.2 (by omega);have hc:=gu j (iK chunks[j]) (by rw [List.getElem?_map,List.getElem?_eq_getElem fg];rfl);have dk:=fun h=>sk HA.o fg h
     have iR:=fun h=>vK (xs:=chunks) fg h
     clear gu;generalize chunks[j]=x at *;have kM:=Hi dk;clear dk;have qE:=Hi iR;clear iR;have iL:World.cell? _ (ad.add j)=some (.string (bs x)):=hc;clear hc;by_cases h8:x.length=8
     ·have HS:=Hi (kM.o h8);have hb:((x.length:Int) == 8)=true:=by simp only [beq_iff_eq];omega
      clear h8;go_wp2;exact ⟨⟨j+1,by omega,by go_num,HS.o⟩,by simp only [intOf];omega⟩
     ·have HS:=Hi (qE.o h8);have hb:((x.length:Int) == 8)=false:=by simp only [beq_eq_false_iff_ne];omega
      clear h8;go_wp2;go_ret;exact ⟨au (by rw [gP.o,HS.o];rfl),(by repeat' (first|with_reducible (first|exact Br|exact BW.o|apply Bs|apply Ba|apply Bd)|(simp<;>omega)|omega))⟩
    ·have iQ:j=m:=by omega
     subst iQ;have HS:=Hi (show iy chunks=true by have:=HA.o;rwa [take_of_length_le (by have:=HM.o;omega)] at this);go_wp2;go_ret;exact ⟨au (by rw [gP.o,HS.o];rfl),(by repeat' (first|with_reducible (first|exact Br|exact BW.o|apply Bs|apply Ba|apply Bd)|(simp<;>omega)|omega))⟩
def tH (a b:aR):Bool:=dQ a && (dQ b && (!(a.kind == 0) && (!(b.kind == 0) && (a.kind == 7 || (b.kind == 7 || a.set == b.set)))))
theorem wk (x y:aR) (cs dE:List Value) (w:World) (eC:x.c.wt≤1048576) (vJ:y.c.wt≤1048576) (h:aM bM w x.c cs) (h':aM bM w y.c dE) :
 Calls Tryz.prog 92 #[.agg cs.toArray,.agg dE.toArray] w fun e w'=>e = .returned (.bool (tH x y))∧Below w w w':=by
 have HA:=Hi h;have HB:=Hi h';obtain ⟨A0,k0,rfl,_⟩:=aR.open h;obtain ⟨A1,k1,rfl,_⟩:=aR.open h';obtain ⟨a0,a1,a2,a3,a4,a5,a6,a7⟩:=x;obtain ⟨b0,b1,b2,b3,b4,b5,b6,b7⟩:=y;simp only [] at HA HB ⊢;have HW:=Hi eC;have V7:=Hi vJ;clear h h' eC vJ;obtain ⟨R,hR⟩:∃R,R=tH ⟨a0,a1,a2,a3,a4,a5,a6,a7⟩ ⟨b0,b1,b2,b3,b4,b5,b6,b7⟩:=⟨_,rfl⟩;rw [←hR];rw [tH] at hR;simp only [] at hR;have HR:=Hi hR;clear hR;go_enter Tryz.func92,Tryz.ntmps92;go_wp2_with fail;refine (kr ⟨a0,a1,a2,a3,a4,a5,a6,a7⟩ _ _ HW.o (HA.o.below (by repeat' (first|with_reducible (first|exact Br|exact BW.o|apply Bs|apply Ba|apply Bd)|(simp<;>omega)|omega)))).mono ?_;rintro e v1 ⟨rfl,hb⟩;have SB:=Hi (bf.below (pq _ _ _ _) hb);have TB:=Hi (bf.below (pr _ _ _ _) hb);have BW:=Hi (show Below w w v1 from Below.trans (by repeat' (first|with_reducible (first|exact Br|exact BW.o|apply Bs|apply Ba|apply Bd)|(simp<;>omega)|omega)) (hb.mono (by first|(simp<;>omega)|omega)));clear hb;cases hx:dQ ⟨a0,a1,a2,a3,a4,a5,a6,a7⟩
 case false=>
  go_wp2;go_ret;exact ⟨au (by rw [HR.o,hx];rfl),BW.o⟩
 case true=>
  go_wp2_with (refine an _ (by first|rfl|kernel_rfl) ⟨w+1,0,none⟩ rfl [b0,b1,b2,b3,b4,b5,b6,.slice A1 b7 k1] aN rfl (ag TB.o) ?_);refine (kr ⟨b0,b1,b2,b3,b4,b5,b6,b7⟩ _ _ V7.o (HB.o.below BW.o)).mono ?_;rintro e v2 ⟨rfl,hb⟩;have V9:=Hi (SB.o.below hb);clear SB;have SB:=Hi V9.o;clear V9;have Wa:=Hi (TB.o.below hb);clear TB;have TB:=Hi Wa.o;clear Wa;have Wb:=Hi (Bt BW.o hb);clear BW;have BW:=Hi Wb.o;clear Wb hb;have y1:=ah SB.o 0 rfl;have ht0:=ah TB.o 0 rfl;have tq:=ah SB.o 1 rfl;have ht1:=ah TB.o 1 rfl;have mK:=ah SB.o 2 rfl;have ht2:=ah TB.o 2 rfl;have DV:=ah SB.o 3 rfl;have ht3:=ah TB.o 3 rfl;have DX:=ah SB.o 4 rfl;have ht4:=ah TB.o 4 rfl;have DY:=ah SB.o 5 rfl;have ht5:=ah TB.o 5 rfl;have FX:=ah SB.o 6 rfl;have ht6:=ah TB.o 6 rfl;have Ca:=ah SB.o 7 rfl;have ht7:=ah TB.o 7 rfl;cases hy:dQ ⟨b0,b1,b2,b3,b4,b5,b6,b7⟩
  all_goals go_wp2
  all_goals (go_ret;exact ⟨au (congrArg Value.bool (by rw [HR.o,hx,hy];clear HR HA HB HW V7 SB TB BW;rw [Bool.eq_iff_iff];first|(simp [*];done)|(simp [*,or_assoc];done)|(simp_all;done))),BW.o⟩)
attribute [irreducible] tH
def Cs.flat:Cs→Bool
 |.nil=>true
 |.int _ r=>r.flat
 |.bool _ r=>r.flat
 |.str _ r=>r.flat
 |.sl _ _ _ _ _=>false
theorem Cs.sI {b:Cs}:∀{a:Cs},a.flat=true→b.flat=true→(a.app b).flat=true
 |.nil,_,h=>h
 |.int _ r,h,k=>Cs.sI (a:=r) h k
 |.bool _ r,h,k=>Cs.sI (a:=r) h k
 |.str _ r,h,k=>Cs.sI (a:=r) h k
 |.sl _ _ _ _ _,h,_=>by cases h
theorem wm {α:Type} {f:α→Cs} (h:∀x,(f x).flat=true):∀xs:List α,(cat f xs).flat=true
 |[]=>rfl
 |x::xs=>Cs.sI (h x) (wm h xs)
theorem aM.own {B:Nat→Prop} {w w':World} {base:Nat}:∀{d:Cs} {cs:List Value},d.flat=true→aM B w d cs→Own w' base d cs []
 |.nil,_,_,h=>by simp only [aM] at h;subst h;exact Own.nil.2 ⟨rfl,rfl⟩
 |.int _ r,_,hf,h=>by simp only [aM] at h;obtain ⟨c',rfl,h⟩:=h;exact Own.int.2 ⟨c',rfl,aM.own (d:=r) hf h⟩
 |.bool _ r,_,hf,h=>by simp only [aM] at h;obtain ⟨c',rfl,h⟩:=h;exact Own.bool.2 ⟨c',rfl,aM.own (d:=r) hf h⟩
 |.str _ r,_,hf,h=>by simp only [aM] at h;obtain ⟨c',rfl,h⟩:=h;exact Own.str.2 ⟨c',rfl,aM.own (d:=r) hf h⟩
 |.sl _ _ _ _ _,_,hf,_=>by cases hf
theorem aM.row {B:Nat→Prop} {w:World} {e sz n c:Nat} {i:Cs} {A:Option Addr} (h:aM B w (.sl e sz n i .nil) [.slice A n c]):∃cells,Reads w sz A n cells∧aM B w i cells∧i.width=n*sz:=by
 simp only [aM] at h;obtain ⟨A',c',cells,_,he,hw,dO,hL,_⟩:=h;injection he with he _;injection he with e1 e2 e3;subst e1 e3;refine ⟨cells,⟨by rw [hL.length,hw],fun hn=>?_⟩,hL,hw⟩;obtain ⟨ad,rfl,_,_,hc⟩:=dO (by omega);exact ⟨ad,rfl,hc⟩
theorem AY {w:World} {base e sz n m:Nat} {i:Cs} {v:Value} {cells:List Value} (hf:i.flat=true) {B:Nat→Prop} {w':World} (hr:aM B w' i cells) (hw:i.width=n*sz) (h:w.ownsRow base e sz v n cells) (hm:m=n):Own w base (.sl e sz m i .nil) [v] v.ownBlock.toList:=by
 subst hm;exact Own.zW.2 ⟨cells,[],(append_nil _).symm,hw,h,aM.own hf hr⟩
theorem kA (v:Value):v.ownBlock.toList.Nodup:=by cases v.ownBlock<;>simp
theorem E6 (s:List UInt8):(cN s).flat=true:=rfl
theorem aX.flat (x:aX):x.c.flat=true:=rfl
end Go.Proofs.YtfgliohpdgnmcaaGreat
namespace Go.Proofs.YtfgliohpdgnmcaaGreat
open List (take_of_length_le take_succ_eq_append_getElem getElem_mem append_nil nil_append)
open Go.RowKit
open Go.RowKit
end Go.Proofs.YtfgliohpdgnmcaaGreat
namespace Go.Proofs.YtfgliohpdgnmcaaGreat
open Go.RowKit
open List (take_of_length_le take_succ_eq_append_getElem getElem_mem append_nil nil_append)
theorem cF (x:aR) (cs:List Value) (w:World) (eC:x.c.wt≤1048576) (h:aM bM w x.c cs) :
 Calls Tryz.prog 31 #[.agg cs.toArray] w fun e w'=>∃dE,e = .returned (.agg dE.toArray)∧fO w' w x.c dE∧Below w w w':=by
 have lp:x.c.wt=x.set.length+(x.name.length+(x.tag.length+(x.chunks.length+(cat cN x.chunks).wt+0))):=rfl;obtain ⟨A0,k0,rfl,s0⟩:=aR.open h;obtain ⟨a0,a1,a2,a3,a4,a5,a6,a7⟩:=x;simp only [] at s0 lp ⊢;obtain ⟨cells,dH,bZ,E7⟩:=s0.row;have AS:a7.length≤1048576:=by omega
 have nz:=Hi dH;have gP:=Hi bZ;have Tv:=Hi E7;clear h lp eC s0 dH bZ E7;have tI:=World.ownsRow_made (base:=w) (size:=1) (e:=9) ((w.alloc (.cells #[a0,a1,a2,a3,a4,a5,a6,.slice A0 a7 k0] 28)).alloc (.cells #[cO,cO,cO,cE,cE,cE,cO,cL] 28)) #[] 0 (by simp;omega) (by simp [maxLen]) rfl;rw [show (World.heap ((w.alloc (.cells #[a0,a1,a2,a3,a4,a5,a6,.slice A0 a7 k0] 28)).alloc (.cells #[cO,cO,cO,cE,cE,cE,cO,cL] 28))).size=w.heap.size+1+1 by simp] at tI;have A7:=Hi tI;clear tI;go_enter Tryz.func31,Tryz.ntmps31;go_wp2_with (first|(at_builtin;go_must (refine aB xX _ rfl (.tmp 3) (.tmp 5) rfl w _ 0 [] rfl A7.o _ _ _ cells rfl (nz.o.below (show Below w w _ from (by repeat' (first|with_reducible (first|exact Br|exact BW.o|apply Bs|apply Ba|apply Bd)|(simp<;>omega)|omega)))) gP.o.one (by omega) (by simp;omega) ?_;intro vv w2 bg hg xV;have cz:Below w w w2:=Below.grown (show Below w w _ from (by repeat' (first|with_reducible (first|exact Br|exact BW.o|apply Bs|apply Ba|apply Bd)|(simp<;>omega)|omega))) hg (by simp;omega) (fun k hk=>by injection hk with hk;first|omega|(simp at hk;done)|(simp at hk;omega));have fh:w.heap.size+1+1+1≤w2.heap.size:=Nt (by simp) hg.size;have aD:bf w2 w 28 #[a0,a1,a2,a3,a4,a5,a6,.slice A0 a7 k0]:=bf.bL (w:=((w.alloc (.cells #[a0,a1,a2,a3,a4,a5,a6,.slice A0 a7 k0] 28)).alloc (.cells #[cO,cO,cO,cE,cE,cE,cO,cL] 28)).alloc (.cells #[] 9)) (Mf _ _ _ _ _) (hg.block _ (by simp;omega) (fun e=>by injection e with e;first|omega|(simp at e;done)|(simp at e;omega)));have hz:bf w2 (w+1) 28 yC:=bf.bL (w:=((w.alloc (.cells #[a0,a1,a2,a3,a4,a5,a6,.slice A0 a7 k0] 28)).alloc (.cells #[cO,cO,cO,cE,cE,cE,cO,cL] 28)).alloc (.cells #[] 9)) (Mg _ _ _ _ _) (hg.block _ (by simp) (fun e=>by injection e with e;first|omega|(simp at e;done)|(simp at e;omega)));rw [Nat.zero_add,nil_append] at bg;obtain ⟨Av,cv,rfl,_⟩:=eD.bd bg;have F6:w2.cell? ⟨w,7,none⟩=some (.slice A0 a7 k0):=ah aD 7 rfl;have mX:w2.frozen? ⟨w,7,none⟩=false:=aD.frozen 7;have HS:=Hi (show bf (w2.setCell ⟨w,7,none⟩ (.slice Av a7 cv)) w 28 #[a0,a1,a2,a3,a4,a5,a6,.slice Av a7 cv] from cI aD 7 (.slice Av a7 cv));have HZ:=Hi (bf.bK hz (a:=⟨w,7,none⟩) (by simp) (.slice Av a7 cv));have qV:=Hi cz;have o8:=Hi fh;have Tw:=Hi xV;have HO:=Hi bg;clear cz fh aD hz xV bg hg))|((with_reducible apply Gl 28);refine Fn _ ⟨w,0,none⟩ rfl [a0,a1,a2,a3,a4,a5,a6,.slice Av a7 cv] aN rfl (ag HS.o) ?_)|((with_reducible apply Gs 28);refine Fr _ (w+1) 28 0 [a0,a1,a2,a3,a4,a5,a6,.slice Av a7 cv] [] yC [] _ rfl rfl aN HZ.o rfl rfl rfl (Oc rfl) ?_;intro w3 aD pX));have nG:∀b,(Value.slice Av a7 cv).ownBlock=some b→w.heap.size+1<b:=fun b hb=>by
  rcases Tw.o with h|h
  ·have e:some b=some (w.heap.size+1+1):=hb.symm.trans h;injection e with e;omega
  ·have e:=hb.symm.trans h;injection e with e;rw [e];simp
 have cj:w3.ownsRow w 9 1 (.slice Av a7 cv) a7.length cells:=aH HO.o (fun b hb=>by
  have h1:=nG b hb;have h2:=HO.o.lt b hb;refine ⟨by omega,(pX.block b (by simpa [World.setCell] using h2.2) (fun e=>by injection e with e;omega)).trans (Below.heap_setCell _ _ _ _ (fun e=>?_))⟩;have e2:b=w.heap.size:=e;omega);refine bh rfl ⟨w+1,0,none⟩ rfl [a0,a1,a2,a3,a4,a5,a6,.slice Av a7 cv] aN rfl (ag aD) rfl ⟨_,rfl,⟨_,kA _,aR.jM (x:=⟨a0,a1,a2,a3,a4,a5,a6,a7⟩) (AY (wm E6 a7) gP.o Tv.o cj rfl)⟩,?_⟩;exact Below.grown (Below.setCell qV.o Nr _) pX (by rw [aF];exact Nt (Nat.le_add_right _ 3) o8.o) (fun k hk=>by injection hk with hk;omega)
theorem wA (x:ak) (cs:List Value) (w:World) (eC:x.c.wt≤1048576) (h:aM bM w x.c cs) :
 Calls Tryz.prog 93 #[.agg cs.toArray] w fun e w'=>∃dE,e = .returned (.agg dE.toArray)∧fO w' w x.c dE∧Below w w w':=by
 have lp:x.c.wt=(x.cmd.set.length+(x.cmd.name.length+(x.cmd.tag.length+(x.cmd.chunks.length+(cat cN x.cmd.chunks).wt+(x.al.length+(cat aX.c x.al).wt+0))))):=rfl;obtain ⟨A0,k0,A1,k1,rfl,s0,s1⟩:=ak.open h;obtain ⟨⟨a0,a1⟩,a2,a3,a4,⟨c0,c1,c2,c3,c4,c5,c6,c7⟩,a5,a6,a7⟩:=x;simp only [] at s0 s1 lp ⊢;have AS:a6.length≤1048576:=by omega
 have nM:(aR.c ⟨c0,c1,c2,c3,c4,c5,c6,c7⟩).wt≤1048576:=by have e0:(aR.c ⟨c0,c1,c2,c3,c4,c5,c6,c7⟩).wt=c3.length+(c4.length+(c5.length+(c7.length+(cat cN c7).wt+0))):=rfl;omega
 have SC:=Hi (show aM bM w (aR.c ⟨c0,c1,c2,c3,c4,c5,c6,c7⟩) [c0,c1,c2,c3,c4,c5,c6,.slice A0 c7 k0] from aR.shut s0);obtain ⟨cells,dH,bZ,E7⟩:=s1.row;have nz:=Hi dH;have gP:=Hi bZ;have Tv:=Hi E7;clear dH bZ E7 h eC lp s0 s1;go_enter Tryz.func93,Tryz.ntmps93;go_wp2_with fail;refine (cF ⟨c0,c1,c2,c3,c4,c5,c6,c7⟩ _ _ nM (SC.o.below (by repeat' (first|with_reducible (first|exact Br|exact BW.o|apply Bs|apply Ba|apply Bd)|(simp<;>omega)|omega)))).mono ?_;rintro e v1 ⟨dE,rfl,hM,hb⟩;obtain ⟨F1,KS,o1⟩:=hM;obtain ⟨A2,k2,F2,rfl,rfl,so⟩:=aR.j8 o1;simp only [] at so ⊢;have KT:∀b∈F1,w.heap.size+1+1≤b:=fun b cz=>by have:=(so.in b cz).1;simp at this;omega
 have fW:=Hi KT;clear KT;have YV:=Hi KS;clear KS o1;have SO:=Hi so;clear so;have SB:=Hi (bf.below (pq _ _ _ _) hb);have ZB:=Hi (bf.below (pr _ _ _ _) hb);have BW:=Hi (show Below w w v1 from Below.trans (by repeat' (first|with_reducible (first|exact Br|exact BW.o|apply Bs|apply Ba|apply Bd)|(simp<;>omega)|omega)) (hb.mono (by first|(simp<;>omega)|omega)));have HZ:=Hi (show w.heap.size+1+1≤v1.heap.size from Nt (by simp) hb.size);clear hb;go_wp2_with (first|((with_reducible apply Gs 28);refine Fr _ w 106 5 [c0,c1,c2,c3,c4,c5,c6,.slice A2 c7 k2] [a0,a1,a2,a3,a4] [c0,c1,c2,c3,c4,c5,c6,.slice A0 c7 k0] [a5,.slice A1 a6 k1,a7] _ rfl rfl aN SB.o rfl rfl rfl (Oc rfl) ?_;intro v2 aD pX;have RV:=Hi (show bf v2 w 106 #[a0,a1,a2,a3,a4,c0,c1,c2,c3,c4,c5,c6,.slice A2 c7 k2,a5,.slice A1 a6 k1,a7] from aD);have Tx:=Hi (ZB.o.grown pX (by omega));have uo:=Hi (Below.grown BW.o pX BW.o.size (fun k hk=>by injection hk with hk;omega));have yy:=Hi (Nt HZ.o pX.size);have Pt:=Hi (SO.o.mg (base':=w.heap.size) (w':=v2) (fun b cz=>⟨by have:=fW.o b cz;omega,pX.block b (SO.o.in b cz).2 (fun e=>by injection e with e;have:=fW.o b cz;omega)⟩));have A6:World.cell? (v2.alloc (.cells #[] 25)) ⟨w,14,none⟩=some (.slice A1 a6 k1):=ah (RV.o.alloc _) 14 rfl;have A7:=Hi (World.ownsRow_made (base:=v2) (size:=2) (e:=25) v2 #[] 0 Nr (by simp [maxLen]) rfl);clear aD pX)|(at_builtin;go_must (refine aB fp _ rfl (.tmp 7) (.tmp 9) rfl v2 _ 0 [] rfl A7.o _ _ _ cells rfl (nz.o.below (uo.o.alloc uo.o.size _)) gP.o.one (by omega) (by simp) ?_;intro vv v3 bg hg xV;have RX:=bf.bL (RV.o.alloc (.cells #[] 25)) (hg.block _ (RV.o.alloc _).lt (fun e=>by injection e with e;have h3:w.heap.size=v2.heap.size:=e;have:=RV.o.lt;omega));have Wi:=bf.bL (Tx.o.alloc (.cells #[] 25)) (hg.block _ (Tx.o.alloc _).lt (fun e=>by injection e with e;have h3:w.heap.size+1=v2.heap.size:=e;have:=Tx.o.lt;omega));have Wj:=Below.grown (uo.o.alloc uo.o.size (.cells #[] 25)) hg (Nt uo.o.size (by simp)) (fun k hk=>by injection hk with hk;have h3:v2.heap.size=k:=hk;have:=uo.o.size;omega);rw [Nat.zero_add,nil_append] at bg;obtain ⟨A3,k3,rfl,_⟩:=eD.bd bg;have F6:v3.cell? ⟨w,14,none⟩=some (.slice A1 a6 k1):=ah RX 14 rfl;have mX:v3.frozen? ⟨w,14,none⟩=false:=RX.frozen 14;have HS:=Hi (show bf (v3.setCell ⟨w,14,none⟩ (.slice A3 a6 k3)) w 106 #[a0,a1,a2,a3,a4,c0,c1,c2,c3,c4,c5,c6,.slice A2 c7 k2,a5,.slice A3 a6 k3,a7] from cI RX 14 (.slice A3 a6 k3));have YW:=Hi (bf.bK Wi (a:=⟨w,14,none⟩) (by simp) (.slice A3 a6 k3));have YX:=Hi (Below.setCell Wj (p:=⟨w,14,none⟩) Nr (.slice A3 a6 k3));have Wl:=Hi (Pt.o.mg (base':=w.heap.size) (w':=v3) (fun b cz=>⟨by have:=fW.o b cz;omega,(hg.block b (Nat.lt_of_lt_of_le (Pt.o.in b cz).2 (by simp)) (fun e=>by injection e with e;have h3:b=v2.heap.size:=e;have:=(Pt.o.in b cz).2;omega)).trans (Below.heap_alloc _ _ _ (Pt.o.in b cz).2)⟩));have Ty:=Hi (fun b (cz:b∈F1)=>(Pt.o.in b cz).2);have GZ:=Hi (Nt yy.o (Nt (by simp) hg.size));have Tz:=Hi (show Own v3 v2 (sD a6) [.slice A3 a6 k3] _ from AY (wm aX.flat a6) gP.o Tv.o bg rfl);have YY:=Hi (kA (.slice A3 a6 k3));clear bg hg xV RX Wi Wj A6))|((with_reducible apply Gl 106);refine Fn _ ⟨w,0,none⟩ rfl [a0,a1,a2,a3,a4,c0,c1,c2,c3,c4,c5,c6,.slice A2 c7 k2,a5,.slice A3 a6 k3,a7] aw rfl (ag HS.o) ?_)|((with_reducible apply Gs 106);refine Fr _ (w+1) 106 0 [a0,a1,a2,a3,a4,c0,c1,c2,c3,c4,c5,c6,.slice A2 c7 k2,a5,.slice A3 a6 k3,a7] [] yI [] _ rfl rfl aw YW.o rfl rfl rfl (Oc rfl) ?_;intro v9 eJ ei));have lD:∀b,w.heap.size+1+1≤b→b<v3.heap.size→v9.heap[b]?=v3.heap[b]?:=fun b h1 h2=>
  (ei.block b (by rw [aF];exact h2) (fun e=>by injection e with e;omega)).trans (Below.heap_setCell _ _ _ _ (fun e=>by have e2:b=w.heap.size:=e;omega))
 have oa:=Wl.o.mg (base':=w.heap.size) (w':=v9) (fun b cz=>⟨by have:=fW.o b cz;omega,lD b (fW.o b cz) (Wl.o.in b cz).2⟩);have ob:=Tz.o.mg (base':=w.heap.size) (w':=v9) (fun b cz=>by
  have h1:=Tz.o.in b cz;have h2:=yy.o;exact ⟨by omega,lD b (by omega) h1.2⟩);refine bh rfl ⟨w+1,0,none⟩ rfl [a0,a1,a2,a3,a4,c0,c1,c2,c3,c4,c5,c6,.slice A2 c7 k2,a5,.slice A3 a6 k3,a7] aw rfl (ag eJ) rfl ⟨_,rfl,⟨_,EX (m:=v2) YV.o YY.o Ty.o (fun b cz=>(Tz.o.in b cz).1),ak.jM (x:=⟨⟨a0,a1⟩,a2,a3,a4,⟨c0,c1,c2,c3,c4,c5,c6,c7⟩,a5,a6,a7⟩) oa ob⟩,?_⟩;exact Below.grown YX.o ei (by rw [aF];have:=GZ.o;omega) (fun k hk=>by injection hk with hk;omega)
end Go.Proofs.YtfgliohpdgnmcaaGreat
