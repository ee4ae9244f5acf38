/- Commands as text: impl.ShowCmd and spec.ShowCmd. Conditions: a bound on the sizes. -/
import Derived.Test.YtfgliohpdgnmcaaGreatB05
set_option linter.unusedVariables false
set_option linter.unusedSimpArgs false
set_option maxRecDepth 100000
set_option maxHeartbeats 8000000
namespace Go.Proofs.YtfgliohpdgnmcaaGreat
open Go.RowKit
open List (take_of_length_le length_append take_succ_eq_append_getElem take_append_drop flatten_append)
def uh (c:aR):List UInt8:=ba c.kind++(ba c.aE++(ba c.no++(ba c.n++(bF c.set++(bF c.name++(bF c.tag++ba (c.chunks.length:Int)))))))
def bt (c:aR):List UInt8:=if dQ c=true then uh c++c.chunks.flatten else []
theorem yg (xs:List (List UInt8)) (j:Nat) (h:j<xs.length):(xs.take (j+1)).flatten=(xs.take j).flatten++xs[j]:=by
 rw [take_succ_eq_append_getElem h,flatten_append];simp
theorem sn (xs:List (List UInt8)):xs.flatten.length=(cat cN xs).wt:=by rw [DO,List.length_flatten]
theorem sr (xs:List (List UInt8)) (j:Nat):(xs.take j).flatten.length≤xs.flatten.length:=by
 conv=>rhs;rw [←take_append_drop j xs]
 rw [flatten_append,length_append];omega
theorem oh (x:aR) (cs:List Value) (w:World) (eC:x.c.wt≤1048576) (h:aM bM w x.c cs) :
 Calls Tryz.prog 21 #[.agg cs.toArray] w fun e w'=>e = .returned (.string (bs (bt x)))∧Below w w w':=by
 have HA:=Hi h;have lp:x.c.wt=x.set.length+(x.name.length+(x.tag.length+(x.chunks.length+(cat cN x.chunks).wt+0))):=rfl;obtain ⟨A0,k0,rfl,s0⟩:=aR.open h;obtain ⟨a0,a1,a2,a3,a4,a5,a6,a7⟩:=x;simp only [] at HA lp s0 ⊢;have e3:a3.length≤1048576:=by omega
 have e4:a4.length≤1048576:=by omega
 have e5:a5.length≤1048576:=by omega
 have e7:a7.length≤1048576:=by omega
 have e8:a7.flatten.length≤1048576:=by rw [sn];omega
 have HW:=Hi eC;have S0:=Hi s0;clear h eC lp s0;obtain ⟨R,hR⟩:∃R,R=bt ⟨a0,a1,a2,a3,a4,a5,a6,a7⟩:=⟨_,rfl⟩;rw [←hR];rw [bt] at hR;simp only [uh] at hR;have HR:=Hi hR;clear hR;have Jz:=aG a0;have FW:=aG a1;have JA:=aG a2;have JB:=aG a6;have JC:=dm a3;have JD:=dm a4;have IW:=dm a5;have DU:=aG (a7.length:Int);go_enter Tryz.func21,Tryz.ntmps21;go_wp2_with fail;refine (vL ⟨a0,a1,a2,a3,a4,a5,a6,a7⟩ _ _ HW.o (HA.o.below (by repeat' (first|with_reducible (first|exact Br|exact BW.o|apply Bs|apply Ba|apply Bd)|(simp<;>omega)|omega)))).mono ?_;rintro e v1 ⟨rfl,hb⟩;have SB:=Hi (bf.below (bH _ _ _) hb);have BW:=Hi (show Below w w v1 from Below.trans (by repeat' (first|with_reducible (first|exact Br|exact BW.o|apply Bs|apply Ba|apply Bd)|(simp<;>omega)|omega)) (hb.mono (by first|(simp<;>omega)|omega)));clear hb;cases hx:dQ ⟨a0,a1,a2,a3,a4,a5,a6,a7⟩
 case false=>
  go_wp2;go_ret;exact ⟨au (by rw [HR.o,hx];rfl),BW.o⟩
 case true=>
  rw [hx,if_pos rfl] at HR;have y1:=ah SB.o 0 rfl;have tq:=ah SB.o 1 rfl;have mK:=ah SB.o 2 rfl;have DV:=ah SB.o 3 rfl;have DX:=ah SB.o 4 rfl;have DY:=ah SB.o 5 rfl;have FX:=ah SB.o 6 rfl;have Ca:=ah SB.o 7 rfl;go_wp2;refine ax 33 [0,1,3,4,7,8,11,12,15,16,19,20,23,24,27,28,29,2,5,6,9,10,13,14,17,18,21,22,25,26,30,31,32] (by kernel_rfl) (by kernel_rfl) ?_;iterate 17 (refine ae rfl (by kernel_rfl) rfl ?_;go_wp2;refine ⟨rfl,?_⟩)
  refine aA rfl (by kernel_rfl) ?_;go_wp2_with fail;refine (eP _ _).mono ?_;rintro e v2 ⟨rfl,hb⟩;have HB:=Hi hb;have cz:=aW hb;clear hb;have hb:=cz;clear cz;replace BW:=Hi (Bt BW.o hb);replace SB:=Hi (SB.o.below hb);clear hb;go_wp2;refine ⟨Ext.aJ HB.o,?_⟩;clear HB;refine aA rfl (by kernel_rfl) ?_;go_wp2_with fail;refine (eP _ _).mono ?_;rintro e v3 ⟨rfl,hb⟩;have HB:=Hi hb;replace BW:=Hi (Bt BW.o hb);replace SB:=Hi (SB.o.below hb);clear hb;go_wp2;refine ⟨Ext.aJ HB.o,?_⟩;clear HB
  (refine ae rfl (by kernel_rfl) rfl ?_;go_wp2;refine ⟨rfl,?_⟩)
  refine aA rfl (by kernel_rfl) ?_;go_wp2_with fail;refine (eP _ _).mono ?_;rintro e v4 ⟨rfl,hb⟩;have HB:=Hi hb;replace BW:=Hi (Bt BW.o hb);replace SB:=Hi (SB.o.below hb);clear hb;go_wp2;refine ⟨Ext.aJ HB.o,?_⟩;clear HB
  (refine ae rfl (by kernel_rfl) rfl ?_;go_wp2;refine ⟨rfl,?_⟩)
  refine aA rfl (by kernel_rfl) ?_;go_wp2_with fail;refine (eP _ _).mono ?_;rintro e v5 ⟨rfl,hb⟩;have HB:=Hi hb;replace BW:=Hi (Bt BW.o hb);replace SB:=Hi (SB.o.below hb);clear hb;go_wp2;refine ⟨Ext.aJ HB.o,?_⟩;clear HB
  (refine ae rfl (by kernel_rfl) rfl ?_;go_wp2;refine ⟨rfl,?_⟩)
  refine aA rfl (by kernel_rfl) ?_;go_wp2_with fail;refine (lY _ _ (by omega)).mono ?_;rintro e v6 ⟨rfl,hb⟩;have HB:=Hi hb;replace BW:=Hi (Bt BW.o hb);replace SB:=Hi (SB.o.below hb);clear hb;go_wp2;refine ⟨Ext.aJ HB.o,?_⟩;clear HB
  (refine ae rfl (by kernel_rfl) rfl ?_;go_wp2;refine ⟨rfl,?_⟩)
  refine aA rfl (by kernel_rfl) ?_;go_wp2_with fail;refine (lY _ _ (by omega)).mono ?_;rintro e v7 ⟨rfl,hb⟩;have HB:=Hi hb;replace BW:=Hi (Bt BW.o hb);replace SB:=Hi (SB.o.below hb);clear hb;go_wp2;refine ⟨Ext.aJ HB.o,?_⟩;clear HB
  (refine ae rfl (by kernel_rfl) rfl ?_;go_wp2;refine ⟨rfl,?_⟩)
  refine aA rfl (by kernel_rfl) ?_;go_wp2_with fail;refine (lY _ _ (by omega)).mono ?_;rintro e v8 ⟨rfl,hb⟩;have HB:=Hi hb;replace BW:=Hi (Bt BW.o hb);replace SB:=Hi (SB.o.below hb);clear hb;go_wp2;refine ⟨Ext.aJ HB.o,?_⟩;clear HB
  (refine ae rfl (by kernel_rfl) rfl ?_;go_wp2;refine ⟨rfl,?_⟩)
  refine aA rfl (by kernel_rfl) ?_;go_wp2_with fail;refine (eP _ _).mono ?_;rintro e v9 ⟨rfl,hb⟩;have HB:=Hi hb;replace BW:=Hi (Bt BW.o hb);replace SB:=Hi (SB.o.below hb);clear hb;go_wp2;refine ⟨Ext.aJ HB.o,?_⟩;clear HB;iterate 2 (refine ae rfl (by kernel_rfl) rfl ?_;go_wp2;refine ⟨rfl,?_⟩)
  refine aO ?_;try simp only [eo,ep]
  clear y1 tq mK DV DX DY FX Ca;have Ca:=ah SB.o 7 rfl;obtain ⟨A,c,he,hR⟩:=(S0.o.below BW.o).strs;injection he with lJ _ mB;subst lJ mB;have HC:=Hi hR;clear hR;obtain ⟨m,hm⟩:∃m,m=a7.length:=⟨_,rfl⟩;rw [←hm] at HC Ca e7 DU SB HR ⊢;have HM:=Hi hm;clear hm;have hl:(ba a0++(ba a1++(ba a2++(ba a6++(bF a3++(bF a4++(bF a5++ba (m:Int)))))))).length≤4000000:=by simp only [length_append];omega
  clear Jz FW JA JC JD IW JB DU;generalize ba a0++(ba a1++(ba a2++(ba a6++(bF a3++(bF a4++(bF a5++ba (m:Int)))))))=hd at *;go_wp2
  go_loop [3,44] (fun oo ii=>∃j:Nat,j≤m∧ii = .int .i64 (j:Int)∧oo = .string (bs (hd++(a7.take j).flatten))) (fun _ ii=>m-(intOf ii).toNat)
  case atStart=>exact ⟨0,Nat.zero_le _,rfl,by simp⟩
  case round=>
   obtain ⟨j,hj,rfl,rfl⟩:=hrel;by_cases dS:j<m
   ·have fg:j<a7.length:=by have:=HM.o;omega
    obtain ⟨ad,rfl,gu⟩:=HC.o.2 (by omega);have hc:=gu j (iK a7[j]) (by rw [List.getElem?_map,List.getElem?_eq_getElem fg];rfl);have iL:World.cell? v9 (ad.add j)=some (.string (bs a7[j])):=hc;have dk:=yg a7 j fg;have cW:=sr a7 (j+1);rw [dk,length_append] at cW;clear hc gu;generalize a7[j]=x at *;generalize (a7.take j).flatten=acc at *;have cz:acc.length+x.length≤1048576:=by omega
    have kM:=Hi dk;clear dk cW;go_wp2;exact ⟨⟨j+1,by omega,by go_num,by rw [kM.o]⟩,by simp only [intOf];omega⟩
   ·have iQ:j=m:=by omega
    subst iQ;have hf:a7.take j=a7:=take_of_length_le (by have:=HM.o;omega);rw [hf];clear hf;go_wp2;go_ret;exact ⟨au (by rw [HR.o];rfl),BW.o⟩
theorem om (x:aR) (cs:List Value) (w:World) (eC:x.c.wt≤1048576) (h:aM bM w x.c cs) :
 Calls Tryz.prog 35 #[.agg cs.toArray] w fun e w'=>e = .returned (.string (bs (bt x)))∧Below w w w':=by
 have HA:=Hi h;have lp:x.c.wt=x.set.length+(x.name.length+(x.tag.length+(x.chunks.length+(cat cN x.chunks).wt+0))):=rfl;obtain ⟨A0,k0,rfl,s0⟩:=aR.open h;obtain ⟨a0,a1,a2,a3,a4,a5,a6,a7⟩:=x;simp only [] at HA lp s0 ⊢;have e3:a3.length≤1048576:=by omega
 have e4:a4.length≤1048576:=by omega
 have e5:a5.length≤1048576:=by omega
 have e7:a7.length≤1048576:=by omega
 have e8:a7.flatten.length≤1048576:=by rw [sn];omega
 have HW:=Hi eC;have S0:=Hi s0;clear h eC lp s0;obtain ⟨R,hR⟩:∃R,R=bt ⟨a0,a1,a2,a3,a4,a5,a6,a7⟩:=⟨_,rfl⟩;rw [←hR];rw [bt] at hR;simp only [uh] at hR;have HR:=Hi hR;clear hR;have Jz:=aG a0;have FW:=aG a1;have JA:=aG a2;have JB:=aG a6;have JC:=dm a3;have JD:=dm a4;have IW:=dm a5;have DU:=aG (a7.length:Int);go_enter Tryz.func35,Tryz.ntmps35;go_wp2_with fail;refine (kr ⟨a0,a1,a2,a3,a4,a5,a6,a7⟩ _ _ HW.o (HA.o.below (by repeat' (first|with_reducible (first|exact Br|exact BW.o|apply Bs|apply Ba|apply Bd)|(simp<;>omega)|omega)))).mono ?_;rintro e v1 ⟨rfl,hb⟩;have SB:=Hi (bf.below (bH _ _ _) hb);have BW:=Hi (show Below w w v1 from Below.trans (by repeat' (first|with_reducible (first|exact Br|exact BW.o|apply Bs|apply Ba|apply Bd)|(simp<;>omega)|omega)) (hb.mono (by first|(simp<;>omega)|omega)));clear hb;cases hx:dQ ⟨a0,a1,a2,a3,a4,a5,a6,a7⟩
 case false=>
  go_wp2;go_ret;exact ⟨au (by rw [HR.o,hx];rfl),BW.o⟩
 case true=>
  rw [hx,if_pos rfl] at HR;have y1:=ah SB.o 0 rfl;have tq:=ah SB.o 1 rfl;have mK:=ah SB.o 2 rfl;have DV:=ah SB.o 3 rfl;have DX:=ah SB.o 4 rfl;have DY:=ah SB.o 5 rfl;have FX:=ah SB.o 6 rfl;have Ca:=ah SB.o 7 rfl;go_wp2;refine ax 33 [0,1,3,4,7,8,11,12,15,16,19,20,23,24,27,28,29,2,5,6,9,10,13,14,17,18,21,22,25,26,30,31,32] (by kernel_rfl) (by kernel_rfl) ?_;iterate 17 (refine ae rfl (by kernel_rfl) rfl ?_;go_wp2;refine ⟨rfl,?_⟩)
  refine aA rfl (by kernel_rfl) ?_;go_wp2_with fail;refine (cH _ _).mono ?_;rintro e v2 ⟨rfl,hb⟩;have HB:=Hi hb;have cz:=aW hb;clear hb;have hb:=cz;clear cz;replace BW:=Hi (Bt BW.o hb);replace SB:=Hi (SB.o.below hb);clear hb;go_wp2;refine ⟨Ext.aJ HB.o,?_⟩;clear HB;refine aA rfl (by kernel_rfl) ?_;go_wp2_with fail;refine (cH _ _).mono ?_;rintro e v3 ⟨rfl,hb⟩;have HB:=Hi hb;replace BW:=Hi (Bt BW.o hb);replace SB:=Hi (SB.o.below hb);clear hb;go_wp2;refine ⟨Ext.aJ HB.o,?_⟩;clear HB
  (refine ae rfl (by kernel_rfl) rfl ?_;go_wp2;refine ⟨rfl,?_⟩)
  refine aA rfl (by kernel_rfl) ?_;go_wp2_with fail;refine (cH _ _).mono ?_;rintro e v4 ⟨rfl,hb⟩;have HB:=Hi hb;replace BW:=Hi (Bt BW.o hb);replace SB:=Hi (SB.o.below hb);clear hb;go_wp2;refine ⟨Ext.aJ HB.o,?_⟩;clear HB
  (refine ae rfl (by kernel_rfl) rfl ?_;go_wp2;refine ⟨rfl,?_⟩)
  refine aA rfl (by kernel_rfl) ?_;go_wp2_with fail;refine (cH _ _).mono ?_;rintro e v5 ⟨rfl,hb⟩;have HB:=Hi hb;replace BW:=Hi (Bt BW.o hb);replace SB:=Hi (SB.o.below hb);clear hb;go_wp2;refine ⟨Ext.aJ HB.o,?_⟩;clear HB
  (refine ae rfl (by kernel_rfl) rfl ?_;go_wp2;refine ⟨rfl,?_⟩)
  refine aA rfl (by kernel_rfl) ?_;go_wp2_with fail;refine (lZ _ _ (by omega)).mono ?_;rintro e v6 ⟨rfl,hb⟩;have HB:=Hi hb;replace BW:=Hi (Bt BW.o hb);replace SB:=Hi (SB.o.below hb);clear hb;go_wp2;refine ⟨Ext.aJ HB.o,?_⟩;clear HB
  (refine ae rfl (by kernel_rfl) rfl ?_;go_wp2;refine ⟨rfl,?_⟩)
  refine aA rfl (by kernel_rfl) ?_;go_wp2_with fail;refine (lZ _ _ (by omega)).mono ?_;rintro e v7 ⟨rfl,hb⟩;have HB:=Hi hb;replace BW:=Hi (Bt BW.o hb);replace SB:=Hi (SB.o.below hb);clear hb;go_wp2;refine ⟨Ext.aJ HB.o,?_⟩;clear HB
  (refine ae rfl (by kernel_rfl) rfl ?_;go_wp2;refine ⟨rfl,?_⟩)
  refine aA rfl (by kernel_rfl) ?_;go_wp2_with fail;refine (lZ _ _ (by omega)).mono ?_;rintro e v8 ⟨rfl,hb⟩;have HB:=Hi hb;replace BW:=Hi (Bt BW.o hb);replace SB:=Hi (SB.o.below hb);clear hb;go_wp2;refine ⟨Ext.aJ HB.o,?_⟩;clear HB
  (refine ae rfl (by kernel_rfl) rfl ?_;go_wp2;refine ⟨rfl,?_⟩)
  refine aA rfl (by kernel_rfl) ?_;go_wp2_with fail;refine (cH _ _).mono ?_;rintro e v9 ⟨rfl,hb⟩;have HB:=Hi hb;replace BW:=Hi (Bt BW.o hb);replace SB:=Hi (SB.o.below hb);clear hb;go_wp2;refine ⟨Ext.aJ HB.o,?_⟩;clear HB;iterate 2 (refine ae rfl (by kernel_rfl) rfl ?_;go_wp2;refine ⟨rfl,?_⟩)
  refine aO ?_;try simp only [eo,ep]
  clear y1 tq mK DV DX DY FX Ca;have Ca:=ah SB.o 7 rfl;obtain ⟨A,c,he,hR⟩:=(S0.o.below BW.o).strs;injection he with lJ _ mB;subst lJ mB;have HC:=Hi hR;clear hR;obtain ⟨m,hm⟩:∃m,m=a7.length:=⟨_,rfl⟩;rw [←hm] at HC Ca e7 DU SB HR ⊢;have HM:=Hi hm;clear hm;have hl:(ba a0++(ba a1++(ba a2++(ba a6++(bF a3++(bF a4++(bF a5++ba (m:Int)))))))).length≤4000000:=by simp only [length_append];omega
  clear Jz FW JA JC JD IW JB DU;generalize ba a0++(ba a1++(ba a2++(ba a6++(bF a3++(bF a4++(bF a5++ba (m:Int)))))))=hd at *;go_wp2
  go_loop [3,4] (fun oo ii=>∃j:Nat,j≤m∧ii = .int .i64 (j:Int)∧oo = .string (bs (hd++(a7.take j).flatten))) (fun _ ii=>m-(intOf ii).toNat)
  case atStart=>exact ⟨0,Nat.zero_le _,rfl,by simp⟩
  case round=>
   obtain ⟨j,hj,rfl,rfl⟩:=hrel;by_cases dS:j<m
   ·have fg:j<a7.length:=by have:=HM.o;omega
    obtain ⟨ad,rfl,gu⟩:=HC.o.2 (by omega);have hc:=gu j (iK a7[j]) (by rw [List.getElem?_map,List.getElem?_eq_getElem fg];rfl);have iL:World.cell? v9 (ad.add j)=some (.string (bs a7[j])):=hc;have dk:=yg a7 j fg;have cW:=sr a7 (j+1);rw [dk,length_append] at cW;clear hc gu;generalize a7[j]=x at *;generalize (a7.take j).flatten=acc at *;have cz:acc.length+x.length≤1048576:=by omega
    have kM:=Hi dk;clear dk cW;go_wp2;exact ⟨⟨j+1,by omega,by go_num,by rw [kM.o]⟩,by simp only [intOf];omega⟩
   ·have iQ:j=m:=by omega
    subst iQ;have hf:a7.take j=a7:=take_of_length_le (by have:=HM.o;omega);rw [hf];clear hf;go_wp2;go_ret;exact ⟨au (by rw [HR.o];rfl),BW.o⟩
attribute [irreducible] bt
end Go.Proofs.YtfgliohpdgnmcaaGreat
