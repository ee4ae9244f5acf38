/- Messages as text. Conditions: bounds on the sizes. -/
import Derived.Test.YtfgliohpdgnmcaaGreatB04
set_option linter.unusedVariables false
set_option linter.unusedSimpArgs false
set_option maxRecDepth 100000
set_option maxHeartbeats 8000000
namespace Go.Proofs.YtfgliohpdgnmcaaGreat
open Go.RowKit
open List (take_of_length_le length_cons length_append append_assoc length_take length_nil)
theorem xj (x:aV) (ot:List Value) (w:World) (jO:x.c.wt≤1048576) (h0:aM bM w x.c ot) (uM:x.same=true) :
 Calls Tryz.prog 11 #[.agg ot.toArray] w fun e w'=>e = .returned (.string (bs (bD x)))∧Below w w w':=by
 have Fv:=Hi h0;have NC:=Hi jO;have lp:x.c.wt=(x.cmd.set.length+(x.cmd.name.length+(x.cmd.tag.length+(x.cmd.chunks.length+(cat cN x.cmd.chunks).wt+(x.al.length+(cat aX.c x.al).wt+0))))):=rfl;obtain ⟨pz,pA,tE,sy,rfl,ou,ov⟩:=aV.open h0;obtain ⟨a0,a1,a2,⟨a3,a4⟩,a5,⟨a6,a7,a8,a9,dR,dU,ec,dN⟩,gX,dV,jX,ku,GN⟩:=x;simp only [] at uM ou ov lp ⊢;subst uM;have JF:a9.length≤1048576:=by omega
 have y5:dR.length≤1048576:=by omega
 have CL:dU.length≤1048576:=by omega
 have qW:=Hi ou;clear ou;have CM:dN.length+(cat cN dN).wt≤1048576:=by omega
 have qq:=Hi ov;clear ov;have y6:dV.length+(cat aX.c dV).wt≤1048576:=by omega
 have qX:=Hi (show aM bM w (aX.c ⟨a3,a4⟩) [a3,a4] from aX.shut);have iJ:(aR.c ⟨a6,a7,a8,a9,dR,dU,ec,dN⟩).wt≤1048576:=by have e0:(aR.c ⟨a6,a7,a8,a9,dR,dU,ec,dN⟩).wt=(a9.length+(dR.length+(dU.length+(dN.length+(cat cN dN).wt+0)))):=rfl;omega
 have kb:=Hi (show aM bM w (aR.c ⟨a6,a7,a8,a9,dR,dU,ec,dN⟩) [a6,a7,a8,a9,dR,dU,ec,.slice pz dN pA] from aR.shut qW.o);clear h0 jO lp;obtain ⟨R,hR⟩:∃R,R=bD (⟨a0,a1,a2,⟨a3,a4⟩,a5,⟨a6,a7,a8,a9,dR,dU,ec,dN⟩,gX,dV,jX,ku,true⟩:aV):=⟨_,rfl⟩;rw [←hR];rw [bD] at hR;simp only [] at hR;have HR:=Hi hR;clear hR;go_enter Tryz.func11,Tryz.ntmps11;go_wp2_with ((with_reducible apply Gl 31);refine Fn _ ⟨w,0,none⟩ rfl [a0,a1,a2,a3,a4,a5,a6,a7,a8,a9,dR,dU,ec,.slice pz dN pA,gX,.slice tE dV sy,jX,ku,true] az rfl (ag (bH _ _ _)) ?_);refine (mT ⟨a0,a1,a2,⟨a3,a4⟩,a5,⟨a6,a7,a8,a9,dR,dU,ec,dN⟩,gX,dV,jX,ku,true⟩ _ _ NC.o (Fv.o.below (by repeat' (first|with_reducible (first|exact Br|exact BW.o|apply Bs|apply Ba|apply Bd)|(simp<;>omega)|omega)))).mono ?_;rintro e v1 ⟨rfl,hb⟩;have SB:=Hi (bf.below (bH _ _ _) hb);have BW:=Hi (show Below w w v1 from Below.trans (by repeat' (first|with_reducible (first|exact Br|exact BW.o|apply Bs|apply Ba|apply Bd)|(simp<;>omega)|omega)) (hb.mono (by first|(simp<;>omega)|omega)));clear hb;cases hx:du ⟨a0,a1,a2,⟨a3,a4⟩,a5,⟨a6,a7,a8,a9,dR,dU,ec,dN⟩,gX,dV,jX,ku,true⟩
 case false=>
  go_wp2;go_ret;exact ⟨au (by rw [HR.o,hx];rfl),BW.o⟩
 case true=>
  rw [hx,if_pos rfl] at HR;have Cf:=mU hx;simp only [] at Cf;obtain ⟨ND,NF⟩:=Cf;clear hx;have ny:=jq ⟨a6,a7,a8,a9,dR,dU,ec,dN⟩;have DH:=iJ;have o6:dV.length≤1048576:=by omega
  have NG:=eB im 14 lM dV;simp only [jP] at HR;rw [show oZ true=[1] from rfl] at HR;generalize NI:(Value.agg #[a0,a1,a2,a3,a4,a5,a6,a7,a8,a9,dR,dU,ec,.slice pz dN pA,gX,.slice tE dV sy,jX,ku,true])=AG;clear NI;have zS:True:=trivial;have y1:=ah SB.o 0 rfl;have tq:=ah SB.o 1 rfl;have mK:=ah SB.o 2 rfl;have DV:=ah SB.o 3 rfl;have DX:=ah SB.o 4 rfl;have DY:=ah SB.o 5 rfl;have FX:=ah SB.o 6 rfl;have Ca:=ah SB.o 7 rfl;have NK:=ah SB.o 8 rfl;have NL:=ah SB.o 9 rfl;have Dq:=ah SB.o 10 rfl;have Dr:=ah SB.o 11 rfl;have Ds:=ah SB.o 12 rfl;have Dt:=ah SB.o 13 rfl;have Du:=ah SB.o 14 rfl;have xi:=ah SB.o 15 rfl;have Dv:=ah SB.o 16 rfl;have Dw:=ah SB.o 17 rfl;have Dx:=ah SB.o 18 rfl;have Jz:=aG a0;have FW:=aG a1;have JA:=aG a2;have JC:=aG a3;have JD:=aG a4;have IW:=aG a5;have JB:=aG jX;have DU:=aG (ku+1);have LD:=aG gX;have OD:=dm (bt ⟨a6,a7,a8,a9,dR,dU,ec,dN⟩);have NJ:=aG (dV.length:Int);go_wp2;refine ax 51 [0,1,3,4,7,8,11,12,13,16,17,18,21,22,25,26,29,30,31,34,35,38,40,41,45,46,47,2,5,6,9,10,14,15,19,20,23,24,27,28,32,33,36,37,39,42,43,44,48,49,50] (by kernel_rfl) (by kernel_rfl) ?_;iterate 27 (refine ae rfl (by kernel_rfl) rfl ?_;go_wp2;refine ⟨rfl,?_⟩)
  refine aA rfl (by kernel_rfl) ?_;go_wp2_with fail;refine (cH _ _).mono ?_;rintro e v2 ⟨rfl,hb⟩;have HB:=Hi hb;have cz:=aW hb;clear hb;have hb:=cz;clear cz;replace BW:=Hi (Bt BW.o hb);replace SB:=Hi (SB.o.below hb);clear hb;go_wp2;refine ⟨Ext.aJ HB.o,?_⟩;clear HB;refine aA rfl (by kernel_rfl) ?_;go_wp2_with fail;refine (cH _ _).mono ?_;rintro e v3 ⟨rfl,hb⟩;have HB:=Hi hb;replace BW:=Hi (Bt BW.o hb);replace SB:=Hi (SB.o.below hb);clear hb;go_wp2;refine ⟨Ext.aJ HB.o,?_⟩;clear HB
  (refine ae rfl (by kernel_rfl) rfl ?_;go_wp2;refine ⟨rfl,?_⟩)
  refine aA rfl (by kernel_rfl) ?_;go_wp2_with fail;refine (cH _ _).mono ?_;rintro e v4 ⟨rfl,hb⟩;have HB:=Hi hb;replace BW:=Hi (Bt BW.o hb);replace SB:=Hi (SB.o.below hb);clear hb;go_wp2;refine ⟨Ext.aJ HB.o,?_⟩;clear HB
  (refine ae rfl (by kernel_rfl) rfl ?_;go_wp2;refine ⟨rfl,?_⟩)
  refine aA rfl (by kernel_rfl) ?_;go_wp2_with fail;refine (cH _ _).mono ?_;rintro e v5 ⟨rfl,hb⟩;have HB:=Hi hb;replace BW:=Hi (Bt BW.o hb);replace SB:=Hi (SB.o.below hb);clear hb;go_wp2;refine ⟨Ext.aJ HB.o,?_⟩;clear HB
  (refine ae rfl (by kernel_rfl) rfl ?_;go_wp2;refine ⟨rfl,?_⟩)
  refine aA rfl (by kernel_rfl) ?_;go_wp2_with fail;refine (cH _ _).mono ?_;rintro e v6 ⟨rfl,hb⟩;have HB:=Hi hb;replace BW:=Hi (Bt BW.o hb);replace SB:=Hi (SB.o.below hb);clear hb;go_wp2;refine ⟨Ext.aJ HB.o,?_⟩;clear HB
  (refine ae rfl (by kernel_rfl) rfl ?_;go_wp2;refine ⟨rfl,?_⟩)
  refine aA rfl (by kernel_rfl) ?_;go_wp2_with fail;refine (cH _ _).mono ?_;rintro e v7 ⟨rfl,hb⟩;have HB:=Hi hb;replace BW:=Hi (Bt BW.o hb);replace SB:=Hi (SB.o.below hb);clear hb;go_wp2;refine ⟨Ext.aJ HB.o,?_⟩;clear HB
  (refine ae rfl (by kernel_rfl) rfl ?_;go_wp2;refine ⟨rfl,?_⟩)
  refine aA rfl (by kernel_rfl) ?_;go_wp2_with fail;refine (cH _ _).mono ?_;rintro e v8 ⟨rfl,hb⟩;have HB:=Hi hb;replace BW:=Hi (Bt BW.o hb);replace SB:=Hi (SB.o.below hb);clear hb;go_wp2;refine ⟨Ext.aJ HB.o,?_⟩;clear HB
  (refine ae rfl (by kernel_rfl) rfl ?_;go_wp2;refine ⟨rfl,?_⟩)
  refine aA rfl (by kernel_rfl) ?_;go_wp2_with fail;refine (cH _ _).mono ?_;rintro e v9 ⟨rfl,hb⟩;have HB:=Hi hb;replace BW:=Hi (Bt BW.o hb);replace SB:=Hi (SB.o.below hb);clear hb;go_wp2;refine ⟨Ext.aJ HB.o,?_⟩;clear HB
  (refine ae rfl (by kernel_rfl) rfl ?_;go_wp2;refine ⟨rfl,?_⟩)
  refine aA rfl (by kernel_rfl) ?_;go_wp2_with fail;refine (cH _ _).mono ?_;rintro e v10 ⟨rfl,hb⟩;have HB:=Hi hb;replace BW:=Hi (Bt BW.o hb);replace SB:=Hi (SB.o.below hb);clear hb;go_wp2;refine ⟨Ext.aJ HB.o,?_⟩;clear HB;iterate 2 (refine ae rfl (by kernel_rfl) rfl ?_;go_wp2;refine ⟨rfl,?_⟩)
  refine aA rfl (by kernel_rfl) ?_;go_wp2_with fail;refine (om ⟨a6,a7,a8,a9,dR,dU,ec,dN⟩ _ _ iJ (kb.o.below BW.o)).mono ?_;rintro e v11 ⟨rfl,hb⟩;have HB:=Hi hb;replace BW:=Hi (Bt BW.o hb);replace SB:=Hi (SB.o.below hb);clear hb;go_wp2;refine ⟨Ext.aJ HB.o,?_⟩;clear HB;refine aA rfl (by kernel_rfl) ?_;go_wp2_with fail;refine (lZ _ _ (by omega)).mono ?_;rintro e Lq ⟨rfl,hb⟩;have HB:=Hi hb;replace BW:=Hi (Bt BW.o hb);replace SB:=Hi (SB.o.below hb);clear hb;go_wp2;refine ⟨Ext.aJ HB.o,?_⟩;clear HB
  (refine ae rfl (by kernel_rfl) rfl ?_;go_wp2;refine ⟨rfl,?_⟩)
  refine aA rfl (by kernel_rfl) ?_;go_wp2_with fail;refine (cH _ _).mono ?_;rintro e OB ⟨rfl,hb⟩;have HB:=Hi hb;replace BW:=Hi (Bt BW.o hb);replace SB:=Hi (SB.o.below hb);clear hb;go_wp2;refine ⟨Ext.aJ HB.o,?_⟩;clear HB;iterate 2 (refine ae rfl (by kernel_rfl) rfl ?_;go_wp2;refine ⟨rfl,?_⟩)
  refine aO ?_;try simp only [eo,ep]
  clear zS y1 tq mK DV DX DY FX Ca NK NL Dq Dr Ds Dt Du xi Dv Dw Dx;have zS:True:=trivial;have y1:=ah SB.o 0 rfl;have tq:=ah SB.o 1 rfl;have mK:=ah SB.o 2 rfl;have DV:=ah SB.o 3 rfl;have DX:=ah SB.o 4 rfl;have DY:=ah SB.o 5 rfl;have FX:=ah SB.o 6 rfl;have Ca:=ah SB.o 7 rfl;have NK:=ah SB.o 8 rfl;have NL:=ah SB.o 9 rfl;have Dq:=ah SB.o 10 rfl;have Dr:=ah SB.o 11 rfl;have Ds:=ah SB.o 12 rfl;have Dt:=ah SB.o 13 rfl;have Du:=ah SB.o 14 rfl;have xi:=ah SB.o 15 rfl;have Dv:=ah SB.o 16 rfl;have Dw:=ah SB.o 17 rfl;have Dx:=ah SB.o 18 rfl;have hl:(ba a0++(ba a1++(ba a2++(ba a3++(ba a4++(ba a5++(ba jX++(ba (ku+1)++(ba gX++([1]++(bF (bt ⟨a6,a7,a8,a9,dR,dU,ec,dN⟩)++(ba (dV.length:Int))))))))))))).length≤4000000:=by simp only [length_append,length_cons,length_nil];omega
  have IL:R=(ba a0++(ba a1++(ba a2++(ba a3++(ba a4++(ba a5++(ba jX++(ba (ku+1)++(ba gX++([1]++(bF (bt ⟨a6,a7,a8,a9,dR,dU,ec,dN⟩)++(ba (dV.length:Int)))))))))))))++(dV.map im).flatten:=by rw [HR.o];simp [append_assoc]
  clear HR;have HR:=Hi IL;clear IL;generalize o7:ba a0++(ba a1++(ba a2++(ba a3++(ba a4++(ba a5++(ba jX++(ba (ku+1)++(ba gX++([1]++(bF (bt ⟨a6,a7,a8,a9,dR,dU,ec,dN⟩)++(ba (dV.length:Int))))))))))))=hd at *;have C9:=Hi o7;clear o7;obtain ⟨m,hm⟩:∃m,m=dV.length:=⟨_,rfl⟩;have HM:=Hi hm;have SD:=Hi (show aM bM w (.sl 25 2 m (cat aX.c dV) .nil) [.slice tE m sy] by rw [hm];exact qq.o);simp only [←hm] at xi o6 NG SB ⊢;clear hm zS y1 tq mK DV DX DY FX Ca NK NL Dq Dr Ds Dt Du Dv Dw Dx;go_wp2;clear xi;go_loopw [4,5] (fun oo ii wr=>∃j:Nat,j≤m∧ii = .int .i64 (j:Int)∧oo = .string (bs (hd++((dV.take j).map im).flatten))∧bf wr w 31 #[a0,a1,a2,a3,a4,a5,a6,a7,a8,a9,dR,dU,ec,.slice pz dN pA,gX,.slice tE m sy,jX,ku,true]∧Below w w wr) (fun _ ii _=>m-(intOf ii).toNat);case atStart=>exact ⟨0,Nat.zero_le _,rfl,by rw [←C9.o];simp [show ({data:=#[0]}:ByteArray)=bs [0] from rfl,show ({data:=#[1]}:ByteArray)=bs [1] from rfl,HM.o],SB.o,BW.o⟩
  case round=>as_aux_lemma=>
   obtain ⟨j,hj,rfl,rfl,aD,jD⟩:=hrel;clear SB BW;have SB:=Hi aD;clear aD;have BW:=Hi jD;clear jD;have xi:=ah SB.o 15 rfl;by_cases dS:j<m
   ·have fg:j<dV.length:=by have:=HM.o;omega
    obtain ⟨ad,ci,rfl,_,_,bZ,Jc,hc⟩:=(SD.o.below BW.o).elem aX.width j fg HM.o;obtain rfl:=aX.open bZ;have dk:=jf im dV j fg;have uY:=eB im 14 lM (dV.take j);have xY:(dV.take j).length≤1048576:=by rw [length_take];omega
    have zO:((dV.take j).map im).flatten.length≤14680064:=by omega
    clear uY xY Jc bZ;generalize dV[j]=y at *;obtain ⟨yr,ys⟩:=y;generalize ((dV.take j).map im).flatten=acc at *;have qT:=aG yr;have mA:=aG ys;simp only [im] at dk;have kM:=Hi dk;clear dk;have Ic:=hc 0 _ rfl;have dd:World.cell? wr ⟨(ad.add (j*2)).block,(ad.add (j*2)).off+1,none⟩=some (.int .i64 ys):=hc 1 _ rfl;simp only [vT] at Ic;clear hc;go_wp2;refine ax 18 [0,1,2,3,4,5,6,9,10,11,12,13,14,7,8,15,16,17] (by kernel_rfl) (by kernel_rfl) ?_;iterate 13 (refine ae rfl (by kernel_rfl) rfl ?_;go_wp2;refine ⟨rfl,?_⟩)
    refine aA rfl (by kernel_rfl) ?_;go_wp2_with fail;refine (cH _ _).mono ?_;rintro e v10 ⟨rfl,hb⟩;have HB:=Hi hb;have cz:=aW hb;clear hb;have hb:=cz;clear cz;replace BW:=Hi (Bt BW.o hb);replace SB:=Hi (SB.o.below hb);clear hb;go_wp2;refine ⟨Ext.aJ HB.o,?_⟩;clear HB
    (refine ae rfl (by kernel_rfl) rfl ?_;go_wp2;refine ⟨rfl,?_⟩)
    refine aA rfl (by kernel_rfl) ?_;go_wp2_with fail;refine (cH _ _).mono ?_;rintro e v11 ⟨rfl,hb⟩;have HB:=Hi hb;replace BW:=Hi (Bt BW.o hb);replace SB:=Hi (SB.o.below hb);clear hb;go_wp2;refine ⟨Ext.aJ HB.o,?_⟩;clear HB;iterate 2 (refine ae rfl (by kernel_rfl) rfl ?_;go_wp2;refine ⟨rfl,?_⟩)
    refine aO ?_;try simp only [eo,ep]
    go_wp2;exact ⟨⟨j+1,by omega,by go_num,by rw [kM.o],SB.o,BW.o⟩,by simp only [intOf];omega⟩
   ·have iQ:j=m:=by omega
    subst iQ;rw [take_of_length_le (by have:=HM.o;omega)];go_wp2;go_ret;exact ⟨au (by rw [HR.o];rfl),BW.o⟩
end Go.Proofs.YtfgliohpdgnmcaaGreat
