/- The same message. Conditions: bounds on the sizes. -/
import Derived.Test.YtfgliohpdgnmcaaGreatB08
set_option linter.unusedVariables false
set_option linter.unusedSimpArgs false
set_option maxRecDepth 100000
set_option maxHeartbeats 8000000
namespace Go.Proofs.YtfgliohpdgnmcaaGreat
open Go.RowKit
theorem zT (x:aV) (ot:List Value) (y:aV) (Lz:List Value) (w:World) (jO:x.c.wt≤1048576) (IB:y.c.wt≤1048576) (h0:aM bM w x.c ot) (h1:aM bM w y.c Lz) :
 Calls Tryz.prog 14 #[.agg ot.toArray,.agg Lz.toArray] w fun e w'=>e = .returned (.bool (jN x y))∧Below w w w':=by
 have lp:x.c.wt=(x.cmd.set.length+(x.cmd.name.length+(x.cmd.tag.length+(x.cmd.chunks.length+(cat cN x.cmd.chunks).wt+(x.al.length+(cat aX.c x.al).wt+0))))):=rfl;obtain ⟨pz,pA,tE,sy,rfl,ou,ov⟩:=aV.open h0;obtain ⟨a0,a1,a2,⟨a3,a4⟩,a5,⟨a6,a7,a8,a9,dR,dU,ec,dN⟩,gX,dV,jX,ku,GN⟩:=x;have qT:y.c.wt=(y.cmd.set.length+(y.cmd.name.length+(y.cmd.tag.length+(y.cmd.chunks.length+(cat cN y.cmd.chunks).wt+(y.al.length+(cat aX.c y.al).wt+0))))):=rfl;obtain ⟨QY,QZ,Xx,Xy,rfl,IC,ID⟩:=aV.open h1;obtain ⟨b0,b1,b2,⟨b3,b4⟩,b5,⟨b6,b7,b8,b9,o4,qm,qM,rD⟩,IE,EC,Rv,Rw,VO⟩:=y;simp only [] at ou ov IC ID lp qT ⊢;have JF:a9.length≤1048576:=by omega
 have y5:dR.length≤1048576:=by omega
 have CL:dU.length≤1048576:=by omega
 have qW:=Hi ou;clear ou;have CM:dN.length+(cat cN dN).wt≤1048576:=by omega
 have qq:=Hi ov;clear ov;have y6:dV.length+(cat aX.c dV).wt≤1048576:=by omega
 have qX:=Hi (show aM bM w (aX.c ⟨a3,a4⟩) [a3,a4] from aX.shut);have iJ:(aR.c ⟨a6,a7,a8,a9,dR,dU,ec,dN⟩).wt≤1048576:=by have e0:(aR.c ⟨a6,a7,a8,a9,dR,dU,ec,dN⟩).wt=(a9.length+(dR.length+(dU.length+(dN.length+(cat cN dN).wt+0)))):=rfl;omega
 have kb:=Hi (show aM bM w (aR.c ⟨a6,a7,a8,a9,dR,dU,ec,dN⟩) [a6,a7,a8,a9,dR,dU,ec,.slice pz dN pA] from aR.shut qW.o);have Xz:b9.length≤1048576:=by omega
 have Q0:o4.length≤1048576:=by omega
 have VP:qm.length≤1048576:=by omega
 have NQ:=Hi IC;clear IC;have VQ:rD.length+(cat cN rD).wt≤1048576:=by omega
 have NR:=Hi ID;clear ID;have VR:EC.length+(cat aX.c EC).wt≤1048576:=by omega
 have Q1:=Hi (show aM bM w (aX.c ⟨b3,b4⟩) [b3,b4] from aX.shut);have ED:(aR.c ⟨b6,b7,b8,b9,o4,qm,qM,rD⟩).wt≤1048576:=by have e0:(aR.c ⟨b6,b7,b8,b9,o4,qm,qM,rD⟩).wt=(b9.length+(o4.length+(qm.length+(rD.length+(cat cN rD).wt+0)))):=rfl;omega
 have EF:=Hi (show aM bM w (aR.c ⟨b6,b7,b8,b9,o4,qm,qM,rD⟩) [b6,b7,b8,b9,o4,qm,qM,.slice QY rD QZ] from aR.shut NQ.o);clear h0 jO lp h1 IB qT;obtain ⟨R,hR⟩:∃R,R=jN (⟨a0,a1,a2,⟨a3,a4⟩,a5,⟨a6,a7,a8,a9,dR,dU,ec,dN⟩,gX,dV,jX,ku,GN⟩:aV) (⟨b0,b1,b2,⟨b3,b4⟩,b5,⟨b6,b7,b8,b9,o4,qm,qM,rD⟩,IE,EC,Rv,Rw,VO⟩:aV):=⟨_,rfl⟩;rw [←hR];rw [jN] at hR;simp only [] at hR;have HR:=Hi hR;clear hR;go_enter Tryz.func14,Tryz.ntmps14;cases gB:(a0 == b0)
 case false=>
  go_wp2;go_ret;exact ⟨au (congrArg Value.bool (by rw [HR.o,gB];rfl)),(by repeat' (first|with_reducible (first|exact Br|exact BW.o|apply Bs|apply Ba|apply Bd)|(simp<;>omega)|omega))⟩
 case true=>
  cases cW:(a1 == b1)
  case false=>
   go_wp2;go_ret;exact ⟨au (congrArg Value.bool (by rw [HR.o,gB,cW];rfl)),(by repeat' (first|with_reducible (first|exact Br|exact BW.o|apply Bs|apply Ba|apply Bd)|(simp<;>omega)|omega))⟩
  case true=>
   cases cz:(a2 == b2)
   case false=>
    go_wp2;go_ret;exact ⟨au (congrArg Value.bool (by rw [HR.o,gB,cW,cz];rfl)),(by repeat' (first|with_reducible (first|exact Br|exact BW.o|apply Bs|apply Ba|apply Bd)|(simp<;>omega)|omega))⟩
   case true=>
    cases fh:(a3 == b3)
    case false=>
     go_wp2;go_ret;exact ⟨au (congrArg Value.bool (by rw [HR.o,gB,cW,cz,fh];rfl)),(by repeat' (first|with_reducible (first|exact Br|exact BW.o|apply Bs|apply Ba|apply Bd)|(simp<;>omega)|omega))⟩
    case true=>
     cases gN:(a4 == b4)
     case false=>
      go_wp2;go_ret;exact ⟨au (congrArg Value.bool (by rw [HR.o,gB,cW,cz,fh,gN];rfl)),(by repeat' (first|with_reducible (first|exact Br|exact BW.o|apply Bs|apply Ba|apply Bd)|(simp<;>omega)|omega))⟩
     case true=>
      cases jW:(a5 == b5)
      case false=>
       go_wp2;go_ret;exact ⟨au (congrArg Value.bool (by rw [HR.o,gB,cW,cz,fh,gN,jW];rfl)),(by repeat' (first|with_reducible (first|exact Br|exact BW.o|apply Bs|apply Ba|apply Bd)|(simp<;>omega)|omega))⟩
      case true=>
       go_wp2_with fail;refine (si ⟨a6,a7,a8,a9,dR,dU,ec,dN⟩ ⟨b6,b7,b8,b9,o4,qm,qM,rD⟩ _ _ _ iJ ED (kb.o.below (by repeat' (first|with_reducible (first|exact Br|exact BW.o|apply Bs|apply Ba|apply Bd)|(simp<;>omega)|omega))) (EF.o.below (by repeat' (first|with_reducible (first|exact Br|exact BW.o|apply Bs|apply Ba|apply Bd)|(simp<;>omega)|omega)))).mono ?_;rintro e v1 ⟨rfl,hb⟩;have B0:=Hi (bf.below (pq _ _ _ _) hb);have B1:=Hi (bf.below (pr _ _ _ _) hb);have BW:=Hi (show Below w w v1 from Below.trans (by repeat' (first|with_reducible (first|exact Br|exact BW.o|apply Bs|apply Ba|apply Bd)|(simp<;>omega)|omega)) (hb.mono (by first|(simp<;>omega)|omega)));clear hb;have lL:=eE B0.o;have IQ:=eE B1.o;cases mN:cC ⟨a6,a7,a8,a9,dR,dU,ec,dN⟩ ⟨b6,b7,b8,b9,o4,qm,qM,rD⟩
       case false=>
        go_wp2;go_ret;exact ⟨au (congrArg Value.bool (by rw [HR.o,gB,cW,cz,fh,gN,jW,mN];rfl)),BW.o⟩
       case true=>
        cases sA:(gX == IE)
        case false=>
         go_wp2;go_ret;exact ⟨au (congrArg Value.bool (by rw [HR.o,gB,cW,cz,fh,gN,jW,mN,sA];rfl)),BW.o⟩
        case true=>
         go_wp2_with fail;refine (uk dV EC _ _ _ _ _ _ _ rfl rfl (by omega) (by omega) (qq.o.below BW.o) (NR.o.below BW.o)).mono ?_;rintro e v2 ⟨rfl,hb⟩;replace B0:=Hi (B0.o.below hb);replace B1:=Hi (B1.o.below hb);replace BW:=Hi (Bt BW.o hb);clear hb lL IQ;have lL:=eE B0.o;have IQ:=eE B1.o;cases yn:decide (dV=EC)
         case false=>
          go_wp2;go_ret;exact ⟨au (congrArg Value.bool (by rw [HR.o,gB,cW,cz,fh,gN,jW,mN,sA,yn];rfl)),BW.o⟩
         case true=>
          cases CN:(jX == Rv)
          case false=>
           go_wp2;go_ret;exact ⟨au (congrArg Value.bool (by rw [HR.o,gB,cW,cz,fh,gN,jW,mN,sA,yn,CN];rfl)),BW.o⟩
          case true=>
           cases ox:(ku == Rw)
           case false=>
            go_wp2;go_ret;exact ⟨au (congrArg Value.bool (by rw [HR.o,gB,cW,cz,fh,gN,jW,mN,sA,yn,CN,ox];rfl)),BW.o⟩
           case true=>
            go_wp2;go_ret;exact ⟨au (congrArg Value.bool (by rw [HR.o,gB,cW,cz,fh,gN,jW,mN,sA,yn,CN,ox];rfl)),BW.o⟩
end Go.Proofs.YtfgliohpdgnmcaaGreat
