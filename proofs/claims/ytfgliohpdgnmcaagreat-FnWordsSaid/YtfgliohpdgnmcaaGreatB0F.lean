/- Lemmas for the walks of one claim (NodW, NodX). Conditions: bounds on sizes, as each names them. -/
import Derived.Test.YtfgliohpdgnmcaaGreatB0E
set_option linter.unusedVariables false
set_option linter.unusedSimpArgs false
set_option maxRecDepth 100000
set_option maxHeartbeats 8000000
namespace Go.Proofs.YtfgliohpdgnmcaaGreat
open Go.RowKit
open List (getElem_mem getElem_of_mem)
theorem C8 (x:aT) (cs:List Value) (w:World) (eC:x.c.wt≤1048576) (h:aM bM w x.c cs) :
 Calls Tryz.prog 90 #[.agg cs.toArray] w fun e w'=>(∃b,e = .returned (.bool b)∧(b=true→x.c.wt≤21))∧Below w w w':=by
 have hw:=dx x;have o6:x.al.length≤1048576:=by omega
 have uY:x.da.length≤1048576:=by omega
 have wI:x.al.length+(cat aX.c x.al).wt≤1048576:=by rw [pZ];omega
 have HW:=Hi hw;clear hw eC;obtain ⟨Ad,kd,Af,kf,rfl,s0,s1⟩:=aT.open h;have S0:=Hi s0;have S1:=Hi s1;clear h s0 s1;have D:=Hi ((NW.rm w).iW (fun b hb=>by cases hb) 80 (rL x Ad kd Af kf));go_enter Tryz.func90,Tryz.ntmps90;have c2:=D.o.c0 2 rfl;have c3:=D.o.c0 3 rfl;have c4:=D.o.c0 4 rfl;have c5:=D.o.c0 5 rfl;have c6:=D.o.c0 6 rfl;go_wp2_with ((with_reducible apply Gl 25);refine bQ D.o.e0 0 aC rfl rfl ?_);refine (kN x.id _ _ (aX.shut (x:=x.id))).mono ?_;rintro e w1 ⟨rfl,hb⟩;have D1:=Hi (D.o.below hb);clear hb c2 c3 c4 c5 c6;have c2:=D1.o.c0 2 rfl;have c3:=D1.o.c0 3 rfl;have c4:=D1.o.c0 4 rfl;have c5:=D1.o.c0 5 rfl;have c6:=D1.o.c0 6 rfl;cases gB:fK x.id
 case false=>
  go_wp2;go_ret;exact ⟨⟨_,au rfl,fun h=>by cases h⟩,D1.o.st.toBelow Nr⟩
 case true=>
  go_wp2_with fail;refine (ew _ _ _ _).mono ?_;rintro e w' ⟨rfl,rfl⟩;cases cW:gD 0 600 x.aS
  case false=>
   go_wp2;go_ret;exact ⟨⟨_,au rfl,fun h=>by cases h⟩,D1.o.st.toBelow Nr⟩
  case true=>
   go_wp2_with fail;refine (ew _ _ _ _).mono ?_;rintro e w' ⟨rfl,rfl⟩;cases cz:gD 1 3 x.phase
   case false=>
    go_wp2;go_ret;exact ⟨⟨_,au rfl,fun h=>by cases h⟩,D1.o.st.toBelow Nr⟩
   case true=>
    go_wp2_with fail;refine (ew _ _ _ _).mono ?_;rintro e w' ⟨rfl,rfl⟩;cases fh:gD 0 60 x.seq
    case false=>
     go_wp2;go_ret;exact ⟨⟨_,au rfl,fun h=>by cases h⟩,D1.o.st.toBelow Nr⟩
    case true=>
     go_wp2_with fail;refine (qU x.al Ad _ kd _ rfl wI (S0.o.below (D1.o.st.toBelow Nr))).mono ?_;rintro e w2 ⟨rfl,hb⟩;have D2:=Hi (D1.o.below hb);clear hb c2 c3 c4 c5 c6;have c2:=D2.o.c0 2 rfl;have c3:=D2.o.c0 3 rfl;have c4:=D2.o.c0 4 rfl;have c5:=D2.o.c0 5 rfl;have c6:=D2.o.c0 6 rfl;cases gN:ek x.al
     case false=>
      go_wp2;go_ret;exact ⟨⟨_,au rfl,fun h=>by cases h⟩,D2.o.st.toBelow Nr⟩
     case true=>
      go_wp2_with ((with_reducible apply Gl 25);refine an _ (by first|rfl|kernel_rfl) ⟨w,0,none⟩ rfl [x.id.rep,x.id.slot] aC rfl (dL (L1:=[]) (E:=[x.id.rep,x.id.slot]) D2.o.e0 rfl) ?_);refine (tB x.al x.id Ad _ kd _ _ rfl o6 (S0.o.below (D2.o.st.toBelow Nr)) (aX.shut (x:=x.id))).mono ?_;rintro e w3 ⟨rfl,hb⟩;have D3:=Hi (D2.o.below hb);clear hb c2 c3 c4 c5 c6;have c2:=D3.o.c0 2 rfl;have c3:=D3.o.c0 3 rfl;have c4:=D3.o.c0 4 rfl;have c5:=D3.o.c0 5 rfl;have c6:=D3.o.c0 6 rfl;cases jW:Aah x.al x.id
      case true=>
       go_wp2;go_ret;exact ⟨⟨_,au rfl,fun h=>by cases h⟩,D3.o.st.toBelow Nr⟩
      case false=>
       by_cases xu:(x.da.length:Int)>3
       ·go_wp2;go_ret;exact ⟨⟨_,au rfl,fun h=>by cases h⟩,D3.o.st.toBelow Nr⟩
       ·have hdn:=oy gN;have Sd:x.da.length≤3:=by omega
        have mZ:=Hi (show x.c.wt≤21 from by have:=HW.o;omega);go_wp2_with fail;go_loopw [3] (fun ii wr=>∃i:Nat,i≤x.da.length∧ii = .int .i64 (i:Int)∧NW w w (.slice none 0 0) [(w,80,(rL x Ad kd Af kf))] wr (.slice none 0 0)) (fun ii _=>x.da.length-(intOf ii).toNat);case atStart=>exact ⟨0,Nat.zero_le _,rfl,D3.o⟩
        case round=>
         obtain ⟨i,hi,rfl,hD⟩:=hrel;have DL:=Hi hD;clear hD c2 c3 c4 c5 c6;have c5:=DL.o.c0 6 rfl;by_cases dS:i<x.da.length
         ·have qe:(i:Int)<(x.da.length:Int):=by omega
          go_wp2_with fail;refine ax 25 Gj (by kernel_rfl) (by kernel_rfl) ?_;have DR:=Hi DL.o.drew;have c6:=DR.o.c0 6 rfl;obtain ⟨ada,ci,Zq,-,-,bZ,-,hc⟩:=((S1.o.below (DR.o.st.toBelow Nr))).elem (f:=qS) (fun _=>rfl) (i) dS rfl;obtain ⟨c',rfl,hn⟩:=aM.int.1 (show aM _ _ (.int (x.da[i]) .nil) ci from bZ);have fa:=hc 0 _ rfl;simp only [Nat.mul_one,je,Nat.add_zero] at fa;clear hc bZ hn;subst Zq;iterate 5 (refine ae rfl (by kernel_rfl) rfl ?_;go_wp2;refine ⟨rfl,?_⟩)
          refine aA rfl (by kernel_rfl) ?_;go_wp2_with fail;refine (mj _ _).mono ?_;rintro e w' ⟨rfl,rfl⟩;cases nO:gD 0 2 (x.da[i])
          case false=>
           go_wp2;refine ⟨Ext.refl _,?_⟩;iterate 2 (refine ae rfl (by kernel_rfl) rfl ?_;go_wp2;refine ⟨rfl,?_⟩)
           (iterate 6 (refine bn rfl rfl (by kernel_rfl) ?_));simp only [fk,ft,fu];(iterate 6 (refine bn rfl rfl (by kernel_rfl) ?_));simp only [fk,ft,fu];(iterate 4 (refine bn rfl rfl (by kernel_rfl) ?_));simp only [fk,ft,fu]
           (refine ae rfl (by kernel_rfl) rfl ?_;go_wp2;refine ⟨rfl,?_⟩)
           refine aO ?_;try simp only [eo,ep]
           go_wp2;go_ret;exact ⟨⟨_,au rfl,fun h=>by cases h⟩,DR.o.st.toBelow Nr⟩
          case true=>
           go_wp2;refine ⟨Ext.refl _,?_⟩;by_cases KP:0<i
           ·have Ei:(i:Int)>0:=by omega
            have R5:i-1<x.da.length:=by omega
            obtain ⟨MF,ci,Hs,-,-,bZ,-,hc⟩:=((S1.o.below (DR.o.st.toBelow Nr))).elem (f:=qS) (fun _=>rfl) (i-1) R5 rfl;obtain ⟨c',rfl,hn⟩:=aM.int.1 (show aM _ _ (.int (x.da[i-1]) .nil) ci from bZ);injection Hs with Hs;subst Hs;have fb:=hc 0 _ rfl;simp only [Nat.mul_one,je,Nat.add_zero] at fb;clear hc bZ hn;have hi1:(i:Int)-1=((i-1:Nat):Int):=by omega
            iterate 19 (refine ae rfl (by kernel_rfl) rfl ?_;go_wp2;refine ⟨rfl,?_⟩)
            refine aO ?_;try simp only [eo,ep]
            by_cases lP:x.da[i-1] ≥ x.da[i]
            ·go_wp2;go_ret;exact ⟨⟨_,au rfl,fun h=>by cases h⟩,DR.o.st.toBelow Nr⟩
            ·go_wp2_with fail;exact ⟨⟨i+1,by omega,by go_num,DR.o⟩,by simp only [intOf];omega⟩
           ·have Ei:¬(i:Int)>0:=by omega
            iterate 5 (refine ae rfl (by kernel_rfl) rfl ?_;go_wp2;refine ⟨rfl,?_⟩)
            (iterate 6 (refine bn rfl rfl (by kernel_rfl) ?_));simp only [fk,ft,fu];(iterate 6 (refine bn rfl rfl (by kernel_rfl) ?_));simp only [fk,ft,fu]
            iterate 2 (refine ae rfl (by kernel_rfl) rfl ?_;go_wp2;refine ⟨rfl,?_⟩)
            refine aO ?_;try simp only [eo,ep]
            go_wp2_with fail;exact ⟨⟨i+1,by omega,by go_num,DR.o⟩,by simp only [intOf];omega⟩
         ·have qe:¬(i:Int)<(x.da.length:Int):=by omega
          go_wp2;go_ret;refine And.intro ?_ (DL.o.st.toBelow Nr);first|exact ⟨true,au rfl,fun _=>mZ.o⟩|exact ⟨au rfl,mZ.o⟩|(constructor;exact au rfl;exact mZ.o)|(have hz:=mZ.o;simp [hz])|(have hz:=mZ.o;simp only [hz,and_true];exact au rfl)|done
theorem m0 (n:aY) (cs:List Value) (w:World) (eC:n.c.wt≤1048576) (h:aM bM w n.c cs) :
 Calls Tryz.prog 71 #[.agg cs.toArray] w fun e w'=>(∃b,e = .returned (.bool b)∧(b=true→Good n))∧Below w w w':=by
 have hw:=sH n;have Zr:n.insts.length+(cat ak.c n.insts).wt≤1048576:=by omega
 have Ma:n.insts.length≤1048576:=by omega
 have Jc:n.leads.length≤1048576:=by omega
 have La:=Hi (show ∀y∈n.leads,y.c.wt≤1048576 from fun y hy=>by have h1:=ko (f:=aT.c) hy;omega);clear hw eC;have HN:=Hi h;obtain ⟨A0,k0,A1,k1,rfl,s0,s1⟩:=aY.open h;have S0:=Hi s0;have S1:=Hi s1;clear h s0 s1;have D:=Hi ((NW.rm w).iW (fun b hb=>by cases hb) 47 (rN n A0 k0 A1 k1));go_enter Tryz.func71,Tryz.ntmps71;have c0:=D.o.c0 0 rfl;have c1:=D.o.c0 1 rfl;have c2:=D.o.c0 2 rfl;have c3:=D.o.c0 3 rfl;go_wp2_with fail;refine (mj _ _).mono ?_;rintro e w' ⟨rfl,rfl⟩;cases gB:gD 0 2 n.me
 case false=>
  go_wp2;go_ret;exact ⟨⟨_,au rfl,fun h=>by cases h⟩,D.o.st.toBelow Nr⟩
 case true=>
  go_wp2_with fail;refine (ew _ _ _ _).mono ?_;rintro e w' ⟨rfl,rfl⟩;cases cW:gD 1 7 n.next
  case false=>
   go_wp2;go_ret;exact ⟨⟨_,au rfl,fun h=>by cases h⟩,D.o.st.toBelow Nr⟩
  case true=>
   go_wp2_with fail;refine (za n.insts A0 _ k0 _ rfl Zr (S0.o.below (D.o.st.toBelow Nr))).mono ?_;rintro e w1 ⟨rfl,hb⟩;have D1:=Hi (D.o.below hb);clear hb c0 c1 c2 c3;have c0:=D1.o.c0 0 rfl;have c1:=D1.o.c0 1 rfl;have c2:=D1.o.c0 2 rfl;have c3:=D1.o.c0 3 rfl;cases cz:Pi n.insts
   case false=>
    go_wp2;go_ret;exact ⟨⟨_,au rfl,fun h=>by cases h⟩,D1.o.st.toBelow Nr⟩
   case true=>
    by_cases K0:(n.leads.length:Int)>8
    ·go_wp2;go_ret;exact ⟨⟨_,au rfl,fun h=>by cases h⟩,D1.o.st.toBelow Nr⟩
    ·have TX:n.leads.length≤8:=by omega
     go_wp2_with fail;go_loopw [3] (fun ii wr=>∃i:Nat,i≤n.insts.length∧ii = .int .i64 (i:Int)∧NW w w (.slice none 0 0) [(w,47,(rN n A0 k0 A1 k1))] wr (.slice none 0 0)) (fun ii _=>n.insts.length-(intOf ii).toNat);case atStart=>exact ⟨0,Nat.zero_le _,rfl,D1.o⟩
     case round=>
      obtain ⟨i,hi,rfl,hD⟩:=hrel;have DL:=Hi hD;clear hD c0 c1 c2 c3;have c0:=DL.o.c0 0 rfl;have c1:=DL.o.c0 1 rfl;have c2:=DL.o.c0 2 rfl;have c3:=DL.o.c0 3 rfl;by_cases dS:i<n.insts.length
      ·have qe:(i:Int)<(n.insts.length:Int):=by omega
       go_wp2_with fail;refine ax 22 yQ (by kernel_rfl) (by kernel_rfl) ?_;have DR:=Hi DL.o.drew;clear c0 c1 c2 c3;have c0:=DR.o.c0 0 rfl;have c1:=DR.o.c0 1 rfl;have c2:=DR.o.c0 2 rfl;have c3:=DR.o.c0 3 rfl;obtain ⟨ad,ci,hA,-,-,bZ,-,hc⟩:=((S0.o.below (DR.o.st.toBelow Nr))).elem ak.width i dS rfl;obtain ⟨Ac,kc,Ax,kx,rfl,-,-⟩:=ak.open bZ;have e0:=hc 0 _ rfl;have e1:World.cell? _ ⟨(ad.add (i*16)).block,(ad.add (i*16)).off+1,none⟩=_:=hc 1 _ rfl;simp only [je,Nat.add_zero] at e0;clear hc bZ;subst hA;generalize n.insts[i].id.rep=xr at *;generalize n.insts[i].id.slot=eL at *;by_cases K1:xr=n.me
       ·have TY:(xr == n.me)=true:=by simp [K1]
        clear K1;iterate 22 (refine ae rfl (by kernel_rfl) rfl ?_;go_wp2;refine ⟨rfl,?_⟩)
        refine aO ?_;try simp only [eo,ep]
        by_cases lP:eL ≥ n.next
        ·go_wp2;go_ret;exact ⟨⟨_,au rfl,fun h=>by cases h⟩,DR.o.st.toBelow Nr⟩
        ·go_wp2_with fail;exact ⟨⟨i+1,by omega,by go_num,DR.o⟩,by simp only [intOf];omega⟩
       ·have TY:(xr == n.me)=false:=by simp [K1]
        clear K1;iterate 11 (refine ae rfl (by kernel_rfl) rfl ?_;go_wp2;refine ⟨rfl,?_⟩)
        (iterate 6 (refine bn rfl rfl (by kernel_rfl) ?_));simp only [fk,ft,fu];(iterate 4 (refine bn rfl rfl (by kernel_rfl) ?_));simp only [fk,ft,fu]
        (refine ae rfl (by kernel_rfl) rfl ?_;go_wp2;refine ⟨rfl,?_⟩)
        refine aO ?_;try simp only [eo,ep]
        go_wp2_with fail;exact ⟨⟨i+1,by omega,by go_num,DR.o⟩,by simp only [intOf];omega⟩
      ·have qe:¬(i:Int)<(n.insts.length:Int):=by omega
       go_wp2_with fail;clear hi dS qe;have DM:=Hi DL.o;clear DL;go_loopw [4] (fun jj wr=>∃j:Nat,j≤n.leads.length∧jj = .int .i64 (j:Int)∧(∀i (h:i<n.leads.length),i<j→n.leads[i].c.wt≤21)∧NW w w (.slice none 0 0) [(w,47,(rN n A0 k0 A1 k1))] wr (.slice none 0 0)) (fun jj _=>n.leads.length-(intOf jj).toNat);case atStart=>exact ⟨0,Nat.zero_le _,rfl,fun i _ h=>absurd h (Nat.not_lt_zero _),DM.o⟩
       case round=>
        obtain ⟨j,hj,rfl,hw,hD⟩:=hrel;have WI:=Hi hw;clear hw;have DL:=Hi hD;clear hD c0 c1 c2 c3;have c0:=DL.o.c0 0 rfl;have c1:=DL.o.c0 1 rfl;have c2:=DL.o.c0 2 rfl;have c3:=DL.o.c0 3 rfl;by_cases dS:j<n.leads.length
        ·have qe:(j:Int)<(n.leads.length:Int):=by omega
         go_wp2_with fail;refine ax 19 [0,1,2,3,4,5,6,7,8,9,10,11,12,13,14,16,15,17,18] (by kernel_rfl) (by kernel_rfl) ?_;have DR:=Hi DL.o.drew;clear c0 c1 c2 c3;have c0:=DR.o.c0 0 rfl;have c1:=DR.o.c0 1 rfl;have c2:=DR.o.c0 2 rfl;have c3:=DR.o.c0 3 rfl;obtain ⟨ad,ci,hA,-,C6,bZ,K0,hc⟩:=(S1.o).elem aT.width j dS rfl;have Se:=La.o _ (getElem_mem dS);have Zs:=Hi (show n.leads[j].c.wt≤21→∀i (h:i<n.leads.length),i<j+1→n.leads[i].c.wt≤21 from fun h1 i h h2=>by
          by_cases y4:i=j
          ·subst y4;exact h1
          ·exact WI.o i h (by omega));have HC:=Hi (show ∀v,Below w w v→∀f u,ci[f]?=some u→v.cell? ((ad.add (j*8)).add f)=some u from fun v hb f u hf=>by
          rw [World.cell?_of_block (w:=w) (hb.block _ (by rw [cR,cR];exact C6))];exact hc f u hf);have gP:=Hi bZ;clear bZ hc;subst hA;generalize n.leads[j]=y at *;iterate 4 (refine ae rfl (by kernel_rfl) rfl ?_;go_wp2;refine ⟨rfl,?_⟩)
         refine ae rfl (by kernel_rfl) rfl ?_;go_wp2_with (refine Fn _ (ad.add (j*8)) rfl ci bV K0 (HC.o _ (DR.o.st.toBelow Nr)) ?_);refine ⟨rfl,?_⟩;refine aA rfl (by kernel_rfl) ?_;go_wp2_with fail;refine (C8 y ci _ Se (gP.o.below (DR.o.st.toBelow Nr))).mono ?_;rintro e v1 ⟨⟨b,rfl,j9⟩,hb⟩;have xM:=hb;have D2:=Hi (DR.o.below hb);clear hb;cases b with
         |false=>
          go_wp2;refine ⟨Ext.aJ xM,?_⟩;iterate 2 (refine ae rfl (by kernel_rfl) rfl ?_;go_wp2;refine ⟨rfl,?_⟩)
          (iterate 6 (refine bn rfl rfl (by kernel_rfl) ?_));simp only [fk,ft,fu];(iterate 4 (refine bn rfl rfl (by kernel_rfl) ?_));simp only [fk,ft,fu]
          (refine ae rfl (by kernel_rfl) rfl ?_;go_wp2;refine ⟨rfl,?_⟩)
          refine aO ?_;try simp only [eo,ep]
          go_wp2;go_ret;exact ⟨⟨_,au rfl,fun h=>by cases h⟩,D2.o.st.toBelow Nr⟩
         |true=>
          clear c0 c1 c2 c3;have c0:=D2.o.c0 0 rfl;have c1:=D2.o.c0 1 rfl;have c2:=D2.o.c0 2 rfl;have c3:=D2.o.c0 3 rfl;go_wp2;refine ⟨Ext.aJ xM,?_⟩;clear xM;iterate 2 (refine ae rfl (by kernel_rfl) rfl ?_;go_wp2;refine ⟨rfl,?_⟩)
          refine ae rfl (by kernel_rfl) rfl ?_;go_wp2_with (refine an _ (by first|rfl|kernel_rfl) ⟨w,0,none⟩ rfl (rN n A0 k0 A1 k1) ab rfl (ag D2.o.e0) ?_);refine ⟨rfl,?_⟩;iterate 5 (refine ae rfl (by kernel_rfl) rfl ?_;go_wp2;refine ⟨rfl,?_⟩)
          obtain ⟨Ay,ky,By,gy,JN,-,-⟩:=aT.open gP.o;have hid:=vc gP.o (HC.o _ (D2.o.st.toBelow Nr));refine ae rfl (by kernel_rfl) rfl ?_;go_wp2_with (refine an _ (by first|rfl|kernel_rfl) (ad.add (j*8)) rfl [y.id.rep,y.id.slot] aC rfl hid ?_);refine ⟨rfl,?_⟩
          (refine ae rfl (by kernel_rfl) rfl ?_;go_wp2;refine ⟨rfl,?_⟩)
          refine aA rfl (by kernel_rfl) ?_;go_wp2_with fail;refine (nN n y.id _ _ _ Jc (HN.o.below (D2.o.st.toBelow Nr)) (aX.shut (x:=y.id))).mono ?_;rintro e v2 ⟨q,rfl,A6,I6,hb⟩;have xM:=hb;have D3:=Hi (D2.o.below hb);clear hb;go_wp2;refine ⟨Ext.aJ xM,?_⟩;by_cases xJ:q=(j:Int)
          ·have KU:(q != (j:Int))=false:=by simp [xJ]
           clear xJ;iterate 2 (refine ae rfl (by kernel_rfl) rfl ?_;go_wp2;refine ⟨rfl,?_⟩)
           refine aO ?_;try simp only [eo,ep]
           go_wp2_with fail;exact ⟨⟨j+1,by omega,by go_num,Zs.o (j9 (by trivial)),D3.o⟩,by simp only [intOf];omega⟩
          ·have KU:(q != (j:Int))=true:=by simp [xJ]
           clear xJ;iterate 2 (refine ae rfl (by kernel_rfl) rfl ?_;go_wp2;refine ⟨rfl,?_⟩)
           refine aO ?_;try simp only [eo,ep]
           go_wp2;go_ret;exact ⟨⟨_,au rfl,fun h=>by cases h⟩,D3.o.st.toBelow Nr⟩
        ·have qe:¬(j:Int)<(n.leads.length:Int):=by omega
         have mZ:=Hi (show Good n from ⟨by have h1:=gB;simp only [gD,Bool.and_eq_true,decide_eq_true_eq] at h1;omega,cz,TX,fun y hy=>by
          obtain ⟨i,hi,rfl⟩:=getElem_of_mem hy;exact WI.o i hi (by omega)⟩);go_wp2;go_ret;first|exact ⟨true,au rfl,fun _=>mZ.o⟩|exact ⟨⟨au rfl,mZ.o⟩,DL.o.st.toBelow Nr⟩|exact ⟨⟨true,au rfl,fun _=>mZ.o⟩,DL.o.st.toBelow Nr⟩|(refine ⟨?_,DL.o.st.toBelow Nr⟩;first|exact ⟨true,au rfl,fun _=>mZ.o⟩|exact ⟨au rfl,mZ.o⟩|(constructor;exact au rfl;exact mZ.o)|(have hz:=mZ.o;simp [hz])|(have hz:=mZ.o;simp only [hz,and_true];exact au rfl))
end Go.Proofs.YtfgliohpdgnmcaaGreat
