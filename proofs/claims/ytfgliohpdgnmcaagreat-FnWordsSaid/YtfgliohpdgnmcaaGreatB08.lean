/- Lemmas for the walks of one claim (Ret, ENode, MsgD, InI, InS, Insts, Attrs). Conditions: bounds on sizes, as each names them. -/
import Derived.Test.YtfgliohpdgnmcaaGreatB05
import Derived.Test.YtfgliohpdgnmcaaGreatB07
set_option linter.unusedVariables false
set_option linter.unusedSimpArgs false
set_option maxRecDepth 100000
set_option maxHeartbeats 8000000
namespace Go.Proofs.YtfgliohpdgnmcaaGreat
open Go.RowKit
open List (length_cons map_append cons_append take_succ_eq_append_getElem getElem_mem length_map)
theorem aK {P:Program} {fn:Func} {R:Ending→World→Prop} {a:Act} {w:World} {s s2:Tmp} {t n:Nat} (lH:fn.results=#[.cell s t,.tmp s2]) (p:Addr) (hp:a.tmps.getD s undef = .pointer (some p)) (cs:List Value) (u:Value) (hu:a.tmps.getD s2 undef=u) (h:nV P t n) (hl:cs.length=n)
 (hc:∀j v,cs[j]?=some v→w.cell? (p.add j)=some v) (hd:a.defers=[]) (hR:R (.returned (.tuple #[.agg cs.toArray,u])) w):bodyPost P fn R .ret a w:=by
 refine bodyPost_ret (v:= .tuple #[.agg cs.toArray,u]) ?_ hd hR;unfold results;rw [lH];have KM:a.tmps[s]?.getD undef = .pointer (some p):=by simpa using hp
 have N6:a.tmps[s2]?.getD undef=u:=by simpa using hu
 simp [KM,N6,asAddr,loadVar,(hl ▸ h:nV P t cs.length).isAgg,(hl ▸ h:nV P t cs.length).size,run_loadCells_list (P:=P) (w:=w) p cs hc,Result.andThen]
theorem Own.uX {w:World} {base e sz:Nat} (i:Cs) (hi:i = .nil):Own w base (.sl e sz 0 i .nil) [cL] []:=by
 subst hi;exact Own.zW.2 ⟨[],[],rfl,by simp [Cs.width],⟨by simp,.inl ⟨rfl,rfl⟩⟩,Own.nil.2 ⟨rfl,rfl⟩⟩
theorem yl (x:Int) (w:World) :
 Calls Tryz.prog 57 #[x] w fun e w'=>e = .returned (.bool (gD 0 2 x))∧w=w':=by
 go_enter Tryz.func57,Tryz.ntmps57;go_wp2_with fail;refine (fo _ _ _ _).mono ?_;rintro e w' ⟨rfl,rfl⟩;go_wp2;go_ret;exact ⟨rfl,rfl⟩
theorem mj (x:Int) (w:World) :
 Calls Tryz.prog 37 #[x] w fun e w'=>e = .returned (.bool (gD 0 2 x))∧w=w':=by
 by_cases h:0≤x
 ·by_cases h2:x<3
  ·have HR:=Hi (show gD 0 2 x=true from lX (by omega) (by omega));go_enter Tryz.func37,Tryz.ntmps37;go_wp2;go_ret;exact ⟨au (by rw [HR.o];rfl),rfl⟩
  ·have HR:=Hi (show gD 0 2 x=false from iu (by omega));go_enter Tryz.func37,Tryz.ntmps37;go_wp2;go_ret;exact ⟨au (by rw [HR.o];rfl),rfl⟩
 ·have HR:=Hi (show gD 0 2 x=false from iu (by omega));go_enter Tryz.func37,Tryz.ntmps37;go_wp2;go_ret;exact ⟨au (by rw [HR.o];rfl),rfl⟩
def N7 (me:Int):aY × Bool:=if gD 0 2 me=true then (⟨me,1,[],[]⟩,true) else (⟨0,0,[],[]⟩,false)
noncomputable def du (m:aV):Bool:=gD 1 7 m.kind && (gD 0 2 m.da && (gD 0 2 m.to && ((m.da != m.to) && (fK m.id && (gD 0 600 m.aS && (dQ m.cmd && (gD 0 60 m.seq && (ek m.al && (!Aah m.al m.id && (gD 0 3 m.status && gD (-1) 600 m.bB))))))))))
noncomputable def jN (x y:aV):Bool:=(x.kind == y.kind) && ((x.da == y.da) && ((x.to == y.to) && ((x.id.rep == y.id.rep) && ((x.id.slot == y.id.slot) && ((x.aS == y.aS) && (cC x.cmd y.cmd && ((x.seq == y.seq) && (decide (x.al=y.al) && ((x.status == y.status) && ((x.bB == y.bB) && (x.same == y.same)))))))))))
noncomputable def Aaa (x:ak):Bool:=fK x.id && (gD (-1) 600 x.aS && (gD (-1) x.aS x.bB && (gD 0 3 x.status && (dQ x.cmd && (gD 0 60 x.seq && (ek x.al && (!Aah x.al x.id && (x.status != 0 || (x.bB == -1 && (x.cmd.kind == 0 && (x.seq == 0 && ((x.al.length:Int) == 0 && !x.same))))))))))))
theorem AR (xs:List aX) (x:aX) (A:Option Addr) (n c:Nat) (cs:List Value) (w:World) (hn:n=xs.length) (eC:n+(cat aX.c xs).wt≤1048576) (h:aM bM w (.sl 25 2 n (cat aX.c xs) .nil) [.slice A n c]) (h':aM bM w x.c cs) :
 Calls Tryz.prog 60 #[.slice A n c,.agg cs.toArray] w fun e w'=>e = .returned (.bool (ek xs && !Aah xs x))∧Below w w w':=by
 have hr:=h';obtain rfl:=aX.open h';have H:=Hi h;clear h;have HR:=Hi hr;clear hr h';have HN:=Hi hn;clear hn;have AS:n≤1048576:=by omega
 obtain ⟨a,b⟩:=x;simp only [] at HR ⊢;go_enter Tryz.func60,Tryz.ntmps60;go_wp2_with fail;refine (CK xs A n c _ HN.o eC (H.o.below (by repeat' (first|with_reducible (first|exact Br|exact BW.o|apply Bs|apply Ba|apply Bd)|(simp<;>omega)|omega)))).mono ?_;rintro e w1 ⟨rfl,hb⟩;have SB:=Hi (bf.below (bH _ _ _) hb);have BW:=Hi (show Below w w w1 from Below.trans (by repeat' (first|with_reducible (first|exact Br|exact BW.o|apply Bs|apply Ba|apply Bd)|(simp<;>omega)|omega)) (hb.mono (by first|(simp<;>omega)|omega)));clear hb;cases h1:ek xs
 case false=>
  go_wp2;go_ret;exact ⟨au (congrArg Value.bool (by rw [h1];rfl)),BW.o⟩
 case true=>
  have y1:=ah SB.o 0 rfl;have tq:=ah SB.o 1 rfl;go_wp2_with (refine an _ (by first|rfl|kernel_rfl) ⟨w,0,none⟩ rfl [a,b] aC rfl (ag SB.o) ?_);refine (vS xs ⟨a,b⟩ A n c _ _ HN.o AS (H.o.below BW.o) (HR.o.below BW.o)).mono ?_;rintro e w2 ⟨rfl,hb⟩;replace BW:=Hi (Bt BW.o hb);clear hb;go_wp2;go_ret;exact ⟨au (congrArg Value.bool (by rw [h1];rfl)),BW.o⟩
end Go.Proofs.YtfgliohpdgnmcaaGreat
namespace Go.Proofs.YtfgliohpdgnmcaaGreat
open List (length_cons map_append cons_append take_succ_eq_append_getElem getElem_mem length_map)
open Go.RowKit
end Go.Proofs.YtfgliohpdgnmcaaGreat
namespace Go.Proofs.YtfgliohpdgnmcaaGreat
open Go.RowKit
open List (length_cons map_append cons_append take_succ_eq_append_getElem getElem_mem length_map)
theorem eu (x:ak) (ot:List Value) (w:World) (jO:x.c.wt≤1048576) (h0:aM bM w x.c ot) :
 Calls Tryz.prog 82 #[.agg ot.toArray] w fun e w'=>e = .returned (.bool (Aaa x))∧Below w w w':=by
 have lp:x.c.wt=(x.cmd.set.length+(x.cmd.name.length+(x.cmd.tag.length+(x.cmd.chunks.length+(cat cN x.cmd.chunks).wt+(x.al.length+(cat aX.c x.al).wt+0))))):=rfl;obtain ⟨pz,pA,tE,sy,rfl,ou,ov⟩:=ak.open h0;obtain ⟨⟨a0,a1⟩,a2,a3,a4,⟨a5,a6,a7,a8,a9,dR,dU,ec⟩,dN,gX,dV⟩:=x;simp only [] at ou ov lp ⊢;have YJ:a8.length≤1048576:=by omega
 have JF:a9.length≤1048576:=by omega
 have y5:dR.length≤1048576:=by omega
 have Ml:=Hi ou;clear ou;have To:ec.length+(cat cN ec).wt≤1048576:=by omega
 have JJ:=Hi ov;clear ov;have Po:gX.length+(cat aX.c gX).wt≤1048576:=by omega
 have qX:=Hi (show aM bM w (aX.c ⟨a0,a1⟩) [a0,a1] from aX.shut);have iJ:(aR.c ⟨a5,a6,a7,a8,a9,dR,dU,ec⟩).wt≤1048576:=by have e0:(aR.c ⟨a5,a6,a7,a8,a9,dR,dU,ec⟩).wt=(a8.length+(a9.length+(dR.length+(ec.length+(cat cN ec).wt+0)))):=rfl;omega
 have kb:=Hi (show aM bM w (aR.c ⟨a5,a6,a7,a8,a9,dR,dU,ec⟩) [a5,a6,a7,a8,a9,dR,dU,.slice pz ec pA] from aR.shut Ml.o);clear h0 jO lp;obtain ⟨R,hR⟩:∃R,R=Aaa (⟨⟨a0,a1⟩,a2,a3,a4,⟨a5,a6,a7,a8,a9,dR,dU,ec⟩,dN,gX,dV⟩:ak):=⟨_,rfl⟩;rw [←hR];rw [Aaa] at hR;simp only [] at hR;have HR:=Hi hR;clear hR;go_enter Tryz.func82,Tryz.ntmps82;go_wp2_with fail;refine (kN ⟨a0,a1⟩ _ _ (qX.o.below (by repeat' (first|with_reducible (first|exact Br|exact BW.o|apply Bs|apply Ba|apply Bd)|(simp<;>omega)|omega)))).mono ?_;rintro e v1 ⟨rfl,hb⟩;have B0:=Hi (bf.below (bH _ _ _) hb);have BW:=Hi (show Below w w v1 from Below.trans (by repeat' (first|with_reducible (first|exact Br|exact BW.o|apply Bs|apply Ba|apply Bd)|(simp<;>omega)|omega)) (hb.mono (by first|(simp<;>omega)|omega)));clear hb;have lL:=uW B0.o;cases gB:fK ⟨a0,a1⟩
 case false=>
  go_wp2;go_ret;exact ⟨au (congrArg Value.bool (by rw [HR.o,gB];rfl)),BW.o⟩
 case true=>
  go_wp2_with fail;refine (ew _ _ _ _).mono ?_;rintro e w' ⟨rfl,rfl⟩;cases cW:gD (-1) 600 a2
  case false=>
   go_wp2;go_ret;exact ⟨au (congrArg Value.bool (by rw [HR.o,gB,cW];rfl)),BW.o⟩
  case true=>
   go_wp2_with fail;refine (ew _ _ _ _).mono ?_;rintro e w' ⟨rfl,rfl⟩;cases cz:gD (-1) a2 a3
   case false=>
    go_wp2;go_ret;exact ⟨au (congrArg Value.bool (by rw [HR.o,gB,cW,cz];rfl)),BW.o⟩
   case true=>
    go_wp2_with fail;refine (ew _ _ _ _).mono ?_;rintro e w' ⟨rfl,rfl⟩;cases fh:gD 0 3 a4
    case false=>
     go_wp2;go_ret;exact ⟨au (congrArg Value.bool (by rw [HR.o,gB,cW,cz,fh];rfl)),BW.o⟩
    case true=>
     go_wp2_with fail;refine (kr ⟨a5,a6,a7,a8,a9,dR,dU,ec⟩ _ _ iJ (kb.o.below BW.o)).mono ?_;rintro e v2 ⟨rfl,hb⟩;replace B0:=Hi (B0.o.below hb);replace BW:=Hi (Bt BW.o hb);clear hb lL;have lL:=uW B0.o;cases gN:dQ ⟨a5,a6,a7,a8,a9,dR,dU,ec⟩
     case false=>
      go_wp2;go_ret;exact ⟨au (congrArg Value.bool (by rw [HR.o,gB,cW,cz,fh,gN];rfl)),BW.o⟩
     case true=>
      go_wp2_with fail;refine (ew _ _ _ _).mono ?_;rintro e w' ⟨rfl,rfl⟩;cases jW:gD 0 60 dN
      case false=>
       go_wp2;go_ret;exact ⟨au (congrArg Value.bool (by rw [HR.o,gB,cW,cz,fh,gN,jW];rfl)),BW.o⟩
      case true=>
       go_wp2_with fail;refine (qU gX _ _ _ _ rfl Po (JJ.o.below BW.o)).mono ?_;rintro e v3 ⟨rfl,hb⟩;replace B0:=Hi (B0.o.below hb);replace BW:=Hi (Bt BW.o hb);clear hb lL;have lL:=uW B0.o;cases mN:ek gX
       case false=>
        go_wp2;go_ret;exact ⟨au (congrArg Value.bool (by rw [HR.o,gB,cW,cz,fh,gN,jW,mN];rfl)),BW.o⟩
       case true=>
        go_wp2_with fail;refine (tB gX ⟨a0,a1⟩ _ _ _ _ _ rfl (by omega) (JJ.o.below BW.o) (qX.o.below BW.o)).mono ?_;rintro e v4 ⟨rfl,hb⟩;replace B0:=Hi (B0.o.below hb);replace BW:=Hi (Bt BW.o hb);clear hb lL;have lL:=uW B0.o;cases sA:Aah gX ⟨a0,a1⟩
        case true=>
         go_wp2;go_ret;exact ⟨au (congrArg Value.bool (by rw [HR.o,gB,cW,cz,fh,gN,jW,mN,sA];rfl)),BW.o⟩
        case false=>
         go_wp2;all_goals (go_ret;exact ⟨au (congrArg Value.bool (by rw [HR.o,gB,cW,cz,fh,gN,jW,mN,sA];rw [Bool.eq_iff_iff];first|(simp [*];done)|(simp_all;done))),BW.o⟩)
def Aad (xs:List ak) (j:Nat):Prop:=∀i,i<j→∃x,xs[i]?=some x∧Aaa x=true∧∀y,i≠0→xs[i-1]?=some y→eA y.id x.id=true
open Classical in
noncomputable def Pi (xs:List ak):Bool:=decide (Aad xs xs.length)
theorem Aaf (xs:List ak):Aad xs 0:=fun i hi=>absurd hi (Nat.not_lt_zero _)
theorem Aaj {xs:List ak} {j:Nat} (h:Aad xs j) (hj:j<xs.length) (h1:Aaa xs[j]=true) (h2:∀y,j≠0→xs[j-1]?=some y→eA y.id xs[j].id=true):Aad xs (j+1):=fun i hi=>by
 by_cases y4:i=j
 ·subst y4;exact ⟨xs[i],List.getElem?_eq_getElem hj,h1,h2⟩
 ·exact h i (by omega)
theorem Aae {xs:List ak} (h:Aad xs xs.length):Pi xs=true:=by simp [Pi,h]
theorem Aap {xs:List ak} {j:Nat} (hj:j<xs.length) (h1:Aaa xs[j]=false):Pi xs=false:=by
 simp only [Pi,decide_eq_false_iff_not];intro h;obtain ⟨x,h2,h3,_⟩:=h j hj;rw [List.getElem?_eq_getElem hj] at h2;injection h2 with h2;rw [h2,h3] at h1;cases h1
theorem Aaq {xs:List ak} {j:Nat} (hj:j+1<xs.length) (h1:eA (xs[j]'(by omega)).id xs[j+1].id=false):Pi xs=false:=by
 simp only [Pi,decide_eq_false_iff_not];intro h;obtain ⟨x,h2,_,h3⟩:=h (j+1) hj;rw [List.getElem?_eq_getElem hj] at h2;injection h2 with h2;have:=h3 (xs[j]'(by omega)) (by omega) (List.getElem?_eq_getElem (by omega));rw [←h2,h1] at this;cases this
theorem kO {B:Nat→Prop} {w w':World} {x:ak} {cs:List Value} {p:Addr} (h:aM B w' x.c cs) (hc:∀f v,cs[f]?=some v→w.cell? (p.add f)=some v):∀f v,[Value.int .i64 x.id.rep,Value.int .i64 x.id.slot][f]?=some v→w.cell? (p.add f)=some v:=by
 obtain ⟨A0,k0,A1,k1,rfl,_⟩:=ak.open h;intro f v hv;refine hc f v ?_;have dS:=(List.getElem?_eq_some_iff.1 hv).1;have:=List.getElem?_append_left (l₁:=[Value.int .i64 x.id.rep,Value.int .i64 x.id.slot]) (l₂:=[Value.int .i64 x.aS,Value.int .i64 x.bB,Value.int .i64 x.status,Value.int .i64 x.cmd.kind,Value.int .i64 x.cmd.aE,Value.int .i64 x.cmd.no,Value.string (bs x.cmd.set),Value.string (bs x.cmd.name),Value.string (bs x.cmd.tag),Value.int .i64 x.cmd.n,Value.slice A0 x.cmd.chunks k0,Value.int .i64 x.seq,Value.slice A1 x.al k1,Value.bool x.same]) dS;exact this.trans hv
theorem y9 (xs:List ak) (A:Option Addr) (n c:Nat) (w:World) (hn:n=xs.length) (FV:n≤2097152) (eC:∀y∈xs,(y.c).wt≤1048576) (h:aM bM w (.sl 106 16 n (cat ak.c xs) .nil) [.slice A n c]) :
 Calls Tryz.prog 89 #[.slice A n c] w fun e w'=>e = .returned (.bool (Pi xs))∧Below w w w':=by
 have YK:=Hi eC;clear eC;have HN:=Hi hn;clear hn;have HR:=Hi h;clear h;go_enter Tryz.func89,Tryz.ntmps89;go_wp2;go_loopw [3] (fun ii wr=>∃j:Nat,j≤n∧ii = .int .i64 (j:Int)∧Aad xs j∧Below w w wr) (fun ii _=>n-(intOf ii).toNat);case atStart=>exact ⟨0,Nat.zero_le _,rfl,Aaf _,Below.refl _ _⟩
 case round=>
  obtain ⟨j,hj,rfl,j9,bE⟩:=hrel;have HG:=Hi j9;clear j9;have BW:=Hi bE;clear bE;by_cases dS:j<n
  ·have fg:j<xs.length:=by have:=HN.o;omega
   obtain ⟨ad,ci,rfl,_,_,bZ,hl,hc⟩:=(HR.o.below BW.o).elem ak.width j fg HN.o;have IX:(xs[j].c).wt≤1048576:=YK.o _ (getElem_mem fg);have AM:=fun h=>Aap fg h
   have uj:=fun h1 h2=>Aaj HG.o fg h1 h2
   have px:∀m,(hm:j=m+1)→eA (xs[m]'(by omega)).id xs[j].id=false→Pi xs=false:=fun m hm h=>by subst hm;exact Aaq fg h
   have GH:=Hi AM;clear AM;have GI:=Hi uj;clear uj;have GJ:=Hi px;clear px;have HX:=Hi (show xs[j]?=some xs[j] from List.getElem?_eq_getElem fg);generalize xs[j]=x at *;have HL:=Hi hl;clear hl;have HC:=Hi hc;clear hc;have gP:=Hi bZ;clear bZ;cases mS:Aaa x with
   |false=>
    have HF:=Hi (GH.o mS);have nk:=Hi mS;clear mS;go_wp2;refine ax 25 Gj (by kernel_rfl) (by kernel_rfl) ?_;iterate 3 (refine ae rfl (by kernel_rfl) rfl ?_;go_wp2;refine ⟨rfl,?_⟩)
    refine ae rfl (by kernel_rfl) rfl ?_;go_wp2_with (refine Fn _ (ad.add (j*16)) rfl ci aw HL.o HC.o ?_);refine ⟨rfl,?_⟩;refine aA rfl (by kernel_rfl) ?_;go_wp2_with fail;refine (eu x ci _ IX gP.o.drew).mono ?_;rintro e v1 ⟨rfl,hb⟩;rw [nk.o];have HB:=Hi hb;clear hb;go_wp2;refine ⟨Ext.aJ HB.o,?_⟩;iterate 2 (refine ae rfl (by kernel_rfl) rfl ?_;go_wp2;refine ⟨rfl,?_⟩)
    (iterate 6 (refine bn rfl rfl (by kernel_rfl) ?_));simp only [fk,ft,fu];(iterate 6 (refine bn rfl rfl (by kernel_rfl) ?_));simp only [fk,ft,fu];(iterate 5 (refine bn rfl rfl (by kernel_rfl) ?_));simp only [fk,ft,fu]
    (refine ae rfl (by kernel_rfl) rfl ?_;go_wp2;refine ⟨rfl,?_⟩)
    refine aO ?_;simp only [eo,ep];go_wp2;go_ret;exact ⟨au (by rw [HF.o];rfl),BW.o.trans ((aW HB.o).mono BW.o.size)⟩
   |true=>
    have nk:=Hi mS;clear mS;cases j with
    |zero=>
     go_wp2;refine ax 25 Gj (by kernel_rfl) (by kernel_rfl) ?_;iterate 3 (refine ae rfl (by kernel_rfl) rfl ?_;go_wp2;refine ⟨rfl,?_⟩)
     refine ae rfl (by kernel_rfl) rfl ?_;go_wp2_with (refine Fn _ (ad.add (0*16)) rfl ci aw HL.o HC.o ?_);refine ⟨rfl,?_⟩;refine aA rfl (by kernel_rfl) ?_;go_wp2_with fail;refine (eu x ci _ IX gP.o.drew).mono ?_;rintro e v1 ⟨rfl,hb⟩;rw [nk.o];have HB:=Hi hb;clear hb;go_wp2;refine ⟨Ext.aJ HB.o,?_⟩;iterate 5 (refine ae rfl (by kernel_rfl) rfl ?_;go_wp2;refine ⟨rfl,?_⟩)
     (iterate 6 (refine bn rfl rfl (by kernel_rfl) ?_));simp only [fk,ft,fu];(iterate 6 (refine bn rfl rfl (by kernel_rfl) ?_));simp only [fk,ft,fu];((refine bn rfl rfl (by kernel_rfl) ?_));simp only [fk,ft,fu]
     iterate 2 (refine ae rfl (by kernel_rfl) rfl ?_;go_wp2;refine ⟨rfl,?_⟩)
     refine aO ?_;simp only [eo,ep];go_wp2;exact ⟨⟨1,by omega,by go_num,GI.o nk.o (fun _ h=>absurd rfl h),BW.o.trans ((aW HB.o).mono BW.o.size)⟩,by simp only [intOf];omega⟩
    |succ m=>
     have KN:m<xs.length:=by omega
     obtain ⟨rQ,cp,he,_,_,bZ,hl,hc⟩:=(HR.o.below BW.o).elem ak.width m KN HN.o;injection he with he;subst he;have px:=GJ.o m rfl;have HY:=Hi (show xs[m]?=some xs[m] from List.getElem?_eq_getElem KN);generalize xs[m]=y at *;have N4:=Hi hl;clear hl;have uI:=Hi hc;clear hc;have Ea:=Hi bZ;clear bZ;have qE:=Hi px;clear px;cases fE:eA y.id x.id with
     |false=>
      have HF:=Hi (qE.o fE);have rG:=Hi fE;clear fE;go_wp2;refine ax 25 Gj (by kernel_rfl) (by kernel_rfl) ?_;iterate 3 (refine ae rfl (by kernel_rfl) rfl ?_;go_wp2;refine ⟨rfl,?_⟩)
      refine ae rfl (by kernel_rfl) rfl ?_;go_wp2_with (refine Fn _ (ad.add ((m+1)*16)) rfl ci aw HL.o HC.o ?_);refine ⟨rfl,?_⟩;refine aA rfl (by kernel_rfl) ?_;go_wp2_with fail;refine (eu x ci _ IX gP.o.drew).mono ?_;rintro e v1 ⟨rfl,hb⟩;rw [nk.o];have HB:=Hi hb;clear hb;have JE:=Hi (kO gP.o (db HC.o (aW HB.o)));have EZ:=Hi (kO Ea.o (db uI.o (aW HB.o)));go_wp2;refine ⟨Ext.aJ HB.o,?_⟩;iterate 10 (refine ae rfl (by kernel_rfl) rfl ?_;go_wp2;refine ⟨rfl,?_⟩)
      refine ae rfl (by kernel_rfl) rfl ?_;go_wp2_with (refine an _ rfl (ad.add (m*16)) rfl [y.id.rep,y.id.slot] aC rfl EZ.o ?_);refine ⟨rfl,?_⟩;iterate 4 (refine ae rfl (by kernel_rfl) rfl ?_;go_wp2;refine ⟨rfl,?_⟩)
      refine ae rfl (by kernel_rfl) rfl ?_;go_wp2_with (refine an _ rfl (ad.add ((m+1)*16)) rfl [x.id.rep,x.id.slot] aC rfl JE.o ?_);refine ⟨rfl,?_⟩;refine aA rfl (by kernel_rfl) ?_;go_wp2_with fail;refine (fH y.id x.id [y.id.rep,y.id.slot] [x.id.rep,x.id.slot] _ aX.shut aX.shut).mono ?_;rintro e v2 ⟨rfl,hb⟩;rw [rG.o];have qV:=Hi hb;clear hb;go_wp2;refine ⟨Ext.aJ qV.o,?_⟩;iterate 3 (refine ae rfl (by kernel_rfl) rfl ?_;go_wp2;refine ⟨rfl,?_⟩)
      refine aO ?_;simp only [eo,ep];go_wp2;go_ret;exact ⟨au (by rw [HF.o];rfl),(BW.o.trans ((aW HB.o).mono BW.o.size)).trans (qV.o.mono (Nt BW.o.size HB.o.size))⟩
     |true=>
      have rG:=Hi fE;clear fE;go_wp2;refine ax 25 Gj (by kernel_rfl) (by kernel_rfl) ?_;iterate 3 (refine ae rfl (by kernel_rfl) rfl ?_;go_wp2;refine ⟨rfl,?_⟩)
      refine ae rfl (by kernel_rfl) rfl ?_;go_wp2_with (refine Fn _ (ad.add ((m+1)*16)) rfl ci aw HL.o HC.o ?_);refine ⟨rfl,?_⟩;refine aA rfl (by kernel_rfl) ?_;go_wp2_with fail;refine (eu x ci _ IX gP.o.drew).mono ?_;rintro e v1 ⟨rfl,hb⟩;rw [nk.o];have HB:=Hi hb;clear hb;have JE:=Hi (kO gP.o (db HC.o (aW HB.o)));have EZ:=Hi (kO Ea.o (db uI.o (aW HB.o)));go_wp2;refine ⟨Ext.aJ HB.o,?_⟩;iterate 10 (refine ae rfl (by kernel_rfl) rfl ?_;go_wp2;refine ⟨rfl,?_⟩)
      refine ae rfl (by kernel_rfl) rfl ?_;go_wp2_with (refine an _ rfl (ad.add (m*16)) rfl [y.id.rep,y.id.slot] aC rfl EZ.o ?_);refine ⟨rfl,?_⟩;iterate 4 (refine ae rfl (by kernel_rfl) rfl ?_;go_wp2;refine ⟨rfl,?_⟩)
      refine ae rfl (by kernel_rfl) rfl ?_;go_wp2_with (refine an _ rfl (ad.add ((m+1)*16)) rfl [x.id.rep,x.id.slot] aC rfl JE.o ?_);refine ⟨rfl,?_⟩;refine aA rfl (by kernel_rfl) ?_;go_wp2_with fail;refine (fH y.id x.id [y.id.rep,y.id.slot] [x.id.rep,x.id.slot] _ aX.shut aX.shut).mono ?_;rintro e v2 ⟨rfl,hb⟩;rw [rG.o];have qV:=Hi hb;clear hb;go_wp2;refine ⟨Ext.aJ qV.o,?_⟩;iterate 3 (refine ae rfl (by kernel_rfl) rfl ?_;go_wp2;refine ⟨rfl,?_⟩)
      refine aO ?_;simp only [eo,ep];go_wp2;exact ⟨⟨m+1+1,by omega,by go_num,GI.o nk.o (fun z _ hz=>by rw [Nat.add_sub_cancel,HY.o] at hz;injection hz with hz;subst hz;exact rG.o),(BW.o.trans ((aW HB.o).mono BW.o.size)).trans (qV.o.mono (Nt BW.o.size HB.o.size))⟩,by simp only [intOf];omega⟩
  ·have iQ:j=n:=by omega
   subst iQ;have HF:=Hi (Aae (by have:=HG.o;rw [HN.o] at this;exact this));go_wp2;go_ret;exact ⟨au (by rw [HF.o];rfl),BW.o⟩
theorem za (xs:List ak) (A:Option Addr) (n c:Nat) (w:World) (hn:n=xs.length) (eC:n+(cat ak.c xs).wt≤1048576) (h:aM bM w (.sl 106 16 n (cat ak.c xs) .nil) [.slice A n c]) :
 Calls Tryz.prog 89 #[.slice A n c] w fun e w'=>e = .returned (.bool (Pi xs))∧Below w w w':=
 y9 xs A n c w hn (by omega) (fun y hy=>by have:=ko (f:=ak.c) hy;omega) h
attribute [irreducible] Pi
noncomputable def lD (id:aX) (c:aR) (x:ak):Bool := !(decide (x.id=id)) && (!(x.status == 0) && tH c x.cmd)
noncomputable def fL (id:aX) (c:aR) (xs:List ak):List aX:=(xs.filter (lD id c)).map ak.id
noncomputable def lN (id:aX) (c:aR) (xs:List ak):Int:=xs.foldl (fun s x=>if lD id c x=true then max s x.seq else s) 0
theorem E3 {id:aX} {c:aR} {xs:List ak} {j:Nat} (hj:j<xs.length) (h:lD id c xs[j]=true):fL id c (xs.take (j+1))=fL id c (xs.take j)++[xs[j].id]:=by
 rw [take_succ_eq_append_getElem hj,fL,List.filter_append,map_append];simp [fL,h]
theorem GW {id:aX} {c:aR} {xs:List ak} {j:Nat} (hj:j<xs.length) (h:lD id c xs[j]=false):fL id c (xs.take (j+1))=fL id c (xs.take j):=by
 rw [take_succ_eq_append_getElem hj,fL,List.filter_append,map_append];simp [fL,h]
theorem AZ {id:aX} {c:aR} {xs:List ak} {j:Nat} (hj:j<xs.length) (h:lD id c xs[j]=true):lN id c (xs.take (j+1))=max (lN id c (xs.take j)) xs[j].seq:=by
 rw [take_succ_eq_append_getElem hj,lN,List.foldl_append];simp [lN,h]
theorem Ef {id:aX} {c:aR} {xs:List ak} {j:Nat} (hj:j<xs.length) (h:lD id c xs[j]=false):lN id c (xs.take (j+1))=lN id c (xs.take j):=by
 rw [take_succ_eq_append_getElem hj,lN,List.foldl_append];simp [lN,h]
theorem qb (id:aX) (c:aR) (xs:List ak):(fL id c xs).length≤xs.length:=by
 rw [fL,length_map];exact List.length_filter_le _ _
noncomputable def Pq (xs:List ak) (id:aX) (c:aR):Int × List aX:=if Pi xs=true then (lN id c xs+1,fL id c xs) else (0,[])
def bO:List aX→List Value
 |[]=>[]
 |s::r=> .int .i64 s.rep :: .int .i64 s.slot::bO r
theorem ml:∀xs:List aX,(bO xs).length=xs.length*2
 |[]=>rfl
 |s::r=>by rw [bO,length_cons,length_cons,ml r,length_cons];omega
theorem ev:∀a b:List aX,bO (a++b)=bO a++bO b
 |[],_=>rfl
 |s::r,b=>by rw [cons_append,bO,bO,ev r b];rfl
theorem qc (w:World) (base:Nat):∀xs:List aX,Own w base (cat aX.c xs) (bO xs) []
 |[]=>Own.nil.2 ⟨rfl,rfl⟩
 |s::r=>by
  rw [dA];exact Own.app.2 ⟨[_,_],bO r,[],[],rfl,rfl,aX.jM (x:=s),qc w base r⟩
theorem Aan {xs:List ak} (h:Pi xs=true) (j:Nat) (hj:j<xs.length):0≤xs[j].seq∧xs[j].seq≤60:=by
 have h1:Aad xs xs.length:=by simpa [Pi] using h
 obtain ⟨x,hx,mS,_⟩:=h1 j hj;rw [List.getElem?_eq_getElem hj] at hx;injection hx with hx;rw [hx];simp only [Aaa,Bool.and_eq_true] at mS;have h6:=mS.2.2.2.2.2.1;simpa [gD] using h6
theorem wu {xs:List ak} (h:Pi xs=true) (id:aX) (c:aR):∀j,j≤xs.length→0≤lN id c (xs.take j)∧lN id c (xs.take j)≤60
 |0,_=>by simp [lN]
 |j+1,hj=>by
  have ih:=wu h id c j (by omega);have hs:=Aan h j (by omega);cases hk:lD id c xs[j]
  ·rw [Ef (by omega) hk];exact ih
  ·rw [AZ (by omega) hk];omega
end Go.Proofs.YtfgliohpdgnmcaaGreat
