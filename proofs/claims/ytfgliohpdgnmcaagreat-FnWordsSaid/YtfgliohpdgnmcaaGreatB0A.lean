/- The reference's l8Attrs and AttrsOf as the plain function fAttrsOf. Conditions: bounds on the sizes. -/
import Derived.Test.YtfgliohpdgnmcaaGreatB08
set_option linter.unusedVariables false
set_option linter.unusedSimpArgs false
set_option maxRecDepth 100000
set_option maxHeartbeats 8000000
namespace Go.Proofs.YtfgliohpdgnmcaaGreat
open Go.RowKit
open List (length_append getElem_mem append_nil take_length)
theorem jg (w:World) (cs dE:Array Value) (e g:Nat) (hg:g=w.heap.size) (hc:cs=dE):bf (w.alloc (.cells cs e)) g e dE:=by subst hg hc;exact bH _ _ _
theorem Mn {v1 v2:World} {o:Obj} {r:Option Nat} {a:Addr} {u:Value} (h:v1.cell? a=some u) (hg:(v1.alloc o).grownBy v2 r) (hr:r≠some a.block):v2.cell? a=some u:=by
 have dS:=World.block_lt_of_cell? _ _ h;rw [World.cell?_of_block (hg.block _ (Nat.lt_of_lt_of_le dS (by simp)) (fun e=>hr e.symm))];exact (((Below.refl _ v1).alloc Nr o).cell dS).trans h
theorem KQ {v1 v2:World} {o:Obj} {r:Option Nat} {g e:Nat} {cs:Array Value} (h:bf v1 g e cs) (hg:(v1.alloc o).grownBy v2 r) (hr:r≠some g):bf v2 g e cs:=
 (h.alloc o).bL (hg.block g (h.alloc o).lt (fun e=>hr e.symm))
theorem fA (w:World) (base e size g:Nat) (hg:g=w.heap.size) (hb:base≤g):(w.alloc (.cells #[] e)).ownsRow base e size (.slice (some ⟨g,0,none⟩) 0 0) 0 []:=by subst hg;exact World.ownsRow_made w #[] 0 hb (by simp [maxLen]) (by simp)
theorem ak.Mo (x:ak):(x.cmd.c).wt≤(x.c).wt:=by
 have e0:(x.cmd.c).wt=(x.cmd.set.length+(x.cmd.name.length+(x.cmd.tag.length+(x.cmd.chunks.length+(cat cN x.cmd.chunks).wt+0)))):=rfl;have e1:(x.c).wt=(x.cmd.set.length+(x.cmd.name.length+(x.cmd.tag.length+(x.cmd.chunks.length+(cat cN x.cmd.chunks).wt+(x.al.length+(cat aX.c x.al).wt+0))))):=rfl;omega
theorem E4 {B:Nat→Prop} {w w':World} {x:ak} {cs:List Value} {p:Addr} (h:aM B w' x.c cs) (hc:∀f v,cs[f]?=some v→w.cell? (p.add f)=some v) :
 ∃mm,mm.length=8∧aM B w' x.cmd.c mm∧∀f v,mm[f]?=some v→w.cell? ((⟨p.block,p.off+5,none⟩:Addr).add f)=some v:=by
 obtain ⟨A0,k0,A1,k1,rfl,s0,_⟩:=ak.open h;refine ⟨(rC x.cmd A0 k0),rfl,aR.shut s0,fun f v hv=>?_⟩;have dS:=(List.getElem?_eq_some_iff.1 hv).1;have h1:=hc (5+f) v (by
  have:f=0∨f=1∨f=2∨f=3∨f=4∨f=5∨f=6∨f=7:=by simp at dS;omega
  rcases this with rfl|rfl|rfl|rfl|rfl|rfl|rfl|rfl<;>exact hv);rw [←je] at h1;exact h1
theorem mW (xs:List ak) (x:aX) (c:aR) (A:Option Addr) (n k:Nat) (cs FZ:List Value) (w:World) (hn:n=xs.length) (eC:n+(cat ak.c xs).wt≤1048576) (nM:c.c.wt≤1048576) (mS:Pi xs=true) (h:aM bM w (.sl 106 16 n (cat ak.c xs) .nil) [.slice A n k]) (h':aM bM w x.c cs) (pc:aM bM w c.c FZ) :
 Calls Tryz.prog 73 #[.slice A n k,.agg cs.toArray,.agg FZ.toArray] w fun e w'=>∃A' c',e = .returned (.tuple #[.int .i64 (lN x c xs+1),.slice A' (fL x c xs).length c'])∧w'.ownsRow w 25 2 (.slice A' (fL x c xs).length c') (fL x c xs).length (bO (fL x c xs))∧Below w w w':=by
 have Wc:FZ.length=8:=pc.length.trans (aR.width c);obtain rfl:=aX.open h';have Tp:=Hi (wu mS x c);have YL:=Hi (Aan mS);have HN:=Hi hn;clear hn;have HR:=Hi h;clear h;have gP:=Hi pc;clear pc;have YM:=Hi (fun (j:Nat) (hj:j<xs.length) (hk:lD x c xs[j]=true)=>And.intro (E3 hj hk) (AZ hj hk));have YN:=Hi (fun (j:Nat) (hj:j<xs.length) (hk:lD x c xs[j]=false)=>And.intro (GW hj hk) (Ef hj hk));have YO:=Hi (qb x c);have Wd:=Hi (show fL x c (xs.take n)=fL x c xs∧lN x c (xs.take n)=lN x c xs by rw [HN.o,take_length];exact ⟨rfl,rfl⟩);have I0:=Hi (show lN x c (xs.take 0)=0∧fL x c (xs.take 0)=[] from ⟨rfl,rfl⟩);obtain ⟨D,hD⟩:∃D:Nat→List aX,D=fun j=>fL x c (xs.take j):=⟨_,rfl⟩
 obtain ⟨S,hS⟩:∃S:Nat→Int,S=fun j=>lN x c (xs.take j):=⟨_,rfl⟩
 have HD:=Hi hD;clear hD;have HS:=Hi hS;clear hS;have FV:n≤1048576:=by omega
 have og:=Hi eC;clear eC;have We:=Hi nM;clear nM h' mS;obtain ⟨xr,eL⟩:=x;have SB:=Hi (show bf ((w.alloc (.cells #[xr,eL] 25)).alloc (.cells FZ.toArray 28)) w 25 #[xr,eL] from (bH w _ _).alloc _);go_enter Tryz.func73,Tryz.ntmps73;go_wp2_with fail;go_loopw [8,9,10] (fun sv v i wr=>∃j:Nat,j≤n∧i = .int .i64 (j:Int)∧sv = .int .i64 (S j+1)∧wr.ownsRow (w.heap.size+1+1) 25 2 v (D j).length (bO (D j))∧bf wr w 25 #[xr,eL]∧bf wr (w+1) 28 FZ.toArray∧Below w w wr) (fun _ _ i _=>n-(intOf i).toNat);case atStart=>
  have h1:S 0=0:=by rw [HS.o];exact I0.o.1
  have h2:D 0=[]:=by rw [HD.o];exact I0.o.2
  refine ⟨0,Nat.zero_le _,rfl,by rw [h1];rfl,?_,(SB.o.alloc _),((jg _ _ _ _ _ (by simp) rfl).alloc _),(by repeat' (first|with_reducible (first|exact Br|exact BW.o|apply Bs|apply Ba|apply Bd)|(simp<;>omega)|omega))⟩;rw [h2];exact fA _ _ _ _ _ (by simp) Nr
 case round=>
  obtain ⟨j,hj,rfl,rfl,bg,aD,xp,bE⟩:=hrel;clear SB;have HO:=Hi bg;clear bg;have kX:=bE.size;by_cases dS:j<n
  ·have fg:j<xs.length:=by have:=HN.o;omega
   obtain ⟨ad,ci,rfl,_,_,bZ,hl,hc⟩:=(HR.o.below bE).elem ak.width j fg HN.o;have YP:ad.block<w.heap.size:=by
    obtain ⟨rQ,_,he,_,Tq,_⟩:=HR.o.elem ak.width j fg HN.o;injection he with he;rw [he];exact Tq
   have CQ:=kO bZ hc;obtain ⟨RQ,ny,Tr,xq⟩:=E4 bZ hc;obtain ⟨A1,k1,A2,k2,rfl,_⟩:=ak.open bZ;have h4:wr.cell? ⟨(ad.add (j*16)).block,(ad.add (j*16)).off+4,none⟩=some (.int .i64 xs[j].status):=hc 4 _ rfl;have AF:wr.cell? ⟨(ad.add (j*16)).block,(ad.add (j*16)).off+13,none⟩=some (.int .i64 xs[j].seq):=hc 13 _ rfl;have RR:=YM.o j fg;have xo:=YN.o j fg;have A6:=YL.o j fg;have o6:(D j).length≤j:=by rw [HD.o];exact Nt (YO.o _) (by simp;omega)
   have YQ:0≤S j∧S j≤60:=by rw [HS.o];exact Tp.o j (by omega)
   have e1:fL ⟨xr,eL⟩ c (xs.take j)=D j∧fL ⟨xr,eL⟩ c (xs.take (j+1))=D (j+1):=by rw [HD.o];exact ⟨rfl,rfl⟩
   have e2:lN ⟨xr,eL⟩ c (xs.take j)=S j∧lN ⟨xr,eL⟩ c (xs.take (j+1))=S (j+1):=by rw [HS.o];exact ⟨rfl,rfl⟩
   rw [e1.1,e1.2,e2.1,e2.2] at RR xo;have IX:(xs[j].cmd.c).wt≤1048576:=by
    have h1:=ko (f:=ak.c) (getElem_mem fg);have h2:=og.o;have h3:=ak.Mo xs[j];omega
   clear hc bZ hl e1 e2;generalize xs[j]=y at *;obtain ⟨⟨yr,ys⟩,YR,yvb,Ts,Mp,Pr,Wf,Wg⟩:=y;simp only at CQ Tr h4 AF RR xo A6 IX;have Mq:=Hi RR;clear RR;have GX:=Hi xo;clear xo;have JK:=Hi CQ;clear CQ;have RS:=Hi xq;clear xq;have Wh:=Hi Tr;clear Tr;generalize hDj:D j=Dj at HO Mq GX o6;generalize hSj:S j=Sj at Mq GX YQ ⊢;by_cases e1:yr=xr∧ys=eL
   ·obtain ⟨rfl,rfl⟩:=e1;go_wp2;refine mV 25 (.one 0 (.one 1 (.one 2 (.one 3 (.one 4 (.one 5 (.act 6 (.one 7 (.one 8 (.one 9 (.one 10 (.one 11 (.one 12 (.one 13 (.one 14 (.one 15 (.one 16 (.one 17 (.one 18 (.one 19 (.one 20 (.one 21 (.one 22 (.one 23 (.one 24 .leaf))))))))))))))))))))))))) (by kernel_rfl) (by kernel_rfl) ?_;iterate 4 (refine bW rfl (by kernel_rfl) rfl ?_;go_wp2;refine ⟨rfl,?_⟩)
    refine bW rfl (by kernel_rfl) rfl ?_;go_wp2_with (refine Fn _ (ad.add (j*16)) rfl [.int .i64 _,.int .i64 _] aC rfl JK.o ?_);refine ⟨rfl,?_⟩;refine bW rfl (by kernel_rfl) rfl ?_;go_wp2_with (refine Fn _ ⟨w,0,none⟩ rfl [.int .i64 _,.int .i64 _] aC rfl (ag aD) ?_);refine ⟨rfl,?_⟩;refine uZ rfl ?_;go_wp2;refine ⟨Ext.refl _,?_⟩
    (refine bW rfl (by kernel_rfl) rfl ?_;go_wp2;refine ⟨rfl,?_⟩)
    iterate 6 (refine wq rfl rfl (by kernel_rfl) ?_;simp only [fk,ft,fu])
    iterate 2 (refine bW rfl (by kernel_rfl) rfl ?_;go_wp2;refine ⟨rfl,?_⟩)
    iterate 8 (refine wq rfl rfl (by kernel_rfl) ?_;simp only [fk,ft,fu])
    (refine bW rfl (by kernel_rfl) rfl ?_;go_wp2;refine ⟨rfl,?_⟩)
    refine va ?_;try simp only [eo,ep]
    have hk:=GX.o (by simp [lD]);have GY:=Hi hk;clear hk;go_wp2;exact ⟨⟨j+1,by omega,by go_num,by rw [GY.out.2],by rw [GY.out.1];exact HO.o.drew,aD.drew,xp.drew,bE.drew⟩,by simp only [intOf];omega⟩
   have dO:¬(aX.mk yr ys=aX.mk xr eL):=fun h=>e1 ⟨by injection h,by injection h⟩
   have hd:yr≠xr∨(yr=xr∧ys≠eL):=by by_cases h:yr=xr;exact .inr ⟨h,fun h2=>e1 ⟨h,h2⟩⟩;exact .inl h
   clear e1;by_cases e3:Ts=0
   ·have YS:(Ts == 0)=true:=by simpa using e3
    go_wp2;refine mV 25 (.one 0 (.one 1 (.one 2 (.one 3 (.one 4 (.one 5 (.act 6 (.one 7 (.one 8 (.one 9 (.one 10 (.one 11 (.one 12 (.one 13 (.one 14 (.one 15 (.one 16 (.one 17 (.one 18 (.one 19 (.one 20 (.one 21 (.one 22 (.one 23 (.one 24 .leaf))))))))))))))))))))))))) (by kernel_rfl) (by kernel_rfl) ?_;iterate 4 (refine bW rfl (by kernel_rfl) rfl ?_;go_wp2;refine ⟨rfl,?_⟩)
    refine bW rfl (by kernel_rfl) rfl ?_;go_wp2_with (refine Fn _ (ad.add (j*16)) rfl [.int .i64 _,.int .i64 _] aC rfl JK.o ?_);refine ⟨rfl,?_⟩;refine bW rfl (by kernel_rfl) rfl ?_;go_wp2_with (refine Fn _ ⟨w,0,none⟩ rfl [.int .i64 _,.int .i64 _] aC rfl (ag aD) ?_);refine ⟨rfl,?_⟩;refine uZ rfl ?_;go_wp2;all_goals
     refine ⟨Ext.refl _,?_⟩
     (refine bW rfl (by kernel_rfl) rfl ?_;go_wp2;refine ⟨rfl,?_⟩)
     iterate 6 (refine bW rfl (by kernel_rfl) rfl ?_;go_wp2;refine ⟨rfl,?_⟩)
     iterate 2 (refine bW rfl (by kernel_rfl) rfl ?_;go_wp2;refine ⟨rfl,?_⟩)
     iterate 8 (refine wq rfl rfl (by kernel_rfl) ?_;simp only [fk,ft,fu])
     (refine bW rfl (by kernel_rfl) rfl ?_;go_wp2;refine ⟨rfl,?_⟩)
     refine va ?_;try simp only [eo,ep]
     have hk:=GX.o (by simp [lD,e3]);have GY:=Hi hk;clear hk;go_wp2;exact ⟨⟨j+1,by omega,by go_num,by rw [GY.out.2],by rw [GY.out.1];exact HO.o.drew,aD.drew,xp.drew,bE.drew⟩,by simp only [intOf];omega⟩
   ·have YS:(Ts == 0)=false:=by simpa using e3
    cases E5:tH c Mp
    ·go_wp2;refine mV 25 (.one 0 (.one 1 (.one 2 (.one 3 (.one 4 (.one 5 (.act 6 (.one 7 (.one 8 (.one 9 (.one 10 (.one 11 (.one 12 (.one 13 (.one 14 (.one 15 (.one 16 (.one 17 (.one 18 (.one 19 (.one 20 (.one 21 (.one 22 (.one 23 (.one 24 .leaf))))))))))))))))))))))))) (by kernel_rfl) (by kernel_rfl) ?_;iterate 4 (refine bW rfl (by kernel_rfl) rfl ?_;go_wp2;refine ⟨rfl,?_⟩)
     refine bW rfl (by kernel_rfl) rfl ?_;go_wp2_with (refine Fn _ (ad.add (j*16)) rfl [.int .i64 _,.int .i64 _] aC rfl JK.o ?_);refine ⟨rfl,?_⟩;refine bW rfl (by kernel_rfl) rfl ?_;go_wp2_with (refine Fn _ ⟨w,0,none⟩ rfl [.int .i64 _,.int .i64 _] aC rfl (ag aD) ?_);refine ⟨rfl,?_⟩;refine uZ rfl ?_;go_wp2;all_goals
      refine ⟨Ext.refl _,?_⟩
      (refine bW rfl (by kernel_rfl) rfl ?_;go_wp2;refine ⟨rfl,?_⟩)
      iterate 6 (refine bW rfl (by kernel_rfl) rfl ?_;go_wp2;refine ⟨rfl,?_⟩)
      iterate 2 (refine bW rfl (by kernel_rfl) rfl ?_;go_wp2;refine ⟨rfl,?_⟩)
      refine bW rfl (by kernel_rfl) rfl ?_;go_wp2_with (refine an _ (by first|rfl|kernel_rfl) ⟨w+1,0,none⟩ rfl FZ aN Wc (ag xp) ?_);refine ⟨rfl,?_⟩;iterate 4 (refine bW rfl (by kernel_rfl) rfl ?_;go_wp2;refine ⟨rfl,?_⟩)
      refine bW rfl (by kernel_rfl) rfl ?_;go_wp2_with (refine an _ (by first|rfl|kernel_rfl) ⟨(ad.add (j*16)).block,(ad.add (j*16)).off+5,none⟩ rfl RQ aN ny RS.o ?_);refine ⟨rfl,?_⟩;refine yw rfl (by kernel_rfl) ?_;go_wp2_with fail;refine (wk c Mp FZ RQ _ We.o IX ((gP.o.below bE).drew) Wh.o.drew).mono ?_;rintro e v1 ⟨rfl,cW⟩;rw [E5];have uJ:=Hi cW;clear cW;go_wp2;refine ⟨Ext.aJ uJ.o,?_⟩
      (refine bW rfl (by kernel_rfl) rfl ?_;go_wp2;refine ⟨rfl,?_⟩)
      (refine bW rfl (by kernel_rfl) rfl ?_;go_wp2;refine ⟨rfl,?_⟩)
      refine va ?_;try simp only [eo,ep]
      have hk:=GX.o (by simp [lD,E5]);have GY:=Hi hk;clear hk;have RU:=aH (base':=w.heap.size+1+1) HO.o (w':=v1) (fun b hb=>⟨(HO.o.lt b hb).1,uJ.o.block b (HO.o.lt b hb).2⟩);have JL:=aD.drew.below uJ.o;have JM:=xp.drew.below uJ.o;have wv:=bE.drew.trans (uJ.o.mono bE.drew.size);go_wp2;exact ⟨⟨j+1,by omega,by go_num,by rw [GY.out.2],by rw [GY.out.1];exact RU,JL,JM,wv⟩,by simp only [intOf];omega⟩
    ·go_wp2;refine mV 25 (.one 0 (.one 1 (.one 2 (.one 3 (.one 4 (.one 5 (.act 6 (.one 7 (.one 8 (.one 9 (.one 10 (.one 11 (.one 12 (.one 13 (.one 14 (.one 15 (.one 16 (.one 17 (.one 18 (.one 19 (.one 20 (.one 21 (.one 22 (.one 23 (.one 24 .leaf))))))))))))))))))))))))) (by kernel_rfl) (by kernel_rfl) ?_;iterate 4 (refine bW rfl (by kernel_rfl) rfl ?_;go_wp2;refine ⟨rfl,?_⟩)
     refine bW rfl (by kernel_rfl) rfl ?_;go_wp2_with (refine Fn _ (ad.add (j*16)) rfl [.int .i64 _,.int .i64 _] aC rfl JK.o ?_);refine ⟨rfl,?_⟩;refine bW rfl (by kernel_rfl) rfl ?_;go_wp2_with (refine Fn _ ⟨w,0,none⟩ rfl [.int .i64 _,.int .i64 _] aC rfl (ag aD) ?_);refine ⟨rfl,?_⟩;refine uZ rfl ?_;go_wp2;all_goals
      refine ⟨Ext.refl _,?_⟩
      (refine bW rfl (by kernel_rfl) rfl ?_;go_wp2;refine ⟨rfl,?_⟩)
      iterate 6 (refine bW rfl (by kernel_rfl) rfl ?_;go_wp2;refine ⟨rfl,?_⟩)
      iterate 2 (refine bW rfl (by kernel_rfl) rfl ?_;go_wp2;refine ⟨rfl,?_⟩)
      refine bW rfl (by kernel_rfl) rfl ?_;go_wp2_with (refine an _ (by first|rfl|kernel_rfl) ⟨w+1,0,none⟩ rfl FZ aN Wc (ag xp) ?_);refine ⟨rfl,?_⟩;iterate 4 (refine bW rfl (by kernel_rfl) rfl ?_;go_wp2;refine ⟨rfl,?_⟩)
      refine bW rfl (by kernel_rfl) rfl ?_;go_wp2_with (refine an _ (by first|rfl|kernel_rfl) ⟨(ad.add (j*16)).block,(ad.add (j*16)).off+5,none⟩ rfl RQ aN ny RS.o ?_);refine ⟨rfl,?_⟩;refine yw rfl (by kernel_rfl) ?_;go_wp2_with fail;refine (wk c Mp FZ RQ _ We.o IX ((gP.o.below bE).drew) Wh.o.drew).mono ?_;rintro e v1 ⟨rfl,cW⟩;rw [E5];have uJ:=Hi cW;clear cW;go_wp2;refine ⟨Ext.aJ uJ.o,?_⟩
      (refine bW rfl (by kernel_rfl) rfl ?_;go_wp2;refine ⟨rfl,?_⟩)
      (refine bW rfl (by kernel_rfl) rfl ?_;go_wp2;refine ⟨rfl,?_⟩)
      refine va ?_;try simp only [eo,ep]
      have hk:=Mq.o (by simp [lD,E5,e3,dO]);have GY:=Hi hk;clear hk;have RU:=aH (base':=w.heap.size+1+1) HO.o (w':=v1) (fun b hb=>⟨(HO.o.lt b hb).1,uJ.o.block b (HO.o.lt b hb).2⟩);have JL:=aD.drew.below uJ.o;have JM:=xp.drew.below uJ.o;have wv:=bE.drew.trans (uJ.o.mono bE.drew.size);have I1:=Hi RU;clear RU;have Ps:=wv.size;have YT:=JM.lt;have Tt:∀f v,[Value.int .i64 yr,Value.int .i64 ys][f]?=some v→v1.cell? ((ad.add (j*16)).add f)=some v:=fun f v hv=>by have h0:=JK.o f v hv;exact (uJ.o.cell (World.block_lt_of_cell? wr.drew _ h0)).trans h0
      have Tu:v1.cell? ⟨(ad.add (j*16)).block,(ad.add (j*16)).off+13,none⟩=some (.int .i64 Pr):=(uJ.o.cell (World.block_lt_of_cell? wr.drew _ AF)).trans AF;go_wp2_with (first|((with_reducible apply Gl 25);refine Fn _ (ad.add (j*16)) rfl [yr,ys] aC rfl Tt ?_)|(at_builtin;refine aB fp _ rfl (.tmp 43) (.tmp 49) rfl (w.heap.size+1+1) _ Dj.length _ rfl (I1.o.alloc _) _ _ _ _ rfl (Reads.new (e:=25) rfl) (by intro u hu;simp at hu;rcases hu with rfl|rfl<;>rfl) (by omega) (by simp;omega) ?_;intro v' v2 dJ mC qt;have YU:v2.cell? ⟨(ad.add (j*16)).block,(ad.add (j*16)).off+13,none⟩=some (.int .i64 Pr):=Mn Tu mC (fun e=>by have h9:=(I1.o.lt _ e).1;rw [cR] at h9;omega);have KR:=Hi dJ;clear dJ;have Mr:=Hi mC;clear mC qt)|fail);all_goals
       refine ⟨⟨j+1,by omega,by go_num,by rw [GY.out.2];first|rfl|(congr 1;omega),?_,KQ JL Mr.o (fun e=>by have h9:=(I1.o.lt _ e).1;omega),KQ JM Mr.o (fun e=>by have h9:=(I1.o.lt _ e).1;omega),Below.grown (wv.alloc Ps _) Mr.o (Nt Ps (by simp)) (fun k hk=>by have h9:=(I1.o.lt k hk).1;omega)⟩,by simp only [intOf];omega⟩;rw [GY.out.1,length_append,ev];first|exact KR.o|(have e:yr=xr:=by assumption);rw [e];exact KR.o
  ·have iQ:j=n:=by omega
   subst iQ;have h1:S j=lN ⟨xr,eL⟩ c xs:=by rw [HS.o];exact Wd.o.2
   have h2:D j=fL ⟨xr,eL⟩ c xs:=by rw [HD.o];exact Wd.o.1
   rw [h1];have hO:=HO.o;rw [h2] at hO;clear h1 h2;obtain ⟨Av,cv,rfl,_⟩:=eD.bd hO;have rk:=Hi hO;clear hO HO;go_wp2
   go_ret2
   exact ⟨Av,cv,au (by first|rfl|simp),aH (base':=w.heap.size) rk.o (fun b hb=>⟨by have:=(rk.o.lt b hb).1;omega,rfl⟩),bE⟩
theorem mn {w:World} {base n:Nat} {A:Option Addr} {c:Nat} {l:List aX} (h:w.ownsRow base 25 2 (.slice A n c) n (bO l)) (hn:n=l.length):fO w base (.sl 25 2 n (cat aX.c l) .nil) [.slice A n c]:=by
 have hw:(cat aX.c l).width=n*2:=by rw [hn,←ml,(qc w base l).length]
 exact ⟨_,kA _,Own.zW.2 ⟨bO l,[],(append_nil _).symm,hw,h,qc w base l⟩⟩
end Go.Proofs.YtfgliohpdgnmcaaGreat
