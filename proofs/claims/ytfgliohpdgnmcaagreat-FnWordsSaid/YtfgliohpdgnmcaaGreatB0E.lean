/- Lemmas for the walks of one claim (NodK, NodL, NodR). Conditions: bounds on sizes, as each names them. -/
import Derived.Test.YtfgliohpdgnmcaaGreatB0B
import Derived.Test.YtfgliohpdgnmcaaGreatB0D
set_option linter.unusedVariables false
set_option linter.unusedSimpArgs false
set_option maxRecDepth 100000
set_option maxHeartbeats 8000000
namespace Go.Proofs.YtfgliohpdgnmcaaGreat
open Go.RowKit
open List (map_cons map_append append_nil mem_cons_of_mem length_nil mem_cons not_mem_nil mem_append nodup_append nodup_cons)
theorem eS (base:Nat) (X:List Nat) (n:aY) (l:aT) (vl:Value) (cs Oj:List Value) (i j K:Nat) (w:World) (hB:base≤w.heap.size) (hX:∀b∈X,b<w.heap.size) (hf:Fair i j K n) (hi:i≤29) (hj:j≤29) (hK:K≤5000) (hl:l.c.wt≤K) (h:dK w base X n vl cs) (h':aM (okB X vl) w l.c Oj) (mo:∀v∈Oj,ju v) :
 Calls Tryz.prog 107 #[.agg cs.toArray,.agg Oj.toArray] w (Hh base X vl w (i+1) (j+1) (2*K)):=by
 obtain ⟨Ad,kd,Af,kf,rfl,s0,s1⟩:=aT.open h';have rp:=Hi (show l.al.length≤kd from mo (.slice Ad l.al kd) (by simp));clear mo;have d0:=NX.start (R:=[tD l.al Ad kd,tF l.da Af kf]) hB hX h (by intro r hr;simp only [mem_cons,not_mem_nil,or_false] at hr;rcases hr with rfl|rfl;(· exact s0);(· exact s1));clear h h' s0 s1;obtain ⟨A0,k0,A1,k1,rfl,rfl,-⟩:=d0.cells;have D0:=Hi d0;clear d0;have eT:=Hi (hf.Cd (by omega) (by omega) (by omega));have HF:=Hi hf;clear hf;have Bo:=dx l;have o6:l.al.length≤1048576:=by omega
 have HL:=Hi (show l.al.length+l.da.length≤K from by omega);clear Bo;have D1:=Hi (D0.o.new (b:=w) rfl 47 (rN n A0 k0 A1 k1));have D2:=Hi (D1.o.new (b:=(w+1)) (by simp) 80 (rL l Ad kd Af kf));have D3:=Hi (D2.o.new (b:=(w+2)) (by simp) 47 zN);have q1:=D3.o.c2 2 rfl;go_enter Tryz.func107,Tryz.ntmps107;go_wp2_with ((with_reducible apply Gl 25);refine bQ D3.o.e1 0 aC rfl rfl ?_);refine (gf n.insts l.id A0 _ k0 _ _ rfl eT.o.1 (by simp [aX.c,aX.cs,Cs.wt]) (D3.o.ri.2.any) (aX.shut (x:=l.id))).mono ?_;rintro e w1 ⟨mm,rfl,hM,hb⟩;obtain ⟨x,hx⟩:∃x,x=eR n.insts l.id:=⟨_,rfl⟩;rw [←hx] at hM;have qw:=Hi (show x.c.wt≤K from by rw [hx];exact hI HF.o.iw);clear hx;obtain ⟨Ac,kc,Ax,kx,rfl,c0,c1⟩:=ak.open hM.fresh;have D4:=Hi (D3.o.mY hb c0 c1);clear hM c0 c1 hb;have Ok:=Hi (show w.heap.size+3≤w1.heap.size from (D4.o.e0).lt);by_cases nG:x.aS=l.aS
 ·have PC:(x.aS != l.aS)=false:=by simp [nG]
  clear nG;go_wp2_with (first|((with_reducible apply Gs 106);go_must (refine ai ((D4.o.new rfl 106 zI).b0 (l:=[])) aw rfl rfl rfl rfl (Oc rfl) ?_;intro x1 aD hg;have D5:=Hi ((D4.o.new (b:=w1) rfl 106 zI).bU hg aD);clear aD hg;have q2:=D5.o.c0 2 rfl;have q3:=D5.o.c2 2 rfl;have q4:=D5.o.c0 4 rfl;have z4:=(D5.o.e0).frozen 4;have D6:=Hi (NX.fN 4 (.int .i64 2) [x.id.rep,x.id.slot,x.aS,x.bB,.int .i64 2,x.cmd.kind,x.cmd.aE,x.cmd.no,x.cmd.set,x.cmd.name,x.cmd.tag,x.cmd.n,.slice Ac x.cmd.chunks kc,x.seq,.slice Ax x.al kx,x.same] rfl D5.o);have q5:=D6.o.c2 2 rfl;have q6:=D6.o.c0 3 rfl;have z6:=(D6.o.e0).frozen 3;have D7:=Hi (NX.fN 3 (.int .i64 l.aS) [x.id.rep,x.id.slot,x.aS,l.aS,.int .i64 2,x.cmd.kind,x.cmd.aE,x.cmd.no,x.cmd.set,x.cmd.name,x.cmd.tag,x.cmd.n,.slice Ac x.cmd.chunks kc,x.seq,.slice Ax x.al kx,x.same] rfl D6.o);have q7:=D7.o.c2 4 rfl;have q8:=D7.o.c0 13 rfl;have z8:=(D7.o.e0).frozen 13;have D8:=Hi (NX.fN 13 (.int .i64 l.seq) [x.id.rep,x.id.slot,x.aS,l.aS,.int .i64 2,x.cmd.kind,x.cmd.aE,x.cmd.no,x.cmd.set,x.cmd.name,x.cmd.tag,x.cmd.n,.slice Ac x.cmd.chunks kc,l.seq,.slice Ax x.al kx,x.same] rfl D7.o);have HE:=Hi (fA (((x1.setCell ⟨w1,4,none⟩ (.int .i64 2)).setCell ⟨w1,3,none⟩ (.int .i64 l.aS)).setCell ⟨w1,13,none⟩ (.int .i64 l.seq)) x1 25 2 x1 (by simp) Nr);obtain ⟨ids,dH,bZ,-⟩:=((D8.o.alloc (.cells #[] 25)).r0 (l:=[_,_])).row;have nz:=Hi dH;have vm:=Hi (dC bZ);have gP:=Hi bZ.one;clear dH bZ;have q9:=ah ((D8.o.alloc (.cells #[] 25)).b0 (l:=[_,_])) 5 rfl))|(at_builtin;go_must (refine aB fp _ rfl _ _ rfl x1 _ 0 _ rfl HE.o _ _ _ ids rfl nz.o gP.o (by omega) (by simp) ?_;intro vx x6 aU et ct;obtain ⟨cr,cm,rfl,_⟩:=eD.bd aU;have D9:=Hi (show NX base X w (.slice A1 n.leads k1) [(w1,106,[x.id.rep,x.id.slot,x.aS,l.aS,.int .i64 2,x.cmd.kind,x.cmd.aE,x.cmd.no,x.cmd.set,x.cmd.name,x.cmd.tag,x.cmd.n,.slice Ac x.cmd.chunks kc,l.seq,.slice Ax x.al kx,x.same]),((w+2),47,zN),((w+1),80,(rL l Ad kd Af kf)),(w,47,(rN n A0 k0 A1 k1))] [tD l.al cr cm,tC x.cmd.chunks Ac kc,tD x.al Ax kx,tD l.al Ad kd,tF l.da Af kf] n (rN n A0 k0 A1 k1) x6 (.slice A1 n.leads k1) from D8.o.kS (by simp) et (by simpa using aU) vm.o rfl);clear aU et ct;have I9:=D9.o.c0 14 rfl;have TT:=(D9.o.e0).frozen 14;have kE:=Hi (NX.fN 14 (.slice cr l.al cm) [x.id.rep,x.id.slot,x.aS,l.aS,.int .i64 2,x.cmd.kind,x.cmd.aE,x.cmd.no,x.cmd.set,x.cmd.name,x.cmd.tag,x.cmd.n,.slice Ac x.cmd.chunks kc,l.seq,.slice cr l.al cm,x.same] rfl D9.o);have Ja:=kE.o.c0 15 rfl;have TU:=(kE.o.e0).frozen 15;have gF:=Hi (NX.fN 15 (.bool false) [x.id.rep,x.id.slot,x.aS,l.aS,.int .i64 2,x.cmd.kind,x.cmd.aE,x.cmd.no,x.cmd.set,x.cmd.name,x.cmd.tag,x.cmd.n,.slice Ac x.cmd.chunks kc,l.seq,.slice cr l.al cm,false] rfl kE.o);have Jb:=gF.o.c3 2 rfl))|((with_reducible apply Gl 106);refine ao gF.o.e0 aw rfl rfl ?_));refine (ea _ n.insts (ak.mk x.id x.aS l.aS 2 x.cmd l.seq l.al false) _ _ _ _ _ rfl (by have h1:=eT.o.2.1;omega) gF.o.ri.2 (ak.shut (x:=(ak.mk x.id x.aS l.aS 2 x.cmd l.seq l.al false)) gF.o.p1 gF.o.p0)).mono ?_;rintro e w4 ⟨AP,mq,cP,rfl,hm,hr,hb⟩;have jH:=Hi (gF.o.ji hb hr);have HM:=Hi hm;clear hm hr hb;have J2:=jH.o.c3 2 rfl;have WE:=(jH.o.e3).frozen 2;have gU:=Hi (NX.J0 2 (.slice AP mq cP) [n.me,n.next,.slice AP mq cP,.slice A1 n.leads k1] rfl jH.o);have kY:=Hi (gU.o.insts HM.o n.next);have K6:=kY.o.c2 3 rfl;have TV:=(kY.o.e2).frozen 3;have kF:=Hi (NX.mD 3 (.int .i64 2) [l.id.rep,l.id.slot,l.aS,.int .i64 2,l.seq,.slice Ad l.al kd,.slice Af l.da kf,l.same] rfl kY.o);have jx:=Hi (kF.o.alloc (.cells #[] 3));have Ol:=jx.o.c2 6 rfl;have K7:=(jx.o.e2).frozen 6;have iZ:=Hi (NX.mD 6 (.slice (some ⟨w4,0,none⟩) 0 0) [l.id.rep,l.id.slot,l.aS,.int .i64 2,l.seq,.slice Ad l.al kd,.slice (some ⟨w4,0,none⟩) 0 0,l.same] rfl jx.o);go_wp2_with (first|((with_reducible apply Gl 47);refine ao iZ.o.e3 ab rfl rfl ?_)|((with_reducible apply Gl 80);refine ao iZ.o.e2 bV rfl rfl ?_));refine (gI base ([w1.heap.size,(w.heap.size+2),(w.heap.size+1),w.heap.size]++X) ⟨n.me,n.next,iN n.insts (ak.mk x.id x.aS l.aS 2 x.cmd l.seq l.al false),n.leads⟩ (aT.mk l.id l.aS 2 l.seq l.al [] l.same) (.slice A1 n.leads k1) _ _ _ iZ.o.dc eT.o.2.2.1 iZ.o.node (aT.shut (x:=(aT.mk l.id l.aS 2 l.seq l.al [] l.same)) iZ.o.p3 aM.fy) (by intro v hv;simp only [mem_cons,not_mem_nil,or_false] at hv;rcases hv with rfl|rfl|rfl|rfl|rfl|rfl|rfl|rfl<;>first|trivial|exact Nat.le_refl _|exact rp.o|exact yE.o)).mono ?_;rintro e w5 ⟨⟨n2,tj,mv,rfl,fB,dk,kD,nF,eN,hle,eZ⟩⟩;have fW:=Hi ((HF.o.put (x:=(ak.mk x.id x.aS l.aS 2 x.cmd l.seq l.al false)) (K':=2*K) (by rw [bS];have h1:=qw.o;rw [bS] at h1;have h2:=HL.o;simp only;omega) (by omega) n.next).xN (x:=(aT.mk l.id l.aS 2 l.seq l.al [] l.same)) (K':=2*K) (by rw [dx];have:=HL.o;simp only [length_nil];omega) Nr eN hle eZ);clear kD nF eN hle eZ;have d2:=iZ.o.step dk fB;clear dk fB;obtain ⟨A3,k3,B3,g3,rfl,rfl,-⟩:=d2.cells;have jG:=Hi (d2);clear d2;go_wp2_with ((with_reducible apply Gs 47);go_must (refine ai jG.o.e3 ab rfl rfl rfl rfl (Oc rfl) ?_;intro x7 aD hg;have jI:=Hi (jG.o.qv hg aD);clear aD hg));have ja:=Hi (jI.o.drew);refine bz (fun v=>((bf v w 47 (rN n2 A3 k3 B3 g3))∧bf v w1 106 #[x.id.rep,x.id.slot,x.aS,l.aS,.int .i64 2,x.cmd.kind,x.cmd.aE,x.cmd.no,x.cmd.set,x.cmd.name,x.cmd.tag,x.cmd.n,.slice Ac x.cmd.chunks kc,l.seq,.slice cr l.al cm,false])∧bf v (w+1) 80 #[l.id.rep,l.id.slot,l.aS,.int .i64 2,l.seq,.slice Ad l.al kd,.slice (some ⟨w4,0,none⟩) 0 0,l.same]) 6 (.rd 0 (.rd 1 (.rd 2 (.rd 3 (.rd 4 (.act 5 .leaf)))))) [6,7] (by kernel_rfl) (by kernel_rfl) ⟨⟨ja.o.e3,ja.o.e0⟩,ja.o.e2⟩ ?_;refine aL rfl rfl _ (fun w' bI=>eh bI.1.1 ab rfl rfl rfl) ?_;refine aL rfl rfl _ (fun w' bI=>eh bI.1.1 ab rfl rfl rfl) ?_;refine aL rfl rfl _ (fun w' bI=>eh bI.1.2 aw rfl rfl rfl) ?_;refine ay rfl (by kernel_rfl) rfl rfl ?_;go_wp2;refine ⟨rfl,?_⟩;refine aL rfl rfl (.int .i64 l.aS) (fun w' bI=>bu rfl rfl (fun v=>rfl) (ah bI.2 2 rfl)) ?_;refine aI rfl ?_;go_wp2_with fail;refine (nQ _ _ _ _ 3 l.aS (ak.mk x.id x.aS l.aS 2 x.cmd l.seq l.al false) _ _ (by rw [bS];have h1:=qw.o;rw [bS] at h1;have h2:=HL.o;simp only;omega) (ak.shut (x:=(ak.mk x.id x.aS l.aS 2 x.cmd l.seq l.al false)) ja.o.p1 ja.o.p0).any).mono ?_;rintro e w8 ⟨⟨A9,q9,k9,rfl⟩,hb⟩;have gE:=Hi (ja.o.below hb);clear hb;go_wp2_with fail;refine ⟨⟨⟨gE.o.e3,gE.o.e0⟩,gE.o.e2⟩,?_⟩;refine bA ?_;simp only [aQ,eX,fj,eV];go_wp2_with ((with_reducible apply Gs 47);go_must (refine ai gE.o.e1 ab rfl rfl rfl rfl (Oc rfl) ?_;intro x9 aD hg;have iO:=Hi (gE.o.eK hg aD);clear aD hg));refine ⟨trivial,?_⟩;go_wp2;exact aK rfl ⟨w+2,0,none⟩ rfl (rN n2 A3 k3 B3 g3) _ rfl ab rfl (ag iO.o.e1) rfl (iO.o.Ek rfl fW.o)
 ·have PC:(x.aS != l.aS)=true:=by simp [nG]
  clear nG;go_wp2_with (first|((with_reducible apply Gs 106);go_must (refine ai ((D4.o.new rfl 106 zI).b0 (l:=[])) aw rfl rfl rfl rfl (Oc rfl) ?_;intro x1 aD hg;have j6:=Hi ((D4.o.new (b:=w1) rfl 106 zI).bU hg aD);clear aD hg;have Om:=j6.o.c0 2 rfl;have MD:=j6.o.c2 2 rfl))|((with_reducible apply Gl 47);refine ao j6.o.e3 ab rfl rfl ?_)|((with_reducible apply Gl 25);refine bQ j6.o.e2 0 aC rfl rfl ?_));refine (oC base ([w1.heap.size,(w.heap.size+2),(w.heap.size+1),w.heap.size]++X) n l.id (.slice A1 n.leads k1) _ _ _ j6.o.dc eT.o.2.2.1 j6.o.node (aX.shut (x:=l.id))).mono ?_;rintro e w2 ⟨⟨n2,tj,mv,rfl,fB,dk,kD,nF,eN,hle,eZ⟩⟩;have fW:=Hi (HF.o.El eN hle eZ);clear kD nF eN hle eZ;have d2:=j6.o.step dk fB;clear dk fB;obtain ⟨A3,k3,B3,g3,rfl,rfl,-⟩:=d2.cells;have kI:=Hi (d2);clear d2;have gQ:=Hi (kI.o.alloc (.cells #[] 31));go_wp2_with ((with_reducible apply Gs 47);go_must (refine ai gQ.o.e1 ab rfl rfl rfl rfl (Oc rfl) ?_;intro x3 aD hg;have lF:=Hi (gQ.o.eK hg aD);clear aD hg));exact aK rfl ⟨w+2,0,none⟩ rfl (rN n2 A3 k3 B3 g3) _ rfl ab rfl (ag lF.o.e1) rfl (lF.o.Ek rfl (fW.o.mono (by omega) (by omega) (by omega)))
theorem iF (base:Nat) (X:List Nat) (n:aY) (l:aT) (vl:Value) (cs Oj:List Value) (i j K:Nat) (w:World) (hB:base≤w.heap.size) (hX:∀b∈X,b<w.heap.size) (hf:Fair i j K n) (hi:i≤29) (hj:j≤29) (hK:K≤5000) (hl:l.c.wt≤K) (h:dK w base X n vl cs) (h':aM (okB X vl) w l.c Oj) :
 Calls Tryz.prog 97 #[.agg cs.toArray,.agg Oj.toArray] w (Hh base X vl w (i+1) (j+1) (2*K)):=by
 obtain ⟨Ad,kd,Af,kf,rfl,s0,s1⟩:=aT.open h';have d0:=NX.start (R:=[tD l.al Ad kd,tF l.da Af kf]) hB hX h (by intro r hr;simp only [mem_cons,not_mem_nil,or_false] at hr;rcases hr with rfl|rfl;(· exact s0);(· exact s1));clear h h' s0 s1;obtain ⟨A0,k0,A1,k1,rfl,rfl,-⟩:=d0.cells;have D0:=Hi d0;clear d0;have eT:=Hi (hf.Cd (by omega) (by omega) (by omega));have HF:=Hi hf;clear hf;have Bo:=dx l;have o6:l.al.length≤1048576:=by omega
 have HL:=Hi (show l.al.length+l.da.length≤K from by omega);clear Bo;have D1:=Hi (D0.o.new (b:=w) rfl 47 (rN n A0 k0 A1 k1));have D2:=Hi (D1.o.new (b:=(w+1)) (by simp) 80 (rL l Ad kd Af kf));have D3:=Hi (D2.o.new (b:=(w+2)) (by simp) 47 zN);have q1:=D3.o.c2 2 rfl;go_enter Tryz.func97,Tryz.ntmps97;go_wp2_with ((with_reducible apply Gl 25);refine bQ D3.o.e1 0 aC rfl rfl ?_);refine (gf n.insts l.id A0 _ k0 _ _ rfl eT.o.1 (by simp [aX.c,aX.cs,Cs.wt]) (D3.o.ri.2.any) (aX.shut (x:=l.id))).mono ?_;rintro e w1 ⟨mm,rfl,hM,hb⟩;obtain ⟨x,hx⟩:∃x,x=eR n.insts l.id:=⟨_,rfl⟩;rw [←hx] at hM;have qw:=Hi (show x.c.wt≤K from by rw [hx];exact hI HF.o.iw);clear hx;obtain ⟨Ac,kc,Ax,kx,rfl,c0,c1⟩:=ak.open hM.fresh;have D4:=Hi (D3.o.mY hb c0 c1);clear hM c0 c1 hb;have Ok:=Hi (show w.heap.size+3≤w1.heap.size from (D4.o.e0).lt);go_wp2_with (first|((with_reducible apply Gs 106);go_must (refine ai ((D4.o.new rfl 106 zI).b0 (l:=[])) aw rfl rfl rfl rfl (Oc rfl) ?_;intro x1 aD hg;have D5:=Hi ((D4.o.new (b:=w1) rfl 106 zI).bU hg aD);clear aD hg))|((with_reducible apply Gl 47);refine ao D5.o.e3 ab rfl rfl ?_)|((with_reducible apply Gl 25);refine bQ D5.o.e2 0 aC rfl rfl ?_));refine (oC base ([w1.heap.size,(w.heap.size+2),(w.heap.size+1),w.heap.size]++X) n l.id (.slice A1 n.leads k1) _ _ _ D5.o.dc eT.o.2.2.1 D5.o.node (aX.shut (x:=l.id))).mono ?_;rintro e w2 ⟨⟨n2,tj,mv,rfl,fB,dk,kD,nF,eN,hle,eZ⟩⟩;have fW:=Hi (HF.o.El eN hle eZ);clear kD nF eN hle eZ;have d2:=D5.o.step dk fB;clear dk fB;obtain ⟨A3,k3,B3,g3,rfl,rfl,-⟩:=d2.cells;have D6:=Hi (d2);clear d2;have PR:=Hi (fW.o.Cd (by omega) (by omega) (by omega));by_cases nG:x.aS=l.aS
 ·have PC:(x.aS != l.aS)=false:=by simp [nG]
  clear nG;go_wp2_with (first|((with_reducible apply Gs 47);go_must (refine ai D6.o.e3 ab rfl rfl rfl rfl (Oc rfl) ?_;intro x3 aD hg;have D7:=Hi (D6.o.qv hg aD);clear aD hg;have q2:=D7.o.c0 2 rfl;have q3:=D7.o.c2 2 rfl;have q4:=D7.o.c0 4 rfl;have z4:=(D7.o.e0).frozen 4;have D8:=Hi (NX.fN 4 (.int .i64 3) [x.id.rep,x.id.slot,x.aS,x.bB,.int .i64 3,x.cmd.kind,x.cmd.aE,x.cmd.no,x.cmd.set,x.cmd.name,x.cmd.tag,x.cmd.n,.slice Ac x.cmd.chunks kc,x.seq,.slice Ax x.al kx,x.same] rfl D7.o);have q5:=D8.o.c2 4 rfl;have q6:=D8.o.c0 13 rfl;have z6:=(D8.o.e0).frozen 13;have D9:=Hi (NX.fN 13 (.int .i64 l.seq) [x.id.rep,x.id.slot,x.aS,x.bB,.int .i64 3,x.cmd.kind,x.cmd.aE,x.cmd.no,x.cmd.set,x.cmd.name,x.cmd.tag,x.cmd.n,.slice Ac x.cmd.chunks kc,l.seq,.slice Ax x.al kx,x.same] rfl D8.o);have HE:=Hi (fA ((x3.setCell ⟨w1,4,none⟩ (.int .i64 3)).setCell ⟨w1,13,none⟩ (.int .i64 l.seq)) x3 25 2 x3 (by simp) Nr);obtain ⟨ids,dH,bZ,-⟩:=((D9.o.alloc (.cells #[] 25)).r0 (l:=[_,_])).row;have nz:=Hi dH;have vm:=Hi (dC bZ);have gP:=Hi bZ.one;clear dH bZ;have q7:=ah ((D9.o.alloc (.cells #[] 25)).b0 (l:=[_,_])) 5 rfl))|(at_builtin;go_must (refine aB fp _ rfl _ _ rfl x3 _ 0 _ rfl HE.o _ _ _ ids rfl nz.o gP.o (by omega) (by simp) ?_;intro vx x6 aU et ct;obtain ⟨cr,cm,rfl,_⟩:=eD.bd aU;have kE:=Hi (show NX base X w (.slice A1 n.leads k1) [(w1,106,[x.id.rep,x.id.slot,x.aS,x.bB,.int .i64 3,x.cmd.kind,x.cmd.aE,x.cmd.no,x.cmd.set,x.cmd.name,x.cmd.tag,x.cmd.n,.slice Ac x.cmd.chunks kc,l.seq,.slice Ax x.al kx,x.same]),((w+2),47,zN),((w+1),80,(rL l Ad kd Af kf)),(w,47,(rN n2 A3 k3 B3 g3))] [tD l.al cr cm,tC x.cmd.chunks Ac kc,tD x.al Ax kx,tD l.al Ad kd,tF l.da Af kf] n2 (rN n2 A3 k3 B3 g3) x6 (.slice B3 n2.leads g3) from D9.o.kS (by simp) et (by simpa using aU) vm.o rfl);clear aU et ct;have q8:=kE.o.c0 14 rfl;have z8:=(kE.o.e0).frozen 14;have gF:=Hi (NX.fN 14 (.slice cr l.al cm) [x.id.rep,x.id.slot,x.aS,x.bB,.int .i64 3,x.cmd.kind,x.cmd.aE,x.cmd.no,x.cmd.set,x.cmd.name,x.cmd.tag,x.cmd.n,.slice Ac x.cmd.chunks kc,l.seq,.slice cr l.al cm,x.same] rfl kE.o);have q9:=gF.o.c0 15 rfl;have z9:=(gF.o.e0).frozen 15;have jH:=Hi (NX.fN 15 (.bool false) [x.id.rep,x.id.slot,x.aS,x.bB,.int .i64 3,x.cmd.kind,x.cmd.aE,x.cmd.no,x.cmd.set,x.cmd.name,x.cmd.tag,x.cmd.n,.slice Ac x.cmd.chunks kc,l.seq,.slice cr l.al cm,false] rfl gF.o);have I9:=jH.o.c3 2 rfl))|((with_reducible apply Gl 106);refine ao jH.o.e0 aw rfl rfl ?_));refine (ea _ n2.insts (ak.mk x.id x.aS x.bB 3 x.cmd l.seq l.al false) _ _ _ _ _ rfl (by have h1:=PR.o.2.1;omega) jH.o.ri.2 (ak.shut (x:=(ak.mk x.id x.aS x.bB 3 x.cmd l.seq l.al false)) jH.o.p1 jH.o.p0)).mono ?_;rintro e w4 ⟨AP,mq,cP,rfl,hm,hr,hb⟩;have gU:=Hi (jH.o.ji hb hr);have HM:=Hi hm;clear hm hr hb;have Ja:=gU.o.c3 2 rfl;have TU:=(gU.o.e3).frozen 2;have kY:=Hi (NX.J0 2 (.slice AP mq cP) [n2.me,n2.next,.slice AP mq cP,.slice B3 n2.leads g3] rfl gU.o);have kF:=Hi (kY.o.insts HM.o n2.next);have kG:=Hi (fW.o.put (x:=(ak.mk x.id x.aS x.bB 3 x.cmd l.seq l.al false)) (K':=2*K) (by rw [bS];have h1:=qw.o;rw [bS] at h1;have h2:=HL.o;simp only;omega) (by omega) n2.next);go_wp2;have jx:=Hi (kF.o.drew);refine bz (fun v=>(bf v w 47 #[n2.me,n2.next,.slice AP mq cP,.slice B3 n2.leads g3])∧bf v w1 106 #[x.id.rep,x.id.slot,x.aS,x.bB,.int .i64 3,x.cmd.kind,x.cmd.aE,x.cmd.no,x.cmd.set,x.cmd.name,x.cmd.tag,x.cmd.n,.slice Ac x.cmd.chunks kc,l.seq,.slice cr l.al cm,false]) 4 (.rd 0 (.rd 1 (.rd 2 (.act 3 .leaf)))) [4,5] (by kernel_rfl) (by kernel_rfl) ⟨jx.o.e3,jx.o.e0⟩ ?_;refine aL rfl rfl _ (fun w' bI=>eh bI.1 ab rfl rfl rfl) ?_;refine aL rfl rfl _ (fun w' bI=>eh bI.1 ab rfl rfl rfl) ?_;refine aL rfl rfl _ (fun w' bI=>eh bI.2 aw rfl rfl rfl) ?_;refine aI rfl ?_;go_wp2_with fail;refine (nQ _ _ _ _ 5 0 (ak.mk x.id x.aS x.bB 3 x.cmd l.seq l.al false) _ _ (by rw [bS];have h1:=qw.o;rw [bS] at h1;have h2:=HL.o;simp only;omega) (ak.shut (x:=(ak.mk x.id x.aS x.bB 3 x.cmd l.seq l.al false)) jx.o.p1 jx.o.p0).any).mono ?_;rintro e w8 ⟨⟨A9,q9,k9,rfl⟩,hb⟩;have iZ:=Hi (jx.o.below hb);clear hb;go_wp2_with fail;refine ⟨⟨iZ.o.e3,iZ.o.e0⟩,?_⟩;refine bA ?_;simp only [aQ,eX,fj,eV];go_wp2_with ((with_reducible apply Gs 47);go_must (refine ai iZ.o.e1 ab rfl rfl rfl rfl (Oc rfl) ?_;intro x9 aD hg;have jG:=Hi (iZ.o.eK hg aD);clear aD hg));refine ⟨trivial,?_⟩;go_wp2;exact aK rfl ⟨w+2,0,none⟩ rfl [n2.me,n2.next,.slice AP mq cP,.slice B3 n2.leads g3] _ rfl ab rfl (ag jG.o.e1) rfl (jG.o.Ek rfl (kG.o.mono (by omega) (by omega) (by omega)))
 ·have PC:(x.aS != l.aS)=true:=by simp [nG]
  clear nG;go_wp2_with (first|((with_reducible apply Ga 47 (Operand.tmp 2));go_must (refine ai D6.o.e3 ab rfl rfl rfl rfl (Oc rfl) ?_;intro x3 aD hg;have jI:=Hi (D6.o.qv hg aD);clear aD hg;have Jb:=jI.o.c0 2 rfl;have J2:=jI.o.c2 2 rfl;have ja:=Hi (jI.o.alloc (.cells #[] 31))))|((with_reducible apply Gl 47);refine ao jI.o.e3 ab rfl rfl ?_)|((with_reducible apply Ga 47 (Operand.tmp 4));go_must (refine ai ja.o.e1 ab rfl rfl rfl rfl (Oc rfl) ?_;intro x4 aD hg;have gE:=Hi (ja.o.eK hg aD);clear aD hg)));exact aK rfl ⟨w+2,0,none⟩ rfl (rN n2 A3 k3 B3 g3) _ rfl ab rfl (ag gE.o.e1) rfl (gE.o.Ek rfl (fW.o.mono (by omega) (by omega) (by omega)))
theorem ey {w:World} {g e sz:Nat} (h:bf w g e #[]):w.ownsRow g e sz (.slice (some ⟨g,0,none⟩) 0 0) 0 []:=
 ⟨by simp,.inr ⟨g,0,#[],rfl,Nat.le_refl _,h,Nat.le_refl _,by simp [maxLen],by simp,by simp⟩⟩
theorem sV {w:World} {base:Nat}:∀{l:List aX} {cells:List Value} {F:List Nat},Own w base (cat aX.c l) cells F→F=[]
 |[],cells,F,h=>(Own.nil.1 (show Own w base .nil cells F from h)).2
 |y::r,cells,F,h=>by
  rw [dA] at h;obtain ⟨c1,c2,F1,F2,rfl,rfl,h1,h2⟩:=Own.app.1 h;obtain ⟨_,rfl⟩:=aX.j8 h1;rw [sV h2];rfl
theorem Hq {B:Nat→Prop} {w:World} {base n c:Nat} {A:Option Addr} {l:List aX} {ids:List Value} (hB:∀b,(Value.slice A n c).ownBlock=some b→B b) (h:w.ownsRow base 25 2 (.slice A n c) n ids) (hi:ids=bO l) (hn:n=l.length):aM B w (.sl 25 2 n (cat aX.c l) .nil) [.slice A n c]:=by
 subst hi;obtain ⟨F,nO,ho⟩:=mn h hn;obtain ⟨cells,F2,hF,hw,hr,hi⟩:=Own.zW.1 ho;refine ho.rep.mono (fun b hb=>?_);rw [sV hi] at hF;subst hF;simp only [append_nil,Option.mem_toList] at hb;exact hB b hb
section
variable {base:Nat} {X:List Nat} {w0 w w':World} {dz vl uK:Value} {R:List (Cs × List Value)} {n n':aY} {cs dE:List Value} {p:Nat × Nat × List Value} {l r:List (Nat × Nat × List Value)}
theorem NW.del (h:NW base w0 dz (l++p::r) w vl):NW base w0 dz (l++r) w vl:=
 ⟨h.st,fun q hq=>h.bk q (by rcases List.mem_append.1 hq with h1|h1;(· exact List.mem_append.2 (.inl h1));(· exact List.mem_append.2 (.inr (mem_cons_of_mem _ h1)))),List.Nodup.sublist (List.Sublist.map _ (List.Sublist.append_left (List.sublist_cons_self _ _) _)) h.nd,h.lo⟩
theorem NX.ed {ge t m c:Nat} {A:Option Addr} {l0:List aX} {ids:List Value} {e0:List Value}
 (h:NX base X w0 dz (l++(ge,t,e0)::r) R n cs w vl) (hg:w.grownBy w' (some ge)) (xV:(Value.slice A m c).ownBlock=some ge∨(Value.slice A m c).ownBlock=some w.heap.size) (bg:w'.ownsRow ge 25 2 (.slice A m c) m ids) (hi:ids=bO l0) (hm:m=l0.length) :
 NX base X w0 dz (l++r) ((.sl 25 2 m (cat aX.c l0) .nil,[.slice A m c])::R) n cs w' vl:=by
 have ni:=h.nw.bk (ge,t,e0) (by simp);simp only at ni;have lv:=ni.2.1.lt;have nO:=h.nw.nd;rw [map_append,map_cons,nodup_append,nodup_cons] at nO;obtain ⟨n1,⟨n2,n3⟩,n4⟩:=nO;have dO:∀p∈l++r,p.1≠ge:=fun p hp e=>by
  rcases List.mem_append.1 hp with hp|hp
  ·exact n4 p.1 (List.mem_map.2 ⟨p,hp,rfl⟩) ge (by simp) e
  ·exact n2 (List.mem_map.2 ⟨p,hp,e⟩)
 have hk:∀b,okB ((l++(ge,t,e0)::r).map (fun p=>p.1)++X) vl b→b<w.heap.size→okB ((l++r).map (fun p=>p.1)++X) vl b∧w'.heap[b]?=w.heap[b]?:=fun b hb hl=>by
  have cz:b≠ge:=fun e=>hb.2 (by simp [e])
  refine ⟨⟨hb.1,fun hm=>hb.2 ?_⟩,hg.block b hl (fun e=>by injection e with e;exact cz e)⟩;simp only [map_append,mem_append,map_cons,mem_cons] at hm ⊢;rcases hm with (h1|h1)|h1
  ·exact .inl (.inl h1)
  ·exact .inl (.inr (.inr h1))
  ·exact .inr h1
 have WH:ge∉X:=fun hx=>by have:=h.low ge hx;omega
 obtain ⟨A1,k1,cells,rfl,h1,h2,h3,h4⟩:=h.node.out;refine ⟨h.nw.del.grown hg (fun k hk=>by injection hk with hk;subst hk;exact ⟨ni.1,ni.2.2,dO⟩),⟨A1,k1,cells,rfl,h1.dt hg.size hk,iB h2 hg (fun k hk=>by injection hk with hk;subst hk;exact ni.2.2),h3.dt hg.size hk,h4⟩,fun q hq=>?_,h.low⟩;rcases List.mem_cons.1 hq with rfl|hq
 ·refine Hq (fun b hb=>?_) bg hi hm;rcases xV with h4|h4
  ·rw [h4] at hb;injection hb with hb;subst hb;refine ⟨ni.2.2,fun hm=>?_⟩;rcases List.mem_append.1 hm with hm|hm
   ·obtain ⟨p,hp,e⟩:=List.mem_map.1 hm;exact dO p hp e
   ·exact WH hm
  ·rw [h4] at hb;injection hb with hb;subst hb;refine ⟨fun e=>by have:=h.node.sN _ e;omega,fun hm=>?_⟩;rcases List.mem_append.1 hm with hm|hm
   ·obtain ⟨p,hp,e⟩:=List.mem_map.1 hm;have:=(h.nw.del.bk p hp).2.1.lt;omega
   ·have:=h.iD w.heap.size (List.mem_append.2 (.inr hm));omega
 ·exact (h.lA q hq).dt hg.size hk
end
structure J3 (L:List Value) (q k:Nat) (cells:List Value):Prop where
 qk:q≤k
 km:k≤maxLen
 len:L.length=k
 take:L.take q=cells
theorem J3.row {w:World} {g e q k:Nat} {L cells:List Value} (h:J3 L q k cells) (hb:bf w g e L.toArray) (hc:cells.length=q):w.ownsRow g e 1 (.slice (some ⟨g,0,none⟩) q k) q cells:=
 ⟨by omega,.inr ⟨g,k,L.toArray,rfl,Nat.le_refl _,hb,h.qk,h.km,by have:=h.len;simp [this],by rw [Nat.mul_one];exact h.take⟩⟩
section
variable {base:Nat} {X:List Nat} {w0 w w':World} {dz vl uK:Value} {R:List (Cs × List Value)} {n n':aY} {cs dE:List Value} {l r:List (Nat × Nat × List Value)}
theorem NX.K8 {g g' t:Nat} {L L':List Value} (h:NX base X w0 dz (l++(g,t,L)::r) R n cs w vl) (hg:w.grownBy w' (some g)) (PU:g'=g∨g'=w.heap.size) (hb:bf w' g' t L'.toArray):NX base X w0 dz (l++(g',t,L')::r) R n cs w' vl:=by
 have ni:=h.nw.bk (g,t,L) (by simp);simp only at ni;have lv:=ni.2.1.lt;have nO:=h.nw.nd;have Zp:=h.nw.size;rw [map_append,map_cons,nodup_append,nodup_cons] at nO;obtain ⟨n1,⟨n2,n3⟩,n4⟩:=nO;have dO:∀p∈l++r,p.1≠g:=fun p hp e=>by
  rcases List.mem_append.1 hp with hp|hp
  ·exact n4 p.1 (List.mem_map.2 ⟨p,hp,rfl⟩) g (by simp) e
  ·exact n2 (List.mem_map.2 ⟨p,hp,e⟩)
 have eN:∀p∈l++r,p∈l++(g,t,L)::r:=fun p hp=>by
  rcases List.mem_append.1 hp with hp|hp
  ·simp [hp]
  ·simp [hp]
 have PV:∀p∈l++r,p.1≠g':=fun p hp e=>by
  rcases PU with h1|h1
  ·exact dO p hp (by rw [e,h1])
  ·have:=(h.nw.bk p (eN p hp)).2.1.lt;omega
 have WH:g'∉X:=fun hx=>by
  have h1:=h.low _ hx;rcases PU with h2|h2<;>omega
 have TW:AX vl g':=fun e=>by
  rcases PU with h1|h1
  ·exact ni.2.2 (by rw [←h1];exact e)
  ·have:=h.node.sN _ e;omega
 have hk:∀b,okB ((l++(g,t,L)::r).map (fun p=>p.1)++X) vl b→b<w.heap.size→okB ((l++(g',t,L')::r).map (fun p=>p.1)++X) vl b∧w'.heap[b]?=w.heap[b]?:=fun b hb hl=>by
  have cz:b≠g:=fun e=>hb.2 (by simp [e])
  refine ⟨⟨hb.1,fun hm=>hb.2 ?_⟩,hg.block b hl (fun e=>by injection e with e;exact cz e)⟩;have fh:b≠g':=fun e=>by
   rcases PU with h1|h1
   ·exact cz (by rw [e,h1])
   ·omega
  simp only [map_append,mem_append,map_cons,mem_cons] at hm ⊢;rcases hm with (h1|h1|h1)|h1
  ·exact .inl (.inl h1)
  ·exact absurd h1 fh
  ·exact .inl (.inr (.inr h1))
  ·exact .inr h1
 obtain ⟨A1,k1,cells,rfl,h1,h2,h3,h4⟩:=h.node.out;have K9:=h.nw.del.grown hg (fun k hk=>by injection hk with hk;subst hk;exact ⟨ni.1,ni.2.2,dO⟩);refine ⟨⟨K9.st,fun p hp=>?_,?_,h.nw.lo⟩,⟨A1,k1,cells,rfl,h1.dt hg.size hk,iB h2 hg (fun k hk=>by injection hk with hk;subst hk;exact ni.2.2),h3.dt hg.size hk,h4⟩,fun q hq=>(h.lA q hq).dt hg.size hk,h.low⟩
 ·rcases List.mem_append.1 hp with hp|hp
  ·exact K9.bk p (List.mem_append.2 (.inl hp))
  ·rcases List.mem_cons.1 hp with rfl|hp
   ·refine ⟨?_,hb,TW⟩;rcases PU with h5|h5
    ·rw [h5];exact ni.1
    ·simp only;omega
   ·exact K9.bk p (List.mem_append.2 (.inr hp))
 ·rw [map_append,map_cons,nodup_append,nodup_cons];refine ⟨n1,⟨fun hx=>?_,n3⟩,fun a ha c hc e=>?_⟩
  ·obtain ⟨p,hp,e⟩:=List.mem_map.1 hx;exact PV p (List.mem_append.2 (.inr hp)) e
  ·obtain ⟨p,hp,e2⟩:=List.mem_map.1 ha;rcases List.mem_cons.1 hc with h5|h5
   ·exact PV p (List.mem_append.2 (.inl hp)) (by rw [e2,e,h5])
   ·exact n4 a ha c (mem_cons_of_mem _ h5) e
theorem NX.ME {g t:Nat} {L:List Value} {d:Cs} {ds:List Value} (h:NX base X w0 dz (l++(g,t,L)::r) R n cs w vl) (hr:aM (fun b=>b=g) w d ds):NX base X w0 dz (l++r) ((d,ds)::R) n cs w vl:=by
 have ni:=h.nw.bk (g,t,L) (by simp);simp only at ni;have nO:=h.nw.nd;have Zp:=h.nw.size;rw [map_append,map_cons,nodup_append,nodup_cons] at nO;obtain ⟨n1,⟨n2,n3⟩,n4⟩:=nO;have hk:∀b,okB ((l++(g,t,L)::r).map (fun p=>p.1)++X) vl b→okB ((l++r).map (fun p=>p.1)++X) vl b:=fun b hb=>⟨hb.1,fun hm=>hb.2 (by
  simp only [map_append,mem_append,map_cons,mem_cons] at hm ⊢;rcases hm with (h1|h1)|h1
  ·exact .inl (.inl h1)
  ·exact .inl (.inr (.inr h1))
  ·exact .inr h1)⟩
 obtain ⟨A1,k1,cells,rfl,h1,h2,h3,h4⟩:=h.node.out;refine ⟨h.nw.del,⟨A1,k1,cells,rfl,h1.mono hk,h2,h3.mono hk,h4⟩,fun q hq=>?_,h.low⟩;rcases List.mem_cons.1 hq with rfl|hq
 ·refine hr.mono (fun b hb=>?_);subst hb;refine ⟨ni.2.2,fun hm=>?_⟩;rcases List.mem_append.1 hm with hm|hm
  ·rw [map_append] at hm;rcases List.mem_append.1 hm with hm|hm
   ·exact n4 b hm b (by simp) rfl
   ·exact n2 hm
  ·have:=h.low b hm;omega
 ·exact (h.lA q hq).mono hk
theorem NX.lead {bl:List (Nat × Nat × List Value)} {A0:Option Addr} {k0:Nat} {A1:Option Addr} {k1:Nat} (h:NX base X w0 dz bl R n (rN n A0 k0 A1 k1) w (.slice A1 n.leads k1)) (k:Nat) (hk:k<n.leads.length) :
 ∃(g:Nat) (Ay:Option Addr) (ky:Nat) (By:Option Addr) (gy:Nat),A1=some ⟨g,0,none⟩∧n.leads[k].al.length≤ky∧aM (okB (bl.map (fun p=>p.1)++X) (.slice A1 n.leads k1)) w (.sl 25 2 n.leads[k].al.length (cat aX.c n.leads[k].al) .nil) [.slice Ay n.leads[k].al.length ky]∧n.leads[k].da.length≤gy ∧
  aM (okB (bl.map (fun p=>p.1)++X) (.slice A1 n.leads k1)) w (.sl 3 1 n.leads[k].da.length (cat qS n.leads[k].da) .nil) [.slice By n.leads[k].da.length gy] ∧
  ∀w',Below w.heap.size w w'→∀j v,[Value.int .i64 n.leads[k].id.rep,.int .i64 n.leads[k].id.slot,.int .i64 n.leads[k].aS,.int .i64 n.leads[k].phase,.int .i64 n.leads[k].seq,.slice Ay n.leads[k].al.length ky,.slice By n.leads[k].da.length gy,.bool n.leads[k].same][j]?=some v→w'.cell? ((⟨g,k*8,none⟩:Addr).add j)=some v:=by
 obtain ⟨A,k2,cells,he,h1,h2,h3,h4⟩:=h.node.out;obtain ⟨g,ci,hA,lv,bZ,K0,Cc,hc⟩:=Bg h2 h3 aT.width k hk rfl;obtain ⟨Ay,ky,By,gy,rfl,s0,s1⟩:=aT.open bZ;refine ⟨g,Ay,ky,By,gy,hA,h4 (.slice Ay _ ky) (Cc _ (by simp)),s0,h4 (.slice By _ gy) (Cc _ (by simp)),s1,fun w' hb j v hv=>?_⟩;rw [World.cell?_of_block (w:=w) (hb.block _ (by rw [cR];exact lv))];exact hc j v hv
end
theorem Bu (l:List Int):∀{B:Nat→Prop} {w:World},aM B w (cat qS l) (l.map (fun i=>Value.int .i64 i)):=by
 induction l with
 |nil=>intro B w;exact aM.nil.2 rfl
 |cons a r ih=>intro B w;rw [dA];exact aM.app.2 ⟨[a],_,rfl,aM.int.2 ⟨[],rfl,aM.nil.2 rfl⟩,ih⟩
theorem oJ {B:Nat→Prop} {w:World}:∀{l:List Int} {cells:List Value},aM B w (cat qS l) cells→cells=l.map (fun i=>Value.int .i64 i)
 |[],cells,h=>aM.nil.1 (show aM B w .nil cells from h)
 |a::r,cells,h=>by
  rw [dA] at h;obtain ⟨c1,c2,rfl,h1,h2⟩:=aM.app.1 h;obtain ⟨c',rfl,h3⟩:=aM.int.1 (show aM B w (.int a .nil) c1 from h1);rw [aM.nil.1 h3,oJ h2];rfl
theorem Hr {w:World} {g q k:Nat} {l:List Int} (h:w.ownsRow g 3 1 (.slice (some ⟨g,0,none⟩) q k) q (l.map (fun i=>Value.int .i64 i))) (hq:q=l.length):aM (fun b=>b=g) w (.sl 3 1 q (cat qS l) .nil) [.slice (some ⟨g,0,none⟩) q k]:=by
 simp only [aM];refine ⟨_,_,l.map (fun i=>Value.int .i64 i),[],rfl,by rw [fz (sz:=1) (fun _=>rfl),hq],fun h0=>?_,Bu l,rfl⟩;rcases h.2 with ⟨h1,_⟩|⟨g',cap,cur,hv,hb,hh,_⟩
 ·injection h1 with e1;cases e1
 ·injection hv with e1 _ e3;injection e1 with e1;injection e1 with e1;subst e1 e3;exact ⟨⟨g,0,none⟩,rfl,rfl,(Array.getElem?_eq_some_iff.1 hh).1,fun j u hu=>h.cells rfl j u hu⟩
end Go.Proofs.YtfgliohpdgnmcaaGreat
