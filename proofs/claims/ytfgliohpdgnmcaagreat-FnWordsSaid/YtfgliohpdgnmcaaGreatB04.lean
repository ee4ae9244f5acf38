/- Lemmas for the walks of one claim (UnframeS, Parse, ParseC, EOkI, EOkS, ShED, Ord, RchP, ParseE, ReadC, WordsLaw). Conditions: bounds on sizes, as each names them. -/
import Derived.Test.YtfgliohpdgnmcaaGreatB06
import Derived.Test.YtfgliohpdgnmcaaGreatB08
set_option linter.unusedVariables false
set_option linter.unusedSimpArgs false
set_option maxRecDepth 100000
set_option maxHeartbeats 8000000
namespace Go.Proofs.YtfgliohpdgnmcaaGreat
open Go.RowKit
open List (length_drop map_cons map_nil length_cons map_append length_append append_assoc take_succ_eq_append_getElem length_take getElem_mem drop_eq_getElem_cons take_append_drop append_nil take_length flatten_append flatten_cons mem_cons_of_mem length_nil flatten_nil nil_append getElem_of_mem mem_cons not_mem_nil)
def nH (s:List UInt8) (at_:Int):List UInt8 × Int:=
 if (fX s 1 at_).2<0∨(((fX s 1 at_).1.headD 0:Nat):Int)>s.length-(fX s 1 at_).2 then ([],-1)
 else ((s.drop (fX s 1 at_).2.toNat).take ((fX s 1 at_).1.headD 0),(fX s 1 at_).2+((fX s 1 at_).1.headD 0:Nat))
theorem O9 {s:List UInt8} {at_:Int} (h:(fX s 1 at_).2<0):nH s at_=([],-1):=if_pos (Or.inl h)
theorem Pa {s:List UInt8} {at_:Int} {x k:Nat} (h:fX s 1 at_=([x],(k:Int))) (hb:(x:Int)>s.length-(k:Int)):nH s at_=([],-1):=by
 unfold nH;rw [h];exact if_pos (Or.inr hb)
theorem KK {s:List UInt8} {at_:Int} {x k:Nat} (h:fX s 1 at_=([x],(k:Int))) (hb:¬(x:Int)>s.length-(k:Int)):nH s at_=((s.drop k).take x,(k:Int)+(x:Int)):=by
 unfold nH;rw [h];exact if_neg (fun hh=>hh.elim (fun h1=>by
  have:(0:Int)≤(k:Int):=by omega
  exact absurd h1 (by omega)) hb)
theorem uT (s:List UInt8) (at_:Int):(nH s at_).1.length≤s.length:=by
 unfold nH;split
 ·simp
 ·simp only [length_take,length_drop];omega
theorem pV (s:List UInt8) (at_:Int) (h : -1≤at_) : -1≤(nH s at_).2∧(nH s at_).2≤s.length:=by
 have:=jo s 1 at_ h (Or.inr (by omega));unfold nH;split
 ·exact ⟨Int.le_refl _,by show (-1:Int)≤_;omega⟩
 ·exact ⟨by show (-1:Int)≤_+_;omega,by show _+_≤_;omega⟩
theorem od (s:List UInt8) (at_:Int) (w:World) (yS:(s.length:Int)≤4611686018427387904) (xV : -1≤at_∧at_≤4611686018427387910) :
 Calls Tryz.prog 29 #[s,at_] w fun e w'=>e = .returned (.tuple #[.string (bs (nH s at_).1),.int .i64 (nH s at_).2])∧Below w w w':=by
 have hr:=jo s 1 at_ xV.1 (Or.inr (by omega));obtain ⟨xC,ti,O2⟩:=nZ s 1 at_;have Pb:=@O9 s at_;have iY:=@Pa s at_;have RF:=@KK s at_;generalize hR:fX s 1 at_=R at *;obtain ⟨L,k⟩:=R;have HR:=Hi hR;clear hR;simp only at hr xC ti O2 Pb;have sa:=kn s at_ 1 w yS xV (by omega);rw [HR.o] at sa;by_cases hk:k<0
 ·have hT:=Pb hk;have HT:=Hi hT;clear hT xC ti O2 Pb iY RF;have HC:=Hi sa;clear sa;go_enter Tryz.func29,Tryz.ntmps29;go_wp2_with fail;refine HC.o.mono ?_;rintro e w1 ⟨v,rfl,bg,cW⟩;have HO:=Hi bg;clear bg;have B1:=Hi cW;clear cW;go_wp2
  go_ret2
  exact ⟨au (by rw [HT.o];rfl),B1.o⟩
 ·have hlen:L.length=1:=ti (by omega);obtain ⟨x,rfl⟩:∃x,L=[x]:=by
   match L,hlen with
   |[x],_=>exact ⟨x,rfl⟩
  have hx:x≤562949953421311:=O2 x (by simp);obtain ⟨K,rfl⟩:=Int.eq_ofNat_of_zero_le (show 0≤k by omega);clear xC ti O2 hlen hk;have HC:=Hi sa;clear sa;by_cases EV:(x:Int)>s.length-(K:Int)
  ·have hT:=iY rfl EV;have HT:=Hi hT;clear hT Pb iY RF;go_enter Tryz.func29,Tryz.ntmps29;go_wp2_with fail;refine HC.o.mono ?_;rintro e w1 ⟨v,rfl,bg,cW⟩;obtain ⟨g,c,rfl,cQ,kL⟩:=mc bg (by simp);have hc:=bg.cellAt 0 (by simp);simp only [map_cons,map_nil,eV,xE] at hc;have HO:=Hi bg;clear bg;have B1:=Hi cW;clear cW;go_wp2
   go_ret2
   exact ⟨au (by rw [HT.o];rfl),B1.o⟩
  ·have hT:=RF rfl EV;have HT:=Hi hT;clear hT Pb iY RF;go_enter Tryz.func29,Tryz.ntmps29;go_wp2_with fail;refine HC.o.mono ?_;rintro e w1 ⟨v,rfl,bg,cW⟩;obtain ⟨g,c,rfl,cQ,kL⟩:=mc bg (by simp);have hc:=bg.cellAt 0 (by simp);simp only [map_cons,map_nil,eV,xE] at hc;have HO:=Hi bg;clear bg;have B1:=Hi cW;clear cW;have dd:(0:Int)≤(K:Int)∧(K:Int)≤(K:Int)+(x:Int)∧(K:Int)+(x:Int)≤(s.length:Int):=by omega
   go_wp2;refine ax 15 Ah (by kernel_rfl) (by kernel_rfl) ?_;iterate 15 (refine ae rfl (by kernel_rfl) rfl ?_;go_wp2;refine ⟨rfl,?_⟩)
   refine aO ?_;simp only [eo,ep];go_wp2
   go_ret2
   refine ⟨au (by rw [HT.o];try simp),B1.o.drew⟩
attribute [local irreducible] pj nH Js GA
theorem GB (n:Nat):rF (kZ n)=n:=by
 induction n using Nat.strongRecOn with
 |_ n ih=>
  by_cases h:n<128
  ·rw [pU h];simp only [rF,UInt8.toNat_ofNat'];omega
  ·rw [rV h];simp only [rF,UInt8.toNat_ofNat',ih (n/128) (by omega)];omega
theorem GC (n:Nat):1≤(kZ n).length:=by
 obtain ⟨xs,b,he,_⟩:=qR n;rw [he];simp
theorem xF (n:Nat) (hn:n≤562949953421311) (t:List UInt8):bJ (kZ n++t)=(n,(kZ n).length):=by
 have h7:=lG hn;have hl:=GB n;have hf:=vE hn;obtain ⟨xs,b,he,h1,h2⟩:=qR n;rw [he] at h7 hl hf ⊢;have hlen:(xs++[b]).length=xs.length+1:=by simp
 have xY:(xs++[b]++t).take (xs.length+1)=xs++[b]:=by rw [←hlen,List.take_left'];rfl
 have hr:=Gx (l:=xs++[b]++t) xs.length (by omega) (by simp) (fun j hj oY=>by
  rw [List.getElem_append_left (by simp;omega),List.getElem_append_left (by omega)];exact h1 _ (getElem_mem _)) (by
  rw [List.getElem_append_left (by simp),List.getElem_append_right (by omega)];simpa using h2);have Yt:nE (xs++[b]++t) (xs.length+1)=true:=by
  unfold nE;rw [xY,hl,hf];simp
 rw [hr,Yt,if_pos rfl,xY,hl,hlen]
theorem sb {n:Int} (h:0≤n∧n≤562949953421311):1≤(ba n).length:=by
 rw [ba,if_pos h];exact GC _
theorem qD {n:Int} (h:0≤n∧n≤562949953421311) (t:List UInt8):bJ (ba n++t)=(n.toNat,(ba n).length):=by
 rw [ba,if_pos h];exact xF _ (by omega) t
theorem cT {n:Int} (h:0≤n∧n≤562949953421311) (t:List UInt8):aP (ba n++t) false=(n.toNat,t,false):=by
 have hr:=qD h t;have hp:=sb h;unfold aP;rw [hr,if_neg (fun hh=>hh.elim (fun h=>by cases h) (fun h=>by have h2:(ba n).length=0:=h;omega))];simp
theorem jL (l t:List UInt8) (h:l.length≤562949953421311):bY (bF l++t) false=(l,t,false):=by
 unfold bY bF;rw [append_assoc,cT (by omega)];unfold dn;simp only [Int.toNat_natCast];rw [if_neg (by simp;omega)];simp
theorem sc (l t:List UInt8) (n:Int) (h:n=(l.length:Int)):dn (l++t) false n=(l,t,false):=by
 subst h;unfold dn;rw [if_neg (by simp;omega)];simp
theorem po (a t:List UInt8) (n:Int) (k:Nat) (h:0≤n∧n≤562949953421311) :
 fX (a++(ba n++t)) (k+1) (a.length:Int)=(n.toNat::(fX (a++(ba n++t)) k ((a++ba n).length:Int)).1,(fX (a++(ba n++t)) k ((a++ba n).length:Int)).2):=by
 have hp:=sb h;have hd:(a++(ba n++t)).drop ((a.length:Int)).toNat=ba n++t:=by simp
 rw [fX,if_neg (by simp;omega),hd,qD h,if_neg (fun hh=>by have h2:(ba n).length=0:=hh;omega)];simp only [length_append];rw [show ((a.length:Int)+((ba n).length:Nat))=((a.length+(ba n).length:Nat):Int) by omega]
theorem uU (a t:List UInt8) (n:Int) (h:0≤n∧n≤562949953421311):fX (a++(ba n++t)) 1 (a.length:Int)=([n.toNat],((a++ba n).length:Int)):=by
 rw [po a t n 0 h];rfl
theorem pW (a l t:List UInt8) (h:l.length≤562949953421311):nH (a++(bF l++t)) (a.length:Int)=(l,((a++bF l).length:Int)):=by
 have hv:=uU a (l++t) (l.length:Int) (by omega);have e:a++(bF l++t)=a++(ba (l.length:Int)++(l++t)):=by simp [bF]
 rw [←e] at hv;rw [Int.toNat_natCast] at hv;rw [KK hv (by simp [bF];omega)];have hd:(a++(bF l++t)).drop (a++ba (l.length:Int)).length=l++t:=by
  rw [e,←append_assoc,List.drop_left'];rfl
 rw [hd];simp [bF];omega
theorem kt {lo hi x:Int} (h:gD lo hi x=true):lo≤x∧x≤hi:=by simpa [gD] using h
theorem cB (r:List UInt8) (b:Bool):(aP r b).2.1.length≤r.length∧((aP r b).2.2=false→b=false∧(aP r b).2.1.length+1≤r.length)∧((aP r b).2.2=true→(aP r b).1=0):=by
 have hle:=(jn r).2.1;unfold aP;split
 ·exact ⟨Nat.le_refl _,(fun h=>by cases h),fun _=>rfl⟩
 ·rename_i h;simp only [not_or] at h;refine ⟨by simp,fun _=>⟨by simpa using h.1,?_⟩,fun h=>by cases h⟩;simp only [length_drop];have:=h.2;omega
theorem mP (r:List UInt8) (b:Bool) (n:Int):(dn r b n).1.length+(dn r b n).2.1.length≤r.length∧((dn r b n).2.2=false→b=false):=by
 unfold dn;split
 ·exact ⟨by simp,fun h=>by cases h⟩
 ·rename_i h;simp only [not_or] at h;exact ⟨by simp only [length_take,length_drop];omega,fun _=>by simpa using h.1⟩
theorem gC (r:List UInt8) (b:Bool):(bY r b).1.length+(bY r b).2.1.length≤r.length∧((bY r b).2.2=false→b=false∧(bY r b).1.length+(bY r b).2.1.length+1≤r.length):=by
 have h1:=cB r b;have h2:=mP (aP r b).2.1 (aP r b).2.2 ((aP r b).1:Int);unfold bY;refine ⟨by omega,fun h=>?_⟩;have h3:=h1.2.1 (h2.2 h);exact ⟨h3.1,by omega⟩
def iV:Nat→List UInt8→Bool→List (List UInt8) × List UInt8 × Bool
 |0,r,b=>([],r,b)
 |n+1,r,b=>((dn r b 8).1::(iV n (dn r b 8).2.1 (dn r b 8).2.2).1,(iV n (dn r b 8).2.1 (dn r b 8).2.2).2)
theorem yh:∀(n:Nat) (r:List UInt8) (b:Bool),(iV n r b).1.flatten.length+(iV n r b).2.1.length≤r.length∧(iV n r b).1.length=n
 |0,r,b=>⟨by simp [iV],rfl⟩
 |n+1,r,b=>by
  have h1:=mP r b 8;have h2:=yh n (dn r b 8).2.1 (dn r b 8).2.2;simp only [iV,flatten_cons,length_append,length_cons];omega
theorem vM:∀(xs:List (List UInt8)),(∀x∈xs,x.length=8)→iV xs.length xs.flatten false=(xs,[],false)
 |[],_=>rfl
 |x::xs,h=>by
  have h8:=h x (by simp);have h1:=sc x xs.flatten 8 (by omega);have ih:=vM xs (fun y hy=>h y (mem_cons_of_mem _ hy));simp only [length_cons,flatten_cons,iV,h1,ih]
theorem iz {c:aR} (h:dQ c=true):(0≤c.kind∧c.kind≤7)∧(0≤c.aE∧c.aE≤9)∧(0≤c.no∧c.no≤1000)∧(0≤c.n∧c.n≤9)∧c.set.length≤8∧c.name.length≤8∧c.tag.length≤8∧c.chunks.length≤4∧∀x∈c.chunks,x.length=8:=by
 have wd:∀(s:List UInt8) (b:Bool),fP s b=true→s.length≤8:=fun s b hh=>by
  unfold fP at hh;split at hh
  ·simp only [mO,Bool.and_eq_true] at hh;have:=kt hh.1;omega
  ·simp only [decide_eq_true_eq] at hh;rw [hh];simp
 unfold dQ at h;split at h
 ·simp only [cC,decide_eq_true_eq] at h;subst h;simp [bG]
 ·rename_i hk;simp only [Bool.and_eq_true,Bool.or_eq_true,beq_iff_eq] at h;obtain ⟨h1,h2,h3,h4,h5,h6,h7,h8⟩:=h;have h1:=kt h1;have h2:=kt h2;have h3:=kt h3;refine ⟨by omega,by omega,by omega,?_,wd _ _ h4,wd _ _ h5,wd _ _ h6,?_⟩
  ·rcases h7 with h7|⟨_,h7⟩
   ·omega
   ·exact kt h7
  ·split at h8
   ·simp only [Bool.and_eq_true] at h8;have h9:=kt h8.1;exact ⟨by omega,fun x hx=>by have:=List.all_eq_true.1 h8.2 x hx;simpa using this⟩
   ·simp only [beq_iff_eq] at h8;have h9:c.chunks=[]:=List.eq_nil_of_length_eq_zero (by omega);rw [h9];simp
theorem yi (c:aR) (h:dQ c=true):uh c≠[]:=by
 obtain ⟨h1,_⟩:=iz h;have:=sb (n:=c.kind) (by omega);intro e;rw [uh] at e;have:=congrArg List.length e;simp only [length_append,length_nil] at this;omega
def lq (s:List UInt8):aR × Bool:=
 let k:=aP s false
 let cl:=aP k.2.1 k.2.2
 let no:=aP cl.2.1 cl.2.2
 let n:=aP no.2.1 no.2.2
 let st:=bY n.2.1 n.2.2
 let nm:=bY st.2.1 st.2.2
 let tg:=bY nm.2.1 nm.2.2
 let m:=aP tg.2.1 tg.2.2
 let ch:=if m.1≤4 then iV m.1 m.2.1 m.2.2 else ([],m.2.1,m.2.2)
 (⟨(k.1:Int),(cl.1:Int),(no.1:Int),st.1,nm.1,tg.1,(n.1:Int),ch.1⟩,ch.2.2)
theorem ui {c:aR} (h:dQ c=true):lq (bt c)=(c,false):=by
 obtain ⟨h1,h2,h3,h4,h5,h6,h7,h8,h9⟩:=iz h;have hs:bt c=ba c.kind++(ba c.aE++(ba c.no++(ba c.n++(bF c.set++(bF c.name++(bF c.tag++(ba (c.chunks.length:Int)++c.chunks.flatten))))))):=by
  rw [bt,if_pos h,uh];simp only [append_assoc]
 rw [hs];unfold lq;simp only [cT (show 0≤c.kind∧c.kind≤562949953421311 by omega),cT (show 0≤c.aE∧c.aE≤562949953421311 by omega),cT (show 0≤c.no∧c.no≤562949953421311 by omega),cT (show 0≤c.n∧c.n≤562949953421311 by omega),
  jL c.set _ (by omega),jL c.name _ (by omega),jL c.tag _ (by omega),cT (show 0≤(c.chunks.length:Int)∧(c.chunks.length:Int)≤562949953421311 by omega),Int.toNat_natCast,h8,if_true,vM c.chunks h9];rw [Int.toNat_of_nonneg h1.1,Int.toNat_of_nonneg h2.1,Int.toNat_of_nonneg h3.1,Int.toNat_of_nonneg h4.1]
theorem vN (c:aR):c.c.wt=c.set.length+(c.name.length+(c.tag.length+(c.chunks.length+c.chunks.flatten.length+0))):=by rw [sn];rfl
theorem yj (s:List UInt8):(lq s).1.c.wt≤s.length:=by
 rw [vN];unfold lq;simp only [];have e1:=cB s false;generalize aP s false=k at *;have e2:=cB k.2.1 k.2.2;generalize aP k.2.1 k.2.2=cl at *;have e3:=cB cl.2.1 cl.2.2;generalize aP cl.2.1 cl.2.2=no at *;have e4:=cB no.2.1 no.2.2;generalize aP no.2.1 no.2.2=n at *;have e5:=gC n.2.1 n.2.2;generalize bY n.2.1 n.2.2=st at *;have e6:=gC st.2.1 st.2.2;generalize bY st.2.1 st.2.2=nm at *;have e7:=gC nm.2.1 nm.2.2;generalize bY nm.2.1 nm.2.2=tg at *;have e8:=cB tg.2.1 tg.2.2;generalize aP tg.2.1 tg.2.2=m at *;split
 ·rename_i hm;have e9:=yh m.1 m.2.1 m.2.2;generalize iV m.1 m.2.1 m.2.2=ch at *;by_cases hb:m.2.2=true
  ·have:=e8.2.2 hb;omega
  ·have hb:m.2.2=false:=by simpa using hb
   obtain ⟨g7,l8⟩:=e8.2.1 hb;obtain ⟨g6,l7⟩:=e7.2 g7;obtain ⟨g5,l6⟩:=e6.2 g6;obtain ⟨g4,l5⟩:=e5.2 g5;obtain ⟨g3,l4⟩:=e4.2.1 g4;obtain ⟨g2,l3⟩:=e3.2.1 g3;obtain ⟨g1,l2⟩:=e2.2.1 g2;obtain ⟨_,l1⟩:=e1.2.1 g1;omega
 ·simp only [length_nil,flatten_nil];omega
def dj (s:List UInt8):aR × Bool:=if s≠[]∧bt (lq s).1=s then ((lq s).1,true) else (bG,false)
theorem DZ {c:aR} {s:List UInt8} (h:bt c=s) (hs:s≠[]):dQ c=true:=by
 cases hc:dQ c with
 |true=>rfl
 |false=>rw [bt,hc] at h;exact absurd h.symm hs
theorem pt {c:aR} {s:List UInt8} (h:bt c=s) (hs:s≠[]):dj s=(c,true):=by
 have hb:=ui (DZ h hs);rw [h] at hb;unfold dj;rw [hb,if_pos ⟨hs,h⟩]
theorem mi {s:List UInt8} (h:∀c,dQ c=true→bt c≠s):dj s=(bG,false):=by
 unfold dj;rw [if_neg];rintro ⟨h1,h2⟩;exact h _ (DZ h2 h1) h2
theorem CD {s:List UInt8} (h:(lq s).2=true∨s=[]∨bt (lq s).1≠s):dj s=(bG,false):=by
 refine mi fun c hc hs=>?_
 have hb:=ui hc;rw [hs] at hb;rcases h with h|h|h
 ·rw [hb] at h;cases h
 ·subst h;rw [bt,if_pos hc] at hs;have:=yi c hc;exact this (List.append_eq_nil_iff.1 hs).1
 ·rw [hb] at h;exact h hs
theorem CE {s:List UInt8} (h2:s≠[]) (h3:bt (lq s).1=s):dj s=((lq s).1,true):=pt h3 h2
def ej (s:List UInt8) (a:Nat):Nat→List (List UInt8)
 |0=>[]
 |n+1=>ej s a n++[(s.drop (a+8*n)).take 8]
theorem lr (s:List UInt8) (a:Nat):∀n,(ej s a n).length=n
 |0=>rfl
 |n+1=>by rw [ej,length_append,lr s a n];rfl
theorem AK:∀(l:List (List UInt8)),(∀x∈l,x.length=8)→l.flatten.length=8*l.length
 |[],_=>rfl
 |y::l,hh=>by rw [flatten_cons,length_append,AK l (fun z hz=>hh z (mem_cons_of_mem _ hz)),hh y (by simp),length_cons];omega
theorem qG {s p:List UInt8} {xs:List (List UInt8)} (hs:s=p++xs.flatten) (h8:∀x∈xs,x.length=8):∀n,n≤xs.length→ej s p.length n=xs.take n
 |0,_=>rfl
 |n+1,h=>by
  have hn:n<xs.length:=h;have hd:s.drop (p.length+8*n)=xs[n]++(xs.drop (n+1)).flatten:=by
   rw [hs,←List.drop_drop,List.drop_left' rfl]
   conv=>lhs;rw [←take_append_drop n xs,flatten_append]
   rw [List.drop_left' (by rw [AK _ (fun x hx=>h8 x (List.mem_of_mem_take hx)),length_take,Nat.min_eq_left (by omega)]),drop_eq_getElem_cons hn,flatten_cons]
  rw [ej,qG hs h8 n (by omega),hd,List.take_left' (h8 _ (getElem_mem hn)),take_succ_eq_append_getElem hn]
theorem xH {s p:List UInt8} {xs:List (List UInt8)} (hs:s=p++xs.flatten) (h8:∀x∈xs,x.length=8):ej s p.length xs.length=xs:=by
 rw [qG hs h8 _ Nr,take_length]
def oq (s:List UInt8):aR:=
 let l:=fX s 4 0
 let a:=nH s l.2
 let b:=nH s a.2
 let t:=nH s b.2
 let n:=fX s 1 t.2
 ⟨((l.1.getD 0 0:Nat):Int),((l.1.getD 1 0:Nat):Int),((l.1.getD 2 0:Nat):Int),a.1,b.1,t.1,((l.1.getD 3 0:Nat):Int),ej s n.2.toNat (n.1.getD 0 0)⟩
theorem mQ {c:aR} (h:dQ c=true):0≤(fX (bt c) 4 0).2∧(∃m,fX (bt c) 1 (nH (bt c) (nH (bt c) (nH (bt c) (fX (bt c) 4 0).2).2).2).2=([c.chunks.length],m)∧0≤m∧((bt c).length:Int)=m+8*c.chunks.length)∧oq (bt c)=c:=by
 obtain ⟨h1,h2,h3,h4,h5,h6,h7,h8,h9⟩:=iz h;obtain ⟨s,hs⟩:∃s,s=bt c:=⟨_,rfl⟩;rw [←hs];rw [bt,if_pos h,uh] at hs;have b1:0≤c.kind∧c.kind≤562949953421311:=by omega
 have b2:0≤c.aE∧c.aE≤562949953421311:=by omega
 have b3:0≤c.no∧c.no≤562949953421311:=by omega
 have b4:0≤c.n∧c.n≤562949953421311:=by omega
 have b8:0≤(c.chunks.length:Int)∧(c.chunks.length:Int)≤562949953421311:=by omega
 have s1:=po [] (ba c.aE++(ba c.no++(ba c.n++(bF c.set++(bF c.name++(bF c.tag++(ba (c.chunks.length:Int)++c.chunks.flatten))))))) c.kind 3 b1;have s2:=po (ba c.kind) (ba c.no++(ba c.n++(bF c.set++(bF c.name++(bF c.tag++(ba (c.chunks.length:Int)++c.chunks.flatten)))))) c.aE 2 b2;have s3:=po (ba c.kind++ba c.aE) (ba c.n++(bF c.set++(bF c.name++(bF c.tag++(ba (c.chunks.length:Int)++c.chunks.flatten))))) c.no 1 b3;have s4:=uU (ba c.kind++ba c.aE++ba c.no) (bF c.set++(bF c.name++(bF c.tag++(ba (c.chunks.length:Int)++c.chunks.flatten)))) c.n b4;have t1:=pW (ba c.kind++ba c.aE++ba c.no++ba c.n) c.set (bF c.name++(bF c.tag++(ba (c.chunks.length:Int)++c.chunks.flatten))) (by omega);have t2:=pW (ba c.kind++ba c.aE++ba c.no++ba c.n++bF c.set) c.name (bF c.tag++(ba (c.chunks.length:Int)++c.chunks.flatten)) (by omega);have t3:=pW (ba c.kind++ba c.aE++ba c.no++ba c.n++bF c.set++bF c.name) c.tag (ba (c.chunks.length:Int)++c.chunks.flatten) (by omega);have s5:=uU (ba c.kind++ba c.aE++ba c.no++ba c.n++bF c.set++bF c.name++bF c.tag) c.chunks.flatten (c.chunks.length:Int) b8;have V1:=xH (s:=s) (p:=ba c.kind++ba c.aE++ba c.no++ba c.n++bF c.set++bF c.name++bF c.tag++ba (c.chunks.length:Int)) (xs:=c.chunks) (by rw [hs];simp only [append_assoc]) h9;have hlen:s.length=(ba c.kind++ba c.aE++ba c.no++ba c.n++bF c.set++bF c.name++bF c.tag++ba (c.chunks.length:Int)).length+8*c.chunks.length:=by
  rw [hs,←AK c.chunks h9];simp only [length_append];omega
 simp only [append_assoc] at hs;simp only [append_assoc,nil_append] at s1 s2 s3 s4 t1 t2 t3 s5 V1 hlen;simp only [←hs] at s1 s2 s3 s4 t1 t2 t3 s5;rw [show ((([]:List UInt8).length:Nat):Int)=0 from rfl] at s1;rw [s4] at s3;rw [s3] at s2;rw [s2] at s1;simp only [] at s1;unfold oq;simp only [s1,t1,t2,t3,s5];refine ⟨by omega,⟨_,by rw [Int.toNat_natCast],by omega,by omega⟩,?_⟩;simp only [List.getD_cons_zero,List.getD_cons_succ,Int.toNat_natCast,V1];rw [Int.toNat_of_nonneg h1.1,Int.toNat_of_nonneg h2.1,Int.toNat_of_nonneg h3.1,Int.toNat_of_nonneg h4.1]
theorem CF {s:List UInt8} (h:(fX s 4 0).2<0):dj s=(bG,false):=mi fun c hc hs=>by
 have:=(mQ hc).1;rw [hs] at this;omega
theorem CG {s:List UInt8} {n:Nat} {m:Int} (hv:fX s 1 (nH s (nH s (nH s (fX s 4 0).2).2).2).2=([n],m)) (h:4<n∨¬(s.length:Int)=m+8*n):dj s=(bG,false):=mi fun c hc hs=>by
 obtain ⟨_,⟨m',he,_,hl⟩,_⟩:=mQ hc;have h8:=(iz hc).2.2.2.2.2.2.2.1;rw [hs,hv] at he;rw [hs] at hl;injection he with lJ mB;injection lJ with lJ;subst lJ mB;rcases h with h|h
 ·omega
 ·exact h hl
theorem CH {s:List UInt8} (hv:(fX s 1 (nH s (nH s (nH s (fX s 4 0).2).2).2).2).2<0):dj s=(bG,false):=mi fun c hc hs=>by
 obtain ⟨_,⟨m',he,hm,hl⟩,_⟩:=mQ hc;rw [hs] at he;rw [he] at hv;simp only [] at hv;omega
theorem CI {s:List UInt8} (h:bt (oq s)≠s):dj s=(bG,false):=mi fun c hc hs=>by
 obtain ⟨_,_,hp⟩:=mQ hc;rw [hs] at hp;rw [hp] at h;exact h hs
theorem CJ {s:List UInt8} (hs:s≠[]) (h:bt (oq s)=s):dj s=(oq s,true):=pt h hs
theorem um (x:aV) (ot:List Value) (w:World) (jO:x.c.wt≤1048576) (h0:aM bM w x.c ot) :
 Calls Tryz.prog 18 #[.agg ot.toArray] w fun e w'=>e = .returned (.bool (du x))∧Below w w w':=by
 have lp:x.c.wt=(x.cmd.set.length+(x.cmd.name.length+(x.cmd.tag.length+(x.cmd.chunks.length+(cat cN x.cmd.chunks).wt+(x.al.length+(cat aX.c x.al).wt+0))))):=rfl;obtain ⟨pz,pA,tE,sy,rfl,ou,ov⟩:=aV.open h0;obtain ⟨a0,a1,a2,⟨a3,a4⟩,a5,⟨a6,a7,a8,a9,dR,dU,ec,dN⟩,gX,dV,jX,ku,GN⟩:=x;simp only [] at ou ov lp ⊢;have JF:a9.length≤1048576:=by omega
 have y5:dR.length≤1048576:=by omega
 have CL:dU.length≤1048576:=by omega
 have qW:=Hi ou;clear ou;have CM:dN.length+(cat cN dN).wt≤1048576:=by omega
 have qq:=Hi ov;clear ov;have y6:dV.length+(cat aX.c dV).wt≤1048576:=by omega
 have qX:=Hi (show aM bM w (aX.c ⟨a3,a4⟩) [a3,a4] from aX.shut);have iJ:(aR.c ⟨a6,a7,a8,a9,dR,dU,ec,dN⟩).wt≤1048576:=by have e0:(aR.c ⟨a6,a7,a8,a9,dR,dU,ec,dN⟩).wt=(a9.length+(dR.length+(dU.length+(dN.length+(cat cN dN).wt+0)))):=rfl;omega
 have kb:=Hi (show aM bM w (aR.c ⟨a6,a7,a8,a9,dR,dU,ec,dN⟩) [a6,a7,a8,a9,dR,dU,ec,.slice pz dN pA] from aR.shut qW.o);clear h0 jO lp;obtain ⟨R,hR⟩:∃R,R=du (⟨a0,a1,a2,⟨a3,a4⟩,a5,⟨a6,a7,a8,a9,dR,dU,ec,dN⟩,gX,dV,jX,ku,GN⟩:aV):=⟨_,rfl⟩;rw [←hR];rw [du] at hR;simp only [] at hR;have HR:=Hi hR;clear hR;go_enter Tryz.func18,Tryz.ntmps18;go_wp2_with fail;refine (fo _ _ _ _).mono ?_;rintro e w' ⟨rfl,rfl⟩;cases gB:gD 1 7 a0
 case false=>
  go_wp2;go_ret;exact ⟨au (congrArg Value.bool (by rw [HR.o,gB];rfl)),(by repeat' (first|with_reducible (first|exact Br|exact BW.o|apply Bs|apply Ba|apply Bd)|(simp<;>omega)|omega))⟩
 case true=>
  go_wp2_with fail;refine (yl _ _).mono ?_;rintro e w' ⟨rfl,rfl⟩;cases cW:gD 0 2 a1
  case false=>
   go_wp2;go_ret;exact ⟨au (congrArg Value.bool (by rw [HR.o,gB,cW];rfl)),(by repeat' (first|with_reducible (first|exact Br|exact BW.o|apply Bs|apply Ba|apply Bd)|(simp<;>omega)|omega))⟩
  case true=>
   go_wp2_with fail;refine (yl _ _).mono ?_;rintro e w' ⟨rfl,rfl⟩;cases cz:gD 0 2 a2
   case false=>
    go_wp2;go_ret;exact ⟨au (congrArg Value.bool (by rw [HR.o,gB,cW,cz];rfl)),(by repeat' (first|with_reducible (first|exact Br|exact BW.o|apply Bs|apply Ba|apply Bd)|(simp<;>omega)|omega))⟩
   case true=>
    cases fh:(a1 != a2)
    case false=>
     go_wp2;go_ret;exact ⟨au (congrArg Value.bool (by rw [HR.o,gB,cW,cz,fh];rfl)),(by repeat' (first|with_reducible (first|exact Br|exact BW.o|apply Bs|apply Ba|apply Bd)|(simp<;>omega)|omega))⟩
    case true=>
     go_wp2_with fail;refine (pw ⟨a3,a4⟩ _ _ (qX.o.below (by repeat' (first|with_reducible (first|exact Br|exact BW.o|apply Bs|apply Ba|apply Bd)|(simp<;>omega)|omega)))).mono ?_;rintro e v1 ⟨rfl,hb⟩;have B0:=Hi (bf.below (bH _ _ _) hb);have BW:=Hi (show Below w w v1 from Below.trans (by repeat' (first|with_reducible (first|exact Br|exact BW.o|apply Bs|apply Ba|apply Bd)|(simp<;>omega)|omega)) (hb.mono (by first|(simp<;>omega)|omega)));clear hb;have lL:=eE B0.o;cases gN:fK ⟨a3,a4⟩
     case false=>
      go_wp2;go_ret;exact ⟨au (congrArg Value.bool (by rw [HR.o,gB,cW,cz,fh,gN];rfl)),BW.o⟩
     case true=>
      go_wp2_with fail;refine (fo _ _ _ _).mono ?_;rintro e w' ⟨rfl,rfl⟩;cases jW:gD 0 600 a5
      case false=>
       go_wp2;go_ret;exact ⟨au (congrArg Value.bool (by rw [HR.o,gB,cW,cz,fh,gN,jW];rfl)),BW.o⟩
      case true=>
       go_wp2_with fail;refine (vL ⟨a6,a7,a8,a9,dR,dU,ec,dN⟩ _ _ iJ (kb.o.below BW.o)).mono ?_;rintro e v2 ⟨rfl,hb⟩;replace B0:=Hi (B0.o.below hb);replace BW:=Hi (Bt BW.o hb);clear hb lL;have lL:=eE B0.o;cases mN:dQ ⟨a6,a7,a8,a9,dR,dU,ec,dN⟩
       case false=>
        go_wp2;go_ret;exact ⟨au (congrArg Value.bool (by rw [HR.o,gB,cW,cz,fh,gN,jW,mN];rfl)),BW.o⟩
       case true=>
        go_wp2_with fail;refine (fo _ _ _ _).mono ?_;rintro e w' ⟨rfl,rfl⟩;cases sA:gD 0 60 gX
        case false=>
         go_wp2;go_ret;exact ⟨au (congrArg Value.bool (by rw [HR.o,gB,cW,cz,fh,gN,jW,mN,sA];rfl)),BW.o⟩
        case true=>
         go_wp2_with fail;refine (AR dV ⟨a3,a4⟩ _ _ _ _ _ rfl y6 (qq.o.below BW.o) (qX.o.below BW.o)).mono ?_;rintro e v3 ⟨rfl,hb⟩;replace B0:=Hi (B0.o.below hb);replace BW:=Hi (Bt BW.o hb);clear hb lL;have lL:=eE B0.o;cases yn:ek dV
         case false=>
          go_wp2;go_ret;exact ⟨au (congrArg Value.bool (by rw [HR.o,gB,cW,cz,fh,gN,jW,mN,sA,yn];rfl)),BW.o⟩
         case true=>
          cases CN:Aah dV ⟨a3,a4⟩
          case true=>
           go_wp2;go_ret;exact ⟨au (congrArg Value.bool (by rw [HR.o,gB,cW,cz,fh,gN,jW,mN,sA,yn,CN];rfl)),BW.o⟩
          case false=>
           go_wp2_with fail;refine (fo _ _ _ _).mono ?_;rintro e w' ⟨rfl,rfl⟩;cases ox:gD 0 3 jX
           case false=>
            go_wp2;go_ret;exact ⟨au (congrArg Value.bool (by rw [HR.o,gB,cW,cz,fh,gN,jW,mN,sA,yn,CN,ox];rfl)),BW.o⟩
           case true=>
            go_wp2_with fail;refine (fo _ _ _ _).mono ?_;rintro e w' ⟨rfl,rfl⟩;go_wp2;go_ret;exact ⟨au (congrArg Value.bool (by rw [HR.o,gB,cW,cz,fh,gN,jW,mN,sA,yn,CN,ox];rfl)),BW.o⟩
theorem mT (x:aV) (ot:List Value) (w:World) (jO:x.c.wt≤1048576) (h0:aM bM w x.c ot) :
 Calls Tryz.prog 12 #[.agg ot.toArray] w fun e w'=>e = .returned (.bool (du x))∧Below w w w':=by
 have lp:x.c.wt=(x.cmd.set.length+(x.cmd.name.length+(x.cmd.tag.length+(x.cmd.chunks.length+(cat cN x.cmd.chunks).wt+(x.al.length+(cat aX.c x.al).wt+0))))):=rfl;obtain ⟨pz,pA,tE,sy,rfl,ou,ov⟩:=aV.open h0;obtain ⟨a0,a1,a2,⟨a3,a4⟩,a5,⟨a6,a7,a8,a9,dR,dU,ec,dN⟩,gX,dV,jX,ku,GN⟩:=x;simp only [] at ou ov lp ⊢;have JF:a9.length≤1048576:=by omega
 have y5:dR.length≤1048576:=by omega
 have CL:dU.length≤1048576:=by omega
 have qW:=Hi ou;clear ou;have CM:dN.length+(cat cN dN).wt≤1048576:=by omega
 have qq:=Hi ov;clear ov;have y6:dV.length+(cat aX.c dV).wt≤1048576:=by omega
 have qX:=Hi (show aM bM w (aX.c ⟨a3,a4⟩) [a3,a4] from aX.shut);have iJ:(aR.c ⟨a6,a7,a8,a9,dR,dU,ec,dN⟩).wt≤1048576:=by have e0:(aR.c ⟨a6,a7,a8,a9,dR,dU,ec,dN⟩).wt=(a9.length+(dR.length+(dU.length+(dN.length+(cat cN dN).wt+0)))):=rfl;omega
 have kb:=Hi (show aM bM w (aR.c ⟨a6,a7,a8,a9,dR,dU,ec,dN⟩) [a6,a7,a8,a9,dR,dU,ec,.slice pz dN pA] from aR.shut qW.o);clear h0 jO lp;obtain ⟨R,hR⟩:∃R,R=du (⟨a0,a1,a2,⟨a3,a4⟩,a5,⟨a6,a7,a8,a9,dR,dU,ec,dN⟩,gX,dV,jX,ku,GN⟩:aV):=⟨_,rfl⟩;rw [←hR];rw [du] at hR;simp only [] at hR;have HR:=Hi hR;clear hR;go_enter Tryz.func12,Tryz.ntmps12;go_wp2_with fail;refine (ew _ _ _ _).mono ?_;rintro e w' ⟨rfl,rfl⟩;cases gB:gD 1 7 a0
 case false=>
  go_wp2;go_ret;exact ⟨au (congrArg Value.bool (by rw [HR.o,gB];rfl)),(by repeat' (first|with_reducible (first|exact Br|exact BW.o|apply Bs|apply Ba|apply Bd)|(simp<;>omega)|omega))⟩
 case true=>
  go_wp2_with fail;refine (mj _ _).mono ?_;rintro e w' ⟨rfl,rfl⟩;cases cW:gD 0 2 a1
  case false=>
   go_wp2;go_ret;exact ⟨au (congrArg Value.bool (by rw [HR.o,gB,cW];rfl)),(by repeat' (first|with_reducible (first|exact Br|exact BW.o|apply Bs|apply Ba|apply Bd)|(simp<;>omega)|omega))⟩
  case true=>
   go_wp2_with fail;refine (mj _ _).mono ?_;rintro e w' ⟨rfl,rfl⟩;cases cz:gD 0 2 a2
   case false=>
    go_wp2;go_ret;exact ⟨au (congrArg Value.bool (by rw [HR.o,gB,cW,cz];rfl)),(by repeat' (first|with_reducible (first|exact Br|exact BW.o|apply Bs|apply Ba|apply Bd)|(simp<;>omega)|omega))⟩
   case true=>
    cases fh:(a1 != a2)
    case false=>
     go_wp2;go_ret;exact ⟨au (congrArg Value.bool (by rw [HR.o,gB,cW,cz,fh];rfl)),(by repeat' (first|with_reducible (first|exact Br|exact BW.o|apply Bs|apply Ba|apply Bd)|(simp<;>omega)|omega))⟩
    case true=>
     go_wp2_with fail;refine (kN ⟨a3,a4⟩ _ _ (qX.o.below (by repeat' (first|with_reducible (first|exact Br|exact BW.o|apply Bs|apply Ba|apply Bd)|(simp<;>omega)|omega)))).mono ?_;rintro e v1 ⟨rfl,hb⟩;have B0:=Hi (bf.below (bH _ _ _) hb);have BW:=Hi (show Below w w v1 from Below.trans (by repeat' (first|with_reducible (first|exact Br|exact BW.o|apply Bs|apply Ba|apply Bd)|(simp<;>omega)|omega)) (hb.mono (by first|(simp<;>omega)|omega)));clear hb;have lL:=eE B0.o;cases gN:fK ⟨a3,a4⟩
     case false=>
      go_wp2;go_ret;exact ⟨au (congrArg Value.bool (by rw [HR.o,gB,cW,cz,fh,gN];rfl)),BW.o⟩
     case true=>
      go_wp2_with fail;refine (ew _ _ _ _).mono ?_;rintro e w' ⟨rfl,rfl⟩;cases jW:gD 0 600 a5
      case false=>
       go_wp2;go_ret;exact ⟨au (congrArg Value.bool (by rw [HR.o,gB,cW,cz,fh,gN,jW];rfl)),BW.o⟩
      case true=>
       go_wp2_with fail;refine (kr ⟨a6,a7,a8,a9,dR,dU,ec,dN⟩ _ _ iJ (kb.o.below BW.o)).mono ?_;rintro e v2 ⟨rfl,hb⟩;replace B0:=Hi (B0.o.below hb);replace BW:=Hi (Bt BW.o hb);clear hb lL;have lL:=eE B0.o;cases mN:dQ ⟨a6,a7,a8,a9,dR,dU,ec,dN⟩
       case false=>
        go_wp2;go_ret;exact ⟨au (congrArg Value.bool (by rw [HR.o,gB,cW,cz,fh,gN,jW,mN];rfl)),BW.o⟩
       case true=>
        go_wp2_with fail;refine (ew _ _ _ _).mono ?_;rintro e w' ⟨rfl,rfl⟩;cases sA:gD 0 60 gX
        case false=>
         go_wp2;go_ret;exact ⟨au (congrArg Value.bool (by rw [HR.o,gB,cW,cz,fh,gN,jW,mN,sA];rfl)),BW.o⟩
        case true=>
         go_wp2_with fail;refine (qU dV _ _ _ _ rfl y6 (qq.o.below BW.o)).mono ?_;rintro e v3 ⟨rfl,hb⟩;replace B0:=Hi (B0.o.below hb);replace BW:=Hi (Bt BW.o hb);clear hb lL;have lL:=eE B0.o;cases yn:ek dV
         case false=>
          go_wp2;go_ret;exact ⟨au (congrArg Value.bool (by rw [HR.o,gB,cW,cz,fh,gN,jW,mN,sA,yn];rfl)),BW.o⟩
         case true=>
          go_wp2_with fail;refine (tB dV ⟨a3,a4⟩ _ _ _ _ _ rfl (by omega) (qq.o.below BW.o) (qX.o.below BW.o)).mono ?_;rintro e v4 ⟨rfl,hb⟩;replace B0:=Hi (B0.o.below hb);replace BW:=Hi (Bt BW.o hb);clear hb lL;have lL:=eE B0.o;cases CN:Aah dV ⟨a3,a4⟩
          case true=>
           go_wp2;go_ret;exact ⟨au (congrArg Value.bool (by rw [HR.o,gB,cW,cz,fh,gN,jW,mN,sA,yn,CN];rfl)),BW.o⟩
          case false=>
           go_wp2_with fail;refine (ew _ _ _ _).mono ?_;rintro e w' ⟨rfl,rfl⟩;cases ox:gD 0 3 jX
           case false=>
            go_wp2;go_ret;exact ⟨au (congrArg Value.bool (by rw [HR.o,gB,cW,cz,fh,gN,jW,mN,sA,yn,CN,ox];rfl)),BW.o⟩
           case true=>
            go_wp2_with fail;refine (ew _ _ _ _).mono ?_;rintro e w' ⟨rfl,rfl⟩;go_wp2;go_ret;exact ⟨au (congrArg Value.bool (by rw [HR.o,gB,cW,cz,fh,gN,jW,mN,sA,yn,CN,ox];rfl)),BW.o⟩
def im (d:aX):List UInt8:=ba d.rep++ba d.slot
def oZ (b:Bool):List UInt8:=if b=true then [1] else [0]
def jP (m:aV):List Int:=[m.kind,m.da,m.to,m.id.rep,m.id.slot,m.aS,m.status,m.bB+1,m.seq]
noncomputable def bD (m:aV):List UInt8:=if du m=true then ((jP m).map ba).flatten++(oZ m.same++(bF (bt m.cmd)++(ba (m.al.length:Int)++(m.al.map im).flatten))) else []
theorem Mi {lo hi x:Int} (h:gD lo hi x=true):lo≤x∧x≤hi:=by simpa [gD] using h
theorem mU {m:aV} (h:du m=true) : -1≤m.bB∧m.bB≤600:=by
 unfold du at h;simp only [Bool.and_eq_true] at h;exact Mi h.2.2.2.2.2.2.2.2.2.2.2
theorem jq (c:aR):(bt c).length≤c.c.wt+60:=by
 have h0:c.c.wt=c.set.length+(c.name.length+(c.tag.length+(c.chunks.length+(cat cN c.chunks).wt+0))):=rfl;unfold bt;split
 ·have:=aG c.kind;have:=aG c.aE;have:=aG c.no;have:=aG c.n;have:=dm c.set;have:=dm c.name;have:=dm c.tag;have:=aG (c.chunks.length:Int);simp only [uh,length_append,sn];omega
 ·simp
theorem lM (d:aX):(im d).length≤14:=by
 have:=aG d.rep;have:=aG d.slot;simp only [im,length_append];omega
theorem jf {α:Type} (f:α→List UInt8) (xs:List α) (j:Nat) (h:j<xs.length):((xs.take (j+1)).map f).flatten=((xs.take j).map f).flatten++f xs[j]:=by
 rw [take_succ_eq_append_getElem h,map_append,flatten_append];simp
theorem eB {α:Type} (f:α→List UInt8) (m:Nat) (hf:∀x,(f x).length≤m):∀xs:List α,((xs.map f).flatten).length≤xs.length*m
 |[]=>by simp
 |x::xs=>by
  have:=eB f m hf xs;have:=hf x;rw [map_cons,flatten_cons,length_append,length_cons,Nat.succ_mul];omega
theorem vT (a:Addr):a.add 0=a:=by
 obtain ⟨b,o,v⟩:=a;unfold Addr.add;split<;>simp_all
theorem GO {a b:aX}:eA a b=true↔a.rep<b.rep∨a.rep=b.rep∧a.slot<b.slot:=by simp [eA]
theorem yo {a b:aX}:eA a b=false↔¬(a.rep<b.rep∨a.rep=b.rep∧a.slot<b.slot):=by simp only [eA,decide_eq_false_iff_not]
theorem jr (a:aX):eA a a=false:=yo.2 (by omega)
theorem qY {a b c:aX} (h:eA a b=true) (k:eA b c=true):eA a c=true:=by
 rw [GO] at *;omega
theorem y7 {a b:aX} (h1:a.rep=b.rep) (h2:a.slot=b.slot):a=b:=by
 obtain ⟨ar,RL⟩:=a;obtain ⟨br,RM⟩:=b;simp only at h1 h2;subst h1 h2;rfl
theorem JG {a b:aX} (h:eA a b=false) (k:eA b a=false):a=b:=by
 rw [yo] at *;exact y7 (by omega) (by omega)
def V3 (xs:List aX):Prop:=xs.Pairwise fun a b=>eA a b=true
theorem E2 {xs:List aX} (h:V3 xs):xs.Nodup:=h.imp fun {a b} Ed e=>by subst e;rw [jr] at Ed;cases Ed
theorem AT {xs:List aX} (h:ek xs=true):mR xs xs.length:=by simpa [ek] using h
theorem JH {xs:List aX} (h:ek xs=true):V3 xs:=by
 have hg:=AT h;refine List.pairwise_iff_getElem.2 fun i j hi hj y4=>?_
 induction j with
 |zero=>omega
 |succ j ih=>
  obtain ⟨x,hx,_,hl⟩:=hg (j+1) hj;have YA:xs[j]?=some xs[j]:=List.getElem?_eq_getElem (by omega);have h1:=hl xs[j] (by omega) YA;rw [List.getElem?_eq_getElem hj] at hx;injection hx with hx;subst hx;rcases Nat.lt_or_ge i j with h2|h2
  ·exact qY (ih (by omega) h2) h1
  ·have:i=j:=by omega
   subst this;exact h1
theorem y8 {xs:List aX} (h:ek xs=true):∀x∈xs,fK x=true:=fun x hx=>by
 obtain ⟨i,hi,rfl⟩:=getElem_of_mem hx;obtain ⟨y,hy,h1,_⟩:=AT h i hi;rw [List.getElem?_eq_getElem hi] at hy;injection hy with hy;subst hy;exact h1
def eI:List aX→List aX→List aX
 |[],b=>b
 |x::a,[]=>x::a
 |x::a,y::b=>if eA x y=true then x::eI a (y::b) else if x=y then y::eI a b else y::eI (x::a) b
termination_by a b=>a.length+b.length
theorem pY (b:List aX):eI [] b=b:=by rw [eI]
theorem qZ (a:List aX):eI a []=a:=by cases a<;>rw [eI]
theorem vU {x y:aX} {a b:List aX} (h:eA x y=true):eI (x::a) (y::b)=x::eI a (y::b):=by rw [eI,if_pos h]
theorem sB {x:aX} {a b:List aX}:eI (x::a) (x::b)=x::eI a b:=by rw [eI,if_neg (by simp [jr]),if_pos rfl]
theorem vV {x y:aX} {a b:List aX} (h:eA x y=false) (h2:¬x=y):eI (x::a) (y::b)=y::eI (x::a) b:=by rw [eI,if_neg (by simp [h]),if_neg h2]
theorem tG {z:aX}:∀{a b:List aX},z∈eI a b↔z∈a∨z∈b
 |[],b=>by simp [pY]
 |x::a,[]=>by simp [qZ]
 |x::a,y::b=>by
  by_cases h:eA x y=true
  ·rw [vU h,mem_cons,tG (a:=a) (b:=y::b),mem_cons (b:=x),or_assoc]
  ·have h:eA x y=false:=by simpa using h
   by_cases h2:x=y
   ·subst h2;rw [sB,mem_cons,tG (a:=a) (b:=b),mem_cons,mem_cons];exact ⟨fun h=>h.elim (fun h=> .inl (.inl h)) (fun h=>h.elim (fun h=> .inl (.inr h)) (fun h=> .inr (.inr h))),fun h=>h.elim (fun h=>h.elim .inl (fun h=> .inr (.inl h))) (fun h=>h.elim .inl (fun h=> .inr (.inr h)))⟩
   ·rw [vV h h2,mem_cons,tG (a:=x::a) (b:=b),mem_cons (b:=y)];exact ⟨fun h=>h.elim (fun h=> .inr (.inl h)) (fun h=>h.elim .inl (fun h=> .inr (.inr h))),fun h=>h.elim (fun h=> .inr (.inl h)) (fun h=>h.elim .inl (fun h=> .inr (.inr h)))⟩
termination_by a b=>a.length+b.length
theorem jt:∀(a b:List aX),(eI a b).length≤a.length+b.length
 |[],b=>by rw [pY];simp
 |x::a,[]=>by rw [qZ];simp
 |x::a,y::b=>by
  by_cases h:eA x y=true
  ·have:=jt a (y::b);rw [vU h];simp only [length_cons] at *;omega
  ·have h:eA x y=false:=by simpa using h
   by_cases h2:x=y
   ·subst h2;have:=jt a b;rw [sB];simp only [length_cons] at *;omega
   ·have:=jt (x::a) b;rw [vV h h2];simp only [length_cons] at *;omega
termination_by a b=>a.length+b.length
def AU:List aX→List aX
 |[]=>[]
 |[a]=>[a]
 |a::b::r=>if a=b then AU (b::r) else a::AU (b::r)
def Wk (xs:List aX):Prop:=xs.Pairwise fun a b=>eA b a=false
noncomputable def Pk (a b:List aX):List aX:=if ek a=true∧ek b=true then eI a b else []
def Rch (D:aX→List aX) (id x:aX):Prop:=∀S:aX→Prop,(∀y∈D id,S y)→(∀y,S y→∀z∈D y,S z)→S x
def Pm (D:aX→List aX) (nx:List aX) (l:List aX):List aX:=l.foldl (fun a y=>eI a (D y)) nx
def Pn (D:aX→List aX) (out:List aX):List aX:=Pm D out out
def KO (D:aX→List aX):Nat→List aX→List aX
 |0,out=>out
 |n+1,out=>KO D n (Pn D out)
theorem vW:∀(n:Nat) (l:List Nat),l.Nodup→(∀x∈l,x<n)→l.length≤n
 |0,l,_,h=>by
  cases l with
  |nil=>exact Nat.le_refl _
  |cons x r=>exact absurd (h x (by simp)) (by omega)
 |n+1,l,hn,h=>by
  by_cases hm:n∈l
  ·have ih:=vW n (l.erase n) (hn.erase n) fun x hx=>by
    have h1:=h x (List.mem_of_mem_erase hx);have h2:x≠n:=fun e=>by
     subst e;exact (List.Nodup.not_mem_erase hn) hx
    omega
   rw [List.length_erase_of_mem hm] at ih;omega
  ·have ih:=vW n l hn fun x hx=>by
    have h1:=h x hx;have h2:x≠n:=fun e=>hm (e ▸ hx)
    omega
   omega
theorem iA {x:aX} (h:fK x=true):0≤x.rep∧x.rep≤2∧1≤x.slot∧x.slot≤6:=by
 simp [fK,gD] at h;omega
theorem GP {l:List aX} (hn:l.Nodup) (hk:∀x∈l,fK x=true):l.length≤18:=by
 have h:=vW 18 (l.map fun x=>(x.rep*6+x.slot-1).toNat) ?_ ?_
 ·simpa using h
 ·refine List.pairwise_map.2 ?_;have h2:l.Pairwise fun a b=>a∈l∧b∈l∧a≠b:=List.Pairwise.imp_of_mem (fun {a b} ha hb h=>⟨ha,hb,h⟩) hn
  refine h2.imp fun {a b} Ed e=>Ed.2.2 ?_
  have ha:=iA (hk a Ed.1);have hb:=iA (hk b Ed.2.1);have e2:a.rep*6+a.slot-1=b.rep*6+b.slot-1:=by omega
  exact y7 (by omega) (by omega)
 ·intro x hx;obtain ⟨y,hy,rfl⟩:=List.mem_map.1 hx;have:=iA (hk y hy);omega
def Tn (D:aX→List aX) (id:aX):List aX:=KO D 18 (D id)
def sE:aV:=⟨0,0,0,⟨0,0⟩,0,bG,0,[],0,0,false⟩
theorem gY {m:aV} (h:du m=true):(1≤m.kind∧m.kind≤7)∧(0≤m.da∧m.da≤2)∧(0≤m.to∧m.to≤2)∧fK m.id=true∧(0≤m.aS∧m.aS≤600)∧dQ m.cmd=true∧(0≤m.seq∧m.seq≤60)∧ek m.al=true∧(0≤m.status∧m.status≤3)∧(-1≤m.bB∧m.bB≤600):=by
 unfold du at h;simp only [Bool.and_eq_true] at h;obtain ⟨h1,h2,h3,_,h5,h6,h7,h8,h9,_,zX,DQ⟩:=h;exact ⟨kt h1,kt h2,kt h3,h5,kt h6,h7,kt h8,h9,kt zX,kt DQ⟩
theorem oy {l:List aX} (h:ek l=true):l.length≤18:=GP (E2 (JH h)) (y8 h)
theorem vX {m:aV} (h:du m=true):bD m=((jP m).map ba).flatten++(oZ m.same++(bF (bt m.cmd)++(ba (m.al.length:Int)++(m.al.map im).flatten))):=by rw [bD,if_pos h]
theorem Ee {m:aV} (h:du m=true):∀n∈jP m,0≤n∧n≤562949953421311:=by
 obtain ⟨h1,h2,h3,h4,h5,_,h7,_,h9,yY⟩:=gY h;have hi:=iA h4;intro n hn;simp only [jP,mem_cons,not_mem_nil,or_false] at hn;rcases hn with rfl|rfl|rfl|rfl|rfl|rfl|rfl|rfl|rfl<;>omega
theorem vY {m:aV} (h:du m=true):bD m≠[]:=by
 have hp:=sb (Ee h m.kind (by simp [jP]));rw [vX h];intro e;have:=congrArg List.length e;simp only [jP,map_cons,flatten_cons,length_append,length_nil] at this;omega
theorem oz {m:aV} {s:List UInt8} (h:bD m=s) (hs:s≠[]):du m=true:=by
 cases hc:du m with
 |true=>rfl
 |false=>rw [bD,hc] at h;exact absurd h.symm hs
theorem CO {c:aR} (h:dQ c=true):bt c≠[]:=by
 rw [bt,if_pos h];intro e;exact yi c h (List.append_eq_nil_iff.1 e).1
theorem sG {c:aR} (h:dQ c=true):(dj (bt c)).1=c:=by rw [pt rfl (CO h)]
theorem qH {c:aR} (h:dQ c=true):(bt c).length≤562949953421311:=by
 have h1:=jq c;obtain ⟨_,_,_,_,h5,h6,h7,h8,h9⟩:=iz h;have yY:=vN c;have zX:=AK c.chunks h9;omega
def fS:Nat→List UInt8→Bool→List aX × List UInt8 × Bool
 |0,r,b=>([],r,b)
 |n+1,r,b=>
  (⟨
   ((aP r b).1:Int),((aP (aP r b).2.1 (aP r b).2.2).1:Int)⟩::(fS n (aP (aP r b).2.1 (aP r b).2.2).2.1 (aP (aP r b).2.1 (aP r b).2.2).2.2).1,
   (fS n (aP (aP r b).2.1 (aP r b).2.2).2.1 (aP (aP r b).2.1 (aP r b).2.2).2.2).2)
theorem vZ:∀(n:Nat) (r:List UInt8) (b:Bool),(fS n r b).1.length=n
 |0,_,_=>rfl
 |n+1,r,b=>by rw [fS,length_cons,vZ n]
theorem wg:∀(n:Nat) (r:List UInt8) (b:Bool),(fS n r b).2.2=false→b=false∧n+(fS n r b).2.1.length≤r.length
 |0,r,b,h=>⟨h,by simp [fS]⟩
 |n+1,r,b,h=>by
  rw [fS] at h ⊢;have e1:=cB r b;generalize aP r b=a at *;have e2:=cB a.2.1 a.2.2;generalize aP a.2.1 a.2.2=c at *;obtain ⟨h1,h2⟩:=wg n c.2.1 c.2.2 h;obtain ⟨h3,h4⟩:=e2.2.1 h1;obtain ⟨h5,h6⟩:=e1.2.1 h3;exact ⟨h5,by simp only at h2 ⊢;omega⟩
theorem wh (t:List UInt8):∀(xs:List aX),(∀x∈xs,fK x=true)→fS xs.length ((xs.map im).flatten++t) false=(xs,t,false)
 |[],_=>rfl
 |x::xs,h=>by
  have hb:=iA (h x (by simp));have ih:=wh t xs (fun y hy=>h y (mem_cons_of_mem _ hy));have e:((x::xs).map im).flatten++t=ba x.rep++(ba x.slot++((xs.map im).flatten++t)):=by simp [im]
  rw [e,length_cons,fS];simp only [cT (show 0≤x.rep∧x.rep≤562949953421311 by omega),cT (show 0≤x.slot∧x.slot≤562949953421311 by omega),ih];rw [Int.toNat_of_nonneg hb.1,Int.toNat_of_nonneg (by omega:0≤x.slot)]
def kz (s:List UInt8):aV × Bool:=
 let k1:=aP s false
 let k2:=aP k1.2.1 k1.2.2
 let k3:=aP k2.2.1 k2.2.2
 let k4:=aP k3.2.1 k3.2.2
 let k5:=aP k4.2.1 k4.2.2
 let k6:=aP k5.2.1 k5.2.2
 let k7:=aP k6.2.1 k6.2.2
 let k8:=aP k7.2.1 k7.2.2
 let k9:=aP k8.2.1 k8.2.2
 let c:=dn k9.2.1 k9.2.2 1
 let t:=bY c.2.1 c.2.2
 let n:=aP t.2.1 t.2.2
 let ps:=if n.1≤18 then fS n.1 n.2.1 n.2.2 else ([],n.2.1,n.2.2)
 (⟨(k1.1:Int),(k2.1:Int),(k3.1:Int),⟨(k4.1:Int),(k5.1:Int)⟩,(k6.1:Int),(dj t.1).1,(k9.1:Int),ps.1,(k7.1:Int),(k8.1:Int)-1,c.1 == [1]⟩,ps.2.2)
theorem pB {m:aV} (h:du m=true):kz (bD m)=(m,false):=by
 obtain ⟨h1,h2,h3,h4,h5,h6,h7,h8,h9,yY⟩:=gY h;have hi:=iA h4;have hd:=oy h8;have hc:=qH h6;have hs:bD m=ba m.kind++(ba m.da++(ba m.to++(ba m.id.rep++(ba m.id.slot++(ba m.aS++(ba m.status++(ba (m.bB+1)++(ba m.seq++(oZ m.same++(bF (bt m.cmd)++(ba (m.al.length:Int)++((m.al.map im).flatten++[])))))))))))):=by
  rw [vX h];simp only [jP,map_cons,map_nil,flatten_cons,flatten_nil,append_nil,append_assoc]
 have yu:(oZ m.same).length=1∧(oZ m.same == [1])=m.same:=by cases m.same<;>exact ⟨rfl,rfl⟩
 rw [hs];unfold kz;simp only [cT (show 0≤m.kind∧m.kind≤562949953421311 by omega),cT (show 0≤m.da∧m.da≤562949953421311 by omega),cT (show 0≤m.to∧m.to≤562949953421311 by omega),cT (show 0≤m.id.rep∧m.id.rep≤562949953421311 by omega),cT (show 0≤m.id.slot∧m.id.slot≤562949953421311 by omega),cT (show 0≤m.aS∧m.aS≤562949953421311 by omega),cT (show 0≤m.status∧m.status≤562949953421311 by omega),cT (show 0≤m.bB+1∧m.bB+1≤562949953421311 by omega),cT (show 0≤m.seq∧m.seq≤562949953421311 by omega),
  sc (oZ m.same) _ 1 (by rw [yu.1];rfl),jL (bt m.cmd) _ hc,cT (show 0≤(m.al.length:Int)∧(m.al.length:Int)≤562949953421311 by omega),Int.toNat_natCast,hd,if_true,wh [] m.al (y8 h8),sG h6,yu.2];rw [Int.toNat_of_nonneg (by omega:0≤m.kind),Int.toNat_of_nonneg h2.1,Int.toNat_of_nonneg h3.1,Int.toNat_of_nonneg hi.1,Int.toNat_of_nonneg (by omega:0≤m.id.slot),Int.toNat_of_nonneg h5.1,Int.toNat_of_nonneg h7.1,Int.toNat_of_nonneg h9.1,Int.toNat_of_nonneg (by omega:0≤m.bB+1),Int.add_sub_cancel]
theorem pC (t:List UInt8):(dj t).1.c.wt≤t.length:=by
 unfold dj;split
 ·exact yj t
 ·exact Nat.zero_le _
theorem pZ:∀l:List aX,(cat aX.c l).wt=0
 |[]=>rfl
 |x::l=>by rw [dA,Cs.mf,pZ l];rfl
theorem fw (m:aV):m.c.wt=m.cmd.c.wt+m.al.length:=by
 have e0:m.c.wt=(m.cmd.set.length+(m.cmd.name.length+(m.cmd.tag.length+(m.cmd.chunks.length+(cat cN m.cmd.chunks).wt+(m.al.length+(cat aX.c m.al).wt+0))))):=rfl;have e1:m.cmd.c.wt=m.cmd.set.length+(m.cmd.name.length+(m.cmd.tag.length+(m.cmd.chunks.length+(cat cN m.cmd.chunks).wt+0))):=rfl;have e2:=pZ m.al;omega
theorem yv {s:List UInt8} (h:(kz s).2=false):s≠[]∧(kz s).1.c.wt≤s.length:=by
 rw [fw];unfold kz at h ⊢;simp only [] at h ⊢;have e1:=cB s false;generalize aP s false=k1 at *;have e2:=cB k1.2.1 k1.2.2;generalize aP k1.2.1 k1.2.2=k2 at *;have e3:=cB k2.2.1 k2.2.2;generalize aP k2.2.1 k2.2.2=k3 at *;have e4:=cB k3.2.1 k3.2.2;generalize aP k3.2.1 k3.2.2=k4 at *;have e5:=cB k4.2.1 k4.2.2;generalize aP k4.2.1 k4.2.2=k5 at *;have e6:=cB k5.2.1 k5.2.2;generalize aP k5.2.1 k5.2.2=k6 at *;have e7:=cB k6.2.1 k6.2.2;generalize aP k6.2.1 k6.2.2=k7 at *;have e8:=cB k7.2.1 k7.2.2;generalize aP k7.2.1 k7.2.2=k8 at *;have e9:=cB k8.2.1 k8.2.2;generalize aP k8.2.1 k8.2.2=k9 at *;have V4:=mP k9.2.1 k9.2.2 1;generalize dn k9.2.1 k9.2.2 1=c at *;have YC:=gC c.2.1 c.2.2;generalize bY c.2.1 c.2.2=t at *;have YD:=cB t.2.1 t.2.2;generalize aP t.2.1 t.2.2=n at *;have hw:=pC t.1;have RN:∀ps:List aX × List UInt8 × Bool,(ps=if n.1≤18 then fS n.1 n.2.1 n.2.2 else ([],n.2.1,n.2.2))→ps.2.2=false→n.2.2=false∧ps.1.length+ps.2.1.length≤n.2.1.length:=by
  intro ps hp hb;split at hp
  ·subst hp;have h1:=wg n.1 n.2.1 n.2.2 hb;rw [vZ];exact h1
  ·subst hp;exact ⟨hb,by simp⟩
 obtain ⟨YE,l13⟩:=RN _ rfl h;obtain ⟨YF,N8⟩:=YD.2.1 YE;obtain ⟨YG,RO⟩:=YC.2 YF;have g9:=V4.2 YG;have RP:=V4.1;obtain ⟨g8,l9⟩:=e9.2.1 g9;obtain ⟨g7,l8⟩:=e8.2.1 g8;obtain ⟨g6,l7⟩:=e7.2.1 g7;obtain ⟨g5,l6⟩:=e6.2.1 g6;obtain ⟨g4,l5⟩:=e5.2.1 g5;obtain ⟨g3,l4⟩:=e4.2.1 g4;obtain ⟨g2,l3⟩:=e3.2.1 g3;obtain ⟨g1,l2⟩:=e2.2.1 g2;obtain ⟨_,l1⟩:=e1.2.1 g1;refine ⟨fun e=>?_,by omega⟩;subst e;simp at l1
noncomputable def cM (s:List UInt8):aV × Bool:=if s≠[]∧bD (kz s).1=s then ((kz s).1,true) else (sE,false)
theorem p7 {m:aV} {s:List UInt8} (h:bD m=s) (hs:s≠[]):cM s=(m,true):=by
 have hb:=pB (oz h hs);rw [h] at hb;unfold cM;rw [hb,if_pos ⟨hs,h⟩]
theorem pD {s:List UInt8} (h:∀m,du m=true→bD m≠s):cM s=(sE,false):=by
 unfold cM;rw [if_neg];rintro ⟨h1,h2⟩;exact h _ (oz h2 h1) h2
theorem GQ {s:List UInt8} (h:(kz s).2=true∨s=[]∨bD (kz s).1≠s):cM s=(sE,false):=by
 refine pD fun m hm hs=>?_
 have hb:=pB hm;rw [hs] at hb;rcases h with h|h|h
 ·rw [hb] at h;cases h
 ·subst h;exact vY hm hs
 ·rw [hb] at h;exact h hs
theorem GS {s:List UInt8} (h2:s≠[]) (h3:bD (kz s).1=s):cM s=((kz s).1,true):=p7 h3 h2
theorem wi:∀(ns:List Int) (a t:List UInt8),(∀n∈ns,0≤n∧n≤562949953421311)→fX (a++((ns.map ba).flatten++t)) ns.length (a.length:Int)=(ns.map Int.toNat,((a.length+(ns.map ba).flatten.length:Nat):Int))
 |[],a,t,_=>by simp [fX]
 |n::ns,a,t,h=>by
  have ih:=wi ns (a++ba n) t (fun x hx=>h x (mem_cons_of_mem _ hx));have e:a++(((n::ns).map ba).flatten++t)=a++(ba n++((ns.map ba).flatten++t)):=by simp
  rw [e,length_cons,po a ((ns.map ba).flatten++t) n ns.length (h n (by simp))];rw [←append_assoc,ih];simp only [map_cons,flatten_cons,length_append,Prod.mk.injEq,true_and];omega
structure Mj (m:aV) (s:List UInt8) (p9 N9 Mk:Nat):Prop where
 JI:fX s 9 0=((jP m).map Int.toNat,(p9:Int))
 lt:p9<s.length
 same:s.getD p9 0=if m.same=true then 1 else 0
 cmd:nH s ((p9:Int)+1)=(bt m.cmd,(N9:Int))
 n:fX s 1 (N9:Int)=([m.al.length],(Mk:Int))
 dep:∀i (hi:i<m.al.length),fX s 2 ((Mk+((m.al.take i).map im).flatten.length:Nat):Int)=([m.al[i].rep.toNat,m.al[i].slot.toNat],((Mk+((m.al.take (i+1)).map im).flatten.length:Nat):Int))
theorem GU {m:aV} {s:List UInt8} (h:du m=true) (hs:bD m=s):∃p9 N9 Mk,Mj m s p9 N9 Mk:=by
 obtain ⟨h1,h2,h3,h4,h5,h6,h7,h8,h9,yY⟩:=gY h;have hd:=oy h8;have hc:=qH h6;have hn:=Ee h;rw [vX h] at hs;obtain ⟨A,hA⟩:∃A,A=((jP m).map ba).flatten:=⟨_,rfl⟩;obtain ⟨Bq,hB⟩:∃B,B=oZ m.same:=⟨_,rfl⟩;obtain ⟨C,hC⟩:∃C,C=bF (bt m.cmd):=⟨_,rfl⟩;obtain ⟨E,hE⟩:∃E,E=ba (m.al.length:Int):=⟨_,rfl⟩;have hBl:Bq.length=1:=by rw [hB];cases m.same<;>rfl
 have l9:=wi (jP m) [] (Bq++(C++(E++(m.al.map im).flatten))) hn;rw [←hA,←hB,←hC,←hE] at hs;rw [←hA] at l9;have e9:(jP m).length=9:=rfl;rw [e9,nil_append,hs] at l9;have t1:=pW (A++Bq) (bt m.cmd) (E++(m.al.map im).flatten) hc;rw [←hC] at t1;have V5:(A++Bq)++(C++(E++(m.al.map im).flatten))=s:=by rw [append_assoc];exact hs
 rw [V5] at t1;have v1:=uU (A++Bq++C) ((m.al.map im).flatten) (m.al.length:Int) (by omega);rw [←hE] at v1;have V6:A++Bq++C++(E++(m.al.map im).flatten)=s:=by rw [append_assoc,V5]
 rw [V6,Int.toNat_natCast] at v1;refine ⟨A.length,(A++Bq++C).length,(A++Bq++C++E).length,⟨?_,?_,?_,?_,v1,?_⟩⟩
 ·simpa using l9
 ·rw [←hs];simp only [length_append];omega
 ·rw [←hs,List.getD_eq_getElem?_getD,List.getElem?_append_right Nr,Nat.sub_self,hB];cases m.same<;>rfl
 ·have e:((A.length:Int)+1)=((A++Bq).length:Int):=by simp only [length_append];omega
  rw [e];exact t1
 ·intro i hi;have YH:=iA (y8 h8 m.al[i] (getElem_mem hi));have uY:(m.al.map im).flatten=((m.al.take i).map im).flatten++(([m.al[i].rep,m.al[i].slot].map ba).flatten++((m.al.drop (i+1)).map im).flatten):=by
   have e1:m.al=m.al.take i++(m.al[i]::m.al.drop (i+1)):=by rw [←drop_eq_getElem_cons hi,take_append_drop]
   have e2:(m.al.map im).flatten=((m.al.take i++(m.al[i]::m.al.drop (i+1))).map im).flatten:=congrArg (fun l=>(List.map im l).flatten) e1;rw [e2,map_append,flatten_append,map_cons,flatten_cons];simp only [im,map_cons,map_nil,flatten_cons,flatten_nil,append_nil,append_assoc]
  have hx:=wi [m.al[i].rep,m.al[i].slot] (A++Bq++C++E++((m.al.take i).map im).flatten) (((m.al.drop (i+1)).map im).flatten) (by
   intro n hn;simp only [mem_cons,not_mem_nil,or_false] at hn;rcases hn with rfl|rfl<;>omega);have YI:A++Bq++C++E++((m.al.take i).map im).flatten++(([m.al[i].rep,m.al[i].slot].map ba).flatten++((m.al.drop (i+1)).map im).flatten)=s:=by
   rw [append_assoc (A++Bq++C++E),←uY,append_assoc (A++Bq++C),V6]
  rw [YI] at hx;have Ma:im m.al[i]=([m.al[i].rep,m.al[i].slot].map ba).flatten:=by simp [im]
  have ti:((m.al.take (i+1)).map im).flatten.length=((m.al.take i).map im).flatten.length+([m.al[i].rep,m.al[i].slot].map ba).flatten.length:=by rw [jf im m.al i hi,length_append,Ma]
  have q1:(A++Bq++C++E++((m.al.take i).map im).flatten).length=(A++Bq++C++E).length+((m.al.take i).map im).flatten.length:=length_append;rw [q1] at hx;rw [ti,←Nat.add_assoc];exact hx
theorem fO.lQ {w w':World} {base g b:Nat} {d:Cs} {cs:List Value} (h:fO w g d cs) (hg:w.grownBy w' (some b)) (hb:¬g≤b) (rP:base≤g):fO w' base d cs:=
 let ⟨F,h1,h2⟩:=h
 ⟨F,h1,h2.mg fun k hk=>⟨Nt rP (h2.in k hk).1,hg.block k (h2.in k hk).2 (fun e=>by injection e with e;have:=(h2.in k hk).1;omega)⟩⟩
theorem eG (w:World) (base:Nat):fO w base bG.c zC:=
 ⟨_,kA _,aR.jM (x:=bG) (Own.uV rfl ⟨by simp [bG],.inl ⟨rfl,rfl⟩⟩)⟩
theorem fq {w:World} {base:Nat} {c:aR} {A:Option Addr} {k:Nat} (h:w.ownsRow base 9 1 (.slice A c.chunks k) c.chunks.length (c.chunks.map iK)):fO w base c.c (rC c A k):=
 ⟨_,kA _,aR.jM (Own.uV rfl h)⟩
theorem bq.qo {w:World} {b:Nat} {r:List UInt8} {x:Bool} (h:bq w b r x):bf w b 55 #[r,x]:=h
theorem bq.of {w:World} {b:Nat} {r:List UInt8} {x:Bool} (h:bf w b 55 #[r,x]):bq w b r x:=h
theorem FB {s:List UInt8} {n1 n2 n3 n4 n8:Nat} {t5 t6 t7 r1 r2 r3 r4 r5 r6 r7 r8 r9:List UInt8} {b1 b2 b3 b4 b5 b6 b7 b8 b9:Bool} {N:Nat} {acc:List (List UInt8)}
 (h1:aP s false=(n1,r1,b1)) (h2:aP r1 b1=(n2,r2,b2)) (h3:aP r2 b2=(n3,r3,b3)) (h4:aP r3 b3=(n4,r4,b4))
 (h5:bY r4 b4=(t5,r5,b5)) (h6:bY r5 b5=(t6,r6,b6)) (h7:bY r6 b6=(t7,r7,b7)) (h8:aP r7 b7=(n8,r8,b8))
 (hN:N=if n8≤4 then n8 else 0) (h9:iV N r8 b8=(acc,r9,b9)):lq s=(⟨(n1:Int),(n2:Int),(n3:Int),t5,t6,t7,(n4:Int),acc⟩,b9):=by
 unfold lq;simp only [h1,h2,h3,h4,h5,h6,h7,h8];split
 ·rename_i h;rw [if_pos h] at hN;subst hN;rw [h9]
 ·rename_i h;rw [if_neg h] at hN;subst hN;rw [iV] at h9;injection h9 with e1 e2;injection e2 with e2 e3;subst e1 e3;rfl
theorem Kf {s:List UInt8} {n1 n2 n3 n4 n8:Nat} {t5 t6 t7 r1 r2 r3 r4 r5 r6 r7 r8:List UInt8} {b1 b2 b3 b4 b5 b6 b7 b8:Bool} {N:Nat} {acc:List (List UInt8)} {r9:List UInt8} {b9:Bool} (h1:aP s false=(n1,r1,b1)) (h2:aP r1 b1=(n2,r2,b2)) (h3:aP r2 b2=(n3,r3,b3)) (h4:aP r3 b3=(n4,r4,b4))
 (h5:bY r4 b4=(t5,r5,b5)) (h6:bY r5 b5=(t6,r6,b6)) (h7:bY r6 b6=(t7,r7,b7)) (h8:aP r7 b7=(n8,r8,b8)) (h9:iV N r8 b8=(acc,r9,b9)) (hb:b9=false):s≠[]:=by
 have mono:∀(n:Nat) (r:List UInt8) (b:Bool),(iV n r b).2.2=false→b=false:=fun n=>by
  induction n with
  |zero=>intro r b h;exact h
  |succ n ih=>intro r b h;exact (mP r b 8).2 (ih _ _ h)
 have g8:=mono N r8 b8 (by rw [h9];exact hb);have g7:=((cB r7 b7).2.1 (by rw [h8];exact g8)).1;have g6:=((gC r6 b6).2 (by rw [h7];exact g7)).1;have g5:=((gC r5 b5).2 (by rw [h6];exact g6)).1;have g4:=((gC r4 b4).2 (by rw [h5];exact g5)).1;have g3:=((cB r3 b3).2.1 (by rw [h4];exact g4)).1;have g2:=((cB r2 b2).2.1 (by rw [h3];exact g3)).1;have g1:=((cB r1 b1).2.1 (by rw [h2];exact g2)).1;have g0:=((cB s false).2.1 (by rw [h1];exact g1)).2;intro e;subst e;simp at g0
theorem zs (s:List UInt8) (w:World) (hs:s.length≤1048576) :
 Calls Tryz.prog 25 #[s] w fun e w'=>∃dE,e = .returned (.tuple #[.agg dE.toArray,.bool (dj s).2])∧fO w' w (dj s).1.c dE∧Below w w w':=by
 obtain ⟨R,hR⟩:∃R,R=dj s:=⟨_,rfl⟩;rw [←hR];have HR:=Hi hR;clear hR;obtain ⟨n1,r1,b1,h1⟩:∃a b c,aP s false=(a,b,c):=⟨_,_,_,rfl⟩;have l1:=(bC s false).1;have m1:=(bC s false).2;rw [h1] at l1 m1;simp only [] at l1 m1;have ZN:r1.length≤1048576:=by omega
 clear l1;obtain ⟨n2,r2,b2,h2⟩:∃a b c,aP r1 b1=(a,b,c):=⟨_,_,_,rfl⟩;have l2:=(bC r1 b1).1;have m2:=(bC r1 b1).2;rw [h2] at l2 m2;simp only [] at l2 m2;have ZO:r2.length≤1048576:=by omega
 clear l2;obtain ⟨n3,r3,b3,h3⟩:∃a b c,aP r2 b2=(a,b,c):=⟨_,_,_,rfl⟩;have l3:=(bC r2 b2).1;have m3:=(bC r2 b2).2;rw [h3] at l3 m3;simp only [] at l3 m3;have ZP:r3.length≤1048576:=by omega
 clear l3;obtain ⟨n4,r4,b4,h4⟩:∃a b c,aP r3 b3=(a,b,c):=⟨_,_,_,rfl⟩;have l4:=(bC r3 b3).1;have m4:=(bC r3 b3).2;rw [h4] at l4 m4;simp only [] at l4 m4;have ZQ:r4.length≤1048576:=by omega
 clear l4;obtain ⟨t5,r5,b5,h5⟩:∃a b c,bY r4 b4=(a,b,c):=⟨_,_,_,rfl⟩;have l5:=(fF r4 b4).1;have m5:=(fF r4 b4).2;rw [h5] at l5 m5;simp only [] at l5 m5;have ZR:r5.length≤1048576:=by omega
 clear l5;have m5':t5.length≤1048576:=by omega
 clear m5;obtain ⟨t6,r6,b6,h6⟩:∃a b c,bY r5 b5=(a,b,c):=⟨_,_,_,rfl⟩;have l6:=(fF r5 b5).1;have m6:=(fF r5 b5).2;rw [h6] at l6 m6;simp only [] at l6 m6;have ZS:r6.length≤1048576:=by omega
 clear l6;have m6':t6.length≤1048576:=by omega
 clear m6;obtain ⟨t7,r7,b7,h7⟩:∃a b c,bY r6 b6=(a,b,c):=⟨_,_,_,rfl⟩;have l7:=(fF r6 b6).1;have m7:=(fF r6 b6).2;rw [h7] at l7 m7;simp only [] at l7 m7;have ZT:r7.length≤1048576:=by omega
 clear l7;have m7':t7.length≤1048576:=by omega
 clear m7;obtain ⟨n8,r8,b8,h8⟩:∃a b c,aP r7 b7=(a,b,c):=⟨_,_,_,rfl⟩;have l8:=(bC r7 b7).1;have m8:=(bC r7 b7).2;rw [h8] at l8 m8;simp only [] at l8 m8;have WV:r8.length≤1048576:=by omega
 clear l8;obtain ⟨N,hN⟩:∃N,N=if n8≤4 then n8 else 0:=⟨_,rfl⟩
 obtain ⟨Qj,r9,b9,h9⟩:∃a b c,iV N r8 b8=(a,b,c):=⟨_,_,_,rfl⟩;have Es:=FB h1 h2 h3 h4 h5 h6 h7 h8 hN h9;have WW:=Hi (fun hb=>Kf h1 h2 h3 h4 h5 h6 h7 h8 h9 hb);have eC:=yj s;rw [Es] at eC;simp only [] at eC;have og:=Hi (Nt eC hs);clear eC;have Lf:=Hi Es;clear Es;have Hy:N≤4∧N≤n8∧(n8≤4→N=n8)∧(¬n8≤4→N=0):=by rw [hN];split<;>omega
 clear hN;obtain ⟨Qk,Ql,Kg,Hy⟩:=Hy;have H1:=Hi h1;clear h1;have H2:=Hi h2;clear h2;have H3:=Hi h3;clear h3;have H4:=Hi h4;clear h4;have H5:=Hi h5;clear h5;have H6:=Hi h6;clear h6;have H7:=Hi h7;clear h7;have H8:=Hi h8;clear h8;have H9:=Hi h9;clear h9 m1 m2 m3 m4;go_enter Tryz.func25,Tryz.ntmps25;go_wp2_with fail;have HS:=Hi (show bq ((w.alloc (.cells #[cO,cO,cO,cS,cS,cS,cO,cL] 28)).alloc (.cells #[s,false] 55)) (w+1) s false from pr _ _ _ _);have ZB:=Hi (show bf ((w.alloc (.cells #[cO,cO,cO,cS,cS,cS,cO,cL] 28)).alloc (.cells #[s,false] 55)) w 28 zC from pq _ _ _ _);have BW:=Hi (show Below w w ((w.alloc (.cells #[cO,cO,cO,cS,cS,cS,cO,cL] 28)).alloc (.cells #[s,false] 55)) from (by repeat' (first|with_reducible (first|exact Br|exact BW.o|apply Bs|apply Ba|apply Bd)|(simp<;>omega)|omega)));have Qm:w.heap.size+1+1≤(World.heap ((w.alloc (.cells #[cO,cO,cO,cS,cS,cS,cO,cL] 28)).alloc (.cells #[s,false] 55))).size:=by simp
 have HZ:=Hi Qm;clear Qm;refine (dh (w+1) s false _ (by omega) HS.o).mono ?_;rintro e v1 ⟨rfl,hs,hg⟩;rw [H1.o] at hs ⊢;simp only [] at hs ⊢;clear HS;have HS:=Hi hs;clear hs;replace ZB:=Hi (ZB.o.grown hg (by omega));replace HZ:=Hi (Nt HZ.o hg.size);replace BW:=Hi (Below.grown BW.o hg BW.o.size (fun k hk=>by injection hk with hk;omega));clear hg;obtain ⟨gc,Hz⟩:∃g,g=v1.heap.size:=⟨_,rfl⟩;have nW:=Hi Hz;clear Hz;have dW:=Hi (show w.heap.size+1+1≤gc by rw [nW.o];exact HZ.o);go_wp2_with ((with_reducible apply Gs 28);refine Fr _ v1 28 0 [(n1:Int),cO,cO,cS,cS,cS,cO,cL] [] zC [] _ rfl rfl aN (bH v1 _ _) rfl rfl rfl (Oc rfl) ?_;intro MV aD pX;rw [←nW.o] at aD pX ⊢;have CB:=Hi (show bf MV gc 28 #[(n1:Int),cO,cO,cS,cS,cS,cO,cL] by simpa using aD);replace HS:=Hi (show bq MV (w+1) r1 b1 from bq.of ((HS.o.qo.alloc _).grown pX (fun e=>by have:=dW.o;omega)));replace ZB:=Hi ((ZB.o.alloc _).grown pX (fun e=>by have:=dW.o;omega));replace BW:=Hi (Below.grown (BW.o.alloc BW.o.size _) pX (Nt BW.o.size (by simp)) (fun k hk=>by injection hk with hk;have:=dW.o;omega));replace HZ:=Hi (Nt HZ.o (Nt (by simp) pX.size));have eb:=Hi (show gc+1≤MV.heap.size from Nt (by rw [nW.o];simp) pX.size);clear aD pX);refine (dh (w+1) r1 b1 _ (by omega) HS.o).mono ?_;rintro e v2 ⟨rfl,hs,hg⟩;rw [H2.o] at hs ⊢;simp only [] at hs ⊢;clear HS;have HS:=Hi hs;clear hs;replace ZB:=Hi (ZB.o.grown hg (by omega));replace CB:=Hi (CB.o.grown hg (fun e=>by have:=dW.o;omega));replace HZ:=Hi (Nt HZ.o hg.size);replace eb:=Hi (Nt eb.o hg.size);replace BW:=Hi (Below.grown BW.o hg BW.o.size (fun k hk=>by injection hk with hk;omega));clear hg;have hq:v2.cell? ⟨gc,1,none⟩=some (.int .i64 0):=ah CB.o 1 rfl;have mX:v2.frozen? ⟨gc,1,none⟩=false:=CB.o.frozen 1;go_wp2_with fail;clear hq mX;replace CB:=Hi (show bf (v2.setCell ⟨gc,1,none⟩ (.int .i64 (n2:Int))) gc 28 #[(n1:Int),(n2:Int),cO,cS,cS,cS,cO,cL] from cI CB.o 1 (.int .i64 (n2:Int)));replace HS:=Hi (bq.of (bf.bK HS.o.qo (a:=⟨gc,1,none⟩) (by have:=dW.o;show gc≠_;omega) (.int .i64 (n2:Int))));replace ZB:=Hi (bf.bK ZB.o (a:=⟨gc,1,none⟩) (by have:=dW.o;show gc≠_;omega) (.int .i64 (n2:Int)));replace BW:=Hi (Below.setCell BW.o (p:=⟨gc,1,none⟩) (by have:=dW.o;show _≤gc;omega) (.int .i64 (n2:Int)));replace HZ:=Hi (show w.heap.size+1+1≤(World.heap (v2.setCell ⟨gc,1,none⟩ (.int .i64 (n2:Int)))).size by rw [aF];exact HZ.o);replace eb:=Hi (show gc+1≤(World.heap (v2.setCell ⟨gc,1,none⟩ (.int .i64 (n2:Int)))).size by rw [aF];exact eb.o);refine (dh (w+1) r2 b2 _ (by omega) HS.o).mono ?_;rintro e v3 ⟨rfl,hs,hg⟩;rw [H3.o] at hs ⊢;simp only [] at hs ⊢;clear HS;have HS:=Hi hs;clear hs;replace ZB:=Hi (ZB.o.grown hg (by omega));replace CB:=Hi (CB.o.grown hg (fun e=>by have:=dW.o;omega));replace HZ:=Hi (Nt HZ.o hg.size);replace eb:=Hi (Nt eb.o hg.size);replace BW:=Hi (Below.grown BW.o hg BW.o.size (fun k hk=>by injection hk with hk;omega));clear hg;have hq:v3.cell? ⟨gc,2,none⟩=some (.int .i64 0):=ah CB.o 2 rfl;have mX:v3.frozen? ⟨gc,2,none⟩=false:=CB.o.frozen 2;go_wp2_with fail;clear hq mX;replace CB:=Hi (show bf (v3.setCell ⟨gc,2,none⟩ (.int .i64 (n3:Int))) gc 28 #[(n1:Int),(n2:Int),(n3:Int),cS,cS,cS,cO,cL] from cI CB.o 2 (.int .i64 (n3:Int)));replace HS:=Hi (bq.of (bf.bK HS.o.qo (a:=⟨gc,2,none⟩) (by have:=dW.o;show gc≠_;omega) (.int .i64 (n3:Int))));replace ZB:=Hi (bf.bK ZB.o (a:=⟨gc,2,none⟩) (by have:=dW.o;show gc≠_;omega) (.int .i64 (n3:Int)));replace BW:=Hi (Below.setCell BW.o (p:=⟨gc,2,none⟩) (by have:=dW.o;show _≤gc;omega) (.int .i64 (n3:Int)));replace HZ:=Hi (show w.heap.size+1+1≤(World.heap (v3.setCell ⟨gc,2,none⟩ (.int .i64 (n3:Int)))).size by rw [aF];exact HZ.o);replace eb:=Hi (show gc+1≤(World.heap (v3.setCell ⟨gc,2,none⟩ (.int .i64 (n3:Int)))).size by rw [aF];exact eb.o);refine (dh (w+1) r3 b3 _ (by omega) HS.o).mono ?_;rintro e v4 ⟨rfl,hs,hg⟩;rw [H4.o] at hs ⊢;simp only [] at hs ⊢;clear HS;have HS:=Hi hs;clear hs;replace ZB:=Hi (ZB.o.grown hg (by omega));replace CB:=Hi (CB.o.grown hg (fun e=>by have:=dW.o;omega));replace HZ:=Hi (Nt HZ.o hg.size);replace eb:=Hi (Nt eb.o hg.size);replace BW:=Hi (Below.grown BW.o hg BW.o.size (fun k hk=>by injection hk with hk;omega));clear hg;have hq:v4.cell? ⟨gc,6,none⟩=some (.int .i64 0):=ah CB.o 6 rfl;have mX:v4.frozen? ⟨gc,6,none⟩=false:=CB.o.frozen 6;go_wp2_with fail;clear hq mX;replace CB:=Hi (show bf (v4.setCell ⟨gc,6,none⟩ (.int .i64 (n4:Int))) gc 28 #[(n1:Int),(n2:Int),(n3:Int),cS,cS,cS,(n4:Int),cL] from cI CB.o 6 (.int .i64 (n4:Int)));replace HS:=Hi (bq.of (bf.bK HS.o.qo (a:=⟨gc,6,none⟩) (by have:=dW.o;show gc≠_;omega) (.int .i64 (n4:Int))));replace ZB:=Hi (bf.bK ZB.o (a:=⟨gc,6,none⟩) (by have:=dW.o;show gc≠_;omega) (.int .i64 (n4:Int)));replace BW:=Hi (Below.setCell BW.o (p:=⟨gc,6,none⟩) (by have:=dW.o;show _≤gc;omega) (.int .i64 (n4:Int)));replace HZ:=Hi (show w.heap.size+1+1≤(World.heap (v4.setCell ⟨gc,6,none⟩ (.int .i64 (n4:Int)))).size by rw [aF];exact HZ.o);replace eb:=Hi (show gc+1≤(World.heap (v4.setCell ⟨gc,6,none⟩ (.int .i64 (n4:Int)))).size by rw [aF];exact eb.o);refine (lI (w+1) r4 b4 _ (by omega) HS.o).mono ?_;rintro e v5 ⟨rfl,hs,hg⟩;rw [H5.o] at hs ⊢;simp only [] at hs ⊢;clear HS;have HS:=Hi hs;clear hs;replace ZB:=Hi (ZB.o.grown hg (by omega));replace CB:=Hi (CB.o.grown hg (fun e=>by have:=dW.o;omega));replace HZ:=Hi (Nt HZ.o hg.size);replace eb:=Hi (Nt eb.o hg.size);replace BW:=Hi (Below.grown BW.o hg BW.o.size (fun k hk=>by injection hk with hk;omega));clear hg;have hq:v5.cell? ⟨gc,3,none⟩=some (.string (bs [])):=ah CB.o 3 rfl;have mX:v5.frozen? ⟨gc,3,none⟩=false:=CB.o.frozen 3;go_wp2_with fail;clear hq mX;replace CB:=Hi (show bf (v5.setCell ⟨gc,3,none⟩ (.string (bs t5))) gc 28 #[(n1:Int),(n2:Int),(n3:Int),t5,cS,cS,(n4:Int),cL] from cI CB.o 3 (.string (bs t5)));replace HS:=Hi (bq.of (bf.bK HS.o.qo (a:=⟨gc,3,none⟩) (by have:=dW.o;show gc≠_;omega) (.string (bs t5))));replace ZB:=Hi (bf.bK ZB.o (a:=⟨gc,3,none⟩) (by have:=dW.o;show gc≠_;omega) (.string (bs t5)));replace BW:=Hi (Below.setCell BW.o (p:=⟨gc,3,none⟩) (by have:=dW.o;show _≤gc;omega) (.string (bs t5)));replace HZ:=Hi (show w.heap.size+1+1≤(World.heap (v5.setCell ⟨gc,3,none⟩ (.string (bs t5)))).size by rw [aF];exact HZ.o);replace eb:=Hi (show gc+1≤(World.heap (v5.setCell ⟨gc,3,none⟩ (.string (bs t5)))).size by rw [aF];exact eb.o);refine (lI (w+1) r5 b5 _ (by omega) HS.o).mono ?_;rintro e v6 ⟨rfl,hs,hg⟩;rw [H6.o] at hs ⊢;simp only [] at hs ⊢;clear HS;have HS:=Hi hs;clear hs;replace ZB:=Hi (ZB.o.grown hg (by omega));replace CB:=Hi (CB.o.grown hg (fun e=>by have:=dW.o;omega));replace HZ:=Hi (Nt HZ.o hg.size);replace eb:=Hi (Nt eb.o hg.size);replace BW:=Hi (Below.grown BW.o hg BW.o.size (fun k hk=>by injection hk with hk;omega));clear hg;have hq:v6.cell? ⟨gc,4,none⟩=some (.string (bs [])):=ah CB.o 4 rfl;have mX:v6.frozen? ⟨gc,4,none⟩=false:=CB.o.frozen 4;go_wp2_with fail;clear hq mX;replace CB:=Hi (show bf (v6.setCell ⟨gc,4,none⟩ (.string (bs t6))) gc 28 #[(n1:Int),(n2:Int),(n3:Int),t5,t6,cS,(n4:Int),cL] from cI CB.o 4 (.string (bs t6)));replace HS:=Hi (bq.of (bf.bK HS.o.qo (a:=⟨gc,4,none⟩) (by have:=dW.o;show gc≠_;omega) (.string (bs t6))));replace ZB:=Hi (bf.bK ZB.o (a:=⟨gc,4,none⟩) (by have:=dW.o;show gc≠_;omega) (.string (bs t6)));replace BW:=Hi (Below.setCell BW.o (p:=⟨gc,4,none⟩) (by have:=dW.o;show _≤gc;omega) (.string (bs t6)));replace HZ:=Hi (show w.heap.size+1+1≤(World.heap (v6.setCell ⟨gc,4,none⟩ (.string (bs t6)))).size by rw [aF];exact HZ.o);replace eb:=Hi (show gc+1≤(World.heap (v6.setCell ⟨gc,4,none⟩ (.string (bs t6)))).size by rw [aF];exact eb.o);refine (lI (w+1) r6 b6 _ (by omega) HS.o).mono ?_;rintro e v7 ⟨rfl,hs,hg⟩;rw [H7.o] at hs ⊢;simp only [] at hs ⊢;clear HS;have HS:=Hi hs;clear hs;replace ZB:=Hi (ZB.o.grown hg (by omega));replace CB:=Hi (CB.o.grown hg (fun e=>by have:=dW.o;omega));replace HZ:=Hi (Nt HZ.o hg.size);replace eb:=Hi (Nt eb.o hg.size);replace BW:=Hi (Below.grown BW.o hg BW.o.size (fun k hk=>by injection hk with hk;omega));clear hg;have hq:v7.cell? ⟨gc,5,none⟩=some (.string (bs [])):=ah CB.o 5 rfl;have mX:v7.frozen? ⟨gc,5,none⟩=false:=CB.o.frozen 5;go_wp2_with fail;clear hq mX;replace CB:=Hi (show bf (v7.setCell ⟨gc,5,none⟩ (.string (bs t7))) gc 28 #[(n1:Int),(n2:Int),(n3:Int),t5,t6,t7,(n4:Int),cL] from cI CB.o 5 (.string (bs t7)));replace HS:=Hi (bq.of (bf.bK HS.o.qo (a:=⟨gc,5,none⟩) (by have:=dW.o;show gc≠_;omega) (.string (bs t7))));replace ZB:=Hi (bf.bK ZB.o (a:=⟨gc,5,none⟩) (by have:=dW.o;show gc≠_;omega) (.string (bs t7)));replace BW:=Hi (Below.setCell BW.o (p:=⟨gc,5,none⟩) (by have:=dW.o;show _≤gc;omega) (.string (bs t7)));replace HZ:=Hi (show w.heap.size+1+1≤(World.heap (v7.setCell ⟨gc,5,none⟩ (.string (bs t7)))).size by rw [aF];exact HZ.o);replace eb:=Hi (show gc+1≤(World.heap (v7.setCell ⟨gc,5,none⟩ (.string (bs t7)))).size by rw [aF];exact eb.o);refine (dh (w+1) r7 b7 _ (by omega) HS.o).mono ?_;rintro e v8 ⟨rfl,hs,hg⟩;rw [H8.o] at hs ⊢;simp only [] at hs ⊢;clear HS;have HS:=Hi hs;clear hs;replace ZB:=Hi (ZB.o.grown hg (by omega));replace CB:=Hi (CB.o.grown hg (fun e=>by have:=dW.o;omega));replace HZ:=Hi (Nt HZ.o hg.size);replace eb:=Hi (Nt eb.o hg.size);replace BW:=Hi (Below.grown BW.o hg BW.o.size (fun k hk=>by injection hk with hk;omega));clear hg nW;go_wp2;go_loopw [7,8] (fun ii _ wr=>∃(j:Nat) (acc:List (List UInt8)) (rj:List UInt8) (bj:Bool) (Aj:Option Addr) (kj:Nat),j≤N∧ii = .int .i64 (j:Int)∧acc.length=j∧rj.length≤1048576∧acc++(iV (N-j) rj bj).1=Qj∧(iV (N-j) rj bj).2=(r9,b9)∧bq wr (w+1) rj bj∧bf wr w 28 zC∧bf wr gc 28 #[(n1:Int),(n2:Int),(n3:Int),t5,t6,t7,(n4:Int),.slice Aj j kj]∧wr.ownsRow (gc+1) 9 1 (.slice Aj j kj) j (acc.map iK)∧Below w w wr∧gc+1≤wr.heap.size) (fun ii _ _=>N-(intOf ii).toNat);case atStart=>exact ⟨0,[],r8,b8,none,0,Nat.zero_le _,rfl,rfl,WV,by rw [Nat.sub_zero,H9.o];rfl,by rw [Nat.sub_zero,H9.o],HS.o,ZB.o,CB.o,⟨by simp,.inl ⟨rfl,rfl⟩⟩,BW.o,eb.o⟩
 case round=>
  obtain ⟨j,acc,rj,bj,Aj,kj,hj,rfl,ES,Hb,lJ,mB,Qn,eJ,xp,bg,jD,kP⟩:=hrel;clear HS ZB CB BW HZ eb;have HS:=Hi Qn;clear Qn;have ZB:=Hi eJ;clear eJ;have CB:=Hi xp;clear xp;have HO:=Hi bg;clear bg;have BW:=Hi jD;clear jD;have eb:=Hi kP;clear kP;have Kh:=Hi ES;clear ES;have Ki:=Hi lJ;clear lJ;have Ce:=Hi mB;clear mB;by_cases dS:j<N
  ·have ZU:N=n8:=Kg (by omega);have iQ:(j:Int)<(n8:Int):=by omega
   have zt:(n8:Int)≤4:=by omega
   obtain ⟨tc,rc,bc,hc⟩:∃a b c,dn rj bj 8=(a,b,c):=⟨_,_,_,rfl⟩;have lc:=(mL rj bj 8).1;rw [hc] at lc;simp only [] at lc;have bZ:rc.length≤1048576:=by omega
   clear lc;have lJ:=Ki.o;have mB:=Ce.o;rw [show N-j=(N-(j+1))+1 by omega,iV,hc] at lJ mB;simp only [] at lJ mB;have MW:=Hi (show (acc++[tc])++(iV (N-(j+1)) rc bc).1=Qj by rw [←lJ,append_assoc];rfl);have MX:=Hi mB;clear lJ mB Ki Ce;have HC:=Hi hc;clear hc;go_wp2_with fail;refine (pn (w+1) rj bj 8 _ (by omega) HS.o).mono ?_;rintro e v2 ⟨rfl,hs,hg⟩;rw [HC.o] at hs ⊢;simp only [] at hs ⊢;clear HS;have HS:=Hi hs;clear hs;replace ZB:=Hi (ZB.o.grown hg (by omega));replace CB:=Hi (CB.o.grown hg (fun e=>by have:=dW.o;omega));replace HO:=Hi (HO.o.kept hg (.inr (fun e=>by have:=(HO.o.lt _ e).1;have:=dW.o;omega)));replace eb:=Hi (Nt eb.o hg.size);replace BW:=Hi (Below.grown BW.o hg BW.o.size (fun k hk=>by injection hk with hk;omega));clear hg;have hq:v2.cell? ⟨gc,7,none⟩=some (.slice Aj j kj):=ah CB.o 7 rfl;go_wp2_with (at_builtin;go_must (refine aB xX _ rfl _ _ rfl (gc+1) _ j _ rfl (HO.o.alloc _) _ _ _ _ rfl (Reads.new rfl) (xA rfl) (by omega) (Nt eb.o (by simp)) ?_;intro vv w3 cj eY fY;obtain ⟨Av,kv,rfl,_⟩:=eD.bd cj;have lB:∀k,(Value.slice Aj j kj).ownBlock=some k→gc<k:=(fun k hk=>by have:=(HO.o.lt k hk).1;omega);have oN:=bf.bL (CB.o.alloc (.cells #[tc] 9)) (eY.block _ (CB.o.alloc _).lt (fun e=>by have:=lB _ e.symm;omega));have Ot:w3.cell? ⟨gc,7,none⟩=some (.slice Aj j kj):=ah oN 7 rfl;have FC:w3.frozen? ⟨gc,7,none⟩=false:=oN.frozen 7;have Dh:=Hi oN;have lE:=Hi cj;have tk:=Hi eY;have oO:=Hi lB;have Kj:=Hi fY;clear oN cj eY lB fY));have Ul:v2.heap.size+1≤w3.heap.size:=Nt (by simp) tk.o.size;have MY:∀k,(Value.slice Av (j+1) kv).ownBlock=some k→gc<k:=fun k hk=>by
    rcases Kj.o with h|h
    ·exact oO.o k (h.symm.trans hk)
    ·have e:=hk.symm.trans h;injection e with e;have:=eb.o;simp at e;omega
   have MZ:bq w3 (w+1) rc bc:=bq.of (bf.bL (HS.o.qo.alloc (.cells #[tc] 9)) (tk.o.block _ (HS.o.qo.alloc _).lt (fun e=>by have:=oO.o _ e.symm;have:=dW.o;omega)));have Di:=bf.bL (ZB.o.alloc (.cells #[tc] 9)) (tk.o.block _ (ZB.o.alloc _).lt (fun e=>by have:=oO.o _ e.symm;have:=dW.o;omega));have Dk:Below w w w3:=Below.grown (BW.o.alloc BW.o.size _) tk.o (Nt BW.o.size (by simp)) (fun k hk=>by have:=oO.o k hk;have:=dW.o;omega);have wO:(w3.setCell ⟨gc,7,none⟩ (.slice Av (j+1) kv)).ownsRow (gc+1) 9 1 (.slice Av (j+1) kv) (j+1) ((acc++[tc]).map iK):=by
    rw [map_append];exact aH lE.o (fun k hk=>⟨(lE.o.lt k hk).1,Below.heap_setCell _ _ _ _ (fun e=>by have:=MY k hk;have e2:k=gc:=e;omega)⟩)
   exact ⟨⟨j+1,acc++[tc],rc,bc,Av,kv,by omega,by go_num,by rw [length_append,Kh.o];rfl,bZ,MW.o,MX.o,bq.of (bf.bK MZ.qo (a:=⟨gc,7,none⟩) (by have:=dW.o;show gc≠_;omega) _),bf.bK Di (a:=⟨gc,7,none⟩) (by have:=dW.o;show gc≠_;omega) _,cI Dh.o 7 _,wO,Below.setCell Dk (p:=⟨gc,7,none⟩) (by have:=dW.o;show _≤gc;omega) _,by rw [aF];have:=eb.o;omega⟩,by simp only [intOf];omega⟩
  ·have Um:j=N:=by omega
   subst Um;have lJ:=Ki.o;have mB:=Ce.o;rw [Nat.sub_self,iV] at lJ mB;simp only [append_nil] at lJ;injection mB with e1 e2;subst e1 e2 lJ;clear Ki Ce dS;have uI:=Lf.o;have pk:World.cell? wr ⟨w+1,1,none⟩=some (.bool bj):=HS.o.c1;rw [←Kh.o] at HO CB;obtain ⟨cc,xq⟩:∃cc:aR,cc=⟨(n1:Int),(n2:Int),(n3:Int),t5,t6,t7,(n4:Int),acc⟩:=⟨_,rfl⟩;have nP:fO wr (gc+1) cc.c [(n1:Int),(n2:Int),(n3:Int),t5,t6,t7,(n4:Int),.slice Aj acc kj]:=by rw [xq];exact fq HO.o
   rw [←xq] at uI;have M0:=og.o;rw [←xq] at M0;have HU:=@CD s;have Ia:=@CE s;rw [uI,←HR.o] at HU Ia;simp only [] at HU Ia;have BI:=Hi (fun W h=>oh cc [(n1:Int),(n2:Int),(n3:Int),t5,t6,t7,(n4:Int),.slice Aj acc kj] W M0 h);obtain ⟨sh,yH⟩:∃sh,sh=bt cc:=⟨_,rfl⟩;rw [←yH] at BI HU Ia;have Kk:=Hi HU;have Kl:=Hi Ia;have iM:=Hi nP;have RS:=Hi xq;clear HU Ia yH uI M0 nP xq Lf og HR;rcases Nat.lt_or_ge 4 n8 with zt|zt
   ·have DJ:=Hy (by omega);have AS:(0:Int)<(n8:Int):=by omega
    have fB:¬(n8:Int)≤4:=by omega
    have ZV:=Hi DJ;have Sk:(j:Int)<(n8:Int):=by omega
    clear DJ Qk Ql Kg Hy hj zt;cases Ib:bj
    case true=>
     subst Ib;have lR:=Kk.o (.inl rfl);subst lR;go_wp2_with ((with_reducible apply Gs 28);refine Fr _ w 28 0 zC [] zC [] _ rfl rfl aN ZB.o rfl rfl rfl (Oc rfl) ?_;intro v9 eJ ei);exact aK rfl ⟨w,0,none⟩ rfl zC _ rfl aN rfl (ag eJ) rfl ⟨_,rfl,eG _ _,Below.grown BW.o ei BW.o.size (fun k hk=>by injection hk with hk;omega)⟩
    case false=>
     subst Ib;have tV:=WW.o rfl;have Un:s.isEmpty=false:=by cases s with|nil=>exact absurd rfl tV|cons _ _=>rfl
     go_wp2_with ((with_reducible apply Gl 28);refine an _ (by first|rfl|kernel_rfl) ⟨gc,0,none⟩ rfl [(n1:Int),(n2:Int),(n3:Int),t5,t6,t7,(n4:Int),.slice Aj acc kj] aN rfl (ag CB.o) ?_);refine (BI.o _ iM.o.rep.any).mono ?_;rintro e v9 ⟨rfl,hb⟩;replace ZB:=Hi (ZB.o.below hb);replace CB:=Hi (CB.o.below hb);replace iM:=Hi (iM.o.below hb);replace eb:=Hi (Nt eb.o hb.size);replace BW:=Hi (Bt BW.o hb);clear hb;have ZW:=Hi (HO.o);clear HO;by_cases hq:sh=s
     ·have lR:=Kl.o tV hq;subst lR;have cW:(sh == s)=true:=by simp [hq]
      clear hq tV;go_wp2_with (first|((with_reducible apply Gl 28);refine an _ (by first|rfl|kernel_rfl) ⟨gc,0,none⟩ rfl [(n1:Int),(n2:Int),(n3:Int),t5,t6,t7,(n4:Int),.slice Aj acc kj] aN rfl (ag CB.o) ?_)|((with_reducible apply Gs 28);refine Fr _ w 28 0 [(n1:Int),(n2:Int),(n3:Int),t5,t6,t7,(n4:Int),.slice Aj acc kj] [] zC [] _ rfl rfl aN ZB.o rfl rfl rfl (Oc rfl) ?_;intro v10 eJ ei)|fail);exact aK rfl ⟨w,0,none⟩ rfl [(n1:Int),(n2:Int),(n3:Int),t5,t6,t7,(n4:Int),.slice Aj acc kj] _ rfl aN rfl (ag eJ) rfl ⟨_,rfl,iM.o.lQ ei (fun e=>by have:=dW.o;omega) (by have:=dW.o;omega),Below.grown BW.o ei BW.o.size (fun k hk=>by injection hk with hk;omega)⟩
     ·have lR:=Kk.o (.inr (.inr hq));subst lR;have cW:(sh == s)=false:=by simpa using hq
      clear hq tV;go_wp2_with ((with_reducible apply Gs 28);refine Fr _ w 28 0 zC [] zC [] _ rfl rfl aN ZB.o rfl rfl rfl (Oc rfl) ?_;intro v9 eJ ei);exact aK rfl ⟨w,0,none⟩ rfl zC _ rfl aN rfl (ag eJ) rfl ⟨_,rfl,eG _ _,Below.grown BW.o ei BW.o.size (fun k hk=>by injection hk with hk;omega)⟩
   ·have DJ:=Kg (by omega);subst DJ;clear Qk Ql Kg Hy hj zt;cases Ib:bj
    case true=>
     subst Ib;have lR:=Kk.o (.inl rfl);subst lR;go_wp2_with ((with_reducible apply Gs 28);refine Fr _ w 28 0 zC [] zC [] _ rfl rfl aN ZB.o rfl rfl rfl (Oc rfl) ?_;intro v9 eJ ei);exact aK rfl ⟨w,0,none⟩ rfl zC _ rfl aN rfl (ag eJ) rfl ⟨_,rfl,eG _ _,Below.grown BW.o ei BW.o.size (fun k hk=>by injection hk with hk;omega)⟩
    case false=>
     subst Ib;have tV:=WW.o rfl;have Un:s.isEmpty=false:=by cases s with|nil=>exact absurd rfl tV|cons _ _=>rfl
     go_wp2_with ((with_reducible apply Gl 28);refine an _ (by first|rfl|kernel_rfl) ⟨gc,0,none⟩ rfl [(n1:Int),(n2:Int),(n3:Int),t5,t6,t7,(n4:Int),.slice Aj acc kj] aN rfl (ag CB.o) ?_);refine (BI.o _ iM.o.rep.any).mono ?_;rintro e v9 ⟨rfl,hb⟩;replace ZB:=Hi (ZB.o.below hb);replace CB:=Hi (CB.o.below hb);replace iM:=Hi (iM.o.below hb);replace eb:=Hi (Nt eb.o hb.size);replace BW:=Hi (Bt BW.o hb);clear hb;have ZW:=Hi (HO.o);clear HO;by_cases hq:sh=s
     ·have lR:=Kl.o tV hq;subst lR;have cW:(sh == s)=true:=by simp [hq]
      clear hq tV;go_wp2_with (first|((with_reducible apply Gl 28);refine an _ (by first|rfl|kernel_rfl) ⟨gc,0,none⟩ rfl [(n1:Int),(n2:Int),(n3:Int),t5,t6,t7,(n4:Int),.slice Aj acc kj] aN rfl (ag CB.o) ?_)|((with_reducible apply Gs 28);refine Fr _ w 28 0 [(n1:Int),(n2:Int),(n3:Int),t5,t6,t7,(n4:Int),.slice Aj acc kj] [] zC [] _ rfl rfl aN ZB.o rfl rfl rfl (Oc rfl) ?_;intro v10 eJ ei)|fail);exact aK rfl ⟨w,0,none⟩ rfl [(n1:Int),(n2:Int),(n3:Int),t5,t6,t7,(n4:Int),.slice Aj acc kj] _ rfl aN rfl (ag eJ) rfl ⟨_,rfl,iM.o.lQ ei (fun e=>by have:=dW.o;omega) (by have:=dW.o;omega),Below.grown BW.o ei BW.o.size (fun k hk=>by injection hk with hk;omega)⟩
     ·have lR:=Kk.o (.inr (.inr hq));subst lR;have cW:(sh == s)=false:=by simpa using hq
      clear hq tV;go_wp2_with ((with_reducible apply Gs 28);refine Fr _ w 28 0 zC [] zC [] _ rfl rfl aN ZB.o rfl rfl rfl (Oc rfl) ?_;intro v9 eJ ei);exact aK rfl ⟨w,0,none⟩ rfl zC _ rfl aN rfl (ag eJ) rfl ⟨_,rfl,eG _ _,Below.grown BW.o ei BW.o.size (fun k hk=>by injection hk with hk;omega)⟩
end Go.Proofs.YtfgliohpdgnmcaaGreat
namespace Go.Proofs.YtfgliohpdgnmcaaGreat
open List (length_drop map_cons map_nil length_cons map_append length_append append_assoc take_succ_eq_append_getElem length_take getElem_mem drop_eq_getElem_cons take_append_drop append_nil take_length flatten_append flatten_cons mem_cons_of_mem length_nil flatten_nil nil_append getElem_of_mem mem_cons not_mem_nil)
theorem B7 (m:aV):(cM (bD m)).2=du m:=by
 by_cases h:du m=true
 ·rw [p7 rfl (vY h),h]
 ·have hs:bD m=[]:=by unfold bD;rw [if_neg h]
  rw [hs];unfold cM;rw [if_neg (fun e=>e.1 rfl)];simpa using h
theorem Dz (m:aV) (h:(cM (bD m)).2=true):jN (cM (bD m)).1 m=true:=by
 rw [B7] at h;rw [p7 rfl (vY h)];simp [jN,cC]
theorem DA (t:List UInt8) (h:(cM t).2=true):bD (cM t).1=t:=by
 unfold cM at h ⊢;split at h
 ·rename_i hc;rw [if_pos hc];exact hc.2
 ·cases h
end Go.Proofs.YtfgliohpdgnmcaaGreat
