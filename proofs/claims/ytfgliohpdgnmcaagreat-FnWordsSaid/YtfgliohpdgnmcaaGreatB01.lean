/- ReadVar (impl and spec) as one plain function. Conditions: a string's length is an int. -/
import Derived.Test.YtfgliohpdgnmcaaGreatB00
set_option linter.unusedVariables false
set_option linter.unusedSimpArgs false
set_option maxRecDepth 100000
set_option maxHeartbeats 8000000
namespace Go.Proofs.YtfgliohpdgnmcaaGreat
open Go.RowKit
open List (length_drop length_cons length_append cons_append take_succ_eq_append_getElem length_take getElem_mem drop_eq_getElem_cons)
def rF:List UInt8→Nat
 |[]=>0
 |b::l=>b.toNat%128+128*rF l
theorem vF:∀l:List UInt8,rF l<128 ^ l.length
 |[]=>by simp [rF]
 |b::l=>by
  have:=vF l;rw [rF,length_cons,Nat.pow_succ];omega
theorem At:∀(l:List UInt8) (b:UInt8),rF (l++[b])=rF l+b.toNat%128*128 ^ l.length
 |[],b=>by simp [rF]
 |c::l,b=>by
  rw [cons_append,rF,rF,At l b,length_cons,Nat.pow_succ];have e:b.toNat%128*(128 ^ l.length*128)=128*(b.toNat%128*128 ^ l.length):=by
   rw [←Nat.mul_assoc,Nat.mul_comm]
  rw [e];omega
theorem Gv (l:List UInt8) (i:Nat) (h:i<l.length):rF (l.take (i+1))=rF (l.take i)+l[i].toNat%128*128 ^ i:=by
 rw [take_succ_eq_append_getElem h,At,length_take,Nat.min_eq_left (by omega)]
def nE (l:List UInt8) (k:Nat):Bool:=decide (ba (rF (l.take k))=l.take k)
def fR (l:List UInt8):Nat→Nat→Nat × Nat
 |0,_=>(0,0)
 |f+1,k=>if k≤l.length then (if nE l k then (rF (l.take k),k) else fR l f (k+1)) else (0,0)
def bJ (l:List UInt8):Nat × Nat:=fR l 7 1
def Cn (l:List UInt8):Prop:=∃xs b,l=xs++[b]∧(∀c∈xs,128≤c.toNat)∧b.toNat<128
theorem qR (n:Nat):Cn (kZ n):=by
 induction n using Nat.strongRecOn with
 |_ n ih=>
  by_cases h:n<128
  ·rw [pU h];exact ⟨[],_,rfl,by simp,by rw [UInt8.toNat_ofNat'];omega⟩
  ·rw [rV h];obtain ⟨xs,b,he,h1,h2⟩:=ih (n/128) (by omega);refine ⟨UInt8.ofNat (128+n%128)::xs,b,by rw [he];rfl,?_,h2⟩;intro c hc;rcases List.mem_cons.1 hc with rfl|hc
   ·rw [UInt8.toNat_ofNat'];omega
   ·exact h1 c hc
theorem pg {l:List UInt8} {k:Nat} (hk:1≤k) (hl:k≤l.length) (h:nE l k=true):Cn (l.take k):=by
 have he:ba (rF (l.take k))=l.take k:=of_decide_eq_true h;unfold ba at he;split at he
 ·rw [←he];exact qR _
 ·have:(l.take k).length=0:=by rw [←he];rfl
  rw [length_take] at this;omega
theorem vG {l:List UInt8} {k j:Nat} (hl:k≤l.length) (h:Cn (l.take k)) (hj:j<k):(l[j]'(by omega)).toNat<128↔j+1=k:=by
 obtain ⟨xs,b,he,h1,h2⟩:=h;have hlen:xs.length+1=k:=by
  have:=congrArg List.length he;simp only [length_take,length_append,List.length_singleton] at this;omega
 have Co:(xs++[b])[j]?=some (l[j]'(by omega)):=by
  rw [←he,List.getElem?_take_of_lt hj,List.getElem?_eq_getElem (by omega)]
 by_cases fg:j<xs.length
 ·rw [List.getElem?_append_left fg,List.getElem?_eq_getElem fg] at Co;injection Co with Co;have:=h1 xs[j] (getElem_mem _);rw [←Co];constructor
  ·intro h;omega
  ·intro h;omega
 ·have tx:j=xs.length:=by omega
  subst tx;rw [List.getElem?_append_right Nr] at Co;simp at Co;rw [←Co];constructor
  ·intro _;omega
  ·intro _;exact h2
theorem ud {l:List UInt8}:∀(f k:Nat),1≤k→(∃(j:Nat) (h:j<l.length),j+1<k∧l[j].toNat<128)→fR l f k=(0,0)
 |0,_,_,_=>rfl
 |f+1,k,hk,hx=>by
  obtain ⟨j,hj,L8,tz⟩:=hx;rw [fR];split
  ·rename_i zV;rw [if_neg (fun hh=>?_)]
   ·exact ud f (k+1) (by omega) ⟨j,hj,by omega,tz⟩
   ·have:=(vG zV (pg hk zV hh) (show j<k by omega)).1 tz;omega
  ·rfl
theorem yV {l:List UInt8} (i:Nat) (hi:i<7) (h:∀(j:Nat) (hj:j<l.length),j<i→128≤l[j].toNat) (Ma:i≤l.length):bJ l=fR l (7-i) (i+1):=by
 induction i with
 |zero=>rfl
 |succ i ih=>
  rw [ih (by omega) (fun j hj oY=>h j hj (by omega)) (by omega)];rw [show 7-i=(7-(i+1))+1 by omega,fR,if_pos (by omega),if_neg];intro hh;have:=(vG (by omega) (pg (by omega) (by omega) hh) (show i<i+1 by omega)).2 rfl;have:=h i (by omega) (by omega);omega
theorem Gw {l:List UInt8} (i:Nat) (hi:i≤7) (h:∀(j:Nat) (hj:j<l.length),j<i→128≤l[j].toNat) (Ma:i=l.length∨i=7) (Yn:i≤l.length):bJ l=(0,0):=by
 by_cases h7:i=7
 ·subst h7;rw [yV 6 (by omega) (fun j hj oY=>h j hj (by omega)) (by omega),fR,if_pos (by omega),if_neg]
  ·rfl
  ·intro hh;have:=(vG (by omega) (pg (by omega) (by omega) hh) (show 6<7 by omega)).2 rfl;have:=h 6 (by omega) (by omega);omega
 ·rw [yV i (by omega) h (by omega),show 7-i=(6-i)+1 by omega,fR,if_neg (by omega)]
theorem Gx {l:List UInt8} (i:Nat) (hi:i<7) (Ma:i<l.length) (h:∀(j:Nat) (hj:j<l.length),j<i→128≤l[j].toNat) (tz:l[i].toNat<128) :
 bJ l=if nE l (i+1) then (rF (l.take (i+1)),i+1) else (0,0):=by
 rw [yV i hi h (by omega),show 7-i=(6-i)+1 by omega,fR,if_pos (by omega)];split
 ·rfl
 ·exact ud _ _ (by omega) ⟨i,Ma,by omega,tz⟩
theorem jn (l:List UInt8):(bJ l).2≤7∧(bJ l).2≤l.length∧(bJ l).1≤562949953421311:=by
 have:∀f k,f+k≤8→(fR l f k).2≤7∧(fR l f k).2≤l.length∧(fR l f k).1≤562949953421311:=by
  intro f;induction f with
  |zero=>intro k _;exact ⟨by simp [fR],by simp [fR],by simp [fR]⟩
  |succ f ih=>
   intro k hk;rw [fR];split
   ·split
    ·have h1:=vF (l.take k);have h2:128 ^ (l.take k).length≤128 ^ 7:=Nat.pow_le_pow_right (by omega) (by rw [length_take];omega);have h3:(128:Nat) ^ 7=562949953421312:=by decide
     exact ⟨by show k≤7;omega,by assumption,by show rF _≤_;omega⟩
    ·exact ih (k+1) (by omega)
   ·exact ⟨by simp,by simp,by simp⟩
 exact this 7 1 (by omega)
theorem ET (b:Nat) (hb:b<256):bits .and .u8 (b:Int) 127=((b%128:Nat):Int):=by
 show IntKind.u8.wrap ((BitVec.ofInt 8 (b:Int) &&& BitVec.ofInt 8 127).toNat:Int)=_;have e1:(BitVec.ofInt 8 (b:Int)).toNat=b:=by rw [BitVec.ofInt_natCast,BitVec.toNat_ofNat];exact Nat.mod_eq_of_lt (by omega)
 have e2:(BitVec.ofInt 8 (127:Int)).toNat=127:=rfl;rw [BitVec.toNat_and,e1,e2,Nat.and_two_pow_sub_one_eq_mod b 7,IntKind.wrap_u8];omega
theorem yW (k:Nat):(2:Nat) ^ (7*k)=128 ^ k:=by rw [Nat.pow_mul]
theorem Jo (q b k:Nat) (hq:q<128 ^ k) (hb:b<256) (hk:k<7) :
 bits .or .i64 (q:Int) (wrap64 (wrap64 (bits .and .u8 (b:Int) 127)*2 ^ (7*k)))=((q+b%128*128 ^ k:Nat):Int):=by
 have h3:128 ^ k≤128 ^ 6:=Nat.pow_le_pow_right (by omega) (by omega);have h4:(128:Nat) ^ 6=4398046511104:=by decide
 have h5:b%128*128 ^ k≤127*4398046511104:=Nat.mul_le_mul (by omega) (by omega);have hp:(2:Int) ^ (7*k)=((128 ^ k:Nat):Int):=by
  rw [←yW,Int.natCast_pow];rfl
 rw [ET b hb,IntWalk.wrap64_in ((b%128:Nat):Int) (by omega),hp,←Int.natCast_mul,IntWalk.wrap64_in _ (by omega)];rw [dZ q _ (by omega) (by omega)];congr 1;have h1:=Nat.two_pow_add_eq_or_of_lt (i:=7*k) (b:=q) (by rw [yW];exact hq) (b%128);rw [yW,Nat.mul_comm (128 ^ k)] at h1;rw [Nat.or_comm,←h1,Nat.add_comm]
theorem nY (l:List UInt8) (w:World) (yS:(l.length:Int)≤9223372036854775807) :
 Calls Tryz.prog 61 #[l] w fun e w'=>e = .returned (.tuple #[.int .i64 ((bJ l).1:Int),.int .i64 ((bJ l).2:Int)])∧Below w w w':=by
 go_enter Tryz.func61,Tryz.ntmps61;go_wp2
 go_loop [4,5] (fun n i=>∃(k q:Nat),k≤l.length∧k≤7∧i = .int .i64 (k:Int)∧q≤562949953421311∧q=rF (l.take k)∧n = .int .i64 (q:Int)∧(∀(j:Nat) (hj:j<l.length),j<k→128≤l[j].toNat)) (fun _ i=>7-(intOf i).toNat)
 case atStart=>exact ⟨0,0,Nat.zero_le _,by omega,rfl,by omega,rfl,rfl,fun j _ hj=>by omega⟩
 case round=>
  obtain ⟨k,q,hk,Cp,rfl,hq,Au,rfl,ue⟩:=hrel;by_cases dS:k<l.length∧k<7
  ·obtain ⟨xC,ti⟩:=dS;have hb:l[k].toNat<256:=l[k].toNat_lt;have KH:q<128 ^ k:=by
    rw [Au];have:=vF (l.take k);rw [length_take,Nat.min_eq_left hk] at this;exact this
   have ph:=Jo q l[k].toNat k KH hb ti;have nF:=Gv l k xC;rw [←Au] at nF;rw [←nF] at ph;have OY:=vF (l.take (k+1));rw [length_take,Nat.min_eq_left (by omega)] at OY;have Yo:128 ^ (k+1)≤128 ^ 7:=Nat.pow_le_pow_right (by omega) (by omega);have Ta:(128:Nat) ^ 7=562949953421312:=by decide
   have FV:rF (l.take (k+1))≤562949953421311:=by omega
   clear nF OY Yo Ta KH;have H1:=Hi Au;clear Au;have H3:=Hi ph;clear ph;by_cases tz:l[k].toNat<128
   ·have lH:=Gx k ti xC ue tz;have H2:=Hi ue;clear ue;have H4:=Hi lH;clear lH;have tA:nE l (k+1)=(ba (rF (l.take (k+1)):Int) == l.take (k+1)):=by
     rw [Bool.eq_iff_iff];simp [nE]
    generalize hm:rF (l.take (k+1))=m at *;clear hm;have dd:(0:Int)≤(k:Int)+1∧(k:Int)+1≤(l.length:Int):=by omega
    by_cases hx:nE l (k+1)=true
    ·rw [hx] at tA;have dY:bJ l=(m,k+1):=by rw [H4.o,if_pos hx]
     have H5:=Hi dY;clear dY;have KI:=tA.symm;clear tA hx;go_wp2_with fail;rw [H3.o];refine ax 7 [0,2,3,4,5,1,6] (by kernel_rfl) (by kernel_rfl) ?_;iterate 5 (refine ae rfl (by kernel_rfl) rfl ?_;go_wp2;refine ⟨rfl,?_⟩)
     refine aA rfl (by kernel_rfl) ?_;go_wp2_with (go_at_call 19;refine (eP _ _).mono ?_;rintro e w1 ⟨rfl,cW⟩;have B1:=Hi cW;clear cW);refine ⟨Ext.aJ B1.o,?_⟩;refine ae rfl (by kernel_rfl) rfl ?_;go_wp2;refine ⟨rfl,?_⟩;refine aO ?_;simp only [eo,ep];go_wp2
     go_ret2
     exact ⟨au (by rw [H5.o];first|rfl|simp),Br.drew.trans B1.o⟩
    ·have OZ:nE l (k+1)=false:=by simpa using hx
     rw [OZ] at tA;have dY:bJ l=(0,0):=by rw [H4.o,if_neg hx]
     have H5:=Hi dY;clear dY;have KI:=tA.symm;clear tA hx OZ;go_wp2_with fail;rw [H3.o];refine ax 7 [0,2,3,4,5,1,6] (by kernel_rfl) (by kernel_rfl) ?_;iterate 5 (refine ae rfl (by kernel_rfl) rfl ?_;go_wp2;refine ⟨rfl,?_⟩)
     refine aA rfl (by kernel_rfl) ?_;go_wp2_with (go_at_call 19;refine (eP _ _).mono ?_;rintro e w1 ⟨rfl,cW⟩;have B1:=Hi cW;clear cW);refine ⟨Ext.aJ B1.o,?_⟩;refine ae rfl (by kernel_rfl) rfl ?_;go_wp2;refine ⟨rfl,?_⟩;refine aO ?_;simp only [eo,ep];go_wp2
     go_ret2
     exact ⟨au (by rw [H5.o];first|rfl|simp),Br.drew.trans B1.o⟩
   ·have H2:=Hi ue;clear ue;generalize hm:rF (l.take (k+1))=m at *;have Hm:=Hi hm;clear hm;go_wp2_with fail;refine ⟨⟨k+1,m,by omega,by omega,by go_num,FV,Hm.o.symm,by rw [←H3.o],?_⟩,by simp only [intOf];omega⟩;intro j hj L8;rcases Nat.lt_or_ge j k with h|h
    ·exact H2.o j hj h
    ·have:j=k:=by omega
     subst this;omega
  ·have lH:bJ l=(0,0):=Gw k Cp ue (by omega) hk;have H1:=Hi Au;clear Au;have H2:=Hi ue;clear ue;have H5:=Hi lH;clear lH;by_cases xC:k<l.length
   ·have Yp:(7:Int)≤(k:Int):=by omega
    clear dS;go_wp2
    go_ret2
    exact ⟨au (by rw [H5.o];first|rfl|simp),Below.refl _ _⟩
   ·clear dS;go_wp2
    go_ret2
    exact ⟨au (by rw [H5.o];first|rfl|simp),Below.refl _ _⟩
theorem Gy (l:List UInt8) (k j:Nat) (hk:k≤l.length) (hj:j<k):rF ((l.take k).drop j)=(l[j]'(by omega)).toNat%128+128*rF ((l.take k).drop (j+1)):=by
 rw [drop_eq_getElem_cons (by rw [length_take];omega),rF];simp
theorem Aw (l:List UInt8) (k j:Nat) (hk:k≤7):rF ((l.take k).drop j)≤562949953421311:=by
 have h1:=vF ((l.take k).drop j);have h2:128 ^ ((l.take k).drop j).length≤128 ^ 7:=Nat.pow_le_pow_right (by omega) (by rw [length_drop,length_take];omega);have h3:(128:Nat) ^ 7=562949953421312:=by decide
 omega
theorem rX (l:List UInt8) (w:World) (yS:(l.length:Int)≤9223372036854775807) :
 Calls Tryz.prog 64 #[l] w fun e w'=>e = .returned (.tuple #[.int .i64 ((bJ l).1:Int),.int .i64 ((bJ l).2:Int)])∧Below w w w':=by
 go_enter Tryz.func64,Tryz.ntmps64;go_wp2;go_loopw [4] (fun kk wr=>∃(k:Nat),1≤k∧k≤8∧kk = .int .i64 (k:Int)∧bJ l=fR l (8-k) k∧Below w w wr) (fun kk _=>8-(intOf kk).toNat);case atStart=>exact ⟨1,by omega,by omega,rfl,rfl,Below.refl _ _⟩
 case round=>
  obtain ⟨k,DI,RE,rfl,lH,bE⟩:=hrel;obtain ⟨wo,rfl⟩:∃wo:World,wo=wr:=⟨_,rfl⟩;have B0:=Hi bE;clear bE;by_cases Cp:k≤7
  ·by_cases zV:k≤l.length
   ·rw [show 8-k=(7-k)+1 by omega,fR,if_pos zV] at lH;have H1:=Hi lH;clear lH;go_wp2
    go_loop [5,6] (fun n i=>∃(j q:Nat),j≤k∧i = .int .i64 ((j:Int)-1)∧q≤562949953421311∧q=rF ((l.take k).drop j)∧n = .int .i64 (q:Int)) (fun _ i=>(intOf i+1).toNat)
    case atStart=>exact ⟨k,0,Nat.le_refl _,rfl,by omega,by rw [List.drop_of_length_le (by rw [length_take];omega)];rfl,rfl⟩
    case round=>
     obtain ⟨j,q,hj,rfl,hq,Au,rfl⟩:=hrel;rcases Nat.eq_zero_or_pos j with rfl|DJ
     ·rw [List.drop_zero] at Au;have tA:nE l k=(ba (q:Int) == l.take k):=by
       rw [Au,Bool.eq_iff_iff];simp [nE]
      rw [←Au] at H1;have H2:=Hi Au;clear Au;have dd:(0:Int)≤(k:Int)∧(k:Int)≤(l.length:Int):=by omega
      by_cases hx:nE l k=true
      ·have dY:bJ l=(q,k):=by rw [H1.o,if_pos hx]
       have H5:=Hi dY;clear dY;rw [hx] at tA;have KI:=tA.symm;clear tA hx;go_wp2_with fail;refine ax 6 [0,2,3,4,1,5] (by kernel_rfl) (by kernel_rfl) ?_;iterate 4 (refine ae rfl (by kernel_rfl) rfl ?_;go_wp2;refine ⟨rfl,?_⟩)
       refine aA rfl (by kernel_rfl) ?_;go_wp2_with (go_at_call 33;refine (cH _ _).mono ?_;rintro e w1 ⟨rfl,cW⟩;have B1:=Hi cW;clear cW);refine ⟨Ext.aJ B1.o,?_⟩;refine ae rfl (by kernel_rfl) rfl ?_;go_wp2;refine ⟨rfl,?_⟩;refine aO ?_;simp only [eo,ep];go_wp2
       go_ret2
       exact ⟨au (by rw [H5.o];first|rfl|simp),B0.o.drew.trans (B1.o.mono B0.o.size)⟩
      ·have dY:bJ l=fR l (8-(k+1)) (k+1):=by rw [H1.o,if_neg hx,show 7-k=8-(k+1) by omega]
       have OZ:nE l k=false:=by simpa using hx
       have H5:=Hi dY;clear dY;rw [OZ] at tA;have KI:=tA.symm;clear tA hx OZ;go_wp2_with fail;refine ax 6 [0,2,3,4,1,5] (by kernel_rfl) (by kernel_rfl) ?_;iterate 4 (refine ae rfl (by kernel_rfl) rfl ?_;go_wp2;refine ⟨rfl,?_⟩)
       refine aA rfl (by kernel_rfl) ?_;go_wp2_with (go_at_call 33;refine (cH _ _).mono ?_;rintro e w1 ⟨rfl,cW⟩;have B1:=Hi cW;clear cW);refine ⟨Ext.aJ B1.o,?_⟩;refine ae rfl (by kernel_rfl) rfl ?_;go_wp2;refine ⟨rfl,?_⟩;refine aO ?_;simp only [eo,ep];go_wp2;exact ⟨⟨k+1,by omega,by omega,by go_num,H5.o,B0.o.drew.trans (B1.o.mono B0.o.size)⟩,by simp only [intOf];omega⟩
     ·obtain ⟨m,rfl⟩:∃m,j=m+1:=⟨j-1,by omega⟩;have NT:m<l.length:=by omega
      have hb:l[m].toNat<256:=l[m].toNat_lt;have hd:=Gy l k m zV (by omega);have o6:=Aw l k m Cp;rw [←Au] at hd;generalize hP:rF ((l.take k).drop m)=P at *;have HP:=Hi hP;clear hP;have H2:=Hi Au;clear Au;have VY:P=q*128+l[m].toNat%128:=by omega
      have hPb:q*128+l[m].toNat%128≤562949953421311:=by omega
      have H3:=Hi VY;clear VY hd o6;go_wp2;exact ⟨⟨m,P,by omega,rfl,by rw [H3.o];omega,HP.o.symm,by rw [H3.o];go_num⟩,by simp only [intOf];omega⟩
   ·have dY:bJ l=(0,0):=by rw [lH,show 8-k=(7-k)+1 by omega,fR,if_neg zV]
    have H5:=Hi dY;clear dY lH;go_wp2
    go_ret2
    exact ⟨au (by rw [H5.o];first|rfl|simp),B0.o⟩
  ·have hk:k=8:=by omega
   subst hk;have dY:bJ l=(0,0):=lH;have H5:=Hi dY;clear dY lH;go_wp2
   go_ret2
   exact ⟨au (by rw [H5.o];first|rfl|simp),B0.o⟩
end Go.Proofs.YtfgliohpdgnmcaaGreat
