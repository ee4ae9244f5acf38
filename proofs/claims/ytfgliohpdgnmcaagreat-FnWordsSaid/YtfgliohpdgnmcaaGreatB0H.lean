/- One block of SHA-256 in the reference as the plain function blkV. Conditions: a block of 64 bytes, words below 2^32, the two slices hold the state and the constants. -/
import Derived.Test.YtfgliohpdgnmcaaGreatB03
set_option linter.unusedVariables false
set_option linter.unusedSimpArgs false
set_option maxRecDepth 100000
set_option maxHeartbeats 8000000
namespace Go.Proofs.YtfgliohpdgnmcaaGreat
open Go.RowKit
open List (take_of_length_le map_cons map_append append_assoc nil_append length_map)
def ia (n:Nat):Value:= .int .i64 (n:Int)
theorem Dc (b:UInt8) (k m:Nat) (M:Int) (hM:M=(m:Int)) (h:b.toNat <<< k=b.toNat*m) (hm:m≤16777216):wrap64 (wrap64 (b.toNat:Int)*M)=((b.toNat <<< k:Nat):Int):=by
 have hb:=b.toNat_lt;rw [h,hM];have h1:b.toNat*m≤255*16777216:=Nat.mul_le_mul (by omega) hm;rw [IntWalk.wrap64_in (b.toNat:Int) (by omega),←Int.natCast_mul];exact IntWalk.wrap64_in _ (by omega)
theorem Ka (a b c d:UInt8):bits .or .i64 (bits .or .i64 (bits .or .i64 (wrap64 (wrap64 (a.toNat:Int)*16777216)) (wrap64 (wrap64 (b.toNat:Int)*65536))) (wrap64 (wrap64 (c.toNat:Int)*256))) (wrap64 (d.toNat:Int))=((a.toNat <<< 24 ||| b.toNat <<< 16 ||| c.toNat <<< 8 ||| d.toNat:Nat):Int):=by
 have l1:=nT a 24 (by omega);have l2:=nT b 16 (by omega);have l3:=nT c 8 (by omega);have l4:d.toNat<4294967296:=by have:=d.toNat_lt;omega
 have N8:=Nat.or_lt_two_pow (n:=32) l1 l2;have ZA:=Nat.or_lt_two_pow (n:=32) N8 l3;rw [Dc a 24 16777216 16777216 rfl (Nat.shiftLeft_eq _ _) (by omega),Dc b 16 65536 65536 rfl (Nat.shiftLeft_eq _ _) (by omega),Dc c 8 256 256 rfl (Nat.shiftLeft_eq _ _) (by omega),IntWalk.wrap64_in (d.toNat:Int) (by omega)];rw [dZ _ _ (by omega) (by omega),dZ _ _ (by omega) (by omega),dZ _ _ (by omega) (by omega)]
theorem BE (b:List UInt8) (k x:Nat) (hk:k<64) (hx:x=zp b k (sW b k)):((qx b k).map ia).set k (.int .i64 (x:Int))=(qx b (k+1)).map ia:=by
 rw [qx,show 64-k=(64-(k+1))+1 by omega,List.replicate_succ,map_append,List.set_append_right _ _ (by rw [length_map,mw];exact Nat.le_refl _),length_map,mw,Nat.sub_self,map_cons,List.set_cons_zero,qx,sW,append_assoc,map_append,hx];rfl
theorem pO (b:List UInt8) (k j:Nat) (hj:j<k) (hk:k≤64):((qx b k).map ia)[j]?=some (.int .i64 (((sW b k).getD j 0:Nat):Int)):=by
 have hl:j<(sW b k).length:=by rw [mw];exact hj
 rw [qx,map_append,List.getElem?_append_left (by rw [length_map];exact hl),List.getElem?_map,List.getElem?_eq_getElem hl];simp only [Option.map_some,List.getD_eq_getElem?_getD,List.getElem?_eq_getElem hl,Option.getD_some,ia]
theorem yG (l:List Nat) (j:Nat) (hj:j<l.length):∃v:Nat,(l.map ia)[j]?=some (.int .i64 (v:Int)):=
 ⟨l[j],by rw [List.getElem?_map,List.getElem?_eq_getElem hj];rfl⟩
theorem vo (n:Int) (x:Nat) (w:World) (hn:n=(x:Int)) (hx:x<9223372036854775808) :
 Calls Tryz.prog 112 #[n] w fun e w'=>e = .returned (.int .i64 ((x%4294967296:Nat):Int))∧w=w':=by
 rw [hn];exact MT x w hx
theorem Dd (x:Nat) (hx:x<18446744073709551616):18446744073709551615 ^^^ x=18446744073709551615-x:=by
 apply Nat.eq_of_testBit_eq;intro i;rw [Nat.testBit_xor,show 18446744073709551615-x=2 ^ 64-(x+1) by omega,Nat.testBit_two_pow_sub_succ (by omega),show (18446744073709551615:Nat)=2 ^ 64-1 from rfl,Nat.testBit_two_pow_sub_one];by_cases hi:i<64
 ·simp [hi]
 ·have:x.testBit i=false:=Nat.testBit_lt_two_pow (Nat.lt_of_lt_of_le hx (show 2 ^ 64≤2 ^ i from Nat.pow_le_pow_right (by omega) (by omega)));simp [hi,this]
theorem Er (x:Nat) (hx:x<4294967296):bits .xor .i64 (-1) (x:Int) = -(x:Int)-1:=by
 show IntKind.i64.wrap ((BitVec.ofInt 64 (-1) ^^^ BitVec.ofInt 64 (x:Int)).toNat:Int)=_;have e1:(BitVec.ofInt 64 (-1)).toNat=18446744073709551615:=by decide
 rw [BitVec.toNat_xor,e1,kg x (by omega),Dd x (by omega),IntKind.wrap_i64];omega
theorem Kb (n:Int) (x:Nat) (w:World) (hn:n=bits .xor .i64 (-1) (x:Int)) (hx:x<4294967296) :
 Calls Tryz.prog 112 #[n] w fun e w'=>e = .returned (.int .i64 ((4294967295-x:Nat):Int))∧w=w':=by
 rw [hn,Er x hx];have hz:bits .and .i64 (-(x:Int)-1) (4294967295:Int)=((4294967295-x:Nat):Int):=by
  show IntKind.i64.wrap ((BitVec.ofInt 64 (-(x:Int)-1) &&& BitVec.ofInt 64 (4294967295:Int)).toNat:Int)=_;have e1:(BitVec.ofInt 64 (-(x:Int)-1)).toNat=18446744073709551615-x:=by rw [BitVec.toNat_ofInt];omega
  have e2:(BitVec.ofInt 64 (4294967295:Int)).toNat=2 ^ 32-1:=by decide
  rw [BitVec.toNat_and,e1,e2,Nat.and_two_pow_sub_one_eq_mod,IntKind.wrap_i64];omega
 have HZ:=Hi hz;clear hz;go_enter Tryz.func112,Tryz.ntmps112;go_wp2;go_ret;exact ⟨au (by rw [←HZ.o];rfl),rfl⟩
theorem Kc (l:List Nat):∀u∈l.map ia,u.oneCell'=true:=by
 intro u hu;obtain ⟨b,_,rfl⟩:=List.mem_map.1 hu;rfl
theorem Ft (j:Nat) (hj:j<64):(oM.map ia)[j]?=some (.int .i64 ((oM.getD j 0:Nat):Int)):=by
 have hl:j<oM.length:=by rw [Bz];exact hj
 rw [List.getElem?_map,List.getElem?_eq_getElem hl];simp only [Option.map_some,List.getD_eq_getElem?_getD,List.getElem?_eq_getElem hl,Option.getD_some,ia]
theorem nU {w:World} {base e size n:Nat} {v:Value} {xs:List Value} (h:w.ownsRow base e size v n xs) (hn:0<n):∃g c,v = .slice (some ⟨g,0,none⟩) n c∧base≤g:=by
 rcases h.2 with ⟨_,h0⟩|⟨g,cap,cur,hv,hb,_⟩
 ·omega
 ·exact ⟨g,cap,hv,hb⟩
theorem Reads.BF {w:World} {g n:Nat} {xs:List Value} (h:Reads w 1 (some ⟨g,0,none⟩) n xs) (hn:0<n) (j:Nat) (u:Value) (hu:xs[j]?=some u):w.cell? ⟨g,j,none⟩=some u:=by
 obtain ⟨ad,he,hc⟩:=h.2 hn;injection he with he;subst he;have:=hc j u hu;rw [Aab,Nat.zero_add] at this;exact this
theorem wL (v:V8) (j:Nat) (hj:j<8):(v.pN.map ia)[j]?=some (.int .i64 ((v.pN.getD j 0:Nat):Int)):=by
 have:j=0∨j=1∨j=2∨j=3∨j=4∨j=5∨j=6∨j=7:=by omega
 rcases this with rfl|rfl|rfl|rfl|rfl|rfl|rfl|rfl<;>rfl
theorem Fu (h v:V8) (j:Nat) (hj:j<8):((h.add v).pN.take j).map ia++[ia ((h.pN.getD j 0+v.pN.getD j 0)%4294967296)]=((h.add v).pN.take (j+1)).map ia:=by
 have:j=0∨j=1∨j=2∨j=3∨j=4∨j=5∨j=6∨j=7:=by omega
 rcases this with rfl|rfl|rfl|rfl|rfl|rfl|rfl|rfl<;>rfl
theorem wM {w:World} {s n:Nat} {A:Option Addr} {xs:List Value} (h:Reads w s A n xs):Reads w.drew s A n xs:=h
theorem uA {w w':World} {g n:Nat} {r:Option Nat} {xs:List Value} (h:Reads w 1 (some ⟨g,0,none⟩) n xs) (hn:0<n) (hg:w.grownBy w' r) (dO:r≠some g):Reads w' 1 (some ⟨g,0,none⟩) n xs:=
 ⟨h.1,fun _=>⟨_,rfl,fun j u hu=>by
  rw [Aab,Nat.zero_add];have c:=h.BF hn j u hu;exact (World.cell?_of_block (hg.block g (World.block_lt_of_cell? _ ⟨g,j,none⟩ c) (fun e=>dO (by first|exact e|exact e.symm)))).trans c⟩⟩
theorem De:xz Tryz.prog 49 3 (.int .i64 0) 1 8:=⟨Tryz.underlying49,by kernel_rfl,rfl,by decide,by decide⟩
theorem Df {w:World} {base e g n:Nat} {xs:List Value} (h:w.ownsRow base e 1 (.slice (some ⟨g,0,none⟩) n n) n xs):bf w g e xs.toArray:=by
 obtain ⟨hl,h⟩:=h;rcases h with ⟨h,_⟩|⟨g',cap,cur,hv,_,hb,_,_,hs,ht⟩
 ·cases h
 ·injection hv with ha _ hc;injection ha with ha;injection ha with ha;subst ha hc;rw [Nat.mul_one] at hs ht;have:cur=xs.toArray:=by
   rw [←ht,take_of_length_le (by simp [hs])]
  subst this;exact hb
theorem Hv (h:V8) (b:List UInt8) (w:World) (gA gK ca ck:Nat) (hh:h.ok) (hb:b.length=64) (hA:Reads w 1 (some ⟨gA,0,none⟩) 8 (h.pN.map ia)) (hK:Reads w 1 (some ⟨gK,0,none⟩) 64 (oM.map ia)) :
 Calls Tryz.prog 105 #[.slice (some ⟨gA,0,none⟩) 8 ca,b,.slice (some ⟨gK,0,none⟩) 64 ck] w fun e w'=>∃g' c',e = .returned (.slice (some ⟨g',0,none⟩) 8 c')∧Reads w' 1 (some ⟨g',0,none⟩) 8 ((Fq h b).pN.map ia)∧Below w w w':=by
 obtain ⟨R,hR⟩:∃R,Fq h b=R:=⟨_,rfl⟩;rw [hR];have CV:=Hi hR;clear hR;go_enter Tryz.func105,Tryz.ntmps105;go_wp2_with (at_make;refine EN De w rfl _ _ rfl w .i64 .i64 64 64 64 rfl rfl (by omega) (by omega) (by omega) Nr ?_;intro w1 nD Hw);have qT:bf w1 w 3 ((List.replicate 64 0).map ia).toArray:=by
  have e:(madeCells (Value.int IntKind.i64 0).cells (64*1)).toList=(List.replicate 64 0).map ia:=by
   rw [Nat.mul_one];simp only [Value.cells,toList_madeCells_one,List.map_replicate];rfl
  rw [e] at nD;exact Df nD
 have wv:Below w w w1:=Br.grown Hw Nr (by simp);clear nD Hw;go_loopw [8] (fun i wr=>∃k:Nat,k≤16∧i = .int .i64 (k:Int)∧bf wr w 3 ((qx b k).map ia).toArray∧Below w w wr) (fun i _=>16-(intOf i).toNat);case atStart=>exact ⟨0,Nat.zero_le _,rfl,qT,wv⟩
 case round=>
  clear qT wv;obtain ⟨k,hk,rfl,h1,bE⟩:=hrel;by_cases dS:k<16
  ·obtain ⟨z,hz⟩:=yG (qx b k) k (by rw [uz b k (by omega)];omega);have hc:wr.cell? ⟨w,k,none⟩=some (.int .i64 (z:Int)):=by rw [h1.cell,List.getElem?_toArray];exact hz
   have hf:=h1.frozen k;clear hz;have HE:=Hi (Ka (b[4*k]?.getD 0) (b[4*k+1]?.getD 0) (b[4*k+2]?.getD 0) (b[4*k+3]?.getD 0));go_wp2;refine ax 32 SZ (by kernel_rfl) (by kernel_rfl) ?_;iterate 32 (refine ae rfl (by kernel_rfl) rfl ?_;go_wp2;refine ⟨rfl,?_⟩)
   refine aO ?_;try simp only [eo,ep]
   go_wp2;refine ⟨⟨k+1,by omega,by go_num,?_,bE.drew.setCell (by first|(simp<;>omega)|omega) _⟩,by simp only [intOf];omega⟩;rw [HE.o];have h4:=h1.set k (.int .i64 ((Ub b k:Nat):Int));rw [List.setIfInBounds_toArray,BE b k _ (by omega) (by rw [zp,if_pos dS])] at h4;exact h4
  ·have hd:decide ((k:Int)<16)=false:=by simp;omega
   replace h1:bf wr w 3 ((qx b 16).map ia).toArray:=by
    have Uk:k=16:=by omega
    subst Uk;exact h1
   obtain ⟨k0,ni⟩:∃k0:Int,k0=(k:Int):=⟨_,rfl⟩;rw [←ni] at hd ⊢;clear ni hk dS;go_wp2_with fail;go_loopw [9] (fun i wr=>∃k:Nat,16≤k∧k≤64∧i = .int .i64 (k:Int)∧bf wr w 3 ((qx b k).map ia).toArray∧Below w w wr) (fun i _=>64-(intOf i).toNat);case atStart=>exact ⟨16,Nat.le_refl _,by omega,rfl,h1,bE⟩
   case round=>
    clear h1 bE;obtain ⟨k,DI,xt,rfl,h1,bE⟩:=hrel;by_cases dS:k<64
    ·obtain ⟨Dg,Ld⟩:∃x,x=(sW b k).getD (k-15) 0:=⟨_,rfl⟩;obtain ⟨x2,e2⟩:∃x,x=(sW b k).getD (k-2) 0:=⟨_,rfl⟩;obtain ⟨Qe,Sh⟩:∃x,x=(sW b k).getD (k-16) 0:=⟨_,rfl⟩;obtain ⟨x7,e7⟩:∃x,x=(sW b k).getD (k-7) 0:=⟨_,rfl⟩;have Gd:Dg<4294967296:=Ld ▸ oL (tS b k) _;have l2:x2<4294967296:=e2 ▸ oL (tS b k) _;have l16:Qe<4294967296:=Sh ▸ oL (tS b k) _;have l7:x7<4294967296:=e7 ▸ oL (tS b k) _;have DS:wr.cell? ⟨w,k-15,none⟩=some (.int .i64 (Dg:Int)):=by rw [h1.cell,List.getElem?_toArray,Ld];exact pO b k (k-15) (by omega) xt
     have c2:wr.cell? ⟨w,k-2,none⟩=some (.int .i64 (x2:Int)):=by rw [h1.cell,List.getElem?_toArray,e2];exact pO b k (k-2) (by omega) xt
     have N3:wr.cell? ⟨w,k-16,none⟩=some (.int .i64 (Qe:Int)):=by rw [h1.cell,List.getElem?_toArray,Sh];exact pO b k (k-16) (by omega) xt
     have c7:wr.cell? ⟨w,k-7,none⟩=some (.int .i64 (x7:Int)):=by rw [h1.cell,List.getElem?_toArray,e7];exact pO b k (k-7) (by omega) xt
     have HW:=Hi (show zp b k (sW b k)=(Qe+On Dg+x7+Oo x2)%4294967296 by rw [zp,if_neg (by omega),Ld,e2,Sh,e7]);clear Ld e2 Sh e7;have b1:=eH (rr Dg 7) (rr Dg 18) (by have:=fM 7 Gd;omega) (by have:=fM 18 Gd;omega);have b2:bits .xor .i64 ((rr Dg 7 ^^^ rr Dg 18:Nat):Int) ((Dg:Int)/8)=((On Dg:Nat):Int):=by
      rw [show (Dg:Int)/(8:Int)=((Dg >>> 3:Nat):Int) by rw [Nat.shiftRight_eq_div_pow];omega];exact eH _ _ (by have:=iP (fM 7 Gd) (fM 18 Gd);omega) (by have:=eU 3 Gd;omega)
     have b3:=eH (rr x2 17) (rr x2 19) (by have:=fM 17 l2;omega) (by have:=fM 19 l2;omega);have b4:bits .xor .i64 ((rr x2 17 ^^^ rr x2 19:Nat):Int) ((x2:Int)/1024)=((Oo x2:Nat):Int):=by
      rw [show (x2:Int)/(1024:Int)=((x2 >>> 10:Nat):Int) by rw [Nat.shiftRight_eq_div_pow];omega];exact eH _ _ (by have:=iP (fM 17 l2) (fM 19 l2);omega) (by have:=eU 10 l2;omega)
     have ls0:=MJ Gd;have ls1:=MK l2;obtain ⟨z,hz⟩:=yG (qx b k) k (by rw [uz b k (by omega)];omega);have hc:wr.cell? ⟨w,k,none⟩=some (.int .i64 (z:Int)):=by rw [h1.cell,List.getElem?_toArray];exact hz
     have hf:=h1.frozen k;clear hz;go_wp2;refine ax 21 [0,1,6,7,13,14,2,8,15,3,9,16,4,10,17,18,5,11,12,19,20] (by kernel_rfl) (by kernel_rfl) ?_;iterate 6 (refine ae rfl (by kernel_rfl) rfl ?_;go_wp2;refine ⟨rfl,?_⟩)
     iterate 3 (refine ae rfl (by kernel_rfl) rfl ?_;go_wp2;refine ⟨rfl,?_⟩)
     iterate 3 (refine ae rfl (by kernel_rfl) rfl ?_;go_wp2;refine ⟨rfl,?_⟩)
     iterate 3 (refine ae rfl (by kernel_rfl) rfl ?_;go_wp2;refine ⟨rfl,?_⟩)
     (refine ae rfl (by kernel_rfl) rfl ?_;go_wp2;refine ⟨rfl,?_⟩)
     refine aA rfl (by kernel_rfl) ?_;go_wp2_with fail;refine (Uj Dg _ Gd).mono ?_;rintro e _ ⟨rfl,rfl⟩;go_wp2;refine ⟨Ext.refl _,?_⟩;refine aA rfl (by kernel_rfl) ?_;go_wp2_with fail;refine (P7 Dg _ Gd).mono ?_;rintro e _ ⟨rfl,rfl⟩;go_wp2;refine ⟨Ext.refl _,?_⟩
     (refine ae rfl (by kernel_rfl) rfl ?_;go_wp2;refine ⟨rfl,?_⟩)
     (refine ae rfl (by kernel_rfl) rfl ?_;go_wp2;refine ⟨rfl,?_⟩)
     (refine ae rfl (by kernel_rfl) rfl ?_;go_wp2;refine ⟨rfl,?_⟩)
     refine aO ?_;try simp only [eo,ep]
     go_wp2;refine ax 21 [0,1,6,7,13,14,2,8,15,3,9,16,4,10,17,18,5,11,12,19,20] (by kernel_rfl) (by kernel_rfl) ?_;iterate 6 (refine ae rfl (by kernel_rfl) rfl ?_;go_wp2;refine ⟨rfl,?_⟩)
     iterate 3 (refine ae rfl (by kernel_rfl) rfl ?_;go_wp2;refine ⟨rfl,?_⟩)
     iterate 3 (refine ae rfl (by kernel_rfl) rfl ?_;go_wp2;refine ⟨rfl,?_⟩)
     iterate 3 (refine ae rfl (by kernel_rfl) rfl ?_;go_wp2;refine ⟨rfl,?_⟩)
     (refine ae rfl (by kernel_rfl) rfl ?_;go_wp2;refine ⟨rfl,?_⟩)
     refine aA rfl (by kernel_rfl) ?_;go_wp2_with fail;refine (P5 x2 _ l2).mono ?_;rintro e _ ⟨rfl,rfl⟩;go_wp2;refine ⟨Ext.refl _,?_⟩;refine aA rfl (by kernel_rfl) ?_;go_wp2_with fail;refine (P9 x2 _ l2).mono ?_;rintro e _ ⟨rfl,rfl⟩;go_wp2;refine ⟨Ext.refl _,?_⟩
     (refine ae rfl (by kernel_rfl) rfl ?_;go_wp2;refine ⟨rfl,?_⟩)
     (refine ae rfl (by kernel_rfl) rfl ?_;go_wp2;refine ⟨rfl,?_⟩)
     (refine ae rfl (by kernel_rfl) rfl ?_;go_wp2;refine ⟨rfl,?_⟩)
     refine aO ?_;try simp only [eo,ep]
     go_wp2;refine ax 19 [0,1,2,3,7,9,10,15,4,11,5,12,6,13,8,14,16,17,18] (by kernel_rfl) (by kernel_rfl) ?_;iterate 8 (refine ae rfl (by kernel_rfl) rfl ?_;go_wp2;refine ⟨rfl,?_⟩)
     iterate 2 (refine ae rfl (by kernel_rfl) rfl ?_;go_wp2;refine ⟨rfl,?_⟩)
     iterate 2 (refine ae rfl (by kernel_rfl) rfl ?_;go_wp2;refine ⟨rfl,?_⟩)
     iterate 2 (refine ae rfl (by kernel_rfl) rfl ?_;go_wp2;refine ⟨rfl,?_⟩)
     (refine ae rfl (by kernel_rfl) rfl ?_;go_wp2;refine ⟨rfl,?_⟩)
     (refine ae rfl (by kernel_rfl) rfl ?_;go_wp2;refine ⟨rfl,?_⟩)
     (refine ae rfl (by kernel_rfl) rfl ?_;go_wp2;refine ⟨rfl,?_⟩)
     refine aA rfl (by kernel_rfl) ?_;go_wp2_with fail;refine (vo _ (Qe+On Dg+x7+Oo x2) _ (by omega) (by omega)).mono ?_;rintro e _ ⟨rfl,rfl⟩;go_wp2;refine ⟨Ext.refl _,?_⟩
     (refine ae rfl (by kernel_rfl) rfl ?_;go_wp2;refine ⟨rfl,?_⟩)
     refine aO ?_;try simp only [eo,ep]
     go_wp2;refine ⟨⟨k+1,by omega,by omega,by go_num,?_,bE.drew.drew.drew.setCell (by first|(simp<;>omega)|omega) _⟩,by simp only [intOf];omega⟩;have h4:=h1.set k (.int .i64 ((zp b k (sW b k):Nat):Int));rw [List.setIfInBounds_toArray,BE b k _ dS rfl] at h4;rw [show ((Qe:Int)+(On Dg:Int)+(x7:Int)+(Oo x2:Int))%(4294967296:Int)=((zp b k (sW b k):Nat):Int) by rw [HW.o];omega];exact h4
    ·have Ei:decide ((k:Int)<64)=false:=by simp;omega
     replace h1:bf wr w 3 ((qx b 64).map ia).toArray:=by
      have MU:k=64:=by omega
      subst MU;exact h1
     obtain ⟨k1,ni⟩:∃k1:Int,k1=(k:Int):=⟨_,rfl⟩;rw [←ni] at Ei ⊢;clear ni DI xt dS;have fE:w.heap.size<wr.heap.size:=h1.lt;have A7:=Hi (World.ownsRow_made (base:=w) (size:=1) (e:=3) wr #[] 0 (by omega) (by simp [maxLen]) rfl);have Fv:=Hi (hA.below (bE.alloc (Nat.le_of_lt fE) (.cells #[] 3)));go_wp2_with (at_builtin;go_must (refine aB De _ rfl (.tmp 120) (.tmp 121) rfl w _ 0 [] rfl A7.o _ _ _ (h.pN.map ia) rfl Fv.o (Kc _) (by omega) (by simp;omega) ?_;intro vv w2 bg hg xV;rw [Nat.zero_add,nil_append] at bg;obtain ⟨gv,cv,rfl,hq⟩:=nU bg (by omega)));have g1:bf w2 w 3 ((qx b 64).map ia).toArray:=(h1.alloc _).grown hg (by simp;omega);have AB:Below w w w2:=Below.grown (bE.alloc (by omega) _) hg (by simp;omega) (fun k hk=>by injection hk with hk;simp at hk;omega);have hR:=Reads.bd bg;clear hq bg xV hg A7 Fv h1 bE;go_loopw [12,13] (fun v i wr=>∃(k gv cv:Nat),k≤64∧i = .int .i64 (k:Int)∧v = .slice (some ⟨gv,0,none⟩) 8 cv∧Reads wr 1 (some ⟨gv,0,none⟩) 8 ((wK oM (sW b 64) h k).pN.map ia)∧bf wr w 3 ((qx b 64).map ia).toArray∧Below w w wr) (fun _ i _=>64-(intOf i).toNat);case atStart=>exact ⟨0,gv,cv,by omega,rfl,rfl,hR,g1,AB⟩
     case round=>
      clear g1 hR AB;obtain ⟨k,gv,cv,hk,rfl,rfl,hR,h1,bE⟩:=hrel;by_cases dS:k<64
      ·obtain ⟨V,hV⟩:∃V,V=wK oM (sW b 64) h k:=⟨_,rfl⟩;rw [←hV] at hR;have HV:=Hi (show wK oM (sW b 64) h (k+1)=Uc V (oM.getD k 0) ((sW b 64).getD k 0) by rw [wK,hV]);have mS:V.ok:=hV ▸ zq _ _ hh k;clear hV;obtain ⟨ra,rb,rc,rd,re,rf,rg,rh⟩:=V;obtain ⟨la,lb,lc,ld,le,lf,lg,lh⟩:=mS;have cw:wr.cell? ⟨w,k,none⟩=some (.int .i64 (((sW b 64).getD k 0:Nat):Int)):=by rw [h1.cell,List.getElem?_toArray];exact pO b 64 k dS Nr
       have ck:wr.cell? ⟨gK,k,none⟩=some (.int .i64 ((oM.getD k 0:Nat):Int)):=(hK.below bE).BF (by omega) k _ (Ft k dS);have lw:=oL (tS b 64) k;have lk:=oL J7 k;generalize (sW b 64).getD k 0=xw at HV cw lw;generalize oM.getD k 0=xk at HV ck lk;have ca:wr.cell? ⟨gv,0,none⟩=some (.int .i64 (ra:Int)):=hR.BF (by omega) 0 _ rfl;have cb:wr.cell? ⟨gv,1,none⟩=some (.int .i64 (rb:Int)):=hR.BF (by omega) 1 _ rfl;have cc:wr.cell? ⟨gv,2,none⟩=some (.int .i64 (rc:Int)):=hR.BF (by omega) 2 _ rfl;have cd:wr.cell? ⟨gv,3,none⟩=some (.int .i64 (rd:Int)):=hR.BF (by omega) 3 _ rfl;have ce:wr.cell? ⟨gv,4,none⟩=some (.int .i64 (re:Int)):=hR.BF (by omega) 4 _ rfl;have cf:wr.cell? ⟨gv,5,none⟩=some (.int .i64 (rf:Int)):=hR.BF (by omega) 5 _ rfl;have cg:wr.cell? ⟨gv,6,none⟩=some (.int .i64 (rg:Int)):=hR.BF (by omega) 6 _ rfl;have ch:wr.cell? ⟨gv,7,none⟩=some (.int .i64 (rh:Int)):=hR.BF (by omega) 7 _ rfl;simp only at la lb lc ld le lf lg lh;have b1:=eH (rr re 6) (rr re 11) (by have:=fM 6 le;omega) (by have:=fM 11 le;omega);have b2:bits .xor .i64 ((rr re 6 ^^^ rr re 11:Nat):Int) ((rr re 25:Nat):Int)=((MH re:Nat):Int):=eH _ _ (by have:=iP (fM 6 le) (fM 11 le);omega) (by have:=fM 25 le;omega);have b3:=eH (rr ra 2) (rr ra 13) (by have:=fM 2 la;omega) (by have:=fM 13 la;omega);have b4:bits .xor .i64 ((rr ra 2 ^^^ rr ra 13:Nat):Int) ((rr ra 22:Nat):Int)=((PY ra:Nat):Int):=eH _ _ (by have:=iP (fM 2 la) (fM 13 la);omega) (by have:=fM 22 la;omega);have b5:=dg re rf (by omega) (by omega);have b6:=dg (4294967295-re) rg (by omega) (by omega);have b7:bits .xor .i64 ((re &&& rf:Nat):Int) (((4294967295-re) &&& rg:Nat):Int)=((MI re rf rg:Nat):Int):=eH _ _ (by have:=jb (b:=rf) le;omega) (by have:=jb (a:=4294967295-re) (b:=rg) (by omega);omega);have b8:=dg ra rb (by omega) (by omega);have b9:=dg ra rc (by omega) (by omega);have o4:=dg rb rc (by omega) (by omega);have qm:=eH (ra &&& rb) (ra &&& rc) (by have:=jb (b:=rb) la;omega) (by have:=jb (b:=rc) la;omega);have qM:bits .xor .i64 (((ra &&& rb) ^^^ (ra &&& rc):Nat):Int) ((rb &&& rc:Nat):Int)=((PZ ra rb rc:Nat):Int):=eH _ _ (by have:=iP (jb (b:=rb) la) (jb (b:=rc) la);omega) (by have:=jb (b:=rc) lb;omega);have S9:IntKind.i64.signed=true:=rfl;have l1:=MN le;have l2:=ML la;have l3:=MO (f:=rf) (g:=rg) le;have l4:=MP (c:=rc) la lb;go_wp2;refine ax 37 [0,3,5,8,12,13,17,20,26,27,31,32,1,14,18,21,28,33,2,15,22,29,34,16,4,6,7,9,10,11,19,23,24,25,30,35,36] (by kernel_rfl) (by kernel_rfl) ?_;iterate 12 (refine ae rfl (by kernel_rfl) rfl ?_;go_wp2;refine ⟨rfl,?_⟩)
       iterate 6 (refine ae rfl (by kernel_rfl) rfl ?_;go_wp2;refine ⟨rfl,?_⟩)
       iterate 5 (refine ae rfl (by kernel_rfl) rfl ?_;go_wp2;refine ⟨rfl,?_⟩)
       (refine ae rfl (by kernel_rfl) rfl ?_;go_wp2;refine ⟨rfl,?_⟩)
       refine aA rfl (by kernel_rfl) ?_;go_wp2_with fail;refine (Uh re _ le).mono ?_;rintro e _ ⟨rfl,rfl⟩;go_wp2;refine ⟨Ext.refl _,?_⟩;refine aA rfl (by kernel_rfl) ?_;go_wp2_with fail;refine (P1 re _ le).mono ?_;rintro e _ ⟨rfl,rfl⟩;go_wp2;refine ⟨Ext.refl _,?_⟩
       (refine ae rfl (by kernel_rfl) rfl ?_;go_wp2;refine ⟨rfl,?_⟩)
       refine aA rfl (by kernel_rfl) ?_;go_wp2_with fail;refine (Qd re _ le).mono ?_;rintro e _ ⟨rfl,rfl⟩;go_wp2;refine ⟨Ext.refl _,?_⟩
       (refine ae rfl (by kernel_rfl) rfl ?_;go_wp2;refine ⟨rfl,?_⟩)
       (refine ae rfl (by kernel_rfl) rfl ?_;go_wp2;refine ⟨rfl,?_⟩)
       refine aA rfl (by kernel_rfl) ?_;go_wp2_with fail;refine (Kb _ re _ (by first|rfl|(rw [Er re le];omega)) le).mono ?_;rintro e _ ⟨rfl,rfl⟩;go_wp2;refine ⟨Ext.refl _,?_⟩
       (refine ae rfl (by kernel_rfl) rfl ?_;go_wp2;refine ⟨rfl,?_⟩)
       (refine ae rfl (by kernel_rfl) rfl ?_;go_wp2;refine ⟨rfl,?_⟩)
       (refine ae rfl (by kernel_rfl) rfl ?_;go_wp2;refine ⟨rfl,?_⟩)
       (refine ae rfl (by kernel_rfl) rfl ?_;go_wp2;refine ⟨rfl,?_⟩)
       (refine ae rfl (by kernel_rfl) rfl ?_;go_wp2;refine ⟨rfl,?_⟩)
       (refine ae rfl (by kernel_rfl) rfl ?_;go_wp2;refine ⟨rfl,?_⟩)
       refine aO ?_;try simp only [eo,ep]
       go_wp2;refine ax 29 [0,2,5,8,9,13,14,19,22,10,15,20,23,11,16,21,24,12,17,25,18,26,1,3,4,6,7,27,28] (by kernel_rfl) (by kernel_rfl) ?_;iterate 9 (refine ae rfl (by kernel_rfl) rfl ?_;go_wp2;refine ⟨rfl,?_⟩)
       iterate 4 (refine ae rfl (by kernel_rfl) rfl ?_;go_wp2;refine ⟨rfl,?_⟩)
       iterate 4 (refine ae rfl (by kernel_rfl) rfl ?_;go_wp2;refine ⟨rfl,?_⟩)
       iterate 3 (refine ae rfl (by kernel_rfl) rfl ?_;go_wp2;refine ⟨rfl,?_⟩)
       (refine ae rfl (by kernel_rfl) rfl ?_;go_wp2;refine ⟨rfl,?_⟩)
       (refine ae rfl (by kernel_rfl) rfl ?_;go_wp2;refine ⟨rfl,?_⟩)
       refine aA rfl (by kernel_rfl) ?_;go_wp2_with fail;refine (Uf ra _ la).mono ?_;rintro e _ ⟨rfl,rfl⟩;go_wp2;refine ⟨Ext.refl _,?_⟩;refine aA rfl (by kernel_rfl) ?_;go_wp2_with fail;refine (P3 ra _ la).mono ?_;rintro e _ ⟨rfl,rfl⟩;go_wp2;refine ⟨Ext.refl _,?_⟩
       (refine ae rfl (by kernel_rfl) rfl ?_;go_wp2;refine ⟨rfl,?_⟩)
       refine aA rfl (by kernel_rfl) ?_;go_wp2_with fail;refine (Qb ra _ la).mono ?_;rintro e _ ⟨rfl,rfl⟩;go_wp2;refine ⟨Ext.refl _,?_⟩
       (refine ae rfl (by kernel_rfl) rfl ?_;go_wp2;refine ⟨rfl,?_⟩)
       (refine ae rfl (by kernel_rfl) rfl ?_;go_wp2;refine ⟨rfl,?_⟩)
       (refine ae rfl (by kernel_rfl) rfl ?_;go_wp2;refine ⟨rfl,?_⟩)
       refine aO ?_;try simp only [eo,ep]
       go_wp2;refine ax 28 [0,1,4,7,10,13,16,19,22,25,2,5,8,11,14,20,23,26,6,9,12,15,21,24,27,17,3,18] (by kernel_rfl) (by kernel_rfl) ?_;iterate 10 (refine ae rfl (by kernel_rfl) rfl ?_;go_wp2;refine ⟨rfl,?_⟩)
       iterate 8 (refine ae rfl (by kernel_rfl) rfl ?_;go_wp2;refine ⟨rfl,?_⟩)
       iterate 7 (refine ae rfl (by kernel_rfl) rfl ?_;go_wp2;refine ⟨rfl,?_⟩)
       (refine ae rfl (by kernel_rfl) rfl ?_;go_wp2;refine ⟨rfl,?_⟩)
       refine aA rfl (by kernel_rfl) ?_;go_wp2_with fail;refine (vo _ (rh+MH re+MI re rf rg+xk+xw+(PY ra+PZ ra rb rc)) _ (by omega) (by omega)).mono ?_;rintro e _ ⟨rfl,rfl⟩;go_wp2;refine ⟨Ext.refl _,?_⟩;refine aA rfl (by kernel_rfl) ?_;go_wp2_with fail;refine (vo _ (rd+(rh+MH re+MI re rf rg+xk+xw)) _ (by omega) (by omega)).mono ?_;rintro e _ ⟨rfl,rfl⟩;go_wp2;refine ⟨Ext.refl _,?_⟩;refine aO ?_;try simp only [eo,ep]
       go_wp2;refine ⟨⟨k+1,wr,8,by omega,by go_num,rfl,?_,(h1.alloc _).drew.drew.drew,(bE.alloc bE.size _).drew.drew.drew⟩,by simp only [intOf];omega⟩;rw [HV.o];have e1:((rh:Int)+(MH re:Int)+(MI re rf rg:Int)+(xk:Int)+(xw:Int)+((PY ra:Int)+(PZ ra rb rc:Int)))%(4294967296:Int)=(((rT ⟨ra,rb,rc,rd,re,rf,rg,rh⟩ xk xw+rU ⟨ra,rb,rc,rd,re,rf,rg,rh⟩)%4294967296:Nat):Int):=by
        simp only [rT,rU];omega
       have e2:((rd:Int)+((rh:Int)+(MH re:Int)+(MI re rf rg:Int)+(xk:Int)+(xw:Int)))%(4294967296:Int)=(((rd+rT ⟨ra,rb,rc,rd,re,rf,rg,rh⟩ xk xw)%4294967296:Nat):Int):=by
        simp only [rT];omega
       rw [e1,e2];exact wM (wM (wM (Reads.new (e:=3) rfl)))
      ·have ZC:decide ((k:Int)<64)=false:=by simp;omega
       replace hR:Reads wr 1 (some ⟨gv,0,none⟩) 8 ((wK oM (sW b 64) h 64).pN.map ia):=by
        have MU:k=64:=by omega
        subst MU;exact hR
       obtain ⟨k2,ni⟩:∃k2:Int,k2=(k:Int):=⟨_,rfl⟩;rw [←ni] at ZC ⊢;clear ni hk dS h1;have HR:=Hi (show R=h.add (wK oM (sW b 64) h 64) from CV.o.symm);have Qf:(wK oM (sW b 64) h 64).ok:=zq _ _ hh 64;generalize wK oM (sW b 64) h 64=V at hR HR Qf;have Qg:gv<wr.heap.size:=World.block_lt_of_cell? wr ⟨gv,0,none⟩ (hR.BF (by omega) 0 _ rfl);go_wp2_with fail;go_loopw [18,19] (fun v i wr=>∃j:Nat,j≤8∧i = .int .i64 (j:Int)∧wr.ownsRow w 3 1 v j (((h.add V).pN.take j).map ia)∧v.ownBlock≠some gv∧Reads wr 1 (some ⟨gv,0,none⟩) 8 (V.pN.map ia)∧Below w w wr) (fun _ i _=>8-(intOf i).toNat);case atStart=>exact ⟨0,by omega,rfl,World.ownsRow_made wr #[] 0 bE.size (by simp [maxLen]) rfl,by simp [Value.ownBlock];omega,hR.below (Br.alloc Nr _),bE.alloc bE.size _⟩
       case round=>
        clear hR bE Qg;obtain ⟨j,hj,rfl,bg,dO,hR,bE⟩:=hrel;have Qg:gv<wr.heap.size:=World.block_lt_of_cell? wr ⟨gv,0,none⟩ (hR.BF (by omega) 0 _ rfl);by_cases dS:j<8
        ·have ca:wr.cell? ⟨gA,j,none⟩=some (.int .i64 ((h.pN.getD j 0:Nat):Int)):=(hA.below bE).BF (by omega) j _ (wL h j dS);have cb:wr.cell? ⟨gv,j,none⟩=some (.int .i64 ((V.pN.getD j 0:Nat):Int)):=hR.BF (by omega) j _ (wL V j dS);have l1:=Db hh j;have l2:=Db Qf j;have HS:=Hi (Fu h V j dS);generalize h.pN.getD j 0=xa at ca l1 HS;generalize V.pN.getD j 0=xb at cb l2 HS;have HO:=Hi bg;clear bg;go_wp2;refine ax 12 [0,1,2,5,6,3,7,4,8,9,10,11] (by kernel_rfl) (by kernel_rfl) ?_;iterate 5 (refine ae rfl (by kernel_rfl) rfl ?_;go_wp2;refine ⟨rfl,?_⟩)
         iterate 2 (refine ae rfl (by kernel_rfl) rfl ?_;go_wp2;refine ⟨rfl,?_⟩)
         iterate 2 (refine ae rfl (by kernel_rfl) rfl ?_;go_wp2;refine ⟨rfl,?_⟩)
         (refine ae rfl (by kernel_rfl) rfl ?_;go_wp2;refine ⟨rfl,?_⟩)
         refine aA rfl (by kernel_rfl) ?_;go_wp2_with fail;refine (vo _ (xa+xb) _ (by omega) (by omega)).mono ?_;rintro e _ ⟨rfl,rfl⟩;go_wp2;refine ⟨Ext.refl _,?_⟩;refine aA rfl (by kernel_rfl) ?_;go_wp2;refine ⟨Ext.alloc (Ext.refl _) _,?_⟩;refine aO ?_;try simp only [eo,ep]
         go_wp2_with (at_builtin;go_must (refine aB De _ rfl (.tmp 231) (.tmp 242) rfl w _ j _ rfl (by first|exact (HO.o.alloc _).drew|exact HO.o.drew.alloc _) _ _ _ [.int .i64 (((xa:Int)+(xb:Int))%4294967296)] rfl (by first|exact wM (Reads.new (e:=3) rfl)|exact Reads.new (e:=3) rfl) (by intro u hu;rw [List.mem_singleton.1 hu];rfl) (by omega) (Nt bE.size (by simp)) ?_;intro v' w2 dJ kL qt));refine ⟨⟨j+1,by omega,by go_num,?_,?_,uA (wM (hR.below (Br.alloc Nr _))) (by omega) kL dO,Below.grown (bE.alloc bE.size _).drew kL (Nt bE.size (by simp)) (fun g hg=>(HO.o.lt g hg).1)⟩,by simp only [intOf];omega⟩
         ·rw [show ((xa:Int)+(xb:Int))%(4294967296:Int)=(((xa+xb)%4294967296:Nat):Int) by omega] at dJ;rw [←HS.o];exact dJ
         ·rcases qt with h2|h2
          ·rw [h2];exact dO
          ·rw [h2];intro e;injection e with e;simp at e;omega
        ·have ZD:j=8:=by omega
         subst ZD;obtain ⟨g',c',rfl,_⟩:=nU bg (by omega);go_wp2;go_ret;refine ⟨g',c',au rfl,?_,bE⟩;rw [HR.o];exact Reads.bd bg
end Go.Proofs.YtfgliohpdgnmcaaGreat
