/- Lemmas for the walks of one claim (NumC, Crc, Dec, Word, RegG, DrawP, ShaP, Sha1, End). Conditions: bounds on sizes, as each names them. -/
import Derived.Test.YtfgliohpdgnmcaaGreatB00
set_option linter.unusedVariables false
set_option linter.unusedSimpArgs false
set_option maxRecDepth 100000
set_option maxHeartbeats 8000000
namespace Go.Proofs.YtfgliohpdgnmcaaGreat
open Go.RowKit
open List (map_cons map_toArray map_nil length_cons length_append take_succ_eq_append_getElem getElem_mem append_nil take_length length_nil mem_cons not_mem_nil mem_append)
def gz:Nat→Nat→List UInt8
 |0,_=>[]
 |k+1,n=>gz k (n/256)++[UInt8.ofNat (n%256)]
theorem iT:∀(k n:Nat),(gz k n).length=k
 |0,_=>rfl
 |k+1,n=>by simp [gz,iT k]
def Mb (n width:Int):List UInt8:=if 1≤width∧width≤7∧0≤n∧n<256 ^ width.toNat then gz width.toNat n.toNat else []
attribute [irreducible] Mb
def Jp (c:Nat):Nat:=if c%2=1 then (c/2) ^^^ 2197175160 else c/2
def DK:Nat→Nat→Nat
 |0,c=>c
 |k+1,c=>Jp (DK k c)
def Jq (c:Nat) (b:UInt8):Nat:=DK 8 (c ^^^ b.toNat)
def Jr (l:List UInt8):Nat:=l.foldl Jq 4294967295
def Tb (l:List UInt8):Nat:=4294967295-Jr l
def dB (k:Nat):UInt8:=UInt8.ofNat (48+k)
def Jt (m:Nat):List UInt8:=if m=0 then [] else Jt (m/10)++[dB (m%10)]
termination_by m
decreasing_by omega
def Td (n:Int):List UInt8:=if n=0 then [48] else if n<0 then 45::Jt n.natAbs else Jt n.natAbs
def RG (L X:List UInt8) (i:Nat):Prop:=X.length=L.length∧∀k,k<L.length→X.getD k 0=if k<i∨L.length-i≤k then L.getD (L.length-1-k) 0 else L.getD k 0
attribute [local irreducible] Td dB
def Cx (b:UInt8):Bool:=decide (97≤(b.toNat:Int)∧(b.toNat:Int)≤122)
def mO (l:List UInt8):Bool:=gD 1 8 (l.length:Int) && l.all Cx
def fP (l:List UInt8) (b:Bool):Bool:=if b=true then mO l else decide (l=[])
theorem qF {l:List UInt8} {j:Nat} (h:(l.take j).all Cx=true) (hj:j<l.length) (hb:Cx l[j]=true):(l.take (j+1)).all Cx=true:=by
 rw [take_succ_eq_append_getElem hj,List.all_append,h,Bool.true_and];simpa using hb
theorem AI {l:List UInt8} {j:Nat} (hj:j<l.length) (hb:Cx l[j]=false):mO l=false:=by
 have:l.all Cx=false:=by
  rw [List.all_eq_false];exact ⟨l[j],getElem_mem hj,by simpa using hb⟩
 rw [mO,this,Bool.and_false]
theorem ye {l:List UInt8} (h:(l.take l.length).all Cx=true):mO l=gD 1 8 (l.length:Int):=by
 rw [take_length] at h;rw [mO,h,Bool.and_true]
theorem GF {b:UInt8} (h:(b.toNat:Int)<97):Cx b=false:=by simp only [Cx,decide_eq_false_iff_not];omega
theorem GG {b:UInt8} (h:122<(b.toNat:Int)):Cx b=false:=by simp only [Cx,decide_eq_false_iff_not];omega
theorem DT {b:UInt8} (h1:¬(b.toNat:Int)<97) (h2:¬122<(b.toNat:Int)):Cx b=true:=by simp only [Cx,decide_eq_true_eq];omega
theorem Cy (l:List UInt8) (w:World) (hl:l.length≤4611686018427387904) :
 Calls Tryz.prog 101 #[l] w fun e w'=>e = .returned (.bool (mO l))∧w=w':=by
 go_enter Tryz.func101,Tryz.ntmps101;go_wp2
 go_loop [3] (fun ii=>∃j:Nat,j≤l.length∧ii = .int .i64 (j:Int)∧(l.take j).all Cx=true) (fun ii=>l.length-(intOf ii).toNat)
 case atStart=>exact ⟨0,Nat.zero_le _,rfl,rfl⟩
 case round=>
  obtain ⟨j,hj,rfl,dX⟩:=hrel;by_cases dS:j<l.length
  ·have dk:=fun h=>qF dX dS h
   have iR:=fun h=>AI (l:=l) dS h
   have kM:=Hi dk;clear dk;have qE:=Hi iR;clear iR dX;by_cases h1:((l[j]'dS).toNat:Int)<97
   ·have HR:=Hi (qE.o (GF h1));go_wp2;go_ret;exact ⟨au (by rw [HR.o];rfl),rfl⟩
   ·by_cases h2:122<((l[j]'dS).toNat:Int)
    ·have HR:=Hi (qE.o (GG h2));go_wp2;go_ret;exact ⟨au (by rw [HR.o];rfl),rfl⟩
    ·have HS:=Hi (kM.o (DT h1 h2));go_wp2;exact ⟨⟨j+1,by omega,by go_num,HS.o⟩,by simp only [intOf];omega⟩
  ·have iQ:j=l.length:=by omega
   subst iQ;have HR:=Hi (ye dX);clear dX;go_wp2_with fail;refine (fo _ _ _ _).mono ?_;rintro e w' ⟨rfl,rfl⟩;go_wp2;go_ret;exact ⟨au (by rw [HR.o];rfl),rfl⟩
theorem Cz (l:List UInt8) (b:Bool) (w:World) (hl:l.length≤4611686018427387904) :
 Calls Tryz.prog 83 #[l,b] w fun e w'=>e = .returned (.bool (fP l b))∧w=w':=by
 cases b with
 |true=>
  have HR:=Hi (show fP l true=mO l from rfl);go_enter Tryz.func83,Tryz.ntmps83;go_wp2_with fail;refine (Cy l _ hl).mono ?_;rintro e w' ⟨rfl,rfl⟩;go_wp2;go_ret;exact ⟨au (by rw [HR.o];rfl),rfl⟩
 |false=>
  have HR:=Hi (show fP l false=decide (l=[]) from rfl);cases l with
  |nil=>
   go_enter Tryz.func83,Tryz.ntmps83;go_wp2;go_ret;exact ⟨au (by rw [HR.o];rfl),rfl⟩
  |cons c l=>
   go_enter Tryz.func83,Tryz.ntmps83;go_wp2;go_ret;exact ⟨au (by rw [HR.o];rfl),rfl⟩
theorem CC (l:List UInt8) (w:World) (hl:l.length≤4611686018427387904) :
 Calls Tryz.prog 87 #[l] w fun e w'=>e = .returned (.bool (mO l))∧w=w':=by
 by_cases h0:1≤(l.length:Int)∧(l.length:Int)≤8
 ·have H0:=Hi h0;clear h0;go_enter Tryz.func87,Tryz.ntmps87;go_wp2_with fail;refine (rS _ _ _ _ H0.o).mono ?_;rintro e w' ⟨rfl,rfl⟩;go_wp2
  go_loop [3] (fun ii=>∃j:Nat,j≤l.length∧ii = .int .i64 (j:Int)∧(l.take j).all Cx=true) (fun ii=>l.length-(intOf ii).toNat)
  case atStart=>exact ⟨0,Nat.zero_le _,rfl,rfl⟩
  case round=>
   obtain ⟨j,hj,rfl,dX⟩:=hrel;by_cases dS:j<l.length
   ·have dk:=fun h=>qF dX dS h
    have iR:=fun h=>AI (l:=l) dS h
    have kM:=Hi dk;clear dk;have qE:=Hi iR;clear iR dX;by_cases h1:((l[j]'dS).toNat:Int)<97
    ·have HR:=Hi (qE.o (GF h1));go_wp2;go_ret;exact ⟨au (by rw [HR.o];rfl),rfl⟩
    ·by_cases h2:122<((l[j]'dS).toNat:Int)
     ·have HR:=Hi (qE.o (GG h2));go_wp2;go_ret;exact ⟨au (by rw [HR.o];rfl),rfl⟩
     ·have HS:=Hi (kM.o (DT h1 h2));go_wp2;exact ⟨⟨j+1,by omega,by go_num,HS.o⟩,by simp only [intOf];omega⟩
   ·have iQ:j=l.length:=by omega
    subst iQ;have HR:=Hi (show mO l=true by rw [ye dX,lX H0.o.1 H0.o.2]);clear dX;go_wp2;go_ret;exact ⟨au (by rw [HR.o];rfl),rfl⟩
 ·have HR:=Hi (show mO l=false by rw [mO,iu h0,Bool.false_and]);have H0:=Hi h0;clear h0;go_enter Tryz.func87,Tryz.ntmps87;go_wp2_with fail;refine (yU _ _ _ _ H0.o).mono ?_;rintro e w' ⟨rfl,rfl⟩;go_wp2;go_ret;exact ⟨au (by rw [HR.o];rfl),rfl⟩
theorem EY (l:List UInt8) (b:Bool) (w:World) (hl:l.length≤4611686018427387904) :
 Calls Tryz.prog 65 #[l,b] w fun e w'=>e = .returned (.bool (fP l b))∧w=w':=by
 cases b with
 |true=>
  have HR:=Hi (show fP l true=mO l from rfl);go_enter Tryz.func65,Tryz.ntmps65;go_wp2_with fail;refine (CC l _ hl).mono ?_;rintro e w' ⟨rfl,rfl⟩;go_wp2;go_ret;exact ⟨au (by rw [HR.o];rfl),rfl⟩
 |false=>
  have HR:=Hi (show fP l false=decide (l=[]) from rfl);cases l with
  |nil=>
   go_enter Tryz.func65,Tryz.ntmps65;go_wp2;go_ret;exact ⟨au (by rw [HR.o];rfl),rfl⟩
  |cons c l=>
   go_enter Tryz.func65,Tryz.ntmps65;go_wp2;go_ret;exact ⟨au (by rw [HR.o];rfl),rfl⟩
attribute [irreducible] fP mO
inductive HG where
 |leaf
 |one (i:Nat) (r:HG)
 |two (i k:Nat) (r s:HG)
 |act (i:Nat) (r:HG)
def HG.len:HG→Nat
 |.leaf=>0
 |.one _ r=>r.len+1
 |.two _ _ r _=>r.len+1
 |.act _ r=>r.len+1
section
variable {P:Program} {md:Region.Mode} {ops:Array Oper}
def rH (P:Program) (ops:Array Oper) (Q:Exit→Act→World→Prop) (tail:List Oper):HG→Act→World→Prop
 |.leaf,a,w=>wpList P ops Q tail a w
 |.one i r,a,w=>match ops[i]? with
  |none=>False
  |some o=>
   if cU P o.op=true then (Region.wanted o (yielded ops a.tmps)=true→fm o a=true)∧wpList P ops (nC w (rH P ops Q tail r)) [o] a w
   else wpList P ops (j7 w (rH P ops Q tail r)) [o] a w
 |.two i k r s,a,w=>match ops[i]? with
  |none=>False
  |some o=>match ops[k]? with
   |none=>False
   |some o'=>wpList P ops (j7 w (rH P ops Q tail r)) [o] a w∧wpList P ops (j7 w (rH P ops Q tail s)) [o'] a w
 |.act i r,a,w=>match ops[i]? with
  |none=>False
  |some o=>wpList P ops (j7 w (rH P ops Q tail r)) [o] a w
theorem bW {Q:Exit→Act→World→Prop} {tail:List Oper} {i:Nat} {r:HG} {a:Act} {w:World} {o:Oper} (hi:ops[i]?=some o) (hk:cU P o.op=true) (hp:fm o a=true)
 (h:wpList P ops (nC w (rH P ops Q tail r)) [o] a w):rH P ops Q tail (.one i r) a w:=by
 simp only [rH,hi,hk,if_true];exact ⟨fun _=>hp,h⟩
theorem yw {Q:Exit→Act→World→Prop} {tail:List Oper} {i:Nat} {r:HG} {a:Act} {w:World} {o:Oper} (hi:ops[i]?=some o) (hk:cU P o.op=false)
 (h:wpList P ops (j7 w (rH P ops Q tail r)) [o] a w):rH P ops Q tail (.one i r) a w:=by
 simp only [rH,hi,hk,Bool.false_eq_true,if_false];exact h
theorem uZ {Q:Exit→Act→World→Prop} {tail:List Oper} {i:Nat} {r:HG} {a:Act} {w:World} {o:Oper} (hi:ops[i]?=some o)
 (h:wpList P ops (j7 w (rH P ops Q tail r)) [o] a w):rH P ops Q tail (.act i r) a w:=by
 simp only [rH,hi];exact h
theorem wq {Q:Exit→Act→World→Prop} {tail:List Oper} {i:Nat} {r:HG} {T:Array Value} {D:List Deferred} {w:World} {o:Oper} {d:Tmp} (hi:ops[i]?=some o) (hd:o.dst=some d) (hw:Region.wanted o (yielded ops T)=false)
 (h:rH P ops Q tail r ⟨T.setIfInBounds d undef,D⟩ w):rH P ops Q tail (.one i r) ⟨T,D⟩ w:=by
 have h0:rH P ops Q tail r ((Act.mk T D).put o.dst undef) w:=by rw [hd];exact h
 simp only [rH,hi];have h1:∀S:Exit→Act→World→Prop,S .normal ((Act.mk T D).put o.dst undef) w→wpList P ops S [o] (Act.mk T D) w:=fun S hS=>by
  simp only [wpList,hw,Bool.false_eq_true,if_false];exact hS
 split
 ·exact ⟨fun hx=>absurd hx (by simp [hw]),h1 _ ⟨rfl,h0⟩⟩
 ·exact h1 _ ⟨Ext.refl _,h0⟩
theorem va {Q:Exit→Act→World→Prop} {tail:List Oper} {a:Act} {w:World} (h:wpList P ops Q tail a w):rH P ops Q tail .leaf a w:=h
def sJ (P:Program) (md:Region.Mode) (ops:Array Oper) (n:Nat):HG→Array Bool→Bool
 |.leaf,aj=>Region.seqB md ops (ops.size-n) n aj
 |.one i r,aj=>decide (i<n) && (match ops[i]? with
  |none=>false
  |some o=>if cU P o.op=true then (Region.ready md ops aj).contains i && Region.free md ops aj i else decide (Region.ready md ops aj=[i])) &&
  sJ P md ops n r (aj.setIfInBounds i true)
 |.two i k r s,aj=>decide (i<n) && decide (k<n) && decide (r.len=s.len) && decide (Region.ready md ops aj=[i,k]) && sJ P md ops n r (aj.setIfInBounds i true) && sJ P md ops n s (aj.setIfInBounds k true)
 |.act i r,aj=>decide (i<n) && decide (Region.ready md ops aj=[i]) && sJ P md ops n r (aj.setIfInBounds i true)
def GV (P:Program) (md:Region.Mode) (ops:Array Oper) (n:Nat) (r:HG):Bool:=
 Region.noSelect ops && (decide (n=ops.size) || (decide (n<ops.size) && Region.sinkB md ops n && Region.chainB md ops n)) && decide (r.len=n) && sJ P md ops n r (Array.replicate ops.size false)
theorem kH {n:Nat} {Q:Exit→Act→World→Prop} {tail:List Oper} {r:HG} {j:Nat} {o:Oper} {aj:Array Bool} {a:Act} {w:World} {f:Nat} (ho:ops[j]?=some o)
 (step:∀a' w',j7 w (rH P ops Q tail r) .normal a' w'→dP P md ops n (Ext w) (fun fD a' w'=>Region.seqB md ops (ops.size-n) n fD=true∧wpList P ops Q tail a' w') f (aj.setIfInBounds j true) a' w')
 (h:wpList P ops (j7 w (rH P ops Q tail r)) [o] a w) :
 wpOp P ops LZ j (dP P md ops n (Ext w) (fun fD a' w'=>Region.seqB md ops (ops.size-n) n fD=true∧wpList P ops Q tail a' w') f (aj.setIfInBounds j true)) a w:=by
 unfold wpOp;simp only [ho];simp only [wpList] at h;by_cases hw:Region.wanted o (yielded ops a.tmps)=true
 ·rw [if_pos hw] at h ⊢;rcases h with h|⟨_,_,_,hx⟩
  ·exact .inl (pd tr step h)
  ·exact hx.elim
 ·rw [if_neg hw] at h ⊢;exact step _ _ h
theorem jv {n:Nat} {Q:Exit→Act→World→Prop} {tail:List Oper} (ef:∀(j:Nat) (o:Oper) cs b,ops[j]?=some o→o.op ≠ .select cs b) (ez:vC md ops n) :
 ∀(r:HG) (aj:Array Bool) (a:Act) (w:World),HeadInv md ops n aj→sJ P md ops n r aj=true→rH P ops Q tail r a w→
  dP P md ops n (Ext w) (fun fD a' w'=>Region.seqB md ops (ops.size-n) n fD=true∧wpList P ops Q tail a' w') r.len aj a w
 |.leaf,_,_,w,_,hB,h=>⟨Ext.refl w,hB,h⟩
 |.two i k r s,aj,a,w,inv,hB,h=>by
  simp only [sJ,Bool.and_eq_true,decide_eq_true_eq] at hB;obtain ⟨⟨⟨⟨⟨eN,xo⟩,hlen⟩,fQ⟩,iI⟩,nh⟩:=hB;cases ho:ops[i]? with
  |none=>simp only [rH,ho] at h
  |some o=>
   cases yx:ops[k]? with
   |none=>simp only [rH,ho,yx] at h
   |some o'=>
    simp only [rH,ho,yx] at h;have IY:i∈Region.ready md ops aj:=by rw [fQ];simp
    have IZ:k∈Region.ready md ops aj:=by rw [fQ];simp
    refine ⟨Ext.refl w,by rw [fQ];simp,fun j hj=>?_⟩;rw [fQ] at hj;simp only [mem_cons,not_mem_nil,or_false] at hj;rcases hj with rfl|rfl
    ·exact ⟨eN,kH ho (fun a' w' hs=>gV (fun w2 h2=>hs.1.trans h2) _ _ _ _ (jv ef ez r _ a' w' (inv.set IY eN) iI hs.2)) h.1⟩
    ·refine ⟨xo,kH yx (fun a' w' hs=>?_) h.2⟩;have:=gV (fun w2 h2=>hs.1.trans h2) _ _ _ _ (jv ef ez s _ a' w' (inv.set IZ xo) nh hs.2);rw [←hlen] at this;exact this
 |.one i r,aj,a,w,inv,hB,h=>by
  simp only [sJ,Bool.and_eq_true,decide_eq_true_eq] at hB;obtain ⟨⟨eN,iI⟩,nh⟩:=hB;cases ho:ops[i]? with
  |none=>rw [ho] at iI;cases iI
  |some o=>
   rw [ho] at iI;simp only [rH,ho] at h;simp only at iI;have fJ:∀(aj:Array Bool) (a:Act) (w:World),(Region.seqB md ops (ops.size-n) n aj=true∧wpList P ops Q tail a w)→∀j∈Region.ready md ops aj,n≤j:=fun _ _ _ hx=>seqB_ready hx.1
   by_cases hk:cU P o.op=true
   ·rw [if_pos hk] at iI h;simp only [Bool.and_eq_true] at iI;have hr:i∈Region.ready md ops aj:=by simpa using iI.1
    obtain ⟨hp,h⟩:=h;simp only [wpList] at h;have key:∃v,fv P ops (Ext w) o v a∧rH P ops Q tail r (a.put o.dst v) w:=by
     by_cases hw:Region.wanted o (yielded ops a.tmps)=true
     ·rw [if_pos hw] at h;rcases h with h|⟨_,_,_,hx⟩
      ·have dk:=aq.op (P:=P) (o:=o) (a:=a) hk (hp hw);unfold Oper.wp at h;cases bX:(execOp a.eval o).run P w with
       |halt x w'=>
        rw [bX] at h;cases x<;>simp only [Oper.upon] at h
        exact h.elim
       |ok nx w'=>
        obtain ⟨rfl,dX⟩:=dk w nx w' bX;rw [bX] at h;have Ar:∃v,nx = .value v:=by
         obtain ⟨dst,op,type,pos,after,guard⟩:=o;have jK:∀{s:Sem Value},(do Pure.pure (Next.value (←s)):Sem Next).run P w' = .ok nx w'→∃v,nx = .value v:=fun {s} hs=>by
          rw [Sem.run_bind] at hs;cases mK:s.run P w' with
          |halt _ _=>rw [mK] at hs;cases hs
          |ok v w2=>
           rw [mK] at hs;simp only [Result.andThen,Sem.run_pure,Result.ok.injEq] at hs;exact ⟨v,hs.1.symm⟩
         cases op<;>first|exact absurd hk Bool.false_ne_true|exact jK bX|skip
         case move x=>simp only [execOp,Sem.run_pure,Result.ok.injEq] at bX;exact ⟨_,bX.1.symm⟩
         case assign x=>simp only [execOp,Sem.run_pure,Result.ok.injEq] at bX;exact ⟨_,bX.1.symm⟩
         case pick c x y=>
          simp only [execOp,Sem.run_bind] at bX;cases mK:(asBool (a.eval c)).run P w' with
          |halt _ _=>rw [mK] at bX;cases bX
          |ok v w2=>
           rw [mK] at bX;simp only [Result.andThen,Sem.run_pure,Result.ok.injEq] at bX;exact ⟨_,bX.1.symm⟩
         case nilCheck x=>
          have As:=hp hw;simp only [fm] at As;simp only [execOp] at bX;split at As
          ·rename_i ad he;rw [he] at bX;simp only [Sem.run_pure,Result.ok.injEq] at bX;exact ⟨_,bX.1.symm⟩
          ·cases As
         case call c=>
          obtain ⟨⟨x,t⟩,hc⟩:=Option.isSome_iff_exists.1 (show (mJ c).isSome=true from hk);have pc:=jJ hc;subst pc;refine jK (s:=Builtin.len_ #[t] type #[a.eval x]) ?_;rw [←bX];simp only [execOp,resolve,invoke,builtin,Sem.run_bind,Sem.run_pure,Result.andThen_ok,map_toArray,map_cons,map_nil]
        obtain ⟨v,rfl⟩:=Ar;simp only [Oper.upon] at h;exact ⟨v,.inl ⟨hw,fun w2 mA=>dX w2 mA⟩,h.2⟩
      ·exact hx.elim
     ·rw [if_neg hw] at h;exact ⟨undef,.inr ⟨by simpa using hw,rfl⟩,h.2⟩
    obtain ⟨v,hy,hX⟩:=key;exact vD ho ef ez eN fJ r.len aj a w inv (fun j oj hj dO pe iR=>Region.free_spec ho iI.2 j oj hj dO pe iR) hr hy (Ext.refl w)
     (jv ef ez r _ _ w (inv.set hr eN) nh hX)
   ·rw [if_neg hk] at iI h;have fQ:Region.ready md ops aj=[i]:=by simpa using iI
    have hr:i∈Region.ready md ops aj:=by rw [fQ];simp
    refine ⟨Ext.refl w,by rw [fQ];simp,fun j hj=>?_⟩;rw [fQ] at hj;have oY:j=i:=by simpa using hj
    subst oY;exact ⟨eN,kH ho (fun a' w' hs=>gV (fun w2 h2=>hs.1.trans h2) _ _ _ _ (jv ef ez r _ a' w' (inv.set hr eN) nh hs.2)) h⟩
 |.act i r,aj,a,w,inv,hB,h=>by
  simp only [sJ,Bool.and_eq_true,decide_eq_true_eq] at hB;obtain ⟨⟨eN,fQ⟩,nh⟩:=hB;cases ho:ops[i]? with
  |none=>simp only [rH,ho] at h
  |some o=>
   simp only [rH,ho] at h;have hr:i∈Region.ready md ops aj:=by rw [fQ];simp
   refine ⟨Ext.refl w,by rw [fQ];simp,fun j hj=>?_⟩;rw [fQ] at hj;have oY:j=i:=by simpa using hj
   subst oY;exact ⟨eN,kH ho (fun a' w' hs=>gV (fun w2 h2=>hs.1.trans h2) _ _ _ _ (jv ef ez r _ a' w' (inv.set hr eN) nh hs.2)) h⟩
theorem mV {id:Nat} {Q:Exit→Act→World→Prop} {a:Act} {w:World} {l:List Oper} (n:Nat) (r:HG) (hm:P.follows .mixedOrders=true) (hB:GV P .any l.toArray n r=true)
 (h:rH P l.toArray Q (l.drop n) r a w.drew):(Code.region id l.toArray true).wp P Q a w:=by
 simp only [GV,Bool.and_eq_true,Bool.or_eq_true,decide_eq_true_eq] at hB;obtain ⟨⟨⟨ef,hcut⟩,hlen⟩,tu⟩:=hB;have RD:n≤l.length:=by
  rcases hcut with h1|h1
  ·simp at h1;omega
  ·have:=h1.1.1;simp at this;omega
 have ez:vC .any l.toArray n:=by
  rcases hcut with h1|h1
  ·intro aj _ i _ _ t ht;obtain ⟨_,o,ho,_⟩:=mem_ready.1 ht;have:=(Array.getElem?_eq_some_iff.1 ho).1;omega
  ·intro aj inv i eN pe t ht;rcases Nat.lt_or_ge t n with h2|h2
   ·exact h2
   ·exact absurd ht (tail_waits h1.1.2 h1.2 h1.1.1 inv _ i rfl eN pe t h2)
 have tv:HeadInv .any l.toArray n (Array.replicate l.toArray.size false):=
  ⟨by simp,fun j oj _ hl=>(by rw [getD_replicate_false] at hl;cases hl),fun t _ ht=>getD_in (by simpa using ht) (getD_replicate_false _ _)⟩;have h1:=jv (P:=P) (Region.noSelect_spec ef) ez r _ a w.drew tv tu h;have o6:(l.drop n).length=l.toArray.size-n:=by simp
 have h2:=gW (Q:=Q) (g:=l.toArray.size-n) (fun fD a' w' hx=>by
  rw [←o6];refine wpAny_of_seq (l.drop n) n fD a' w' (fun j=>by simp [List.getElem?_drop]) ?_ hx.2;rw [o6];exact hx.1) r.len _ a w.drew h1;refine wp_region_any hm ?_;rw [show l.toArray.size=r.len+(l.toArray.size-n) by simp;omega];rw [show r.len+(l.toArray.size-n)=l.toArray.size by simp;omega];rw [show r.len+(l.toArray.size-n)=l.toArray.size by simp;omega] at h2;exact h2
end
structure jE where
 i:Nat
 h:Int
def qu (h:Int):Int:=wrap64 (wrap64 (h*6364136223846793005)+1442695040888963407)
def xK (h:Int):Nat:=(bits .and .i64 (bits .xor .i64 (h/8589934592) (h/35184372088832)) 255).toNat
def dD (xs:List UInt8) (s:jE):Nat × jE:=
 match xs[s.i]? with
 |some b=>((bits .and .i64 ((xK (qu s.h):Int)+(b.toNat:Int)) 255).toNat,⟨s.i+1,qu s.h⟩)
 |none=>(xK (qu s.h),⟨s.i,qu s.h⟩)
def dw (xs:List UInt8) (n:Nat) (s:jE):Nat × jE:=
 if n≤256 then ((dD xs s).1%n,(dD xs s).2) else
  let a:=dD xs s
  let b:=dD xs a.2
  let c:=dD xs b.2
  let d:=dD xs c.2
  ((a.1*16777216+b.1*65536+c.1*256+d.1)%n,d.2)
def Eg (xs:List UInt8) (n:Nat) (s:jE):Bool × jE:=(decide ((dw xs n s).1=0),(dw xs n s).2)
def kC (k b:Nat):Nat:=if k=1 then b%2 else if k=2 then 97+b%4 else b
def pF (xs:List UInt8) (k:Nat):Nat→List UInt8→jE→List UInt8 × jE
 |0,acc,s=>(acc,s)
 |n+1,acc,s=>pF xs k n (acc++[UInt8.ofNat (kC k (dD xs s).1)]) (dD xs s).2
def uq (xs:List UInt8) (jY:Nat) (s:jE):List UInt8 × jE:=
 let k:=dw xs 4 s
 let n:=dw xs (jY+1) k.2
 pF xs k.1 n.1 [] n.2
def Hc:List Int:=[-1,0,127,128,255,256,16383,16384,65535,65536,562949953421311,562949953421312,999999999,1000000000,-999999999,9223372036854775807,-9223372036854775808]
def Za (xs:List UInt8) (s:jE):Int × jE:=
 let k:=dw xs 8 s
 if k.1=0 then (Hc.getD (dw xs 17 k.2).1 0,(dw xs 17 k.2).2)
 else if k.1=1 then (((dw xs 1000000000 k.2).1:Int)*((dw xs 1000000000 (dw xs 1000000000 k.2).2).1:Int),(dw xs 1000000000 (dw xs 1000000000 k.2).2).2)
 else if k.1=2 then (-((dw xs 100000 k.2).1:Int),(dw xs 100000 k.2).2)
 else (((dw xs 70000 k.2).1:Int),(dw xs 70000 k.2).2)
def CW (c:UInt8) (b:Nat):UInt8:=UInt8.ofNat (bits .xor .i64 ((c.toNat:Nat):Int) (1+(b:Int))%256).toNat
def tM (xs:List UInt8) (s:jE) (l:List UInt8):List UInt8 × jE:=
 if l=[] then uq xs 3 s else
  let k:=dw xs l.length s
  let m:=dw xs 4 k.2
  if m.1=0 then (l.take k.1++l.drop (k.1+1),m.2)
  else if m.1=1 then (l.take k.1++[UInt8.ofNat (dD xs m.2).1]++l.drop k.1,(dD xs m.2).2)
  else if m.1=2 then (l.take k.1,m.2)
  else (l.take k.1++[CW (l.getD k.1 0) (dw xs 255 m.2).1]++l.drop (k.1+1),(dw xs 255 m.2).2)
def Bh (xs:List UInt8):Nat→Int
 |0=>10101+(xs.length:Int)
 |k+1=>bits .and .i64 (wrap64 (wrap64 (wrap64 (Bh xs k*131)+(((xs.getD k 0).toNat:Nat):Int))+7)) 1073741823
theorem Ff (xs:List UInt8) (k:Nat):Bh xs (k+1)=bits .and .i64 (wrap64 (wrap64 (wrap64 (Bh xs k*131)+(((xs.getD k 0).toNat:Nat):Int))+7)) 1073741823:=rfl
def CX (xs:List UInt8):jE:=⟨0,Bh xs (min xs.length 4000)⟩
theorem zf (X:Int):∃m:Nat,m≤255∧bits .and .i64 X 255=(m:Int):=by
 refine ⟨(BitVec.ofInt 64 X).toNat &&& 255,Nat.and_le_right,?_⟩;show IntKind.i64.wrap ((BitVec.ofInt 64 X &&& BitVec.ofInt 64 (255:Int)).toNat:Int)=_;have e2:(BitVec.ofInt 64 (255:Int)).toNat=255:=by decide
 have h:(BitVec.ofInt 64 X).toNat &&& 255≤255:=Nat.and_le_right;rw [BitVec.toNat_and,e2,IntKind.wrap_i64];omega
theorem Mu (X:Int):∃q:Nat,q≤255∧X%256=(q:Int):=⟨(X%256).toNat,by omega,by omega⟩
theorem zg (h:Int):xK h≤255∧bits .and .i64 (bits .xor .i64 (h/8589934592) (h/35184372088832)) 255=(xK h:Int):=by
 obtain ⟨m,h1,h2⟩:=zf (bits .xor .i64 (h/8589934592) (h/35184372088832));unfold xK;rw [h2];exact ⟨by simpa using h1,by simp⟩
theorem jQ (xs:List UInt8) (s:jE):(dD xs s).1≤255:=by
 unfold dD;split
 ·rename_i b _;obtain ⟨m,h1,h2⟩:=zf ((xK (qu s.h):Int)+(b.toNat:Int));rw [h2];simpa using h1
 ·exact (zg _).1
theorem Fg {xs:List UInt8} {s:jE} (hi:s.i<xs.length):bits .and .i64 ((xK (qu s.h):Int)+(xs[s.i].toNat:Int)) 255=((dD xs s).1:Int)∧(dD xs s).2=⟨s.i+1,qu s.h⟩:=by
 unfold dD;rw [List.getElem?_eq_getElem hi];obtain ⟨m,h1,h2⟩:=zf ((xK (qu s.h):Int)+(xs[s.i].toNat:Int));simp only [h2];simp
theorem Hd {xs:List UInt8} {s:jE} (hi:¬s.i<xs.length):dD xs s=(xK (qu s.h),⟨s.i,qu s.h⟩):=by
 unfold dD;rw [List.getElem?_eq_none (by omega)]
theorem JT {xs:List UInt8} {s:jE} (hi:s.i≤xs.length):(dD xs s).2.i≤xs.length:=by
 unfold dD;split
 ·rename_i b hb;have:=(List.getElem?_eq_some_iff.1 hb).1;simp only;omega
 ·exact hi
theorem fc (xs:List UInt8) (n:Nat) (s:jE) (hn:1≤n):(dw xs n s).1<n:=by
 unfold dw;split
 ·exact Nat.mod_lt _ hn
 ·exact Nat.mod_lt _ hn
theorem Fh {k b:Nat} (h:b≤255):kC k b≤255:=by
 unfold kC;split
 ·omega
 ·split<;>omega
theorem yz (xs:List UInt8) (k:Nat):∀(n:Nat) (acc:List UInt8) (s:jE),(pF xs k n acc s).1.length=acc.length+n
 |0,_,_=>rfl
 |n+1,acc,s=>by
  rw [pF,yz xs k n,length_append];simp only [length_cons,length_nil];omega
theorem yA (xs:List UInt8) (jY:Nat) (s:jE):(uq xs jY s).1.length≤jY:=by
 unfold uq;have:=fc xs (jY+1) (dw xs 4 s).2 (by omega);simp only [yz,length_nil];omega
def rr (x r:Nat):Nat:=x >>> r ||| (x <<< (32-r))%4294967296
def On (x:Nat):Nat:=rr x 7 ^^^ rr x 18 ^^^ x >>> 3
def Oo (x:Nat):Nat:=rr x 17 ^^^ rr x 19 ^^^ x >>> 10
def MH (e:Nat):Nat:=rr e 6 ^^^ rr e 11 ^^^ rr e 25
def PY (a:Nat):Nat:=rr a 2 ^^^ rr a 13 ^^^ rr a 22
def MI (e f g:Nat):Nat:=(e &&& f) ^^^ ((4294967295-e) &&& g)
def PZ (a b c:Nat):Nat:=(a &&& b) ^^^ (a &&& c) ^^^ (b &&& c)
theorem fM {x:Nat} (r:Nat) (h:x<4294967296):rr x r<4294967296:=
 Nat.or_lt_two_pow (n:=32) (Nat.lt_of_le_of_lt (by rw [Nat.shiftRight_eq_div_pow];exact Nat.div_le_self _ _) h) (Nat.mod_lt _ (by omega))
theorem iP {a b:Nat} (h:a<4294967296) (k:b<4294967296):a ^^^ b<4294967296:=Nat.xor_lt_two_pow (n:=32) h k
theorem jb {a b:Nat} (h:a<4294967296):a &&& b<4294967296:=Nat.lt_of_le_of_lt Nat.and_le_left h
theorem eU {a:Nat} (k:Nat) (h:a<4294967296):a >>> k<4294967296:=Nat.lt_of_le_of_lt (by rw [Nat.shiftRight_eq_div_pow];exact Nat.div_le_self _ _) h
theorem MJ {x:Nat} (h:x<4294967296):On x<4294967296:=iP (iP (fM _ h) (fM _ h)) (eU _ h)
theorem MK {x:Nat} (h:x<4294967296):Oo x<4294967296:=iP (iP (fM _ h) (fM _ h)) (eU _ h)
theorem ML {x:Nat} (h:x<4294967296):PY x<4294967296:=iP (iP (fM _ h) (fM _ h)) (fM _ h)
theorem MN {x:Nat} (h:x<4294967296):MH x<4294967296:=iP (iP (fM _ h) (fM _ h)) (fM _ h)
theorem MO {e f g:Nat} (h:e<4294967296):MI e f g<4294967296:=iP (jb h) (jb (by omega))
theorem MP {a b c:Nat} (h:a<4294967296) (k:b<4294967296):PZ a b c<4294967296:=iP (iP (jb h) (jb h)) (jb k)
def Ub (b:List UInt8) (i:Nat):Nat:=(b.getD (4*i) 0).toNat <<< 24 ||| (b.getD (4*i+1) 0).toNat <<< 16 ||| (b.getD (4*i+2) 0).toNat <<< 8 ||| (b.getD (4*i+3) 0).toNat
theorem nT (b:UInt8) (k:Nat) (h:k≤24):b.toNat <<< k<4294967296:=by
 have hb:=b.toNat_lt;rw [Nat.shiftLeft_eq];have:2 ^ k≤2 ^ 24:=Nat.pow_le_pow_right (by omega) h;have h2:b.toNat*2 ^ k≤255*2 ^ 24:=Nat.mul_le_mul (by omega) this;omega
theorem MQ (b:List UInt8) (i:Nat):Ub b i<4294967296:=
 Nat.or_lt_two_pow (n:=32) (Nat.or_lt_two_pow (n:=32) (Nat.or_lt_two_pow (n:=32) (nT _ _ (by omega)) (nT _ _ (by omega))) (nT _ _ (by omega))) (by have:=(b.getD (4*i+3) 0).toNat_lt;omega)
def zp (b:List UInt8) (k:Nat) (l:List Nat):Nat:=
 if k<16 then Ub b k else (l.getD (k-16) 0+On (l.getD (k-15) 0)+l.getD (k-7) 0+Oo (l.getD (k-2) 0))%4294967296
theorem J6 (b:List UInt8) (k:Nat) (l:List Nat):zp b k l<4294967296:=by
 unfold zp;split
 ·exact MQ _ _
 ·exact Nat.mod_lt _ (by omega)
def sW (b:List UInt8):Nat→List Nat
 |0=>[]
 |k+1=>sW b k++[zp b k (sW b k)]
theorem mw (b:List UInt8):∀k,(sW b k).length=k
 |0=>rfl
 |k+1=>by rw [sW,length_append,mw b k];rfl
theorem tS (b:List UInt8):∀k,∀x∈sW b k,x<4294967296
 |0,x,h=>by cases h
 |k+1,x,h=>by
  rw [sW,mem_append] at h;rcases h with h|h
  ·exact tS b k x h
  ·rw [List.mem_singleton] at h;rw [h];exact J6 _ _ _
theorem oL {l:List Nat} (h:∀x∈l,x<4294967296) (i:Nat):l.getD i 0<4294967296:=by
 rw [List.getD_eq_getElem?_getD];cases hi:l[i]? with
 |none=>simp
 |some v=>exact h v (List.mem_of_getElem? hi)
structure V8 where
 a:Nat
 b:Nat
 c:Nat
 d:Nat
 e:Nat
 f:Nat
 g:Nat
 h:Nat
def V8.ok (v:V8):Prop:=v.a<4294967296∧v.b<4294967296∧v.c<4294967296∧v.d<4294967296∧v.e<4294967296∧v.f<4294967296∧v.g<4294967296∧v.h<4294967296
def V8.pN (v:V8):List Nat:=[v.a,v.b,v.c,v.d,v.e,v.f,v.g,v.h]
def rT (v:V8) (k w:Nat):Nat:=v.h+MH v.e+MI v.e v.f v.g+k+w
def rU (v:V8):Nat:=PY v.a+PZ v.a v.b v.c
def Uc (v:V8) (k w:Nat):V8:=⟨(rT v k w+rU v)%4294967296,v.a,v.b,v.c,(v.d+rT v k w)%4294967296,v.e,v.f,v.g⟩
theorem MR {v:V8} (h:v.ok) (k w:Nat):(Uc v k w).ok:=
 ⟨Nat.mod_lt _ (by omega),h.1,h.2.1,h.2.2.1,Nat.mod_lt _ (by omega),h.2.2.2.2.1,h.2.2.2.2.2.1,h.2.2.2.2.2.2.1⟩
def wK (ks ws:List Nat) (v:V8):Nat→V8
 |0=>v
 |i+1=>Uc (wK ks ws v i) (ks.getD i 0) (ws.getD i 0)
theorem zq (ks ws:List Nat) {v:V8} (h:v.ok):∀i,(wK ks ws v i).ok
 |0=>h
 |i+1=>MR (zq ks ws h i) _ _
def V8.add (h v:V8):V8:=⟨(h.a+v.a)%4294967296,(h.b+v.b)%4294967296,(h.c+v.c)%4294967296,(h.d+v.d)%4294967296,(h.e+v.e)%4294967296,(h.f+v.f)%4294967296,(h.g+v.g)%4294967296,(h.h+v.h)%4294967296⟩
theorem V8.MS (h v:V8):(h.add v).ok:=
 ⟨Nat.mod_lt _ (by omega),Nat.mod_lt _ (by omega),Nat.mod_lt _ (by omega),Nat.mod_lt _ (by omega),Nat.mod_lt _ (by omega),Nat.mod_lt _ (by omega),Nat.mod_lt _ (by omega),Nat.mod_lt _ (by omega)⟩
def oM:List Nat:=[
 0x428a2f98,0x71374491,0xb5c0fbcf,0xe9b5dba5,0x3956c25b,0x59f111f1,0x923f82a4,0xab1c5ed5,
 0xd807aa98,0x12835b01,0x243185be,0x550c7dc3,0x72be5d74,0x80deb1fe,0x9bdc06a7,0xc19bf174,
 0xe49b69c1,0xefbe4786,0x0fc19dc6,0x240ca1cc,0x2de92c6f,0x4a7484aa,0x5cb0a9dc,0x76f988da,
 0x983e5152,0xa831c66d,0xb00327c8,0xbf597fc7,0xc6e00bf3,0xd5a79147,0x06ca6351,0x14292967,
 0x27b70a85,0x2e1b2138,0x4d2c6dfc,0x53380d13,0x650a7354,0x766a0abb,0x81c2c92e,0x92722c85,
 0xa2bfe8a1,0xa81a664b,0xc24b8b70,0xc76c51a3,0xd192e819,0xd6990624,0xf40e3585,0x106aa070,
 0x19a4c116,0x1e376c08,0x2748774c,0x34b0bcb5,0x391c0cb3,0x4ed8aa4a,0x5b9cca4f,0x682e6ff3,
 0x748f82ee,0x78a5636f,0x84c87814,0x8cc70208,0x90befffa,0xa4506ceb,0xbef9a3f7,0xc67178f2]
theorem Bz:oM.length=64:=by decide
theorem J7:∀x∈oM,x<4294967296:=by decide
def Fq (h:V8) (b:List UInt8):V8:=h.add (wK oM (sW b 64) h 64)
theorem J8 (h:V8) (b:List UInt8):(Fq h b).ok:=V8.MS _ _
def Fs:V8:=⟨0x6a09e667,0xbb67ae85,0x3c6ef372,0xa54ff53a,0x510e527f,0x9b05688c,0x1f83d9ab,0x5be0cd19⟩
theorem J9:Fs.ok:=by unfold V8.ok Fs;decide
def zr (t:List UInt8):Nat→V8
 |0=>Fs
 |k+1=>Fq (zr t k) ((t.drop (64*k)).take 64)
theorem Ep (t:List UInt8):∀k,(zr t k).ok
 |0=>J9
 |_+1=>J8 _ _
def Da (n:Nat):Nat:=(64-(n+9)%64)%64
def xQ (l:List UInt8):List UInt8:=l++(128::List.replicate (Da l.length) 0++gz 8 (8*l.length))
theorem ux (l:List UInt8):(xQ l).length=l.length+Da l.length+9:=by
 simp [xQ,iT];omega
theorem Hu (l:List UInt8):(xQ l).length%64=0:=by rw [ux,Da];omega
def Ud (l:List UInt8):V8:=zr (xQ l) ((xQ l).length/64)
def tT (l:List Nat):List UInt8:=l.flatMap (gz 4)
def BC (l:List UInt8):List UInt8:=tT (Ud l).pN
theorem uy:∀l:List Nat,(tT l).length=4*l.length
 |[]=>rfl
 |x::l=>by rw [tT,List.flatMap_cons,length_append,iT];have:=uy l;rw [tT] at this;rw [this];simp;omega
theorem BD (l:List UInt8):(BC l).length=32:=by rw [BC,uy];rfl
theorem Ue (x:Nat) (hx:x<4294967296):(x:Int)/(4:Int)=((x >>> 2:Nat):Int)∧(x:Int)*(1073741824:Int)=((x <<< (32-2):Nat):Int)∧x >>> 2<4294967296∧x <<< (32-2)<9223372036854775808:=
 ⟨by rw [Nat.shiftRight_eq_div_pow];omega,by rw [Nat.shiftLeft_eq];omega,eU _ hx,by rw [Nat.shiftLeft_eq];omega⟩
theorem Uf (x:Nat) (w:World) (hx:x<4294967296) :
 Calls Tryz.prog 111 #[x,.int .u64 2] w fun e w'=>e = .returned (.int .i64 ((rr x 2:Nat):Int))∧w=w':=by
 have hz:bits .and .i64 (bits .or .i64 ((x:Int)/(4:Int)) ((x:Int)*(1073741824:Int))) (4294967295:Int)=((rr x 2:Nat):Int):=by
  obtain ⟨e1,e2,l1,l2⟩:=Ue x hx;have l3:x >>> 2 ||| x <<< (32-2)<2 ^ 63:=Nat.or_lt_two_pow (by omega) (by omega);rw [e1,e2,dZ _ _ (by omega) (by omega),show (4294967295:Int)=((4294967295:Nat):Int) from rfl,dg _ _ (by omega) (by omega)];congr 1;rw [show (4294967295:Nat)=2 ^ 32-1 from rfl,Nat.and_two_pow_sub_one_eq_mod,Nat.or_mod_two_pow,rr];congr 1;exact Nat.mod_eq_of_lt (eU 2 hx)
 have HZ:=Hi hz;clear hz;go_enter Tryz.func111,Tryz.ntmps111;go_wp2;go_ret;exact ⟨au (by rw [←HZ.o];rfl),rfl⟩
theorem Ug (x:Nat) (hx:x<4294967296):(x:Int)/(64:Int)=((x >>> 6:Nat):Int)∧(x:Int)*(67108864:Int)=((x <<< (32-6):Nat):Int)∧x >>> 6<4294967296∧x <<< (32-6)<9223372036854775808:=
 ⟨by rw [Nat.shiftRight_eq_div_pow];omega,by rw [Nat.shiftLeft_eq];omega,eU _ hx,by rw [Nat.shiftLeft_eq];omega⟩
theorem Uh (x:Nat) (w:World) (hx:x<4294967296) :
 Calls Tryz.prog 111 #[x,.int .u64 6] w fun e w'=>e = .returned (.int .i64 ((rr x 6:Nat):Int))∧w=w':=by
 have hz:bits .and .i64 (bits .or .i64 ((x:Int)/(64:Int)) ((x:Int)*(67108864:Int))) (4294967295:Int)=((rr x 6:Nat):Int):=by
  obtain ⟨e1,e2,l1,l2⟩:=Ug x hx;have l3:x >>> 6 ||| x <<< (32-6)<2 ^ 63:=Nat.or_lt_two_pow (by omega) (by omega);rw [e1,e2,dZ _ _ (by omega) (by omega),show (4294967295:Int)=((4294967295:Nat):Int) from rfl,dg _ _ (by omega) (by omega)];congr 1;rw [show (4294967295:Nat)=2 ^ 32-1 from rfl,Nat.and_two_pow_sub_one_eq_mod,Nat.or_mod_two_pow,rr];congr 1;exact Nat.mod_eq_of_lt (eU 6 hx)
 have HZ:=Hi hz;clear hz;go_enter Tryz.func111,Tryz.ntmps111;go_wp2;go_ret;exact ⟨au (by rw [←HZ.o];rfl),rfl⟩
theorem Ui (x:Nat) (hx:x<4294967296):(x:Int)/(128:Int)=((x >>> 7:Nat):Int)∧(x:Int)*(33554432:Int)=((x <<< (32-7):Nat):Int)∧x >>> 7<4294967296∧x <<< (32-7)<9223372036854775808:=
 ⟨by rw [Nat.shiftRight_eq_div_pow];omega,by rw [Nat.shiftLeft_eq];omega,eU _ hx,by rw [Nat.shiftLeft_eq];omega⟩
theorem Uj (x:Nat) (w:World) (hx:x<4294967296) :
 Calls Tryz.prog 111 #[x,.int .u64 7] w fun e w'=>e = .returned (.int .i64 ((rr x 7:Nat):Int))∧w=w':=by
 have hz:bits .and .i64 (bits .or .i64 ((x:Int)/(128:Int)) ((x:Int)*(33554432:Int))) (4294967295:Int)=((rr x 7:Nat):Int):=by
  obtain ⟨e1,e2,l1,l2⟩:=Ui x hx;have l3:x >>> 7 ||| x <<< (32-7)<2 ^ 63:=Nat.or_lt_two_pow (by omega) (by omega);rw [e1,e2,dZ _ _ (by omega) (by omega),show (4294967295:Int)=((4294967295:Nat):Int) from rfl,dg _ _ (by omega) (by omega)];congr 1;rw [show (4294967295:Nat)=2 ^ 32-1 from rfl,Nat.and_two_pow_sub_one_eq_mod,Nat.or_mod_two_pow,rr];congr 1;exact Nat.mod_eq_of_lt (eU 7 hx)
 have HZ:=Hi hz;clear hz;go_enter Tryz.func111,Tryz.ntmps111;go_wp2;go_ret;exact ⟨au (by rw [←HZ.o];rfl),rfl⟩
theorem P0 (x:Nat) (hx:x<4294967296):(x:Int)/(2048:Int)=((x >>> 11:Nat):Int)∧(x:Int)*(2097152:Int)=((x <<< (32-11):Nat):Int)∧x >>> 11<4294967296∧x <<< (32-11)<9223372036854775808:=
 ⟨by rw [Nat.shiftRight_eq_div_pow];omega,by rw [Nat.shiftLeft_eq];omega,eU _ hx,by rw [Nat.shiftLeft_eq];omega⟩
theorem P1 (x:Nat) (w:World) (hx:x<4294967296) :
 Calls Tryz.prog 111 #[x,.int .u64 11] w fun e w'=>e = .returned (.int .i64 ((rr x 11:Nat):Int))∧w=w':=by
 have hz:bits .and .i64 (bits .or .i64 ((x:Int)/(2048:Int)) ((x:Int)*(2097152:Int))) (4294967295:Int)=((rr x 11:Nat):Int):=by
  obtain ⟨e1,e2,l1,l2⟩:=P0 x hx;have l3:x >>> 11 ||| x <<< (32-11)<2 ^ 63:=Nat.or_lt_two_pow (by omega) (by omega);rw [e1,e2,dZ _ _ (by omega) (by omega),show (4294967295:Int)=((4294967295:Nat):Int) from rfl,dg _ _ (by omega) (by omega)];congr 1;rw [show (4294967295:Nat)=2 ^ 32-1 from rfl,Nat.and_two_pow_sub_one_eq_mod,Nat.or_mod_two_pow,rr];congr 1;exact Nat.mod_eq_of_lt (eU 11 hx)
 have HZ:=Hi hz;clear hz;go_enter Tryz.func111,Tryz.ntmps111;go_wp2;go_ret;exact ⟨au (by rw [←HZ.o];rfl),rfl⟩
theorem P2 (x:Nat) (hx:x<4294967296):(x:Int)/(8192:Int)=((x >>> 13:Nat):Int)∧(x:Int)*(524288:Int)=((x <<< (32-13):Nat):Int)∧x >>> 13<4294967296∧x <<< (32-13)<9223372036854775808:=
 ⟨by rw [Nat.shiftRight_eq_div_pow];omega,by rw [Nat.shiftLeft_eq];omega,eU _ hx,by rw [Nat.shiftLeft_eq];omega⟩
theorem P3 (x:Nat) (w:World) (hx:x<4294967296) :
 Calls Tryz.prog 111 #[x,.int .u64 13] w fun e w'=>e = .returned (.int .i64 ((rr x 13:Nat):Int))∧w=w':=by
 have hz:bits .and .i64 (bits .or .i64 ((x:Int)/(8192:Int)) ((x:Int)*(524288:Int))) (4294967295:Int)=((rr x 13:Nat):Int):=by
  obtain ⟨e1,e2,l1,l2⟩:=P2 x hx;have l3:x >>> 13 ||| x <<< (32-13)<2 ^ 63:=Nat.or_lt_two_pow (by omega) (by omega);rw [e1,e2,dZ _ _ (by omega) (by omega),show (4294967295:Int)=((4294967295:Nat):Int) from rfl,dg _ _ (by omega) (by omega)];congr 1;rw [show (4294967295:Nat)=2 ^ 32-1 from rfl,Nat.and_two_pow_sub_one_eq_mod,Nat.or_mod_two_pow,rr];congr 1;exact Nat.mod_eq_of_lt (eU 13 hx)
 have HZ:=Hi hz;clear hz;go_enter Tryz.func111,Tryz.ntmps111;go_wp2;go_ret;exact ⟨au (by rw [←HZ.o];rfl),rfl⟩
theorem P4 (x:Nat) (hx:x<4294967296):(x:Int)/(131072:Int)=((x >>> 17:Nat):Int)∧(x:Int)*(32768:Int)=((x <<< (32-17):Nat):Int)∧x >>> 17<4294967296∧x <<< (32-17)<9223372036854775808:=
 ⟨by rw [Nat.shiftRight_eq_div_pow];omega,by rw [Nat.shiftLeft_eq];omega,eU _ hx,by rw [Nat.shiftLeft_eq];omega⟩
theorem P5 (x:Nat) (w:World) (hx:x<4294967296) :
 Calls Tryz.prog 111 #[x,.int .u64 17] w fun e w'=>e = .returned (.int .i64 ((rr x 17:Nat):Int))∧w=w':=by
 have hz:bits .and .i64 (bits .or .i64 ((x:Int)/(131072:Int)) ((x:Int)*(32768:Int))) (4294967295:Int)=((rr x 17:Nat):Int):=by
  obtain ⟨e1,e2,l1,l2⟩:=P4 x hx;have l3:x >>> 17 ||| x <<< (32-17)<2 ^ 63:=Nat.or_lt_two_pow (by omega) (by omega);rw [e1,e2,dZ _ _ (by omega) (by omega),show (4294967295:Int)=((4294967295:Nat):Int) from rfl,dg _ _ (by omega) (by omega)];congr 1;rw [show (4294967295:Nat)=2 ^ 32-1 from rfl,Nat.and_two_pow_sub_one_eq_mod,Nat.or_mod_two_pow,rr];congr 1;exact Nat.mod_eq_of_lt (eU 17 hx)
 have HZ:=Hi hz;clear hz;go_enter Tryz.func111,Tryz.ntmps111;go_wp2;go_ret;exact ⟨au (by rw [←HZ.o];rfl),rfl⟩
theorem P6 (x:Nat) (hx:x<4294967296):(x:Int)/(262144:Int)=((x >>> 18:Nat):Int)∧(x:Int)*(16384:Int)=((x <<< (32-18):Nat):Int)∧x >>> 18<4294967296∧x <<< (32-18)<9223372036854775808:=
 ⟨by rw [Nat.shiftRight_eq_div_pow];omega,by rw [Nat.shiftLeft_eq];omega,eU _ hx,by rw [Nat.shiftLeft_eq];omega⟩
theorem P7 (x:Nat) (w:World) (hx:x<4294967296) :
 Calls Tryz.prog 111 #[x,.int .u64 18] w fun e w'=>e = .returned (.int .i64 ((rr x 18:Nat):Int))∧w=w':=by
 have hz:bits .and .i64 (bits .or .i64 ((x:Int)/(262144:Int)) ((x:Int)*(16384:Int))) (4294967295:Int)=((rr x 18:Nat):Int):=by
  obtain ⟨e1,e2,l1,l2⟩:=P6 x hx;have l3:x >>> 18 ||| x <<< (32-18)<2 ^ 63:=Nat.or_lt_two_pow (by omega) (by omega);rw [e1,e2,dZ _ _ (by omega) (by omega),show (4294967295:Int)=((4294967295:Nat):Int) from rfl,dg _ _ (by omega) (by omega)];congr 1;rw [show (4294967295:Nat)=2 ^ 32-1 from rfl,Nat.and_two_pow_sub_one_eq_mod,Nat.or_mod_two_pow,rr];congr 1;exact Nat.mod_eq_of_lt (eU 18 hx)
 have HZ:=Hi hz;clear hz;go_enter Tryz.func111,Tryz.ntmps111;go_wp2;go_ret;exact ⟨au (by rw [←HZ.o];rfl),rfl⟩
theorem P8 (x:Nat) (hx:x<4294967296):(x:Int)/(524288:Int)=((x >>> 19:Nat):Int)∧(x:Int)*(8192:Int)=((x <<< (32-19):Nat):Int)∧x >>> 19<4294967296∧x <<< (32-19)<9223372036854775808:=
 ⟨by rw [Nat.shiftRight_eq_div_pow];omega,by rw [Nat.shiftLeft_eq];omega,eU _ hx,by rw [Nat.shiftLeft_eq];omega⟩
theorem P9 (x:Nat) (w:World) (hx:x<4294967296) :
 Calls Tryz.prog 111 #[x,.int .u64 19] w fun e w'=>e = .returned (.int .i64 ((rr x 19:Nat):Int))∧w=w':=by
 have hz:bits .and .i64 (bits .or .i64 ((x:Int)/(524288:Int)) ((x:Int)*(8192:Int))) (4294967295:Int)=((rr x 19:Nat):Int):=by
  obtain ⟨e1,e2,l1,l2⟩:=P8 x hx;have l3:x >>> 19 ||| x <<< (32-19)<2 ^ 63:=Nat.or_lt_two_pow (by omega) (by omega);rw [e1,e2,dZ _ _ (by omega) (by omega),show (4294967295:Int)=((4294967295:Nat):Int) from rfl,dg _ _ (by omega) (by omega)];congr 1;rw [show (4294967295:Nat)=2 ^ 32-1 from rfl,Nat.and_two_pow_sub_one_eq_mod,Nat.or_mod_two_pow,rr];congr 1;exact Nat.mod_eq_of_lt (eU 19 hx)
 have HZ:=Hi hz;clear hz;go_enter Tryz.func111,Tryz.ntmps111;go_wp2;go_ret;exact ⟨au (by rw [←HZ.o];rfl),rfl⟩
theorem Qa (x:Nat) (hx:x<4294967296):(x:Int)/(4194304:Int)=((x >>> 22:Nat):Int)∧(x:Int)*(1024:Int)=((x <<< (32-22):Nat):Int)∧x >>> 22<4294967296∧x <<< (32-22)<9223372036854775808:=
 ⟨by rw [Nat.shiftRight_eq_div_pow];omega,by rw [Nat.shiftLeft_eq];omega,eU _ hx,by rw [Nat.shiftLeft_eq];omega⟩
theorem Qb (x:Nat) (w:World) (hx:x<4294967296) :
 Calls Tryz.prog 111 #[x,.int .u64 22] w fun e w'=>e = .returned (.int .i64 ((rr x 22:Nat):Int))∧w=w':=by
 have hz:bits .and .i64 (bits .or .i64 ((x:Int)/(4194304:Int)) ((x:Int)*(1024:Int))) (4294967295:Int)=((rr x 22:Nat):Int):=by
  obtain ⟨e1,e2,l1,l2⟩:=Qa x hx;have l3:x >>> 22 ||| x <<< (32-22)<2 ^ 63:=Nat.or_lt_two_pow (by omega) (by omega);rw [e1,e2,dZ _ _ (by omega) (by omega),show (4294967295:Int)=((4294967295:Nat):Int) from rfl,dg _ _ (by omega) (by omega)];congr 1;rw [show (4294967295:Nat)=2 ^ 32-1 from rfl,Nat.and_two_pow_sub_one_eq_mod,Nat.or_mod_two_pow,rr];congr 1;exact Nat.mod_eq_of_lt (eU 22 hx)
 have HZ:=Hi hz;clear hz;go_enter Tryz.func111,Tryz.ntmps111;go_wp2;go_ret;exact ⟨au (by rw [←HZ.o];rfl),rfl⟩
theorem Qc (x:Nat) (hx:x<4294967296):(x:Int)/(33554432:Int)=((x >>> 25:Nat):Int)∧(x:Int)*(128:Int)=((x <<< (32-25):Nat):Int)∧x >>> 25<4294967296∧x <<< (32-25)<9223372036854775808:=
 ⟨by rw [Nat.shiftRight_eq_div_pow];omega,by rw [Nat.shiftLeft_eq];omega,eU _ hx,by rw [Nat.shiftLeft_eq];omega⟩
theorem Qd (x:Nat) (w:World) (hx:x<4294967296) :
 Calls Tryz.prog 111 #[x,.int .u64 25] w fun e w'=>e = .returned (.int .i64 ((rr x 25:Nat):Int))∧w=w':=by
 have hz:bits .and .i64 (bits .or .i64 ((x:Int)/(33554432:Int)) ((x:Int)*(128:Int))) (4294967295:Int)=((rr x 25:Nat):Int):=by
  obtain ⟨e1,e2,l1,l2⟩:=Qc x hx;have l3:x >>> 25 ||| x <<< (32-25)<2 ^ 63:=Nat.or_lt_two_pow (by omega) (by omega);rw [e1,e2,dZ _ _ (by omega) (by omega),show (4294967295:Int)=((4294967295:Nat):Int) from rfl,dg _ _ (by omega) (by omega)];congr 1;rw [show (4294967295:Nat)=2 ^ 32-1 from rfl,Nat.and_two_pow_sub_one_eq_mod,Nat.or_mod_two_pow,rr];congr 1;exact Nat.mod_eq_of_lt (eU 25 hx)
 have HZ:=Hi hz;clear hz;go_enter Tryz.func111,Tryz.ntmps111;go_wp2;go_ret;exact ⟨au (by rw [←HZ.o];rfl),rfl⟩
theorem MT (x:Nat) (w:World) (hx:x<9223372036854775808) :
 Calls Tryz.prog 112 #[x] w fun e w'=>e = .returned (.int .i64 ((x%4294967296:Nat):Int))∧w=w':=by
 have hz:bits .and .i64 (x:Int) (4294967295:Int)=((x%4294967296:Nat):Int):=by
  rw [show (4294967295:Int)=((4294967295:Nat):Int) from rfl,dg _ _ (by omega) (by omega)];congr 1;rw [show (4294967295:Nat)=2 ^ 32-1 from rfl,Nat.and_two_pow_sub_one_eq_mod]
 have HZ:=Hi hz;clear hz;go_enter Tryz.func112,Tryz.ntmps112;go_wp2;go_ret;exact ⟨au (by rw [←HZ.o];rfl),rfl⟩
end Go.Proofs.YtfgliohpdgnmcaaGreat
namespace Go.Proofs.YtfgliohpdgnmcaaGreat
open Go.RowKit Go.ChangeShapes Go.WideShapes Go.ChangeAt
open List (map_cons map_toArray map_nil length_cons length_append take_succ_eq_append_getElem getElem_mem append_nil take_length length_nil mem_cons not_mem_nil mem_append)
theorem own:ownKnob Tryz.prog.godebug=none:=by kernel_rfl
theorem AaB:laidOutB Tryz.prog=true:=by kernel_rfl
section
variable {H:Type} {enc:TypeId × Value→H} {P:Program}
theorem qP (hl:laidOutB P=true) {W W':World} (hb:Below W W W') (sp:Nat→Bool) :
 ∀(ts:List TypeId) (vs:List Value) (ds:List (DataW H)) (ps:List MemPlace),ts.all (fun t=>P.readableRec t && decide (t<P.types.size))=true→
  DataW.TrodAll enc P W 0 (fun _=>true) true ts vs ds ps→(∀x∈ps,x.block<W.heap.size)→(∀x∈ps,sp x.block=true)→DataW.TrodAll enc P W' 0 sp true ts vs ds ps
 |[],vs,ds,ps,_,h,_,_=>by
  obtain ⟨rfl,rfl,rfl⟩:=trodAll_nil h;exact trodAll_mk0
 |t::ts,vs,ds,ps,hr,h,dS,SS=>by
  obtain ⟨v,XX,d,XY,p,q,rfl,rfl,rfl,hd,IS⟩:=trodAll_cons h;simp only [List.all_cons,Bool.and_eq_true,decide_eq_true_eq] at hr;exact trodAll_cons_mk (WideElems.Trod_stays hl hr.1.1 hr.1.2 hd (fun x hx=>hb.same (dS x (by simp [hx]))) (fun x hx=>SS x (by simp [hx])))
   (qP hl hb sp ts XX XY q hr.2 IS (fun x hx=>dS x (by simp [hx])) (fun x hx=>SS x (by simp [hx])))
theorem IT {f:Func} {s:ChangeSpec} {W W':World} {args:Array Value} {ds gs:List (DataW H)} {before:List MemPlace} {tb:TypeId}
 (hl:laidOutB P=true) (hr:f.params.toList.all (fun t=>P.readableRec t && decide (t<P.types.size))=true) (lH:f.resultTypes=#[tb]) (I2:P.underlying tb=some .bool)
 (hv:s.vars=[]) (hs:∀ds:List (DataW H),ds.length=f.params.toList.length→s.fn H ds={results:=[.lit (.bool true)],args:=ds})
 (hW:DataW.Whole enc P f.params.toList s.vars false W args.toList ds gs before) (hb:Below W W W') :
 s.post enc P f false true false false W args (.bool true) W':=by
 have dS:∀p∈before,p.block<W.heap.size:=fun p hp=>hW.lt p hp
 have hold:∀p∈before,(fun b=>decide (b<W.heap.size)) p.block=true:=fun p hp=>by simpa using dS p hp
 have VS:=hW;obtain ⟨pa,pv,hA,hV,RN,hz,_⟩:=hW;rw [hv] at hV;obtain ⟨rfl,rfl⟩:=trodVars_none hV;have VT:before=pa:=by simpa using RN
 subst VT;have hlen:ds.length=f.params.toList.length:=by
  have:∀(ts:List TypeId) (vs:List Value) (ds:List (DataW H)) (ps:List MemPlace),DataW.TrodAll enc P W 0 (fun _=>true) true ts vs ds ps→ds.length=ts.length:=by
   intro ts;induction ts with
   |nil=>intro vs ds ps h;obtain ⟨_,rfl,_⟩:=trodAll_nil h;rfl
   |cons t ts ih=>
    intro vs ds ps h;obtain ⟨v,XX,d,XY,p,q,rfl,rfl,rfl,_,IS⟩:=trodAll_cons h;simp [ih _ _ _ IS]
  exact this _ _ _ _ hA
 have Sd:=hs ds hlen;have EJ:∀sp:Nat→Bool,(∀p∈before,sp p.block=true)→DataW.TrodAll enc P W' 0 sp true f.params.toList args.toList (s.fn H (ds++[])).args before:=fun sp SS=>by
  rw [append_nil,Sd];exact qP hl hb sp _ _ _ _ hr hA dS SS
 have LP:∀(b:Nat) (sp:Nat→Bool) (hd:Bool),DataW.TrodAll enc P W' b sp hd f.resultTypes.toList ((Value.bool true).resultList f.resultTypes.size) (s.fn H (ds++[])).results []:=by
  intro b sp hd;rw [append_nil,Sd,lH];exact trodAll_cons_mk (shut_bool I2 _) trodAll_mk0
 have LS:∀sp:Nat→Bool,(∀p∈before,sp p.block=true)→DataW.TrodVars enc P W' sp s.vars (s.fn H (ds++[])).vars []:=fun _ _=>by
  rw [hv,append_nil,Sd];exact rfl
 refine ⟨ds,[],before,[],before,[],VS,LP _ _ _,EJ _ hold,LS _ hold,World.keptBut_mono (fun p hp=>⟨hp,Or.inr (Or.inl hp)⟩) (hb.frame (· ∈ before)),fun _=>?_⟩;refine ⟨?_,_,_,([]++before)++[],⟨[]++before,[],trodAll_append (EJ _ (fun _ _=>rfl)) (LP _ _ _),LS _ (fun _ _=>rfl),rfl,?_,?_⟩,?_⟩
 ·intro j t r hj Jx;rw [lH] at hj Jx
  match j,hj,Jx with
  |0,hj,Jx=>
   simp [Value.resultList] at hj Jx;subst hj;subst Jx;exact okWide_bool_mk I2 _
 ·intro b off hp;have eN:MemPlace.cell b off∈before:=by simpa using hp
  rw [hb.frozen (dS _ eN)];exact hz b off eN
 ·intro ha;cases ha
 ·intro p hp _;simpa using hp
end
end Go.Proofs.YtfgliohpdgnmcaaGreat
