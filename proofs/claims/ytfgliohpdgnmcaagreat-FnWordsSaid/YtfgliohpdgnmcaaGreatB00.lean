/- Lemmas for the walks of one claim (Base, Region, Num, NumB). Conditions: bounds on sizes, as each names them. -/
import Derived.WalkKit
import Derived.WalkSpells
import Derived.WalkLawsBesides
import Derived.Lib.Hide
import Derived.Maps.AppendAt
import Derived.Deep.AppendLies
import Derived.Deep.Draws
import Derived.ProofKit
import Derived.OpenShut
import Derived.StillTail
import Derived.StillTailTactics
import Derived.Test.YtfgliohpdgnmcaaGreatRows
import Derived.Deep.QuietTactic
import Derived.BigQuiet
import Derived.Deep.RegionLaw
set_option linter.unusedVariables false
set_option linter.unusedSimpArgs false
set_option maxRecDepth 100000
set_option maxHeartbeats 8000000
namespace Go.Proofs.YtfgliohpdgnmcaaGreat
open Go.RowKit Go.ChangeShapes Go.WideShapes
open List (take_of_length_le length_drop map_cons map_toArray map_nil length_cons map_append length_append append_assoc)
def bs (l:List UInt8):ByteArray:=⟨l.toArray⟩
theorem Hi {p:Prop} (h:p):Hid p:=h
structure Va (v:Value) where
structure Li (l:List Value) where
instance {v:Value}:CoeOut (Va v) Value:=⟨fun _=>v⟩
instance {l:List Value}:CoeOut (Li l) (List Value):=⟨fun _=>l⟩
instance {l:List Value}:CoeOut (Li l) (Array Value):=⟨fun _=>l.toArray⟩
instance:Coe Int Value:=⟨fun x=> .int .i64 x⟩
instance:Coe Nat Value:=⟨fun x=> .int .i64 (x:Int)⟩
instance:Coe (List UInt8) Value:=⟨fun x=> .string (bs x)⟩
instance:Coe Bool Value:=⟨fun x=> .bool x⟩
def cO:Va (.int .i64 0):=⟨⟩
def cS:Va (.string (bs [])):=⟨⟩
def cE:Va (.string ⟨#[]⟩):=⟨⟩
def cL:Va (.slice none 0 0):=⟨⟩
theorem Gl {P:Program} {ops:Array Oper} {Q:Exit→Act→World→Prop} {a:Act} {w:World} {d:Option Tmp} {x:Operand} {ty:TypeId} {ps:String} {af:Array Edge} {gd:Option (Nat × Bool)} {r:List Oper} (t:TypeId) (h:wpList P ops Q ({dst:=d,op:=Op.load t x,type:=ty,pos:=ps,after:=af,guard:=gd}::r) a w):wpList P ops Q ({dst:=d,op:=Op.load t x,type:=ty,pos:=ps,after:=af,guard:=gd}::r) a w:=h
theorem Gs {P:Program} {ops:Array Oper} {Q:Exit→Act→World→Prop} {a:Act} {w:World} {d:Option Tmp} {x y:Operand} {ty:TypeId} {ps:String} {af:Array Edge} {gd:Option (Nat × Bool)} {r:List Oper} (t:TypeId) (h:wpList P ops Q ({dst:=d,op:=Op.store t x y,type:=ty,pos:=ps,after:=af,guard:=gd}::r) a w):wpList P ops Q ({dst:=d,op:=Op.store t x y,type:=ty,pos:=ps,after:=af,guard:=gd}::r) a w:=h
theorem Ga {P:Program} {ops:Array Oper} {Q:Exit→Act→World→Prop} {a:Act} {w:World} {d:Option Tmp} {y:Operand} {ty:TypeId} {ps:String} {af:Array Edge} {gd:Option (Nat × Bool)} {r:List Oper} (t:TypeId) (x:Operand) (h:wpList P ops Q ({dst:=d,op:=Op.store t x y,type:=ty,pos:=ps,after:=af,guard:=gd}::r) a w):wpList P ops Q ({dst:=d,op:=Op.store t x y,type:=ty,pos:=ps,after:=af,guard:=gd}::r) a w:=h
theorem Nr {n:Nat}:n≤n:=Nat.le_refl n
theorem Nt {a b c:Nat} (h:a≤b) (k:b≤c):a≤c:=Nat.le_trans h k
theorem Br {b:Nat} {w:World}:Below b w w:=Below.refl _ _
theorem Bs {b:Nat} {a w:World} {p:Addr} {u:Value} (h:Below b a w) (hp:b≤p.block):Below b a (w.setCell p u):=h.setCell hp u
theorem Ba {b:Nat} {a w:World} {o:Obj} (h:Below b a w) (hB:b≤w.heap.size):Below b a (w.alloc o):=h.alloc hB o
theorem Bd {b:Nat} {a w:World} (h:Below b a w):Below b a w.drew:=h.drew
theorem Bt {a b c:World} (h:Below a.heap.size a b) (k:Below b.heap.size b c):Below a.heap.size a c:=h.trans (k.mono h.size)
theorem eX {α:Type} {l:List α} {i:Nat}:l.toArray[i]?=l[i]?:=List.getElem?_toArray
theorem fj {α:Type} {a:α} {l:List α} {i:Nat}:(a::l)[i+1]?=l[i]?:=rfl
theorem eV {α:Type} {a:α} {l:List α}:(a::l)[0]?=some a:=rfl
theorem fk {α:Type} {l:List α} {i:Nat} {a:α}:l.toArray.setIfInBounds i a=(l.set i a).toArray:=List.setIfInBounds_toArray _ _ _
theorem ft {α:Type} {a b:α} {l:List α} {n:Nat}:(a::l).set (n+1) b=a::l.set n b:=rfl
theorem fu {α:Type} {a b:α} {l:List α}:(a::l).set 0 b=b::l:=rfl
theorem eo {α:Type} {a:α} {l:List α} {i:Nat}:(a::l).drop (i+1)=l.drop i:=rfl
theorem ep {α:Type} {l:List α}:l.drop 0=l:=rfl
theorem jA {α:Type} {l:List α} {i:Nat} (h:i<l.toArray.size):l.toArray[i]=l[i]'(by simpa using h):=rfl
theorem jB {α:Type} {a:α} {l:List α} {i:Nat} (h:i+1<(a::l).length):(a::l)[i+1]=l[i]'(Nat.lt_of_succ_lt_succ h):=rfl
theorem jC {α:Type} {a:α} {l:List α} (h:0<(a::l).length):(a::l)[0]=a:=rfl
instance:Coe World Nat:=⟨fun w=>w.heap.size⟩
theorem _root_.Go.RowKit.Hid.o {p:Prop} (h:Hid p):p:=h
theorem Oc {cs:List Value} (h:cs.all Value.oneCell'=true):∀u∈cs,u.oneCell'=true:=List.all_eq_true.1 h
structure Ln (l:List Nat) where
instance {l:List Nat}:CoeOut (Ln l) (List Nat):=⟨fun _=>l⟩
def NS:Ln [0,1,2,3,4]:=⟨⟩
def SX:Ln [0,1,2,3,4,5]:=⟨⟩
def DE:Ln [0,1,2,3,4,5,6]:=⟨⟩
def OP:Ln [0,1,2,3,4,5,6,7]:=⟨⟩
def OQ:Ln [0,1,2,3,4,5,6,7,8]:=⟨⟩
def OR:Ln [0,1,2,3,4,5,6,7,8,9]:=⟨⟩
def Yb:Ln [0,1,2,3,4,5,6,7,8,9,10,11]:=⟨⟩
def Ag:Ln [0,1,2,3,4,5,6,7,8,9,10,11,12]:=⟨⟩
def SY:Ln [0,1,2,3,4,5,6,7,8,9,10,11,12,13]:=⟨⟩
def Ah:Ln [0,1,2,3,4,5,6,7,8,9,10,11,12,13,14]:=⟨⟩
def Ji:Ln [0,1,2,3,4,5,6,7,8,9,10,11,12,13,14,15,16]:=⟨⟩
def Yc:Ln [0,1,2,3,4,5,6,7,8,9,10,11,12,13,14,15,16,17]:=⟨⟩
def Yd:Ln [0,1,2,3,4,5,6,7,8,9,10,11,12,13,14,15,16,17,18]:=⟨⟩
def Ye:Ln [0,1,2,3,4,5,6,7,8,9,10,11,12,13,14,15,16,17,18,19,20]:=⟨⟩
def yQ:Ln [0,1,2,3,4,5,6,7,8,9,10,11,12,13,14,15,16,17,18,19,20,21]:=⟨⟩
def Jj:Ln [0,1,2,3,4,5,6,7,8,9,10,11,12,13,14,15,16,17,18,19,20,21,22]:=⟨⟩
def Gj:Ln [0,1,2,3,4,5,6,7,8,9,10,11,12,13,14,15,16,17,18,19,20,21,22,23,24]:=⟨⟩
def Yf:Ln [0,1,2,3,4,5,6,7,8,9,10,11,12,13,14,15,16,17,18,19,20,21,22,23,24,25,26,27]:=⟨⟩
def Gk:Ln [0,1,2,3,4,5,6,7,8,9,10,11,12,13,14,15,16,17,18,19,20,21,22,23,24,25,26,27,28]:=⟨⟩
def SZ:Ln [0,1,2,3,4,5,6,7,8,9,10,11,12,13,14,15,16,17,18,19,20,21,22,23,24,25,26,27,28,29,30,31]:=⟨⟩
def Yg:Ln [0,1,2,3,4,5,6,7,8,9,10,11,12,13,14,15,16,17,18,19,20,21,22,23,24,25,26,27,28,29,30,31,32]:=⟨⟩
def Yh:Ln [0,1,2,3,4,5,6,7,8,9,10,11,12,13,14,15,16,17,18,19,20,21,22,23,24,25,26,27,28,29,30,31,32,33,34,35,36,37,38,39,40,41,42,43]:=⟨⟩
def Yi:Ln [0,1,2,3,4,5,6,7,8,9,10,11,12,13,14,15,16,17,18,19,20,21,22,23,24,25,26,27,28,29,30,31,32,33,34,35,36,37,38,39,40,41,42,43,44,45,46,47,48,49,50]:=⟨⟩
@[simp] theorem EL (l:List UInt8):(bs l).toList=l:=ByteArray.toList_mk l
@[simp] theorem Jk (l:List UInt8):(bs l).size=l.length:=by simp [bs,ByteArray.size]
@[simp] theorem vu (l:List UInt8) (a b:Nat):(bs l).extract a b=bs ((l.drop a).take (b-a)):=ByteArray.extract_mk l a b
@[simp] theorem EM (a b:List UInt8):bs a++bs b=bs (a++b):=ByteArray.mk_append_mk a b
@[simp high] theorem vw (l:List UInt8) (a:Nat):(bs l).extract a l.length=bs (l.drop a):=by
 rw [vu,take_of_length_le (by rw [length_drop];exact Nat.le_refl _)]
@[simp] theorem LW (l:List UInt8) (i:Nat) (h:i<(bs l).size):(bs l)[i]=l.getD i 0:=by
 have h':i<l.length:=by simpa using h
 have h2:(bs l)[i]=l[i]:=by simp [bs,ByteArray.getElem_eq_getElem_data]
 refine Eq.trans h2 ?_;rw [List.getD_eq_getElem?_getD,List.getElem?_eq_getElem h'];rfl
theorem yR (l:List UInt8):strOfNums (l.map fun b=>(b.toNat:Int))=bs l:=by
 have:∀l:List UInt8,(l.map fun b=>(b.toNat:Int)).map (fun n=>UInt8.ofNat n.toNat)=l:=fun l=>by
  induction l with
  |nil=>rfl
  |cons b l ih=>simp only [map_cons,ih];simp
 simp only [strOfNums,this,bs]
attribute [go_sem] EL Jk vu EM LW
attribute [go_sem high] vw
theorem au {a b:Value} (h:a=b):Ending.returned a = .returned b:=by rw [h]
def pT (b:UInt8):Value:= .int .u8 (b.toNat:Int)
def Yj (n:Int):Value:= .int .i64 n
def OS (n:Int):Prop := -9223372036854775808≤n∧n≤9223372036854775807
theorem kg (a:Nat) (ha:a<9223372036854775808):(BitVec.ofInt 64 (a:Int)).toNat=a:=by
 rw [BitVec.ofInt_natCast,BitVec.toNat_ofNat];exact Nat.mod_eq_of_lt (by omega)
theorem dg (a b:Nat) (ha:a<9223372036854775808) (hb:b<9223372036854775808):bits .and .i64 (a:Int) (b:Int)=((a &&& b:Nat):Int):=by
 have hx:a &&& b<2 ^ 63:=Nat.and_lt_two_pow _ (by omega);show IntKind.i64.wrap ((BitVec.ofInt 64 (a:Int) &&& BitVec.ofInt 64 (b:Int)).toNat:Int)=_;rw [BitVec.toNat_and,kg a ha,kg b hb,IntKind.wrap_i64];omega
theorem dZ (a b:Nat) (ha:a<9223372036854775808) (hb:b<9223372036854775808):bits .or .i64 (a:Int) (b:Int)=((a ||| b:Nat):Int):=by
 have hx:a ||| b<2 ^ 63:=Nat.or_lt_two_pow (by omega) (by omega);show IntKind.i64.wrap ((BitVec.ofInt 64 (a:Int) ||| BitVec.ofInt 64 (b:Int)).toNat:Int)=_;rw [BitVec.toNat_or,kg a ha,kg b hb,IntKind.wrap_i64];omega
theorem eH (a b:Nat) (ha:a<9223372036854775808) (hb:b<9223372036854775808):bits .xor .i64 (a:Int) (b:Int)=((a ^^^ b:Nat):Int):=by
 have hx:a ^^^ b<2 ^ 63:=Nat.xor_lt_two_pow (by omega) (by omega);show IntKind.i64.wrap ((BitVec.ofInt 64 (a:Int) ^^^ BitVec.ofInt 64 (b:Int)).toNat:Int)=_;rw [BitVec.toNat_xor,kg a ha,kg b hb,IntKind.wrap_i64];omega
theorem Ak (a:Nat) (ha:a<9223372036854775808):bits .and .i64 (a:Int) 255=((a%256:Nat):Int):=by
 rw [show (255:Int)=((255:Nat):Int) from rfl,dg a 255 ha (by omega)];congr 1;exact Nat.and_two_pow_sub_one_eq_mod a 8
theorem Al (a:Nat) (ha:a<9223372036854775808):bits .and .i64 (a:Int) 127=((a%128:Nat):Int):=by
 rw [show (127:Int)=((127:Nat):Int) from rfl,dg a 127 ha (by omega)];congr 1;exact Nat.and_two_pow_sub_one_eq_mod a 7
theorem bR {a b c:World} {r r':Option Nat} (h:a.grownBy b r) (k:b.grownBy c r') (hr:∀g,r'=some g→r=some g∨a.heap.size≤g):a.grownBy c r:=
 ⟨k.os.trans h.os,k.tape.trans h.tape,k.output.trans h.output,Nat.le_trans h.size k.size,fun i hi dO=>
  (k.block i (Nat.lt_of_lt_of_le hi h.size) (fun e=>by
   rcases hr i e.symm with h1|h1
   ·exact dO h1.symm
   ·omega)).trans (h.block i hi dO)⟩
theorem di {P:Program} (w:World) {ops:Array Oper} {rest:List Oper} {o:Oper} {a:Act} {Q:Exit→Act→World→Prop}
 (hg:o.guard=none) (s d:TypeId) (x:Operand) (S6:o.op=Op.convert s d x)
 (e:TypeId) (hs:P.underlying s=some (.slice e)) (he:P.underlying e=some (.int .u8)) (hd:P.underlying d=some .string)
 (base:Nat) (v:Value) (n:Nat) (l:List UInt8) (hv:a.eval x=v) (bg:w.ownsRow base e 1 v n (l.map pT))
 (hK:wpList P ops Q rest (a.put o.dst (.string (bs l))) w):wpList P ops Q (o::rest) a w:=by
 refine wpList_plain hg fun K OT=>?_
 have hlen:n=l.length:=by have:=bg.1;simpa using this.symm
 have bX:(convert s d v).run P w = .ok (.string (bs l)) w:=by
  rcases bg.2 with ⟨rfl,h0⟩|⟨g,cap,cur,rfl,_⟩
  ·have:l=[]:=List.eq_nil_of_length_eq_zero (by omega);subst this;exact run_convert_bytes_nil (w:=w) s e hs he 0 0 d hd
  ·have:=run_convert_bytes_arg (P:=P) (w:=w) s e hs he g 0 n cap (l.map fun b=>(b.toNat:Int)) (by simp [hlen]) (fun i hi=>by
    rw [Nat.zero_add,bg.cellAt i (by omega)];simp [pT,List.getD,List.getElem?_eq_getElem (show i<l.length by omega)]) d hd;rw [this,yR]
 unfold Oper.wp;simp [execOp,S6,hv,bX,Result.andThen];exact OT _ _ hK
theorem cR (a:Addr) (n:Nat):(a.add n).block=a.block:=by unfold Addr.add;split<;>rfl
theorem je (a:Addr) (i j:Nat):(a.add i).add j=a.add (i+j):=by
 unfold Addr.add;by_cases hi:i=0<;>by_cases hj:j=0<;>simp [hi,hj,Nat.add_assoc]
theorem Aab (b off n:Nat):(⟨b,off,none⟩:Addr).add n=⟨b,off+n,none⟩:=by unfold Addr.add;split<;>simp_all
def Reads (w:World) (size:Nat) (A:Option Addr) (n:Nat) (xs:List Value):Prop:=
 xs.length=n*size∧(0<n→∃ad,A=some ad∧∀j u,xs[j]?=some u→w.cell? (ad.add j)=some u)
theorem Reads.none_ {w:World} {size:Nat} {A:Option Addr}:Reads w size A 0 []:=⟨by simp,fun h=>absurd h (by omega)⟩
theorem Reads.bd {w:World} {base size:Nat} {e:TypeId} {A:Option Addr} {n c:Nat} {xs:List Value} (h:w.ownsRow base e size (.slice A n c) n xs):Reads w size A n xs:=by
 refine ⟨h.1,fun hn=>?_⟩;rcases h.2 with ⟨_,h0⟩|⟨g,cap,cur,hv,_⟩
 ·omega
 ·injection hv with hA;subst hA;exact ⟨_,rfl,h.cells (g:=g) rfl⟩
theorem Reads.bL {w w':World} {size:Nat} {A:Option Addr} {n:Nat} {xs:List Value} (h:Reads w size A n xs) (hk:∀p:Addr,(w.cell? p).isSome=true→w'.cell? p=w.cell? p):Reads w' size A n xs:=
 ⟨h.1,fun hn=>by
  obtain ⟨ad,e,hc⟩:=h.2 hn;exact ⟨ad,e,fun j u hu=>(hk _ (by rw [hc j u hu];rfl)).trans (hc j u hu)⟩⟩
theorem Reads.below {w w':World} {size:Nat} {A:Option Addr} {n:Nat} {xs:List Value} (h:Reads w size A n xs) (hb:Below w.heap.size w w'):Reads w' size A n xs:=
 h.bL fun p hp=>by
  obtain ⟨v,hv⟩:=Option.isSome_iff_exists.1 hp;exact hb.cell (World.block_lt_of_cell? _ _ hv)
section
variable {P:Program} (w:World)
theorem rO (base:Nat) (t ty e:TypeId) (i:TypeInfo) (size:Nat) (ht:P.underlying t=some (.slice e)) (hi:P.info? e=some i)
 (v:Value) (n:Nat) (xs:List Value) (bg:w.ownsRow base e size v n xs) (c:Nat):(Builtin.append_ #[t,t] ty #[v,.slice none 0 c]).run P w = .ok v w:=by
 rcases bg.2 with ⟨rfl,rfl⟩|⟨g,cap,cur,rfl,_,_,S7,_⟩
 ·simp [Builtin.append_,run_underlying ht,sizeOf,typeInfo,hi,Builtin.lenOf,Builtin.firstCells]
 ·simp [Builtin.append_,run_underlying ht,sizeOf,typeInfo,hi,Builtin.lenOf,Builtin.firstCells,S7,storeCells]
theorem vA (base:Nat) (t ty e:TypeId) (i:TypeInfo) (z:Value) (size bytes:Nat) (ht:P.underlying t=some (.slice e)) (hi:P.info? e=some i) (hz:i.zero=some z)
 (An:i.size=size) (Ck:i.bytes=bytes) (LX:z.cells.size=size) (kX:0<size)
 (v:Value) (n:Nat) (xs:List Value) (bg:w.ownsRow base e size v n xs)
 (A:Option Addr) (m c:Nat) (news:List Value) (hr:Reads w size A m news) (h1:∀u∈news,u.oneCell'=true)
 (yS:n+m≤maxLen) (pb:(n+m)*bytes≤140737488355328) (rP:base≤w.heap.size) :
 ∃v' w',(Builtin.append_ #[t,t] ty #[v,.slice A m c]).run P w = .ok v' w'∧w'.ownsRow base e size v' (n+m) (xs++news)∧w.grownBy w' v.ownBlock ∧
  (v'.ownBlock=v.ownBlock∨v'.ownBlock=some w.heap.size):=by
 rcases A with _|ad
 ·have hm:m=0:=by
   rcases Nat.eq_zero_or_pos m with h0|h0
   ·exact h0
   ·obtain ⟨ad,h,_⟩:=hr.2 h0;cases h
  subst hm;have hn:news=[]:=List.eq_nil_of_length_eq_zero (by simpa using hr.1);subst hn;exact ⟨v,w,rO w base t ty e i size ht hi v n xs bg c,by simpa using bg,World.grownBy.refl w _,.inl rfl⟩
 ·have gu:∀j u,news[j]?=some u→w.cell? (ad.add j)=some u:=by
   intro j u hu;rcases Nat.eq_zero_or_pos m with h0|h0
   ·subst h0;have hn:news=[]:=List.eq_nil_of_length_eq_zero (by simpa using hr.1);subst hn;simp at hu
   ·obtain ⟨rQ,h,hc⟩:=hr.2 h0;injection h with h;subst h;exact hc j u hu
  obtain ⟨v',w',bX,h2,h3,_,h5⟩:=run_append_own_at (P:=P) w base t ty e i z size bytes ht hi hz An Ck LX kX v n xs bg ad m c news hr.1 gu h1 yS pb rP;exact ⟨v',w',bX,h2,h3,h5⟩
theorem xy {o:Oper} {a:Act} {K:Act→World→Prop} {Q:Exit→Act→World→Prop} (s x:Operand) (t:TypeId)
 (ho:o.op = .call {callee:= .builtin .append,args:=#[s,x],argTypes:=#[t,t]})
 (base:Nat) (e:TypeId) (i:TypeInfo) (z:Value) (size bytes:Nat) (ht:P.underlying t=some (.slice e)) (hi:P.info? e=some i) (hz:i.zero=some z)
 (An:i.size=size) (Ck:i.bytes=bytes) (LX:z.cells.size=size) (kX:0<size)
 (v:Value) (n:Nat) (xs:List Value) (hs:a.eval s=v) (bg:w.ownsRow base e size v n xs)
 (A:Option Addr) (m c:Nat) (news:List Value) (hx:a.eval x = .slice A m c) (hr:Reads w size A m news) (h1:∀u∈news,u.oneCell'=true)
 (yS:n+m≤maxLen) (pb:(n+m)*bytes≤140737488355328) (rP:base≤w.heap.size)
 (h:∀v' w',w'.ownsRow base e size v' (n+m) (xs++news)→w.grownBy w' v.ownBlock→(v'.ownBlock=v.ownBlock∨v'.ownBlock=some w.heap.size)→K (a.put o.dst v') w'):o.wp P a w K Q:=by
 obtain ⟨v',w',bX,h2,h3,h4⟩:=vA (P:=P) w base t o.type e i z size bytes ht hi hz An Ck LX kX v n xs bg A m c news hr h1 yS pb rP;unfold Oper.wp execOp;simp only [ho,resolve,invoke,builtin,Sem.run_bind,Sem.run_pure,Result.andThen_ok,map_toArray,map_cons,map_nil,hs,hx,bX];exact h v' w' h2 h3 h4
theorem rR {ops:Array Oper} {rest:List Oper} {o:Oper} {a:Act} {Q:Exit→Act→World→Prop} (o7:o.guard=none) (s x:Operand) (t:TypeId)
 (ho:o.op = .call {callee:= .builtin .append,args:=#[s,x],argTypes:=#[t,t]})
 (base:Nat) (e:TypeId) (i:TypeInfo) (z:Value) (size bytes:Nat) (ht:P.underlying t=some (.slice e)) (hi:P.info? e=some i) (hz:i.zero=some z)
 (An:i.size=size) (Ck:i.bytes=bytes) (LX:z.cells.size=size) (kX:0<size)
 (v:Value) (n:Nat) (xs:List Value) (hs:a.eval s=v) (bg:w.ownsRow base e size v n xs)
 (A:Option Addr) (m c:Nat) (news:List Value) (hx:a.eval x = .slice A m c) (hr:Reads w size A m news) (h1:∀u∈news,u.oneCell'=true)
 (yS:n+m≤maxLen) (pb:(n+m)*bytes≤140737488355328) (rP:base≤w.heap.size)
 (h:∀v' w',w'.ownsRow base e size v' (n+m) (xs++news)→w.grownBy w' v.ownBlock→(v'.ownBlock=v.ownBlock∨v'.ownBlock=some w.heap.size)→wpList P ops Q rest (a.put o.dst v') w'):wpList P ops Q (o::rest) a w:=
 wpList_plain o7 fun _ hK=>xy w s x t ho base e i z size bytes ht hi hz An Ck LX kX v n xs hs bg A m c news hx hr h1 yS pb rP fun v' w' h2 h3 h4=>hK _ _ (h v' w' h2 h3 h4)
end
structure xz (P:Program) (T e:TypeId) (z:Value) (size bytes:Nat):Prop where
 ht:P.underlying T=some (.slice e)
 hi:(P.info? e).map (fun i=>(i.zero,i.size,i.bytes))=some (some z,size,bytes)
 LX:z.cells.size=size
 kX:0<size
 hb:0<bytes
theorem Reads.new {w:World} {cs:Array Value} {e:TypeId} {size n:Nat} (h:cs.size=n*size):Reads (w.alloc (.cells cs e)) size (some ⟨w.heap.size,0,none⟩) n cs.toList:=by
 refine ⟨by simpa using h,fun _=>⟨_,rfl,fun j u hu=>?_⟩⟩;rw [Aab,cell_of_row _ _ _ cs e (0,0) (heap_alloc_new w _),Nat.zero_add];simpa using hu
section
variable {P:Program} {T e:TypeId} {z:Value} {size bytes:Nat}
theorem aB (E:xz P T e z size bytes) (w:World) {ops:Array Oper} {rest:List Oper} {o:Oper} {a:Act} {Q:Exit→Act→World→Prop} (o7:o.guard=none) (s x:Operand)
 (ho:o.op = .call {callee:= .builtin .append,args:=#[s,x],argTypes:=#[T,T]}) (base:Nat)
 (v:Value) (n:Nat) (xs:List Value) (hs:a.eval s=v) (bg:w.ownsRow base e size v n xs)
 (A:Option Addr) (m c:Nat) (news:List Value) (hx:a.eval x = .slice A m c) (hr:Reads w size A m news) (h1:∀u∈news,u.oneCell'=true)
 (pb:(n+m)*bytes≤140737488355328) (rP:base≤w.heap.size)
 (h:∀v' w',w'.ownsRow base e size v' (n+m) (xs++news)→w.grownBy w' v.ownBlock→(v'.ownBlock=v.ownBlock∨v'.ownBlock=some w.heap.size)→wpList P ops Q rest (a.put o.dst v') w'):wpList P ops Q (o::rest) a w:=by
 obtain ⟨i,hi,hz,tq,cW⟩:=info_parts E.hi;refine rR w o7 s x T ho base e i z size bytes E.ht hi hz tq cW E.LX E.kX v n xs hs bg A m c news hx hr h1 ?_ pb rP h;have:=Nat.le_mul_of_pos_right (n+m) E.hb;simp only [maxLen];omega
theorem EN (E:xz P T e z size bytes) (w:World) {ops:Array Oper} {rest:List Oper} {o:Oper} {a:Act} {Q:Exit→Act→World→Prop}
 (hg:o.guard=none) (l c:Operand) (S6:o.op=Op.makeSlice T l c) (base:Nat)
 (kl kc:IntKind) (L C:Int) (n:Nat) (hl:a.eval l = .int kl L) (hc:a.eval c = .int kc C) (hL:L=(n:Int)) (hC:C=(n:Int)) (pb:n*bytes≤140737488355328) (b4:base≤w.heap.size)
 (hK:∀w',w'.ownsRow base e size (.slice (some ⟨w.heap.size,0,none⟩) n n) n (madeCells z.cells (n*size)).toList→w.grownBy w' none→wpList P ops Q rest (a.put o.dst (.slice (some ⟨w.heap.size,0,none⟩) n n)) w') :
 wpList P ops Q (o::rest) a w:=by
 obtain ⟨i,hi,hz,tq,cW⟩:=info_parts E.hi;refine wpList_make_full w hg l c T S6 base e i z size E.ht hi hz tq kl kc L C n hl hc hL hC ?_ ?_ b4 hK
 ·rw [cW,Nat.mul_comm];omega
 ·have:=Nat.le_mul_of_pos_right n E.hb;simp only [maxLen];omega
end
end Go.Proofs.YtfgliohpdgnmcaaGreat
namespace Go.Proofs.YtfgliohpdgnmcaaGreat
open Go.RowKit
open List (take_of_length_le length_drop map_cons map_toArray map_nil length_cons map_append length_append append_assoc)
def Ext (w w':World):Prop:=∀b,b<w.heap.size→w'.heap[b]?=w.heap[b]?
theorem Ext.refl (w:World):Ext w w:=fun _ _=>rfl
theorem Ext.size {w w':World} (h:Ext w w'):w.heap.size≤w'.heap.size:=by
 rcases Nat.eq_zero_or_pos w with h0|h0
 ·omega
 ·have:=h (w.heap.size-1) (by omega);rw [Array.getElem?_eq_getElem (show w.heap.size-1<w.heap.size by omega)] at this;have:=(Array.getElem?_eq_some_iff.1 this).1;omega
theorem Ext.trans {a b c:World} (h:Ext a b) (k:Ext b c):Ext a c:=fun i hi=>(k i (Nat.lt_of_lt_of_le hi h.size)).trans (h i hi)
theorem Ext.aJ {w w':World} (h:Below w w w'):Ext w w':=h.block
theorem Ext.alloc {w w':World} (h:Ext w w') (o:Obj):Ext w (w'.alloc o):=fun b hb=>(Below.heap_alloc _ _ _ (Nat.lt_of_lt_of_le hb h.size)).trans (h b hb)
def aq {α:Type} (P:Program) (e:Sem α):Prop:=∀w v w1,e.run P w = .ok v w1→w1=w∧∀w',Ext w w'→e.run P w' = .ok v w'
section
variable {P:Program} {α β:Type}
theorem aq.pure (a:α):aq P (Pure.pure a:Sem α):=fun w v w1 h=>by
 simp only [Sem.run_pure,Result.ok.injEq] at h;obtain ⟨rfl,rfl⟩:=h;exact ⟨rfl,fun w' _=>by simp⟩
theorem aq.halt (h:Halt):aq P (Sem.halt h:Sem α):=fun w v w1 hh=>by simp [Sem.run] at hh
theorem aq.bind {e:Sem α} {f:α→Sem β} (he:aq P e) (hf:∀a,aq P (f a)):aq P (e >>= f):=fun w v w1 h=>by
 rw [Sem.run_bind] at h;cases hr:e.run P w with
 |halt x w2=>rw [hr] at h;simp [Result.andThen] at h
 |ok a w2=>
  rw [hr] at h;simp only [Result.andThen] at h;obtain ⟨rfl,h2⟩:=he w a w2 hr;obtain ⟨rfl,h4⟩:=hf a _ v w1 h;refine ⟨rfl,fun w' bI=>?_⟩;rw [Sem.run_bind,h2 w' bI];simp only [Result.andThen];exact h4 w' bI
theorem aq.program:aq P (Go.program:Sem Program):=fun w v w1 h=>by
 have h':Result.ok P w=Result.ok v w1:=h;simp only [Result.ok.injEq] at h';obtain ⟨rfl,rfl⟩:=h';exact ⟨rfl,fun w' _=>rfl⟩
theorem aq.info (t:TypeId):aq P (typeInfo t):=by
 unfold typeInfo;refine aq.bind aq.program fun p=>?_
 split
 ·exact aq.pure _
 ·exact aq.halt _
theorem aq.under (t:TypeId):aq P (underlying t):=by
 unfold underlying;refine aq.bind aq.program fun p=>?_
 split
 ·exact aq.pure _
 ·exact aq.halt _
theorem aq.size (t:TypeId):aq P (sizeOf t):=by
 unfold sizeOf;exact aq.bind (aq.info t) fun _=>aq.pure _
theorem aq.isAgg (t:TypeId):aq P (isAgg t):=by
 unfold Go.isAgg;refine aq.bind (aq.under t) fun d=>?_
 split<;>exact aq.pure _
theorem EO (P:Program) (w:World) (at_:Addr) (u:TypeId) (k:Addr) (b:Bool) (h:w.heap[at_.block]?=none):∃e,w.viewLoad P at_ u k b = .error e:=by
 unfold World.viewLoad World.seen;by_cases h1:(k.spot.isSome || at_.spot.isSome)=true
 ·simp [h1,MonadExcept.throw,throwThe,MonadExceptOf.throw,bind,Except.bind]
 ·simp only [h1];cases h2:plainCell P P.depth u k.off with
  |none=>simp [MonadExcept.throw,throwThe,MonadExceptOf.throw,bind,Except.bind,pure,Except.pure]
  |some S8=>
   cases h3:S8.bytes?.map (·.length) with
   |none=>simp [h3,MonadExcept.throw,throwThe,MonadExceptOf.throw,bind,Except.bind,pure,Except.pure]
   |some size=>
    cases h4:byteOfCell P P.depth u k.off with
    |none=>simp [h3,MonadExcept.throw,throwThe,MonadExceptOf.throw,bind,Except.bind,pure,Except.pure]
    |some be=>simp [h,h3,MonadExcept.throw,throwThe,MonadExceptOf.throw,bind,Except.bind,pure,Except.pure]
theorem aq.load (m:Mode) (a:Addr):aq P (Sem.load m a Sem.pure:Sem Value):=fun w v w1 h=>by
 simp only [Sem.run] at h ⊢;cases hc:w.cell? a with
 |some u=>
  rw [hc] at h;simp only [Result.ok.injEq] at h;obtain ⟨rfl,rfl⟩:=h;refine ⟨rfl,fun w' bI=>?_⟩;have:w'.cell? a=some u:=(World.cell?_of_block (bI a.block (World.block_lt_of_cell? w a hc))).trans hc;rw [this]
 |none=>
  rw [hc] at h;simp only [World.farLoad] at h ⊢;cases hb:w.heap[a.block]? with
  |none=>rw [hb] at h;simp at h
  |some o=>
   have dS:a.block<w.heap.size:=(Array.getElem?_eq_some_iff.1 hb).1;cases o with
   |view at_ u=>
    rw [hb] at h;simp only at h;cases hv:w.viewLoad P at_ u a (m == .atomic) with
    |error why=>rw [hv] at h;simp at h
    |ok r=>
     obtain ⟨r1,r2⟩:=r;rw [hv] at h;simp only [Result.ok.injEq] at h;obtain ⟨rfl,rfl⟩:=h;refine ⟨rfl,fun w' bI=>?_⟩;have e1:w'.heap[a.block]?=some (.view at_ u):=(bI _ dS).trans hb;have e2:w'.cell? a=none:=by simp [World.cell?,e1]
     have e3:w'.viewLoad P at_ u a (m == .atomic)=w.viewLoad P at_ u a (m == .atomic):=by
      have xV:at_.block<w.heap.size:=by
       rcases Nat.lt_or_ge at_.block w with h'|h'
       ·exact h'
       ·exfalso;obtain ⟨e,he⟩:=EO P w at_ u a (m == .atomic) (Array.getElem?_eq_none h');rw [he] at hv;cases hv
      have hh:=bI at_.block xV;simp only [World.viewLoad,World.seen,hh]
     rw [e2];simp only [e1,e3,hv]
   |_=>(rw [hb] at h;cases h)
theorem aq.cells (a:Addr):∀(n i:Nat) (acc:Array Value),aq P (loadCellsFrom a i n acc)
 |0,_,_=>aq.pure _
 |n+1,i,acc=>aq.bind (aq.load .plain (a.add i)) fun v=>aq.cells a n (i+1) (acc.push v)
theorem aq.loadVar (t:TypeId) (a:Addr):aq P (loadVar t a):=by
 unfold Go.loadVar;refine aq.bind (aq.isAgg t) fun b=>?_
 split
 ·exact aq.bind (aq.size t) fun n=>aq.bind (aq.cells a n 0 #[]) fun _=>aq.pure _
 ·exact aq.load _ _
theorem aq.sure (v:Value):aq P (Instr.sureAddr v):=by
 unfold Instr.sureAddr;split
 ·exact aq.pure _
 ·exact aq.halt _
theorem aq.loadAt (t:TypeId) (v:Value):aq P (Instr.loadAt t v):=by
 unfold Instr.loadAt;exact aq.bind (aq.sure v) fun a=>aq.loadVar t a
theorem aq.never {e:Sem α} (h:∀w v w1,e.run P w ≠ .ok v w1):aq P e:=fun w v w1 hh=>absurd hh (h w v w1)
theorem aq.Ao (m:String):aq P (runtimePanic (.error m):Sem α):=by
 unfold runtimePanic;exact aq.bind aq.program fun p=>aq.halt _
theorem aq.panicNil:aq P (runtimePanic .nilDeref:Sem α):=by
 unfold runtimePanic;exact aq.bind aq.program fun p=>aq.halt _
theorem aq.bounds (k:IntKind) (x y:Int) (c:BoundsCode):aq P (boundsPanic k x y c:Sem α):=by
 refine aq.never fun w v w1 h=>?_
 obtain ⟨s,w',hr⟩:=run_boundsPanic (α:=α) (P:=P) (w:=w) k x y c;rw [hr] at h;cases h
theorem aq.asInt (v:Value):aq P (asIntOf v):=by
 unfold asIntOf;split
 ·exact aq.pure _
 ·exact aq.halt _
 ·exact aq.halt _
theorem aq.asBool (v:Value):aq P (asBool v):=by
 unfold Go.asBool;split
 ·exact aq.pure _
 ·exact aq.halt _
theorem aq.asAgg (v:Value):aq P (asAgg v):=by
 unfold Go.asAgg;split
 ·exact aq.pure _
 ·exact aq.halt _
theorem aq.part (t:TypeId) (cs:Array Value) (off:Nat):aq P (part t cs off):=by
 unfold Go.part;refine aq.bind (aq.isAgg t) fun b=>?_
 split
 ·exact aq.bind (aq.size t) fun _=>aq.pure _
 ·split
  ·exact aq.pure _
  ·exact aq.halt _
theorem aq.DF (op:BinOp) (k:IntKind) (x:Int) (yk:IntKind) (y:Int):aq P (Op.shift op k x yk y):=by
 unfold Op.shift;split
 ·exact aq.Ao _
 ·dsimp only;split<;>first|exact aq.pure _|exact aq.halt _
theorem aq.DG (op:BinOp) (k:IntKind) (x y:Int):aq P (Op.intArith op k x y):=by
 unfold Op.intArith;split<;>first|exact aq.pure _|exact aq.halt _
theorem aq.OU (op:BinOp) (k:IntKind) (x y:Int):aq P (Op.intDiv op k x y):=by
 unfold Op.intDiv;split
 ·exact aq.Ao _
 ·split<;>first|exact aq.pure _|exact aq.halt _
theorem aq.Gm (op:BinOp) (k:IntKind) (x y:Int):aq P (Op.intBits op k x y):=by
 unfold Op.intBits;dsimp only;split<;>first|exact aq.pure _|exact aq.halt _
theorem aq.OV (op:BinOp) (x y:Int):aq P (Op.intCmp op x y):=by
 unfold Op.intCmp;split<;>first|exact aq.pure _|exact aq.halt _
theorem aq.Gn (op:BinOp) (x y:ByteArray):aq P (Op.stringOp op x y):=by
 unfold Op.stringOp;dsimp only;split
 ·split<;>first|exact aq.pure _|exact aq.halt _
 all_goals first|exact aq.pure _|exact aq.halt _
theorem aq.LY (op:BinOp) (t:TypeId) (k k':IntKind) (x y:Int):aq P (binOp op t (.int k x) (.int k' y)):=by
 cases op
 all_goals first
  |(show aq P (Op.shift .shl k x k' y);exact aq.DF _ _ _ _ _)
  |(show aq P (Op.shift .shr k x k' y);exact aq.DF _ _ _ _ _)
  |(
   show aq P (ite _ _ _);split
   ·exact aq.halt _
   ·first|exact aq.DG _ _ _ _|exact aq.OU _ _ _ _|exact aq.Gm _ _ _ _|exact aq.OV _ _ _)
theorem aq.EP (op:BinOp) (t:TypeId) (x y:ByteArray):aq P (binOp op t (.string x) (.string y)):=by
 have:binOp op t (.string x) (.string y)=Op.stringOp op x y:=by cases op<;>rfl
 rw [this];exact aq.Gn _ _ _
theorem aq.ER (a b:Bool):∀(d:Nat) (t:TypeId),aq P (Op.equalIn d t (.bool a) (.bool b))
 |0,_=>aq.halt _
 |d+1,t=>by
  unfold Op.equalIn;refine aq.bind (aq.under _) fun u=>?_
  split<;>first|exact aq.pure _|exact aq.halt _|(exfalso;simp_all;done)
theorem aq.Jl (op:BinOp) (t:TypeId) (x y:Bool):aq P (binOp op t (.bool x) (.bool y)):=by
 cases op
 all_goals first
  |exact aq.halt _
  |exact aq.bind (aq.ER _ _ _ _) fun _=>aq.pure _
def vB:Value→Value→Bool
 |.int _ _,.int _ _ | .string _,.string _ | .bool _,.bool _=>true
 |_,_=>false
theorem aq.Jm (op:BinOp) (t:TypeId) (a b:Value) (h:vB a b=true):aq P (binOp op t a b):=by
 unfold vB at h;split at h
 ·exact aq.LY _ _ _ _ _ _
 ·exact aq.EP _ _ _ _
 ·exact aq.Jl _ _ _ _
 ·cases h
theorem aq.Cl (op:BinOp) (t:TypeId) (x y:Operand) (a b:Value) (h:vB a b=true):aq P (eqGuard op t x y a b):=by
 unfold vB at h;split at h
 ·cases op<;>exact aq.pure _
 ·cases op<;>exact aq.pure _
 ·cases op<;>exact aq.pure _
 ·cases h
theorem aq.asAddr (v:Value):aq P (asAddr v):=by
 unfold Go.asAddr;split
 ·exact aq.pure _
 all_goals first|exact aq.panicNil|exact aq.halt _
theorem aq.sliceBound (v:Value) (y:Nat) (c:BoundsCode):aq P (Instr.sliceBound v y c):=by
 unfold Instr.sliceBound;refine aq.bind (aq.asInt v) fun ki=>?_
 dsimp only;split
 ·exact aq.pure _
 ·exact aq.bounds _ _ _ _
theorem aq.sliceBounds (b:Bool) (len cap:Nat) (lo hi mx:Option Value):aq P (Instr.sliceBounds b len cap lo hi mx):=by
 unfold Instr.sliceBounds;repeat' first
  |exact aq.pure _
  |exact aq.halt _
  |exact aq.bounds _ _ _ _
  |exact aq.under _
  |exact aq.size _
  |exact aq.asInt _
  |exact aq.sure _
  |exact aq.part _ _ _
  |exact aq.sliceBound _ _ _
  |(refine aq.bind ?_ fun _=>?_)
  |split
  |(dsimp only;done)
  |dsimp only
theorem aq.indexAt (t:TypeId) (x ix:Value):aq P (Instr.indexAt t x ix):=by
 unfold Instr.indexAt;repeat' first
  |exact aq.pure _
  |exact aq.halt _
  |exact aq.bounds _ _ _ _
  |exact aq.under _
  |exact aq.size _
  |exact aq.asInt _
  |exact aq.sure _
  |exact aq.part _ _ _
  |exact aq.sliceBound _ _ _
  |exact aq.sliceBounds _ _ _ _ _ _
  |(refine aq.bind ?_ fun _=>?_)
  |split
  |(dsimp only;done)
  |dsimp only
theorem aq.index (t:TypeId) (x ix:Value):aq P (Instr.index t x ix):=by
 unfold Instr.index;repeat' first
  |exact aq.pure _
  |exact aq.halt _
  |exact aq.bounds _ _ _ _
  |exact aq.under _
  |exact aq.size _
  |exact aq.asInt _
  |exact aq.sure _
  |exact aq.part _ _ _
  |exact aq.sliceBound _ _ _
  |exact aq.sliceBounds _ _ _ _ _ _
  |(refine aq.bind ?_ fun _=>?_)
  |split
  |(dsimp only;done)
  |dsimp only
theorem aq.slice (t:TypeId) (x:Value) (lo hi mx:Option Value):aq P (Instr.slice t x lo hi mx):=by
 unfold Instr.slice;refine aq.bind (aq.under _) fun d=>?_
 split
 all_goals repeat' first
  |exact aq.pure _
  |exact aq.halt _
  |exact aq.bounds _ _ _ _
  |exact aq.under _
  |exact aq.size _
  |exact aq.asInt _
  |exact aq.sure _
  |exact aq.part _ _ _
  |exact aq.sliceBound _ _ _
  |exact aq.sliceBounds _ _ _ _ _ _
  |exact aq.asAddr _
  |(refine aq.bind ?_ fun _=>?_)
  |split
  |(dsimp only;done)
  |dsimp only
theorem aq.sliceAt (t:TypeId) (x:Value) (lo hi mx:Option Value):aq P (Instr.sliceAt t x lo hi mx):=by
 unfold Instr.sliceAt;refine aq.bind (aq.under _) fun d=>?_
 split
 ·refine aq.bind (aq.sure _) fun d=>?_
  repeat' first
   |exact aq.pure _
   |exact aq.halt _
   |exact aq.bounds _ _ _ _
   |exact aq.under _
   |exact aq.size _
   |exact aq.asInt _
   |exact aq.sure _
   |exact aq.part _ _ _
   |exact aq.sliceBound _ _ _
   |exact aq.sliceBounds _ _ _ _ _ _
   |(refine aq.bind ?_ fun _=>?_)
   |split
   |(dsimp only;done)
   |dsimp only
 ·exact aq.slice _ _ _ _ _
def kh (P:Program) (t:TypeId) (f:Nat):Bool:=
 match P.underlying t with
 |some (.struct fs)=>match fs[f]? with
  |some fd=>match P.info? fd.type with
   |some i=>i.size != 0
   |none=>false
  |none=>false
 |_=>false
theorem aq.fieldAt (t:TypeId) (x:Value) (f:Nat) (h:kh P t f=true):aq P (Instr.fieldAt t x f):=by
 unfold kh at h;split at h
 ·rename_i fs OW;split at h
  ·rename_i fd Rz;split at h
   ·rename_i i hi;have kX:i.size≠0:=by simpa using h
    have bX:∀w:World,(Instr.fieldAt t x f).run P w=(do
     let a ←Instr.sureAddr x
     Pure.pure (Value.pointer (some (a.add fd.offset))):Sem Value).run P w:=by
     intro w;unfold Instr.fieldAt;simp only [Sem.run_bind,run_underlying OW,Result.andThen,Rz];cases hs:(Instr.sureAddr x).run P w with
     |halt _ _=>rfl
     |ok a w1=>
      simp only [fieldPlace,Sem.run_bind,sizeOf,typeInfo,Go.program,Sem.run];simp [Sem.run,Result.andThen,hi,kX,Sem.run_bind,Go.program]
    have dk:aq P (do
     let a ←Instr.sureAddr x
     Pure.pure (Value.pointer (some (a.add fd.offset))):Sem Value):=aq.bind (aq.sure _) fun _=>aq.pure _
    intro w v w1 hh;rw [bX] at hh;obtain ⟨e,h2⟩:=dk w v w1 hh;exact ⟨e,fun w' bI=>by rw [bX];exact h2 w' bI⟩
   ·cases h
  ·cases h
 ·cases h
theorem aq.field (t:TypeId) (x:Value) (f:Nat):aq P (Instr.field t x f):=by
 unfold Instr.field;refine aq.bind (aq.under t) fun d=>?_
 split
 ·split
  ·exact aq.bind (aq.asAgg _) fun _=>aq.part _ _ _
  ·exact aq.halt _
 ·exact aq.halt _
theorem aq.extract (x:Value) (i:Nat):aq P (Instr.extract x i):=by
 unfold Instr.extract;split
 ·split
  ·exact aq.pure _
  ·exact aq.halt _
 ·exact aq.halt _
theorem aq.unary (op:UnOp) (x:Value):aq P (Op.unary op x):=by
 unfold Op.unary;split<;>first|exact aq.DG _ _ _ _|exact aq.Gm _ _ _ _|exact aq.pure _|exact aq.halt _
end
def mJ (c:Call):Option (Operand × TypeId):=
 match c.callee with
 |.builtin b=>match b with
  |.len=>match c.args.toList,c.argTypes.toList with
   |[x],[t]=>some (x,t)
   |_,_=>none
  |_=>none
 |_=>none
theorem jJ {c:Call} {x:Operand} {t:TypeId} (h:mJ c=some (x,t)):c={callee:= .builtin .len,args:=#[x],argTypes:=#[t]}:=by
 obtain ⟨callee,args,types⟩:=c;obtain ⟨args⟩:=args;obtain ⟨types⟩:=types;unfold mJ at h;split at h
 ·rename_i b hb;split at h
  ·split at h
   ·rename_i h1 h2;simp only [Option.some.injEq,Prod.mk.injEq] at h;obtain ⟨rfl,rfl⟩:=h;simp only at hb h1 h2;subst hb h1 h2;rfl
   ·cases h
  ·cases h
 ·cases h
def cU (P:Program):Op→Bool
 |.move _ | .assign _ | .pick .. | .load .. | .indexAddr .. | .index .. | .slice .. | .field .. | .extract .. | .unOp .. | .binOp .. | .nilCheck _=>true
 |.fieldAddr t _ f=>kh P t f
 |.convert s d _=>match P.underlying s,P.underlying d with
  |some (.int _),some (.int _)=>true
  |_,_=>false
 |.call c=>(mJ c).isSome
 |.build t parts=>parts.isEmpty && (P.built t []).isSome
 |_=>false
def fm (o:Oper) (a:Act):Bool:=
 match o.op with
 |.binOp _ _ x y _=>vB (a.eval x) (a.eval y)
 |.nilCheck x=>match a.eval x with
  |.pointer (some _)=>true
  |_=>false
 |.convert _ _ x=>match a.eval x with
  |.int _ _=>true
  |_=>false
 |.call c=>match mJ c with
  |some (x,_)=>match a.eval x with
   |.string _ | .slice _ _ _=>true
   |_=>false
  |none=>false
 |_=>true
theorem aq.len (t ty:TypeId) (x:Value) (h:(match x with | .string _ | .slice _ _ _=>true|_=>false)=true) {P:Program}:aq P (Builtin.len_ #[t] ty #[x]):=by
 unfold Builtin.len_;simp only [eX,eV];refine aq.bind (aq.under _) fun d=>?_
 split at h
 ·split<;>first|exact aq.pure _|exact aq.halt _|(exfalso;simp_all;done)|skip
  all_goals (refine aq.bind (aq.under _) fun d=>?_;split<;>first|exact aq.pure _|exact aq.halt _)
 ·split<;>first|exact aq.pure _|exact aq.halt _|(exfalso;simp_all;done)|skip
  all_goals (refine aq.bind (aq.under _) fun d=>?_;split<;>first|exact aq.pure _|exact aq.halt _)
 ·cases h
theorem aq.op {P:Program} {o:Oper} {a:Act} (hk:cU P o.op=true) (hp:fm o a=true):aq P (execOp a.eval o):=by
 obtain ⟨dst,op,type,pos,after,guard⟩:=o;have val:∀{s:Sem Value},aq P s→aq P (do Pure.pure (Next.value (←s)):Sem Next):=fun h=>aq.bind h fun _=>aq.pure _
 cases op<;>first|exact absurd hk Bool.false_ne_true|skip
 case move x=>exact aq.pure _
 case assign x=>exact aq.pure _
 case pick c x y=>exact aq.bind (aq.asBool _) fun _=>aq.pure _
 case load t x=>exact val (aq.loadAt _ _)
 case nilCheck x=>
  simp only [fm] at hp;simp only [execOp];split at hp
  ·rename_i ad he;rw [he];exact aq.pure _
  ·cases hp
 case binOp op t x y yt=>
  simp only [fm] at hp;exact val (aq.bind (aq.Cl _ _ _ _ _ _ hp) fun _=>aq.Jm _ _ _ _ hp)
 case unOp op t x=>exact val (aq.unary _ _)
 case convert s d x=>
  simp only [fm] at hp;simp only [cU] at hk;split at hk
  ·rename_i k1 k2 h1 h2;split at hp
   ·rename_i kx nx hx;refine val ?_;rw [hx];have:∀w:World,(convert s d (.int kx nx)).run P w=(Pure.pure (Value.int k2 (k2.wrap nx)):Sem Value).run P w:=by
     intro w;unfold convert;simp only [Sem.run_bind,run_underlying h1,run_underlying h2,Result.andThen];rfl
    intro w v w1 hh;rw [this] at hh;obtain ⟨e,h3⟩:=aq.pure (P:=P) _ w v w1 hh;exact ⟨e,fun w' bI=>by rw [this];exact h3 w' bI⟩
   ·cases hp
  ·cases hk
 case slice t x lo hi mx=>exact val (aq.sliceAt _ _ _ _ _)
 case fieldAddr t x f=>exact val (aq.fieldAt _ _ _ hk)
 case field t x f=>exact val (aq.field _ _ _)
 case indexAddr t x ix=>exact val (aq.indexAt _ _ _)
 case index t x ix=>exact val (aq.index _ _ _)
 case extract x i=>exact val (aq.extract _ _)
 case build t parts=>
  simp only [cU,Bool.and_eq_true] at hk;obtain ⟨cells,hc⟩:=Option.isSome_iff_exists.1 hk.2;obtain rfl:parts=#[]:=by simpa using hk.1
  have:∀w:World,(execOp a.eval {dst,op:= .build t #[],type,pos,after,guard}).run P w=(Pure.pure (Next.value (.agg cells)):Sem Next).run P w:=by
   intro w;have hb:=run_build (P:=P) w t #[] cells hc;simp only [execOp,Sem.run_bind,map_toArray,map_nil,hb,Result.andThen,Sem.run_pure]
  intro w v w1 hh;rw [this] at hh;obtain ⟨e,h3⟩:=aq.pure (P:=P) _ w v w1 hh;exact ⟨e,fun w' bI=>by rw [this];exact h3 w' bI⟩
 case call c=>
  obtain ⟨⟨x,t⟩,hc⟩:=Option.isSome_iff_exists.1 hk;simp only [fm,hc] at hp;have pc:=jJ hc;subst pc;have:∀w:World,(execOp a.eval {dst,op:= .call {callee:= .builtin .len,args:=#[x],argTypes:=#[t]},type,pos,after,guard}).run P w=(do Pure.pure (Next.value (←Builtin.len_ #[t] type #[a.eval x])):Sem Next).run P w:=by
   intro w;simp only [execOp,resolve,invoke,builtin,Sem.run_bind,Sem.run_pure,Result.andThen_ok,map_toArray,map_cons,map_nil]
  have hs:=val (aq.len t type (a.eval x) (by simpa using hp));intro w v w1 hh;rw [this] at hh;obtain ⟨e,h3⟩:=hs w v w1 hh;exact ⟨e,fun w' bI=>by rw [this];exact h3 w' bI⟩
section
variable {P:Program} {md:Region.Mode} {ops:Array Oper}
def LZ:Exit→Act→World→Prop:=fun _ _ _=>False
theorem pd {o:Oper} {a:Act} {w:World} {K K':Act→World→Prop} {S Q:Exit→Act→World→Prop} (hS:∀e a w,S e a w→e = .normal) (h:∀a w,K a w→K' a w) (hh:o.wp P a w K S):o.wp P a w K' Q:=by
 unfold Oper.wp at *;generalize (execOp a.eval o).run P w=r at *;cases r with
 |ok n w'=>
  cases n<;>simp only [Oper.upon] at hh ⊢
  case value=>exact h _ _ hh
  case skip=>exact h _ _ hh
  case defer=>exact h _ _ hh
  case enter f args=>
   refine Calls.mono hh fun e RA he=>?_
   cases e with
   |returned v=>exact h _ _ he
   |panicked c=>exact absurd (hS _ _ _ he) (by simp)
   |outgrown=>obtain ⟨_,_,hx⟩:=he;exact absurd (hS _ _ _ hx) (by simp)
  case row=>exact Rows.mono hh fun _ _ he=>h _ _ he
 |halt x w'=>
  cases x<;>simp only [Oper.upon] at hh ⊢
  exact absurd (hS _ _ _ hh) (by simp)
def fv (P:Program) (ops:Array Oper) (C:World→Prop) (o:Oper) (v:Value) (a:Act):Prop:=
 (Region.wanted o (yielded ops a.tmps)=true∧∀w,C w→(execOp a.eval o).run P w = .ok (.value v) w) ∨
 (Region.wanted o (yielded ops a.tmps)=false∧v=undef)
theorem fv.go {C:World→Prop} {i:Nat} {o:Oper} {v:Value} {a:Act} {Q:Exit→Act→World→Prop} (hi:ops[i]?=some o) (hy:fv P ops C o v a) {K:Act→World→Prop} {w:World} (hw:C w)
 (h:K (a.put o.dst v) w):wpOp P ops Q i K a w:=by
 unfold wpOp;simp only [hi];rcases hy with ⟨h1,h2⟩|⟨h1,rfl⟩
 ·rw [if_pos h1];exact .inl (by simp only [Oper.wp,h2 w hw,Oper.upon];exact h)
 ·rw [if_neg (by simp [h1])];exact h
theorem fv.same {C:World→Prop} {o:Oper} {v:Value} {a a':Act} (hy:fv P ops C o v a) (he:execOp a'.eval o=execOp a.eval o) (hw:Region.wanted o (yielded ops a'.tmps)=Region.wanted o (yielded ops a.tmps)) :
 fv P ops C o v a':=by
 unfold fv at *;rw [he,hw];exact hy
theorem xW {C:World→Prop} {j:Nat} {oi oj:Oper} {v:Value} (hj:ops[j]?=some oj) (Yk:oi.apart ops oj=true)
 (S9:∀cs b,oi.op ≠ .select cs b) (Yl:∀cs b,oj.op ≠ .select cs b) {K:Act→World→Prop} {a:Act} {w:World}
 (hy:fv P ops C oi v a) (h:wpOp P ops LZ j K (a.put oi.dst v) w) :
 wpOp P ops LZ j (fun a' w'=>fv P ops C oi v a'∧K (a'.put oi.dst v) w') a w:=by
 obtain ⟨h1,h2,h3⟩:=Oper.apart_spec Yk;have bL:∀u,fv P ops C oi v (a.put oj.dst u):=fun u=>hy.same (execOp_put oi S9 a oj.dst u h3) (wanted_put oi a oj.dst u h3)
 have fin:∀u w',K ((a.put oi.dst v).put oj.dst u) w'→fv P ops C oi v (a.put oj.dst u)∧K ((a.put oj.dst u).put oi.dst v) w':=fun u w' hk=>
  ⟨bL u,by rw [←Act.put_comm a v u h2];exact hk⟩
 unfold wpOp at h ⊢;simp only [hj] at h ⊢;rw [wanted_put oj a oi.dst v h1] at h;by_cases hw:Region.wanted oj (yielded ops a.tmps)=true
 ·rw [if_pos hw] at h ⊢;rcases h with h|⟨_,_,_,hx⟩
  ·refine .inl ?_;unfold Oper.wp at h ⊢;rw [execOp_put oj Yl a oi.dst v h1] at h;generalize (execOp a.eval oj).run P w=r at *;cases r with
   |ok n w'=>
    cases n<;>simp only [Oper.upon] at h ⊢
    case value u=>exact fin u w' h
    case skip=>exact fin undef w' h
    case defer d=>
     have hd:({a.put oi.dst v with defers:=d::(a.put oi.dst v).defers}:Act)=({a with defers:=d::a.defers}:Act).put oi.dst v:=Act.put_defers a oi.dst v d;rw [hd] at h;refine ⟨?_,by rw [←Act.put_comm _ v undef h2];exact h⟩;exact fv.same (a:={a with defers:=d::a.defers}) (hy.same rfl rfl) (execOp_put oi S9 _ oj.dst undef h3) (wanted_put oi _ oj.dst undef h3)
    case enter f args=>
     refine Calls.mono h fun e RA he=>?_
     cases e with
     |returned u=>exact fin u RA he
     |panicked c=>exact he.elim
     |outgrown=>obtain ⟨_,_,hx⟩:=he;exact hx.elim
    case row=>exact Rows.mono h fun u RA he=>fin u RA he
   |halt x w'=>cases x<;>simp only [Oper.upon] at h ⊢ <;> exact h
  ·exact hx.elim
 ·rw [if_neg hw] at h ⊢;exact fin undef w h
def dP (P:Program) (md:Region.Mode) (ops:Array Oper) (n:Nat) (C:World→Prop) (L:Array Bool→Act→World→Prop):Nat→Array Bool→Act→World→Prop
 |0,aj,a,w=>C w∧L aj a w
 |f+1,aj,a,w=>C w∧Region.ready md ops aj≠[]∧∀i∈Region.ready md ops aj,i<n∧wpOp P ops LZ i (dP P md ops n C L f (aj.setIfInBounds i true)) a w
theorem gV {n:Nat} {C C':World→Prop} {L:Array Bool→Act→World→Prop} (h:∀w,C w→C' w):∀(f:Nat) (aj:Array Bool) (a:Act) (w:World),dP P md ops n C L f aj a w→dP P md ops n C' L f aj a w
 |0,_,_,_,hh=>⟨h _ hh.1,hh.2⟩
 |f+1,_,_,_,hh=>⟨h _ hh.1,hh.2.1,fun i hi=>⟨(hh.2.2 i hi).1,wpOp_mono (fun a w=>gV h f _ a w) (hh.2.2 i hi).2⟩⟩
theorem Gp {i:Nat} {a:Act} {w:World} {K:Act→World→Prop} {Q:Exit→Act→World→Prop} (h:wpOp P ops LZ i K a w):wpOp P ops Q i K a w:=by
 unfold wpOp at *;cases ho:ops[i]? with
 |none=>rw [ho] at h;exact h
 |some o=>
  rw [ho] at h;simp only at h ⊢;by_cases hw:Region.wanted o (yielded ops a.tmps)=true
  ·rw [if_pos hw] at h ⊢;rcases h with h|⟨_,_,_,hx⟩
   ·exact .inl (pd (fun _ _ _ hx=>hx.elim) (fun _ _ hk=>hk) h)
   ·exact hx.elim
  ·rw [if_neg hw] at h ⊢;exact h
theorem gW {n g:Nat} {C:World→Prop} {L:Array Bool→Act→World→Prop} {Q:Exit→Act→World→Prop} (hL:∀aj a w,L aj a w→wpAny P md ops Q g aj a w) :
 ∀(f:Nat) (aj:Array Bool) (a:Act) (w:World),dP P md ops n C L f aj a w→wpAny P md ops Q (f+g) aj a w
 |0,_,_,_,h=>by rw [Nat.zero_add];exact hL _ _ _ h.2
 |f+1,aj,a,w,h=>by
  rw [show f+1+g=(f+g)+1 by omega];exact ⟨fun h0=>absurd h0 h.2.1,fun i hi=>Gp (wpOp_mono (fun a' w' h'=>gW hL f _ a' w' h') (h.2.2 i hi).2)⟩
def vC (md:Region.Mode) (ops:Array Oper) (n:Nat):Prop:=∀aj,HeadInv md ops n aj→∀i,i<n→aj.getD i true=false→∀t∈Region.ready md ops aj,t<n
theorem vD {n i:Nat} {oi:Oper} {v:Value} {C:World→Prop} {L:Array Bool→Act→World→Prop} (hi:ops[i]?=some oi) (ef:∀(j:Nat) (o:Oper) cs b,ops[j]?=some o→o.op ≠ .select cs b)
 (ez:vC md ops n) (eN:i<n) (fJ:∀aj a w,L aj a w→∀j∈Region.ready md ops aj,n≤j) :
 ∀(f:Nat) (aj:Array Bool) (a:Act) (w:World),HeadInv md ops n aj→
  (∀j oj,ops[j]?=some oj→j≠i→aj.getD j true=false→(∀e∈oj.after,Region.binds md e=true→e.on≠i)→oi.apart ops oj=true)→
  i∈Region.ready md ops aj→fv P ops C oi v a→C w→
  dP P md ops n C L f (aj.setIfInBounds i true) (a.put oi.dst v) w→dP P md ops n C L (f+1) aj a w:=by
 intro f;induction f with
 |zero=>
  intro aj a w inv _ hr hy hw H;have pe:=(mem_ready.1 hr).1;refine ⟨hw,fun h=>(by rw [h] at hr;cases hr),fun j hj=>?_⟩;have iQ:=ez aj inv i eN pe j hj;refine ⟨iQ,?_⟩;by_cases oY:j=i
  ·subst oY;exact hy.go hi hw H
  ·have:=fJ _ _ _ H.2 j (ready_mono hj oY);omega
 |succ f ih=>
  intro aj a w inv Aq hr hy hw H;have pe:=(mem_ready.1 hr).1;refine ⟨hw,fun h=>(by rw [h] at hr;cases hr),fun j hj=>?_⟩;have iQ:=ez aj inv i eN pe j hj;refine ⟨iQ,?_⟩;by_cases oY:j=i
  ·subst oY;exact hy.go hi hw H
  ·have h1:=(H.2.2 j (ready_mono hj oY)).2;obtain ⟨Gq,oj,L6,dX⟩:=mem_ready.1 hj;have L7:∀e∈oj.after,Region.binds md e=true→e.on≠i:=fun e he hb heq=>by
    have h1:=dX e he hb;rw [heq,getD_both pe] at h1;cases h1
   have h2:=xW L6 (Aq j oj L6 oY Gq L7) (fun cs b=>ef i oi cs b hi) (fun cs b=>ef j oj cs b L6) hy h1;have Cm:∀k ok,ops[k]?=some ok→k≠i→(aj.setIfInBounds j true).getD k true=false→
    (∀e∈ok.after,Region.binds md e=true→e.on≠i)→oi.apart ops ok=true:=fun k ok hk RB Gr iR=>by
    refine Aq k ok hk RB ?_ iR;by_cases L8:j=k
    ·subst L8;exact Gq
    ·rw [getD_set_ne true L8] at Gr;exact Gr
   refine wpOp_mono (fun a' w' h3=>?_) h2;have DH:C w':=by
    cases f with
    |zero=>exact h3.2.1
    |succ f=>exact h3.2.1
   refine ih (aj.setIfInBounds j true) a' w' (inv.set hj iQ) Cm (ready_mono hr (Ne.symm oY)) h3.1 DH ?_;rw [Array.setIfInBounds_comm _ _ oY];exact h3.2
def nC (w:World) (K:Act→World→Prop):Exit→Act→World→Prop
 |.normal,a',w'=>w'=w∧K a' w'
 |_,_,_=>False
def j7 (w:World) (K:Act→World→Prop):Exit→Act→World→Prop
 |.normal,a',w'=>Ext w w'∧K a' w'
 |_,_,_=>False
theorem tr {w0:World} {K:Act→World→Prop} (e:Exit) (a:Act) (w:World) (h:j7 w0 K e a w):e = .normal:=by
 cases e<;>first|rfl|exact h.elim
def yT (P:Program) (ops:Array Oper) (Q:Exit→Act→World→Prop) (tail:List Oper):List Nat→Act→World→Prop
 |[],a,w=>wpList P ops Q tail a w
 |i::r,a,w=>match ops[i]? with
  |none=>False
  |some o=>
   if cU P o.op=true then (Region.wanted o (yielded ops a.tmps)=true→fm o a=true)∧wpList P ops (nC w (yT P ops Q tail r)) [o] a w
   else wpList P ops (j7 w (yT P ops Q tail r)) [o] a w
theorem ae {Q:Exit→Act→World→Prop} {tail:List Oper} {i:Nat} {r:List Nat} {a:Act} {w:World} {o:Oper} (hi:ops[i]?=some o) (hk:cU P o.op=true) (hp:fm o a=true)
 (h:wpList P ops (nC w (yT P ops Q tail r)) [o] a w):yT P ops Q tail (i::r) a w:=by
 simp only [yT,hi,hk,if_true];exact ⟨fun _=>hp,h⟩
theorem Gt {Q:Exit→Act→World→Prop} {tail:List Oper} {i:Nat} {r:List Nat} {a:Act} {w:World} {o:Oper} (hi:ops[i]?=some o) (hw:Region.wanted o (yielded ops a.tmps)=false)
 (h:yT P ops Q tail r (a.put o.dst undef) w):yT P ops Q tail (i::r) a w:=by
 simp only [yT,hi];have h1:∀S:Exit→Act→World→Prop,S .normal (a.put o.dst undef) w→wpList P ops S [o] a w:=fun S hS=>by
  simp only [wpList,hw,Bool.false_eq_true,if_false];exact hS
 split
 ·exact ⟨fun hx=>absurd hx (by simp [hw]),h1 _ ⟨rfl,h⟩⟩
 ·exact h1 _ ⟨Ext.refl _,h⟩
theorem aA {Q:Exit→Act→World→Prop} {tail:List Oper} {i:Nat} {r:List Nat} {a:Act} {w:World} {o:Oper} (hi:ops[i]?=some o) (hk:cU P o.op=false)
 (h:wpList P ops (j7 w (yT P ops Q tail r)) [o] a w):yT P ops Q tail (i::r) a w:=by
 simp only [yT,hi,hk,Bool.false_eq_true,if_false];exact h
theorem aO {Q:Exit→Act→World→Prop} {tail:List Oper} {a:Act} {w:World} (h:wpList P ops Q tail a w):yT P ops Q tail [] a w:=h
def uR (P:Program) (md:Region.Mode) (ops:Array Oper) (n:Nat):List Nat→Array Bool→Bool
 |[],aj=>Region.seqB md ops (ops.size-n) n aj
 |i::r,aj=>decide (i<n) && (match ops[i]? with
  |none=>false
  |some o=>if cU P o.op=true then (Region.ready md ops aj).contains i && Region.free md ops aj i else decide (Region.ready md ops aj=[i])) &&
  uR P md ops n r (aj.setIfInBounds i true)
def KG (P:Program) (md:Region.Mode) (ops:Array Oper) (n:Nat) (r:List Nat):Bool:=
 Region.noSelect ops && (decide (n=ops.size) || (decide (n<ops.size) && Region.sinkB md ops n && Region.chainB md ops n)) && decide (r.length=n) && uR P md ops n r (Array.replicate ops.size false)
theorem pf {n:Nat} {Q:Exit→Act→World→Prop} {tail:List Oper} (ef:∀(j:Nat) (o:Oper) cs b,ops[j]?=some o→o.op ≠ .select cs b) (ez:vC md ops n) :
 ∀(r:List Nat) (aj:Array Bool) (a:Act) (w:World),HeadInv md ops n aj→uR P md ops n r aj=true→yT P ops Q tail r a w→
  dP P md ops n (Ext w) (fun fD a' w'=>Region.seqB md ops (ops.size-n) n fD=true∧wpList P ops Q tail a' w') r.length aj a w
 |[],_,_,w,_,hB,h=>⟨Ext.refl w,hB,h⟩
 |i::r,aj,a,w,inv,hB,h=>by
  simp only [uR,Bool.and_eq_true,decide_eq_true_eq] at hB;obtain ⟨⟨eN,iI⟩,nh⟩:=hB;cases ho:ops[i]? with
  |none=>rw [ho] at iI;cases iI
  |some o=>
   rw [ho] at iI;simp only [yT,ho] at h;simp only at iI;have fJ:∀(aj:Array Bool) (a:Act) (w:World),(Region.seqB md ops (ops.size-n) n aj=true∧wpList P ops Q tail a w)→∀j∈Region.ready md ops aj,n≤j:=fun _ _ _ hx=>seqB_ready hx.1
   by_cases hk:cU P o.op=true
   ·rw [if_pos hk] at iI h;simp only [Bool.and_eq_true] at iI;have hr:i∈Region.ready md ops aj:=by simpa using iI.1
    obtain ⟨hp,h⟩:=h;simp only [wpList] at h;have key:∃v,fv P ops (Ext w) o v a∧yT P ops Q tail r (a.put o.dst v) w:=by
     by_cases hw:Region.wanted o (yielded ops a.tmps)=true
     ·rw [if_pos hw] at h;rcases h with h|⟨_,_,_,hx⟩
      ·have dk:=aq.op (P:=P) (o:=o) (a:=a) hk (hp hw);unfold Oper.wp at h;cases bX:(execOp a.eval o).run P w with
       |halt x w'=>
        rw [bX] at h;cases x<;>simp only [Oper.upon] at h
        exact h.elim
       |ok nx w'=>
        obtain ⟨rfl,dX⟩:=dk w nx w' bX;rw [bX] at h;have Ar:∃v,nx = .value v:=by
         obtain ⟨dst,op,type,pos,after,guard⟩:=o;have jK:∀{s:Sem Value},(do Pure.pure (Next.value (←s)):Sem Next).run P w' = .ok nx w'→∃v,nx = .value v:=fun {s} hs=>by
          rw [Sem.run_bind] at hs;cases mK:s.run P w' with
          |halt _ _=>rw [mK] at hs;cases hs
          |ok v w2=>
           rw [mK] at hs;simp only [Result.andThen,Sem.run_pure,Result.ok.injEq] at hs;exact ⟨v,hs.1.symm⟩
         cases op<;>first|exact absurd hk Bool.false_ne_true|exact jK bX|skip
         case move x=>simp only [execOp,Sem.run_pure,Result.ok.injEq] at bX;exact ⟨_,bX.1.symm⟩
         case assign x=>simp only [execOp,Sem.run_pure,Result.ok.injEq] at bX;exact ⟨_,bX.1.symm⟩
         case pick c x y=>
          simp only [execOp,Sem.run_bind] at bX;cases mK:(asBool (a.eval c)).run P w' with
          |halt _ _=>rw [mK] at bX;cases bX
          |ok v w2=>
           rw [mK] at bX;simp only [Result.andThen,Sem.run_pure,Result.ok.injEq] at bX;exact ⟨_,bX.1.symm⟩
         case nilCheck x=>
          have As:=hp hw;simp only [fm] at As;simp only [execOp] at bX;split at As
          ·rename_i ad he;rw [he] at bX;simp only [Sem.run_pure,Result.ok.injEq] at bX;exact ⟨_,bX.1.symm⟩
          ·cases As
         case call c=>
          obtain ⟨⟨x,t⟩,hc⟩:=Option.isSome_iff_exists.1 (show (mJ c).isSome=true from hk);have pc:=jJ hc;subst pc;refine jK (s:=Builtin.len_ #[t] type #[a.eval x]) ?_;rw [←bX];simp only [execOp,resolve,invoke,builtin,Sem.run_bind,Sem.run_pure,Result.andThen_ok,map_toArray,map_cons,map_nil]
        obtain ⟨v,rfl⟩:=Ar;simp only [Oper.upon] at h;exact ⟨v,.inl ⟨hw,fun w2 mA=>dX w2 mA⟩,h.2⟩
      ·exact hx.elim
     ·rw [if_neg hw] at h;exact ⟨undef,.inr ⟨by simpa using hw,rfl⟩,h.2⟩
    obtain ⟨v,hy,hX⟩:=key;exact vD ho ef ez eN fJ r.length aj a w inv (fun j oj hj dO pe iR=>Region.free_spec ho iI.2 j oj hj dO pe iR) hr hy (Ext.refl w)
     (pf ef ez r _ _ w (inv.set hr eN) nh hX)
   ·rw [if_neg hk] at iI h;have fQ:Region.ready md ops aj=[i]:=by simpa using iI
    have hr:i∈Region.ready md ops aj:=by rw [fQ];simp
    refine ⟨Ext.refl w,by rw [fQ];simp,fun j hj=>?_⟩;rw [fQ] at hj;have oY:j=i:=by simpa using hj
    subst oY;refine ⟨eN,?_⟩;have step:∀a' w',j7 w (yT P ops Q tail r) .normal a' w'→dP P md ops n (Ext w) (fun fD a' w'=>Region.seqB md ops (ops.size-n) n fD=true∧wpList P ops Q tail a' w') r.length (aj.setIfInBounds j true) a' w':=
     fun a' w' hs=>gV (fun w2 h2=>hs.1.trans h2) _ _ _ _ (pf ef ez r _ a' w' (inv.set hr eN) nh hs.2)
    unfold wpOp;simp only [ho];simp only [wpList] at h;by_cases hw:Region.wanted o (yielded ops a.tmps)=true
    ·rw [if_pos hw] at h ⊢;rcases h with h|⟨_,_,_,hx⟩
     ·exact .inl (pd tr step h)
     ·exact hx.elim
    ·rw [if_neg hw] at h ⊢;exact step _ _ h
theorem ax {id:Nat} {Q:Exit→Act→World→Prop} {a:Act} {w:World} {l:List Oper} (n:Nat) (r:List Nat) (hm:P.follows .mixedOrders=true) (hB:KG P .any l.toArray n r=true)
 (h:yT P l.toArray Q (l.drop n) r a w.drew):(Code.region id l.toArray true).wp P Q a w:=by
 simp only [KG,Bool.and_eq_true,Bool.or_eq_true,decide_eq_true_eq] at hB;obtain ⟨⟨⟨ef,hcut⟩,hlen⟩,tu⟩:=hB;have RD:n≤l.length:=by
  rcases hcut with h1|h1
  ·simp at h1;omega
  ·have:=h1.1.1;simp at this;omega
 have ez:vC .any l.toArray n:=by
  rcases hcut with h1|h1
  ·intro aj _ i _ _ t ht;obtain ⟨_,o,ho,_⟩:=mem_ready.1 ht;have:=(Array.getElem?_eq_some_iff.1 ho).1;omega
  ·intro aj inv i eN pe t ht;rcases Nat.lt_or_ge t n with h2|h2
   ·exact h2
   ·exact absurd ht (tail_waits h1.1.2 h1.2 h1.1.1 inv _ i rfl eN pe t h2)
 have tv:HeadInv .any l.toArray n (Array.replicate l.toArray.size false):=
  ⟨by simp,fun j oj _ hl=>(by rw [getD_replicate_false] at hl;cases hl),fun t _ ht=>getD_in (by simpa using ht) (getD_replicate_false _ _)⟩;have h1:=pf (P:=P) (Region.noSelect_spec ef) ez r _ a w.drew tv tu h;have o6:(l.drop n).length=l.toArray.size-n:=by simp
 have h2:=gW (Q:=Q) (g:=l.toArray.size-n) (fun fD a' w' hx=>by
  rw [←o6];refine wpAny_of_seq (l.drop n) n fD a' w' (fun j=>by simp [List.getElem?_drop]) ?_ hx.2;rw [o6];exact hx.1) r.length _ a w.drew h1;refine wp_region_any hm ?_;rw [show l.toArray.size=r.length+(l.toArray.size-n) by simp;omega];rw [show r.length+(l.toArray.size-n)=l.toArray.size by simp;omega];rw [show r.length+(l.toArray.size-n)=l.toArray.size by simp;omega] at h2;exact h2
end
theorem jV:xz Tryz.prog 22 5 (.int .u8 0) 1 1:=⟨Tryz.underlying22,by kernel_rfl,rfl,by decide,by decide⟩
def gD (lo hi x:Int):Bool:=decide (lo≤x∧x≤hi)
theorem lX {lo hi x:Int} (h1:lo≤x) (h2:x≤hi):gD lo hi x=true:=by simp [gD,h1,h2]
theorem iu {lo hi x:Int} (h:¬(lo≤x∧x≤hi)):gD lo hi x=false:=by simp only [gD,decide_eq_false_iff_not];exact h
theorem fo (x lo hi:Int) (w:World) :
 Calls Tryz.prog 56 #[x,lo,hi] w fun e w'=>e = .returned (.bool (gD lo hi x))∧w=w':=by
 by_cases h1:lo≤x
 ·go_enter Tryz.func56,Tryz.ntmps56;go_wp2;go_ret;exact ⟨by simp [gD,h1],rfl⟩
 ·go_enter Tryz.func56,Tryz.ntmps56;go_wp2;go_ret;exact ⟨au (by rw [iu (by omega)];rfl),rfl⟩
theorem qQ (x lo hi:Int) (w:World) (h:lo≤x∧x≤hi) :
 Calls Tryz.prog 56 #[x,lo,hi] w fun e w'=>e = .returned (.bool true)∧w=w':=
 (fo x lo hi w).mono fun _ _ hh=>by rw [lX h.1 h.2] at hh;exact hh
theorem tw (x lo hi:Int) (w:World) (h:¬(lo≤x∧x≤hi)) :
 Calls Tryz.prog 56 #[x,lo,hi] w fun e w'=>e = .returned (.bool false)∧w=w':=
 (fo x lo hi w).mono fun _ _ hh=>by rw [iu h] at hh;exact hh
theorem ew (x lo hi:Int) (w:World) :
 Calls Tryz.prog 36 #[x,lo,hi] w fun e w'=>e = .returned (.bool (gD lo hi x))∧w=w':=by
 by_cases h1:lo≤x
 ·go_enter Tryz.func36,Tryz.ntmps36;go_wp2;go_ret;exact ⟨by simp [gD,h1],rfl⟩
 ·go_enter Tryz.func36,Tryz.ntmps36;go_wp2;go_ret;exact ⟨au (by rw [iu (by omega)];rfl),rfl⟩
theorem rS (x lo hi:Int) (w:World) (h:lo≤x∧x≤hi) :
 Calls Tryz.prog 36 #[x,lo,hi] w fun e w'=>e = .returned (.bool true)∧w=w':=
 (ew x lo hi w).mono fun _ _ hh=>by rw [lX h.1 h.2] at hh;exact hh
theorem yU (x lo hi:Int) (w:World) (h:¬(lo≤x∧x≤hi)) :
 Calls Tryz.prog 36 #[x,lo,hi] w fun e w'=>e = .returned (.bool false)∧w=w':=
 (ew x lo hi w).mono fun _ _ hh=>by rw [iu h] at hh;exact hh
def OX (k:Nat):UInt8:=[48,49,50,51,52,53,54,55,56,57,97,98,99,100,101,102].getD k 0
def Ym (l:List UInt8):List UInt8:=l.flatMap fun b=>[OX (b.toNat/16),OX (b.toNat%16)]
def kZ (n:Nat):List UInt8:=if n<128 then [UInt8.ofNat n] else UInt8.ofNat (128+n%128)::kZ (n/128)
termination_by n
decreasing_by omega
theorem pU {n:Nat} (h:n<128):kZ n=[UInt8.ofNat n]:=by rw [kZ,if_pos h]
theorem rV {n:Nat} (h:¬n<128):kZ n=UInt8.ofNat (128+n%128)::kZ (n/128):=by rw [kZ,if_neg h]
theorem uc:∀(k n:Nat),n<128 ^ (k+1)→(kZ n).length≤k+1
 |0,n,h=>by rw [pU (by omega)];simp
 |k+1,n,h=>by
  by_cases hn:n<128
  ·rw [pU hn];simp
  ·rw [rV hn,length_cons];have:=uc k (n/128) (by rw [Nat.pow_succ] at h;omega);omega
theorem lG {n:Nat} (h:n≤562949953421311):(kZ n).length≤7:=uc 6 n (by omega)
def ba (n:Int):List UInt8:=if 0≤n∧n≤562949953421311 then kZ n.toNat else []
theorem vE {n:Nat} (h:n≤562949953421311):ba (n:Int)=kZ n:=by rw [ba,if_pos (by omega)];simp
theorem aG (n:Int):(ba n).length≤7:=by
 unfold ba;split
 ·exact lG (by omega)
 ·simp
theorem xA {v:Value} (h:v.oneCell'=true):∀u∈#[v].toList,u.oneCell'=true:=by
 intro u hu;simp only [List.mem_singleton] at hu;rw [hu];exact h
theorem rW {w:World} {base:Nat} {e:TypeId} {v:Value} {acc:List UInt8} {x:Int} (h:w.ownsRow base e 1 v (acc.length+1) (acc.map pT++#[Value.int .u8 x].toList)) (b:UInt8) (hx:x=(b.toNat:Int)) :
 w.ownsRow base e 1 v (acc++[b]).length ((acc++[b]).map pT):=by
 subst hx;rw [map_append,length_append];exact h
theorem Aac {n:Nat} (h:n<256):(((UInt8.ofNat n).toNat:Nat):Int)=(n:Int):=by
 rw [UInt8.toNat_ofNat'];omega
theorem L9 (a:Nat) (h:a<128):bits .or .i64 (a:Int) 128=((128+a:Nat):Int):=by
 rw [show (128:Int)=((128:Nat):Int) from rfl,dZ a 128 (by omega) (by omega)];congr 1;have h1:=Nat.two_pow_add_eq_or_of_lt (i:=7) (b:=a) (by omega) 1;rw [Nat.or_comm];simpa using h1.symm
theorem cH (n:Int) (w:World) :
 Calls Tryz.prog 33 #[n] w fun e w'=>e = .returned (.string (bs (ba n)))∧Below w w w':=by
 by_cases hn:0≤n∧n≤562949953421311
 ·obtain ⟨N,rfl⟩:=Int.eq_ofNat_of_zero_le hn.1;have hN:N≤562949953421311:=by omega
  rw [vE hN];have hlen:=lG hN;clear hn;go_enter Tryz.func33,Tryz.ntmps33;go_wp2_with (go_at_call 36;refine (rS _ _ _ _ (by omega)).mono ?_;rintro e w' ⟨rfl,rfl⟩);go_loopw [0,3] (fun nn v wr=>∃(m:Nat) (acc:List UInt8),m≤562949953421311∧nn = .int .i64 m∧acc++kZ m=kZ N∧wr.ownsRow w 5 1 v acc.length (acc.map pT)∧Below w w wr) (fun nn _ _=>(intOf nn).toNat);case atStart=>
   exact ⟨N,[],hN,rfl,rfl,World.ownsRow_made w #[] 0 Nr (by simp [maxLen]) rfl,Br.alloc Nr _⟩
  case round=>
   obtain ⟨m,acc,hm,rfl,xB,bg,bE⟩:=hrel;have ES:acc.length+(kZ m).length=(kZ N).length:=by rw [←xB,length_append]
   have uG:acc.length≤7:=by omega
   have H1:=Hi bg;clear bg;have H2:=Hi bE;clear bE;have H3:=Hi xB;clear xB ES;by_cases dS:128≤m
   ·have fE:128≤(m:Int):=by omega
    go_wp2_with (at_builtin;refine aB jV _ rfl (.tmp 10) (.tmp 15) rfl w u3 acc.length _ rfl (H1.o.alloc _) _ _ _ _ rfl (Reads.new rfl) (xA rfl) (by omega) (Nt H2.o.size (by simp)) ?_;intro v1 w1 nD cQ Jn);have hb:(128+(m:Int)%128)=((UInt8.ofNat (128+m%128)).toNat:Int):=by rw [Aac (by omega)];omega
    refine ⟨⟨m/128,acc++[UInt8.ofNat (128+m%128)],by omega,by go_num,?_,rW nD _ hb,((H2.o.alloc H2.o.size _).grown cQ (Nt H2.o.size (by simp)) (fun g hg=>(H1.o.lt g hg).1))⟩,by simp [intOf];omega⟩;rw [append_assoc,List.singleton_append,←rV (by omega)];exact H3.o
   ·have Gu:m≤127:=by omega
    have dY:acc++[UInt8.ofNat m]=kZ N:=by rw [←H3.o,pU (by omega)]
    have H4:=Hi dY;clear dY;go_wp2_with (first|(at_builtin;refine aB jV _ rfl (.tmp 19) (.tmp 22) rfl w u3 acc.length _ rfl (H1.o.alloc _) _ _ _ _ rfl (Reads.new rfl) (xA rfl) (by omega) (Nt H2.o.size (by simp)) ?_;intro v1 w1 nD cQ Jn)|(refine di _ rfl 22 9 _ rfl 5 jV.ht Tryz.underlying5 Tryz.underlying9 w _ _ (acc++[UInt8.ofNat m]) rfl (rW nD _ (Aac (by omega)).symm) ?_));go_ret;exact ⟨au (by rw [←H4.o];rfl),((H2.o.alloc H2.o.size _).grown cQ (Nt H2.o.size (by simp)) (fun g hg=>(H1.o.lt g hg).1))⟩
 ·have dY:ba n=[]:=by rw [ba,if_neg hn]
  have H:=Hi dY;clear dY;go_enter Tryz.func33,Tryz.ntmps33;go_wp2_with (go_at_call 36;refine (yU _ _ _ _ hn).mono ?_;rintro e w' ⟨rfl,rfl⟩);go_ret;exact ⟨au (by rw [H.o];rfl),Below.refl _ _⟩
theorem eP (n:Int) (w:World) :
 Calls Tryz.prog 19 #[n] w fun e w'=>e = .returned (.string (bs (ba n)))∧Below w w w':=by
 by_cases hn:0≤n∧n≤562949953421311
 ·obtain ⟨N,rfl⟩:=Int.eq_ofNat_of_zero_le hn.1;have hN:N≤562949953421311:=by omega
  rw [vE hN];have hlen:=lG hN;clear hn;go_enter Tryz.func19,Tryz.ntmps19;go_wp2_with (go_at_call 56;refine (qQ _ _ _ _ (by omega)).mono ?_;rintro e w' ⟨rfl,rfl⟩);go_loopw [0,3] (fun nn v wr=>∃(m:Nat) (acc:List UInt8),m≤562949953421311∧nn = .int .i64 m∧acc++kZ m=kZ N∧wr.ownsRow w 5 1 v acc.length (acc.map pT)∧Below w w wr) (fun nn _ _=>(intOf nn).toNat);case atStart=>
   exact ⟨N,[],hN,rfl,rfl,World.ownsRow_made w #[] 0 Nr (by simp [maxLen]) rfl,Br.alloc Nr _⟩
  case round=>
   obtain ⟨m,acc,hm,rfl,xB,bg,bE⟩:=hrel;have ES:acc.length+(kZ m).length=(kZ N).length:=by rw [←xB,length_append]
   have uG:acc.length≤7:=by omega
   have H1:=Hi bg;clear bg;have H2:=Hi bE;clear bE;have H3:=Hi xB;clear xB ES;by_cases dS:127<m
   ·have fE:127<(m:Int):=by omega
    go_wp2_with (at_builtin;refine aB jV _ rfl (.tmp 10) (.tmp 15) rfl w u3 acc.length _ rfl (H1.o.alloc _) _ _ _ _ rfl (Reads.new rfl) (xA rfl) (by omega) (Nt H2.o.size (by simp)) ?_;intro v1 w1 nD cQ Jn);have hb:bits .or .i64 (bits .and .i64 (m:Int) 127) 128%256=((UInt8.ofNat (128+m%128)).toNat:Int):=by rw [Aac (by omega),Al m (by omega),L9 _ (by omega)];omega
    refine ⟨⟨m/128,acc++[UInt8.ofNat (128+m%128)],by omega,by go_num,?_,rW nD _ hb,((H2.o.alloc H2.o.size _).grown cQ (Nt H2.o.size (by simp)) (fun g hg=>(H1.o.lt g hg).1))⟩,by simp [intOf];omega⟩;rw [append_assoc,List.singleton_append,←rV (by omega)];exact H3.o
   ·have Gu:m≤127:=by omega
    have dY:acc++[UInt8.ofNat m]=kZ N:=by rw [←H3.o,pU (by omega)]
    have H4:=Hi dY;clear dY;go_wp2_with (first|(at_builtin;refine aB jV _ rfl (.tmp 19) (.tmp 22) rfl w u3 acc.length _ rfl (H1.o.alloc _) _ _ _ _ rfl (Reads.new rfl) (xA rfl) (by omega) (Nt H2.o.size (by simp)) ?_;intro v1 w1 nD cQ Jn)|(refine di _ rfl 22 9 _ rfl 5 jV.ht Tryz.underlying5 Tryz.underlying9 w _ _ (acc++[UInt8.ofNat m]) rfl (rW nD _ (Aac (by omega)).symm) ?_));go_ret;exact ⟨au (by rw [←H4.o];rfl),((H2.o.alloc H2.o.size _).grown cQ (Nt H2.o.size (by simp)) (fun g hg=>(H1.o.lt g hg).1))⟩
 ·have dY:ba n=[]:=by rw [ba,if_neg hn]
  have H:=Hi dY;clear dY;go_enter Tryz.func19,Tryz.ntmps19;go_wp2_with (go_at_call 56;refine (tw _ _ _ _ hn).mono ?_;rintro e w' ⟨rfl,rfl⟩);go_ret;exact ⟨au (by rw [H.o];rfl),Below.refl _ _⟩
end Go.Proofs.YtfgliohpdgnmcaaGreat
