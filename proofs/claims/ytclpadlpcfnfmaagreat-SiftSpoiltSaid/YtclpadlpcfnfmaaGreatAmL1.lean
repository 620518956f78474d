import Derived.Calls
import Derived.Orders
import Derived.Below
import Derived.KernelRfl
import Derived.Laws.AppendOwn
import Derived.Laws.OwnMore
import Derived.Laws.Rows
import Derived.Laws.Tables
/- The abstract machine: typed data, states, and an evaluator of the model's Code with values in place of memory. Definitions alone. -/
namespace Go.AM
section
theorem Ad {p:Prop} (h:p:=by omega):p:=h
theorem Af {p:Prop} (h:p:=by decide):p:=h
theorem Ag {p:Prop} (h:p:=by kernel_rfl):p:=h
theorem Ah {p:Prop} (h:p:=by simp):p:=h
theorem Ai {p:Prop} (h:p:=by simp;omega):p:=h
theorem Aa (n:Nat) (h:0<n:=by omega):∃ k,n=k+1:=⟨n-1,by omega⟩
theorem Ac (i:Nat):(i:Int)+1=((i+1:Nat):Int):=by omega
abbrev Ak:=@cond_true
abbrev Al:=@cond_false
abbrev An:=@Option.bind_some
abbrev Ap:=@List.length_append
abbrev Aq:=@decide_eq_true
abbrev Ar:=@List.length_take
abbrev Au:=@Nat.le_refl
abbrev Av:=@List.length_map
abbrev Aw:=@List.length_cons
abbrev Ax:=@decide_eq_false
abbrev Ay:=@List.getElem_mem
abbrev Az:=@of_decide_eq_true
abbrev AA:=@List.append_assoc
abbrev AB:=@List.take_length
abbrev AD:=@List.getElem?_eq_getElem
abbrev AE:=@List.append_nil
abbrev AF:=@Nat.zero_add
abbrev AG:=@List.map_append
abbrev AH:=@Bool.true_and
abbrev AI:=@List.mem_cons_self
abbrev AJ:=@List.getElem?_append_right
abbrev AK:=@List.getD_eq_getElem?_getD
abbrev AL:=@List.take_of_length_le
abbrev AN:=@List.length_singleton
abbrev AO:=@List.length_replicate
abbrev AP:=@List.mem_cons_of_mem
abbrev AQ:=@List.getElem?_take
abbrev AR:=@List.getElem?_append_left
abbrev AS:=@List.nil_append
abbrev AT:=@Nat.mul_le_mul_right
abbrev AU:=@List.eq_nil_of_length_eq_zero
abbrev AW:=@List.mem_singleton
inductive Ty where
 | int (k:IntKind) | bool | str | sl (e:Ty) | wrap (a:Ty) | pair (a b:Ty)
 | arr (m : Nat) (e : Ty)
 | lk (k : Bool)
 deriving DecidableEq,Inhabited
@[reducible] def Ty.D : Ty -> Type
 | .int _=>Int
 | .bool=>Bool
 | .str=>ByteArray
 | .sl e=>List e.D
 | .wrap a=>a.D
 | .pair a b=>a.D×b.D
 | .arr _ e=>List e.D
 | .lk _=>Bool
def Ty.zero:(t:Ty)->t.D
 | .int _=>(0:Int)
 | .bool=>false
 | .str=>(⟨#[]⟩:ByteArray)
 | .sl _=>[]
 | .wrap a=>a.zero
 | .pair a b=>(a.zero,b.zero)
 | .arr m e=>List.replicate (m+1) e.zero
 | .lk _=>true
def Ty.sz:Ty->Nat
 | .pair a b=>a.sz+b.sz
 | .wrap a=>a.sz
 | .arr m e=>(m+1)*e.sz
 | _=>1
def Ty.sg:Ty->Nat
 | .int .u8=>0
 | e=>e.sz
def Pj (n:Nat):Nat:=if n=0 then 1 else n
def Ty.isAgg:Ty->Bool
 | .pair .. | .wrap _ | .arr .. =>true
 | _=>false
def hasSlf:Ty->Bool
 | .lk false=>true
 | .wrap a=>hasSlf a
 | .pair a b=>hasSlf a || hasSlf b
 | _=>false
def DM {t:Ty} (u:Ty) (x:t.D):Option u.D:=if h:t=u then some (h ▸ x) else none
def sub (u:Ty):(t:Ty)->t.D->Nat->Option u.D
 | .pair a b,x,off=>
  if off=0/\Ty.pair a b=u then DM (t:= .pair a b) u x
  else if off<a.sz then sub u a x.1 off else sub u b x.2 (off-a.sz)
 | .wrap a,x,off=>if off=0/\Ty.wrap a=u then DM (t:= .wrap a) u x else sub u a x off
 | .int k,x,off=>if off=0 then DM (t:= .int k) u x else none
 | .bool,x,off=>if off=0 then DM (t:= .bool) u x else none
 | .str,x,off=>if off=0 then DM (t:= .str) u x else none
 | .sl e,x,off=>if off=0 then DM (t:= .sl e) u x else none
 | .arr m e,x,off=>if off=0 then DM (t:= .arr m e) u x else none
 | .lk k,x,off=>if off=0 then DM (t:= .lk k) u x else none
def G0 (u:Ty) (y:u.D):(t:Ty)->t.D->Nat->Option t.D
 | .pair a b,x,off=>
  if off=0/\u=Ty.pair a b then DM (.pair a b) y
  else if off<a.sz then (G0 u y a x.1 off).map λ z=>(z,x.2) else (G0 u y b x.2 (off-a.sz)).map λ z=>(x.1,z)
 | .wrap a,x,off=>if off=0/\u=Ty.wrap a then DM (.wrap a) y else G0 u y a x off
 | .int k,_,off=>if off=0 then DM (.int k) y else none
 | .bool,_,off=>if off=0 then DM .bool y else none
 | .str,_,off=>if off=0 then DM .str y else none
 | .sl e,_,off=>if off=0 then DM (.sl e) y else none
 | .arr m e,_,off=>if off=0 then DM (.arr m e) y else none
 | .lk k,_,off=>if off=0 then DM (.lk k) y else none
structure Tag where
 off:Nat
 id:Nat
 ver:Nat
 sz : Nat
def eb (g:List Tag) (off sz:Nat):List Tag:=
 g.filterMap λ t=>if off<=t.off/\t.off<off+sz then some { t with off:=t.off-off } else none
def ec (g:List Tag) (off sz:Nat) (h:List Tag):List Tag:=
 (g.filter λ t=>!(decide (off<=t.off) && decide (t.off<off+sz)))++h.map λ t=>{ t with off:=t.off+off }
def Oc:Ty->Nat->List Tag
 | .sl e,o=>[⟨o,0,0,e.sg⟩]
 | .wrap a,o=>Oc a o
 | .pair a b,o=>Oc a o++Oc b (o+a.sz)
 | _,_=>[]
structure Dat where
 t:Ty
 x:t.D
 g:List Tag
inductive AV where
 | undef
 | none
 | dat (t:Ty) (x:t.D) (g:List Tag)
 | nils
 | ptr (id ver off : Nat)
 | aptr (id ver i off : Nat)
 | ept (t : Ty) (x : t.D) (off : Nat)
 | slw (id ver : Nat)
 | slm (id ver lo n : Nat)
 | fn (f : Nat) (caps : List Dat)
 | clo (f : Nat) (ps : List (Nat × Nat))
 | iov (t : Ty) (x : t.D) (g : List Tag)
 | ioa (e : Ty) (l : List e.D)
 | bxv (e : Ty) (l : List e.D)
 | slp (k n : Nat)
 | tup (ds:List Dat)
 deriving Inhabited
inductive Con where
 | var (t:Ty) (x:t.D) (g:List Tag)
 | arr (e:Ty) (l:List e.D) (frz:Bool)
 | val (v:AV)
structure St where
 t:Nat->AV
 c:Nat->Option Con
 v:Nat->Nat
 r:Nat->Nat
def EO {α:Type} (f:Nat->α) (k:Nat) (a:α):Nat->α:=λ i=>bif Nat.beq i k then a else f i
def St.Ce (σ:St) (d:Option Nat) (a:AV):St:=
 match d with
 | some d=>{ σ with t:=EO σ.t d a }
 | Option.none=>σ
def St.C3 (σ:St) (id:Nat) (c:Con):St:={ σ with c:=EO σ.c id (some c),v:=EO σ.v id (σ.v id+1) }
def St.Dq (σ:St) (id:Nat) (c:Con):St:={ σ with c:=EO σ.c id (some c) }
def St.C8 (σ:St) (id:Nat):St:={ σ with r:=EO σ.r id (σ.r id+1) }
def CK (d j:Nat):Nat:=d*64+j+1
def AV.as (u:Ty):AV->Option u.D
 | .dat t x _=>DM (t:=t) u x
 | .nils=>match u with
  | .sl _=>some []
  | _=>Option.none
 | _=>Option.none
def AV.tags (u:Ty):AV->List Tag
 | .dat _ _ g=>g
 | .nils=>match u with
  | .sl e=>[⟨0,0,0,e.sg⟩]
  | _=>[]
 | _=>[]
structure CallRes where
 α:Type
 m:Option α
 enc:α->AV
 io : α -> List Con
abbrev Spec:=List AV->Option CallRes
inductive PK where
 | val (t:Ty) | ref (t:Ty) | fn (f:Nat) (ts:List Ty) | io (t:Ty) (g:List (Nat×Nat)) | ioa (e:Ty)
@[reducible] def XU : List Ty -> Type
 | []=>Unit
 | a :: r=>a.D×XU r
@[reducible] def PK.D : PK -> Type
 | .val t=>t.D
 | .ref t=>t.D
 | .fn _ ts=>XU ts
 | .io t _=>t.D
 | .ioa e=>List e.D
@[reducible] def En : List PK -> Type
 | []=>Unit
 | a :: r=>a.D×En r
def WT:(ts:List Ty)->List Dat->Option (XU ts)
 | [],[]=>some ()
 | t :: ts,d :: ds=>match DM (t:=d.t) t d.x with
  | some x=>match WT ts ds with
   | some y=>some (x,y)
   | Option.none=>Option.none
  | Option.none=>Option.none
 | _,_=>Option.none
def jE:(ts:List Ty)->XU ts->List Dat
 | [],_=>[]
 | t :: ts,x=>⟨t,x.1,[]⟩ :: jE ts x.2
def Rn:(p:PK)->AV->Option p.D
 | .val t,x=>x.as t
 | .ref t, .ept u x 0=>DM (t:=u) t x
 | .fn f ts, .fn g ds=>if g=f then WT ts ds else Option.none
 | .io t g, .iov u x h=>if h.map (λ τ=>(τ.off,τ.sz))=g then DM (t:=u) t x else Option.none
 | .ioa e, .ioa e' l=>DM (t:= .sl e') (.sl e) l
 | _,_=>Option.none
def pid0:Nat:=1000000
def lh (i:Nat):(p:PK)->p.D->AV
 | .val t,x=> .dat t x []
 | .ref t,x=> .ept t x 0
 | .fn f ts,x=> .fn f (jE ts x)
 | .io _ _,_=> .ptr (pid0+i) 0 0
 | .ioa _,_=> .slw (pid0+i) 0
def marks:Nat->List (Nat×Nat)->List Tag
 | _,[]=>[]
 | q,p :: r=>⟨p.1,CK pid0 q,0,p.2⟩ :: marks (q+1) r
def lj (q:Nat):(p:PK)->p.D->Option Con
 | .io t g,x=>some (.var t x (marks q g))
 | .ioa e,x=>some (.arr e x false)
 | _,_=>Option.none
def FQ:(ps:List PK)->List AV->Option (En ps)
 | [],[]=>some ()
 | a :: r,x :: l=>match Rn a x with
  | some y=>match FQ r l with
   | some z=>some (y,z)
   | Option.none=>Option.none
  | Option.none=>Option.none
 | _,_=>Option.none
@[reducible] def Ev : List (Ty × List Tag) -> Type
 | []=>Unit
 | [a]=>a.1.D
 | a :: b :: r=>a.1.D×Ev (b :: r)
def F9:(rs:List (Ty×List Tag))->Ev rs->List Dat
 | [],_=>[]
 | [a],x=>[⟨a.1,x,a.2⟩]
 | a :: b :: r,x=>⟨a.1,x.1,a.2⟩ :: F9 (b :: r) x.2
def No:List Dat->AV
 | [d]=> .dat d.t d.x d.g
 | ds=> .tup ds
def ll (rs:List (Ty×List Tag)) (x:Ev rs):AV:=No (F9 rs x)
def spec (ps:List PK) (rs:List (Ty×List Tag)) (f:En ps->Option (Ev rs)):Spec:=λ l=>
 match FQ ps l with
 | some a=>some ⟨Ev rs,f a,ll rs,λ _=>[]⟩
 | Option.none=>Option.none
def Ih:PK->Bool
 | .io _ _=>true
 | .ioa _=>true
 | _=>false
def Zcp (p:PK) (d:Dat):Con:=
 match p,d with
 | .ioa _,⟨.sl e,l,_⟩=> .arr e l false
 | _,d=> .var d.t d.x d.g
def Mb:List PK->List Dat->List Con
 | p :: ps,d :: ds=>Zcp p d :: Mb ps ds
 | [],d :: ds=> .var d.t d.x d.g :: Mb [] ds
 | _,[]=>[]
def Hm (n:Nat) (ps:List PK) (rs:List (Ty×List Tag)) (f:En ps->Option (Ev rs)):Spec:=λ l=>
 match FQ ps l with
 | some a=>some ⟨Ev rs,f a,λ x=>No ((F9 rs x).take n),λ x=>Mb (ps.filter Ih) ((F9 rs x).drop n)⟩
 | Option.none=>Option.none
def Zjm (k:Nat):List Dat->AV
 | ⟨.int .i64,n,_⟩ :: _=> .slp k (Int.toNat n)
 | _=> .undef
def Qd (k:Nat) (ps:List PK) (rs:List (Ty×List Tag)) (f:En ps->Option (Ev rs)):Spec:=λ l=>
 match FQ ps l with
 | some a=>some ⟨Ev rs,f a,λ x=>Zjm k (F9 rs x),λ x=>Mb (ps.filter Ih) ((F9 rs x).drop 1)⟩
 | Option.none=>Option.none
structure Keep where
 t:List (Nat×Bool)
 c:List (Nat×Bool)
structure Env where
 ty:Nat->Option Ty
 fo:Nat->Nat->Option (Nat×Ty)
 pl:Nat->Nat->Option (Nat×Ty)
 ar:Nat->Option (Nat×Ty)
 by_:Nat->Nat
 eq:Nat->Option Ty
 call:Nat->Option Spec
 loop:Nat->Keep
 blk:Nat->Option Keep
 cut:Nat->Option Keep
 ret:Keep
 bx : Nat -> Bool
 inpl : Nat -> List Bool
 lit : Nat -> Bool
 lend : Nat -> Bool
def Bm (σ:St):Operand->AV
 | .tmp t=>σ.t t
 | .const (.int k n)=> .dat (.int k) n []
 | .const (.bool b)=> .dat .bool b []
 | .const (.string s)=> .dat .str s []
 | .const (.slice Option.none 0 0)=> .nils
 | .const .nilIface=> .dat (.lk true) true []
 | .func f=> .fn f []
 | _=> .undef
def coe (E:Env) (T:Nat) (a:AV):AV:=
 match a with
 | .nils=>match E.ty T with
  | some (.sl e)=> .dat (.sl e) [] [⟨0,0,0,e.sg⟩]
  | _=> .undef
 | a=>a
inductive Step:Type 1 where
 | no
 | go (c:Bool) (σ:St)
 | call (α:Type) (m:Option α) (k:α->St)
def put (o:Oper) (σ:St) (a:AV):Step:= .go true (σ.Ce o.dst a)
def Fx (o:Oper) (c:Bool) (σ:St) (a:AV):Step:= .go c (σ.Ce o.dst a)
def A7 (k:IntKind) (a b:Int):Int:=k.wrap (a+b)
def Bt (k:IntKind) (a b:Int):Int:=k.wrap (a-b)
def CI (k:IntKind) (a b:Int):Int:=k.wrap (a*b)
def GB (k:IntKind) (a b:Int):Int:=k.wrap (a.tdiv b)
def Ol (a b:Int):Int:=a.tmod b
def Cb (k:IntKind) (a b:Int):Int:=k.wrap (BitVec.ofInt k.bits a &&& BitVec.ofInt k.bits b).toNat
def Fa (k:IntKind) (a b:Int):Int:=k.wrap (BitVec.ofInt k.bits a ||| BitVec.ofInt k.bits b).toNat
def Gd (k:IntKind) (a b:Int):Int:=k.wrap (BitVec.ofInt k.bits a ^^^ BitVec.ofInt k.bits b).toNat
def Pc (k:IntKind) (a b:Int):Int:=k.wrap (BitVec.ofInt k.bits a &&& ~~~BitVec.ofInt k.bits b).toNat
def EN (k:IntKind) (x y:Int):Int:=k.wrap (x*2 ^ (min y.toNat k.bits))
def B7 (k:IntKind) (x y:Int):Int:=x.fdiv (2 ^ (min y.toNat k.bits))
def A9 (a b:Int):Bool:=a == b
def BK (a b:Int):Bool:=a != b
def A8 (a b:Int):Bool:=decide (a<b)
def BC (a b:Int):Bool:=decide (a<=b)
def Cz (a b:ByteArray):Bool:=a.toList == b.toList
def KK (a b:ByteArray):Bool:=Op.bytesLess a.toList b.toList
def FT (x y:Int):Int:=if y > x then y else x
def Eo (x y:Int):Int:=if y<x then y else x
def Bg (s:ByteArray):Int:=(s.size:Int)
def AZ {α:Type} (l:List α):Int:=(l.length:Int)
def cutS (s:ByteArray) (lo hi:Int):ByteArray:=s.extract lo.toNat hi.toNat
def byteAt (s:ByteArray) (i:Int):Int:=((s.data.toList.getD i.toNat 0).toNat:Int)
def D8 (a b:ByteArray):ByteArray:=a++b
def Dh (a b:ByteArray):Bool:=decide (a.size+b.size<=9223372036854775807)
def ofBytes (l:List Int):ByteArray:=⟨(l.map λ n=>UInt8.ofNat n.toNat).toArray⟩
def Bu (s:ByteArray):List Int:=s.data.toList.map λ b=>(b.toNat:Int)
def Bf (i n:Int):Bool:=decide (0<=i) && decide (i<n)
def CJ (lo hi n:Int):Bool:=decide (0<=lo) && (decide (lo<=hi) && decide (hi<=n))
def at' {e:Ty} (l:List e.D) (i:Int):e.D:=l.getD i.toNat e.zero
def B1 (n bytes:Nat):Bool:=decide (n*bytes<=140737488355328)
def eqD:(t:Ty)->t.D->t.D->Bool
 | .int _,a,b=>A9 a b
 | .bool,a,b=>a == b
 | .str,a,b=>Cz a b
 | .wrap a,x,y=>eqD a x y
 | .pair a b,x,y=>eqD a x.1 y.1 && eqD b x.2 y.2
 | .sl _,_,_=>false
 | .arr _ _,_,_=>false
 | .lk _,_,_=>false
def OX (op:BinOp) (o:Oper) (σ:St) (k j:IntKind) (a b:Int):Step:=
 match op with
 | .shl=>Fx o (BC 0 b) σ (.dat (.int k) (EN k a b) [])
 | .shr=>Fx o (BC 0 b) σ (.dat (.int k) (B7 k a b) [])
 | op=>if k=j then
   match op with
   | .add=>put o σ (.dat (.int k) (A7 k a b) [])
   | .sub=>put o σ (.dat (.int k) (Bt k a b) [])
   | .mul=>put o σ (.dat (.int k) (CI k a b) [])
   | .quo=>Fx o (BK b 0) σ (.dat (.int k) (GB k a b) [])
   | .rem=>Fx o (BK b 0) σ (.dat (.int k) (Ol a b) [])
   | .and=>put o σ (.dat (.int k) (Cb k a b) [])
   | .or=>put o σ (.dat (.int k) (Fa k a b) [])
   | .xor=>put o σ (.dat (.int k) (Gd k a b) [])
   | .andNot=>put o σ (.dat (.int k) (Pc k a b) [])
   | .eql=>put o σ (.dat .bool (A9 a b) [])
   | .neq=>put o σ (.dat .bool (BK a b) [])
   | .lss=>put o σ (.dat .bool (A8 a b) [])
   | .leq=>put o σ (.dat .bool (BC a b) [])
   | .gtr=>put o σ (.dat .bool (A8 b a) [])
   | .geq=>put o σ (.dat .bool (BC b a) [])
   | _=> .no
  else .no
def OY (op:BinOp) (o:Oper) (σ:St) (a b:ByteArray):Step:=
 match op with
 | .add=>Fx o (Dh a b) σ (.dat .str (D8 a b) [])
 | .eql=>put o σ (.dat .bool (Cz a b) [])
 | .neq=>put o σ (.dat .bool (!Cz a b) [])
 | .lss=>put o σ (.dat .bool (KK a b) [])
 | .leq=>put o σ (.dat .bool (KK a b || Cz a b) [])
 | .gtr=>put o σ (.dat .bool (!(KK a b || Cz a b)) [])
 | .geq=>put o σ (.dat .bool (!KK a b) [])
 | _=> .no
def Qe (E:Env) (T:Nat) (op:BinOp) (o:Oper) (σ:St) (x y:AV):Step:=
 match x,y with
 | .dat t a _, .dat u b _=>
  match t,a,u,b with
  | .int k,a, .int j,b=>OX op o σ k j a b
  | .str,a, .str,b=>OY op o σ a b
  | t,a,u,b=>match E.eq T with
   | some e=>match DM (t:=t) e a,DM (t:=u) e b with
    | some a,some b=>match op with
     | .eql=>put o σ (.dat .bool (eqD e a b) [])
     | .neq=>put o σ (.dat .bool (!eqD e a b) [])
     | _=> .no
    | _,_=> .no
   | Option.none=> .no
 | _,_=> .no
def Qm (E:Env) (T:Nat) (op:BinOp) (o:Oper) (σ:St) (x:AV):Step:=
 match E.ty T,x with
 | some (.lk true), .dat (.lk true) b _=>match op with
  | .eql=>put o σ (.dat .bool b [])
  | .neq=>put o σ (.dat .bool (!b) [])
  | _=> .no
 | _,_=> .no
def UU:Operand->Bool
 | .const .nilIface=>true
 | _=>false
def RC (op:UnOp) (o:Oper) (σ:St) (x:AV):Step:=
 match op,x with
 | .neg, .dat (.int k) a _=>put o σ (.dat (.int k) (Bt k 0 a) [])
 | .xor, .dat (.int k) a _=>put o σ (.dat (.int k) (Gd k (if k.signed then -1 else k.max) a) [])
 | .not, .dat .bool b _=>put o σ (.dat .bool (!b) [])
 | _,_=> .no
def content (σ:St) (e:Ty):AV->Option (List e.D)
 | .dat t x _=>DM (t:=t) (.sl e) x
 | .nils=>some []
 | .slw id ver=>if σ.v id=ver then
   match σ.c id with
   | some (.arr e' l _)=>DM (t:= .sl e') (.sl e) l
   | _=>Option.none
  else Option.none
 | .slm id ver lo n=>if σ.v id=ver then
   match σ.c id with
   | some (.arr e' l _)=>DM (t:= .sl e') (.sl e) ((l.drop lo).take n)
   | _=>Option.none
  else Option.none
 | _=>Option.none
def IC (E:Env):Option Nat->Bool
 | some d=>E.bx d
 | Option.none=>false
def MA (E:Env) (src dst:Nat) (o:Oper) (σ:St) (x:AV):Step:=
 match E.ty src,E.ty dst with
 | some (.int _),some (.int k)=>match x with
  | .dat (.int _) n _=>put o σ (.dat (.int k) (k.wrap n) [])
  | _=> .no
 | some .str,some .str=>match x with
  | .dat .str s _=>put o σ (.dat .str s [])
  | _=> .no
 | some (.sl (.int .u8)),some .str=>match content σ (.int .u8) x with
  | some l=>put o σ (.dat .str (ofBytes l) [])
  | Option.none=> .no
 | some .str,some (.sl (.int .u8))=>match x with
  | .dat .str s _=>match o.dst,IC E o.dst with
   | some d,true=> .go (B1 s.size 1) ((σ.C3 d (.arr (.int .u8) (Bu s) false)).Ce o.dst (.slw d (σ.v d+1)))
   | _,_=>Fx o (B1 s.size 1) σ (.dat (.sl (.int .u8)) (Bu s) [])
  | _=> .no
 | _,_=> .no
def GH (σ:St) (d:Int):Option Operand->Option Int
 | Option.none=>some d
 | some x=>match Bm σ x with
  | .dat (.int _) n _=>some n
  | _=>Option.none
def Qf (E:Env) (T:Nat) (o:Oper) (σ:St) (x:AV) (lo hi:Option Operand):Step:=
 match x with
 | .dat t x g=>match t,x,E.ty T with
  | .str,s,some .str=>match GH σ 0 lo,GH σ (Bg s) hi with
   | some l,some h=>Fx o (CJ l h (Bg s)) σ (.dat .str (cutS s l h) [])
   | _,_=> .no
  | .sl e,s,some (.sl e')=>if e.sz=e'.sz then match lo,hi with
   | Option.none,Option.none=>put o σ (.dat (.sl e) s g)
   | some _,Option.none=>match GH σ 0 lo with
    | some l=>Fx o (CJ l (AZ s) (AZ s)) σ (.dat (.sl e) (s.drop l.toNat) [])
    | _=> .no
   | Option.none,some _=>match GH σ 0 hi with
    | some h=>Fx o (CJ 0 h (AZ s)) σ (.dat (.sl e) (s.take h.toNat) [])
    | _=> .no
   | some _,some _=>match GH σ 0 lo,GH σ 0 hi with
    | some l,some h=>Fx o (CJ l h (AZ s)) σ (.dat (.sl e) ((s.take h.toNat).drop l.toNat) [])
    | _,_=> .no
   else .no
  | _,_,_=> .no
 | .ptr id ver 0=>match E.ar T,σ.c id with
  | some (n,e),some (.arr e' s _)=>if σ.v id=ver/\e.sz=e'.sz then
    match GH σ 0 lo,GH σ n hi with
    | some l,some h=>Fx o (CJ l h n && decide (n=s.length)) σ (.slm id ver l.toNat (h.toNat-l.toNat))
    | _,_=> .no
   else .no
  | _,_=> .no
 | .slm id ver a n=>match E.ty T,σ.c id with
  | some (.sl e),some (.arr e' _ _)=>if σ.v id=ver/\e.sz=e'.sz then
    match GH σ 0 lo,GH σ n hi with
    | some l,some h=>Fx o (CJ l h n) σ (.slm id ver (a+l.toNat) (h.toNat-l.toNat))
    | _,_=> .no
   else .no
  | _,_=> .no
 | .slw id ver=>match E.ty T,σ.c id with
  | some (.sl e),some (.arr e' s _)=>if σ.v id=ver/\e.sz=e'.sz then
    match GH σ 0 lo,GH σ (AZ s) hi with
    | some l,some h=>Fx o (CJ l h (AZ s)) σ (.slm id ver l.toNat (h.toNat-l.toNat))
    | _,_=> .no
   else .no
  | _,_=> .no
 | _=> .no
def OL (E:Env) (S f:Nat) (o:Oper) (σ:St) (x:AV):Step:=
 match E.fo S f with
 | some (d,_)=>match x with
  | .ptr id ver off=>if σ.v id=ver then put o σ (.ptr id ver (off+d)) else .no
  | .aptr id ver i off=>if σ.v id=ver then put o σ (.aptr id ver i (off+d)) else .no
  | .ept t x off=>put o σ (.ept t x (off+d))
  | _=> .no
 | Option.none=> .no
def Ro (E:Env) (S f:Nat) (o:Oper) (σ:St) (x:AV):Step:=
 match E.fo S f with
 | some (d,u)=>match x with
  | .dat t x g=>if t.isAgg then
    match sub u t x d with
    | some y=>put o σ (.dat u y (eb g d u.sz))
    | Option.none=> .no
   else .no
  | _=> .no
 | Option.none=> .no
def Rc (i:Nat) (o:Oper) (σ:St) (x:AV):Step:=
 match x with
 | .tup ds=>match ds[i]? with
  | some d=>put o σ (.dat d.t d.x d.g)
  | Option.none=> .no
 | _=> .no
def OM (E:Env) (T:Nat) (o:Oper) (σ:St) (x i:AV):Step:=
 match i with
 | .dat (.int _) i _=>match x with
  | .dat (.sl e) l _=>match E.ty T with
   | some (.sl e')=>if e.sz=e'.sz then Fx o (Bf i (AZ l)) σ (.ept e (at' l i) 0) else .no
   | _=> .no
  | .ptr id ver 0=>match E.ar T,σ.c id with
   | some (n,e),some (.arr e' l _)=>if σ.v id=ver/\e.sz=e'.sz then Fx o (Bf i n && decide (n=l.length)) σ (.aptr id ver i.toNat 0) else .no
   | _,_=> .no
  | .slw id ver=>match E.ty T,σ.c id with
   | some (.sl e),some (.arr e' l _)=>if σ.v id=ver/\e.sz=e'.sz then Fx o (Bf i (AZ l)) σ (.aptr id ver i.toNat 0) else .no
   | _,_=> .no
  | .slm id ver lo n=>match E.ty T,σ.c id with
   | some (.sl e),some (.arr e' _ _)=>if σ.v id=ver/\e.sz=e'.sz then Fx o (Bf i n) σ (.aptr id ver (lo+i.toNat) 0) else .no
   | _,_=> .no
  | _=> .no
 | _=> .no
def Rp (E:Env) (T:Nat) (o:Oper) (σ:St) (x i:AV):Step:=
 match E.ty T,x,i with
 | some .str, .dat .str s _, .dat (.int _) i _=>Fx o (Bf i (Bg s)) σ (.dat (.int .u8) (byteAt s i) [])
 | _,_,_=> .no
def Rj (E:Env) (T:Nat) (o:Oper) (σ:St) (e:Ty) (l:List e.D) (off:Nat):Step:=
 match l with
 | [x]=>match E.ty T with
  | some u=>match sub u e x off with
   | some y=>put o σ (.dat u y [])
   | Option.none=> .no
  | Option.none=> .no
 | _=> .no
def UH (o:Oper) (σ:St) (m:Nat) (e' e:Ty) (l:List e.D):Step:=
 match DM (t:= .sl e) (.sl e') l with
 | some l=>Fx o (decide (List.length (α:=e'.D) l=m+1)) σ (.dat (.arr m e') l [])
 | Option.none=> .no
def Pd (E:Env) (T:Nat) (o:Oper) (σ:St) (a:AV):Step:=
 match a with
 | .ptr id ver off=>if σ.v id=ver then
   match σ.c id with
   | some (.var t x g)=>match E.ty T with
    | some u=>match sub u t x off with
     | some y=>put o σ (.dat u y (eb g off u.sz))
     | Option.none=> .no
    | Option.none=> .no
   | some (.arr e l _)=>match E.ty T with
    | some (.arr m e')=>if off=0/\e'=e then UH o σ m e' e l else Rj E T o σ e l off
    | _=>Rj E T o σ e l off
   | _=> .no
  else .no
 | .aptr id ver i off=>if σ.v id=ver then
   match σ.c id with
   | some (.arr e l _)=>match E.ty T with
    | some u=>match sub u e (l.getD i e.zero) off with
     | some y=>put o σ (.dat u y [])
     | Option.none=> .no
    | Option.none=> .no
   | _=> .no
  else .no
 | .ept t x off=>match E.ty T with
  | some u=>match sub u t x off with
   | some y=>put o σ (.dat u y [])
   | Option.none=> .no
  | Option.none=> .no
 | _=> .no
def Rq (E:Env) (T:Nat) (o:Oper) (σ:St) (a x:AV):Step:=
 match a with
 | .ptr id ver off=>if σ.v id=ver then
   match σ.c id with
   | some (.var t z g)=>match E.ty T with
    | some u=>match x.as u with
     | some y=>match G0 u y t z off with
      | some z'=>bif hasSlf u then .no else .go true ((σ.Dq id (.var t z' (ec g off u.sz (x.tags u)))).Ce o.dst .none)
      | Option.none=> .no
     | Option.none=> .no
    | Option.none=> .no
   | some (.arr e l false)=>match E.ty T with
    | some (.arr m e')=>if off=0 then
      match x.as (.arr m e') with
      | some y=>match DM (t:= .sl e') (.sl e) y with
       | some y'=> .go (decide (List.length (α:=e.D) l=m+1)) ((σ.Dq id (.arr e y' false)).Ce o.dst .none)
       | Option.none=> .no
      | Option.none=> .no
     else .no
    | _=> .no
   | _=> .no
  else .no
 | .aptr id ver i off=>if σ.v id=ver then
   match σ.c id with
   | some (.arr e l false)=>match E.ty T with
    | some u=>match x.as u with
     | some y=>match G0 u y e (l.getD i e.zero) off with
      | some z'=> .go true ((σ.Dq id (.arr e (l.set i z') false)).Ce o.dst .none)
      | Option.none=> .no
     | Option.none=> .no
    | Option.none=> .no
   | _=> .no
  else .no
 | _=> .no
def Rr (E:Env) (T:Nat) (o:Oper) (σ:St):Step:=
 match o.dst with
 | some d=>match E.ar T with
  | some (n,e)=> .go true ((σ.C3 d (.arr e (List.replicate n e.zero) false)).Ce o.dst (.ptr d (σ.v d+1) 0))
  | Option.none=>match E.ty T with
   | some t=> .go true ((σ.C3 d (.var t t.zero (Oc t 0))).Ce o.dst (.ptr d (σ.v d+1) 0))
   | Option.none=> .no
 | Option.none=> .no
def cX (o:Oper) (σ:St) (d:Nat):(t:Ty)->t.D->List Tag->Step
 | .arr _ e,l,_=> .go true ((σ.C3 d (.arr e l false)).Ce o.dst (.ptr d (σ.v d+1) 0))
 | t,y,g=>bif hasSlf t then .no else .go true ((σ.C3 d (.var t y g)).Ce o.dst (.ptr d (σ.v d+1) 0))
def RQ (E:Env) (T:Nat) (o:Oper) (σ:St) (x:AV):Step:=
 match o.dst with
 | some d=>match E.ty T with
  | some t=>match x.as t with
   | some y=>cX o σ d t y (x.tags t)
   | Option.none=> .no
  | Option.none=> .no
 | Option.none=> .no
def L0 (E:Env) (T:Nat) (σ:St):(t:Ty)->List (Nat×Operand)->t.D->List Tag->Option (t.D×List Tag)
 | _,[],z,g=>some (z,g)
 | t,(f,x) :: ps,z,g=>match E.pl T f with
  | some (d,u)=>match (Bm σ x).as u with
   | some y=>match G0 u y t z d with
    | some z'=>L0 E T σ t ps z' (ec g d u.sz ((Bm σ x).tags u))
    | Option.none=>Option.none
   | Option.none=>Option.none
  | Option.none=>Option.none
def Om (σ:St) (e:Ty):Nat->List (Nat×Operand)->Option (List e.D)
 | _,[]=>some []
 | i,(j,x) :: ps=>if j=i then
   match (Bm σ x).as e with
   | some y=>match Om σ e (i+1) ps with
    | some l=>some (y :: l)
    | Option.none=>Option.none
   | Option.none=>Option.none
  else Option.none
def Q3 (E:Env) (T len:Nat) (parts:Array (Nat×Operand)) (o:Oper) (σ:St):Step:=
 match o.dst,E.ty T with
 | some d,some (.sl e)=>match Om σ e 0 parts.toList with
  | some l=>if parts.toList.length=len then bif E.lit d then .go (decide (len*e.sz<=16777216) && true) (σ.Ce o.dst (.dat (.sl e) l [])) else .go (decide (len*e.sz<=16777216) && true) ((σ.C8 (CK d 0)).Ce o.dst (.dat (.sl e) l [⟨0,CK d 0,σ.r (CK d 0)+1,e.sg⟩])) else .no
  | Option.none=> .no
 | _,_=> .no
def xX:Operand->Operand->Bool
 | .tmp i, .tmp j=>Nat.beq i j
 | .const (.int _ m), .const (.int _ n)=>decide (m=n)
 | _,_=>false
def Sr (E:Env) (T:Nat) (o:Oper) (σ:St) (x y:Operand):Step:=
 match o.dst,E.ty T,Bm σ x,Bm σ y with
 | some d,some (.sl e), .dat (.int _) n _, .dat (.int _) m _=>
  if xX x y then .go (BC 0 n && B1 n.toNat (E.by_ T)) ((σ.C3 d (.arr e (List.replicate n.toNat e.zero) false)).Ce o.dst (.slw d (σ.v d+1)))
  else if n=0 then
   bif E.bx d then .go (BC 0 m && B1 m.toNat (E.by_ T)) ((σ.C3 d (.arr e [] false)).Ce o.dst (.slw d (σ.v d+1)))
   else .go (BC 0 m && B1 m.toNat (E.by_ T)) ((σ.C8 (CK d 0)).Ce o.dst (.dat (.sl e) [] [⟨0,CK d 0,σ.r (CK d 0)+1,e.sg⟩]))
  else .no
 | _,_,_,_=> .no
def L1 (σ:St) (d sz:Nat):List Tag->Option Nat
 | []=>Option.none
 | t :: ts=>if t.off=0/\t.sz=sz then (if t.id=0 then some (CK d 0) else if σ.r t.id=t.ver then some t.id else Option.none) else L1 σ d sz ts
def UI (E:Env) (U:Nat) (σ:St) (e:Ty) (x:AV):Option (List e.D):=
 match E.ty U with
 | some (.sl _)=>content σ e x
 | _=>Option.none
def P7 (E:Env) (T U:Nat) (o:Oper) (σ:St) (id ver:Nat) (x:AV):Step:=
 match o.dst,E.ty T,σ.c id with
 | some _,some (.sl e),some (.arr e' l false)=>if σ.v id=ver/\Nat.blt id pid0=true then
   match DM (t:= .sl e') (.sl e) l,UI E U σ e x with
   | some l',some y=> .go (B1 (List.length (α:=e.D) l'+y.length) (E.by_ T)) ((σ.C3 id (.arr e (l'++y) false)).Ce o.dst (.slw id (σ.v id+1)))
   | _,_=> .no
  else .no
 | _,_,_=> .no
def partOf (σ:St):AV->Option (Nat×Nat×Nat)
 | .slw id ver=>if σ.v id=ver then
   match σ.c id with
   | some (.arr e l false)=>some (id,0,List.length (α:=e.D) l)
   | _=>Option.none
  else Option.none
 | .slm id ver lo n=>if σ.v id=ver then
   match σ.c id with
   | some (.arr _ _ false)=>some (id,lo,n)
   | _=>Option.none
  else Option.none
 | _=>Option.none
def Ig {α:Type} (l:List α) (lo:Nat) (y:List α):List α:=l.take lo++(y++l.drop (lo+y.length))
def Qg (E:Env) (T:Nat) (o:Oper) (σ:St) (s:AV):Step:=
 match partOf σ s,E.ty T with
 | some (id,lo,n),some (.sl e)=>match σ.c id with
  | some (.arr e' l false)=>if e'=e then .go true ((σ.Dq id (.arr e' (Ig l lo (List.replicate n e'.zero)) false)).Ce o.dst (.tup [])) else .no
  | _=> .no
 | _,_=> .no
def Qn (E:Env) (T U:Nat) (o:Oper) (σ:St) (s x:AV):Step:=
 match partOf σ s,E.ty T with
 | some (id,lo,n),some (.sl e)=>match σ.c id,UI E U σ e x with
  | some (.arr e' l false),some y=>match DM (t:= .sl e) (.sl e') y with
   | some y=> .go true ((σ.Dq id (.arr e' (Ig l lo (List.take n y)) false)).Ce o.dst (.dat (.int .i64) ((List.length (α:=e'.D) (List.take n y):Nat):Int) []))
   | Option.none=> .no
  | _,_=> .no
 | _,_=> .no
def KX (E:Env) (T U:Nat) (o:Oper) (σ:St) (s x:AV):Step:=
 match o.dst,E.ty T with
 | some d,some (.sl e)=>match s.as (.sl e) with
  | some l=>match L1 σ d e.sg (s.tags (.sl e)) with
   | some id=>match E.ty U with
    | some .str=>match e,l with
     | .int .u8,l=>match x with
      | .dat .str y _=> .go (B1 (l.length+y.size) (E.by_ T)) ((σ.C8 id).Ce o.dst (.dat (.sl (.int .u8)) (l++Bu y) [⟨0,id,σ.r id+1,0⟩]))
      | _=> .no
     | _,_=> .no
    | some (.sl _)=>match content σ e x with
     | some y=> .go (B1 (l.length+y.length) (E.by_ T)) ((σ.C8 id).Ce o.dst (.dat (.sl e) (l++y) [⟨0,id,σ.r id+1,e.sg⟩]))
     | Option.none=> .no
    | _=> .no
   | Option.none=> .no
  | Option.none=> .no
 | _,_=> .no
def KE (t:Option Ty) (o:Oper) (σ:St) (x:AV):Step:=
 match t with
 | some .str=>match x with
  | .dat .str s _=>put o σ (.dat (.int .i64) (Bg s) [])
  | _=> .no
 | some (.sl _)=>match x with
  | .dat (.sl _) l _=>put o σ (.dat (.int .i64) (AZ l) [])
  | .nils=>put o σ (.dat (.int .i64) (0:Int) [])
  | .slw id ver=>if σ.v id=ver then
    match σ.c id with
    | some (.arr _ l _)=>put o σ (.dat (.int .i64) (AZ l) [])
    | _=> .no
   else .no
  | .slm id ver _ n=>if σ.v id=ver then put o σ (.dat (.int .i64) (n:Int) []) else .no
  | _=> .no
 | _=> .no
def XV (f:Int->Int->Int) (k:IntKind):Int->List AV->Option Int
 | a,[]=>some a
 | a, .dat (.int j) b _ :: r=>if j=k then XV f k (f a b) r else Option.none
 | _,_=>Option.none
def N8 (f:Int->Int->Int) (o:Oper) (σ:St) (xs:List AV):Step:=
 match xs with
 | .dat (.int k) a _ :: r=>match XV f k a r with
  | some n=>put o σ (.dat (.int k) n [])
  | Option.none=> .no
 | _=> .no
def Vb (σ:St) (g:List Tag):List Tag:=g.filter λ τ=>Nat.beq τ.id 0 || Nat.beq (σ.r τ.id) τ.ver
def eK:Ty->Bool
 | .int .u8=>true
 | _=>false
def Mc (E:Env) (T:Nat) (m:Bool) (σ:St) (x:AV):Option (AV×St):=
 match x with
 | .dat t y _=>some (.dat t y [],σ)
 | .nils=>match E.ty T with
  | some (.sl e)=>some (.dat (.sl e) [] [],σ)
  | _=>Option.none
 | .slw id ver=>bif m then
   (if σ.v id=ver then
    match σ.c id with
    | some (.arr e l false)=>match eK e with
     | true=>Option.none
     | false=>some (.ioa e l,σ)
    | _=>Option.none
   else Option.none)
  else if σ.v id=ver/\Nat.blt id pid0=true then
   match σ.c id with
   | some (.arr e l _)=>some (.dat (.sl e) l [],σ.Dq id (.arr e l true))
   | _=>Option.none
  else Option.none
 | .slm id ver lo n=>if σ.v id=ver/\Nat.blt id pid0=true then
   match σ.c id with
   | some (.arr e l _)=>some (.dat (.sl e) ((l.drop lo).take n) [],σ.Dq id (.arr e l true))
   | _=>Option.none
  else Option.none
 | .fn f ds=>some (.fn f ds,σ)
 | .ept t x 0=>some (.ept t x 0,σ)
 | .ptr id ver 0=>if σ.v id=ver then
   match σ.c id with
   | some (.var t x g)=>some (.iov t x (Vb σ g),σ)
   | _=>Option.none
  else Option.none
 | _=>Option.none
def Zdp (m:Bool):AV->List Nat
 | .ptr id _ _=>[id]
 | .slw id _=>bif m then [id] else []
 | _=>[]
def KY (σ:St):List Nat->Bool
 | []=>true
 | id :: r=>(match σ.c id with | some (.var ..)=>true | some (.arr _ _ f)=>!f | _=>false) && (r.all λ j=>!Nat.beq id j) && KY σ r
def Ic:List Nat->List Con->St->St
 | id :: ids,d :: ds,σ=>Ic ids ds (σ.Dq id d)
 | _,_,σ=>σ
def Gq:List AV->List Nat
 | []=>[]
 | .iov _ _ g :: l=>g.map (·.id)++Gq l
 | _ :: l=>Gq l
def Kh:List Nat->Bool
 | []=>true
 | i :: l=>(Nat.beq i 0 || l.all λ j=>!Nat.beq i j) && Kh l
def EC:List Nat->St->St
 | [],σ=>σ
 | i :: r,σ=>EC r (σ.C8 i)
def QC (σ:St):List (Nat×Nat)->Option (List AV)
 | []=>some []
 | (id,ver) :: r=>if σ.v id=ver then
   match σ.c id with
   | some (.var t x g)=>match QC σ r with
    | some l=>some (.iov t x (Vb σ g) :: l)
    | Option.none=>Option.none
   | _=>Option.none
  else Option.none
def Dr (σ:St):AV->Option (Dat×St)
 | .ptr id ver 0=>if σ.v id=ver/\Nat.blt id pid0=true then
   match σ.c id with
   | some (.var t x _)=>some (⟨t,x,[]⟩,σ.Dq id (.arr t [x] true))
   | some (.arr t [x] true)=>some (⟨t,x,[]⟩,σ)
   | _=>Option.none
  else Option.none
 | .ept t x 0=>some (⟨t,x,[]⟩,σ)
 | _=>Option.none
def Np:List Operand->St->Option (List Dat×St)
 | [],σ=>some ([],σ)
 | x :: r,σ=>match Dr σ (Bm σ x) with
  | some (d,σ')=>match Np r σ' with
   | some (l,σ'')=>some (d :: l,σ'')
   | Option.none=>Option.none
  | Option.none=>Option.none
def Qo (σ:St):List Operand->Option (List (Nat×Nat))
 | []=>some []
 | x :: r=>match Bm σ x with
  | .ptr id ver 0=>if σ.v id=ver then
    match Qo σ r with
    | some l=>some ((id,ver) :: l)
    | Option.none=>Option.none
   else Option.none
  | _=>Option.none
def Jb:List Dat->List AV
 | []=>[]
 | d :: ds=> .ept d.t d.x 0 :: Jb ds
def EF:List AV->List AV->List AV
 | [],m=>m
 | a :: l,m=>a :: EF l m
def KA (E:Env):List Bool->List (Operand×Nat)->St->Option (List AV×St)
 | _,[],σ=>some ([],σ)
 | ms,(x,T) :: r,σ=>match Mc E T (ms.headD false) σ (Bm σ x) with
  | some (a,σ')=>match KA E ms.tail r σ' with
   | some (l,σ'')=>some (a :: l,σ'')
   | Option.none=>Option.none
  | Option.none=>Option.none
def Lw (d:Nat):List Tag->Nat->St->List Tag×Nat×St
 | [],j,σ=>([],j,σ)
 | t :: r,j,σ=>
  if t.id=0 then let p:=Lw d r j σ;(t :: p.1,p.2)
  else let p:=Lw d r (j+1) (σ.C8 (CK d j));(⟨t.off,CK d j,σ.r (CK d j)+1,t.sz⟩ :: p.1,p.2)
def Pk (d:Nat):List Dat->Nat->St->List Dat×Nat×St
 | [],j,σ=>([],j,σ)
 | x :: r,j,σ=>let p:=Lw d x.g j σ;let q:=Pk d r p.2.1 p.2.2;(⟨x.t,x.x,p.1⟩ :: q.1,q.2)
def SY:Con->Con
 | .var t x _=> .var t x []
 | c=>c
def Lc (d:Nat):List Con->Nat->St->List Con×Nat×St
 | [],j,σ=>([],j,σ)
 | .var t x g :: r,j,σ=>let p:=Lw d g j σ;let q:=Lc d r p.2.1 p.2.2;(.var t x p.1 :: q.1,q.2)
 | c :: r,j,σ=>let q:=Lc d r j σ;(c :: q.1,q.2)
def imp (o:Oper) (ids:List Nat) (σ:St) (a:AV) (EG:List Con):St:=
 match o.dst with
 | Option.none=>Ic ids (EG.map SY) σ
 | some d=>match a with
  | .dat t x g=>let p:=Lw d g 0 σ;let q:=Lc d EG p.2.1 p.2.2;(Ic ids q.1 q.2.2).Ce o.dst (.dat t x p.1)
  | .tup ds=>let p:=Pk d ds 0 σ;let q:=Lc d EG p.2.1 p.2.2;(Ic ids q.1 q.2.2).Ce o.dst (.tup p.1)
  | .bxv e l=>let τ:=Ic ids (EG.map SY) σ;(τ.C3 d (.arr e l false)).Ce o.dst (.slw d (τ.v d+1))
  | .slp k n=>let τ:=Ic ids (EG.map SY) σ;match ids[k]? with
   | some id=>τ.Ce o.dst (.slm id (τ.v id) 0 n)
   | Option.none=>τ.Ce o.dst .undef
  | _=>(Ic ids (EG.map SY) σ).Ce o.dst a
def Gw (σ:St):List Bool->List Operand->List Nat
 | _,[]=>[]
 | ms,x :: xs=>Zdp (ms.headD false) (Bm σ x)++Gw σ ms.tail xs
def Ld:List AV->Bool
 | []=>false
 | .ioa _ _ :: _=>true
 | _ :: l=>Ld l
def Od:List AV->Bool
 | []=>true
 | .ioa _ l :: r=>decide (0<l.length) && Od r
 | _ :: r=>Od r
def SZ:List AV->List Con->Bool
 | [],_=>true
 | .ioa e l :: r, .arr e' l' f :: cs=>decide (e'=e) && (!f && (decide (l'.length=l.length) && SZ r cs))
 | .ioa _ _ :: _,_=>false
 | .iov _ _ _ :: r,_ :: cs=>SZ r cs
 | .iov _ _ _ :: _,[]=>false
 | _ :: r,cs=>SZ r cs
def mG (l:List AV) (r:CallRes):Option r.α:=bif Od l then r.m.bind λ x=>bif SZ l (r.io x) then some x else Option.none else Option.none
abbrev mA (l:List AV) (r:CallRes):Option r.α:=Bool.casesOn (motive:=λ _=>Option r.α) (Ld l) r.m (mG l r)
def KF (b:Bool) (σ σ':St):St:=bif b then σ else σ'
def IP:Ty->Bool
 | .int _ | .bool | .str=>true
 | .wrap a=>IP a
 | .pair a b=>IP a && IP b
 | .arr _ e=>IP e
 | .lk _=>true
 | .sl _=>false
def XW:AV->Bool
 | .dat t _ g=>IP t && g.isEmpty
 | .tup ds=>ds.all λ d=>IP d.t && d.g.isEmpty
 | _=>false
def XX:Con->Bool
 | .var t _ _=>IP t
 | .arr e _ _=>IP e
 | _=>false
def Words (s:Spec):Prop:=∀ l r x,s l=some r->XW (r.enc x)=true/\∀ d∈r.io x,XX d=true
def Nq (E:Env) (c:Call) (o:Oper) (σ:St):Step:=
 match c.callee with
 | .builtin b=>match b,c.args.toList,c.argTypes.toList with
  | .len,[x],[T]=>KE (E.ty T) o σ (Bm σ x)
  | .append,[s,x],[T,U]=>match Bm σ s with
   | .slw id ver=>P7 E T U o σ id ver (Bm σ x)
   | s=>KX E T U o σ s (Bm σ x)
  | .clear,[x],[T]=>Qg E T o σ (Bm σ x)
  | .copy,[s,x],[T,U]=>Qn E T U o σ (Bm σ s) (Bm σ x)
  | .min,xs,_=>N8 Eo o σ (xs.map (Bm σ))
  | .max,xs,_=>N8 FT o σ (xs.map (Bm σ))
  | _,_,_=> .no
 | .value f=>match Bm σ f with
  | .fn f ds=>match E.call f with
   | some s=>if c.args.toList.length=c.argTypes.toList.length then
    match KA E (E.inpl f) (c.args.toList.zip c.argTypes.toList) σ with
    | some (l,σ')=>match s (EF l (Jb ds)) with
     | some r=>bif KY (KF (E.lend f) σ σ') (Gw σ (E.inpl f) c.args.toList) && (Kh (Gq (EF l (Jb ds))) && (!E.lend f || ((Gq (EF l (Jb ds))).isEmpty && !Ld (EF l (Jb ds))))) then .call r.α (mA (EF l (Jb ds)) r) (λ x=>imp o (Gw σ (E.inpl f) c.args.toList) (EC (Gq (EF l (Jb ds))) (KF (E.lend f) σ σ')) (r.enc x) (r.io x)) else .no
     | Option.none=> .no
    | Option.none=> .no
    else .no
   | Option.none=> .no
  | .clo f ps=>match E.call f with
   | some s=>if c.args.toList.length=c.argTypes.toList.length then
    match KA E (E.inpl f) (c.args.toList.zip c.argTypes.toList) σ,QC σ ps with
    | some (l,σ'),some cs=>match s (EF l cs) with
     | some r=>bif KY (KF (E.lend f) σ σ') (Gw σ (E.inpl f) c.args.toList++ps.map (·.1)) && (Kh (Gq (EF l cs)) && (!E.lend f || ((Gq (EF l cs)).isEmpty && !Ld (EF l cs)))) then .call r.α (mA (EF l cs) r) (λ x=>imp o (Gw σ (E.inpl f) c.args.toList++ps.map (·.1)) (EC (Gq (EF l cs)) (KF (E.lend f) σ σ')) (r.enc x) (r.io x)) else .no
     | Option.none=> .no
    | _,_=> .no
    else .no
   | Option.none=> .no
  | _=> .no
 | _=> .no
def OZ:Operand->Bool
 | .const (.slice Option.none 0 0)=>true
 | _=>false
def Nr (E:Env) (o:Oper) (σ:St) (c:Bool) (x:AV):Step:=
 match x,o.dst with
 | .nils,some d=>bif E.bx d && c then
   match E.ty o.type with
   | some (.sl e)=> .go true ((σ.C3 d (.arr e [] false)).Ce o.dst (.slw d (σ.v d+1)))
   | _=> .no
  else put o σ (coe E o.type .nils)
 | x,_=>put o σ (coe E o.type x)
def EP (E:Env) (σ:St) (o:Oper):Step:=
 match o.op with
 | .move x=>Nr E o σ (OZ x) (Bm σ x)
 | .assign x=>Nr E o σ (OZ x) (Bm σ x)
 | .alloc T=>Rr E T o σ
 | .box T x=>RQ E T o σ (Bm σ x)
 | .build T ps=>match E.ty T with
  | some t=>if t.isAgg=true then
    match L0 E T σ t ps.toList t.zero (Oc t 0) with
    | some (z,g)=>put o σ (.dat t z g)
    | Option.none=> .no
   else .no
  | Option.none=> .no
 | .buildSlice T n ps=>Q3 E T n ps o σ
 | .load T a=>Pd E T o σ (Bm σ a)
 | .store T a x=>Rq E T o σ (Bm σ a) (Bm σ x)
 | .nilCheck x=>match Bm σ x with
  | .ptr id ver off=>if σ.v id=ver then put o σ (.ptr id ver off) else .no
  | .aptr id ver i off=>if σ.v id=ver then put o σ (.aptr id ver i off) else .no
  | .ept t x off=>put o σ (.ept t x off)
  | _=> .no
 | .binOp op T x y _=>bif UU y then Qm E T op o σ (Bm σ x) else Qe E T op o σ (Bm σ x) (Bm σ y)
 | .unOp op _ x=>RC op o σ (Bm σ x)
 | .convert src dst x=>MA E src dst o σ (Bm σ x)
 | .makeFunc (.func f) first caps=>
  if first.size=0 then
   bif IC E o.dst then
    match Qo σ caps.toList with
    | some ps=>put o σ (.clo f ps)
    | Option.none=> .no
   else match Np caps.toList σ with
   | some (ds,σ')=> .go true (σ'.Ce o.dst (.fn f ds))
   | Option.none=> .no
  else .no
 | .makeSlice T n m=>Sr E T o σ n m
 | .slice T x lo hi Option.none=>Qf E T o σ (Bm σ x) lo hi
 | .fieldAddr S x f=>OL E S f o σ (Bm σ x)
 | .field S x f=>Ro E S f o σ (Bm σ x)
 | .indexAddr T x i=>OM E T o σ (Bm σ x) (Bm σ i)
 | .index T x i=>Rp E T o σ (Bm σ x) (Bm σ i)
 | .extract x i=>Rc i o σ (Bm σ x)
 | .call c=>Nq E c o σ
 | _=> .no
section
variable {R : Type}
def Step.run (s:Step) (k:St->Option R):Option R:=
 match s with
 | .no=>Option.none
 | .go c σ=>bif c then k σ else Option.none
 | .call _ m f=>m.bind λ x=>k (f x)
def XY (E:Env) (σ:St) (o:Oper) (k:St->Option R):Option R:=
 match o.op with
 | .pick c a b=>match Bm σ c with
  | .dat .bool t _=>bif t then k (σ.Ce o.dst (Bm σ a)) else k (σ.Ce o.dst (Bm σ b))
  | _=>Option.none
 | _=>(EP E σ o).run k
def cY (ops:Array Oper) (j:Nat):Option Nat:=(ops[j]?).bind (·.dst)
def eL (E:Env) (ops:Array Oper) (o:Oper) (σ:St) (k:St->Option R):Option R:=
 match o.guard with
 | Option.none=>XY E σ o k
 | some (j,want)=>match cY ops j with
  | Option.none=>k (σ.Ce o.dst .none)
  | some s=>match σ.t s with
   | .none=>k (σ.Ce o.dst .none)
   | .dat .bool b g=>
    bif b then
     bif want then XY E (σ.Ce (some s) (.dat .bool true g)) o k else k ((σ.Ce (some s) (.dat .bool true g)).Ce o.dst .none)
    else
     bif want then k ((σ.Ce (some s) (.dat .bool false g)).Ce o.dst .none) else XY E (σ.Ce (some s) (.dat .bool false g)) o k
   | _=>Option.none
def XZ (E:Env) (ops:Array Oper):List Oper->St->(St->Option R)->Option R
 | [],σ,k=>k σ
 | o :: r,σ,k=>eL E ops o σ λ σ'=>XZ E ops r σ' k
inductive Ex where
 | normal | exit (id:Nat) | ret
 deriving DecidableEq
def Pr (l:List (Nat×AV)):Nat->AV:=λ i=>match l with
 | []=> .undef
 | (j,a) :: r=>bif Nat.beq i j then a else Pr r i
def JK (l:List (Nat×Option Con)):Nat->Option Con:=λ i=>match l with
 | []=>Option.none
 | (j,a) :: r=>bif Nat.beq i j then a else JK r i
def mk (l:List (Nat×AV)) (c:List (Nat×Option Con)):St:={ t:=Pr l,c:=JK c,v:=λ _=>0,r:=λ _=>0 }
def Qp (σ:St) (p:Nat):List Tag->List (Nat×Nat)->List Tag×List (Nat×Nat)
 | [],s=>([],s)
 | t :: r,s=>
  if s.all (λ z=>!Nat.beq z.1 (CK p t.off)) && (Nat.beq t.id 0 || (Nat.beq (σ.r t.id) t.ver && s.all λ z=>!Nat.beq z.2 t.id)) then
   let q:=Qp σ p r ((CK p t.off,t.id) :: s);(⟨t.off,CK p t.off,0,t.sz⟩ :: q.1,q.2)
  else Qp σ p r s
def J0 (cs:List (Nat×Bool)) (σ:St) (id ver:Nat):Bool:=Nat.beq (σ.v id) ver && cs.any λ z=>Nat.beq z.1 id
def X0 (cs:List (Nat×Bool)) (σ:St) (p:Nat) (b:Bool) (s:List (Nat×Nat)):AV->AV×List (Nat×Nat)
 | .dat t x g=>if b then let q:=Qp σ p g s;(.dat t x q.1,q.2) else (.dat t x [],s)
 | .nils=>(.nils,s)
 | .none=>(.none,s)
 | .ptr id ver off=>(if J0 cs σ id ver then .ptr id 0 off else .undef,s)
 | .slw id ver=>(if J0 cs σ id ver then .slw id 0 else .undef,s)
 | .slm id ver lo n=>(if J0 cs σ id ver then .slm id 0 lo n else .undef,s)
 | .fn f ds=>(.fn f ds,s)
 | .clo f ps=>(if ps.all (λ p=>J0 cs σ p.1 p.2) then .clo f (ps.map λ p=>(p.1,0)) else .undef,s)
 | .ept t x off=>(.ept t x off,s)
 | _=>(.undef,s)
def Vc (σ:St) (p:Nat) (b:Bool) (s:List (Nat×Nat)):Option Con->Option Con×List (Nat×Nat)
 | some (.var t x g)=>if b then let q:=Qp σ (1000+p) g s;(some (.var t x q.1),q.2) else (some (.var t x []),s)
 | some (.arr e l f)=>(some (.arr e l f),s)
 | some (.val (.fn f []))=>(some (.val (.fn f [])),s)
 | _=>(Option.none,s)
def Ng (cs:List (Nat×Bool)) (σ:St):List (Nat×Bool)->List (Nat×Nat)->List (Nat×AV)×List (Nat×Nat)
 | [],s=>([],s)
 | (i,b) :: r,s=>let q:=X0 cs σ i b s (σ.t i);let z:=Ng cs σ r q.2;((i,q.1) :: z.1,z.2)
def Nh (σ:St):List (Nat×Bool)->List (Nat×Nat)->List (Nat×Option Con)×List (Nat×Nat)
 | [],s=>([],s)
 | (i,b) :: r,s=>let q:=Vc σ i b s (σ.c i);let z:=Nh σ r q.2;((i,q.1) :: z.1,z.2)
def norm (kp:Keep) (σ:St):St:=
 let p:=Ng kp.c σ kp.t []
 mk p.1 (Nh σ kp.c p.2).1
inductive Job where
 | loop (c:Code) | tail (c:Code)
abbrev K (R:Type):=Ex->St->Option R
def ZH:Code->Option Nat
 | .region id _ _=>some id
 | .seq a _=>ZH a
 | .block _ c=>ZH c
 | .loop c=>ZH c
 | _=>Option.none
def pt (E:Env) (jb:Job->Nat->St->K R->Option R) (y:Code) (b:Nat) (ev:St->K R->Option R) (k:K R):K R:=λ e σ=>
 match e with
 | .normal=>match (ZH y).bind E.cut with
  | some kp=>jb (.tail y) b (norm kp σ) k
  | Option.none=>ev σ k
 | e=>k e σ
def BA (id:Nat) (k:K R):K R:=λ e σ=>
 match e with
 | .exit id'=>if id'=id then k .normal σ else k (.exit id') σ
 | e=>k e σ
def Zkm (kp:Keep) (again:St->Option R) (k:K R):K R:=λ e σ=>
 match e with
 | .normal=>again (norm kp σ)
 | e=>k e σ
def KL (E:Env) (jb:Job->Nat->St->K R->Option R) (dr:Array Oper->St->(St->Option R)->Option R):Code->Nat->St->K R->Option R
 | .skip,_,σ,k=>k .normal σ
 | .region _ ops false,_,σ,k=>XZ E ops ops.toList σ (k .normal)
 | .region _ ops true,_,σ,k=>dr ops σ (k .normal)
 | .seq x y,b,σ,k=>KL E jb dr x b σ (pt E jb y b (KL E jb dr y b) k)
 | .cond c x y,b,σ,k=>match Bm σ c with
  | .dat .bool t _=>bif t then KL E jb dr x b σ k else KL E jb dr y b σ k
  | _=>Option.none
 | .block id c,_,σ,k=>KL E jb dr c id σ (BA id k)
 | .loop c,b,σ,k=>jb (.loop c) b (norm (E.loop b) σ) k
 | .exit id,_,σ,k=>match E.blk id with
  | some kp=>k (.exit id) (norm kp σ)
  | Option.none=>k (.exit id) σ
 | .ret,_,σ,k=>k .ret (norm E.ret σ)
 | _,_,_,_=>Option.none
def Mj (E:Env) (dr:Array Oper->St->(St->Option R)->Option R):Nat->Job->Nat->St->K R->Option R
 | 0,_,_,_,_=>Option.none
 | n+1, .loop c,b,σ,k=>KL E (Mj E dr n) dr c b σ (Zkm (E.loop b) (λ σ'=>Mj E dr n (.loop c) b σ' k) k)
 | n+1, .tail c,b,σ,k=>KL E (Mj E dr n) dr c b σ k
end
end
section
open Go.RowKit (Below)
theorem IN (A:Addr) (h:A.spot=none) (k:Nat):A.add k=⟨A.block,A.off+k,none⟩:=by
 cases A with | mk b o s=>simp only at h;subst h;unfold Addr.add;split <;> simp_all
def C9 {α β:Type} (p:α->β->Prop):List α->List β->Prop
 | [],[]=>True
 | a :: l,b :: m=>p a b/\C9 p l m
 | _,_=>False
theorem C9.imp {α β:Type} {p q:α->β->Prop} (FV:∀ a b,p a b->q a b):∀ {l:List α} {m:List β},C9 p l m->C9 q l m
 | [],[],_=>trivial
 | _ :: _,_ :: _,h=>⟨FV _ _ h.1,C9.imp FV h.2⟩
 | [],_ :: _,h=>h.elim
 | _ :: _,[],h=>h.elim
theorem C9.len {α β:Type} {p:α->β->Prop}:∀ {l:List α} {m:List β},C9 p l m->l.length=m.length
 | [],[],_=>rfl
 | _ :: _,_ :: _,h=>by simp [C9.len h.2]
 | [],_ :: _,h=>h.elim
 | _ :: _,[],h=>h.elim
theorem C9.get {α β:Type} {p:α->β->Prop}:∀ {l:List α} {m:List β} {i:Nat} {a:α},C9 p l m->l[i]? = some a->∃ b,m[i]? = some b/\p a b
 | a :: _,b :: _,0,_,h,hi=>by simp at hi;subst hi;exact ⟨b,rfl,h.1⟩
 | _ :: _,_ :: _,i+1,_,h,hi=>by
  simp only [List.getElem?_cons_succ] at hi ⊢;exact C9.get h.2 hi
 | [],_,i,_,_,hi=>by simp at hi
 | _ :: _,[],_,_,h,_=>h.elim
def valOf (t:Ty) (cs:List Value):Value:=if t.isAgg then .agg cs.toArray else cs.headD undef
def fA:Bool->Bool->Value->Prop
 | true,x,v=>(x=true/\v = .nilIface)\/(x=false/\∃ T u,v = .iface T u)
 | false,x,v=>(x=true/\v = .pointer none)\/(x=false/\∃ A,v = .pointer (some A))
theorem fA.one {k x:Bool} {v:Value} (h:fA k x v):v.oneCell'=true:=by
 cases k with
 | true=>rcases h with ⟨_,rfl⟩ | ⟨_,T,u,rfl⟩ <;> rfl
 | false=>rcases h with ⟨_,rfl⟩ | ⟨_,A,rfl⟩ <;> rfl
def RepD (ok:Nat->Nat->Prop) (w:World):(t:Ty)->t.D->List Value->Prop
 | .int k,n,cs=>cs=[.int k n]
 | .bool,b,cs=>cs=[.bool b]
 | .str,s,cs=>cs=[.string s]
 | .sl e,l,cs=>∃ a n cap,cs=[.slice a n cap]/\List.length (α:=e.D) l=n/\n<=cap/\cap<=maxLen/\
   ∀ (i:Nat) (x:e.D),l[i]? = some x->∃ A:Addr,a=some A/\A.spot=none/\∃ ys,RepD ok w e x ys/\
    ∀ j v,ys[j]? = some v->ok A.block (A.off+(i*e.sz+j))/\w.cell? ⟨A.block,A.off+(i*e.sz+j),none⟩=some v
 | .wrap a,x,cs=>RepD ok w a x cs
 | .pair a b,x,cs=>∃ c1 c2,cs=c1++c2/\RepD ok w a x.1 c1/\RepD ok w b x.2 c2
 | .arr m e,l,cs=>List.length (α:=e.D) l=m+1/\cs.length=(m+1)*e.sz/\∀ (i:Nat) (x:e.D),l[i]? = some x->RepD ok w e x ((cs.drop (i*e.sz)).take e.sz)
 | .lk k,x,cs=>∃ v,cs=[v]/\fA k x v
section
variable {ok ok' : Nat -> Nat -> Prop} {w w' : World}
theorem RepD.len:∀ {t:Ty} {x:t.D} {cs:List Value},RepD ok w t x cs->cs.length=t.sz
 | .int _,_,_,h=>by simp only [RepD] at h;subst h;rfl
 | .bool,_,_,h=>by simp only [RepD] at h;subst h;rfl
 | .str,_,_,h=>by simp only [RepD] at h;subst h;rfl
 | .sl _,_,_,h=>by obtain ⟨a,n,cap,rfl,_⟩:=h;rfl
 | .wrap a,_,_,h=>RepD.len (t:=a) h
 | .pair a b,_,_,h=>by obtain ⟨c1,c2,rfl,h1,h2⟩:=h;simp [Ty.sz,h1.len,h2.len]
 | .arr m e,_,_,h=>h.2.1
 | .lk _,_,_,h=>by obtain ⟨v,rfl,_⟩:=h;rfl
theorem Ty.Nk:∀ t:Ty,0<t.sz
 | .int _ | .bool | .str | .sl _ | .lk _=>Nat.one_pos
 | .wrap a=>a.Nk
 | .pair a b=>by have:=a.Nk;simp only [Ty.sz];omega
 | .arr m e=>by have:=e.Nk;simp only [Ty.sz];exact Nat.mul_pos (Nat.succ_pos _) this
theorem W4 (e:Ty):Pj e.sg=e.sz:=by
 unfold Pj;split
 ·rename_i h;unfold Ty.sg at h;split at h
  ·rfl
  ·have:=e.Nk;omega
 ·rename_i h;unfold Ty.sg at h ⊢;split
  ·simp at h
  ·rfl
theorem RepD.one:∀ {t:Ty} {x:t.D} {cs:List Value},RepD ok w t x cs->∀ v∈cs,v.oneCell'=true
 | .int _,_,_,h=>by simp only [RepD] at h;subst h;simp [Value.oneCell']
 | .bool,_,_,h=>by simp only [RepD] at h;subst h;simp [Value.oneCell']
 | .str,_,_,h=>by simp only [RepD] at h;subst h;simp [Value.oneCell']
 | .sl _,_,_,h=>by obtain ⟨a,n,cap,rfl,_⟩:=h;simp [Value.oneCell']
 | .lk _,_,_,h=>by
  obtain ⟨v,rfl,hv⟩:=h;intro u hu;rw [AW] at hu;subst hu;exact hv.one
 | .wrap a,_,_,h=>RepD.one (t:=a) h
 | .pair a b,_,_,h=>by
  obtain ⟨c1,c2,rfl,h1,h2⟩:=h;intro v hv;rcases List.mem_append.1 hv with hv | hv
  ·exact h1.one v hv
  ·exact h2.one v hv
 | .arr m e,l,cs,h=>by
  obtain ⟨h1,h2,h3⟩:=h;intro v hv;obtain ⟨k,hk⟩:=List.mem_iff_getElem?.1 hv;have AY:=(List.getElem?_eq_some_iff.1 hk).1;have hp:=e.Nk;have hi:k / e.sz<m+1:=by rw [Nat.div_lt_iff_lt_mul hp];omega
  have R4:k / e.sz<List.length (α:=e.D) l:=Ad
  have hr:=h3 (k / e.sz) _ (AD R4);have Qx:k % e.sz<e.sz:=Nat.mod_lt _ hp;refine hr.one v (List.mem_iff_getElem?.2 ⟨k % e.sz,?_⟩);rw [AQ,if_pos Qx,List.getElem?_drop,Nat.mul_comm,Nat.div_add_mod];exact hk
theorem RepD.mono (hm:∀ b o,ok b o->ok' b o/\w'.cell? ⟨b,o,none⟩=w.cell? ⟨b,o,none⟩):∀ {t:Ty} {x:t.D} {cs:List Value},RepD ok w t x cs->RepD ok' w' t x cs
 | .int _,_,_,h=>h
 | .bool,_,_,h=>h
 | .str,_,_,h=>h
 | .sl e,_,_,h=>by
  obtain ⟨a,n,cap,rfl,hl,h1,h2,hc⟩:=h;refine ⟨a,n,cap,rfl,hl,h1,h2,λ i x hi=>?_⟩;obtain ⟨A,ha,hs,ys,hy,D0⟩:=hc i x hi;refine ⟨A,ha,hs,ys,hy.mono hm,λ j v hj=>?_⟩;obtain ⟨h3,h4⟩:=D0 j v hj;obtain ⟨h5,h6⟩:=hm _ _ h3;exact ⟨h5,h6.trans h4⟩
 | .wrap a,_,_,h=>RepD.mono (t:=a) hm h
 | .pair a b,_,_,h=>by
  obtain ⟨c1,c2,rfl,h1,h2⟩:=h;exact ⟨c1,c2,rfl,h1.mono hm,h2.mono hm⟩
 | .arr m e,_,_,h=>⟨h.1,h.2.1,λ i x hi=>(h.2.2 i x hi).mono hm⟩
 | .lk _,_,_,h=>h
theorem F6 {t u:Ty} {x:t.D} {y:u.D} (h:DM u x=some y):∃ e:t=u,e ▸ x=y:=by
 unfold DM at h;split at h
 ·rename_i e;exact ⟨e,Option.some.inj h⟩
 ·cases h
theorem RepD.cast {t u:Ty} {x:t.D} {y:u.D} {cs:List Value} (h:DM u x=some y) (hr:RepD ok w t x cs):RepD ok w u y cs:=by
 obtain ⟨e,he⟩:=F6 h;subst e;subst he;exact hr
theorem Rg {t u:Ty} {x:t.D} {off:Nat} {y:u.D} {cs:List Value} (h:(if off=0 then DM u x else none)=some y) (hr:RepD ok w t x cs):
  RepD ok w u y ((cs.drop off).take u.sz)/\off+u.sz<=t.sz:=by
 split at h
 ·subst off;obtain ⟨e,he⟩:=F6 h;subst e;subst he;have:=hr.len;refine ⟨?_,Ad⟩;rw [List.drop_zero,AL Ad];exact hr
 ·cases h
theorem P2 {u:Ty}:∀ {t:Ty} {x:t.D} {off:Nat} {y:u.D} {cs:List Value},sub u t x off=some y->RepD ok w t x cs->
  RepD ok w u y ((cs.drop off).take u.sz)/\off+u.sz<=t.sz
 | .int k,x,off,y,cs,h,hr=>Rg (t:= .int k) h hr
 | .bool,x,off,y,cs,h,hr=>Rg (t:= .bool) h hr
 | .str,x,off,y,cs,h,hr=>Rg (t:= .str) h hr
 | .sl e,x,off,y,cs,h,hr=>Rg (t:= .sl e) h hr
 | .arr m e,x,off,y,cs,h,hr=>Rg (t:= .arr m e) h hr
 | .lk k,x,off,y,cs,h,hr=>Rg (t:= .lk k) h hr
 | .wrap a,x,off,y,cs,h,hr=>by
  rw [sub] at h;split at h
  ·rename_i h0;exact Rg (t:= .wrap a) (off:=off) (by rw [if_pos h0.1];exact h) hr
  ·exact P2 (t:=a) h hr
 | .pair a b,x,off,y,cs,h,hr=>by
  rw [sub] at h;split at h
  ·rename_i h0;exact Rg (t:= .pair a b) (off:=off) (by rw [if_pos h0.1];exact h) hr
  ·obtain ⟨c1,c2,rfl,h1,h2⟩:=hr;have l1:=h1.len;have l2:=h2.len;split at h
   ·rename_i AY;obtain ⟨hs,hb⟩:=P2 (t:=a) h h1;refine ⟨?_,by simp only [Ty.sz];omega⟩;rw [List.drop_append_of_le_length Ad,List.take_append_of_le_length (by rw [List.length_drop];omega)];exact hs
   ·rename_i Kf;obtain ⟨hs,hb⟩:=P2 (t:=b) h h2;refine ⟨?_,by simp only [Ty.sz];omega⟩;rw [List.drop_append,List.drop_eq_nil_of_le Ad,AS,l1];exact hs
def D7 (cs:List Value) (off:Nat) (ys:List Value):List Value:=cs.take off++ys++cs.drop (off+ys.length)
theorem Rh {t u:Ty} {off:Nat} {y:u.D} {z:t.D} {cs ys:List Value} (h:(if off=0 then DM t y else none)=some z) (hl:cs.length=t.sz) (hy:RepD ok w u y ys):
  RepD ok w t z (D7 cs off ys)/\off+u.sz<=t.sz:=by
 split at h
 ·subst off;obtain ⟨e,he⟩:=F6 h;subst e;subst he;have:=hy.len;refine ⟨?_,Ad⟩;unfold D7;rw [List.take_zero,AS,List.drop_eq_nil_of_le Ad,AE];exact hy
 ·cases h
theorem Uw {u:Ty} {y:u.D} {ys:List Value} (hy:RepD ok w u y ys):∀ {t:Ty} {x:t.D} {off:Nat} {z:t.D} {cs:List Value},G0 u y t x off=some z->RepD ok w t x cs->
  RepD ok w t z (D7 cs off ys)/\off+u.sz<=t.sz
 | .int k,x,off,z,cs,h,hr=>Rh (t:= .int k) h hr.len hy
 | .bool,x,off,z,cs,h,hr=>Rh (t:= .bool) h hr.len hy
 | .str,x,off,z,cs,h,hr=>Rh (t:= .str) h hr.len hy
 | .sl e,x,off,z,cs,h,hr=>Rh (t:= .sl e) h hr.len hy
 | .arr m e,x,off,z,cs,h,hr=>Rh (t:= .arr m e) h hr.len hy
 | .lk k,x,off,z,cs,h,hr=>Rh (t:= .lk k) h hr.len hy
 | .wrap a,x,off,z,cs,h,hr=>by
  rw [G0] at h;split at h
  ·rename_i h0;exact Rh (t:= .wrap a) (off:=off) (by rw [if_pos h0.1];exact h) hr.len hy
  ·exact Uw hy (t:=a) h hr
 | .pair a b,x,off,z,cs,h,hr=>by
  rw [G0] at h;split at h
  ·rename_i h0;exact Rh (t:= .pair a b) (off:=off) (by rw [if_pos h0.1];exact h) hr.len hy
  ·obtain ⟨c1,c2,rfl,h1,h2⟩:=hr;have l1:=h1.len;have l2:=h2.len;have ly:=hy.len;split at h
   ·rename_i AY;cases hz:G0 u y a x.1 off with
    | none=>simp [hz] at h
    | some z1=>
     simp only [hz,Option.map_some,Option.some.injEq] at h;subst h;obtain ⟨hs,hb⟩:=Uw hy (t:=a) hz h1;refine ⟨⟨D7 c1 off ys,c2,?_,hs,h2⟩,by simp only [Ty.sz];omega⟩;unfold D7;rw [List.take_append_of_le_length Ad,List.drop_append_of_le_length Ad];simp only [AA]
   ·rename_i Kf;cases hz:G0 u y b x.2 (off-a.sz) with
    | none=>simp [hz] at h
    | some z1=>
     simp only [hz,Option.map_some,Option.some.injEq] at h;subst h;obtain ⟨hs,hb⟩:=Uw hy (t:=b) hz h2;refine ⟨⟨c1,D7 c2 (off-a.sz) ys,?_,h1,hs⟩,by simp only [Ty.sz];omega⟩;unfold D7
     rw [List.take_append,AL Ad,List.drop_append,List.drop_eq_nil_of_le Ad,AS,l1,
      show off+ys.length-a.sz=off-a.sz+ys.length by omega]
     simp only [AA]
def Ty.zcells:Ty->List Value
 | .int k=>[.int k 0]
 | .bool=>[.bool false]
 | .str=>[.string ⟨#[]⟩]
 | .sl _=>[.slice none 0 0]
 | .wrap a=>a.zcells
 | .pair a b=>a.zcells++b.zcells
 | .arr m e=>(List.replicate (m+1) e.zcells).flatten
 | .lk true=>[.nilIface]
 | .lk false=>[.pointer none]
theorem tJ {z:List Value} {k:Nat} (hz:z.length=k):∀ (n i:Nat),i<n->(((List.replicate n z).flatten).drop (i*k)).take k=z
 | 0,i,h=>by omega
 | n+1,0,_=>by rw [List.replicate_succ,List.flatten_cons,Nat.zero_mul,List.drop_zero,<- hz,List.take_left]
 | n+1,i+1,h=>by
  rw [List.replicate_succ,List.flatten_cons,Nat.add_mul,Nat.one_mul,Nat.add_comm,<- List.drop_drop,show List.drop k (z++(List.replicate n z).flatten)=(List.replicate n z).flatten by rw [<- hz,List.drop_left]];exact tJ hz n i Ad
theorem uU {z:List Value} {k:Nat} (hz:z.length=k):∀ n:Nat,((List.replicate n z).flatten).length=n*k
 | 0=>by simp
 | n+1=>by rw [List.replicate_succ,List.flatten_cons,Ap,uU hz n,hz,Nat.add_mul];omega
theorem Iy (ok:Nat->Nat->Prop) (w:World):∀ t:Ty,RepD ok w t t.zero t.zcells
 | .int _=>rfl
 | .bool=>rfl
 | .str=>rfl
 | .sl e=>⟨none,0,0,rfl,rfl,Au _,Nat.zero_le _,λ i x h=>by simp [Ty.zero] at h⟩
 | .wrap a=>Iy ok w a
 | .pair a b=>⟨_,_,rfl,Iy ok w a,Iy ok w b⟩
 | .arr m e=>by
  have hz:=Iy ok w e;refine ⟨by simp [Ty.zero],uU hz.len _,λ i x hi=>?_⟩;have hi':(List.replicate (m+1) e.zero)[i]? = some x:=hi;rw [List.getElem?_replicate] at hi';split at hi'
  ·rename_i AY;cases hi';show RepD ok w e e.zero ((((List.replicate (m+1) e.zcells).flatten).drop (i*e.sz)).take e.sz);rw [tJ hz.len _ _ AY];exact hz
  ·cases hi'
 | .lk true=>⟨_,rfl, .inl ⟨rfl,rfl⟩⟩
 | .lk false=>⟨_,rfl, .inl ⟨rfl,rfl⟩⟩
theorem Zw4 {v:Value} (h:v.oneCell'=true):v.cells = #[v]:=by
 cases v <;> first | rfl | cases h
theorem OJ {t:Ty} {x:t.D} {cs:List Value} (h:RepD ok w t x cs):(valOf t cs).cells=cs.toArray:=by
 cases t with
 | wrap a=>rfl
 | pair a b=>rfl
 | arr m e=>rfl
 | int k=>simp only [RepD] at h;subst h;rfl
 | bool=>simp only [RepD] at h;subst h;rfl
 | str=>simp only [RepD] at h;subst h;rfl
 | sl e=>obtain ⟨a,n,cap,rfl,_⟩:=h;rfl
 | lk k=>obtain ⟨v,rfl,hv⟩:=h;exact Zw4 hv.one
theorem uT {t:Ty} {x:t.D} {cs:List Value} (h:RepD ok w t x cs) (ha:t.isAgg=false):cs=[valOf t cs]:=by
 cases t with
 | wrap a=>cases ha
 | pair a b=>cases ha
 | arr m e=>cases ha
 | int k=>simp only [RepD] at h;subst h;rfl
 | bool=>simp only [RepD] at h;subst h;rfl
 | str=>simp only [RepD] at h;subst h;rfl
 | sl e=>obtain ⟨a,n,cap,rfl,_⟩:=h;rfl
 | lk k=>obtain ⟨v,rfl,hv⟩:=h;rfl
theorem Rl {u t:Ty} {y:u.D} {off:Nat} {z:t.D} (h:(if off=0 then DM t y else none)=some z):off+u.sz<=t.sz:=by
 split at h
 ·subst off;obtain ⟨e,_⟩:=F6 h;subst e;omega
 ·cases h
theorem Xk {u:Ty} {y:u.D}:∀ {t:Ty} {x:t.D} {off:Nat} {z:t.D},G0 u y t x off=some z->off+u.sz<=t.sz
 | .int k,x,off,z,h=>Rl (t:= .int k) h
 | .bool,x,off,z,h=>Rl (t:= .bool) h
 | .str,x,off,z,h=>Rl (t:= .str) h
 | .sl e,x,off,z,h=>Rl (t:= .sl e) h
 | .arr m e,x,off,z,h=>Rl (t:= .arr m e) h
 | .lk k,x,off,z,h=>Rl (t:= .lk k) h
 | .wrap a,x,off,z,h=>by
  rw [G0] at h;split at h
  ·rename_i h0;exact Rl (t:= .wrap a) (off:=off) (by rw [if_pos h0.1];exact h)
  ·exact Xk (t:=a) h
 | .pair a b,x,off,z,h=>by
  rw [G0] at h;split at h
  ·rename_i h0;exact Rl (t:= .pair a b) (off:=off) (by rw [if_pos h0.1];exact h)
  ·split at h
   ·rename_i AY;cases hz:G0 u y a x.1 off with
    | none=>simp [hz] at h
    | some z1=>have:=Xk hz;simp only [Ty.sz];omega
   ·rename_i Kf;cases hz:G0 u y b x.2 (off-a.sz) with
    | none=>simp [hz] at h
    | some z1=>have:=Xk hz;simp only [Ty.sz];omega
def Fu (b:Nat):Ty->Nat->List Value->Prop
 | .lk false,off,cs=>cs[off]? = some (.pointer none)\/cs[off]? = some (.pointer (some ⟨b,off,none⟩))
 | .wrap a,off,cs=>Fu b a off cs
 | .pair a c,off,cs=>Fu b a off cs/\Fu b c (off+a.sz) cs
 | _,_,_=>True
theorem Fu.zero (b:Nat):∀ (t:Ty) (pre post:List Value),Fu b t pre.length (pre++t.zcells++post)
 | .lk false,pre,post=> .inl (by simp [Ty.zcells])
 | .wrap a,pre,post=>Fu.zero b a pre post
 | .pair a c,pre,post=>by
  have h1:=Fu.zero b a pre (c.zcells++post);have h2:=Fu.zero b c (pre++a.zcells) post;have hl:=(Iy (λ _ _=>True) default a).len;refine ⟨?_,?_⟩
  ·simp only [Ty.zcells,AA] at h1 ⊢;exact h1
  ·simp only [Ty.zcells,AA,Ap,hl] at h2 ⊢;exact h2
 | .lk true,_,_=>trivial
 | .int _,_,_=>trivial
 | .bool,_,_=>trivial
 | .str,_,_=>trivial
 | .sl _,_,_=>trivial
 | .arr _ _,_,_=>trivial
theorem Fu.none (b:Nat):∀ {t:Ty} (off:Nat) (cs:List Value),hasSlf t=false->Fu b t off cs
 | .lk false,_,_,h=>by cases h
 | .wrap a,off,cs,h=>Fu.none b (t:=a) off cs h
 | .pair a c,off,cs,h=>by
  simp only [hasSlf,Bool.or_eq_false_iff] at h;exact ⟨Fu.none b off cs h.1,Fu.none b _ cs h.2⟩
 | .lk true,_,_,_=>trivial
 | .int _,_,_,_=>trivial
 | .bool,_,_,_=>trivial
 | .str,_,_,_=>trivial
 | .sl _,_,_,_=>trivial
 | .arr _ _,_,_,_=>trivial
theorem Fu.same {b:Nat} {cs Mq:List Value}:∀ {t:Ty} {off:Nat},Fu b t off cs->(∀ j,off<=j->j<off+t.sz->Mq[j]? = cs[j]?)->Fu b t off Mq
 | .lk false,off,h,hs=>by
  have:=hs off (Au _) (by simp [Ty.sz]);unfold Fu at *;rw [this];exact h
 | .wrap a,off,h,hs=>Fu.same (t:=a) h hs
 | .pair a c,off,h,hs=>⟨Fu.same h.1 λ j h1 h2=>hs j h1 (by simp only [Ty.sz];omega),Fu.same h.2 λ j h1 h2=>hs j Ad (by simp only [Ty.sz];omega)⟩
 | .lk true,_,_,_=>trivial
 | .int _,_,_,_=>trivial
 | .bool,_,_,_=>trivial
 | .str,_,_,_=>trivial
 | .sl _,_,_,_=>trivial
 | .arr _ _,_,_,_=>trivial
theorem gY {cs ys:List Value} {off j:Nat} (hle:off+ys.length<=cs.length) (h:j<off\/off+ys.length<=j):(D7 cs off ys)[j]? = cs[j]?:=by
 unfold D7;rcases h with h | h
 ·rw [AA,AR (by rw [Ar];omega),AQ,if_pos h]
 ·rw [AJ (by rw [Ap,Ar];omega),List.getElem?_drop,Ap,Ar];congr 1;omega
theorem Fu.G0 {u:Ty} {y:u.D} {b:Nat} (hu:hasSlf u=false):∀ {t:Ty} {x:t.D} {off:Nat} {z:t.D} (pre:Nat) {cs ys:List Value},G0 u y t x off=some z->ys.length=u.sz->pre+t.sz<=cs.length->Fu b t pre cs->
  Fu b t pre (D7 cs (pre+off) ys)
 | .lk false,x,off,z,pre,cs,ys,h,_,_,_=>by
  rw [Go.AM.G0] at h;split at h
  ·obtain ⟨e,_⟩:=F6 h;subst e;cases hu
  ·cases h
 | .wrap a,x,off,z,pre,cs,ys,h,hl,hc,hs=>by
  rw [Go.AM.G0] at h;split at h
  ·rename_i h0;rw [h0.2] at hu;exact Fu.none b (t:= .wrap a) _ _ hu
  ·exact Fu.G0 hu (t:=a) pre h hl hc hs
 | .pair a c,x,off,z,pre,cs,ys,h,hl,hc,hs=>by
  rw [Go.AM.G0] at h;split at h
  ·rename_i h0;rw [h0.2] at hu;exact Fu.none b (t:= .pair a c) _ _ hu
  ·simp only [Ty.sz] at hc;split at h
   ·rename_i AY;cases hz:Go.AM.G0 u y a x.1 off with
    | none=>simp [hz] at h
    | some z1=>
     have hb:off+u.sz<=a.sz:=Xk hz;refine ⟨Fu.G0 hu pre hz hl Ad hs.1,hs.2.same λ j h1 h2=>gY Ad (.inr Ad)⟩
   ·rename_i Kf;cases hz:Go.AM.G0 u y c x.2 (off-a.sz) with
    | none=>simp [hz] at h
    | some z1=>
     have hb:off-a.sz+u.sz<=c.sz:=Xk hz;have:=Fu.G0 hu (pre+a.sz) hz hl Ad hs.2;rw [show pre+a.sz+(off-a.sz)=pre+off by omega] at this;exact ⟨hs.1.same λ j h1 h2=>gY Ad (.inl Ad),this⟩
 | .lk true,_,_,_,_,_,_,_,_,_,_=>trivial
 | .int _,_,_,_,_,_,_,_,_,_,_=>trivial
 | .bool,_,_,_,_,_,_,_,_,_,_=>trivial
 | .str,_,_,_,_,_,_,_,_,_,_=>trivial
 | .sl _,_,_,_,_,_,_,_,_,_,_=>trivial
 | .arr _ _,_,_,_,_,_,_,_,_,_,_=>trivial
end
end
section
open Go.RowKit (Below)
class Lay where
 bld : Nat
 byt : Nat
 ok:Nat->World->Prop
 lt:∀ z w,ok z w->z<=w.heap.size
 keep:∀ z w w',ok z w->w.heap.size<=w'.heap.size->(∀ k,k<z->w'.heap[k]? = w.heap[k]?)->ok z w'
set_option linter.unusedSectionVars false
variable [Lay]
def Xi (b:Nat) (t:Ty) (T:TypeId) (cs:List Value):Prop:=Fu b t 0 cs/\(hasSlf t=true->T=Lay.bld)
structure G where
 bx:Nat->Option (Nat×Bool)
 rw:Nat->Option (Nat×Nat)
structure Bd where
 n:Nat
 io:List Nat
 rows:List (Option (Nat×Nat))
structure BelowX (B:Bd) (w w':World):Prop where
 os:w'.os=w.os
 tape:w'.tape=w.tape
 output:w'.output=w.output
 size:w.heap.size<=w'.heap.size
 block:∀ k,k<B.n->k∉B.io->(∀ u,some (k,u)∉B.rows)->w'.heap[k]? = w.heap[k]?
 rowc:∀ k u cur T y,some (k,u)∈B.rows->k<B.n->w.heap[k]? = some (.cells cur T y)->∃ cur' z,w'.heap[k]? = some (.cells cur' T z)/\cur'.size=cur.size/\∀ o,o<u->cur'[o]? = cur[o]?
 ioc:∀ k cur T y,k∈B.io->k<B.n->w.heap[k]? = some (.cells cur T y)->∃ cur' z,w'.heap[k]? = some (.cells cur' T z)/\cur'.size=cur.size
def Bd.own (B:Bd) (b:Nat):Prop:=B.n<=b\/∃ u,some (b,u)∈B.rows
theorem BelowX.Zcx {B:Bd} {a b c:World} (h:BelowX B a b) (k:Below B.n b c):BelowX B a c:=
 ⟨k.os.trans h.os,k.tape.trans h.tape,k.output.trans h.output,Nat.le_trans h.size k.size,λ i hi hn hr=>(k.block i hi).trans (h.block i hi hn hr),λ i u cur T y hr hi hh=>by
  obtain ⟨cur',z,h1,h2⟩:=h.rowc i u cur T y hr hi hh;exact ⟨cur',z,(k.block i hi).trans h1,h2⟩,λ i cur T y hm hi hh=>by
  obtain ⟨cur',z,h1,h2⟩:=h.ioc i cur T y hm hi hh
  exact ⟨cur',z,(k.block i hi).trans h1,h2⟩⟩
theorem BelowX.Ygg {B:Bd} {bs:List Nat} {rws:List (Option (Nat×Nat))} {a b c:World} (h:BelowX B a b) (k:BelowX ⟨b.heap.size,bs,rws⟩ b c) (hB:B.n<=b.heap.size) (hs:∀ x∈bs,(B.n<=x\/x∈B.io)/\∀ u,x<B.n->some (x,u)∉B.rows)
  (hr:∀ x u,some (x,u)∈rws->B.own x/\∀ u0,x<B.n->some (x,u0)∈B.rows->u0<=u):BelowX B a c:=
 ⟨k.os.trans h.os,k.tape.trans h.tape,k.output.trans h.output,Nat.le_trans h.size k.size,λ i hi hn hq=>(k.block i (by show i<b.heap.size;omega) (λ hm=>by rcases (hs i hm).1 with h | h;omega;exact hn h) (λ u hm=>by
  rcases (hr i u hm).1 with h | ⟨u0,h⟩
  ·omega
  ·exact hq u0 h)).trans (h.block i hi hn hq),λ i u cur T y hq hi hh=>by
  obtain ⟨cur',z,h1,h2,h3⟩:=h.rowc i u cur T y hq hi hh;by_cases hm:∃ u1,some (i,u1)∈rws
  ·obtain ⟨u1,hm⟩:=hm;obtain ⟨Tv,z2,k1,k2,k3⟩:=k.rowc i u1 cur' T z hm (by show i<b.heap.size;omega) h1;have:=(hr i u1 hm).2 u hi hq;exact ⟨Tv,z2,k1,k2.trans h2,λ o ho=>(k3 o Ad).trans (h3 o ho)⟩
  ·exact ⟨cur',z,(k.block i (by show i<b.heap.size;omega) (λ hb=>(hs i hb).2 u hi hq) λ u1 hb=>hm ⟨u1,hb⟩).trans h1,h2,h3⟩,λ i cur T y hq hi hh=>by
  obtain ⟨cur',z,h1,h2⟩:=h.ioc i cur T y hq hi hh;by_cases hm:∃ u1,some (i,u1)∈rws
  ·obtain ⟨u1,hm⟩:=hm;obtain ⟨Tv,z2,k1,k2,_⟩:=k.rowc i u1 cur' T z hm (by show i<b.heap.size;omega) h1;exact ⟨Tv,z2,k1,k2.trans h2⟩
  ·by_cases hb:i∈bs
   ·obtain ⟨Tv,z2,k1,k2⟩:=k.ioc i cur' T z hb (by show i<b.heap.size;omega) h1;exact ⟨Tv,z2,k1,k2.trans h2⟩
   ·exact ⟨cur',z,(k.block i (by show i<b.heap.size;omega) hb λ u1 hb=>hm ⟨u1,hb⟩).trans h1,h2⟩⟩
theorem BelowX.refl (B:Bd) (w:World):BelowX B w w:=⟨rfl,rfl,rfl,Au _,λ _ _ _ _=>rfl,λ _ _ cur _ _ _ _ h=>⟨cur,_,h,rfl,λ _ _=>rfl⟩,λ _ cur _ _ _ _ h=>⟨cur,_,h,rfl⟩⟩
theorem BelowX.below {n:Nat} {w w':World} (h:BelowX ⟨n,[],[]⟩ w w'):Below n w w':=⟨h.os,h.tape,h.output,h.size,λ k hk=>h.block k hk Ah Ah⟩
theorem BelowX.MD {n:Nat} {io:List Nat} {rows:List (Option (Nat×Nat))} {w w':World} (h:Below n w w'):BelowX ⟨n,io,rows⟩ w w':=⟨h.os,h.tape,h.output,h.size,λ k hk _ _=>h.block k hk,λ _ _ cur _ _ _ hk hh=>⟨cur,_,(h.block _ hk).trans hh,rfl,λ _ _=>rfl⟩,λ _ cur _ _ _ hk hh=>⟨cur,_,(h.block _ hk).trans hh,rfl⟩⟩
def okG (B:Bd) (ok0:Nat->Nat->Prop) (g:G) (w:World) (b o:Nat):Prop:=
 ok0 b o\/(B.own b/\b<w.heap.size/\(∀ id,g.bx id≠some (b,false))/\∀ id u,g.rw id=some (b,u)->o<u)
def Vi (g:G) (w:World) (sz id:Nat) (v:Option Value):Prop:=
 v=some (.slice none 0 0)\/∃ b n cap cur T,v=some (.slice (some ⟨b,0,none⟩) n cap)/\g.rw id=some (b,n*Pj sz)/\
  w.heap[b]? = some (.cells cur T (0,0))/\cur.size=cap*Pj sz/\n<=cap/\cap<=maxLen/\(sz=0->T=Lay.byt)
def Yi (g:G) (r:Nat->Nat) (w:World) (cs:List Value) (t:Tag):Prop:=
 (t.id=0->cs[t.off]? = some (.slice none 0 0))/\(t.id≠0->t.ver<=r t.id/\(r t.id=t.ver->Vi g w t.sz t.id cs[t.off]?))
def IB (g:G) (r:Nat->Nat) (w:World) (gs:List Tag) (cs:List Value):Prop:=∀ t∈gs,Yi g r w cs t
def Mk (e:Ty) (y:Nat×Nat) (n:Nat):Prop:=y=(0,0)\/eK e=true/\n<=y.1
theorem Mk.un {e:Ty} {y:Nat×Nat} {n:Nat} (h:Mk e y n):y=(0,0)\/n<=y.1:=h.imp_right And.right
theorem Mk.eq {e:Ty} {y:Nat×Nat} {n m:Nat} (h:Mk e y n) (he:m=n):Mk e y m:=he ▸ h
def Pg (g:G) (w:World) (id sz n:Nat) (v:Value):Prop:=
 (g.bx id=none/\n=0/\v = .slice none 0 0)\/∃ b f cap cur T y,g.bx id=some (b,f)/\w.heap[b]? = some (.cells cur T y)/\cur.size=cap*sz/\n<=cap/\cap<=maxLen/\v = .slice (some ⟨b,0,none⟩) n cap
section
variable (ok : Nat -> Nat -> Prop) (g : G) (σ : St) (w : World)
def Po (id ver off:Nat) (v:Value):Prop:=ver<=σ.v id/\(σ.v id=ver->∃ b f,g.bx id=some (b,f)/\v = .pointer (some ⟨b,off,none⟩))
def Rx (t:Ty) (x:t.D) (gs:List Tag) (v:Value):Prop:=∃ cs,RepD ok w t x cs/\v=valOf t cs/\IB g σ.r w gs cs
def JF (t:Ty) (x:t.D) (off:Nat) (v:Value):Prop:=∃ b o ys,v = .pointer (some ⟨b,o+off,none⟩)/\RepD ok w t x ys/\∀ j u,ys[j]? = some u->ok b (o+j)/\w.cell? ⟨b,o+j,none⟩=some u
def RepA:AV->Value->Prop
 | .undef,_=>True
 | .none,v=>v=undef
 | .dat t x gs,v=>Rx ok g σ w t x gs v
 | .nils,v=>v = .slice none 0 0
 | .ptr id ver off,v=>Po g σ id ver off v
 | .aptr id ver i off,v=>ver<=σ.v id/\(σ.v id=ver->∃ b f e l fz,g.bx id=some (b,f)/\σ.c id=some (.arr e l fz)/\i<l.length/\v = .pointer (some ⟨b,i*e.sz+off,none⟩))
 | .ept t x off,v=>JF ok w t x off v
 | .slw id ver,v=>ver<=σ.v id/\(σ.v id=ver->∃ e l fz,σ.c id=some (.arr e l fz)/\Pg g w id e.sz (List.length (α:=e.D) l) v)
 | .slm id ver lo n,v=>ver<=σ.v id/\(σ.v id=ver->∃ e l fz A cap,σ.c id=some (.arr e l fz)/\lo+n<=List.length (α:=e.D) l/\n<=cap/\cap<=maxLen/\
   (n≠0->∃ b f,g.bx id=some (b,f)/\A=some ⟨b,lo*e.sz,none⟩)/\(∀ a,A=some a->a.spot=none)/\v = .slice A n cap)
 | .fn f caps,v=>∃ vs:List Value,v = .func (.func f) #[] vs.toArray/\C9 (λ (d:Dat) u=>JF ok w d.t d.x 0 u) caps vs
 | .clo f ps,v=>∃ vs:List Value,v = .func (.func f) #[] vs.toArray/\C9 (λ (p:Nat×Nat) u=>Po g σ p.1 p.2 0 u) ps vs
 | .iov _ _ _,_=>False
 | .ioa _ _,_=>False
 | .bxv _ _,_=>False
 | .slp _ _,_=>False
 | .tup ds,v=>∃ vs:List Value,v = .tuple vs.toArray/\C9 (λ (d:Dat) u=>Rx ok g σ w d.t d.x d.g u) ds vs
def ConOk (b:Nat) (f:Bool):Con->Prop
 | .var t x gs=>f=false/\∃ cs T,w.heap[b]? = some (.cells cs.toArray T (0,0))/\RepD ok w t x cs/\Xi b t T cs/\IB g σ.r w gs cs
 | .arr e l fz=>f=fz/\∃ cur T y,w.heap[b]? = some (.cells cur T y)/\Mk e y cur.size/\l.length*e.sz<=cur.size/\l.length<=maxLen/\
   ∀ (i:Nat) (x:e.D),l[i]? = some x->∃ ys,RepD ok w e x ys/\∀ j u,ys[j]? = some u->cur[i*e.sz+j]? = some u
 | .val a=>f=false/\∃ v T,w.heap[b]? = some (.cells #[v] T (0,0))/\RepA ok g σ w a v
end
def NilC (g:G) (id:Nat) (c:Con):Prop:=g.bx id=none/\∃ e fz,c = .arr e [] fz
structure Inv (B:Bd) (ok0:Nat->Nat->Prop) (w0:World) (g:G) (σ:St) (a:Act) (w:World):Prop where
 below:BelowX B w0 w
 hB:B.n=w0.heap.size
 h0:∀ b o,ok0 b o->b<B.n/\b∉B.io/\∀ u,some (b,u)∈B.rows->o<u
 hR:∀ b u,some (b,u)∈B.rows->b<B.n/\b∉B.io/\∀ u',some (b,u')∈B.rows->u'=u
 defers:a.defers=[]
 lay:∃ z,Lay.ok z w0/\(∀ b∈B.io,z<=b)/\∀ b u,some (b,u)∈B.rows->z<=b
 tm:a.tmps.size<=pid0
 nm:∀ id b f,pid0<=id->g.bx id=some (b,f)->B.io[id-pid0]? = some b
 bb:∀ id b f,g.bx id=some (b,f)->(B.n<=b\/b∈B.io/\f=false/\pid0<=id)/\b<w.heap.size
 bi:∀ id id' b f f',g.bx id=some (b,f)->g.bx id'=some (b,f')->id=id'
 rb:∀ id b u,g.rw id=some (b,u)->(B.n<=b\/∃ u0,some (b,u0)∈B.rows/\u0<=u)/\b<w.heap.size/\∀ id' f,g.bx id'≠some (b,f)
 ri:∀ id id' b u u',g.rw id=some (b,u)->g.rw id'=some (b,u')->id=id'
 con:∀ id c,σ.c id=some c->NilC g id c\/∃ b f,g.bx id=some (b,f)/\ConOk (okG B ok0 g w) g σ w b f c
 slots:∀ t,RepA (okG B ok0 g w) g σ w (σ.t t) (a.tmps.getD t undef)
structure Ext (ok ok':Nat->Nat->Prop) (g g':G) (σ σ':St) (w w':World):Prop where
 cell:∀ b o,ok b o->ok' b o/\w'.cell? ⟨b,o,none⟩=w.cell? ⟨b,o,none⟩
 box:∀ id ver,ver<=σ.v id->ver<=σ'.v id/\(σ'.v id=ver->σ.v id=ver/\(∀ b f,g.bx id=some (b,f)->∃ f',g'.bx id=some (b,f'))/\
  (∀ e l fz,σ.c id=some (.arr e l fz)->∃ l' fz',σ'.c id=some (.arr e l' fz')/\List.length (α:=e.D) l'=List.length (α:=e.D) l)/\
  (g.bx id=none->g'.bx id=none)/\∀ b f cur T y,(∃ e l fz,σ.c id=some (.arr e l fz))->g.bx id=some (b,f)->w.heap[b]? = some (.cells cur T y)->∃ cur' y',w'.heap[b]? = some (.cells cur' T y')/\cur'.size=cur.size)
 row:∀ id ver,id≠0->ver<=σ.r id->ver<=σ'.r id/\(σ'.r id=ver->σ.r id=ver/\(∀ b u,g.rw id=some (b,u)->g'.rw id=some (b,u)/\w'.heap[b]? = w.heap[b]?))
section
variable {ok ok' : Nat -> Nat -> Prop} {g g' : G} {σ σ' : St} {w w' : World}
theorem Vi.ext {sz id:Nat} {v:Option Value} (h:Vi g w sz id v) (hr:∀ b u,g.rw id=some (b,u)->g'.rw id=some (b,u)/\w'.heap[b]? = w.heap[b]?):Vi g' w' sz id v:=by
 rcases h with h | ⟨b,n,cap,cur,T,hv,h1,h2,rest⟩
 ·exact .inl h
 ·obtain ⟨h3,h4⟩:=hr _ _ h1;exact .inr ⟨b,n,cap,cur,T,hv,h3,h4.trans h2,rest⟩
theorem IB.ext {gs:List Tag} {cs:List Value} (hx:Ext ok ok' g g' σ σ' w w') (h:IB g σ.r w gs cs):IB g' σ'.r w' gs cs:=by
 intro t ht;obtain ⟨h1,h2⟩:=h t ht;refine ⟨h1,λ h0=>?_⟩;obtain ⟨h3,h4⟩:=h2 h0;obtain ⟨h5,h6⟩:=hx.row t.id t.ver h0 h3;exact ⟨h5,λ he=>(h4 (h6 he).1).ext (h6 he).2⟩
theorem Po.ext {id ver off:Nat} {v:Value} (hx:Ext ok ok' g g' σ σ' w w') (h:Po g σ id ver off v):Po g' σ' id ver off v:=by
 obtain ⟨h1,h2⟩:=h;obtain ⟨h3,h4⟩:=hx.box id ver h1;refine ⟨h3,λ he=>?_⟩;obtain ⟨h5,h6,_⟩:=h4 he;obtain ⟨b,f,hb,hv⟩:=h2 h5;obtain ⟨f',GF⟩:=h6 b f hb;exact ⟨b,f',GF,hv⟩
theorem Rx.ext {t:Ty} {x:t.D} {gs:List Tag} {v:Value} (hx:Ext ok ok' g g' σ σ' w w') (h:Rx ok g σ w t x gs v):Rx ok' g' σ' w' t x gs v:=by
 obtain ⟨cs,h1,h2,h3⟩:=h;exact ⟨cs,h1.mono hx.cell,h2,h3.ext hx⟩
theorem JF.ext {t:Ty} {x:t.D} {off:Nat} {v:Value} (hx:Ext ok ok' g g' σ σ' w w') (h:JF ok w t x off v):JF ok' w' t x off v:=by
 obtain ⟨b,o,ys,hv,hr,hc⟩:=h;refine ⟨b,o,ys,hv,hr.mono hx.cell,λ j u hj=>?_⟩;obtain ⟨h1,h2⟩:=hc j u hj;obtain ⟨h3,h4⟩:=hx.cell _ _ h1;exact ⟨h3,h4.trans h2⟩
theorem JF.mono (hm:∀ b o,ok b o->ok' b o) {t:Ty} {x:t.D} {off:Nat} {v:Value} (h:JF ok w t x off v):JF ok' w t x off v:=by
 obtain ⟨b,o,ys,h1,h2,h3⟩:=h;exact ⟨b,o,ys,h1,h2.mono λ b o hk=>⟨hm b o hk,rfl⟩,λ j u hj=>⟨hm _ _ (h3 j u hj).1,(h3 j u hj).2⟩⟩
theorem Pg.ext {id sz n:Nat} {v:Value} (h:Pg g w id sz n v) (h6:∀ b f,g.bx id=some (b,f)->∃ f',g'.bx id=some (b,f')) (h8:g.bx id=none->g'.bx id=none)
  (h9:∀ b f cur T y,g.bx id=some (b,f)->w.heap[b]? = some (.cells cur T y)->∃ cur' y',w'.heap[b]? = some (.cells cur' T y')/\cur'.size=cur.size):Pg g' w' id sz n v:=by
 rcases h with ⟨h1,h2⟩ | ⟨b,f,cap,cur,T,y,hb,hh,hs,rest⟩
 ·exact .inl ⟨h8 h1,h2⟩
 ·obtain ⟨f',GF⟩:=h6 b f hb;obtain ⟨cur',y',Fz,E3⟩:=h9 b f cur T y hb hh;exact .inr ⟨b,f',cap,cur',T,y',GF,Fz,E3.trans hs,rest⟩
theorem Pg.get {id sz n:Nat} {v:Value} (h:Pg g w id sz n v) (hn:0<n):∃ b f cap,g.bx id=some (b,f)/\n<=cap/\cap<=maxLen/\v = .slice (some ⟨b,0,none⟩) n cap:=by
 rcases h with ⟨_,h0,_⟩ | ⟨b,f,cap,cur,T,y,hb,_,_,h1,h2,h3⟩
 ·omega
 ·exact ⟨b,f,cap,hb,h1,h2,h3⟩
theorem Pg.form {id sz n:Nat} {v:Value} (h:Pg g w id sz n v):∃ p cap,v = .slice p n cap/\n<=cap/\cap<=maxLen/\(0<n->∃ b f,g.bx id=some (b,f)/\p=some ⟨b,0,none⟩)/\∀ a,p=some a->a.spot=none:=by
 rcases h with ⟨_,rfl,rfl⟩ | ⟨b,f,cap,cur,T,y,hb,_,_,h1,h2,rfl⟩
 ·exact ⟨none,0,rfl,Au _,Nat.zero_le _,λ h=>by omega,λ a h=>by cases h⟩
 ·exact ⟨_,cap,rfl,h1,h2,λ _=>⟨b,f,hb,rfl⟩,λ a h=>by cases h;rfl⟩
theorem RepA.ext {a:AV} {v:Value} (hx:Ext ok ok' g g' σ σ' w w') (h:RepA ok g σ w a v):RepA ok' g' σ' w' a v:=by
 cases a with
 | undef=>trivial
 | none=>exact h
 | dat t x gs=>exact Rx.ext hx h
 | nils=>exact h
 | ptr id ver off=>exact Po.ext hx h
 | aptr id ver i off=>
  obtain ⟨h1,h2⟩:=h;obtain ⟨h3,h4⟩:=hx.box id ver h1;refine ⟨h3,λ he=>?_⟩;obtain ⟨h5,h6,h7,_⟩:=h4 he;obtain ⟨b,f,e,l,fz,hb,hc,hi,hv⟩:=h2 h5;obtain ⟨f',GF⟩:=h6 b f hb;obtain ⟨l',fz',EH,Im⟩:=h7 e l fz hc;exact ⟨b,f',e,l',fz',GF,EH,by rw [Im];exact hi,hv⟩
 | ept t x off=>exact JF.ext hx h
 | slw id ver=>
  obtain ⟨h1,h2⟩:=h;obtain ⟨h3,h4⟩:=hx.box id ver h1;refine ⟨h3,λ he=>?_⟩;obtain ⟨h5,h6,h7,h8,h9⟩:=h4 he;obtain ⟨e,l,fz,hc,hv⟩:=h2 h5;obtain ⟨l',fz',EH,Im⟩:=h7 e l fz hc;exact ⟨e,l',fz',EH,by rw [Im];exact hv.ext h6 h8 λ b f cur T y=>h9 b f cur T y ⟨e,l,fz,hc⟩⟩
 | slm id ver lo n=>
  obtain ⟨h1,h2⟩:=h;obtain ⟨h3,h4⟩:=hx.box id ver h1;refine ⟨h3,λ he=>?_⟩;obtain ⟨h5,h6,h7,_⟩:=h4 he;obtain ⟨e,l,fz,A,cap,hc,hl,eT,h11,h12,rest⟩:=h2 h5;obtain ⟨l',fz',EH,Im⟩:=h7 e l fz hc;refine ⟨e,l',fz',A,cap,EH,by rw [Im];exact hl,eT,h11,λ hn=>?_,rest⟩;obtain ⟨b,f,hb,hA⟩:=h12 hn;obtain ⟨f',GF⟩:=h6 b f hb;exact ⟨b,f',GF,hA⟩
 | fn f caps=>
  obtain ⟨vs,hv,hf⟩:=h;exact ⟨vs,hv,hf.imp λ _ _ hp=>hp.ext hx⟩
 | clo f ps=>
  obtain ⟨vs,hv,hf⟩:=h;exact ⟨vs,hv,hf.imp λ _ _ hp=>hp.ext hx⟩
 | iov t x gs=>exact h
 | ioa e l=>exact h
 | bxv e l=>exact h
 | slp k n=>exact h
 | tup ds=>
  obtain ⟨vs,hv,hf⟩:=h;exact ⟨vs,hv,hf.imp λ _ _ hp=>hp.ext hx⟩
theorem ConOk.ext {b:Nat} {f:Bool} {c:Con} (hx:Ext ok ok' g g' σ σ' w w') (hb:w'.heap[b]? = w.heap[b]?) (h:ConOk ok g σ w b f c):ConOk ok' g' σ' w' b f c:=by
 cases c with
 | var t x gs=>
  obtain ⟨hf,cs,T,h1,h2,hs,h3⟩:=h;exact ⟨hf,cs,T,hb.trans h1,h2.mono hx.cell,hs,h3.ext hx⟩
 | arr e l fz=>
  obtain ⟨hf,cur,T,y,h1,hy,h2,hm,h3⟩:=h;refine ⟨hf,cur,T,y,hb.trans h1,hy,h2,hm,λ i x hi=>?_⟩;obtain ⟨ys,h4,h5⟩:=h3 i x hi;exact ⟨ys,h4.mono hx.cell,h5⟩
 | val a=>
  obtain ⟨hf,v,T,h1,h2⟩:=h;exact ⟨hf,v,T,hb.trans h1,h2.ext hx⟩
end
section
variable {B : Bd} {ok0 : Nat -> Nat -> Prop} {w0 w w' : World} {g g' : G} {σ σ' : St} {a a' : Act}
theorem Inv.okB (h:Inv B ok0 w0 g σ a w) {b o:Nat} (hk:okG B ok0 g w b o):b<w.heap.size:=by
 rcases hk with hk | ⟨_,hk,_⟩
 ·have:=(h.h0 b o hk).1;have:=h.below.size;have:=h.hB;omega
 ·exact hk
theorem Inv.Xge (h:Inv B ok0 w0 g σ a w):∃ z,Lay.ok z w/\(∀ b,(B.n<=b\/b∈B.io)->z<=b)/\∀ b,B.own b->z<=b:=by
 obtain ⟨z,h1,h2,h3⟩:=h.lay;have hz:=Lay.lt z w0 h1;refine ⟨z,Lay.keep z w0 w h1 h.below.size (λ k hk=>h.below.block k (by rw [h.hB];omega) (λ hm=>by have:=h2 k hm;omega) λ u hm=>by have:=h3 k u hm;omega),λ b hb=>?_,λ b hb=>?_⟩
 ·rcases hb with h3 | h3
  ·rw [h.hB] at h3;omega
  ·exact h2 b h3
 ·rcases hb with h4 | ⟨u,h4⟩
  ·rw [h.hB] at h4;omega
  ·exact h3 b u h4
theorem Ext.MD (h:Inv B ok0 w0 g σ a w) (hb:Below w.heap.size w w'):Ext (okG B ok0 g w) (okG B ok0 g w') g g σ σ w w' where
 cell:=λ b o hk=>by
  have AY:=h.okB hk;refine ⟨?_,hb.cell (p:=⟨b,o,none⟩) AY⟩;rcases hk with hk | ⟨h1,h2,h3⟩
  ·exact .inl hk
  ·exact .inr ⟨h1,Nat.lt_of_lt_of_le h2 hb.size,h3⟩
 box:=λ id ver hv=>⟨hv,λ he=>⟨he,λ b f Dk=>⟨f,Dk⟩,λ e l fz hc=>⟨l,fz,hc,rfl⟩,λ hn=>hn,λ b f cur T y _ Dk hh=>⟨cur,y,(hb.block b (h.bb id b f Dk).2).trans hh,rfl⟩⟩⟩
 row:=λ id ver _ hv=>⟨hv,λ he=>⟨he,λ b u QS=>⟨QS,hb.block b (h.rb id b u QS).2.1⟩⟩⟩
theorem Inv.grown (h:Inv B ok0 w0 g σ a w) (hb:Below w.heap.size w w'):Inv B ok0 w0 g σ a w' where
 below:=h.below.Zcx (hb.mono (by have:=h.below.size;have:=h.hB;omega))
 hB:=h.hB
 h0:=h.h0
 hR:=h.hR
 defers:=h.defers
 lay:=h.lay
 tm:=h.tm
 nm:=h.nm
 bb:=λ id b f Dk=>⟨(h.bb id b f Dk).1,Nat.lt_of_lt_of_le (h.bb id b f Dk).2 hb.size⟩
 bi:=h.bi
 rb:=λ id b u QS=>⟨(h.rb id b u QS).1,Nat.lt_of_lt_of_le (h.rb id b u QS).2.1 hb.size,(h.rb id b u QS).2.2⟩
 ri:=h.ri
 con:=λ id c hc=>by
  rcases h.con id c hc with hn | ⟨b,f,Dk,hk⟩
  ·exact .inl hn
  exact .inr ⟨b,f,Dk,hk.ext (Ext.MD h hb) (hb.block b (h.bb id b f Dk).2)⟩
 slots:=λ t=>(h.slots t).ext (Ext.MD h hb)
theorem Inv.pN (h:Inv B ok0 w0 g σ a w) {id:Nat} {c:Con} (hc:σ.c id=some c) (hn:∀ e l fz,c≠ .arr e l fz):∃ b f,g.bx id=some (b,f)/\ConOk (okG B ok0 g w) g σ w b f c:=by
 rcases h.con id c hc with ⟨_,e,fz,rfl⟩ | h
 ·exact absurd rfl (hn _ _ _)
 ·exact h
theorem Inv.IE (h:Inv B ok0 w0 g σ a w) {id b:Nat} {f:Bool} {c:Con} (hb:g.bx id=some (b,f)) (hc:σ.c id=some c):ConOk (okG B ok0 g w) g σ w b f c:=by
 rcases h.con id c hc with ⟨hn,_⟩ | ⟨b',f',GF,hk⟩
 ·rw [hb] at hn;cases hn
 ·rw [hb] at GF;cases GF;exact hk
theorem Yjg {xs:Array Value} {d t:Nat} {v:Value} (hd:d<xs.size):(xs.setIfInBounds d v).getD t undef=if t=d then v else xs.getD t undef:=by
 by_cases h:t=d
 ·subst h;simp [Array.getD_eq_getD_getElem?,hd]
 ·rw [if_neg h];simp [Array.getD_eq_getD_getElem?,Array.getElem?_setIfInBounds_ne (Ne.symm h)]
theorem B5 {α:Type} (f:Nat->α) (k:Nat) (x:α) (i:Nat):EO f k x i=if i=k then x else f i:=by
 unfold EO;by_cases h:i=k
 ·subst h;simp
 ·have:Nat.beq i k=false:=by rw [Bool.eq_false_iff];intro e;exact h (Nat.eq_of_beq_eq_true e)
  simp [this,h]
theorem Inv.put (h:Inv B ok0 w0 g σ a w) {dst:Option Nat} {av:AV} {v:Value} (hv:RepA (okG B ok0 g w) g σ w av v) (hd:∀ d,dst=some d->d<a.tmps.size):
    Inv B ok0 w0 g (σ.Ce dst av) (a.put dst v) w:=by
  cases dst with
  | none=>exact h
  | some d=>
    exact { below := h.below, hB := h.hB, h0 := h.h0, hR := h.hR, defers := h.defers, lay := h.lay, tm := by show (a.tmps.setIfInBounds d v).size <= pid0; rw [Array.size_setIfInBounds]; exact h.tm, nm := h.nm, bb := h.bb, bi := h.bi, rb := h.rb, ri := h.ri, con := h.con,
            slots:=λ t=>by
              show RepA _ g _ w (EO σ.t d av t) ((a.tmps.setIfInBounds d v).getD t undef);rw [Yjg (hd d rfl),B5];by_cases ht:t=d
              · rw [if_pos ht,if_pos ht];exact hv
              · rw [if_neg ht,if_neg ht];exact h.slots t }
end
end
end Go.AM
