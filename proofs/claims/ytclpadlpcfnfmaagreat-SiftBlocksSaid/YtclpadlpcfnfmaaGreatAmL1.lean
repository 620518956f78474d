import Derived.Calls
import Derived.Orders
import Derived.Below
import Derived.KernelRfl
import Derived.Laws.AppendOwn
import Derived.Laws.OwnMore
import Derived.Laws.Rows
import Derived.Laws.Tables
section
/- The abstract machine: typed data, states, and an evaluator of the model's Code with values in place of memory. Definitions alone. -/
namespace Go.AM
abbrev Aa:=@cond_true
abbrev Ac:=@cond_false
abbrev Ad:=@Option.bind_some
abbrev Ae:=@List.length_append
abbrev Af:=@decide_eq_true
abbrev Ag:=@List.length_take
abbrev Ah:=@Nat.le_refl
abbrev Ai:=@List.length_map
abbrev Aj:=@List.length_cons
abbrev Ak:=@of_decide_eq_true
abbrev Al:=@List.append_assoc
abbrev An:=@decide_eq_false
abbrev Ap:=@List.getElem?_eq_getElem
abbrev Aq:=@List.getElem_mem
abbrev Ar:=@List.take_length
abbrev Au:=@Nat.zero_add
abbrev Av:=@List.mem_cons_self
abbrev Aw:=@List.getElem?_append_right
abbrev Ax:=@List.getD_eq_getElem?_getD
abbrev Ay:=@List.append_nil
abbrev Az:=@List.mem_cons_of_mem
abbrev AA:=@List.getElem?_take
abbrev AB:=@Bool.true_and
abbrev AD:=@List.getElem?_append_left
abbrev AE:=@List.map_append
abbrev AF:=@List.take_of_length_le
abbrev AG:=@List.length_singleton
abbrev AH:=@List.nil_append
abbrev AI:=@List.eq_nil_of_length_eq_zero
abbrev AJ:=@Nat.mul_le_mul_right
abbrev AK:=@List.length_replicate
abbrev AL:=@List.mem_singleton
inductive Ty where
 | int (k:IntKind) | bool | str | sl (e:Ty) | wrap (a:Ty) | pair (a b:Ty)
 | arr (m : Nat) (e : Ty)   -- an array of m + 1
 | lk (k : Bool)            -- a word of which is told whether it is nil: an error (true), a variable's pointer to itself (false)
 deriving DecidableEq,Inhabited
@[reducible] def Ty.D : Ty → Type
 | .int _=>Int
 | .bool=>Bool
 | .str=>ByteArray
 | .sl e=>List e.D
 | .wrap a=>a.D
 | .pair a b=>a.D×b.D
 | .arr _ e=>List e.D
 | .lk _=>Bool
def Ty.zero:(t:Ty)→t.D
 | .int _=>(0:Int)
 | .bool=>false
 | .str=>(⟨#[]⟩:ByteArray)
 | .sl _=>[]
 | .wrap a=>a.zero
 | .pair a b=>(a.zero,b.zero)
 | .arr m e=>List.replicate (m+1) e.zero
 | .lk _=>true
def Ty.sz:Ty→Nat
 | .pair a b=>a.sz+b.sz
 | .wrap a=>a.sz
 | .arr m e=>(m+1)*e.sz
 | _=>1
def Ty.sg:Ty→Nat
 | .int .u8=>0
 | e=>e.sz
def N6 (n:Nat):Nat:=if n=0 then 1 else n
def Ty.isAgg:Ty→Bool
 | .pair .. | .wrap _ | .arr .. =>true
 | _=>false
def hasSlf:Ty→Bool
 | .lk false=>true
 | .wrap a=>hasSlf a
 | .pair a b=>hasSlf a || hasSlf b
 | _=>false
def C7 {t:Ty} (u:Ty) (x:t.D):Option u.D:=if h:t=u then some (h ▸ x) else none
def sub (u:Ty):(t:Ty)→t.D→Nat→Option u.D
 | .pair a b,x,off=>
  if off=0∧Ty.pair a b=u then C7 (t:= .pair a b) u x
  else if off<a.sz then sub u a x.1 off else sub u b x.2 (off-a.sz)
 | .wrap a,x,off=>if off=0∧Ty.wrap a=u then C7 (t:= .wrap a) u x else sub u a x off
 | .int k,x,off=>if off=0 then C7 (t:= .int k) u x else none
 | .bool,x,off=>if off=0 then C7 (t:= .bool) u x else none
 | .str,x,off=>if off=0 then C7 (t:= .str) u x else none
 | .sl e,x,off=>if off=0 then C7 (t:= .sl e) u x else none
 | .arr m e,x,off=>if off=0 then C7 (t:= .arr m e) u x else none
 | .lk k,x,off=>if off=0 then C7 (t:= .lk k) u x else none
def Gb (u:Ty) (y:u.D):(t:Ty)→t.D→Nat→Option t.D
 | .pair a b,x,off=>
  if off=0∧u=Ty.pair a b then C7 (.pair a b) y
  else if off<a.sz then (Gb u y a x.1 off).map fun z=>(z,x.2) else (Gb u y b x.2 (off-a.sz)).map fun z=>(x.1,z)
 | .wrap a,x,off=>if off=0∧u=Ty.wrap a then C7 (.wrap a) y else Gb u y a x off
 | .int k,_,off=>if off=0 then C7 (.int k) y else none
 | .bool,_,off=>if off=0 then C7 .bool y else none
 | .str,_,off=>if off=0 then C7 .str y else none
 | .sl e,_,off=>if off=0 then C7 (.sl e) y else none
 | .arr m e,_,off=>if off=0 then C7 (.arr m e) y else none
 | .lk k,_,off=>if off=0 then C7 (.lk k) y else none
structure Tag where
 off:Nat
 id:Nat
 ver:Nat
 sz : Nat   -- the kind of its cells
def WT (g:List Tag) (off sz:Nat):List Tag:=
 g.filterMap fun t=>if off≤t.off∧t.off<off+sz then some { t with off:=t.off-off } else none
def bU (g:List Tag) (off sz:Nat) (h:List Tag):List Tag:=
 (g.filter fun t=>!(decide (off≤t.off) && decide (t.off<off+sz)))++h.map fun t=>{ t with off:=t.off+off }
def M5:Ty→Nat→List Tag
 | .sl e,o=>[⟨o,0,0,e.sg⟩]
 | .wrap a,o=>M5 a o
 | .pair a b,o=>M5 a o++M5 b (o+a.sz)
 | _,_=>[]
structure Dat where
 t:Ty
 x:t.D
 g:List Tag
inductive AV where
 | undef
 | none                                  -- the model's 'no value': what an operation leaves that was not wanted
 | dat (t:Ty) (x:t.D) (g:List Tag)
 | nils                                  -- a nil slice, its kind not told
 | ptr (id ver off : Nat)                -- into a variable's box
 | aptr (id ver i off : Nat)             -- into element i of a box that holds a row
 | ept (t : Ty) (x : t.D) (off : Nat)    -- into what is never written
 | slw (id ver : Nat)                    -- a slice of a box's whole row
 | slm (id ver lo n : Nat)               -- a slice of a part of it
 | fn (f : Nat) (caps : List Dat)         -- a function, and what the variables hold that it captured
 | clo (f : Nat) (ps : List (Nat × Nat))   -- a function that captured variables' boxes: names, versions
 | iov (t : Ty) (x : t.D) (g : List Tag) -- a variable that is handed over to be written; its slices that may be appended to
 | ioa (e : Ty) (l : List e.D)           -- a box's whole row that is handed over to be written in place
 | bxv (e : Ty) (l : List e.D)           -- a result: a new row, nobody else's
 | slp (k n : Nat)                       -- a result: the first n elements of the k-th of what was handed over
 | tup (ds:List Dat)
 deriving Inhabited
inductive Con where
 | var (t:Ty) (x:t.D) (g:List Tag)
 | arr (e:Ty) (l:List e.D) (frz:Bool)
 | val (v:AV)
structure St where
 t:Nat→AV
 c:Nat→Option Con
 v:Nat→Nat
 r:Nat→Nat
def Ed {α:Type} (f:Nat→α) (k:Nat) (a:α):Nat→α:=fun i=>bif Nat.beq i k then a else f i
def St.BJ (σ:St) (d:Option Nat) (a:AV):St:=
 match d with
 | some d=>{ σ with t:=Ed σ.t d a }
 | Option.none=>σ
def St.Cw (σ:St) (id:Nat) (c:Con):St:={ σ with c:=Ed σ.c id (some c),v:=Ed σ.v id (σ.v id+1) }
def St.CR (σ:St) (id:Nat) (c:Con):St:={ σ with c:=Ed σ.c id (some c) }
def St.Cz (σ:St) (id:Nat):St:={ σ with r:=Ed σ.r id (σ.r id+1) }
def B3 (d j:Nat):Nat:=d*64+j+1
def AV.as (u:Ty):AV→Option u.D
 | .dat t x _=>C7 (t:=t) u x
 | .nils=>match u with
  | .sl _=>some []
  | _=>Option.none
 | _=>Option.none
def AV.tags (u:Ty):AV→List Tag
 | .dat _ _ g=>g
 | .nils=>match u with
  | .sl e=>[⟨0,0,0,e.sg⟩]
  | _=>[]
 | _=>[]
structure CallRes where
 α:Type
 m:Option α
 enc:α→AV
 io : α → List Con   -- what the boxes hold then that were handed over
abbrev Spec:=List AV→Option CallRes
inductive PK where
 | val (t:Ty) | ref (t:Ty) | fn (f:Nat) (ts:List Ty) | io (t:Ty) (g:List (Nat×Nat)) | ioa (e:Ty)
@[reducible] def Wi : List Ty → Type
 | []=>Unit
 | a :: r=>a.D×Wi r
@[reducible] def PK.D : PK → Type
 | .val t=>t.D
 | .ref t=>t.D
 | .fn _ ts=>Wi ts
 | .io t _=>t.D
 | .ioa e=>List e.D
@[reducible] def DO : List PK → Type
 | []=>Unit
 | a :: r=>a.D×DO r
def Vm:(ts:List Ty)→List Dat→Option (Wi ts)
 | [],[]=>some ()
 | t :: ts,d :: ds=>match C7 (t:=d.t) t d.x with
  | some x=>match Vm ts ds with
   | some y=>some (x,y)
   | Option.none=>Option.none
  | Option.none=>Option.none
 | _,_=>Option.none
def fS:(ts:List Ty)→Wi ts→List Dat
 | [],_=>[]
 | t :: ts,x=>⟨t,x.1,[]⟩ :: fS ts x.2
def Qi:(p:PK)→AV→Option p.D
 | .val t,x=>x.as t
 | .ref t, .ept u x 0=>C7 (t:=u) t x
 | .fn f ts, .fn g ds=>if g=f then Vm ts ds else Option.none
 | .io t g, .iov u x h=>if h.map (fun τ=>(τ.off,τ.sz))=g then C7 (t:=u) t x else Option.none
 | .ioa e, .ioa e' l=>C7 (t:= .sl e') (.sl e) l
 | _,_=>Option.none
def pid0:Nat:=1000000
def iq (i:Nat):(p:PK)→p.D→AV
 | .val t,x=> .dat t x []
 | .ref t,x=> .ept t x 0
 | .fn f ts,x=> .fn f (fS ts x)
 | .io _ _,_=> .ptr (pid0+i) 0 0
 | .ioa _,_=> .slw (pid0+i) 0
def marks:Nat→List (Nat×Nat)→List Tag
 | _,[]=>[]
 | q,p :: r=>⟨p.1,B3 pid0 q,0,p.2⟩ :: marks (q+1) r
def ir (q:Nat):(p:PK)→p.D→Option Con
 | .io t g,x=>some (.var t x (marks q g))
 | .ioa e,x=>some (.arr e x false)
 | _,_=>Option.none
def E6:(ps:List PK)→List AV→Option (DO ps)
 | [],[]=>some ()
 | a :: r,x :: l=>match Qi a x with
  | some y=>match E6 r l with
   | some z=>some (y,z)
   | Option.none=>Option.none
  | Option.none=>Option.none
 | _,_=>Option.none
@[reducible] def DX : List (Ty × List Tag) → Type
 | []=>Unit
 | [a]=>a.1.D
 | a :: b :: r=>a.1.D×DX (b :: r)
def Fo:(rs:List (Ty×List Tag))→DX rs→List Dat
 | [],_=>[]
 | [a],x=>[⟨a.1,x,a.2⟩]
 | a :: b :: r,x=>⟨a.1,x.1,a.2⟩ :: Fo (b :: r) x.2
def Ml:List Dat→AV
 | [d]=> .dat d.t d.x d.g
 | ds=> .tup ds
def iu (rs:List (Ty×List Tag)) (x:DX rs):AV:=Ml (Fo rs x)
def spec (ps:List PK) (rs:List (Ty×List Tag)) (f:DO ps→Option (DX rs)):Spec:=fun l=>
 match E6 ps l with
 | some a=>some ⟨DX rs,f a,iu rs,fun _=>[]⟩
 | Option.none=>Option.none
def GQ:PK→Bool
 | .io _ _=>true
 | .ioa _=>true
 | _=>false
def Zeg (p:PK) (d:Dat):Con:=
 match p,d with
 | .ioa _,⟨.sl e,l,_⟩=> .arr e l false
 | _,d=> .var d.t d.x d.g
def K9:List PK→List Dat→List Con
 | p :: ps,d :: ds=>Zeg p d :: K9 ps ds
 | [],d :: ds=> .var d.t d.x d.g :: K9 [] ds
 | _,[]=>[]
def Gp (n:Nat) (ps:List PK) (rs:List (Ty×List Tag)) (f:DO ps→Option (DX rs)):Spec:=fun l=>
 match E6 ps l with
 | some a=>some ⟨DX rs,f a,fun x=>Ml ((Fo rs x).take n),fun x=>K9 (ps.filter GQ) ((Fo rs x).drop n)⟩
 | Option.none=>Option.none
def Zid (k:Nat):List Dat→AV
 | ⟨.int .i64,n,_⟩ :: _=> .slp k (Int.toNat n)
 | _=> .undef
def O0 (k:Nat) (ps:List PK) (rs:List (Ty×List Tag)) (f:DO ps→Option (DX rs)):Spec:=fun l=>
 match E6 ps l with
 | some a=>some ⟨DX rs,f a,fun x=>Zid k (Fo rs x),fun x=>K9 (ps.filter GQ) ((Fo rs x).drop 1)⟩
 | Option.none=>Option.none
structure Keep where
 t:List (Nat×Bool)
 c:List (Nat×Bool)
structure Env where
 ty:Nat→Option Ty
 fo:Nat→Nat→Option (Nat×Ty)
 pl:Nat→Nat→Option (Nat×Ty)
 ar:Nat→Option (Nat×Ty)
 by_:Nat→Nat
 eq:Nat→Option Ty
 call:Nat→Option Spec
 loop:Nat→Keep
 blk:Nat→Option Keep
 cut:Nat→Option Keep
 ret:Keep
 bx : Nat → Bool   -- slots whose slices are made as boxes, whose closures capture boxes
 inpl : Nat → List Bool -- of a function: which arguments are rows that it may write in place
 lit : Nat → Bool  -- slots whose slices, written out, are only read
 lend : Nat → Bool -- functions that hand back nothing of what they are handed: rows stay the caller's
def A8 (σ:St):Operand→AV
 | .tmp t=>σ.t t
 | .const (.int k n)=> .dat (.int k) n []
 | .const (.bool b)=> .dat .bool b []
 | .const (.string s)=> .dat .str s []
 | .const (.slice Option.none 0 0)=> .nils
 | .const .nilIface=> .dat (.lk true) true []
 | .func f=> .fn f []
 | _=> .undef
def coe (E:Env) (T:Nat) (a:AV):AV:=
 match a with
 | .nils=>match E.ty T with
  | some (.sl e)=> .dat (.sl e) [] [⟨0,0,0,e.sg⟩]
  | _=> .undef
 | a=>a
inductive Step:Type 1 where
 | no
 | go (c:Bool) (σ:St)
 | call (α:Type) (m:Option α) (k:α→St)
def put (o:Oper) (σ:St) (a:AV):Step:= .go true (σ.BJ o.dst a)
def EO (o:Oper) (c:Bool) (σ:St) (a:AV):Step:= .go c (σ.BJ o.dst a)
def AQ (k:IntKind) (a b:Int):Int:=k.wrap (a+b)
def Be (k:IntKind) (a b:Int):Int:=k.wrap (a-b)
def Cj (k:IntKind) (a b:Int):Int:=k.wrap (a*b)
def FE (k:IntKind) (a b:Int):Int:=k.wrap (a.tdiv b)
def Po (a b:Int):Int:=a.tmod b
def BL (k:IntKind) (a b:Int):Int:=k.wrap (BitVec.ofInt k.bits a &&& BitVec.ofInt k.bits b).toNat
def EI (k:IntKind) (a b:Int):Int:=k.wrap (BitVec.ofInt k.bits a ||| BitVec.ofInt k.bits b).toNat
def Fq (k:IntKind) (a b:Int):Int:=k.wrap (BitVec.ofInt k.bits a ^^^ BitVec.ofInt k.bits b).toNat
def NZ (k:IntKind) (a b:Int):Int:=k.wrap (BitVec.ofInt k.bits a &&& ~~~BitVec.ofInt k.bits b).toNat
def Er (k:IntKind) (x y:Int):Int:=k.wrap (x*2 ^ (min y.toNat k.bits))
def BH (k:IntKind) (x y:Int):Int:=x.fdiv (2 ^ (min y.toNat k.bits))
def AR (a b:Int):Bool:=a == b
def By (a b:Int):Bool:=a != b
def AS (a b:Int):Bool:=decide (a<b)
def Bq (a b:Int):Bool:=decide (a≤b)
def Cn (a b:ByteArray):Bool:=a.toList == b.toList
def IY (a b:ByteArray):Bool:=Op.bytesLess a.toList b.toList
def EM (x y:Int):Int:=if y > x then y else x
def DP (x y:Int):Int:=if y<x then y else x
def Bh (s:ByteArray):Int:=(s.size:Int)
def AP {α:Type} (l:List α):Int:=(l.length:Int)
def cutS (s:ByteArray) (lo hi:Int):ByteArray:=s.extract lo.toNat hi.toNat
def byteAt (s:ByteArray) (i:Int):Int:=((s.data.toList.getD i.toNat 0).toNat:Int)
def Dr (a b:ByteArray):ByteArray:=a++b
def CH (a b:ByteArray):Bool:=decide (a.size+b.size≤9223372036854775807)
def ofBytes (l:List Int):ByteArray:=⟨(l.map fun n=>UInt8.ofNat n.toNat).toArray⟩
def Bi (s:ByteArray):List Int:=s.data.toList.map fun b=>(b.toNat:Int)
def AX (i n:Int):Bool:=decide (0≤i) && decide (i<n)
def CU (lo hi n:Int):Bool:=decide (0≤lo) && (decide (lo≤hi) && decide (hi≤n))
def at' {e:Ty} (l:List e.D) (i:Int):e.D:=l.getD i.toNat e.zero
def BM (n bytes:Nat):Bool:=decide (n*bytes≤140737488355328)
def eqD:(t:Ty)→t.D→t.D→Bool
 | .int _,a,b=>AR a b
 | .bool,a,b=>a == b
 | .str,a,b=>Cn a b
 | .wrap a,x,y=>eqD a x y
 | .pair a b,x,y=>eqD a x.1 y.1 && eqD b x.2 y.2
 | .sl _,_,_=>false
 | .arr _ _,_,_=>false
 | .lk _,_,_=>false
def NL (op:BinOp) (o:Oper) (σ:St) (k j:IntKind) (a b:Int):Step:=
 match op with
 | .shl=>EO o (Bq 0 b) σ (.dat (.int k) (Er k a b) [])
 | .shr=>EO o (Bq 0 b) σ (.dat (.int k) (BH k a b) [])
 | op=>if k=j then
   match op with
   | .add=>put o σ (.dat (.int k) (AQ k a b) [])
   | .sub=>put o σ (.dat (.int k) (Be k a b) [])
   | .mul=>put o σ (.dat (.int k) (Cj k a b) [])
   | .quo=>EO o (By b 0) σ (.dat (.int k) (FE k a b) [])
   | .rem=>EO o (By b 0) σ (.dat (.int k) (Po a b) [])
   | .and=>put o σ (.dat (.int k) (BL k a b) [])
   | .or=>put o σ (.dat (.int k) (EI k a b) [])
   | .xor=>put o σ (.dat (.int k) (Fq k a b) [])
   | .andNot=>put o σ (.dat (.int k) (NZ k a b) [])
   | .eql=>put o σ (.dat .bool (AR a b) [])
   | .neq=>put o σ (.dat .bool (By a b) [])
   | .lss=>put o σ (.dat .bool (AS a b) [])
   | .leq=>put o σ (.dat .bool (Bq a b) [])
   | .gtr=>put o σ (.dat .bool (AS b a) [])
   | .geq=>put o σ (.dat .bool (Bq b a) [])
   | _=> .no
  else .no
def NM (op:BinOp) (o:Oper) (σ:St) (a b:ByteArray):Step:=
 match op with
 | .add=>EO o (CH a b) σ (.dat .str (Dr a b) [])
 | .eql=>put o σ (.dat .bool (Cn a b) [])
 | .neq=>put o σ (.dat .bool (!Cn a b) [])
 | .lss=>put o σ (.dat .bool (IY a b) [])
 | .leq=>put o σ (.dat .bool (IY a b || Cn a b) [])
 | .gtr=>put o σ (.dat .bool (!(IY a b || Cn a b)) [])
 | .geq=>put o σ (.dat .bool (!IY a b) [])
 | _=> .no
def O1 (E:Env) (T:Nat) (op:BinOp) (o:Oper) (σ:St) (x y:AV):Step:=
 match x,y with
 | .dat t a _, .dat u b _=>
  match t,a,u,b with
  | .int k,a, .int j,b=>NL op o σ k j a b
  | .str,a, .str,b=>NM op o σ a b
  | t,a,u,b=>match E.eq T with
   | some e=>match C7 (t:=t) e a,C7 (t:=u) e b with
    | some a,some b=>match op with
     | .eql=>put o σ (.dat .bool (eqD e a b) [])
     | .neq=>put o σ (.dat .bool (!eqD e a b) [])
     | _=> .no
    | _,_=> .no
   | Option.none=> .no
 | _,_=> .no
def O8 (E:Env) (T:Nat) (op:BinOp) (o:Oper) (σ:St) (x:AV):Step:=
 match E.ty T,x with
 | some (.lk true), .dat (.lk true) b _=>match op with
  | .eql=>put o σ (.dat .bool b [])
  | .neq=>put o σ (.dat .bool (!b) [])
  | _=> .no
 | _,_=> .no
def TB:Operand→Bool
 | .const .nilIface=>true
 | _=>false
def Qy (op:UnOp) (o:Oper) (σ:St) (x:AV):Step:=
 match op,x with
 | .neg, .dat (.int k) a _=>put o σ (.dat (.int k) (Be k 0 a) [])
 | .xor, .dat (.int k) a _=>put o σ (.dat (.int k) (Fq k (if k.signed then -1 else k.max) a) [])
 | .not, .dat .bool b _=>put o σ (.dat .bool (!b) [])
 | _,_=> .no
def content (σ:St) (e:Ty):AV→Option (List e.D)
 | .dat t x _=>C7 (t:=t) (.sl e) x
 | .nils=>some []
 | .slw id ver=>if σ.v id=ver then
   match σ.c id with
   | some (.arr e' l _)=>C7 (t:= .sl e') (.sl e) l
   | _=>Option.none
  else Option.none
 | .slm id ver lo n=>if σ.v id=ver then
   match σ.c id with
   | some (.arr e' l _)=>C7 (t:= .sl e') (.sl e) ((l.drop lo).take n)
   | _=>Option.none
  else Option.none
 | _=>Option.none
def Hi (E:Env):Option Nat→Bool
 | some d=>E.bx d
 | Option.none=>false
def Ly (E:Env) (src dst:Nat) (o:Oper) (σ:St) (x:AV):Step:=
 match E.ty src,E.ty dst with
 | some (.int _),some (.int k)=>match x with
  | .dat (.int _) n _=>put o σ (.dat (.int k) (k.wrap n) [])
  | _=> .no
 | some .str,some .str=>match x with
  | .dat .str s _=>put o σ (.dat .str s [])
  | _=> .no
 | some (.sl (.int .u8)),some .str=>match content σ (.int .u8) x with
  | some l=>put o σ (.dat .str (ofBytes l) [])
  | Option.none=> .no
 | some .str,some (.sl (.int .u8))=>match x with
  | .dat .str s _=>match o.dst,Hi E o.dst with
   | some d,true=> .go (BM s.size 1) ((σ.Cw d (.arr (.int .u8) (Bi s) false)).BJ o.dst (.slw d (σ.v d+1)))
   | _,_=>EO o (BM s.size 1) σ (.dat (.sl (.int .u8)) (Bi s) [])
  | _=> .no
 | _,_=> .no
def FQ (σ:St) (d:Int):Option Operand→Option Int
 | Option.none=>some d
 | some x=>match A8 σ x with
  | .dat (.int _) n _=>some n
  | _=>Option.none
def O2 (E:Env) (T:Nat) (o:Oper) (σ:St) (x:AV) (lo hi:Option Operand):Step:=
 match x with
 | .dat t x g=>match t,x,E.ty T with
  | .str,s,some .str=>match FQ σ 0 lo,FQ σ (Bh s) hi with
   | some l,some h=>EO o (CU l h (Bh s)) σ (.dat .str (cutS s l h) [])
   | _,_=> .no
  | .sl e,s,some (.sl e')=>if e.sz=e'.sz then match lo,hi with
   | Option.none,Option.none=>put o σ (.dat (.sl e) s g)
   | some _,Option.none=>match FQ σ 0 lo with
    | some l=>EO o (CU l (AP s) (AP s)) σ (.dat (.sl e) (s.drop l.toNat) [])
    | _=> .no
   | Option.none,some _=>match FQ σ 0 hi with
    | some h=>EO o (CU 0 h (AP s)) σ (.dat (.sl e) (s.take h.toNat) [])
    | _=> .no
   | some _,some _=>match FQ σ 0 lo,FQ σ 0 hi with
    | some l,some h=>EO o (CU l h (AP s)) σ (.dat (.sl e) ((s.take h.toNat).drop l.toNat) [])
    | _,_=> .no
   else .no
  | _,_,_=> .no
 | .ptr id ver 0=>match E.ar T,σ.c id with
  | some (n,e),some (.arr e' s _)=>if σ.v id=ver∧e.sz=e'.sz then
    match FQ σ 0 lo,FQ σ n hi with
    | some l,some h=>EO o (CU l h n && decide (n=s.length)) σ (.slm id ver l.toNat (h.toNat-l.toNat))
    | _,_=> .no
   else .no
  | _,_=> .no
 | .slm id ver a n=>match E.ty T,σ.c id with
  | some (.sl e),some (.arr e' _ _)=>if σ.v id=ver∧e.sz=e'.sz then
    match FQ σ 0 lo,FQ σ n hi with
    | some l,some h=>EO o (CU l h n) σ (.slm id ver (a+l.toNat) (h.toNat-l.toNat))
    | _,_=> .no
   else .no
  | _,_=> .no
 | .slw id ver=>match E.ty T,σ.c id with
  | some (.sl e),some (.arr e' s _)=>if σ.v id=ver∧e.sz=e'.sz then
    match FQ σ 0 lo,FQ σ (AP s) hi with
    | some l,some h=>EO o (CU l h (AP s)) σ (.slm id ver l.toNat (h.toNat-l.toNat))
    | _,_=> .no
   else .no
  | _,_=> .no
 | _=> .no
def Nw (E:Env) (S f:Nat) (o:Oper) (σ:St) (x:AV):Step:=
 match E.fo S f with
 | some (d,_)=>match x with
  | .ptr id ver off=>if σ.v id=ver then put o σ (.ptr id ver (off+d)) else .no
  | .aptr id ver i off=>if σ.v id=ver then put o σ (.aptr id ver i (off+d)) else .no
  | .ept t x off=>put o σ (.ept t x (off+d))
  | _=> .no
 | Option.none=> .no
def Qj (E:Env) (S f:Nat) (o:Oper) (σ:St) (x:AV):Step:=
 match E.fo S f with
 | some (d,u)=>match x with
  | .dat t x g=>if t.isAgg then
    match sub u t x d with
    | some y=>put o σ (.dat u y (WT g d u.sz))
    | Option.none=> .no
   else .no
  | _=> .no
 | Option.none=> .no
def P6 (i:Nat) (o:Oper) (σ:St) (x:AV):Step:=
 match x with
 | .tup ds=>match ds[i]? with
  | some d=>put o σ (.dat d.t d.x d.g)
  | Option.none=> .no
 | _=> .no
def Nx (E:Env) (T:Nat) (o:Oper) (σ:St) (x i:AV):Step:=
 match i with
 | .dat (.int _) i _=>match x with
  | .dat (.sl e) l _=>match E.ty T with
   | some (.sl e')=>if e.sz=e'.sz then EO o (AX i (AP l)) σ (.ept e (at' l i) 0) else .no
   | _=> .no
  | .ptr id ver 0=>match E.ar T,σ.c id with
   | some (n,e),some (.arr e' l _)=>if σ.v id=ver∧e.sz=e'.sz then EO o (AX i n && decide (n=l.length)) σ (.aptr id ver i.toNat 0) else .no
   | _,_=> .no
  | .slw id ver=>match E.ty T,σ.c id with
   | some (.sl e),some (.arr e' l _)=>if σ.v id=ver∧e.sz=e'.sz then EO o (AX i (AP l)) σ (.aptr id ver i.toNat 0) else .no
   | _,_=> .no
  | .slm id ver lo n=>match E.ty T,σ.c id with
   | some (.sl e),some (.arr e' _ _)=>if σ.v id=ver∧e.sz=e'.sz then EO o (AX i n) σ (.aptr id ver (lo+i.toNat) 0) else .no
   | _,_=> .no
  | _=> .no
 | _=> .no
def Qk (E:Env) (T:Nat) (o:Oper) (σ:St) (x i:AV):Step:=
 match E.ty T,x,i with
 | some .str, .dat .str s _, .dat (.int _) i _=>EO o (AX i (Bh s)) σ (.dat (.int .u8) (byteAt s i) [])
 | _,_,_=> .no
def Qd (E:Env) (T:Nat) (o:Oper) (σ:St) (e:Ty) (l:List e.D) (off:Nat):Step:=
 match l with
 | [x]=>match E.ty T with
  | some u=>match sub u e x off with
   | some y=>put o σ (.dat u y [])
   | Option.none=> .no
  | Option.none=> .no
 | _=> .no
def Tm (o:Oper) (σ:St) (m:Nat) (e' e:Ty) (l:List e.D):Step:=
 match C7 (t:= .sl e) (.sl e') l with
 | some l=>EO o (decide (List.length (α:=e'.D) l=m+1)) σ (.dat (.arr m e') l [])
 | Option.none=> .no
def N0 (E:Env) (T:Nat) (o:Oper) (σ:St) (a:AV):Step:=
 match a with
 | .ptr id ver off=>if σ.v id=ver then
   match σ.c id with
   | some (.var t x g)=>match E.ty T with
    | some u=>match sub u t x off with
     | some y=>put o σ (.dat u y (WT g off u.sz))
     | Option.none=> .no
    | Option.none=> .no
   | some (.arr e l _)=>match E.ty T with
    | some (.arr m e')=>if off=0∧e'=e then Tm o σ m e' e l else Qd E T o σ e l off
    | _=>Qd E T o σ e l off
   | _=> .no
  else .no
 | .aptr id ver i off=>if σ.v id=ver then
   match σ.c id with
   | some (.arr e l _)=>match E.ty T with
    | some u=>match sub u e (l.getD i e.zero) off with
     | some y=>put o σ (.dat u y [])
     | Option.none=> .no
    | Option.none=> .no
   | _=> .no
  else .no
 | .ept t x off=>match E.ty T with
  | some u=>match sub u t x off with
   | some y=>put o σ (.dat u y [])
   | Option.none=> .no
  | Option.none=> .no
 | _=> .no
def Ql (E:Env) (T:Nat) (o:Oper) (σ:St) (a x:AV):Step:=
 match a with
 | .ptr id ver off=>if σ.v id=ver then
   match σ.c id with
   | some (.var t z g)=>match E.ty T with
    | some u=>match x.as u with
     | some y=>match Gb u y t z off with
      | some z'=>bif hasSlf u then .no else .go true ((σ.CR id (.var t z' (bU g off u.sz (x.tags u)))).BJ o.dst .none)
      | Option.none=> .no
     | Option.none=> .no
    | Option.none=> .no
   | some (.arr e l false)=>match E.ty T with
    | some (.arr m e')=>if off=0 then
      match x.as (.arr m e') with
      | some y=>match C7 (t:= .sl e') (.sl e) y with
       | some y'=> .go (decide (List.length (α:=e.D) l=m+1)) ((σ.CR id (.arr e y' false)).BJ o.dst .none)
       | Option.none=> .no
      | Option.none=> .no
     else .no
    | _=> .no
   | _=> .no
  else .no
 | .aptr id ver i off=>if σ.v id=ver then
   match σ.c id with
   | some (.arr e l false)=>match E.ty T with
    | some u=>match x.as u with
     | some y=>match Gb u y e (l.getD i e.zero) off with
      | some z'=> .go true ((σ.CR id (.arr e (l.set i z') false)).BJ o.dst .none)
      | Option.none=> .no
     | Option.none=> .no
    | Option.none=> .no
   | _=> .no
  else .no
 | _=> .no
def Qm (E:Env) (T:Nat) (o:Oper) (σ:St):Step:=
 match o.dst with
 | some d=>match E.ar T with
  | some (n,e)=> .go true ((σ.Cw d (.arr e (List.replicate n e.zero) false)).BJ o.dst (.ptr d (σ.v d+1) 0))
  | Option.none=>match E.ty T with
   | some t=> .go true ((σ.Cw d (.var t t.zero (M5 t 0))).BJ o.dst (.ptr d (σ.v d+1) 0))
   | Option.none=> .no
 | Option.none=> .no
def aM (o:Oper) (σ:St) (d:Nat):(t:Ty)→t.D→List Tag→Step
 | .arr _ e,l,_=> .go true ((σ.Cw d (.arr e l false)).BJ o.dst (.ptr d (σ.v d+1) 0))
 | t,y,g=>bif hasSlf t then .no else .go true ((σ.Cw d (.var t y g)).BJ o.dst (.ptr d (σ.v d+1) 0))
def QN (E:Env) (T:Nat) (o:Oper) (σ:St) (x:AV):Step:=
 match o.dst with
 | some d=>match E.ty T with
  | some t=>match x.as t with
   | some y=>aM o σ d t y (x.tags t)
   | Option.none=> .no
  | Option.none=> .no
 | Option.none=> .no
def KS (E:Env) (T:Nat) (σ:St):(t:Ty)→List (Nat×Operand)→t.D→List Tag→Option (t.D×List Tag)
 | _,[],z,g=>some (z,g)
 | t,(f,x) :: ps,z,g=>match E.pl T f with
  | some (d,u)=>match (A8 σ x).as u with
   | some y=>match Gb u y t z d with
    | some z'=>KS E T σ t ps z' (bU g d u.sz ((A8 σ x).tags u))
    | Option.none=>Option.none
   | Option.none=>Option.none
  | Option.none=>Option.none
def Nc (σ:St) (e:Ty):Nat→List (Nat×Operand)→Option (List e.D)
 | _,[]=>some []
 | i,(j,x) :: ps=>if j=i then
   match (A8 σ x).as e with
   | some y=>match Nc σ e (i+1) ps with
    | some l=>some (y :: l)
    | Option.none=>Option.none
   | Option.none=>Option.none
  else Option.none
def PZ (E:Env) (T len:Nat) (parts:Array (Nat×Operand)) (o:Oper) (σ:St):Step:=
 match o.dst,E.ty T with
 | some d,some (.sl e)=>match Nc σ e 0 parts.toList with
  | some l=>if parts.toList.length=len then bif E.lit d then .go (decide (len*e.sz≤16777216) && true) (σ.BJ o.dst (.dat (.sl e) l [])) else .go (decide (len*e.sz≤16777216) && true) ((σ.Cz (B3 d 0)).BJ o.dst (.dat (.sl e) l [⟨0,B3 d 0,σ.r (B3 d 0)+1,e.sg⟩])) else .no
  | Option.none=> .no
 | _,_=> .no
def tO:Operand→Operand→Bool
 | .tmp i, .tmp j=>Nat.beq i j
 | .const (.int _ m), .const (.int _ n)=>decide (m=n)
 | _,_=>false
def Ri (E:Env) (T:Nat) (o:Oper) (σ:St) (x y:Operand):Step:=
 match o.dst,E.ty T,A8 σ x,A8 σ y with
 | some d,some (.sl e), .dat (.int _) n _, .dat (.int _) m _=>
  if tO x y then .go (Bq 0 n && BM n.toNat (E.by_ T)) ((σ.Cw d (.arr e (List.replicate n.toNat e.zero) false)).BJ o.dst (.slw d (σ.v d+1)))
  else if n=0 then
   bif E.bx d then .go (Bq 0 m && BM m.toNat (E.by_ T)) ((σ.Cw d (.arr e [] false)).BJ o.dst (.slw d (σ.v d+1)))
   else .go (Bq 0 m && BM m.toNat (E.by_ T)) ((σ.Cz (B3 d 0)).BJ o.dst (.dat (.sl e) [] [⟨0,B3 d 0,σ.r (B3 d 0)+1,e.sg⟩]))
  else .no
 | _,_,_,_=> .no
def KT (σ:St) (d sz:Nat):List Tag→Option Nat
 | []=>Option.none
 | t :: ts=>if t.off=0∧t.sz=sz then (if t.id=0 then some (B3 d 0) else if σ.r t.id=t.ver then some t.id else Option.none) else KT σ d sz ts
def Tn (E:Env) (U:Nat) (σ:St) (e:Ty) (x:AV):Option (List e.D):=
 match E.ty U with
 | some (.sl _)=>content σ e x
 | _=>Option.none
def OV (E:Env) (T U:Nat) (o:Oper) (σ:St) (id ver:Nat) (x:AV):Step:=
 match o.dst,E.ty T,σ.c id with
 | some _,some (.sl e),some (.arr e' l false)=>if σ.v id=ver∧Nat.blt id pid0=true then
   match C7 (t:= .sl e') (.sl e) l,Tn E U σ e x with
   | some l',some y=> .go (BM (List.length (α:=e.D) l'+y.length) (E.by_ T)) ((σ.Cw id (.arr e (l'++y) false)).BJ o.dst (.slw id (σ.v id+1)))
   | _,_=> .no
  else .no
 | _,_,_=> .no
def partOf (σ:St):AV→Option (Nat×Nat×Nat)
 | .slw id ver=>if σ.v id=ver then
   match σ.c id with
   | some (.arr e l false)=>some (id,0,List.length (α:=e.D) l)
   | _=>Option.none
  else Option.none
 | .slm id ver lo n=>if σ.v id=ver then
   match σ.c id with
   | some (.arr _ _ false)=>some (id,lo,n)
   | _=>Option.none
  else Option.none
 | _=>Option.none
def GN {α:Type} (l:List α) (lo:Nat) (y:List α):List α:=l.take lo++(y++l.drop (lo+y.length))
def O3 (E:Env) (T:Nat) (o:Oper) (σ:St) (s:AV):Step:=
 match partOf σ s,E.ty T with
 | some (id,lo,n),some (.sl e)=>match σ.c id with
  | some (.arr e' l false)=>if e'=e then .go true ((σ.CR id (.arr e' (GN l lo (List.replicate n e'.zero)) false)).BJ o.dst (.tup [])) else .no
  | _=> .no
 | _,_=> .no
def O9 (E:Env) (T U:Nat) (o:Oper) (σ:St) (s x:AV):Step:=
 match partOf σ s,E.ty T with
 | some (id,lo,n),some (.sl e)=>match σ.c id,Tn E U σ e x with
  | some (.arr e' l false),some y=>match C7 (t:= .sl e) (.sl e') y with
   | some y=> .go true ((σ.CR id (.arr e' (GN l lo (List.take n y)) false)).BJ o.dst (.dat (.int .i64) ((List.length (α:=e'.D) (List.take n y):Nat):Int) []))
   | Option.none=> .no
  | _,_=> .no
 | _,_=> .no
def J2 (E:Env) (T U:Nat) (o:Oper) (σ:St) (s x:AV):Step:=
 match o.dst,E.ty T with
 | some d,some (.sl e)=>match s.as (.sl e) with
  | some l=>match KT σ d e.sg (s.tags (.sl e)) with
   | some id=>match E.ty U with
    | some .str=>match e,l with
     | .int .u8,l=>match x with
      | .dat .str y _=> .go (BM (l.length+y.size) (E.by_ T)) ((σ.Cz id).BJ o.dst (.dat (.sl (.int .u8)) (l++Bi y) [⟨0,id,σ.r id+1,0⟩]))
      | _=> .no
     | _,_=> .no
    | some (.sl _)=>match content σ e x with
     | some y=> .go (BM (l.length+y.length) (E.by_ T)) ((σ.Cz id).BJ o.dst (.dat (.sl e) (l++y) [⟨0,id,σ.r id+1,e.sg⟩]))
     | Option.none=> .no
    | _=> .no
   | Option.none=> .no
  | Option.none=> .no
 | _,_=> .no
def LN (t:Option Ty) (o:Oper) (σ:St) (x:AV):Step:=
 match t with
 | some .str=>match x with
  | .dat .str s _=>put o σ (.dat (.int .i64) (Bh s) [])
  | _=> .no
 | some (.sl _)=>match x with
  | .dat (.sl _) l _=>put o σ (.dat (.int .i64) (AP l) [])
  | .nils=>put o σ (.dat (.int .i64) (0:Int) [])
  | .slw id ver=>if σ.v id=ver then
    match σ.c id with
    | some (.arr _ l _)=>put o σ (.dat (.int .i64) (AP l) [])
    | _=> .no
   else .no
  | .slm id ver _ n=>if σ.v id=ver then put o σ (.dat (.int .i64) (n:Int) []) else .no
  | _=> .no
 | _=> .no
def Wj (f:Int→Int→Int) (k:IntKind):Int→List AV→Option Int
 | a,[]=>some a
 | a, .dat (.int j) b _ :: r=>if j=k then Wj f k (f a b) r else Option.none
 | _,_=>Option.none
def MX (f:Int→Int→Int) (o:Oper) (σ:St) (xs:List AV):Step:=
 match xs with
 | .dat (.int k) a _ :: r=>match Wj f k a r with
  | some n=>put o σ (.dat (.int k) n [])
  | Option.none=> .no
 | _=> .no
def TN (σ:St) (g:List Tag):List Tag:=g.filter fun τ=>Nat.beq τ.id 0 || Nat.beq (σ.r τ.id) τ.ver
def cn:Ty→Bool
 | .int .u8=>true
 | _=>false
def La (E:Env) (T:Nat) (m:Bool) (σ:St) (x:AV):Option (AV×St):=
 match x with
 | .dat t y _=>some (.dat t y [],σ)
 | .nils=>match E.ty T with
  | some (.sl e)=>some (.dat (.sl e) [] [],σ)
  | _=>Option.none
 | .slw id ver=>bif m then
   (if σ.v id=ver then
    match σ.c id with
    | some (.arr e l false)=>match cn e with
     | true=>Option.none
     | false=>some (.ioa e l,σ)
    | _=>Option.none
   else Option.none)
  else if σ.v id=ver∧Nat.blt id pid0=true then
   match σ.c id with
   | some (.arr e l _)=>some (.dat (.sl e) l [],σ.CR id (.arr e l true))
   | _=>Option.none
  else Option.none
 | .slm id ver lo n=>if σ.v id=ver∧Nat.blt id pid0=true then
   match σ.c id with
   | some (.arr e l _)=>some (.dat (.sl e) ((l.drop lo).take n) [],σ.CR id (.arr e l true))
   | _=>Option.none
  else Option.none
 | .fn f ds=>some (.fn f ds,σ)
 | .ept t x 0=>some (.ept t x 0,σ)
 | .ptr id ver 0=>if σ.v id=ver then
   match σ.c id with
   | some (.var t x g)=>some (.iov t x (TN σ g),σ)
   | _=>Option.none
  else Option.none
 | _=>Option.none
def Zfg (m:Bool):AV→List Nat
 | .ptr id _ _=>[id]
 | .slw id _=>bif m then [id] else []
 | _=>[]
def J3 (σ:St):List Nat→Bool
 | []=>true
 | id :: r=>(match σ.c id with | some (.var ..)=>true | some (.arr _ _ f)=>!f | _=>false) && (r.all fun j=>!Nat.beq id j) && J3 σ r
def GK:List Nat→List Con→St→St
 | id :: ids,d :: ds,σ=>GK ids ds (σ.CR id d)
 | _,_,σ=>σ
def FD:List AV→List Nat
 | []=>[]
 | .iov _ _ g :: l=>g.map (·.id)++FD l
 | _ :: l=>FD l
def Jr:List Nat→Bool
 | []=>true
 | i :: l=>(Nat.beq i 0 || l.all fun j=>!Nat.beq i j) && Jr l
def DW:List Nat→St→St
 | [],σ=>σ
 | i :: r,σ=>DW r (σ.Cz i)
def Ps (σ:St):List (Nat×Nat)→Option (List AV)
 | []=>some []
 | (id,ver) :: r=>if σ.v id=ver then
   match σ.c id with
   | some (.var t x g)=>match Ps σ r with
    | some l=>some (.iov t x (TN σ g) :: l)
    | Option.none=>Option.none
   | _=>Option.none
  else Option.none
def CT (σ:St):AV→Option (Dat×St)
 | .ptr id ver 0=>if σ.v id=ver∧Nat.blt id pid0=true then
   match σ.c id with
   | some (.var t x _)=>some (⟨t,x,[]⟩,σ.CR id (.arr t [x] true))
   | some (.arr t [x] true)=>some (⟨t,x,[]⟩,σ)
   | _=>Option.none
  else Option.none
 | .ept t x 0=>some (⟨t,x,[]⟩,σ)
 | _=>Option.none
def Mm:List Operand→St→Option (List Dat×St)
 | [],σ=>some ([],σ)
 | x :: r,σ=>match CT σ (A8 σ x) with
  | some (d,σ')=>match Mm r σ' with
   | some (l,σ'')=>some (d :: l,σ'')
   | Option.none=>Option.none
  | Option.none=>Option.none
def Pa (σ:St):List Operand→Option (List (Nat×Nat))
 | []=>some []
 | x :: r=>match A8 σ x with
  | .ptr id ver 0=>if σ.v id=ver then
    match Pa σ r with
    | some l=>some ((id,ver) :: l)
    | Option.none=>Option.none
   else Option.none
  | _=>Option.none
def Is:List Dat→List AV
 | []=>[]
 | d :: ds=> .ept d.t d.x 0 :: Is ds
def D5:List AV→List AV→List AV
 | [],m=>m
 | a :: l,m=>a :: D5 l m
def Jh (E:Env):List Bool→List (Operand×Nat)→St→Option (List AV×St)
 | _,[],σ=>some ([],σ)
 | ms,(x,T) :: r,σ=>match La E T (ms.headD false) σ (A8 σ x) with
  | some (a,σ')=>match Jh E ms.tail r σ' with
   | some (l,σ'')=>some (a :: l,σ'')
   | Option.none=>Option.none
  | Option.none=>Option.none
def Kv (d:Nat):List Tag→Nat→St→List Tag×Nat×St
 | [],j,σ=>([],j,σ)
 | t :: r,j,σ=>
  if t.id=0 then let p:=Kv d r j σ;(t :: p.1,p.2)
  else let p:=Kv d r (j+1) (σ.Cz (B3 d j));(⟨t.off,B3 d j,σ.r (B3 d j)+1,t.sz⟩ :: p.1,p.2)
def N7 (d:Nat):List Dat→Nat→St→List Dat×Nat×St
 | [],j,σ=>([],j,σ)
 | x :: r,j,σ=>let p:=Kv d x.g j σ;let q:=N7 d r p.2.1 p.2.2;(⟨x.t,x.x,p.1⟩ :: q.1,q.2)
def RO:Con→Con
 | .var t x _=> .var t x []
 | c=>c
def Kd (d:Nat):List Con→Nat→St→List Con×Nat×St
 | [],j,σ=>([],j,σ)
 | .var t x g :: r,j,σ=>let p:=Kv d g j σ;let q:=Kd d r p.2.1 p.2.2;(.var t x p.1 :: q.1,q.2)
 | c :: r,j,σ=>let q:=Kd d r j σ;(c :: q.1,q.2)
def imp (o:Oper) (ids:List Nat) (σ:St) (a:AV) (D9:List Con):St:=
 match o.dst with
 | Option.none=>GK ids (D9.map RO) σ
 | some d=>match a with
  | .dat t x g=>let p:=Kv d g 0 σ;let q:=Kd d D9 p.2.1 p.2.2;(GK ids q.1 q.2.2).BJ o.dst (.dat t x p.1)
  | .tup ds=>let p:=N7 d ds 0 σ;let q:=Kd d D9 p.2.1 p.2.2;(GK ids q.1 q.2.2).BJ o.dst (.tup p.1)
  | .bxv e l=>let τ:=GK ids (D9.map RO) σ;(τ.Cw d (.arr e l false)).BJ o.dst (.slw d (τ.v d+1))
  | .slp k n=>let τ:=GK ids (D9.map RO) σ;match ids[k]? with
   | some id=>τ.BJ o.dst (.slm id (τ.v id) 0 n)
   | Option.none=>τ.BJ o.dst .undef
  | _=>(GK ids (D9.map RO) σ).BJ o.dst a
def Fm (σ:St):List Bool→List Operand→List Nat
 | _,[]=>[]
 | ms,x :: xs=>Zfg (ms.headD false) (A8 σ x)++Fm σ ms.tail xs
def JI:List AV→Bool
 | []=>false
 | .ioa _ _ :: _=>true
 | _ :: l=>JI l
def M6:List AV→Bool
 | []=>true
 | .ioa _ l :: r=>decide (0<l.length) && M6 r
 | _ :: r=>M6 r
def N1:List AV→List Con→Bool
 | [],_=>true
 | .ioa e l :: r, .arr e' l' f :: cs=>decide (e'=e) && (!f && (decide (l'.length=l.length) && N1 r cs))
 | .ioa _ _ :: _,_=>false
 | .iov _ _ _ :: r,_ :: cs=>N1 r cs
 | .iov _ _ _ :: _,[]=>false
 | _ :: r,cs=>N1 r cs
def mG (l:List AV) (r:CallRes):Option r.α:=bif M6 l then r.m.bind fun x=>bif N1 l (r.io x) then some x else Option.none else Option.none
abbrev mA (l:List AV) (r:CallRes):Option r.α:=Bool.casesOn (motive:=fun _=>Option r.α) (JI l) r.m (mG l r)
def JJ (b:Bool) (σ σ':St):St:=bif b then σ else σ'
def Hy:Ty→Bool
 | .int _ | .bool | .str=>true
 | .wrap a=>Hy a
 | .pair a b=>Hy a && Hy b
 | .arr _ e=>Hy e
 | .lk _=>true
 | .sl _=>false
def Wk:AV→Bool
 | .dat t _ g=>Hy t && g.isEmpty
 | .tup ds=>ds.all fun d=>Hy d.t && d.g.isEmpty
 | _=>false
def Wl:Con→Bool
 | .var t _ _=>Hy t
 | .arr e _ _=>Hy e
 | _=>false
def Words (s:Spec):Prop:=∀ l r x,s l=some r→Wk (r.enc x)=true∧∀ d∈r.io x,Wl d=true
def Mn (E:Env) (c:Call) (o:Oper) (σ:St):Step:=
 match c.callee with
 | .builtin b=>match b,c.args.toList,c.argTypes.toList with
  | .len,[x],[T]=>LN (E.ty T) o σ (A8 σ x)
  | .append,[s,x],[T,U]=>match A8 σ s with
   | .slw id ver=>OV E T U o σ id ver (A8 σ x)
   | s=>J2 E T U o σ s (A8 σ x)
  | .clear,[x],[T]=>O3 E T o σ (A8 σ x)
  | .copy,[s,x],[T,U]=>O9 E T U o σ (A8 σ s) (A8 σ x)
  | .min,xs,_=>MX DP o σ (xs.map (A8 σ))
  | .max,xs,_=>MX EM o σ (xs.map (A8 σ))
  | _,_,_=> .no
 | .value f=>match A8 σ f with
  | .fn f ds=>match E.call f with
   | some s=>if c.args.toList.length=c.argTypes.toList.length then
    match Jh E (E.inpl f) (c.args.toList.zip c.argTypes.toList) σ with
    | some (l,σ')=>match s (D5 l (Is ds)) with
     | some r=>bif J3 (JJ (E.lend f) σ σ') (Fm σ (E.inpl f) c.args.toList) && (Jr (FD (D5 l (Is ds))) && (!E.lend f || ((FD (D5 l (Is ds))).isEmpty && !JI (D5 l (Is ds))))) then .call r.α (mA (D5 l (Is ds)) r) (fun x=>imp o (Fm σ (E.inpl f) c.args.toList) (DW (FD (D5 l (Is ds))) (JJ (E.lend f) σ σ')) (r.enc x) (r.io x)) else .no
     | Option.none=> .no
    | Option.none=> .no
    else .no
   | Option.none=> .no
  | .clo f ps=>match E.call f with
   | some s=>if c.args.toList.length=c.argTypes.toList.length then
    match Jh E (E.inpl f) (c.args.toList.zip c.argTypes.toList) σ,Ps σ ps with
    | some (l,σ'),some cs=>match s (D5 l cs) with
     | some r=>bif J3 (JJ (E.lend f) σ σ') (Fm σ (E.inpl f) c.args.toList++ps.map (·.1)) && (Jr (FD (D5 l cs)) && (!E.lend f || ((FD (D5 l cs)).isEmpty && !JI (D5 l cs)))) then .call r.α (mA (D5 l cs) r) (fun x=>imp o (Fm σ (E.inpl f) c.args.toList++ps.map (·.1)) (DW (FD (D5 l cs)) (JJ (E.lend f) σ σ')) (r.enc x) (r.io x)) else .no
     | Option.none=> .no
    | _,_=> .no
    else .no
   | Option.none=> .no
  | _=> .no
 | _=> .no
def NN:Operand→Bool
 | .const (.slice Option.none 0 0)=>true
 | _=>false
def Mo (E:Env) (o:Oper) (σ:St) (c:Bool) (x:AV):Step:=
 match x,o.dst with
 | .nils,some d=>bif E.bx d && c then
   match E.ty o.type with
   | some (.sl e)=> .go true ((σ.Cw d (.arr e [] false)).BJ o.dst (.slw d (σ.v d+1)))
   | _=> .no
  else put o σ (coe E o.type .nils)
 | x,_=>put o σ (coe E o.type x)
def Ee (E:Env) (σ:St) (o:Oper):Step:=
 match o.op with
 | .move x=>Mo E o σ (NN x) (A8 σ x)
 | .assign x=>Mo E o σ (NN x) (A8 σ x)
 | .alloc T=>Qm E T o σ
 | .box T x=>QN E T o σ (A8 σ x)
 | .build T ps=>match E.ty T with
  | some t=>if t.isAgg=true then
    match KS E T σ t ps.toList t.zero (M5 t 0) with
    | some (z,g)=>put o σ (.dat t z g)
    | Option.none=> .no
   else .no
  | Option.none=> .no
 | .buildSlice T n ps=>PZ E T n ps o σ
 | .load T a=>N0 E T o σ (A8 σ a)
 | .store T a x=>Ql E T o σ (A8 σ a) (A8 σ x)
 | .nilCheck x=>match A8 σ x with
  | .ptr id ver off=>if σ.v id=ver then put o σ (.ptr id ver off) else .no
  | .aptr id ver i off=>if σ.v id=ver then put o σ (.aptr id ver i off) else .no
  | .ept t x off=>put o σ (.ept t x off)
  | _=> .no
 | .binOp op T x y _=>bif TB y then O8 E T op o σ (A8 σ x) else O1 E T op o σ (A8 σ x) (A8 σ y)
 | .unOp op _ x=>Qy op o σ (A8 σ x)
 | .convert src dst x=>Ly E src dst o σ (A8 σ x)
 | .makeFunc (.func f) first caps=>
  if first.size=0 then
   bif Hi E o.dst then
    match Pa σ caps.toList with
    | some ps=>put o σ (.clo f ps)
    | Option.none=> .no
   else match Mm caps.toList σ with
   | some (ds,σ')=> .go true (σ'.BJ o.dst (.fn f ds))
   | Option.none=> .no
  else .no
 | .makeSlice T n m=>Ri E T o σ n m
 | .slice T x lo hi Option.none=>O2 E T o σ (A8 σ x) lo hi
 | .fieldAddr S x f=>Nw E S f o σ (A8 σ x)
 | .field S x f=>Qj E S f o σ (A8 σ x)
 | .indexAddr T x i=>Nx E T o σ (A8 σ x) (A8 σ i)
 | .index T x i=>Qk E T o σ (A8 σ x) (A8 σ i)
 | .extract x i=>P6 i o σ (A8 σ x)
 | .call c=>Mn E c o σ
 | _=> .no
section
variable {R : Type}
def Step.run (s:Step) (k:St→Option R):Option R:=
 match s with
 | .no=>Option.none
 | .go c σ=>bif c then k σ else Option.none
 | .call _ m f=>m.bind fun x=>k (f x)
def Wm (E:Env) (σ:St) (o:Oper) (k:St→Option R):Option R:=
 match o.op with
 | .pick c a b=>match A8 σ c with
  | .dat .bool t _=>bif t then k (σ.BJ o.dst (A8 σ a)) else k (σ.BJ o.dst (A8 σ b))
  | _=>Option.none
 | _=>(Ee E σ o).run k
def aN (ops:Array Oper) (j:Nat):Option Nat:=(ops[j]?).bind (·.dst)
def cp (E:Env) (ops:Array Oper) (o:Oper) (σ:St) (k:St→Option R):Option R:=
 match o.guard with
 | Option.none=>Wm E σ o k
 | some (j,want)=>match aN ops j with
  | Option.none=>k (σ.BJ o.dst .none)
  | some s=>match σ.t s with
   | .none=>k (σ.BJ o.dst .none)
   | .dat .bool b g=>
    bif b then
     bif want then Wm E (σ.BJ (some s) (.dat .bool true g)) o k else k ((σ.BJ (some s) (.dat .bool true g)).BJ o.dst .none)
    else
     bif want then k ((σ.BJ (some s) (.dat .bool false g)).BJ o.dst .none) else Wm E (σ.BJ (some s) (.dat .bool false g)) o k
   | _=>Option.none
def Wn (E:Env) (ops:Array Oper):List Oper→St→(St→Option R)→Option R
 | [],σ,k=>k σ
 | o :: r,σ,k=>cp E ops o σ fun σ'=>Wn E ops r σ' k
inductive Ex where
 | normal | exit (id:Nat) | ret
 deriving DecidableEq
def MC (l:List (Nat×AV)):Nat→AV:=fun i=>match l with
 | []=> .undef
 | (j,a) :: r=>bif Nat.beq i j then a else MC r i
def IZ (l:List (Nat×Option Con)):Nat→Option Con:=fun i=>match l with
 | []=>Option.none
 | (j,a) :: r=>bif Nat.beq i j then a else IZ r i
def mk (l:List (Nat×AV)) (c:List (Nat×Option Con)):St:={ t:=MC l,c:=IZ c,v:=fun _=>0,r:=fun _=>0 }
def Pb (σ:St) (p:Nat):List Tag→List (Nat×Nat)→List Tag×List (Nat×Nat)
 | [],s=>([],s)
 | t :: r,s=>
  if s.all (fun z=>!Nat.beq z.1 (B3 p t.off)) && (Nat.beq t.id 0 || (Nat.beq (σ.r t.id) t.ver && s.all fun z=>!Nat.beq z.2 t.id)) then
   let q:=Pb σ p r ((B3 p t.off,t.id) :: s);(⟨t.off,B3 p t.off,0,t.sz⟩ :: q.1,q.2)
  else Pb σ p r s
def Jf (cs:List (Nat×Bool)) (σ:St) (id ver:Nat):Bool:=Nat.beq (σ.v id) ver && cs.any fun z=>Nat.beq z.1 id
def Wo (cs:List (Nat×Bool)) (σ:St) (p:Nat) (b:Bool) (s:List (Nat×Nat)):AV→AV×List (Nat×Nat)
 | .dat t x g=>if b then let q:=Pb σ p g s;(.dat t x q.1,q.2) else (.dat t x [],s)
 | .nils=>(.nils,s)
 | .none=>(.none,s)
 | .ptr id ver off=>(if Jf cs σ id ver then .ptr id 0 off else .undef,s)
 | .slw id ver=>(if Jf cs σ id ver then .slw id 0 else .undef,s)
 | .slm id ver lo n=>(if Jf cs σ id ver then .slm id 0 lo n else .undef,s)
 | .fn f ds=>(.fn f ds,s)
 | .clo f ps=>(if ps.all (fun p=>Jf cs σ p.1 p.2) then .clo f (ps.map fun p=>(p.1,0)) else .undef,s)
 | .ept t x off=>(.ept t x off,s)
 | _=>(.undef,s)
def TO (σ:St) (p:Nat) (b:Bool) (s:List (Nat×Nat)):Option Con→Option Con×List (Nat×Nat)
 | some (.var t x g)=>if b then let q:=Pb σ (1000+p) g s;(some (.var t x q.1),q.2) else (some (.var t x []),s)
 | some (.arr e l f)=>(some (.arr e l f),s)
 | some (.val (.fn f []))=>(some (.val (.fn f [])),s)
 | _=>(Option.none,s)
def Mf (cs:List (Nat×Bool)) (σ:St):List (Nat×Bool)→List (Nat×Nat)→List (Nat×AV)×List (Nat×Nat)
 | [],s=>([],s)
 | (i,b) :: r,s=>let q:=Wo cs σ i b s (σ.t i);let z:=Mf cs σ r q.2;((i,q.1) :: z.1,z.2)
def Mg (σ:St):List (Nat×Bool)→List (Nat×Nat)→List (Nat×Option Con)×List (Nat×Nat)
 | [],s=>([],s)
 | (i,b) :: r,s=>let q:=TO σ i b s (σ.c i);let z:=Mg σ r q.2;((i,q.1) :: z.1,z.2)
def norm (kp:Keep) (σ:St):St:=
 let p:=Mf kp.c σ kp.t []
 mk p.1 (Mg σ kp.c p.2).1
inductive Job where
 | loop (c:Code) | tail (c:Code)
abbrev K (R:Type):=Ex→St→Option R
def Yh:Code→Option Nat
 | .region id _ _=>some id
 | .seq a _=>Yh a
 | .block _ c=>Yh c
 | .loop c=>Yh c
 | _=>Option.none
def lQ (E:Env) (jb:Job→Nat→St→K R→Option R) (y:Code) (b:Nat) (ev:St→K R→Option R) (k:K R):K R:=fun e σ=>
 match e with
 | .normal=>match (Yh y).bind E.cut with
  | some kp=>jb (.tail y) b (norm kp σ) k
  | Option.none=>ev σ k
 | e=>k e σ
def Bo (id:Nat) (k:K R):K R:=fun e σ=>
 match e with
 | .exit id'=>if id'=id then k .normal σ else k (.exit id') σ
 | e=>k e σ
def Zjd (kp:Keep) (again:St→Option R) (k:K R):K R:=fun e σ=>
 match e with
 | .normal=>again (norm kp σ)
 | e=>k e σ
def JO (E:Env) (jb:Job→Nat→St→K R→Option R) (dr:Array Oper→St→(St→Option R)→Option R):Code→Nat→St→K R→Option R
 | .skip,_,σ,k=>k .normal σ
 | .region _ ops false,_,σ,k=>Wn E ops ops.toList σ (k .normal)
 | .region _ ops true,_,σ,k=>dr ops σ (k .normal)
 | .seq x y,b,σ,k=>JO E jb dr x b σ (lQ E jb y b (JO E jb dr y b) k)
 | .cond c x y,b,σ,k=>match A8 σ c with
  | .dat .bool t _=>bif t then JO E jb dr x b σ k else JO E jb dr y b σ k
  | _=>Option.none
 | .block id c,_,σ,k=>JO E jb dr c id σ (Bo id k)
 | .loop c,b,σ,k=>jb (.loop c) b (norm (E.loop b) σ) k
 | .exit id,_,σ,k=>match E.blk id with
  | some kp=>k (.exit id) (norm kp σ)
  | Option.none=>k (.exit id) σ
 | .ret,_,σ,k=>k .ret (norm E.ret σ)
 | _,_,_,_=>Option.none
def Li (E:Env) (dr:Array Oper→St→(St→Option R)→Option R):Nat→Job→Nat→St→K R→Option R
 | 0,_,_,_,_=>Option.none
 | n+1, .loop c,b,σ,k=>JO E (Li E dr n) dr c b σ (Zjd (E.loop b) (fun σ'=>Li E dr n (.loop c) b σ' k) k)
 | n+1, .tail c,b,σ,k=>JO E (Li E dr n) dr c b σ k
end
end Go.AM
end

section
/- Plain data in the model's memory: what it is that cells hold a value of a kind; parts of it read and written. -/
namespace Go.AM
open Go.RowKit (Below)
theorem Hx (A:Addr) (h:A.spot=none) (k:Nat):A.add k=⟨A.block,A.off+k,none⟩:=by
 cases A with | mk b o s=>simp only at h;subst h;unfold Addr.add;split <;> simp_all
def CA {α β:Type} (p:α→β→Prop):List α→List β→Prop
 | [],[]=>True
 | a :: l,b :: m=>p a b∧CA p l m
 | _,_=>False
theorem CA.imp {α β:Type} {p q:α→β→Prop} (Fe:∀ a b,p a b→q a b):∀ {l:List α} {m:List β},CA p l m→CA q l m
 | [],[],_=>trivial
 | _ :: _,_ :: _,h=>⟨Fe _ _ h.1,CA.imp Fe h.2⟩
 | [],_ :: _,h=>h.elim
 | _ :: _,[],h=>h.elim
theorem CA.len {α β:Type} {p:α→β→Prop}:∀ {l:List α} {m:List β},CA p l m→l.length=m.length
 | [],[],_=>rfl
 | _ :: _,_ :: _,h=>by simp [CA.len h.2]
 | [],_ :: _,h=>h.elim
 | _ :: _,[],h=>h.elim
theorem CA.get {α β:Type} {p:α→β→Prop}:∀ {l:List α} {m:List β} {i:Nat} {a:α},CA p l m→l[i]? = some a→∃ b,m[i]? = some b∧p a b
 | a :: _,b :: _,0,_,h,hi=>by simp at hi;subst hi;exact ⟨b,rfl,h.1⟩
 | _ :: _,_ :: _,i+1,_,h,hi=>by
  simp only [List.getElem?_cons_succ] at hi ⊢
  exact CA.get h.2 hi
 | [],_,i,_,_,hi=>by simp at hi
 | _ :: _,[],_,_,h,_=>h.elim
def valOf (t:Ty) (cs:List Value):Value:=if t.isAgg then .agg cs.toArray else cs.headD undef
def cW:Bool→Bool→Value→Prop
 | true,x,v=>(x=true∧v = .nilIface)∨(x=false∧∃ T u,v = .iface T u)
 | false,x,v=>(x=true∧v = .pointer none)∨(x=false∧∃ A,v = .pointer (some A))
theorem cW.one {k x:Bool} {v:Value} (h:cW k x v):v.oneCell'=true:=by
 cases k with
 | true=>rcases h with ⟨_,rfl⟩ | ⟨_,T,u,rfl⟩ <;> rfl
 | false=>rcases h with ⟨_,rfl⟩ | ⟨_,A,rfl⟩ <;> rfl
def RepD (ok:Nat→Nat→Prop) (w:World):(t:Ty)→t.D→List Value→Prop
 | .int k,n,cs=>cs=[.int k n]
 | .bool,b,cs=>cs=[.bool b]
 | .str,s,cs=>cs=[.string s]
 | .sl e,l,cs=>∃ a n cap,cs=[.slice a n cap]∧List.length (α:=e.D) l=n∧n≤cap∧cap≤maxLen∧
   ∀ (i:Nat) (x:e.D),l[i]? = some x→∃ A:Addr,a=some A∧A.spot=none∧∃ ys,RepD ok w e x ys∧
    ∀ j v,ys[j]? = some v→ok A.block (A.off+(i*e.sz+j))∧w.cell? ⟨A.block,A.off+(i*e.sz+j),none⟩=some v
 | .wrap a,x,cs=>RepD ok w a x cs
 | .pair a b,x,cs=>∃ c1 c2,cs=c1++c2∧RepD ok w a x.1 c1∧RepD ok w b x.2 c2
 | .arr m e,l,cs=>List.length (α:=e.D) l=m+1∧cs.length=(m+1)*e.sz∧∀ (i:Nat) (x:e.D),l[i]? = some x→RepD ok w e x ((cs.drop (i*e.sz)).take e.sz)
 | .lk k,x,cs=>∃ v,cs=[v]∧cW k x v
section
variable {ok ok' : Nat → Nat → Prop} {w w' : World}
theorem RepD.len:∀ {t:Ty} {x:t.D} {cs:List Value},RepD ok w t x cs→cs.length=t.sz
 | .int _,_,_,h=>by simp only [RepD] at h;subst h;rfl
 | .bool,_,_,h=>by simp only [RepD] at h;subst h;rfl
 | .str,_,_,h=>by simp only [RepD] at h;subst h;rfl
 | .sl _,_,_,h=>by obtain ⟨a,n,cap,rfl,_⟩:=h;rfl
 | .wrap a,_,_,h=>RepD.len (t:=a) h
 | .pair a b,_,_,h=>by obtain ⟨c1,c2,rfl,h1,h2⟩:=h;simp [Ty.sz,h1.len,h2.len]
 | .arr m e,_,_,h=>h.2.1
 | .lk _,_,_,h=>by obtain ⟨v,rfl,_⟩:=h;rfl
theorem Ty.LG:∀ t:Ty,0<t.sz
 | .int _ | .bool | .str | .sl _ | .lk _=>Nat.one_pos
 | .wrap a=>a.LG
 | .pair a b=>by have:=a.LG;simp only [Ty.sz];omega
 | .arr m e=>by have:=e.LG;simp only [Ty.sz];exact Nat.mul_pos (Nat.succ_pos _) this
theorem Vv (e:Ty):N6 e.sg=e.sz:=by
 unfold N6
 split
 ·rename_i h
  unfold Ty.sg at h
  split at h
  ·rfl
  ·have:=e.LG;omega
 ·rename_i h
  unfold Ty.sg at h ⊢
  split
  ·simp at h
  ·rfl
theorem RepD.one:∀ {t:Ty} {x:t.D} {cs:List Value},RepD ok w t x cs→∀ v∈cs,v.oneCell'=true
 | .int _,_,_,h=>by simp only [RepD] at h;subst h;simp [Value.oneCell']
 | .bool,_,_,h=>by simp only [RepD] at h;subst h;simp [Value.oneCell']
 | .str,_,_,h=>by simp only [RepD] at h;subst h;simp [Value.oneCell']
 | .sl _,_,_,h=>by obtain ⟨a,n,cap,rfl,_⟩:=h;simp [Value.oneCell']
 | .lk _,_,_,h=>by
  obtain ⟨v,rfl,hv⟩:=h
  intro u hu
  rw [AL] at hu
  subst hu
  exact hv.one
 | .wrap a,_,_,h=>RepD.one (t:=a) h
 | .pair a b,_,_,h=>by
  obtain ⟨c1,c2,rfl,h1,h2⟩:=h
  intro v hv
  rcases List.mem_append.1 hv with hv | hv
  ·exact h1.one v hv
  ·exact h2.one v hv
 | .arr m e,l,cs,h=>by
  obtain ⟨h1,h2,h3⟩:=h
  intro v hv
  obtain ⟨k,hk⟩:=List.mem_iff_getElem?.1 hv
  have AO:=(List.getElem?_eq_some_iff.1 hk).1
  have hp:=e.LG
  have hi:k / e.sz<m+1:=by rw [Nat.div_lt_iff_lt_mul hp];omega
  have XF:k / e.sz<List.length (α:=e.D) l:=by omega
  have hr:=h3 (k / e.sz) _ (Ap XF)
  have Pm:k % e.sz<e.sz:=Nat.mod_lt _ hp
  refine hr.one v (List.mem_iff_getElem?.2 ⟨k % e.sz,?_⟩)
  rw [AA,if_pos Pm,List.getElem?_drop,Nat.mul_comm,Nat.div_add_mod]
  exact hk
theorem RepD.mono (hm:∀ b o,ok b o→ok' b o∧w'.cell? ⟨b,o,none⟩=w.cell? ⟨b,o,none⟩):∀ {t:Ty} {x:t.D} {cs:List Value},RepD ok w t x cs→RepD ok' w' t x cs
 | .int _,_,_,h=>h
 | .bool,_,_,h=>h
 | .str,_,_,h=>h
 | .sl e,_,_,h=>by
  obtain ⟨a,n,cap,rfl,hl,h1,h2,hc⟩:=h
  refine ⟨a,n,cap,rfl,hl,h1,h2,fun i x hi=>?_⟩
  obtain ⟨A,ha,hs,ys,hy,C8⟩:=hc i x hi
  refine ⟨A,ha,hs,ys,hy.mono hm,fun j v hj=>?_⟩
  obtain ⟨h3,h4⟩:=C8 j v hj
  obtain ⟨h5,h6⟩:=hm _ _ h3
  exact ⟨h5,h6.trans h4⟩
 | .wrap a,_,_,h=>RepD.mono (t:=a) hm h
 | .pair a b,_,_,h=>by
  obtain ⟨c1,c2,rfl,h1,h2⟩:=h
  exact ⟨c1,c2,rfl,h1.mono hm,h2.mono hm⟩
 | .arr m e,_,_,h=>⟨h.1,h.2.1,fun i x hi=>(h.2.2 i x hi).mono hm⟩
 | .lk _,_,_,h=>h
theorem Fj {t u:Ty} {x:t.D} {y:u.D} (h:C7 u x=some y):∃ e:t=u,e ▸ x=y:=by
 unfold C7 at h
 split at h
 ·rename_i e;exact ⟨e,Option.some.inj h⟩
 ·cases h
theorem RepD.cast {t u:Ty} {x:t.D} {y:u.D} {cs:List Value} (h:C7 u x=some y) (hr:RepD ok w t x cs):RepD ok w u y cs:=by
 obtain ⟨e,he⟩:=Fj h;subst e;subst he;exact hr
theorem P8 {t u:Ty} {x:t.D} {off:Nat} {y:u.D} {cs:List Value} (h:(if off=0 then C7 u x else none)=some y) (hr:RepD ok w t x cs):
  RepD ok w u y ((cs.drop off).take u.sz)∧off+u.sz≤t.sz:=by
 split at h
 ·subst off
  obtain ⟨e,he⟩:=Fj h;subst e;subst he
  have:=hr.len
  refine ⟨?_,by omega⟩
  rw [List.drop_zero,AF (by omega)]
  exact hr
 ·cases h
theorem OR {u:Ty}:∀ {t:Ty} {x:t.D} {off:Nat} {y:u.D} {cs:List Value},sub u t x off=some y→RepD ok w t x cs→
  RepD ok w u y ((cs.drop off).take u.sz)∧off+u.sz≤t.sz
 | .int k,x,off,y,cs,h,hr=>P8 (t:= .int k) h hr
 | .bool,x,off,y,cs,h,hr=>P8 (t:= .bool) h hr
 | .str,x,off,y,cs,h,hr=>P8 (t:= .str) h hr
 | .sl e,x,off,y,cs,h,hr=>P8 (t:= .sl e) h hr
 | .arr m e,x,off,y,cs,h,hr=>P8 (t:= .arr m e) h hr
 | .lk k,x,off,y,cs,h,hr=>P8 (t:= .lk k) h hr
 | .wrap a,x,off,y,cs,h,hr=>by
  rw [sub] at h
  split at h
  ·rename_i h0;exact P8 (t:= .wrap a) (off:=off) (by rw [if_pos h0.1];exact h) hr
  ·exact OR (t:=a) h hr
 | .pair a b,x,off,y,cs,h,hr=>by
  rw [sub] at h
  split at h
  ·rename_i h0;exact P8 (t:= .pair a b) (off:=off) (by rw [if_pos h0.1];exact h) hr
  ·obtain ⟨c1,c2,rfl,h1,h2⟩:=hr
   have l1:=h1.len
   have l2:=h2.len
   split at h
   ·rename_i AO
    obtain ⟨hs,hb⟩:=OR (t:=a) h h1
    refine ⟨?_,by simp only [Ty.sz];omega⟩
    rw [List.drop_append_of_le_length (by omega),List.take_append_of_le_length (by rw [List.length_drop];omega)]
    exact hs
   ·rename_i IT
    obtain ⟨hs,hb⟩:=OR (t:=b) h h2
    refine ⟨?_,by simp only [Ty.sz];omega⟩
    rw [List.drop_append,List.drop_eq_nil_of_le (by omega),AH,l1]
    exact hs
def Dy (cs:List Value) (off:Nat) (ys:List Value):List Value:=cs.take off++ys++cs.drop (off+ys.length)
theorem P9 {t u:Ty} {off:Nat} {y:u.D} {z:t.D} {cs ys:List Value} (h:(if off=0 then C7 t y else none)=some z) (hl:cs.length=t.sz) (hy:RepD ok w u y ys):
  RepD ok w t z (Dy cs off ys)∧off+u.sz≤t.sz:=by
 split at h
 ·subst off
  obtain ⟨e,he⟩:=Fj h;subst e;subst he
  have:=hy.len
  refine ⟨?_,by omega⟩
  unfold Dy
  rw [List.take_zero,AH,List.drop_eq_nil_of_le (by omega),Ay]
  exact hy
 ·cases h
theorem S7 {u:Ty} {y:u.D} {ys:List Value} (hy:RepD ok w u y ys):∀ {t:Ty} {x:t.D} {off:Nat} {z:t.D} {cs:List Value},Gb u y t x off=some z→RepD ok w t x cs→
  RepD ok w t z (Dy cs off ys)∧off+u.sz≤t.sz
 | .int k,x,off,z,cs,h,hr=>P9 (t:= .int k) h hr.len hy
 | .bool,x,off,z,cs,h,hr=>P9 (t:= .bool) h hr.len hy
 | .str,x,off,z,cs,h,hr=>P9 (t:= .str) h hr.len hy
 | .sl e,x,off,z,cs,h,hr=>P9 (t:= .sl e) h hr.len hy
 | .arr m e,x,off,z,cs,h,hr=>P9 (t:= .arr m e) h hr.len hy
 | .lk k,x,off,z,cs,h,hr=>P9 (t:= .lk k) h hr.len hy
 | .wrap a,x,off,z,cs,h,hr=>by
  rw [Gb] at h
  split at h
  ·rename_i h0;exact P9 (t:= .wrap a) (off:=off) (by rw [if_pos h0.1];exact h) hr.len hy
  ·exact S7 hy (t:=a) h hr
 | .pair a b,x,off,z,cs,h,hr=>by
  rw [Gb] at h
  split at h
  ·rename_i h0;exact P9 (t:= .pair a b) (off:=off) (by rw [if_pos h0.1];exact h) hr.len hy
  ·obtain ⟨c1,c2,rfl,h1,h2⟩:=hr
   have l1:=h1.len
   have l2:=h2.len
   have ly:=hy.len
   split at h
   ·rename_i AO
    cases hz:Gb u y a x.1 off with
    | none=>simp [hz] at h
    | some z1=>
     simp only [hz,Option.map_some,Option.some.injEq] at h
     subst h
     obtain ⟨hs,hb⟩:=S7 hy (t:=a) hz h1
     refine ⟨⟨Dy c1 off ys,c2,?_,hs,h2⟩,by simp only [Ty.sz];omega⟩
     unfold Dy
     rw [List.take_append_of_le_length (by omega),List.drop_append_of_le_length (by omega)]
     simp only [Al]
   ·rename_i IT
    cases hz:Gb u y b x.2 (off-a.sz) with
    | none=>simp [hz] at h
    | some z1=>
     simp only [hz,Option.map_some,Option.some.injEq] at h
     subst h
     obtain ⟨hs,hb⟩:=S7 hy (t:=b) hz h2
     refine ⟨⟨c1,Dy c2 (off-a.sz) ys,?_,h1,hs⟩,by simp only [Ty.sz];omega⟩
     unfold Dy
     rw [List.take_append,AF (by omega),List.drop_append,List.drop_eq_nil_of_le (by omega),AH,l1,
      show off+ys.length-a.sz=off-a.sz+ys.length by omega]
     simp only [Al]
def Ty.zcells:Ty→List Value
 | .int k=>[.int k 0]
 | .bool=>[.bool false]
 | .str=>[.string ⟨#[]⟩]
 | .sl _=>[.slice none 0 0]
 | .wrap a=>a.zcells
 | .pair a b=>a.zcells++b.zcells
 | .arr m e=>(List.replicate (m+1) e.zcells).flatten
 | .lk true=>[.nilIface]
 | .lk false=>[.pointer none]
theorem pR {z:List Value} {k:Nat} (hz:z.length=k):∀ (n i:Nat),i<n→(((List.replicate n z).flatten).drop (i*k)).take k=z
 | 0,i,h=>by omega
 | n+1,0,_=>by rw [List.replicate_succ,List.flatten_cons,Nat.zero_mul,List.drop_zero,← hz,List.take_left]
 | n+1,i+1,h=>by
  rw [List.replicate_succ,List.flatten_cons,Nat.add_mul,Nat.one_mul,Nat.add_comm,← List.drop_drop,show List.drop k (z++(List.replicate n z).flatten)=(List.replicate n z).flatten by rw [← hz,List.drop_left]]
  exact pR hz n i (by omega)
theorem qQ {z:List Value} {k:Nat} (hz:z.length=k):∀ n:Nat,((List.replicate n z).flatten).length=n*k
 | 0=>by simp
 | n+1=>by rw [List.replicate_succ,List.flatten_cons,Ae,qQ hz n,hz,Nat.add_mul];omega
theorem He (ok:Nat→Nat→Prop) (w:World):∀ t:Ty,RepD ok w t t.zero t.zcells
 | .int _=>rfl
 | .bool=>rfl
 | .str=>rfl
 | .sl e=>⟨none,0,0,rfl,rfl,Ah _,Nat.zero_le _,fun i x h=>by simp [Ty.zero] at h⟩
 | .wrap a=>He ok w a
 | .pair a b=>⟨_,_,rfl,He ok w a,He ok w b⟩
 | .arr m e=>by
  have hz:=He ok w e
  refine ⟨by simp [Ty.zero],qQ hz.len _,fun i x hi=>?_⟩
  have hi':(List.replicate (m+1) e.zero)[i]? = some x:=hi
  rw [List.getElem?_replicate] at hi'
  split at hi'
  ·rename_i AO
   cases hi'
   show RepD ok w e e.zero ((((List.replicate (m+1) e.zcells).flatten).drop (i*e.sz)).take e.sz)
   rw [pR hz.len _ _ AO]
   exact hz
  ·cases hi'
 | .lk true=>⟨_,rfl, .inl ⟨rfl,rfl⟩⟩
 | .lk false=>⟨_,rfl, .inl ⟨rfl,rfl⟩⟩
theorem Zzu {v:Value} (h:v.oneCell'=true):v.cells = #[v]:=by
 cases v <;> first | rfl | cases h
theorem Nv {t:Ty} {x:t.D} {cs:List Value} (h:RepD ok w t x cs):(valOf t cs).cells=cs.toArray:=by
 cases t with
 | wrap a=>rfl
 | pair a b=>rfl
 | arr m e=>rfl
 | int k=>simp only [RepD] at h;subst h;rfl
 | bool=>simp only [RepD] at h;subst h;rfl
 | str=>simp only [RepD] at h;subst h;rfl
 | sl e=>obtain ⟨a,n,cap,rfl,_⟩:=h;rfl
 | lk k=>obtain ⟨v,rfl,hv⟩:=h;exact Zzu hv.one
theorem qP {t:Ty} {x:t.D} {cs:List Value} (h:RepD ok w t x cs) (ha:t.isAgg=false):cs=[valOf t cs]:=by
 cases t with
 | wrap a=>cases ha
 | pair a b=>cases ha
 | arr m e=>cases ha
 | int k=>simp only [RepD] at h;subst h;rfl
 | bool=>simp only [RepD] at h;subst h;rfl
 | str=>simp only [RepD] at h;subst h;rfl
 | sl e=>obtain ⟨a,n,cap,rfl,_⟩:=h;rfl
 | lk k=>obtain ⟨v,rfl,hv⟩:=h;rfl
theorem Qg {u t:Ty} {y:u.D} {off:Nat} {z:t.D} (h:(if off=0 then C7 t y else none)=some z):off+u.sz≤t.sz:=by
 split at h
 ·subst off
  obtain ⟨e,_⟩:=Fj h
  subst e
  omega
 ·cases h
theorem VL {u:Ty} {y:u.D}:∀ {t:Ty} {x:t.D} {off:Nat} {z:t.D},Gb u y t x off=some z→off+u.sz≤t.sz
 | .int k,x,off,z,h=>Qg (t:= .int k) h
 | .bool,x,off,z,h=>Qg (t:= .bool) h
 | .str,x,off,z,h=>Qg (t:= .str) h
 | .sl e,x,off,z,h=>Qg (t:= .sl e) h
 | .arr m e,x,off,z,h=>Qg (t:= .arr m e) h
 | .lk k,x,off,z,h=>Qg (t:= .lk k) h
 | .wrap a,x,off,z,h=>by
  rw [Gb] at h
  split at h
  ·rename_i h0
   exact Qg (t:= .wrap a) (off:=off) (by rw [if_pos h0.1];exact h)
  ·exact VL (t:=a) h
 | .pair a b,x,off,z,h=>by
  rw [Gb] at h
  split at h
  ·rename_i h0
   exact Qg (t:= .pair a b) (off:=off) (by rw [if_pos h0.1];exact h)
  ·split at h
   ·rename_i AO
    cases hz:Gb u y a x.1 off with
    | none=>simp [hz] at h
    | some z1=>have:=VL hz;simp only [Ty.sz];omega
   ·rename_i IT
    cases hz:Gb u y b x.2 (off-a.sz) with
    | none=>simp [hz] at h
    | some z1=>have:=VL hz;simp only [Ty.sz];omega
def EL (b:Nat):Ty→Nat→List Value→Prop
 | .lk false,off,cs=>cs[off]? = some (.pointer none)∨cs[off]? = some (.pointer (some ⟨b,off,none⟩))
 | .wrap a,off,cs=>EL b a off cs
 | .pair a c,off,cs=>EL b a off cs∧EL b c (off+a.sz) cs
 | _,_,_=>True
theorem EL.zero (b:Nat):∀ (t:Ty) (pre post:List Value),EL b t pre.length (pre++t.zcells++post)
 | .lk false,pre,post=> .inl (by simp [Ty.zcells])
 | .wrap a,pre,post=>EL.zero b a pre post
 | .pair a c,pre,post=>by
  have h1:=EL.zero b a pre (c.zcells++post)
  have h2:=EL.zero b c (pre++a.zcells) post
  have hl:=(He (fun _ _=>True) default a).len
  refine ⟨?_,?_⟩
  ·simp only [Ty.zcells,Al] at h1 ⊢;exact h1
  ·simp only [Ty.zcells,Al,Ae,hl] at h2 ⊢;exact h2
 | .lk true,_,_=>trivial
 | .int _,_,_=>trivial
 | .bool,_,_=>trivial
 | .str,_,_=>trivial
 | .sl _,_,_=>trivial
 | .arr _ _,_,_=>trivial
theorem EL.none (b:Nat):∀ {t:Ty} (off:Nat) (cs:List Value),hasSlf t=false→EL b t off cs
 | .lk false,_,_,h=>by cases h
 | .wrap a,off,cs,h=>EL.none b (t:=a) off cs h
 | .pair a c,off,cs,h=>by
  simp only [hasSlf,Bool.or_eq_false_iff] at h
  exact ⟨EL.none b off cs h.1,EL.none b _ cs h.2⟩
 | .lk true,_,_,_=>trivial
 | .int _,_,_,_=>trivial
 | .bool,_,_,_=>trivial
 | .str,_,_,_=>trivial
 | .sl _,_,_,_=>trivial
 | .arr _ _,_,_,_=>trivial
theorem EL.same {b:Nat} {cs Lo:List Value}:∀ {t:Ty} {off:Nat},EL b t off cs→(∀ j,off≤j→j<off+t.sz→Lo[j]? = cs[j]?)→EL b t off Lo
 | .lk false,off,h,hs=>by
  have:=hs off (Ah _) (by simp [Ty.sz])
  unfold EL at *
  rw [this]
  exact h
 | .wrap a,off,h,hs=>EL.same (t:=a) h hs
 | .pair a c,off,h,hs=>⟨EL.same h.1 fun j h1 h2=>hs j h1 (by simp only [Ty.sz];omega),EL.same h.2 fun j h1 h2=>hs j (by omega) (by simp only [Ty.sz];omega)⟩
 | .lk true,_,_,_=>trivial
 | .int _,_,_,_=>trivial
 | .bool,_,_,_=>trivial
 | .str,_,_,_=>trivial
 | .sl _,_,_,_=>trivial
 | .arr _ _,_,_,_=>trivial
theorem ef {cs ys:List Value} {off j:Nat} (hle:off+ys.length≤cs.length) (h:j<off∨off+ys.length≤j):(Dy cs off ys)[j]? = cs[j]?:=by
 unfold Dy
 rcases h with h | h
 ·rw [Al,AD (by rw [Ag];omega),AA,if_pos h]
 ·rw [Aw (by rw [Ae,Ag];omega),List.getElem?_drop,Ae,Ag]
  congr 1
  omega
theorem EL.Gb {u:Ty} {y:u.D} {b:Nat} (hu:hasSlf u=false):∀ {t:Ty} {x:t.D} {off:Nat} {z:t.D} (pre:Nat) {cs ys:List Value},Gb u y t x off=some z→ys.length=u.sz→pre+t.sz≤cs.length→EL b t pre cs→
  EL b t pre (Dy cs (pre+off) ys)
 | .lk false,x,off,z,pre,cs,ys,h,_,_,_=>by
  rw [Go.AM.Gb] at h
  split at h
  ·obtain ⟨e,_⟩:=Fj h
   subst e
   cases hu
  ·cases h
 | .wrap a,x,off,z,pre,cs,ys,h,hl,hc,hs=>by
  rw [Go.AM.Gb] at h
  split at h
  ·rename_i h0
   rw [h0.2] at hu
   exact EL.none b (t:= .wrap a) _ _ hu
  ·exact EL.Gb hu (t:=a) pre h hl hc hs
 | .pair a c,x,off,z,pre,cs,ys,h,hl,hc,hs=>by
  rw [Go.AM.Gb] at h
  split at h
  ·rename_i h0
   rw [h0.2] at hu
   exact EL.none b (t:= .pair a c) _ _ hu
  ·simp only [Ty.sz] at hc
   split at h
   ·rename_i AO
    cases hz:Go.AM.Gb u y a x.1 off with
    | none=>simp [hz] at h
    | some z1=>
     have hb:off+u.sz≤a.sz:=VL hz
     refine ⟨EL.Gb hu pre hz hl (by omega) hs.1,hs.2.same fun j h1 h2=>ef (by omega) (.inr (by omega))⟩
   ·rename_i IT
    cases hz:Go.AM.Gb u y c x.2 (off-a.sz) with
    | none=>simp [hz] at h
    | some z1=>
     have hb:off-a.sz+u.sz≤c.sz:=VL hz
     have:=EL.Gb hu (pre+a.sz) hz hl (by omega) hs.2
     rw [show pre+a.sz+(off-a.sz)=pre+off by omega] at this
     exact ⟨hs.1.same fun j h1 h2=>ef (by omega) (.inl (by omega)),this⟩
 | .lk true,_,_,_,_,_,_,_,_,_,_=>trivial
 | .int _,_,_,_,_,_,_,_,_,_,_=>trivial
 | .bool,_,_,_,_,_,_,_,_,_,_=>trivial
 | .str,_,_,_,_,_,_,_,_,_,_=>trivial
 | .sl _,_,_,_,_,_,_,_,_,_,_=>trivial
 | .arr _ _,_,_,_,_,_,_,_,_,_,_=>trivial
end
end Go.AM
end

section
/- What a state of the abstract machine says of slots and memory; how it is kept when memory grows or a part of it is written. -/
namespace Go.AM
open Go.RowKit (Below)
class Lay where
 bld : Nat   -- the type of variables with a word that points to the variable
 byt : Nat   -- the type of bytes
 ok:Nat→World→Prop
 lt:∀ z w,ok z w→z≤w.heap.size
 keep:∀ z w w',ok z w→w.heap.size≤w'.heap.size→(∀ k,k<z→w'.heap[k]? = w.heap[k]?)→ok z w'
set_option linter.unusedSectionVars false
variable [Lay]
def VJ (b:Nat) (t:Ty) (T:TypeId) (cs:List Value):Prop:=EL b t 0 cs∧(hasSlf t=true→T=Lay.bld)
structure G where
 bx:Nat→Option (Nat×Bool)
 rw:Nat→Option (Nat×Nat)
structure Bd where
 n:Nat
 io:List Nat
 rows:List (Option (Nat×Nat))
structure BelowX (B:Bd) (w w':World):Prop where
 os:w'.os=w.os
 tape:w'.tape=w.tape
 output:w'.output=w.output
 size:w.heap.size≤w'.heap.size
 block:∀ k,k<B.n→k∉B.io→(∀ u,some (k,u)∉B.rows)→w'.heap[k]? = w.heap[k]?
 rowc:∀ k u cur T y,some (k,u)∈B.rows→k<B.n→w.heap[k]? = some (.cells cur T y)→∃ cur' z,w'.heap[k]? = some (.cells cur' T z)∧cur'.size=cur.size∧∀ o,o<u→cur'[o]? = cur[o]?
 ioc:∀ k cur T y,k∈B.io→k<B.n→w.heap[k]? = some (.cells cur T y)→∃ cur' z,w'.heap[k]? = some (.cells cur' T z)∧cur'.size=cur.size
def Bd.own (B:Bd) (b:Nat):Prop:=B.n≤b∨∃ u,some (b,u)∈B.rows
theorem BelowX.Zyn {B:Bd} {a b c:World} (h:BelowX B a b) (k:Below B.n b c):BelowX B a c:=
 ⟨k.os.trans h.os,k.tape.trans h.tape,k.output.trans h.output,Nat.le_trans h.size k.size,fun i hi hn hr=>(k.block i hi).trans (h.block i hi hn hr),fun i u cur T y hr hi hh=>by
  obtain ⟨cur',z,h1,h2⟩:=h.rowc i u cur T y hr hi hh
  exact ⟨cur',z,(k.block i hi).trans h1,h2⟩,fun i cur T y hm hi hh=>by
  obtain ⟨cur',z,h1,h2⟩:=h.ioc i cur T y hm hi hh
  exact ⟨cur',z,(k.block i hi).trans h1,h2⟩⟩
theorem BelowX.Zf6 {B:Bd} {bs:List Nat} {rws:List (Option (Nat×Nat))} {a b c:World} (h:BelowX B a b) (k:BelowX ⟨b.heap.size,bs,rws⟩ b c) (hB:B.n≤b.heap.size) (hs:∀ x∈bs,(B.n≤x∨x∈B.io)∧∀ u,x<B.n→some (x,u)∉B.rows)
  (hr:∀ x u,some (x,u)∈rws→B.own x∧∀ u0,x<B.n→some (x,u0)∈B.rows→u0≤u):BelowX B a c:=
 ⟨k.os.trans h.os,k.tape.trans h.tape,k.output.trans h.output,Nat.le_trans h.size k.size,fun i hi hn hq=>(k.block i (by show i<b.heap.size;omega) (fun hm=>by rcases (hs i hm).1 with h | h;omega;exact hn h) (fun u hm=>by
  rcases (hr i u hm).1 with h | ⟨u0,h⟩
  ·omega
  ·exact hq u0 h)).trans (h.block i hi hn hq),fun i u cur T y hq hi hh=>by
  obtain ⟨cur',z,h1,h2,h3⟩:=h.rowc i u cur T y hq hi hh
  by_cases hm:∃ u1,some (i,u1)∈rws
  ·obtain ⟨u1,hm⟩:=hm
   obtain ⟨QT,z2,k1,k2,k3⟩:=k.rowc i u1 cur' T z hm (by show i<b.heap.size;omega) h1
   have:=(hr i u1 hm).2 u hi hq
   exact ⟨QT,z2,k1,k2.trans h2,fun o ho=>(k3 o (by omega)).trans (h3 o ho)⟩
  ·exact ⟨cur',z,(k.block i (by show i<b.heap.size;omega) (fun hb=>(hs i hb).2 u hi hq) fun u1 hb=>hm ⟨u1,hb⟩).trans h1,h2,h3⟩,fun i cur T y hq hi hh=>by
  obtain ⟨cur',z,h1,h2⟩:=h.ioc i cur T y hq hi hh
  by_cases hm:∃ u1,some (i,u1)∈rws
  ·obtain ⟨u1,hm⟩:=hm
   obtain ⟨QT,z2,k1,k2,_⟩:=k.rowc i u1 cur' T z hm (by show i<b.heap.size;omega) h1
   exact ⟨QT,z2,k1,k2.trans h2⟩
  ·by_cases hb:i∈bs
   ·obtain ⟨QT,z2,k1,k2⟩:=k.ioc i cur' T z hb (by show i<b.heap.size;omega) h1
    exact ⟨QT,z2,k1,k2.trans h2⟩
   ·exact ⟨cur',z,(k.block i (by show i<b.heap.size;omega) hb fun u1 hb=>hm ⟨u1,hb⟩).trans h1,h2⟩⟩
theorem BelowX.refl (B:Bd) (w:World):BelowX B w w:=⟨rfl,rfl,rfl,Ah _,fun _ _ _ _=>rfl,fun _ _ cur _ _ _ _ h=>⟨cur,_,h,rfl,fun _ _=>rfl⟩,fun _ cur _ _ _ _ h=>⟨cur,_,h,rfl⟩⟩
theorem BelowX.below {n:Nat} {w w':World} (h:BelowX ⟨n,[],[]⟩ w w'):Below n w w':=⟨h.os,h.tape,h.output,h.size,fun k hk=>h.block k hk (by simp) (by simp)⟩
theorem BelowX.LB {n:Nat} {io:List Nat} {rows:List (Option (Nat×Nat))} {w w':World} (h:Below n w w'):BelowX ⟨n,io,rows⟩ w w':=⟨h.os,h.tape,h.output,h.size,fun k hk _ _=>h.block k hk,fun _ _ cur _ _ _ hk hh=>⟨cur,_,(h.block _ hk).trans hh,rfl,fun _ _=>rfl⟩,fun _ cur _ _ _ hk hh=>⟨cur,_,(h.block _ hk).trans hh,rfl⟩⟩
def okG (B:Bd) (ok0:Nat→Nat→Prop) (g:G) (w:World) (b o:Nat):Prop:=
 ok0 b o∨(B.own b∧b<w.heap.size∧(∀ id,g.bx id≠some (b,false))∧∀ id u,g.rw id=some (b,u)→o<u)
def TV (g:G) (w:World) (sz id:Nat) (v:Option Value):Prop:=
 v=some (.slice none 0 0)∨∃ b n cap cur T,v=some (.slice (some ⟨b,0,none⟩) n cap)∧g.rw id=some (b,n*N6 sz)∧
  w.heap[b]? = some (.cells cur T (0,0))∧cur.size=cap*N6 sz∧n≤cap∧cap≤maxLen∧(sz=0→T=Lay.byt)
def WH (g:G) (r:Nat→Nat) (w:World) (cs:List Value) (t:Tag):Prop:=
 (t.id=0→cs[t.off]? = some (.slice none 0 0))∧(t.id≠0→t.ver≤r t.id∧(r t.id=t.ver→TV g w t.sz t.id cs[t.off]?))
def Hg (g:G) (r:Nat→Nat) (w:World) (gs:List Tag) (cs:List Value):Prop:=∀ t∈gs,WH g r w cs t
def Mk (e:Ty) (y:Nat×Nat) (n:Nat):Prop:=y=(0,0)∨cn e=true∧n≤y.1
theorem Mk.un {e:Ty} {y:Nat×Nat} {n:Nat} (h:Mk e y n):y=(0,0)∨n≤y.1:=h.imp_right And.right
theorem Mk.eq {e:Ty} {y:Nat×Nat} {n m:Nat} (h:Mk e y n) (he:m=n):Mk e y m:=he ▸ h
def N4 (g:G) (w:World) (id sz n:Nat) (v:Value):Prop:=
 (g.bx id=none∧n=0∧v = .slice none 0 0)∨∃ b f cap cur T y,g.bx id=some (b,f)∧w.heap[b]? = some (.cells cur T y)∧cur.size=cap*sz∧n≤cap∧cap≤maxLen∧v = .slice (some ⟨b,0,none⟩) n cap
section
variable (ok : Nat → Nat → Prop) (g : G) (σ : St) (w : World)
def Ob (id ver off:Nat) (v:Value):Prop:=ver≤σ.v id∧(σ.v id=ver→∃ b f,g.bx id=some (b,f)∧v = .pointer (some ⟨b,off,none⟩))
def Qt (t:Ty) (x:t.D) (gs:List Tag) (v:Value):Prop:=∃ cs,RepD ok w t x cs∧v=valOf t cs∧Hg g σ.r w gs cs
def IQ (t:Ty) (x:t.D) (off:Nat) (v:Value):Prop:=∃ b o ys,v = .pointer (some ⟨b,o+off,none⟩)∧RepD ok w t x ys∧∀ j u,ys[j]? = some u→ok b (o+j)∧w.cell? ⟨b,o+j,none⟩=some u
def RepA:AV→Value→Prop
 | .undef,_=>True
 | .none,v=>v=undef
 | .dat t x gs,v=>Qt ok g σ w t x gs v
 | .nils,v=>v = .slice none 0 0
 | .ptr id ver off,v=>Ob g σ id ver off v
 | .aptr id ver i off,v=>ver≤σ.v id∧(σ.v id=ver→∃ b f e l fz,g.bx id=some (b,f)∧σ.c id=some (.arr e l fz)∧i<l.length∧v = .pointer (some ⟨b,i*e.sz+off,none⟩))
 | .ept t x off,v=>IQ ok w t x off v
 | .slw id ver,v=>ver≤σ.v id∧(σ.v id=ver→∃ e l fz,σ.c id=some (.arr e l fz)∧N4 g w id e.sz (List.length (α:=e.D) l) v)
 | .slm id ver lo n,v=>ver≤σ.v id∧(σ.v id=ver→∃ e l fz A cap,σ.c id=some (.arr e l fz)∧lo+n≤List.length (α:=e.D) l∧n≤cap∧cap≤maxLen∧
   (n≠0→∃ b f,g.bx id=some (b,f)∧A=some ⟨b,lo*e.sz,none⟩)∧(∀ a,A=some a→a.spot=none)∧v = .slice A n cap)
 | .fn f caps,v=>∃ vs:List Value,v = .func (.func f) #[] vs.toArray∧CA (fun (d:Dat) u=>IQ ok w d.t d.x 0 u) caps vs
 | .clo f ps,v=>∃ vs:List Value,v = .func (.func f) #[] vs.toArray∧CA (fun (p:Nat×Nat) u=>Ob g σ p.1 p.2 0 u) ps vs
 | .iov _ _ _,_=>False
 | .ioa _ _,_=>False
 | .bxv _ _,_=>False
 | .slp _ _,_=>False
 | .tup ds,v=>∃ vs:List Value,v = .tuple vs.toArray∧CA (fun (d:Dat) u=>Qt ok g σ w d.t d.x d.g u) ds vs
def ConOk (b:Nat) (f:Bool):Con→Prop
 | .var t x gs=>f=false∧∃ cs T,w.heap[b]? = some (.cells cs.toArray T (0,0))∧RepD ok w t x cs∧VJ b t T cs∧Hg g σ.r w gs cs
 | .arr e l fz=>f=fz∧∃ cur T y,w.heap[b]? = some (.cells cur T y)∧Mk e y cur.size∧l.length*e.sz≤cur.size∧l.length≤maxLen∧
   ∀ (i:Nat) (x:e.D),l[i]? = some x→∃ ys,RepD ok w e x ys∧∀ j u,ys[j]? = some u→cur[i*e.sz+j]? = some u
 | .val a=>f=false∧∃ v T,w.heap[b]? = some (.cells #[v] T (0,0))∧RepA ok g σ w a v
end
def NilC (g:G) (id:Nat) (c:Con):Prop:=g.bx id=none∧∃ e fz,c = .arr e [] fz
structure Inv (B:Bd) (ok0:Nat→Nat→Prop) (w0:World) (g:G) (σ:St) (a:Act) (w:World):Prop where
 below:BelowX B w0 w
 hB:B.n=w0.heap.size
 h0:∀ b o,ok0 b o→b<B.n∧b∉B.io∧∀ u,some (b,u)∈B.rows→o<u
 hR:∀ b u,some (b,u)∈B.rows→b<B.n∧b∉B.io∧∀ u',some (b,u')∈B.rows→u'=u
 defers:a.defers=[]
 lay:∃ z,Lay.ok z w0∧(∀ b∈B.io,z≤b)∧∀ b u,some (b,u)∈B.rows→z≤b
 tm:a.tmps.size≤pid0
 nm:∀ id b f,pid0≤id→g.bx id=some (b,f)→B.io[id-pid0]? = some b
 bb:∀ id b f,g.bx id=some (b,f)→(B.n≤b∨b∈B.io∧f=false∧pid0≤id)∧b<w.heap.size
 bi:∀ id id' b f f',g.bx id=some (b,f)→g.bx id'=some (b,f')→id=id'
 rb:∀ id b u,g.rw id=some (b,u)→(B.n≤b∨∃ u0,some (b,u0)∈B.rows∧u0≤u)∧b<w.heap.size∧∀ id' f,g.bx id'≠some (b,f)
 ri:∀ id id' b u u',g.rw id=some (b,u)→g.rw id'=some (b,u')→id=id'
 con:∀ id c,σ.c id=some c→NilC g id c∨∃ b f,g.bx id=some (b,f)∧ConOk (okG B ok0 g w) g σ w b f c
 slots:∀ t,RepA (okG B ok0 g w) g σ w (σ.t t) (a.tmps.getD t undef)
structure Ext (ok ok':Nat→Nat→Prop) (g g':G) (σ σ':St) (w w':World):Prop where
 cell:∀ b o,ok b o→ok' b o∧w'.cell? ⟨b,o,none⟩=w.cell? ⟨b,o,none⟩
 box:∀ id ver,ver≤σ.v id→ver≤σ'.v id∧(σ'.v id=ver→σ.v id=ver∧(∀ b f,g.bx id=some (b,f)→∃ f',g'.bx id=some (b,f'))∧
  (∀ e l fz,σ.c id=some (.arr e l fz)→∃ l' fz',σ'.c id=some (.arr e l' fz')∧List.length (α:=e.D) l'=List.length (α:=e.D) l)∧
  (g.bx id=none→g'.bx id=none)∧∀ b f cur T y,(∃ e l fz,σ.c id=some (.arr e l fz))→g.bx id=some (b,f)→w.heap[b]? = some (.cells cur T y)→∃ cur' y',w'.heap[b]? = some (.cells cur' T y')∧cur'.size=cur.size)
 row:∀ id ver,id≠0→ver≤σ.r id→ver≤σ'.r id∧(σ'.r id=ver→σ.r id=ver∧(∀ b u,g.rw id=some (b,u)→g'.rw id=some (b,u)∧w'.heap[b]? = w.heap[b]?))
section
variable {ok ok' : Nat → Nat → Prop} {g g' : G} {σ σ' : St} {w w' : World}
theorem TV.ext {sz id:Nat} {v:Option Value} (h:TV g w sz id v) (hr:∀ b u,g.rw id=some (b,u)→g'.rw id=some (b,u)∧w'.heap[b]? = w.heap[b]?):TV g' w' sz id v:=by
 rcases h with h | ⟨b,n,cap,cur,T,hv,h1,h2,rest⟩
 ·exact .inl h
 ·obtain ⟨h3,h4⟩:=hr _ _ h1
  exact .inr ⟨b,n,cap,cur,T,hv,h3,h4.trans h2,rest⟩
theorem Hg.ext {gs:List Tag} {cs:List Value} (hx:Ext ok ok' g g' σ σ' w w') (h:Hg g σ.r w gs cs):Hg g' σ'.r w' gs cs:=by
 intro t ht
 obtain ⟨h1,h2⟩:=h t ht
 refine ⟨h1,fun h0=>?_⟩
 obtain ⟨h3,h4⟩:=h2 h0
 obtain ⟨h5,h6⟩:=hx.row t.id t.ver h0 h3
 exact ⟨h5,fun he=>(h4 (h6 he).1).ext (h6 he).2⟩
theorem Ob.ext {id ver off:Nat} {v:Value} (hx:Ext ok ok' g g' σ σ' w w') (h:Ob g σ id ver off v):Ob g' σ' id ver off v:=by
 obtain ⟨h1,h2⟩:=h
 obtain ⟨h3,h4⟩:=hx.box id ver h1
 refine ⟨h3,fun he=>?_⟩
 obtain ⟨h5,h6,_⟩:=h4 he
 obtain ⟨b,f,hb,hv⟩:=h2 h5
 obtain ⟨f',Ff⟩:=h6 b f hb
 exact ⟨b,f',Ff,hv⟩
theorem Qt.ext {t:Ty} {x:t.D} {gs:List Tag} {v:Value} (hx:Ext ok ok' g g' σ σ' w w') (h:Qt ok g σ w t x gs v):Qt ok' g' σ' w' t x gs v:=by
 obtain ⟨cs,h1,h2,h3⟩:=h
 exact ⟨cs,h1.mono hx.cell,h2,h3.ext hx⟩
theorem IQ.ext {t:Ty} {x:t.D} {off:Nat} {v:Value} (hx:Ext ok ok' g g' σ σ' w w') (h:IQ ok w t x off v):IQ ok' w' t x off v:=by
 obtain ⟨b,o,ys,hv,hr,hc⟩:=h
 refine ⟨b,o,ys,hv,hr.mono hx.cell,fun j u hj=>?_⟩
 obtain ⟨h1,h2⟩:=hc j u hj
 obtain ⟨h3,h4⟩:=hx.cell _ _ h1
 exact ⟨h3,h4.trans h2⟩
theorem IQ.mono (hm:∀ b o,ok b o→ok' b o) {t:Ty} {x:t.D} {off:Nat} {v:Value} (h:IQ ok w t x off v):IQ ok' w t x off v:=by
 obtain ⟨b,o,ys,h1,h2,h3⟩:=h
 exact ⟨b,o,ys,h1,h2.mono fun b o hk=>⟨hm b o hk,rfl⟩,fun j u hj=>⟨hm _ _ (h3 j u hj).1,(h3 j u hj).2⟩⟩
theorem N4.ext {id sz n:Nat} {v:Value} (h:N4 g w id sz n v) (h6:∀ b f,g.bx id=some (b,f)→∃ f',g'.bx id=some (b,f')) (h8:g.bx id=none→g'.bx id=none)
  (h9:∀ b f cur T y,g.bx id=some (b,f)→w.heap[b]? = some (.cells cur T y)→∃ cur' y',w'.heap[b]? = some (.cells cur' T y')∧cur'.size=cur.size):N4 g' w' id sz n v:=by
 rcases h with ⟨h1,h2⟩ | ⟨b,f,cap,cur,T,y,hb,hh,hs,rest⟩
 ·exact .inl ⟨h8 h1,h2⟩
 ·obtain ⟨f',Ff⟩:=h6 b f hb
  obtain ⟨cur',y',DS,Ev⟩:=h9 b f cur T y hb hh
  exact .inr ⟨b,f',cap,cur',T,y',Ff,DS,Ev.trans hs,rest⟩
theorem N4.get {id sz n:Nat} {v:Value} (h:N4 g w id sz n v) (hn:0<n):∃ b f cap,g.bx id=some (b,f)∧n≤cap∧cap≤maxLen∧v = .slice (some ⟨b,0,none⟩) n cap:=by
 rcases h with ⟨_,h0,_⟩ | ⟨b,f,cap,cur,T,y,hb,_,_,h1,h2,h3⟩
 ·omega
 ·exact ⟨b,f,cap,hb,h1,h2,h3⟩
theorem N4.form {id sz n:Nat} {v:Value} (h:N4 g w id sz n v):∃ p cap,v = .slice p n cap∧n≤cap∧cap≤maxLen∧(0<n→∃ b f,g.bx id=some (b,f)∧p=some ⟨b,0,none⟩)∧∀ a,p=some a→a.spot=none:=by
 rcases h with ⟨_,rfl,rfl⟩ | ⟨b,f,cap,cur,T,y,hb,_,_,h1,h2,rfl⟩
 ·exact ⟨none,0,rfl,Ah _,Nat.zero_le _,fun h=>by omega,fun a h=>by cases h⟩
 ·exact ⟨_,cap,rfl,h1,h2,fun _=>⟨b,f,hb,rfl⟩,fun a h=>by cases h;rfl⟩
theorem RepA.ext {a:AV} {v:Value} (hx:Ext ok ok' g g' σ σ' w w') (h:RepA ok g σ w a v):RepA ok' g' σ' w' a v:=by
 cases a with
 | undef=>trivial
 | none=>exact h
 | dat t x gs=>exact Qt.ext hx h
 | nils=>exact h
 | ptr id ver off=>exact Ob.ext hx h
 | aptr id ver i off=>
  obtain ⟨h1,h2⟩:=h
  obtain ⟨h3,h4⟩:=hx.box id ver h1
  refine ⟨h3,fun he=>?_⟩
  obtain ⟨h5,h6,h7,_⟩:=h4 he
  obtain ⟨b,f,e,l,fz,hb,hc,hi,hv⟩:=h2 h5
  obtain ⟨f',Ff⟩:=h6 b f hb
  obtain ⟨l',fz',CP,GS⟩:=h7 e l fz hc
  exact ⟨b,f',e,l',fz',Ff,CP,by rw [GS];exact hi,hv⟩
 | ept t x off=>exact IQ.ext hx h
 | slw id ver=>
  obtain ⟨h1,h2⟩:=h
  obtain ⟨h3,h4⟩:=hx.box id ver h1
  refine ⟨h3,fun he=>?_⟩
  obtain ⟨h5,h6,h7,h8,h9⟩:=h4 he
  obtain ⟨e,l,fz,hc,hv⟩:=h2 h5
  obtain ⟨l',fz',CP,GS⟩:=h7 e l fz hc
  exact ⟨e,l',fz',CP,by rw [GS];exact hv.ext h6 h8 fun b f cur T y=>h9 b f cur T y ⟨e,l,fz,hc⟩⟩
 | slm id ver lo n=>
  obtain ⟨h1,h2⟩:=h
  obtain ⟨h3,h4⟩:=hx.box id ver h1
  refine ⟨h3,fun he=>?_⟩
  obtain ⟨h5,h6,h7,_⟩:=h4 he
  obtain ⟨e,l,fz,A,cap,hc,hl,cy,h11,h12,rest⟩:=h2 h5
  obtain ⟨l',fz',CP,GS⟩:=h7 e l fz hc
  refine ⟨e,l',fz',A,cap,CP,by rw [GS];exact hl,cy,h11,fun hn=>?_,rest⟩
  obtain ⟨b,f,hb,hA⟩:=h12 hn
  obtain ⟨f',Ff⟩:=h6 b f hb
  exact ⟨b,f',Ff,hA⟩
 | fn f caps=>
  obtain ⟨vs,hv,hf⟩:=h
  exact ⟨vs,hv,hf.imp fun _ _ hp=>hp.ext hx⟩
 | clo f ps=>
  obtain ⟨vs,hv,hf⟩:=h
  exact ⟨vs,hv,hf.imp fun _ _ hp=>hp.ext hx⟩
 | iov t x gs=>exact h
 | ioa e l=>exact h
 | bxv e l=>exact h
 | slp k n=>exact h
 | tup ds=>
  obtain ⟨vs,hv,hf⟩:=h
  exact ⟨vs,hv,hf.imp fun _ _ hp=>hp.ext hx⟩
theorem ConOk.ext {b:Nat} {f:Bool} {c:Con} (hx:Ext ok ok' g g' σ σ' w w') (hb:w'.heap[b]? = w.heap[b]?) (h:ConOk ok g σ w b f c):ConOk ok' g' σ' w' b f c:=by
 cases c with
 | var t x gs=>
  obtain ⟨hf,cs,T,h1,h2,hs,h3⟩:=h
  exact ⟨hf,cs,T,hb.trans h1,h2.mono hx.cell,hs,h3.ext hx⟩
 | arr e l fz=>
  obtain ⟨hf,cur,T,y,h1,hy,h2,hm,h3⟩:=h
  refine ⟨hf,cur,T,y,hb.trans h1,hy,h2,hm,fun i x hi=>?_⟩
  obtain ⟨ys,h4,h5⟩:=h3 i x hi
  exact ⟨ys,h4.mono hx.cell,h5⟩
 | val a=>
  obtain ⟨hf,v,T,h1,h2⟩:=h
  exact ⟨hf,v,T,hb.trans h1,h2.ext hx⟩
end
section
variable {B : Bd} {ok0 : Nat → Nat → Prop} {w0 w w' : World} {g g' : G} {σ σ' : St} {a a' : Act}
theorem Inv.okB (h:Inv B ok0 w0 g σ a w) {b o:Nat} (hk:okG B ok0 g w b o):b<w.heap.size:=by
 rcases hk with hk | ⟨_,hk,_⟩
 ·have:=(h.h0 b o hk).1;have:=h.below.size;have:=h.hB;omega
 ·exact hk
theorem Inv.Yj1 (h:Inv B ok0 w0 g σ a w):∃ z,Lay.ok z w∧(∀ b,(B.n≤b∨b∈B.io)→z≤b)∧∀ b,B.own b→z≤b:=by
 obtain ⟨z,h1,h2,h3⟩:=h.lay
 have hz:=Lay.lt z w0 h1
 refine ⟨z,Lay.keep z w0 w h1 h.below.size (fun k hk=>h.below.block k (by rw [h.hB];omega) (fun hm=>by have:=h2 k hm;omega) fun u hm=>by have:=h3 k u hm;omega),fun b hb=>?_,fun b hb=>?_⟩
 ·rcases hb with h3 | h3
  ·rw [h.hB] at h3;omega
  ·exact h2 b h3
 ·rcases hb with h4 | ⟨u,h4⟩
  ·rw [h.hB] at h4;omega
  ·exact h3 b u h4
theorem Ext.LB (h:Inv B ok0 w0 g σ a w) (hb:Below w.heap.size w w'):Ext (okG B ok0 g w) (okG B ok0 g w') g g σ σ w w' where
 cell:=fun b o hk=>by
  have AO:=h.okB hk
  refine ⟨?_,hb.cell (p:=⟨b,o,none⟩) AO⟩
  rcases hk with hk | ⟨h1,h2,h3⟩
  ·exact .inl hk
  ·exact .inr ⟨h1,Nat.lt_of_lt_of_le h2 hb.size,h3⟩
 box:=fun id ver hv=>⟨hv,fun he=>⟨he,fun b f CD=>⟨f,CD⟩,fun e l fz hc=>⟨l,fz,hc,rfl⟩,fun hn=>hn,fun b f cur T y _ CD hh=>⟨cur,y,(hb.block b (h.bb id b f CD).2).trans hh,rfl⟩⟩⟩
 row:=fun id ver _ hv=>⟨hv,fun he=>⟨he,fun b u PO=>⟨PO,hb.block b (h.rb id b u PO).2.1⟩⟩⟩
theorem Inv.grown (h:Inv B ok0 w0 g σ a w) (hb:Below w.heap.size w w'):Inv B ok0 w0 g σ a w' where
 below:=h.below.Zyn (hb.mono (by have:=h.below.size;have:=h.hB;omega))
 hB:=h.hB
 h0:=h.h0
 hR:=h.hR
 defers:=h.defers
 lay:=h.lay
 tm:=h.tm
 nm:=h.nm
 bb:=fun id b f CD=>⟨(h.bb id b f CD).1,Nat.lt_of_lt_of_le (h.bb id b f CD).2 hb.size⟩
 bi:=h.bi
 rb:=fun id b u PO=>⟨(h.rb id b u PO).1,Nat.lt_of_lt_of_le (h.rb id b u PO).2.1 hb.size,(h.rb id b u PO).2.2⟩
 ri:=h.ri
 con:=fun id c hc=>by
  rcases h.con id c hc with hn | ⟨b,f,CD,hk⟩
  ·exact .inl hn
  exact .inr ⟨b,f,CD,hk.ext (Ext.LB h hb) (hb.block b (h.bb id b f CD).2)⟩
 slots:=fun t=>(h.slots t).ext (Ext.LB h hb)
theorem Inv.mg (h:Inv B ok0 w0 g σ a w) {id:Nat} {c:Con} (hc:σ.c id=some c) (hn:∀ e l fz,c≠ .arr e l fz):∃ b f,g.bx id=some (b,f)∧ConOk (okG B ok0 g w) g σ w b f c:=by
 rcases h.con id c hc with ⟨_,e,fz,rfl⟩ | h
 ·exact absurd rfl (hn _ _ _)
 ·exact h
theorem Inv.Hj (h:Inv B ok0 w0 g σ a w) {id b:Nat} {f:Bool} {c:Con} (hb:g.bx id=some (b,f)) (hc:σ.c id=some c):ConOk (okG B ok0 g w) g σ w b f c:=by
 rcases h.con id c hc with ⟨hn,_⟩ | ⟨b',f',Ff,hk⟩
 ·rw [hb] at hn;cases hn
 ·rw [hb] at Ff;cases Ff;exact hk
theorem Zi6 {xs:Array Value} {d t:Nat} {v:Value} (hd:d<xs.size):(xs.setIfInBounds d v).getD t undef=if t=d then v else xs.getD t undef:=by
 by_cases h:t=d
 ·subst h;simp [Array.getD_eq_getD_getElem?,hd]
 ·rw [if_neg h];simp [Array.getD_eq_getD_getElem?,Array.getElem?_setIfInBounds_ne (Ne.symm h)]
theorem BD {α:Type} (f:Nat→α) (k:Nat) (x:α) (i:Nat):Ed f k x i=if i=k then x else f i:=by
 unfold Ed
 by_cases h:i=k
 ·subst h;simp
 ·have:Nat.beq i k=false:=by rw [Bool.eq_false_iff];intro e;exact h (Nat.eq_of_beq_eq_true e)
  simp [this,h]
theorem Inv.put (h:Inv B ok0 w0 g σ a w) {dst:Option Nat} {av:AV} {v:Value} (hv:RepA (okG B ok0 g w) g σ w av v) (hd:∀ d,dst=some d→d<a.tmps.size):
    Inv B ok0 w0 g (σ.BJ dst av) (a.put dst v) w:=by
  cases dst with
  | none=>exact h
  | some d=>
    exact { below := h.below, hB := h.hB, h0 := h.h0, hR := h.hR, defers := h.defers, lay := h.lay, tm := by show (a.tmps.setIfInBounds d v).size ≤ pid0; rw [Array.size_setIfInBounds]; exact h.tm, nm := h.nm, bb := h.bb, bi := h.bi, rb := h.rb, ri := h.ri, con := h.con,
            slots:=fun t=>by
              show RepA _ g _ w (Ed σ.t d av t) ((a.tmps.setIfInBounds d v).getD t undef)
              rw [Zi6 (hd d rfl),BD]
              by_cases ht:t=d
              · rw [if_pos ht,if_pos ht];exact hv
              · rw [if_neg ht,if_neg ht];exact h.slots t }
end
end Go.AM
end
