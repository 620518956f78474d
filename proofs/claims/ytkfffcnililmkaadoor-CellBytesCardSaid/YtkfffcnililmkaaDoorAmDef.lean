/- The abstract machine: typed data, states, and an evaluator of the model's Code with values in place of memory. Definitions alone. -/
import Derived.Calls
import Derived.Orders
import Derived.Below
import Derived.KernelRfl
namespace Go.AM

/-- Kinds of plain data. -/
inductive Ty where
  | int (k : IntKind) | bool | str | sl (e : Ty) | wrap (a : Ty) | pair (a b : Ty)
  | arr (m : Nat) (e : Ty)   -- an array of m + 1
  deriving DecidableEq, Inhabited

@[reducible] def Ty.D : Ty → Type
  | .int _ => Int
  | .bool => Bool
  | .str => ByteArray
  | .sl e => List e.D
  | .wrap a => a.D
  | .pair a b => a.D × b.D
  | .arr _ e => List e.D

def Ty.zero : (t : Ty) → t.D
  | .int _ => (0 : Int)
  | .bool => false
  | .str => (⟨#[]⟩ : ByteArray)
  | .sl _ => []
  | .wrap a => a.zero
  | .pair a b => (a.zero, b.zero)
  | .arr m e => List.replicate (m + 1) e.zero

/-- How many cells. -/
def Ty.sz : Ty → Nat
  | .pair a b => a.sz + b.sz
  | .wrap a => a.sz
  | .arr m e => (m + 1) * e.sz
  | _ => 1

def Ty.isAgg : Ty → Bool
  | .pair .. | .wrap _ | .arr .. => true
  | _ => false

def cast? {t : Ty} (u : Ty) (x : t.D) : Option u.D := if h : t = u then some (h ▸ x) else none

/-- The part of kind u that begins at cell 'off'. -/
def sub (u : Ty) : (t : Ty) → t.D → Nat → Option u.D
  | .pair a b, x, off =>
    if off = 0 ∧ Ty.pair a b = u then cast? (t := .pair a b) u x
    else if off < a.sz then sub u a x.1 off else sub u b x.2 (off - a.sz)
  | .wrap a, x, off => if off = 0 ∧ Ty.wrap a = u then cast? (t := .wrap a) u x else sub u a x off
  | .int k, x, off => if off = 0 then cast? (t := .int k) u x else none
  | .bool, x, off => if off = 0 then cast? (t := .bool) u x else none
  | .str, x, off => if off = 0 then cast? (t := .str) u x else none
  | .sl e, x, off => if off = 0 then cast? (t := .sl e) u x else none
  | .arr m e, x, off => if off = 0 then cast? (t := .arr m e) u x else none

def upd (u : Ty) (y : u.D) : (t : Ty) → t.D → Nat → Option t.D
  | .pair a b, x, off =>
    if off = 0 ∧ u = Ty.pair a b then cast? (.pair a b) y
    else if off < a.sz then (upd u y a x.1 off).map fun z => (z, x.2) else (upd u y b x.2 (off - a.sz)).map fun z => (x.1, z)
  | .wrap a, x, off => if off = 0 ∧ u = Ty.wrap a then cast? (.wrap a) y else upd u y a x off
  | .int k, _, off => if off = 0 then cast? (.int k) y else none
  | .bool, _, off => if off = 0 then cast? .bool y else none
  | .str, _, off => if off = 0 then cast? .str y else none
  | .sl e, _, off => if off = 0 then cast? (.sl e) y else none
  | .arr m e, _, off => if off = 0 then cast? (.arr m e) y else none

/-- Who may append in place to the slice at cell 'off': row 'id' as it stood at version 'ver'; id 0: the slice is nil. -/
structure Tag where
  off : Nat
  id : Nat
  ver : Nat
  sz : Nat   -- cells of an element

def gsub (g : List Tag) (off sz : Nat) : List Tag :=
  g.filterMap fun t => if off ≤ t.off ∧ t.off < off + sz then some { t with off := t.off - off } else none

def gupd (g : List Tag) (off sz : Nat) (h : List Tag) : List Tag :=
  (g.filter fun t => !(decide (off ≤ t.off) && decide (t.off < off + sz))) ++ h.map fun t => { t with off := t.off + off }

/-- Of a zero value: its slices are nil. -/
def ztags : Ty → Nat → List Tag
  | .sl e, o => [⟨o, 0, 0, e.sz⟩]
  | .wrap a, o => ztags a o
  | .pair a b, o => ztags a o ++ ztags b (o + a.sz)
  | _, _ => []

structure Dat where
  t : Ty
  x : t.D
  g : List Tag

/-- Abstract values. -/
inductive AV where
  | undef
  | none                                  -- the model's 'no value': what an operation leaves that was not wanted
  | dat (t : Ty) (x : t.D) (g : List Tag)
  | nils                                  -- a nil slice, its kind not told
  | ptr (id ver off : Nat)                -- into a variable's box
  | aptr (id ver i off : Nat)             -- into element i of a box that holds a row
  | ept (t : Ty) (x : t.D) (off : Nat)    -- into what is never written
  | slw (id ver : Nat)                    -- a slice of a box's whole row
  | slm (id ver lo n : Nat)               -- a slice of a part of it
  | fn (f : Nat) (caps : List Dat)         -- a function, and what the variables hold that it captured
  | clo (f : Nat) (ps : List (Nat × Nat))   -- a function that captured variables' boxes: names, versions
  | iov (t : Ty) (x : t.D)                -- a variable that is handed over to be written
  | tup (ds : List Dat)
  deriving Inhabited

/-- What a box holds. -/
inductive Con where
  | var (t : Ty) (x : t.D) (g : List Tag)
  | arr (e : Ty) (l : List e.D) (frz : Bool)
  | val (v : AV)

structure St where
  t : Nat → AV
  c : Nat → Option Con
  v : Nat → Nat
  r : Nat → Nat

def fset {α : Type} (f : Nat → α) (k : Nat) (a : α) : Nat → α := fun i => bif Nat.beq i k then a else f i

def St.setT (σ : St) (d : Option Nat) (a : AV) : St :=
  match d with
  | some d => { σ with t := fset σ.t d a }
  | Option.none => σ

/-- A new box under the name id. -/
def St.newBox (σ : St) (id : Nat) (c : Con) : St := { σ with c := fset σ.c id (some c), v := fset σ.v id (σ.v id + 1) }
def St.setBox (σ : St) (id : Nat) (c : Con) : St := { σ with c := fset σ.c id (some c) }
def St.bump (σ : St) (id : Nat) : St := { σ with r := fset σ.r id (σ.r id + 1) }

/-- Rows are named after the slot that was written when they were made. -/
def rid (d j : Nat) : Nat := d * 64 + j + 1

/-- The part that is read, as data of kind u. -/
def AV.as (u : Ty) : AV → Option u.D
  | .dat t x _ => cast? (t := t) u x
  | .nils => match u with
    | .sl _ => some []
    | _ => Option.none
  | _ => Option.none

/-- The marks of a value that is taken as data of kind u. -/
def AV.tags (u : Ty) : AV → List Tag
  | .dat _ _ g => g
  | .nils => match u with
    | .sl e => [⟨0, 0, 0, e.sz⟩]
    | _ => []
  | _ => []

/-- What a call of a function whose contract is known answers. -/
structure CallRes where
  α : Type
  m : Option α
  enc : α → AV
  io : α → List Dat   -- what the variables hold then that were handed over

abbrev Spec := List AV → Option CallRes

/-! Signatures. -/
/-- A parameter: plain data, a variable that is only read, a function that captured such. -/
inductive PK where
  | val (t : Ty) | ref (t : Ty) | fn (f : Nat) (ts : List Ty) | io (t : Ty)

@[reducible] def CapsD : List Ty → Type
  | [] => Unit
  | a :: r => a.D × CapsD r

@[reducible] def PK.D : PK → Type
  | .val t => t.D
  | .ref t => t.D
  | .fn _ ts => CapsD ts
  | .io t => t.D

@[reducible] def ArgsD : List PK → Type
  | [] => Unit
  | a :: r => a.D × ArgsD r

def decCaps : (ts : List Ty) → List Dat → Option (CapsD ts)
  | [], [] => some ()
  | t :: ts, d :: ds => match cast? (t := d.t) t d.x with
    | some x => match decCaps ts ds with
      | some y => some (x, y)
      | Option.none => Option.none
    | Option.none => Option.none
  | _, _ => Option.none

def encCaps : (ts : List Ty) → CapsD ts → List Dat
  | [], _ => []
  | t :: ts, x => ⟨t, x.1, []⟩ :: encCaps ts x.2

def decArg : (p : PK) → AV → Option p.D
  | .val t, x => x.as t
  | .ref t, .ept u x 0 => cast? (t := u) t x
  | .fn f ts, .fn g ds => if g = f then decCaps ts ds else Option.none
  | .io t, .iov u x => cast? (t := u) t x
  | _, _ => Option.none

/-- The names of boxes that were handed over: from here on. -/
def pid0 : Nat := 1000000

def encArg (i : Nat) : (p : PK) → p.D → AV
  | .val t, x => .dat t x []
  | .ref t, x => .ept t x 0
  | .fn f ts, x => .fn f (encCaps ts x)
  | .io _, _ => .ptr (pid0 + i) 0 0

def encBox : (p : PK) → p.D → Option Con
  | .io t, x => some (.var t x [])
  | _, _ => Option.none

def decArgs : (ps : List PK) → List AV → Option (ArgsD ps)
  | [], [] => some ()
  | a :: r, x :: l => match decArg a x with
    | some y => match decArgs r l with
      | some z => some (y, z)
      | Option.none => Option.none
    | Option.none => Option.none
  | _, _ => Option.none

@[reducible] def ResD : List (Ty × List Tag) → Type
  | [] => Unit
  | [a] => a.1.D
  | a :: b :: r => a.1.D × ResD (b :: r)

def encDs : (rs : List (Ty × List Tag)) → ResD rs → List Dat
  | [], _ => []
  | [a], x => [⟨a.1, x, a.2⟩]
  | a :: b :: r, x => ⟨a.1, x.1, a.2⟩ :: encDs (b :: r) x.2

def encTo : List Dat → AV
  | [d] => .dat d.t d.x d.g
  | ds => .tup ds

def encRes (rs : List (Ty × List Tag)) (x : ResD rs) : AV := encTo (encDs rs x)

def spec (ps : List PK) (rs : List (Ty × List Tag)) (f : ArgsD ps → Option (ResD rs)) : Spec := fun l =>
  match decArgs ps l with
  | some a => some ⟨ResD rs, f a, encRes rs, fun _ => []⟩
  | Option.none => Option.none

/-- n results; behind them what the variables hold then that were handed over. -/
def specIo (n : Nat) (ps : List PK) (rs : List (Ty × List Tag)) (f : ArgsD ps → Option (ResD rs)) : Spec := fun l =>
  match decArgs ps l with
  | some a => some ⟨ResD rs, f a, fun x => encTo ((encDs rs x).take n), fun x => (encDs rs x).drop n⟩
  | Option.none => Option.none

/-- What is kept where ways meet: slots and boxes; do their slices stay appendable? -/
structure Keep where
  t : List (Nat × Bool)
  c : List (Nat × Bool)

structure Env where
  ty : Nat → Option Ty
  fo : Nat → Nat → Option (Nat × Ty)
  pl : Nat → Nat → Option (Nat × Ty)
  ar : Nat → Option (Nat × Ty)
  by_ : Nat → Nat
  eq : Nat → Option Ty
  call : Nat → Option Spec
  loop : Nat → Keep
  blk : Nat → Option Keep
  cut : Nat → Option Keep
  ret : Keep
  bx : Nat → Bool   -- slots whose slices are made as boxes, whose closures capture boxes
  lend : Nat → Bool -- functions that hand back nothing of what they are handed: rows stay the caller's

def opd (σ : St) : Operand → AV
  | .tmp t => σ.t t
  | .const (.int k n) => .dat (.int k) n []
  | .const (.bool b) => .dat .bool b []
  | .const (.string s) => .dat .str s []
  | .const (.slice Option.none 0 0) => .nils
  | .func f => .fn f []
  | _ => .undef

def coe (E : Env) (T : Nat) (a : AV) : AV :=
  match a with
  | .nils => match E.ty T with
    | some (.sl e) => .dat (.sl e) [] [⟨0, 0, 0, e.sz⟩]
    | _ => .undef
  | a => a

inductive Step : Type 1 where
  | no
  | go (c : Bool) (σ : St)
  | call (α : Type) (m : Option α) (k : α → St)

def put (o : Oper) (σ : St) (a : AV) : Step := .go true (σ.setT o.dst a)
def chk (o : Oper) (c : Bool) (σ : St) (a : AV) : Step := .go c (σ.setT o.dst a)

/-! Numbers and strings, by name. -/
def addI (k : IntKind) (a b : Int) : Int := k.wrap (a + b)
def subI (k : IntKind) (a b : Int) : Int := k.wrap (a - b)
def mulI (k : IntKind) (a b : Int) : Int := k.wrap (a * b)
def quoI (k : IntKind) (a b : Int) : Int := k.wrap (a.tdiv b)
def remI (a b : Int) : Int := a.tmod b
def andI (k : IntKind) (a b : Int) : Int := k.wrap (BitVec.ofInt k.bits a &&& BitVec.ofInt k.bits b).toNat
def orI (k : IntKind) (a b : Int) : Int := k.wrap (BitVec.ofInt k.bits a ||| BitVec.ofInt k.bits b).toNat
def xorI (k : IntKind) (a b : Int) : Int := k.wrap (BitVec.ofInt k.bits a ^^^ BitVec.ofInt k.bits b).toNat
def anotI (k : IntKind) (a b : Int) : Int := k.wrap (BitVec.ofInt k.bits a &&& ~~~BitVec.ofInt k.bits b).toNat
def shlI (k : IntKind) (x y : Int) : Int := k.wrap (x * 2 ^ (min y.toNat k.bits))
def shrI (k : IntKind) (x y : Int) : Int := x.fdiv (2 ^ (min y.toNat k.bits))
def eqI (a b : Int) : Bool := a == b
def neI (a b : Int) : Bool := a != b
def ltI (a b : Int) : Bool := decide (a < b)
def leI (a b : Int) : Bool := decide (a ≤ b)
def eqS (a b : ByteArray) : Bool := a.toList == b.toList
def ltS (a b : ByteArray) : Bool := Op.bytesLess a.toList b.toList
def maxI (x y : Int) : Int := if y > x then y else x
def minI (x y : Int) : Int := if y < x then y else x
def lenS (s : ByteArray) : Int := (s.size : Int)
def lenL {α : Type} (l : List α) : Int := (l.length : Int)
def cutS (s : ByteArray) (lo hi : Int) : ByteArray := s.extract lo.toNat hi.toNat
def byteAt (s : ByteArray) (i : Int) : Int := ((s.data.toList.getD i.toNat 0).toNat : Int)
def addS (a b : ByteArray) : ByteArray := a ++ b
def ofBytes (l : List Int) : ByteArray := ⟨(l.map fun n => UInt8.ofNat n.toNat).toArray⟩
def toBytes (s : ByteArray) : List Int := s.data.toList.map fun b => (b.toNat : Int)
def inB (i n : Int) : Bool := decide (0 ≤ i) && decide (i < n)
def inC (lo hi n : Int) : Bool := decide (0 ≤ lo) && (decide (lo ≤ hi) && decide (hi ≤ n))
def at' {e : Ty} (l : List e.D) (i : Int) : e.D := l.getD i.toNat e.zero
/-- May so many elements of so many bytes be? -/
def roomB (n bytes : Nat) : Bool := decide (n * bytes ≤ 140737488355328)

/-- '==' of plain data. -/
def eqD : (t : Ty) → t.D → t.D → Bool
  | .int _, a, b => eqI a b
  | .bool, a, b => a == b
  | .str, a, b => eqS a b
  | .wrap a, x, y => eqD a x y
  | .pair a b, x, y => eqD a x.1 y.1 && eqD b x.2 y.2
  | .sl _, _, _ => false
  | .arr _ _, _, _ => false

def binInt (op : BinOp) (o : Oper) (σ : St) (k j : IntKind) (a b : Int) : Step :=
  match op with
  | .shl => chk o (leI 0 b) σ (.dat (.int k) (shlI k a b) [])
  | .shr => chk o (leI 0 b) σ (.dat (.int k) (shrI k a b) [])
  | op => if k = j then
      match op with
      | .add => put o σ (.dat (.int k) (addI k a b) [])
      | .sub => put o σ (.dat (.int k) (subI k a b) [])
      | .mul => put o σ (.dat (.int k) (mulI k a b) [])
      | .quo => chk o (neI b 0) σ (.dat (.int k) (quoI k a b) [])
      | .rem => chk o (neI b 0) σ (.dat (.int k) (remI a b) [])
      | .and => put o σ (.dat (.int k) (andI k a b) [])
      | .or => put o σ (.dat (.int k) (orI k a b) [])
      | .xor => put o σ (.dat (.int k) (xorI k a b) [])
      | .andNot => put o σ (.dat (.int k) (anotI k a b) [])
      | .eql => put o σ (.dat .bool (eqI a b) [])
      | .neq => put o σ (.dat .bool (neI a b) [])
      | .lss => put o σ (.dat .bool (ltI a b) [])
      | .leq => put o σ (.dat .bool (leI a b) [])
      | .gtr => put o σ (.dat .bool (ltI b a) [])
      | .geq => put o σ (.dat .bool (leI b a) [])
      | _ => .no
    else .no

def binStr (op : BinOp) (o : Oper) (σ : St) (a b : ByteArray) : Step :=
  match op with
  | .add => chk o (leI (lenS a + lenS b) 9223372036854775807) σ (.dat .str (addS a b) [])
  | .eql => put o σ (.dat .bool (eqS a b) [])
  | .neq => put o σ (.dat .bool (!eqS a b) [])
  | .lss => put o σ (.dat .bool (ltS a b) [])
  | .leq => put o σ (.dat .bool (ltS a b || eqS a b) [])
  | .gtr => put o σ (.dat .bool (!(ltS a b || eqS a b)) [])
  | .geq => put o σ (.dat .bool (!ltS a b) [])
  | _ => .no

def binOp' (E : Env) (T : Nat) (op : BinOp) (o : Oper) (σ : St) (x y : AV) : Step :=
  match x, y with
  | .dat t a _, .dat u b _ =>
    match t, a, u, b with
    | .int k, a, .int j, b => binInt op o σ k j a b
    | .str, a, .str, b => binStr op o σ a b
    | t, a, u, b => match E.eq T with
      | some e => match cast? (t := t) e a, cast? (t := u) e b with
        | some a, some b => match op with
          | .eql => put o σ (.dat .bool (eqD e a b) [])
          | .neq => put o σ (.dat .bool (!eqD e a b) [])
          | _ => .no
        | _, _ => .no
      | Option.none => .no
  | _, _ => .no

def unOp' (op : UnOp) (o : Oper) (σ : St) (x : AV) : Step :=
  match op, x with
  | .neg, .dat (.int k) a _ => put o σ (.dat (.int k) (subI k 0 a) [])
  | .xor, .dat (.int k) a _ => put o σ (.dat (.int k) (xorI k (if k.signed then -1 else k.max) a) [])
  | .not, .dat .bool b _ => put o σ (.dat .bool (!b) [])
  | _, _ => .no

/-- The list that a slice holds. -/
def content (σ : St) (e : Ty) : AV → Option (List e.D)
  | .dat t x _ => cast? (t := t) (.sl e) x
  | .nils => some []
  | .slw id ver => if σ.v id = ver then
      match σ.c id with
      | some (.arr e' l _) => cast? (t := .sl e') (.sl e) l
      | _ => Option.none
    else Option.none
  | .slm id ver lo n => if σ.v id = ver then
      match σ.c id with
      | some (.arr e' l _) => cast? (t := .sl e') (.sl e) ((l.drop lo).take n)
      | _ => Option.none
    else Option.none
  | _ => Option.none

def convert' (E : Env) (src dst : Nat) (o : Oper) (σ : St) (x : AV) : Step :=
  match E.ty src, E.ty dst with
  | some (.int _), some (.int k) => match x with
    | .dat (.int _) n _ => put o σ (.dat (.int k) (k.wrap n) [])
    | _ => .no
  | some .str, some .str => match x with
    | .dat .str s _ => put o σ (.dat .str s [])
    | _ => .no
  | some (.sl (.int .u8)), some .str => match content σ (.int .u8) x with
    | some l => put o σ (.dat .str (ofBytes l) [])
    | Option.none => .no
  | some .str, some (.sl (.int .u8)) => match x with
    | .dat .str s _ => chk o (roomB s.size 1) σ (.dat (.sl (.int .u8)) (toBytes s) [])
    | _ => .no
  | _, _ => .no

def bnd (σ : St) (d : Int) : Option Operand → Option Int
  | Option.none => some d
  | some x => match opd σ x with
    | .dat (.int _) n _ => some n
    | _ => Option.none

def slice' (E : Env) (T : Nat) (o : Oper) (σ : St) (x : AV) (lo hi : Option Operand) : Step :=
  match x with
  | .dat t x g => match t, x, E.ty T with
    | .str, s, some .str => match bnd σ 0 lo, bnd σ (lenS s) hi with
      | some l, some h => chk o (inC l h (lenS s)) σ (.dat .str (cutS s l h) [])
      | _, _ => .no
    | .sl e, s, some (.sl e') => if e.sz = e'.sz then match lo, hi with
      | Option.none, Option.none => put o σ (.dat (.sl e) s g)
      | some _, Option.none => match bnd σ 0 lo with
        | some l => chk o (inC l (lenL s) (lenL s)) σ (.dat (.sl e) (s.drop l.toNat) [])
        | _ => .no
      | Option.none, some _ => match bnd σ 0 hi with
        | some h => chk o (inC 0 h (lenL s)) σ (.dat (.sl e) (s.take h.toNat) [])
        | _ => .no
      | some _, some _ => match bnd σ 0 lo, bnd σ 0 hi with
        | some l, some h => chk o (inC l h (lenL s)) σ (.dat (.sl e) ((s.take h.toNat).drop l.toNat) [])
        | _, _ => .no
      else .no
    | _, _, _ => .no
  | .ptr id ver 0 => match E.ar T, σ.c id with
    | some (n, e), some (.arr e' s _) => if σ.v id = ver ∧ e.sz = e'.sz then
        match bnd σ 0 lo, bnd σ n hi with
        | some l, some h => chk o (inC l h n && decide (n = s.length)) σ (.slm id ver l.toNat (h.toNat - l.toNat))
        | _, _ => .no
      else .no
    | _, _ => .no
  | .slm id ver a n => match E.ty T, σ.c id with
    | some (.sl e), some (.arr e' _ _) => if σ.v id = ver ∧ e.sz = e'.sz then
        match bnd σ 0 lo, bnd σ n hi with
        | some l, some h => chk o (inC l h n) σ (.slm id ver (a + l.toNat) (h.toNat - l.toNat))
        | _, _ => .no
      else .no
    | _, _ => .no
  | .slw id ver => match E.ty T, σ.c id with
    | some (.sl e), some (.arr e' s _) => if σ.v id = ver ∧ e.sz = e'.sz then
        match bnd σ 0 lo, bnd σ (lenL s) hi with
        | some l, some h => chk o (inC l h (lenL s)) σ (.slm id ver l.toNat (h.toNat - l.toNat))
        | _, _ => .no
      else .no
    | _, _ => .no
  | _ => .no

def fieldAddr' (E : Env) (S f : Nat) (o : Oper) (σ : St) (x : AV) : Step :=
  match E.fo S f with
  | some (d, _) => match x with
    | .ptr id ver off => if σ.v id = ver then put o σ (.ptr id ver (off + d)) else .no
    | .aptr id ver i off => if σ.v id = ver then put o σ (.aptr id ver i (off + d)) else .no
    | .ept t x off => put o σ (.ept t x (off + d))
    | _ => .no
  | Option.none => .no

def field' (E : Env) (S f : Nat) (o : Oper) (σ : St) (x : AV) : Step :=
  match E.fo S f with
  | some (d, u) => match x with
    | .dat t x g => if t.isAgg then
        match sub u t x d with
        | some y => put o σ (.dat u y (gsub g d u.sz))
        | Option.none => .no
      else .no
    | _ => .no
  | Option.none => .no

def extract' (i : Nat) (o : Oper) (σ : St) (x : AV) : Step :=
  match x with
  | .tup ds => match ds[i]? with
    | some d => put o σ (.dat d.t d.x d.g)
    | Option.none => .no
  | _ => .no

def indexAddr' (E : Env) (T : Nat) (o : Oper) (σ : St) (x i : AV) : Step :=
  match i with
  | .dat (.int _) i _ => match x with
    | .dat (.sl e) l _ => match E.ty T with
      | some (.sl e') => if e.sz = e'.sz then chk o (inB i (lenL l)) σ (.ept e (at' l i) 0) else .no
      | _ => .no
    | .ptr id ver 0 => match E.ar T, σ.c id with
      | some (n, e), some (.arr e' l _) => if σ.v id = ver ∧ e.sz = e'.sz then chk o (inB i n && decide (n = l.length)) σ (.aptr id ver i.toNat 0) else .no
      | _, _ => .no
    | .slw id ver => match E.ty T, σ.c id with
      | some (.sl e), some (.arr e' l _) => if σ.v id = ver ∧ e.sz = e'.sz then chk o (inB i (lenL l)) σ (.aptr id ver i.toNat 0) else .no
      | _, _ => .no
    | .slm id ver lo n => match E.ty T, σ.c id with
      | some (.sl e), some (.arr e' _ _) => if σ.v id = ver ∧ e.sz = e'.sz then chk o (inB i n) σ (.aptr id ver (lo + i.toNat) 0) else .no
      | _, _ => .no
    | _ => .no
  | _ => .no

def index' (E : Env) (T : Nat) (o : Oper) (σ : St) (x i : AV) : Step :=
  match E.ty T, x, i with
  | some .str, .dat .str s _, .dat (.int _) i _ => chk o (inB i (lenS s)) σ (.dat (.int .u8) (byteAt s i) [])
  | _, _, _ => .no

/-- A captured variable's part. -/
def loadOne (E : Env) (T : Nat) (o : Oper) (σ : St) (e : Ty) (l : List e.D) (off : Nat) : Step :=
  match l with
  | [x] => match E.ty T with
    | some u => match sub u e x off with
      | some y => put o σ (.dat u y [])
      | Option.none => .no
    | Option.none => .no
  | _ => .no

/-- An array as a whole. -/
def loadArr (o : Oper) (σ : St) (m : Nat) (e' e : Ty) (l : List e.D) : Step :=
  match cast? (t := .sl e) (.sl e') l with
  | some l => chk o (decide (List.length (α := e'.D) l = m + 1)) σ (.dat (.arr m e') l [])
  | Option.none => .no

def load' (E : Env) (T : Nat) (o : Oper) (σ : St) (a : AV) : Step :=
  match a with
  | .ptr id ver off => if σ.v id = ver then
      match σ.c id with
      | some (.var t x g) => match E.ty T with
        | some u => match sub u t x off with
          | some y => put o σ (.dat u y (gsub g off u.sz))
          | Option.none => .no
        | Option.none => .no
      | some (.arr e l _) => match E.ty T with
        | some (.arr m e') => if off = 0 ∧ e' = e then loadArr o σ m e' e l else loadOne E T o σ e l off
        | _ => loadOne E T o σ e l off
      | _ => .no
    else .no
  | .aptr id ver i off => if σ.v id = ver then
      match σ.c id with
      | some (.arr e l _) => match E.ty T with
        | some u => match sub u e (l.getD i e.zero) off with
          | some y => put o σ (.dat u y [])
          | Option.none => .no
        | Option.none => .no
      | _ => .no
    else .no
  | .ept t x off => match E.ty T with
    | some u => match sub u t x off with
      | some y => put o σ (.dat u y [])
      | Option.none => .no
    | Option.none => .no
  | _ => .no

def store' (E : Env) (T : Nat) (o : Oper) (σ : St) (a x : AV) : Step :=
  match a with
  | .ptr id ver off => if σ.v id = ver then
      match σ.c id with
      | some (.var t z g) => match E.ty T with
        | some u => match x.as u with
          | some y => match upd u y t z off with
            | some z' => .go true ((σ.setBox id (.var t z' (gupd g off u.sz (x.tags u)))).setT o.dst .none)
            | Option.none => .no
          | Option.none => .no
        | Option.none => .no
      | some (.arr e l false) => match E.ty T with
        | some (.arr m e') => if off = 0 then
            match x.as (.arr m e') with
            | some y => match cast? (t := .sl e') (.sl e) y with
              | some y' => .go (decide (List.length (α := e.D) l = m + 1)) ((σ.setBox id (.arr e y' false)).setT o.dst .none)
              | Option.none => .no
            | Option.none => .no
          else .no
        | _ => .no
      | _ => .no
    else .no
  | .aptr id ver i off => if σ.v id = ver then
      match σ.c id with
      | some (.arr e l false) => match E.ty T with
        | some u => match x.as u with
          | some y => match upd u y e (l.getD i e.zero) off with
            | some z' => .go true ((σ.setBox id (.arr e (l.set i z') false)).setT o.dst .none)
            | Option.none => .no
          | Option.none => .no
        | Option.none => .no
      | _ => .no
    else .no
  | _ => .no

def alloc' (E : Env) (T : Nat) (o : Oper) (σ : St) : Step :=
  match o.dst with
  | some d => match E.ar T with
    | some (n, e) => .go true ((σ.newBox d (.arr e (List.replicate n e.zero) false)).setT o.dst (.ptr d (σ.v d + 1) 0))
    | Option.none => match E.ty T with
      | some t => .go true ((σ.newBox d (.var t t.zero (ztags t 0))).setT o.dst (.ptr d (σ.v d + 1) 0))
      | Option.none => .no
  | Option.none => .no

def boxTo (o : Oper) (σ : St) (d : Nat) : (t : Ty) → t.D → List Tag → Step
  | .arr _ e, l, _ => .go true ((σ.newBox d (.arr e l false)).setT o.dst (.ptr d (σ.v d + 1) 0))
  | t, y, g => .go true ((σ.newBox d (.var t y g)).setT o.dst (.ptr d (σ.v d + 1) 0))

def box' (E : Env) (T : Nat) (o : Oper) (σ : St) (x : AV) : Step :=
  match o.dst with
  | some d => match E.ty T with
    | some t => match x.as t with
      | some y => boxTo o σ d t y (x.tags t)
      | Option.none => .no
    | Option.none => .no
  | Option.none => .no

def build' (E : Env) (T : Nat) (σ : St) : (t : Ty) → List (Nat × Operand) → t.D → List Tag → Option (t.D × List Tag)
  | _, [], z, g => some (z, g)
  | t, (f, x) :: ps, z, g => match E.pl T f with
    | some (d, u) => match (opd σ x).as u with
      | some y => match upd u y t z d with
        | some z' => build' E T σ t ps z' (gupd g d u.sz ((opd σ x).tags u))
        | Option.none => Option.none
      | Option.none => Option.none
    | Option.none => Option.none

def lit' (σ : St) (e : Ty) : Nat → List (Nat × Operand) → Option (List e.D)
  | _, [] => some []
  | i, (j, x) :: ps => if j = i then
      match (opd σ x).as e with
      | some y => match lit' σ e (i + 1) ps with
        | some l => some (y :: l)
        | Option.none => Option.none
      | Option.none => Option.none
    else Option.none

def buildSlice' (E : Env) (T len : Nat) (parts : Array (Nat × Operand)) (o : Oper) (σ : St) : Step :=
  match o.dst, E.ty T with
  | some d, some (.sl e) => match lit' σ e 0 parts.toList with
    | some l => if parts.toList.length = len then .go (decide (len * e.sz ≤ 16777216) && true) ((σ.bump (rid d 0)).setT o.dst (.dat (.sl e) l [⟨0, rid d 0, σ.r (rid d 0) + 1, e.sz⟩])) else .no
    | Option.none => .no
  | _, _ => .no

def sameOpd : Operand → Operand → Bool
  | .tmp i, .tmp j => Nat.beq i j
  | .const (.int _ m), .const (.int _ n) => decide (m = n)
  | _, _ => false

def makeSlice' (E : Env) (T : Nat) (o : Oper) (σ : St) (x y : Operand) : Step :=
  match o.dst, E.ty T, opd σ x, opd σ y with
  | some d, some (.sl e), .dat (.int _) n _, .dat (.int _) m _ =>
    if sameOpd x y then .go (leI 0 n && roomB n.toNat (E.by_ T)) ((σ.newBox d (.arr e (List.replicate n.toNat e.zero) false)).setT o.dst (.slw d (σ.v d + 1)))
    else if n = 0 then
      bif E.bx d then .go (leI 0 m && roomB m.toNat (E.by_ T)) ((σ.newBox d (.arr e [] false)).setT o.dst (.slw d (σ.v d + 1)))
      else .go (leI 0 m && roomB m.toNat (E.by_ T)) ((σ.bump (rid d 0)).setT o.dst (.dat (.sl e) [] [⟨0, rid d 0, σ.r (rid d 0) + 1, e.sz⟩]))
    else .no
  | _, _, _, _ => .no

/-- What may be appended to in place, or is nil: the row's name. -/
def appTag (σ : St) (d sz : Nat) : List Tag → Option Nat
  | [] => Option.none
  | t :: ts => if t.off = 0 ∧ t.sz = sz then (if t.id = 0 then some (rid d 0) else if σ.r t.id = t.ver then some t.id else Option.none) else appTag σ d sz ts

/-- What is appended. -/
def appWhat (E : Env) (U : Nat) (σ : St) (e : Ty) (x : AV) : Option (List e.D) :=
  match E.ty U with
  | some (.sl _) => content σ e x
  | _ => Option.none

/-- An append to a box. -/
def appendB (E : Env) (T U : Nat) (o : Oper) (σ : St) (id ver : Nat) (x : AV) : Step :=
  match o.dst, E.ty T, σ.c id with
  | some _, some (.sl e), some (.arr e' l false) => if σ.v id = ver ∧ Nat.blt id pid0 = true then
      match cast? (t := .sl e') (.sl e) l, appWhat E U σ e x with
      | some l', some y => .go (roomB (List.length (α := e.D) l' + y.length) (E.by_ T)) ((σ.newBox id (.arr e (l' ++ y) false)).setT o.dst (.slw id (σ.v id + 1)))
      | _, _ => .no
    else .no
  | _, _, _ => .no

def append' (E : Env) (T U : Nat) (o : Oper) (σ : St) (s x : AV) : Step :=
  match o.dst, E.ty T with
  | some d, some (.sl e) => match s.as (.sl e) with
    | some l => match appTag σ d e.sz (s.tags (.sl e)) with
      | some id => match E.ty U with
        | some .str => match e, l with
          | .int .u8, l => match x with
            | .dat .str y _ => .go (roomB (l.length + y.size) (E.by_ T)) ((σ.bump id).setT o.dst (.dat (.sl (.int .u8)) (l ++ toBytes y) [⟨0, id, σ.r id + 1, 1⟩]))
            | _ => .no
          | _, _ => .no
        | some (.sl _) => match content σ e x with
          | some y => .go (roomB (l.length + y.length) (E.by_ T)) ((σ.bump id).setT o.dst (.dat (.sl e) (l ++ y) [⟨0, id, σ.r id + 1, e.sz⟩]))
          | Option.none => .no
        | _ => .no
      | Option.none => .no
    | Option.none => .no
  | _, _ => .no

def len' (t : Option Ty) (o : Oper) (σ : St) (x : AV) : Step :=
  match t with
  | some .str => match x with
    | .dat .str s _ => put o σ (.dat (.int .i64) (lenS s) [])
    | _ => .no
  | some (.sl _) => match x with
    | .dat (.sl _) l _ => put o σ (.dat (.int .i64) (lenL l) [])
    | .nils => put o σ (.dat (.int .i64) (0 : Int) [])
    | .slw id ver => if σ.v id = ver then
        match σ.c id with
        | some (.arr _ l _) => put o σ (.dat (.int .i64) (lenL l) [])
        | _ => .no
      else .no
    | .slm id ver _ n => if σ.v id = ver then put o σ (.dat (.int .i64) (n : Int) []) else .no
    | _ => .no
  | _ => .no

def fold2 (f : Int → Int → Int) (k : IntKind) : Int → List AV → Option Int
  | a, [] => some a
  | a, .dat (.int j) b _ :: r => if j = k then fold2 f k (f a b) r else Option.none
  | _, _ => Option.none

def minmax' (f : Int → Int → Int) (o : Oper) (σ : St) (xs : List AV) : Step :=
  match xs with
  | .dat (.int k) a _ :: r => match fold2 f k a r with
    | some n => put o σ (.dat (.int k) n [])
    | Option.none => .no
  | _ => .no

/-- An argument as plain data; a row that is handed over stays as it is from then on. -/
def arg' (E : Env) (T : Nat) (σ : St) (x : AV) : Option (AV × St) :=
  match x with
  | .dat t y _ => some (.dat t y [], σ)
  | .nils => match E.ty T with
    | some (.sl e) => some (.dat (.sl e) [] [], σ)
    | _ => Option.none
  | .slw id ver => if σ.v id = ver ∧ Nat.blt id pid0 = true then
      match σ.c id with
      | some (.arr e l _) => some (.dat (.sl e) l [], σ.setBox id (.arr e l true))
      | _ => Option.none
    else Option.none
  | .slm id ver lo n => if σ.v id = ver ∧ Nat.blt id pid0 = true then
      match σ.c id with
      | some (.arr e l _) => some (.dat (.sl e) ((l.drop lo).take n) [], σ.setBox id (.arr e l true))
      | _ => Option.none
    else Option.none
  | .fn f ds => some (.fn f ds, σ)
  | .ept t x 0 => some (.ept t x 0, σ)
  | .ptr id ver 0 => if σ.v id = ver then
      match σ.c id with
      | some (.var t x _) => some (.iov t x, σ)
      | _ => Option.none
    else Option.none
  | _ => Option.none

/-- The box that is handed over. -/
def ioId : AV → List Nat
  | .ptr id _ _ => [id]
  | _ => []

/-- Boxes that are variables, each told once. -/
def ioFree (σ : St) : List Nat → Bool
  | [] => true
  | id :: r => (match σ.c id with | some (.var ..) => true | _ => false) && (r.all fun j => !Nat.beq id j) && ioFree σ r

def setIos : List Nat → List Dat → St → St
  | id :: ids, d :: ds, σ => setIos ids ds (σ.setBox id (.var d.t d.x []))
  | _, _, σ => σ

/-- What a closure's boxes hold. -/
def cloA (σ : St) : List (Nat × Nat) → Option (List AV)
  | [] => some []
  | (id, ver) :: r => if σ.v id = ver then
      match σ.c id with
      | some (.var t x _) => match cloA σ r with
        | some l => some (.iov t x :: l)
        | Option.none => Option.none
      | _ => Option.none
    else Option.none

/-- A variable that is captured stays as it is from then on. -/
def cap' (σ : St) : AV → Option (Dat × St)
  | .ptr id ver 0 => if σ.v id = ver ∧ Nat.blt id pid0 = true then
      match σ.c id with
      | some (.var t x _) => some (⟨t, x, []⟩, σ.setBox id (.arr t [x] true))
      | some (.arr t [x] true) => some (⟨t, x, []⟩, σ)
      | _ => Option.none
    else Option.none
  | .ept t x 0 => some (⟨t, x, []⟩, σ)
  | _ => Option.none

def caps' : List Operand → St → Option (List Dat × St)
  | [], σ => some ([], σ)
  | x :: r, σ => match cap' σ (opd σ x) with
    | some (d, σ') => match caps' r σ' with
      | some (l, σ'') => some (d :: l, σ'')
      | Option.none => Option.none
    | Option.none => Option.none

/-- Variables that are captured, and may be written. -/
def capsB (σ : St) : List Operand → Option (List (Nat × Nat))
  | [] => some []
  | x :: r => match opd σ x with
    | .ptr id ver 0 => if σ.v id = ver then
        match capsB σ r with
        | some l => some ((id, ver) :: l)
        | Option.none => Option.none
      else Option.none
    | _ => Option.none

def capsA : List Dat → List AV
  | [] => []
  | d :: ds => .ept d.t d.x 0 :: capsA ds

def joinA : List AV → List AV → List AV
  | [], m => m
  | a :: l, m => a :: joinA l m

def args' (E : Env) : List (Operand × Nat) → St → Option (List AV × St)
  | [], σ => some ([], σ)
  | (x, T) :: r, σ => match arg' E T σ (opd σ x) with
    | some (a, σ') => match args' E r σ' with
      | some (l, σ'') => some (a :: l, σ'')
      | Option.none => Option.none
    | Option.none => Option.none

/-- A result's marks, named in the caller. -/
def impG (d : Nat) : List Tag → Nat → St → List Tag × Nat × St
  | [], j, σ => ([], j, σ)
  | t :: r, j, σ =>
    if t.id = 0 then let p := impG d r j σ; (t :: p.1, p.2)
    else let p := impG d r (j + 1) (σ.bump (rid d j)); (⟨t.off, rid d j, σ.r (rid d j) + 1, t.sz⟩ :: p.1, p.2)

def impD (d : Nat) : List Dat → Nat → St → List Dat × Nat × St
  | [], j, σ => ([], j, σ)
  | x :: r, j, σ => let p := impG d x.g j σ; let q := impD d r p.2.1 p.2.2; (⟨x.t, x.x, p.1⟩ :: q.1, q.2)

def imp (o : Oper) (σ : St) (a : AV) : St :=
  match o.dst with
  | Option.none => σ
  | some d => match a with
    | .dat t x g => let p := impG d g 0 σ; p.2.2.setT o.dst (.dat t x p.1)
    | .tup ds => let p := impD d ds 0 σ; p.2.2.setT o.dst (.tup p.1)
    | _ => σ.setT o.dst a

def argIds (σ : St) (xs : List Operand) : List Nat := xs.flatMap fun x => ioId (opd σ x)

/-- What is lent comes back as it was. -/
def lent (b : Bool) (σ σ' : St) : St := bif b then σ else σ'

/-- Words alone, no slices. -/
def wordT : Ty → Bool
  | .int _ | .bool | .str => true
  | .wrap a => wordT a
  | .pair a b => wordT a && wordT b
  | .arr _ e => wordT e
  | .sl _ => false

def wordA : AV → Bool
  | .dat t _ g => wordT t && g.isEmpty
  | .tup ds => ds.all fun d => wordT d.t && d.g.isEmpty
  | _ => false

/-- What such functions hand back. -/
def Words (s : Spec) : Prop := ∀ l r x, s l = some r → wordA (r.enc x) = true ∧ ∀ d ∈ r.io x, wordT d.t = true

def call' (E : Env) (c : Call) (o : Oper) (σ : St) : Step :=
  match c.callee with
  | .builtin b => match b, c.args.toList, c.argTypes.toList with
    | .len, [x], [T] => len' (E.ty T) o σ (opd σ x)
    | .append, [s, x], [T, U] => match opd σ s with
      | .slw id ver => appendB E T U o σ id ver (opd σ x)
      | s => append' E T U o σ s (opd σ x)
    | .min, xs, _ => minmax' minI o σ (xs.map (opd σ))
    | .max, xs, _ => minmax' maxI o σ (xs.map (opd σ))
    | _, _, _ => .no
  | .value f => match opd σ f with
    | .fn f ds => match E.call f with
      | some s => if c.args.toList.length = c.argTypes.toList.length then
        match args' E (c.args.toList.zip c.argTypes.toList) σ with
        | some (l, σ') => match s (joinA l (capsA ds)) with
          | some r => bif ioFree (lent (E.lend f) σ σ') (argIds σ c.args.toList) then .call r.α r.m (fun x => imp o (setIos (argIds σ c.args.toList) (r.io x) (lent (E.lend f) σ σ')) (r.enc x)) else .no
          | Option.none => .no
        | Option.none => .no
        else .no
      | Option.none => .no
    | .clo f ps => match E.call f with
      | some s => if c.args.toList.length = c.argTypes.toList.length then
        match args' E (c.args.toList.zip c.argTypes.toList) σ, cloA σ ps with
        | some (l, σ'), some cs => match s (joinA l cs) with
          | some r => bif ioFree (lent (E.lend f) σ σ') (argIds σ c.args.toList ++ ps.map (·.1)) then .call r.α r.m (fun x => imp o (setIos (argIds σ c.args.toList ++ ps.map (·.1)) (r.io x) (lent (E.lend f) σ σ')) (r.enc x)) else .no
          | Option.none => .no
        | _, _ => .no
        else .no
      | Option.none => .no
    | _ => .no
  | _ => .no

def bxAt (E : Env) : Option Nat → Bool
  | some d => E.bx d
  | Option.none => false

/-- A slot's value; nil may become a box. -/
def move' (E : Env) (o : Oper) (σ : St) (x : AV) : Step :=
  match x, o.dst with
  | .nils, some d => bif E.bx d then
      match E.ty o.type with
      | some (.sl e) => .go true ((σ.newBox d (.arr e [] false)).setT o.dst (.slw d (σ.v d + 1)))
      | _ => .no
    else put o σ (coe E o.type .nils)
  | x, _ => put o σ (coe E o.type x)

def evOp (E : Env) (σ : St) (o : Oper) : Step :=
  match o.op with
  | .move x => move' E o σ (opd σ x)
  | .assign x => move' E o σ (opd σ x)
  | .alloc T => alloc' E T o σ
  | .box T x => box' E T o σ (opd σ x)
  | .build T ps => match E.ty T with
    | some t => if t.isAgg = true then
        match build' E T σ t ps.toList t.zero (ztags t 0) with
        | some (z, g) => put o σ (.dat t z g)
        | Option.none => .no
      else .no
    | Option.none => .no
  | .buildSlice T n ps => buildSlice' E T n ps o σ
  | .load T a => load' E T o σ (opd σ a)
  | .store T a x => store' E T o σ (opd σ a) (opd σ x)
  | .nilCheck x => match opd σ x with
    | .ptr id ver off => if σ.v id = ver then put o σ (.ptr id ver off) else .no
    | .aptr id ver i off => if σ.v id = ver then put o σ (.aptr id ver i off) else .no
    | .ept t x off => put o σ (.ept t x off)
    | _ => .no
  | .binOp op T x y _ => binOp' E T op o σ (opd σ x) (opd σ y)
  | .unOp op _ x => unOp' op o σ (opd σ x)
  | .convert src dst x => convert' E src dst o σ (opd σ x)
  | .makeFunc (.func f) first caps =>
    if first.size = 0 then
      bif bxAt E o.dst then
        match capsB σ caps.toList with
        | some ps => put o σ (.clo f ps)
        | Option.none => .no
      else match caps' caps.toList σ with
      | some (ds, σ') => .go true (σ'.setT o.dst (.fn f ds))
      | Option.none => .no
    else .no
  | .makeSlice T n m => makeSlice' E T o σ n m
  | .slice T x lo hi Option.none => slice' E T o σ (opd σ x) lo hi
  | .fieldAddr S x f => fieldAddr' E S f o σ (opd σ x)
  | .field S x f => field' E S f o σ (opd σ x)
  | .indexAddr T x i => indexAddr' E T o σ (opd σ x) (opd σ i)
  | .index T x i => index' E T o σ (opd σ x) (opd σ i)
  | .extract x i => extract' i o σ (opd σ x)
  | .call c => call' E c o σ
  | _ => .no

/-! Regions. 'pick' parts the ways; so do guards. -/
section
variable {R : Type}

def Step.run (s : Step) (k : St → Option R) : Option R :=
  match s with
  | .no => Option.none
  | .go c σ => bif c then k σ else Option.none
  | .call _ m f => m.bind fun x => k (f x)

def evOne (E : Env) (σ : St) (o : Oper) (k : St → Option R) : Option R :=
  match o.op with
  | .pick c a b => match opd σ c with
    | .dat .bool t _ => bif t then k (σ.setT o.dst (opd σ a)) else k (σ.setT o.dst (opd σ b))
    | _ => Option.none
  | _ => (evOp E σ o).run k

def gslot (ops : Array Oper) (j : Nat) : Option Nat := (ops[j]?).bind (·.dst)

/-- One operation, if its guard wants it. -/
def evG (E : Env) (ops : Array Oper) (o : Oper) (σ : St) (k : St → Option R) : Option R :=
  match o.guard with
  | Option.none => evOne E σ o k
  | some (j, want) => match gslot ops j with
    | Option.none => k (σ.setT o.dst .none)
    | some s => match σ.t s with
      | .none => k (σ.setT o.dst .none)
      | .dat .bool b g =>
        bif b then
          bif want then evOne E (σ.setT (some s) (.dat .bool true g)) o k else k ((σ.setT (some s) (.dat .bool true g)).setT o.dst .none)
        else
          bif want then k ((σ.setT (some s) (.dat .bool false g)).setT o.dst .none) else evOne E (σ.setT (some s) (.dat .bool false g)) o k
      | _ => Option.none

def evOps (E : Env) (ops : Array Oper) : List Oper → St → (St → Option R) → Option R
  | [], σ, k => k σ
  | o :: r, σ, k => evG E ops o σ fun σ' => evOps E ops r σ' k

inductive Ex where
  | normal | exit (id : Nat) | ret
  deriving DecidableEq

/-! What a state is cut down to where ways meet. -/
def mkT (l : List (Nat × AV)) : Nat → AV := fun i => match l with
  | [] => .undef
  | (j, a) :: r => bif Nat.beq i j then a else mkT r i

def mkC (l : List (Nat × Option Con)) : Nat → Option Con := fun i => match l with
  | [] => Option.none
  | (j, a) :: r => bif Nat.beq i j then a else mkC r i

def mk (l : List (Nat × AV)) (c : List (Nat × Option Con)) : St := { t := mkT l, c := mkC c, v := fun _ => 0, r := fun _ => 0 }

/-- The marks that still hold, under the names of the place p. What has got a name: pairs of the new one and the old one. -/
def normG (σ : St) (p : Nat) : List Tag → List (Nat × Nat) → List Tag × List (Nat × Nat)
  | [], s => ([], s)
  | t :: r, s =>
    if s.all (fun z => !Nat.beq z.1 (rid p t.off)) && (Nat.beq t.id 0 || (Nat.beq (σ.r t.id) t.ver && s.all fun z => !Nat.beq z.2 t.id)) then
      let q := normG σ p r ((rid p t.off, t.id) :: s); (⟨t.off, rid p t.off, 0, t.sz⟩ :: q.1, q.2)
    else normG σ p r s

def keptBox (cs : List (Nat × Bool)) (σ : St) (id ver : Nat) : Bool := Nat.beq (σ.v id) ver && cs.any fun z => Nat.beq z.1 id

def normA (cs : List (Nat × Bool)) (σ : St) (p : Nat) (b : Bool) (s : List (Nat × Nat)) : AV → AV × List (Nat × Nat)
  | .dat t x g => if b then let q := normG σ p g s; (.dat t x q.1, q.2) else (.dat t x [], s)
  | .nils => (.nils, s)
  | .none => (.none, s)
  | .ptr id ver off => (if keptBox cs σ id ver then .ptr id 0 off else .undef, s)
  | .slw id ver => (if keptBox cs σ id ver then .slw id 0 else .undef, s)
  | .slm id ver lo n => (if keptBox cs σ id ver then .slm id 0 lo n else .undef, s)
  | .fn f ds => (.fn f ds, s)
  | .clo f ps => (if ps.all (fun p => keptBox cs σ p.1 p.2) then .clo f (ps.map fun p => (p.1, 0)) else .undef, s)
  | .ept t x off => (.ept t x off, s)
  | _ => (.undef, s)

def normC (σ : St) (p : Nat) (b : Bool) (s : List (Nat × Nat)) : Option Con → Option Con × List (Nat × Nat)
  | some (.var t x g) => if b then let q := normG σ (1000 + p) g s; (some (.var t x q.1), q.2) else (some (.var t x []), s)
  | some (.arr e l f) => (some (.arr e l f), s)
  | some (.val (.fn f [])) => (some (.val (.fn f [])), s)
  | _ => (Option.none, s)

def normTs (cs : List (Nat × Bool)) (σ : St) : List (Nat × Bool) → List (Nat × Nat) → List (Nat × AV) × List (Nat × Nat)
  | [], s => ([], s)
  | (i, b) :: r, s => let q := normA cs σ i b s (σ.t i); let z := normTs cs σ r q.2; ((i, q.1) :: z.1, z.2)

def normCs (σ : St) : List (Nat × Bool) → List (Nat × Nat) → List (Nat × Option Con) × List (Nat × Nat)
  | [], s => ([], s)
  | (i, b) :: r, s => let q := normC σ i b s (σ.c i); let z := normCs σ r q.2; ((i, q.1) :: z.1, z.2)

def norm (kp : Keep) (σ : St) : St :=
  let p := normTs kp.c σ kp.t []
  mk p.1 (normCs σ kp.c p.2).1

inductive Job where
  | loop (c : Code) | tail (c : Code)

abbrev K (R : Type) := Ex → St → Option R

def firstRegion : Code → Option Nat
  | .region id _ _ => some id
  | .seq a _ => firstRegion a
  | .block _ c => firstRegion c
  | .loop c => firstRegion c
  | _ => Option.none

def seqK (E : Env) (jb : Job → Nat → St → K R → Option R) (y : Code) (b : Nat) (ev : St → K R → Option R) (k : K R) : K R := fun e σ =>
  match e with
  | .normal => match (firstRegion y).bind E.cut with
    | some kp => jb (.tail y) b (norm kp σ) k
    | Option.none => ev σ k
  | e => k e σ

def blockK (id : Nat) (k : K R) : K R := fun e σ =>
  match e with
  | .exit id' => if id' = id then k .normal σ else k (.exit id') σ
  | e => k e σ

def loopK (kp : Keep) (again : St → Option R) (k : K R) : K R := fun e σ =>
  match e with
  | .normal => again (norm kp σ)
  | e => k e σ

def evC (E : Env) (jb : Job → Nat → St → K R → Option R) (dr : Array Oper → St → (St → Option R) → Option R) : Code → Nat → St → K R → Option R
  | .skip, _, σ, k => k .normal σ
  | .region _ ops false, _, σ, k => evOps E ops ops.toList σ (k .normal)
  | .region _ ops true, _, σ, k => dr ops σ (k .normal)
  | .seq x y, b, σ, k => evC E jb dr x b σ (seqK E jb y b (evC E jb dr y b) k)
  | .cond c x y, b, σ, k => match opd σ c with
    | .dat .bool t _ => bif t then evC E jb dr x b σ k else evC E jb dr y b σ k
    | _ => Option.none
  | .block id c, _, σ, k => evC E jb dr c id σ (blockK id k)
  | .loop c, b, σ, k => jb (.loop c) b (norm (E.loop b) σ) k
  | .exit id, _, σ, k => match E.blk id with
    | some kp => k (.exit id) (norm kp σ)
    | Option.none => k (.exit id) σ
  | .ret, _, σ, k => k .ret (norm E.ret σ)
  | _, _, _, _ => Option.none

def evJ (E : Env) (dr : Array Oper → St → (St → Option R) → Option R) : Nat → Job → Nat → St → K R → Option R
  | 0, _, _, _, _ => Option.none
  | n + 1, .loop c, b, σ, k => evC E (evJ E dr n) dr c b σ (loopK (E.loop b) (fun σ' => evJ E dr n (.loop c) b σ' k) k)
  | n + 1, .tail c, b, σ, k => evC E (evJ E dr n) dr c b σ k

end
end Go.AM
