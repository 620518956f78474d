import Derived.Test.YtlamhllcnbcbbaaGreatAmPLib
/- What a printed tree comes to: rules that part its ways. -/
namespace Go.AM.Pure
open Go.AM
variable {α β : Type}
def Ret (m : Option α) (p : α → Prop) : Prop := ∃ x, m = some x ∧ p x
theorem Ret.mono {m : Option α} {p q : α → Prop} (h : Ret m p) (k : ∀ x, p x → q x) : Ret m q := by
  obtain ⟨x, h1, h2⟩ := h
  exact ⟨x, h1, k x h2⟩
section
variable {p : α → Prop} {x y : Option α}
end
theorem Zt {i n : Int} (h : 0 ≤ i ∧ i < n) : inB i n = true := by rw [inB_d]; exact decide_eq_true h
theorem Zmc {a b n : Int} (h : 0 ≤ a ∧ a ≤ b ∧ b ≤ n) : inC a b n = true := by rw [inC_d]; exact decide_eq_true h
theorem lt_t {a b : Int} (h : a < b) : ltI a b = true := decide_eq_true h
theorem lt_f {a b : Int} (h : b ≤ a) : ltI a b = false := decide_eq_false (Int.not_lt.2 h)
theorem le_t {a b : Int} (h : a ≤ b) : leI a b = true := decide_eq_true h
theorem le_f {a b : Int} (h : b < a) : leI a b = false := decide_eq_false (Int.not_le.2 h)
theorem eq_t {a b : Int} (h : a = b) : eqI a b = true := decide_eq_true h
theorem eq_f {a b : Int} (h : a ≠ b) : eqI a b = false := decide_eq_false h
theorem ne_t {a b : Int} (h : a ≠ b) : neI a b = true := by rw [neI_d, decide_eq_false h]; rfl
theorem ne_f {a b : Int} (h : a = b) : neI a b = false := by rw [neI_d, decide_eq_true h]; rfl
theorem Zea {n b : Nat} (h : n * b ≤ 140737488355328) : roomB n b = true := by rw [Zt91]; exact decide_eq_true h
theorem Zud {n : Int} (h : -9223372036854775808 ≤ n ∧ n < 9223372036854775808) : IntKind.wrap .i64 n = n := Zrd h.1 h.2
theorem Zv {a b : Int} (h : -9223372036854775808 ≤ a + b ∧ a + b < 9223372036854775808) : addI .i64 a b = a + b := Zrd h.1 h.2
theorem Zdd {a b : Int} (h : -9223372036854775808 ≤ a - b ∧ a - b < 9223372036854775808) : subI .i64 a b = a - b := Zrd h.1 h.2
theorem Zxj {a b : Int} (h : -9223372036854775808 ≤ a * b ∧ a * b < 9223372036854775808) : mulI .i64 a b = a * b := Zrd h.1 h.2
theorem eqS_t {a b : ByteArray} (h : a = b) : eqS a b = true := by rw [eqS_d]; exact decide_eq_true h
theorem eqS_f {a b : ByteArray} (h : a ≠ b) : eqS a b = false := by rw [eqS_d]; exact decide_eq_false h
end Go.AM.Pure
