import Derived.Test.YtlamhllcnbcbbaaGreatAmP13
section
/- What a dictionary is: the distinct values, rising, and of each value its place; of texts by dict.Of. -/
namespace Go.AM.Pure
open Go.AM
section
variable {α : Type} {c : α → α → Int}
def Inc (c : α → α → Int) (d : List α) : Prop := d.Pairwise fun a b => c a b = -1
def Zzd (c : α → α → Int) (d l : List α) : Prop := Inc c d ∧ ∀ x, x ∈ d ↔ x ∈ l
theorem Inc.at {d : List α} (h : Inc c d) {i j : Nat} (hij : i < j) (hj : j < d.length) : c (d[i]'(by omega)) d[j] = -1 := List.pairwise_iff_getElem.1 h i j (by omega) hj hij
theorem Ord3.self (o : Ord3 c) (a : α) : c a a = 0 := (o.eq0 a a).2 rfl
theorem Ord3.asym (o : Ord3 c) {a b : α} (h : c a b = -1) : ¬ c b a = -1 := by rw [o.neg, h]; decide
theorem Zg8 (o : Ord3 c) : ∀ {d e : List α}, Inc c d → Inc c e → (∀ x, x ∈ d ↔ x ∈ e) → d = e
  | [], [], _, _, _ => rfl
  | [], b :: e, _, _, h => absurd ((h b).2 (List.mem_cons_self ..)) (by simp)
  | a :: d, [], _, _, h => absurd ((h a).1 (List.mem_cons_self ..)) (by simp)
  | a :: d, b :: e, h1, h2, h => by
    obtain ⟨p1, p2⟩ := List.pairwise_cons.1 h1
    obtain ⟨q1, q2⟩ := List.pairwise_cons.1 h2
    have hab : a = b := by
      rcases List.mem_cons.1 ((h a).1 (List.mem_cons_self ..)) with x | x
      · exact x
      · rcases List.mem_cons.1 ((h b).2 (List.mem_cons_self ..)) with y | y
        · exact y.symm
        · exact absurd (q1 a x) (o.asym (p1 b y))
    subst hab
    have : d = e := Zg8 o p2 q2 fun x => by
      constructor
      · intro hx
        rcases List.mem_cons.1 ((h x).1 (List.mem_cons_of_mem _ hx)) with y | y
        · have := p1 x hx
          rw [y, o.self] at this
          exact absurd this (by decide)
        · exact y
      · intro hx
        rcases List.mem_cons.1 ((h x).2 (List.mem_cons_of_mem _ hx)) with y | y
        · have := q1 x hx
          rw [y, o.self] at this
          exact absurd this (by decide)
        · exact y
    rw [this]
theorem Zzd.uniq (o : Ord3 c) {d e l : List α} (h : Zzd c d l) (k : Zzd c e l) : d = e := Zg8 o h.1 k.1 fun x => (h.2 x).trans (k.2 x).symm
theorem Zzd.pos {d l : List α} (h : Zzd c d l) (h0 : 0 < l.length) : 0 < d.length := List.length_pos_of_mem ((h.2 _).2 (List.getElem_mem h0))
variable [DecidableEq α]
def idx (d : List α) (v : α) : Nat := d.idxOf v
theorem Zym {d : List α} {v : α} (h : v ∈ d) : idx d v < d.length := List.idxOf_lt_length_iff.2 h
theorem Znq {d : List α} {v : α} (h : idx d v < d.length) : d[idx d v] = v := List.getElem_idxOf h
def plc (d l : List α) : List Int := l.map fun v => (idx d v : Int)
theorem Zjf (d l : List α) : (plc d l).length = l.length := by unfold plc; rw [List.length_map]
theorem Zim {d l : List α} (h : Zzd c d l) : ∀ x ∈ plc d l, 0 ≤ x ∧ x < (d.length : Int) := fun x hx => by
  unfold plc at hx
  obtain ⟨v, hv, rfl⟩ := List.mem_map.1 hx
  have := Zym ((h.2 v).2 hv)
  omega
omit [DecidableEq α] in
theorem Inc.inj (o : Ord3 c) {d : List α} (h : Inc c d) {i j : Nat} (hi : i < d.length) (hj : j < d.length) (he : d[i] = d[j]) : i = j := by
  rcases Nat.lt_trichotomy i j with k | k | k
  · have := h.at k hj; rw [he, o.self] at this; exact absurd this (by decide)
  · exact k
  · have := h.at k hi; rw [he, o.self] at this; exact absurd this (by decide)
theorem Zif1 (o : Ord3 c) {d l : List α} (h : Zzd c d l) {k : Nat} (hk : k < d.length) : (k : Int) ∈ plc d l := by
  have h1 := Zym (List.getElem_mem hk)
  refine List.mem_map.2 ⟨_, (h.2 _).1 (List.getElem_mem hk), ?_⟩
  have h2 := Znq h1
  rw [h.1.inj o h1 hk h2]
theorem Zkg2 (o : Ord3 c) {d l : List α} (h : Zzd c d l) (h0 : 0 < l.length) {v : Nat} (hw : Wd [(d.length : Int) - 1] v) (hl : d.length ≤ 65536) : Wd (plc d l) v := by
  have hdp := h.pos h0
  obtain ⟨h1, h2⟩ := hw
  have h1 := h1 _ (List.mem_singleton.2 rfl)
  constructor
  · intro x hx
    have := Zim h x hx
    omega
  · rcases h2 with h2 | ⟨x, hx, h2⟩
    · exact .inl h2
    · have hx := List.mem_singleton.1 hx
      subst hx
      right
      have := Zif1 o h (k := d.length - 1) (by omega)
      refine ⟨_, this, ?_⟩
      rw [show ((d.length - 1 : Nat) : Int) = (d.length : Int) - 1 by omega]
      exact h2
theorem Zh8 {d l : List α} (h : Zzd c d l) (z : α) : (plc d l).map (fun x => d.getD x.toNat z) = l := by
  unfold plc
  rw [List.map_map]
  conv => rhs; rw [← List.map_id l]
  apply List.map_congr_left
  intro v hv
  have hk := Zym ((h.2 v).2 hv)
  show d.getD (((idx d v : Nat) : Int)).toNat z = v
  rw [show (((idx d v : Nat) : Int)).toNat = idx d v from rfl, List.getD_eq_getElem?_getD, List.getElem?_eq_getElem hk]
  exact Znq hk
theorem Zx3 {d l : List α} {i : Nat} (h : i < l.length) : (plc d l)[i]'(by rw [Zjf]; exact h) = (idx d l[i] : Int) := by
  have h2 : (plc d l)[i]? = some (idx d l[i] : Int) := by
    unfold plc
    rw [List.getElem?_map, List.getElem?_eq_getElem h, Option.map_some]
  rw [List.getElem?_eq_getElem (by rw [Zjf]; exact h)] at h2
  exact Option.some.inj h2
end
theorem cb_lt : ∀ a b : List UInt8, a < b ↔ Lib.compareBytes a b = -1
  | [], [] => by simp [Lib.compareBytes]
  | [], _ :: _ => by simp [Lib.compareBytes]
  | _ :: _, [] => by simp [Lib.compareBytes]
  | a :: x, b :: y => by
    rw [List.cons_lt_cons_iff, cb_lt x y, show Lib.compareBytes (a :: x) (b :: y) = if a < b then -1 else if b < a then 1 else Lib.compareBytes x y from rfl]
    by_cases h : a < b
    · simp [h]
    · by_cases k : b < a
      · have : ¬ a = b := by rintro rfl; exact absurd k (UInt8.lt_irrefl _)
        simp [h, k, this]
      · have : a = b := UInt8.le_antisymm (UInt8.not_lt.1 k) (UInt8.not_lt.1 h)
        subst this
        simp only [h, if_neg, not_false_eq_true, false_or, true_and]
theorem cb_le (a b : List UInt8) : a ≤ b ↔ ¬ Lib.compareBytes a b = 1 := by
  rw [show (a ≤ b) = ¬ (b < a) from rfl, cb_lt, Zcv a b]
  rcases Zwj a b with h | h | h <;> rw [h] <;> decide
abbrev tb (s : ByteArray) : List UInt8 := s.data.toList
theorem Zk5 (s : ByteArray) : Zxh (tb s) = s := by cases s; rfl
abbrev sortT (l : List ByteArray) : List (List UInt8) := (l.map tb).mergeSort fun x y => decide (x ≤ y)
def dictT (l : List ByteArray) : List ByteArray := (Lib.compact (sortT l)).map Zxh
theorem Ztg (l : List ByteArray) : Zzd cmpS (dictT l) l := by
  have hs := List.pairwise_mergeSort (le := fun x y : List UInt8 => decide (x ≤ y)) (fun a b d h1 h2 => by
    simp only [decide_eq_true_eq] at *
    rw [cb_le] at *
    intro h
    rcases Zwj a b with k | k | k
    · rcases Zwj b d with m | m | m
      · rw [cb_tr a b d k m] at h; exact absurd h (by decide)
      · rw [← (Zql b d).1 m, k] at h; exact absurd h (by decide)
      · exact h2 m
    · rw [(Zql a b).1 k] at h; exact h2 h
    · exact h1 k) (fun a b => by
    simp only [Bool.or_eq_true, decide_eq_true_eq]
    rw [cb_le, cb_le, Zcv a b]
    rcases Zwj a b with k | k | k <;> rw [k] <;> decide) (l.map tb)
  have h := Zou (le := fun a b : List UInt8 => ¬ Lib.compareBytes a b = 1) (fun a => by rw [(Zql a a).2 rfl]; decide) (fun a b d h1 h2 h => by
    rcases Zwj a b with k | k | k
    · rcases Zwj b d with m | m | m
      · rw [cb_tr a b d k m] at h; exact absurd h (by decide)
      · rw [← (Zql b d).1 m, k] at h; exact absurd h (by decide)
      · exact h2 m
    · rw [(Zql a b).1 k] at h; exact h2 h
    · exact h1 k) (fun a b h1 h2 => by
    rw [Zcv a b] at h2
    rcases Zwj a b with k | k | k
    · rw [k] at h2; exact absurd rfl h2
    · exact (Zql a b).1 k
    · exact absurd k h1) (hs.imp fun h => (cb_le _ _).1 (of_decide_eq_true h))
  constructor
  · unfold Inc dictT
    rw [List.pairwise_map]
    refine h.1.imp fun {a b} hab => ?_
    show Lib.compareBytes a b = -1
    rcases Zwj a b with k | k | k
    · exact k
    · exact absurd ((Zql a b).1 k) hab.2
    · exact absurd k hab.1
  · intro x
    unfold dictT
    rw [List.mem_map]
    constructor
    · rintro ⟨b, hb, rfl⟩
      obtain ⟨s, hs, rfl⟩ := List.mem_map.1 (List.mem_mergeSort.1 ((h.2 b).1 hb))
      rw [Zk5]; exact hs
    · intro hx
      exact ⟨tb x, (h.2 _).2 (List.mem_mergeSort.2 (List.mem_map.2 ⟨x, hx, rfl⟩)), Zk5 x⟩
theorem Zle1 {β : Type} [Inhabited β] [DecidableEq β] (z : List β) : (Lib.compact z).length ≤ z.length := by
  unfold Lib.compact Lib.compactUpTo
  rw [List.length_map]
  exact Nat.le_trans (List.length_filter_le _ _) (by rw [List.length_range]; exact Nat.le_refl _)
theorem Zdg (l : List ByteArray) : (dictT l).length ≤ l.length := by
  unfold dictT
  rw [List.length_map]
  have := Zle1 (sortT l)
  rwa [List.length_mergeSort, List.length_map] at this
theorem Zsz1 (x y : ByteArray) : cmp_Less_string x y = decide (cmpS x y = -1) := by
  unfold cmp_Less_string
  have : cmp_isNaN_string x = false := by
    show (!(eqS x x)) = false
    rw [eqS_t rfl]; rfl
  rw [this, ltS_d]
  rfl
theorem Ztz1 (d : List ByteArray) (hl : d.length < 1000000000) (hd : Inc cmpS d) {k : Nat} (hk : k < d.length) : ∀ (g i j n : Nat), g = j - i → i ≤ k → k ≤ j → j ≤ d.length → g < n →
    Zh.l0 (Zh.t1 fu) n d d[k] (d.length : Int) (i : Int) (j : Int) = some ((k : Int), true) := by
  intro g
  induction g using Nat.strongRecOn with
  | ind g ih =>
  intro i j n hg hi hj hjl hn
  obtain ⟨n, rfl⟩ : ∃ m, n = m + 1 := ⟨n - 1, by omega⟩
  show Zh.S0 Zh.S1 (Zh.l0 (Zh.t1 fu) n) _ _ _ _ _ = _
  unfold Zh.S0
  by_cases hij : i < j
  · have hh : IntKind.wrap .i64 (shrI .u64 (IntKind.wrap .u64 (addI .i64 (i : Int) (j : Int))) 1) = (((i + j) / 2 : Nat) : Int) := by
      have h1 : IntKind.wrap .u64 ((i : Int) + (j : Int)) = ((i + j : Nat) : Int) := by rw [Zqc]; omega
      have h2 := shrU ((i + j : Nat) : Int) 1 (by omega)
      rw [show ((1 : Nat) : Int) = 1 from rfl, Int.pow_succ, Int.pow_zero, Int.one_mul] at h2
      rw [Zv (by omega), h1, h2, Zud (by omega)]
      omega
    have hm : (i + j) / 2 < d.length := by omega
    rw [lt_t (by omega), cond_true, hh, Zt (by rw [Zd]; omega), cond_true, Zba hm, Zsz1, Zv (by omega)]
    by_cases hlt : (i + j) / 2 < k
    · rw [decide_eq_true (hd.at hlt hk), cond_true]
      exact ih (j - ((i + j) / 2 + 1)) (by omega) ((i + j) / 2 + 1) j n rfl (by omega) hj hjl (by omega)
    · have : ¬ cmpS d[(i + j) / 2] d[k] = -1 := by
        by_cases he : k = (i + j) / 2
        · rw [show d[(i + j) / 2] = d[k] from getElem_congr_idx he.symm, Zgh.self]; decide
        · exact Zgh.asym (hd.at (show k < (i + j) / 2 by omega) hm)
      rw [decide_eq_false this, cond_false]
      exact ih ((i + j) / 2 - i) (by omega) i ((i + j) / 2) n rfl hi (by omega) (by omega) (by omega)
  · have : i = k := by omega
    subst this
    rw [lt_f (by omega), cond_false]
    unfold Zh.S1
    rw [lt_t (by omega), cond_true, Zt (by rw [Zd]; omega), cond_true, Zba hk, eqS_t rfl]
    rfl
theorem Zlg2 (d : List ByteArray) (hl : d.length < 1000000000) (hd : Inc cmpS d) {v : ByteArray} (hv : v ∈ d) : Zh d v = some ((idx d v : Int), true) := by
  have hk := Zym hv
  have hg := Znq hk
  have := Ztz1 d hl hd hk d.length 0 d.length fu (by omega) (by omega) (by omega) (by omega) (by unfold fu; omega)
  rw [hg] at this
  exact this
abbrev Zaa (l : List ByteArray) : List Int := plc (dictT l) l
theorem Zme1 (l : List ByteArray) (hl : l.length ≤ 65536) (lo : Nat) (t : List ByteArray) (ht : List.take (dictT l).length (List.drop lo t) = dictT l) : ∀ (d i n : Nat), d = l.length - i → i ≤ l.length → d < n →
    Zza.l0 n lo (dictT l).length ((Zaa l).take i) l (l.length : Int) (i : Int) t = some (dictT l, Zaa l) := by
  have hpl : (Zaa l).length = l.length := Zjf _ _
  have hdl := Zdg l
  intro d
  induction d with
  | zero =>
    intro i n hd hi hn
    have : i = l.length := by omega
    subst this
    obtain ⟨n, rfl⟩ : ∃ k, n = k + 1 := ⟨n - 1, by omega⟩
    show Zza.S0 _ _ _ _ _ _ _ _ = _
    unfold Zza.S0
    rw [lt_f (by omega), cond_false, ht, List.take_of_length_le (by omega)]
  | succ d ih =>
    intro i n hd hi hn
    obtain ⟨n, rfl⟩ : ∃ k, n = k + 1 := ⟨n - 1, by omega⟩
    have hlt : i < l.length := by omega
    show Zza.S0 (Zza.l0 n) _ _ _ _ _ _ _ = _
    unfold Zza.S0
    rw [lt_t (by omega), cond_true, Zt (by rw [Zd]; omega), cond_true, Zba hlt, ht, Zlg2 _ (by omega) (Ztg l).1 (((Ztg l).2 _).2 (List.getElem_mem hlt)), Option.bind_some, Zea (by rw [List.length_take]; omega), cond_true, Zv (by omega)]
    have := ih (i + 1) n (by omega) (by omega) (by omega)
    rw [take_one (by omega), Zx3 hlt] at this
    exact this
theorem Zbo (l : List ByteArray) (hl : l.length ≤ 65536) (h0 : 0 < l.length) : Zza l = some (dictT l, Zaa l) := by
  show Zza.S (Zza.l0 fu) l = _
  unfold Zza.S
  have hc : Zng 16 l = some l := by
    unfold Zng
    rw [decide_eq_true h0, Zea (by omega)]
    rfl
  have hs : sortS l = some ((sortT l).map Zxh) := by
    unfold sortS
    rw [decide_eq_true (by omega)]
    rfl
  have hml : ((sortT l).map Zxh).length = l.length := by rw [List.length_map, List.length_mergeSort, List.length_map]
  have hdl := Zdg l
  have hmm : ((sortT l).map Zxh).map (fun s : ByteArray => s.data.toList) = sortT l := by
    rw [List.map_map]
    exact List.map_id _
  have hdd : (Lib.compact (sortT l)).length = (dictT l).length := by unfold dictT; rw [List.length_map]
  have hcp : compS ((sortT l).map Zxh) = some (((dictT l).length : Int), dictT l ++ (List.replicate (l.length - (dictT l).length) []).map Zxh) := by
    unfold compS
    rw [decide_eq_true (by omega), hmm, hml, hdd, List.map_append]
    rfl
  rw [hc, Option.bind_some, Zdi (x := (sortT l).map Zxh) (by rw [decide_eq_true h0]; rfl) hs (by rw [hml]; simp), Option.bind_some,
    Zdi (by rw [decide_eq_true (by omega)]; rfl) hcp (by
      dsimp only
      rw [List.length_append, List.length_map, List.length_replicate, hml, decide_eq_true (by omega)]
      rfl), Option.bind_some]
  dsimp only
  rw [show Int.toNat ((dictT l).length : Int) = (dictT l).length from rfl, Zd]
  exact Zme1 l hl 0 _ (by rw [List.drop_zero, List.take_left]) l.length 0 fu (by omega) (by omega) (by unfold fu; omega)
end Go.AM.Pure
end

section
/- Texts as they are, and by a dictionary: what is put, and what is taken of it. -/
namespace Go.AM.Pure
open Go.AM
def tB (s : ByteArray) : List Int := (s.size : Int) :: Zf s
def Zia (l : List ByteArray) : List Int := l.flatMap tB
def Short (l : List ByteArray) : Prop := ∀ s ∈ l, s.size ≤ 32
theorem Zrm (x : ByteArray) (d : List ByteArray) : Zia (x :: d) = tB x ++ Zia d := rfl
theorem Zsm (d : List ByteArray) (x : ByteArray) : Zia (d ++ [x]) = Zia d ++ tB x := by unfold Zia; simp
theorem Zso (s : ByteArray) : (tB s).length = 1 + s.size := by unfold tB; rw [List.length_cons, Zja]; omega
theorem Zjg2 {s : ByteArray} (h : s.size ≤ 32) : ∀ b ∈ tB s, 0 ≤ b ∧ b < 256 := fun b hb => by
  rcases List.mem_cons.1 hb with rfl | hb
  · omega
  · exact Zre1 s b hb
theorem Zwe : ∀ (d : List ByteArray), Short d → (Zia d).length ≤ 33 * d.length
  | [], _ => by simp [Zia]
  | x :: d, h => by
    have := Zwe d fun s hs => h s (List.mem_cons_of_mem _ hs)
    have h1 := Zso x
    have h2 := h x (List.mem_cons_self ..)
    rw [Zrm, List.length_append, List.length_cons]
    omega
theorem Zll : ∀ (d : List ByteArray), Short d → ∀ b ∈ Zia d, 0 ≤ b ∧ b < 256
  | [], _, b, h => by cases h
  | x :: d, hs, b, h => by
    rw [Zrm] at h
    rcases List.mem_append.1 h with h | h
    · exact Zjg2 (hs x (List.mem_cons_self ..)) b h
    · exact Zll d (fun s h => hs s (List.mem_cons_of_mem _ h)) b h
theorem Short.take {l : List ByteArray} (h : Short l) (i : Nat) : Short (l.take i) := fun s hs => h s (List.mem_of_mem_take hs)
theorem Short.dict {l : List ByteArray} (h : Short l) : Short (dictT l) := fun s hs => h s (((Ztg l).2 s).1 hs)
theorem Zj5 {l : List ByteArray} {i : Nat} (h : i < l.length) : Zia l = Zia (l.take i) ++ (tB l[i] ++ Zia (l.drop (i + 1))) := by
  have : l = l.take i ++ l[i] :: l.drop (i + 1) := by rw [← List.drop_eq_getElem_cons h, List.take_append_drop]
  have h2 : Zia l = Zia (l.take i ++ l[i] :: l.drop (i + 1)) := congrArg Zia this
  rw [h2]
  unfold Zia
  rw [List.flatMap_append, List.flatMap_cons]
theorem Znj1 (b : Bool × List Int) (c : Int) (h : b.2.length < 100000000000) : Zoe b c = some (true, false, b.2 ++ [c]) := by
  unfold Zoe
  show (bif roomB (b.2.length + 1) 1 then _ else _) = _
  rw [Zea (by omega)]
  rfl
theorem Zhn1 (o : List ByteArray) (hl : o.length ≤ 65536) (hs : Short o) : ∀ (d i n : Nat) (f : Bool), d = o.length - i → i ≤ o.length → d < n →
    Zlb.l0 n o (o.length : Int) (i : Int) (f, Zia (o.take i)) = some (ofBytes (Zia o), 0) := by
  intro d
  induction d with
  | zero =>
    intro i n f hd hi hn
    have : i = o.length := by omega
    subst this
    obtain ⟨n, rfl⟩ : ∃ k, n = k + 1 := ⟨n - 1, by omega⟩
    show Zlb.S0 _ _ _ _ _ = _
    unfold Zlb.S0
    rw [lt_f (by omega), cond_false, List.take_length, Zvu _ _ (Zll o hs)]
    rfl
  | succ d ih =>
    intro i n f hd hi hn
    obtain ⟨n, rfl⟩ : ∃ k, n = k + 1 := ⟨n - 1, by omega⟩
    have hlt : i < o.length := by omega
    have h1 := Zwe (o.take i) (hs.take i)
    rw [List.length_take] at h1
    have h2 := hs o[i] (List.getElem_mem hlt)
    show Zlb.S0 (Zlb.l0 n) _ _ _ _ = _
    unfold Zlb.S0
    rw [lt_t (by omega), cond_true, Zt (by rw [Zd]; omega), cond_true, Zba hlt, Zcb, lt_f (by omega), cond_false, Znj1 _ _ (by show (Zia _).length < _; omega), Option.bind_some,
      Zpp _ _ (by show (Zia _ ++ [_]).length + _ < _; rw [List.length_append, List.length_singleton]; omega), Option.bind_some, Zv (by omega), Zvf, show (o[i].size : Int) % 256 = (o[i].size : Int) by omega]
    have := ih (i + 1) n false (by omega) (by omega) (by omega)
    rw [take_one hlt, Zsm, show Zia (o.take i) ++ tB o[i] = Zia (o.take i) ++ [(o[i].size : Int)] ++ Zf o[i] by unfold tB; simp] at this
    exact this
theorem Zmj (o : List ByteArray) (hl : o.length ≤ 65536) (hs : Short o) : Zlb o = some (ofBytes (Zia o), 0) :=
  Zhn1 o hl hs o.length 0 fu true (by omega) (by omega) (by unfold fu; omega)
theorem Zj91 {s : ByteArray} {a b r : List Int} (hs : Zf s = a ++ (b ++ r)) : cutS s (a.length : Int) ((a.length + b.length : Nat) : Int) = ofBytes b := by
  have := Zku s a.length (a.length + b.length)
  rw [hs, List.drop_left, Nat.add_sub_cancel_left, List.take_left] at this
  rw [← Zcf (cutS s _ _), this]
structure TextAt (s : ByteArray) (p : Nat) (t : ByteArray) : Prop where
  at0 : byteAt s (p : Int) = (t.size : Int)
  fit : p + 1 + t.size ≤ s.size
  cut : cutS s ((p + 1 : Nat) : Int) ((p + 1 + t.size : Nat) : Int) = t
theorem Zw3 {s t : ByteArray} {pre rest : List Int} (hs : Zf s = pre ++ (tB t ++ rest)) : TextAt s pre.length t where
  at0 := Zeh hs (i := pre.length) (by rw [List.getElem?_append_right (Nat.le_refl _), Nat.sub_self]; rfl)
  fit := by
    have := congrArg List.length hs
    rw [Zja, List.length_append, List.length_append, Zso] at this
    omega
  cut := by
    have h2 : Zf s = (pre ++ [(t.size : Int)]) ++ (Zf t ++ rest) := by rw [hs]; unfold tB; simp
    have := Zj91 h2
    rw [List.length_append, List.length_singleton, Zja] at this
    rw [this, Zcf]
theorem Zoj1 (l : List ByteArray) (hl : l.length ≤ 65536) (hsh : Short l) : ∀ (d i n : Nat) (s : ByteArray), d = l.length - i → i ≤ l.length → d < n → Zf s = Zia (l.drop i) →
    Zda.l0 (Zda.t1 fu) n s (l.length : Int) (l.take i) = some (l, 0) := by
  intro d
  induction d with
  | zero =>
    intro i n s hd hi hn hs
    have : i = l.length := by omega
    subst this
    obtain ⟨n, rfl⟩ : ∃ k, n = k + 1 := ⟨n - 1, by omega⟩
    rw [List.drop_length] at hs
    have he : s = eB := size0.2 (by rw [← Zja, hs]; rfl)
    show Zda.S0 Zda.S1 _ _ _ _ = _
    unfold Zda.S0
    rw [eqS_t he, Bool.not_true, cond_false, List.take_length]
    unfold Zda.S1
    rw [Zd, ne_f rfl, cond_false]
  | succ d ih =>
    intro i n s hd hi hn hs
    obtain ⟨n, rfl⟩ : ∃ k, n = k + 1 := ⟨n - 1, by omega⟩
    have hlt : i < l.length := by omega
    rw [List.drop_eq_getElem_cons hlt, Zrm] at hs
    have ht := Zw3 (pre := []) (t := l[i]) (rest := Zia (l.drop (i + 1))) hs
    have h32 := hsh l[i] (List.getElem_mem hlt)
    have hf := ht.fit
    have h0 := ht.at0
    have hc := ht.cut
    rw [List.length_nil] at hf h0 hc
    have hne : s ≠ eB := fun he => by have := size0.1 he; omega
    have hrest : Zf (cutS s ((1 + l[i].size : Nat) : Int) (lenS s)) = Zia (l.drop (i + 1)) := by
      have := Zwf hs
      rwa [Zso] at this
    have hsz : s.size ≤ 33 * l.length := by
      have k1 := Zwe (l.drop i) fun t ht => hsh t (List.mem_of_mem_drop ht)
      rw [List.drop_eq_getElem_cons hlt, Zrm, ← hs, Zja, List.length_cons, List.length_drop] at k1
      omega
    show Zda.S0 (Zda.t1 fu) (Zda.l0 (Zda.t1 fu) n) _ _ _ = _
    unfold Zda.S0
    rw [show ((0 : Nat) : Int) = 0 from rfl] at h0
    rw [eqS_f hne, Bool.not_false, cond_true, Zcb, Zt (by omega), cond_true, h0, Zud (by omega), lt_f (by omega), cond_false, le_f (by omega), cond_false, Zv (by omega), show (1 : Int) + (l[i].size : Int) = ((1 + l[i].size : Nat) : Int) by omega, Zmc (by omega), cond_true, Zea (by rw [List.length_take]; omega), cond_true, Zmc (by omega), cond_true]
    rw [Zcb] at hrest
    rw [show 0 + 1 + l[i].size = 1 + l[i].size by omega, show ((0 + 1 : Nat) : Int) = 1 from rfl] at hc
    rw [hc]
    have := ih (i + 1) n _ (by omega) (by omega) (by omega) hrest
    rw [take_one hlt] at this
    exact this
theorem Zju (l : List ByteArray) (hl : l.length ≤ 65536) (hsh : Short l) {s : ByteArray} (hs : Zf s = Zia l) : Zda s (l.length : Int) = some (l, 0) :=
  Zoj1 l hl hsh l.length 0 fu s (by omega) (by omega) (by unfold fu; omega) (by rw [List.drop_zero]; exact hs)
def Zoj (l : List ByteArray) (v : Nat) : List Int := if l.length = 0 then [] else vB ((dictT l).length : Int) ++ (Zia (dictT l) ++ packB (Zaa l) v)
theorem Zd0 (l : List ByteArray) (hl : l.length ≤ 65536) (hsh : Short l) {v : Nat} (hv : Zwa (Zaa l) = some (v : Int)) (h64 : v ≤ 64) : Zlk l = some (ofBytes (Zoj l v), 0) := by
  unfold Zlk Zaf Zoj
  rw [Zd, lt_f (by omega), cond_false]
  by_cases h0 : l.length = 0
  · rw [eq_t (by omega), cond_true, if_pos h0]
    rfl
  · have hdl := Zdg l
    have hpl : (Zaa l).length = l.length := Zjf _ _
    have hb : (Zaa l).length * v ≤ 65536 * 64 := Nat.mul_le_mul (by omega) h64
    have hpb := Zsd (Zaa l) v
    have k1 := Zjd ((dictT l).length : Int)
    have k2 := Zwe _ hsh.dict
    rw [eq_f (by omega), cond_false, if_neg h0, Zbo l hl (by omega), Option.bind_some]
    dsimp only
    rw [Zmj _ (by omega) hsh.dict, Option.bind_some]
    dsimp only
    rw [ne_f rfl, cond_false, hv, Option.bind_some, Zpj (Zaa l) h64 (by omega) hv (Nat.le_refl _), Option.bind_some, Zd, Zof, Option.bind_some, Zid, Zbd]
    dsimp only
    have r1 : roomS (ofBytes (vB ((dictT l).length : Int))) (ofBytes (Zia (dictT l))) = true := decide_eq_true (by rw [Zo, Zo]; omega)
    have r2 : roomS (ofBytes (vB ((dictT l).length : Int) ++ Zia (dictT l))) (ofBytes (packB (Zaa l) v)) = true := decide_eq_true (by rw [Zo, Zo, List.length_append]; omega)
    rw [r1, r2, Zbd, cond_true, cond_true, List.append_assoc]
    rfl
theorem Zrz1 {s t : ByteArray} {rest : List Int} (h32 : t.size ≤ 32) (hs : Zf s = tB t ++ rest) (hsz : s.size < 100000000) : Zok s = some (t, ((tB t).length : Int)) := by
  have ht := Zw3 (pre := []) hs
  have hf := ht.fit
  have h0 := ht.at0
  have hc := ht.cut
  rw [List.length_nil] at hf h0 hc
  have hne : s ≠ eB := fun he => by have := size0.1 he; omega
  rw [show ((0 : Nat) : Int) = 0 from rfl] at h0
  rw [show 0 + 1 + t.size = 1 + t.size by omega, show ((0 + 1 : Nat) : Int) = 1 from rfl] at hc
  unfold Zok
  rw [eqS_f hne, cond_false, Zcb, Zt (by omega), cond_true, h0, Zud (by omega), lt_f (by omega), cond_false, le_f (by omega), cond_false, Zv (by omega), show (1 : Int) + (t.size : Int) = ((1 + t.size : Nat) : Int) by omega, Zmc (by omega), cond_true, hc, Zso]
theorem Zin1 {D : List ByteArray} (hD : D.length ≤ 65536) (hinc : Inc cmpS D) (h32 : Short D) {s : ByteArray} {pre tail : List Int} (hs : Zf s = pre ++ (Zia D ++ tail)) (hsz : s.size < 100000000) {o1 : ByteArray → Int → Int → Int → List ByteArray → Option (List ByteArray × List Int × Int)} {xn size : Int} :
    ∀ (d i n : Nat), d = D.length - i → i ≤ D.length → d < n →
    Za.l0 o1 n s xn size ((pre.length + (Zia (D.take i)).length : Nat) : Int) (D.take i) (D.length : Int) (i : Int) = o1 s xn size ((pre.length + (Zia D).length : Nat) : Int) D := by
  have hsl : s.size = pre.length + ((Zia D).length + tail.length) := by rw [← Zja, hs, List.length_append, List.length_append]
  intro d
  induction d with
  | zero =>
    intro i n hd hi hn
    have : i = D.length := by omega
    subst this
    obtain ⟨n, rfl⟩ : ∃ k, n = k + 1 := ⟨n - 1, by omega⟩
    show Za.S0 _ _ _ _ _ _ _ _ _ = _
    unfold Za.S0
    rw [lt_f (by omega), cond_false, List.take_length]
  | succ d ih =>
    intro i n hd hi hn
    obtain ⟨n, rfl⟩ : ∃ k, n = k + 1 := ⟨n - 1, by omega⟩
    have hlt : i < D.length := by omega
    show Za.S0 o1 (Za.l0 o1 n) _ _ _ _ _ _ _ = _
    unfold Za.S0
    have hsplit := Zj5 hlt
    have hil : (Zia (D.take i)).length + (tB D[i]).length ≤ (Zia D).length := by rw [hsplit, List.length_append, List.length_append]; omega
    have hcut : Zf (cutS s ((pre.length + (Zia (D.take i)).length : Nat) : Int) (lenS s)) = tB D[i] ++ (Zia (D.drop (i + 1)) ++ tail) := by
      have := Zwf (s := s) (a := pre ++ Zia (D.take i)) (rest := tB D[i] ++ (Zia (D.drop (i + 1)) ++ tail)) (by rw [hs, hsplit]; simp)
      rw [List.length_append] at this
      exact this
    have hv := Zso D[i]
    have htl : (D.take i).length = i := by rw [List.length_take]; omega
    have hnx : addI .i64 ((pre.length + (Zia (D.take i)).length : Nat) : Int) ((tB D[i]).length : Int) = ((pre.length + (Zia (D.take (i + 1))).length : Nat) : Int) := by
      have : (Zia (D.take (i + 1))).length = (Zia (D.take i)).length + (tB D[i]).length := by rw [take_one hlt, Zsm, List.length_append]
      rw [Zv (by omega), this]
      omega
    have hcs : (cutS s ((pre.length + (Zia (D.take i)).length : Nat) : Int) (lenS s)).size < 100000000 := by
      rw [← Zja, hcut, List.length_append, List.length_append]
      have := congrArg List.length hsplit
      rw [List.length_append, List.length_append] at this
      omega
    rw [lt_t (by omega), cond_true, Zmc (by rw [Zcb]; omega), cond_true, Zrz1 (h32 _ (List.getElem_mem hlt)) hcut hcs, Option.bind_some]
    dsimp only
    rw [eq_f (by omega), cond_false, hnx, Zv (by omega), ← take_one hlt]
    have := ih (i + 1) n (by omega) (by omega) (by omega)
    rw [Zea (by omega)]
    by_cases hi0 : i = 0
    · rw [lt_f (by omega), cond_false, cond_true]
      exact this
    · have hlt1 : i - 1 < (D.take i).length := by omega
      have hup := hinc.at (show i - 1 < i by omega) hlt
      have hle : (ltS D[i] (D.take i)[i - 1] || eqS D[i] (D.take i)[i - 1]) = false := by
        rw [ltS_d, List.getElem_take, decide_eq_false (Zgh.asym hup), eqS_f (fun e => by
          have := (Zgh.eq0 _ _).2 e
          rw [Zgh.neg D[i - 1] D[i], hup] at this
          exact absurd this (by decide))]
        rfl
      rw [lt_t (by omega), cond_true, Zdd (by omega), Zt (by rw [Zd, htl]; omega), cond_true, show (i : Int) - 1 = ((i - 1 : Nat) : Int) by omega, Zba hlt1, hle, cond_false, cond_true]
      exact this
theorem Zjn1 {D : List ByteArray} {P : List Int} (hP : P.length ≤ 65536) (hPm : ∀ x ∈ P, 0 ≤ x ∧ x < (D.length : Int)) {o3 : List ByteArray → List Int → List Bool → Option (List ByteArray × List Int × Int)} :
    ∀ (d i n : Nat), d = P.length - i → i ≤ P.length → d < n →
    Za.l2 o3 n (D.length : Int) D P P (P.length : Int) (i : Int) (seenB D.length (P.take i)) = o3 D P (seenB D.length P) := by
  intro d
  induction d with
  | zero =>
    intro i n hd hi hn
    have : i = P.length := by omega
    subst this
    obtain ⟨n, rfl⟩ : ∃ k, n = k + 1 := ⟨n - 1, by omega⟩
    show Za.S2 _ _ _ _ _ _ _ _ _ = _
    unfold Za.S2
    rw [lt_f (by omega), cond_false, List.take_length]
  | succ d ih =>
    intro i n hd hi hn
    obtain ⟨n, rfl⟩ : ∃ k, n = k + 1 := ⟨n - 1, by omega⟩
    have hlt : i < P.length := by omega
    have hx := hPm P[i] (List.getElem_mem hlt)
    have hsl : (seenB D.length (P.take i)).length = D.length := by unfold seenB; simp
    show Za.S2 o3 (Za.l2 o3 n) _ _ _ _ _ _ _ = _
    unfold Za.S2
    rw [lt_t (by omega), cond_true, Zt (by rw [Zd]; omega), cond_true, Zba hlt, lt_f hx.1, cond_false, le_f hx.2, cond_false, Zt (by rw [Zd, hsl]; exact hx), cond_true, Zv (by omega), Zk8 _ _ _ hx.1, ← take_one hlt]
    exact ih (i + 1) n (by omega) (by omega) (by omega)
theorem Zpj1 {D : List ByteArray} {P : List Int} (hP : P.length ≤ 65536) (hPm : ∀ x ∈ P, 0 ≤ x ∧ x < (D.length : Int)) : ∀ (d i n : Nat), d = P.length - i → i ≤ P.length → d < n →
    Zeb.l0 n D ((P.take i).map fun x => D.getD x.toNat eB) P (P.length : Int) (i : Int) = some (P.map fun x => D.getD x.toNat eB) := by
  intro d
  induction d with
  | zero =>
    intro i n hd hi hn
    have : i = P.length := by omega
    subst this
    obtain ⟨n, rfl⟩ : ∃ k, n = k + 1 := ⟨n - 1, by omega⟩
    show Zeb.S0 _ _ _ _ _ _ = _
    unfold Zeb.S0
    rw [lt_f (by omega), cond_false, List.take_length]
  | succ d ih =>
    intro i n hd hi hn
    obtain ⟨n, rfl⟩ : ∃ k, n = k + 1 := ⟨n - 1, by omega⟩
    have hlt : i < P.length := by omega
    have hx := hPm P[i] (List.getElem_mem hlt)
    show Zeb.S0 (Zeb.l0 n) _ _ _ _ _ = _
    unfold Zeb.S0
    rw [lt_t (by omega), cond_true, Zt (by rw [Zd]; omega), cond_true, Zba hlt, Zt (by rw [Zd]; exact hx), cond_true, Zea (by rw [List.length_map, List.length_take]; omega), cond_true, Zv (by omega)]
    have := ih (i + 1) n (by omega) (by omega) (by omega)
    rw [take_one hlt, List.map_append] at this
    exact this
theorem Zg7 (l : List ByteArray) (hl : l.length ≤ 65536) (hsh : Short l) {v : Nat} (hv64 : v ≤ 64) (hwd : Wd (Zaa l) v) {s : ByteArray} (hs : Zf s = Zoj l v) (h0 : 0 < l.length) :
    Za s (l.length : Int) = some (dictT l, Zaa l, 0) := by
  have hdl := Zdg l
  have hsp := Ztg l
  have hdp := hsp.pos h0
  have hpl : (Zaa l).length = l.length := Zjf _ _
  have hs' : Zf s = vB ((dictT l).length : Int) ++ (Zia (dictT l) ++ packB (Zaa l) v) := by
    unfold Zoj at hs
    rwa [if_neg (by omega)] at hs
  have hb : (Zaa l).length * v ≤ 65536 * 64 := Nat.mul_le_mul (by omega) hv64
  have hpb := Zsd (Zaa l) v
  have k1 := Zjd ((dictT l).length : Int)
  have k2 := Zwe _ hsh.dict
  have hsz : s.size = (vB ((dictT l).length : Int)).length + ((Zia (dictT l)).length + (packB (Zaa l) v).length) := by rw [← Zja, hs', List.length_append, List.length_append]
  show Za.S (Za.l0 (Za.t1 fu) fu) s _ = _
  unfold Za.S
  rw [lt_f (by omega), cond_false, lt_f (by omega), cond_false, eq_f (by omega), cond_false, Zvg (by unfold in64; omega) hs', Option.bind_some]
  dsimp only
  rw [ne_f rfl, cond_false, lt_f (by omega), cond_false, lt_f (by omega), cond_false]
  have hloop := Zin1 (D := dictT l) (by omega) hsp.1 hsh.dict hs' (by omega) (o1 := Za.t1 fu) (xn := (l.length : Int)) (size := ((dictT l).length : Int)) (dictT l).length 0 fu (by omega) (by omega) (by unfold fu; omega)
  rw [List.take_zero, show Zia [] = [] from rfl, List.length_nil, Nat.add_zero] at hloop
  rw [show (0 : Int) = ((0 : Nat) : Int) from rfl, hloop]
  show Za.S1 (Za.l2 (Za.t3 18446744073709551615) 18446744073709551615) s _ _ _ _ = _
  unfold Za.S1
  obtain ⟨v', w1, w2, w3⟩ := Zkk [((dictT l).length : Int) - 1] (by simp)
  have hvv : v' = v := (Zkg2 Zgh hsp h0 w3 (by omega)).unique hwd
  subst hvv
  have hcut : Zf (cutS s (((vB ((dictT l).length : Int)).length + (Zia (dictT l)).length : Nat) : Int) (lenS s)) = packB (Zaa l) v' := by
    have := Zwf (s := s) (a := vB ((dictT l).length : Int) ++ Zia (dictT l)) (rest := packB (Zaa l) v') (by rw [hs', List.append_assoc])
    rw [List.length_append] at this
    exact this
  have hpk := Zbn (l := Zaa l) (w := v') hv64 (by omega) (fun x hx => by have := Zim hsp x hx; unfold in64; omega) hwd.1 hcut
  rw [hpl] at hpk
  rw [Zmc (by rw [Zcb]; omega), cond_true, Zdd (by omega), w1, Option.bind_some, hpk, Option.bind_some]
  dsimp only
  rw [ne_f rfl, cond_false, le_t (by omega), Zea (by show (dictT l).length * 1 ≤ _; omega)]
  have hseen0 : List.replicate (Int.toNat ((dictT l).length : Int)) false = seenB (dictT l).length ((Zaa l).take 0) := by
    unfold seenB
    rw [List.take_zero]
    symm
    rw [List.eq_replicate_iff]
    refine ⟨by simp, fun b hb => ?_⟩
    obtain ⟨k, _, rfl⟩ := List.mem_map.1 hb
    rfl
  have hl2 := Zjn1 (D := dictT l) (P := Zaa l) (by omega) (fun x hx => Zim hsp x hx) (o3 := Za.t3 18446744073709551615) (Zaa l).length 0 18446744073709551615 (by omega) (by omega) (by omega)
  rw [hseen0, Zd]
  refine Eq.trans hl2 ?_
  show Za.S3 (dictT l) (Zaa l) (seenB (dictT l).length (Zaa l)) = _
  unfold Za.S3
  have hsb : ∀ b ∈ seenB (dictT l).length (Zaa l), b = true := fun b hb => by
    unfold seenB at hb
    obtain ⟨k, hk, rfl⟩ := List.mem_map.1 hb
    exact List.any_eq_true.2 ⟨_, Zif1 Zgh hsp (List.mem_range.1 hk), decide_eq_true rfl⟩
  have hsbl : (seenB (dictT l).length (Zaa l)).length = (dictT l).length := by unfold seenB; simp
  have hcon : Zwc (seenB (dictT l).length (Zaa l)) false = some false := by
    unfold Zwc
    have := Zj1 _ (by omega) hsb (seenB (dictT l).length (Zaa l)).length 0 fu (by omega) (by omega) (by unfold fu; omega)
    have h2 : Zka (seenB (dictT l).length (Zaa l)) false = some (-1) := this
    rw [h2]
    rfl
  rw [hcon]
  rfl
theorem Zwy (l : List ByteArray) (hl : l.length ≤ 65536) (hsh : Short l) {v : Nat} (hv64 : v ≤ 64) (hwd : Wd (Zaa l) v) {s : ByteArray} (hs : Zf s = Zoj l v) :
    Zjj s (l.length : Int) = some (l, 0) := by
  unfold Zjj Zcq
  by_cases h0 : l.length = 0
  · have hse : s = eB := size0.2 (by rw [← Zja, hs]; unfold Zoj; rw [if_pos h0]; rfl)
    have : l = [] := List.eq_nil_of_length_eq_zero h0
    subst this
    have h1 : Za s (([] : List ByteArray).length : Int) = some ([], [], 0) := by
      show Za.S _ s 0 = _
      unfold Za.S
      rw [lt_f (by omega), cond_false, lt_f (by omega), cond_false, eq_t rfl, cond_true, eqS_t hse]
      rfl
    rw [h1]
    rfl
  · have hdl := Zdg l
    have hsp := Ztg l
    rw [Zg7 l hl hsh hv64 hwd hs (by omega), Option.bind_some, Option.bind_some]
    dsimp only
    rw [ne_f rfl, cond_false]
    have := Zpj1 (D := dictT l) (P := Zaa l) (by rw [Zjf]; exact hl) (fun x hx => Zim hsp x hx) (Zaa l).length 0 fu (by omega) (by omega) (by rw [Zjf]; unfold fu; omega)
    have h2 : Zeb (dictT l) (Zaa l) = some ((Zaa l).map fun x => (dictT l).getD x.toNat eB) := this
    rw [h2, Zh8 hsp eB]
    rfl
end Go.AM.Pure
end

section
/- Texts by runs of places; words by a code; blocks of any kind. -/
namespace Go.AM.Pure
open Go.AM
def runTB (l : List ByteArray) : List Int := if l.length = 0 then [] else vB ((dictT l).length : Int) ++ (Zia (dictT l) ++ runB (runO (Zaa l)))
theorem Zlj1 {D : List ByteArray} (hD : D.length ≤ 65536) (h32 : Short D) {s : ByteArray} {pre tail : List Int} (hs : Zf s = pre ++ (Zia D ++ tail)) (hsz : s.size < 100000000) {o1 : ByteArray → Int → Int → Int → List ByteArray → Option (List ByteArray × Int)} {xn size : Int} :
    ∀ (d i n : Nat), d = D.length - i → i ≤ D.length → d < n →
    Zu.l0 o1 n s xn size ((pre.length + (Zia (D.take i)).length : Nat) : Int) (D.take i) (D.length : Int) (i : Int) = o1 s xn size ((pre.length + (Zia D).length : Nat) : Int) D := by
  have hsl : s.size = pre.length + ((Zia D).length + tail.length) := by rw [← Zja, hs, List.length_append, List.length_append]
  intro d
  induction d with
  | zero =>
    intro i n hd hi hn
    have : i = D.length := by omega
    subst this
    obtain ⟨n, rfl⟩ : ∃ k, n = k + 1 := ⟨n - 1, by omega⟩
    show Zu.S0 _ _ _ _ _ _ _ _ _ = _
    unfold Zu.S0
    rw [lt_f (by omega), cond_false, List.take_length]
  | succ d ih =>
    intro i n hd hi hn
    obtain ⟨n, rfl⟩ : ∃ k, n = k + 1 := ⟨n - 1, by omega⟩
    have hlt : i < D.length := by omega
    have hsplit := Zj5 hlt
    have hil := congrArg List.length hsplit
    rw [List.length_append, List.length_append, Zso] at hil
    have ht := Zw3 (s := s) (t := D[i]) (pre := pre ++ Zia (D.take i)) (rest := Zia (D.drop (i + 1)) ++ tail) (by rw [hs, hsplit]; simp)
    have hf := ht.fit
    have h0 := ht.at0
    have hc := ht.cut
    have h3 := h32 D[i] (List.getElem_mem hlt)
    rw [List.length_append] at hf h0 hc
    have hnx : (Zia (D.take (i + 1))).length = (Zia (D.take i)).length + (1 + D[i].size) := by rw [take_one hlt, Zsm, List.length_append, Zso]
    show Zu.S0 o1 (Zu.l0 o1 n) _ _ _ _ _ _ _ = _
    unfold Zu.S0
    generalize hp : pre.length + (Zia (D.take i)).length = p at hf h0 hc
    rw [lt_t (by omega), cond_true, Zcb, le_f (by omega), cond_false, Zt (by omega), cond_true, h0, Zud (by omega), Zdd (by omega), le_f (by omega), cond_false, cond_true, Zv (a := (p : Int)) (b := 1) (by omega), show (p : Int) + 1 = ((p + 1 : Nat) : Int) by omega, Zv (by omega), show ((p + 1 : Nat) : Int) + (D[i].size : Int) = ((p + 1 + D[i].size : Nat) : Int) by omega,
      Zmc (by omega), cond_true, Zea (by rw [List.length_take]; omega), cond_true, hc, Zv (by omega), ← take_one hlt]
    have := ih (i + 1) n (by omega) (by omega) (by omega)
    rw [show pre.length + (Zia (D.take (i + 1))).length = p + 1 + D[i].size by omega] at this
    exact this
theorem Zmj1 {D : List ByteArray} {P : List Int} (hP : P.length ≤ 65536) (hPm : ∀ x ∈ P, 0 ≤ x ∧ x < (D.length : Int)) : ∀ (d i n : Nat), d = P.length - i → i ≤ P.length → d < n →
    Zu.l2 n (D.length : Int) D ((P.take i).map fun x => D.getD x.toNat eB) P (P.length : Int) (i : Int) = some (P.map fun x => D.getD x.toNat eB, 0) := by
  intro d
  induction d with
  | zero =>
    intro i n hd hi hn
    have : i = P.length := by omega
    subst this
    obtain ⟨n, rfl⟩ : ∃ k, n = k + 1 := ⟨n - 1, by omega⟩
    show Zu.S2 _ _ _ _ _ _ _ = _
    unfold Zu.S2
    rw [lt_f (by omega), cond_false, List.take_length]
  | succ d ih =>
    intro i n hd hi hn
    obtain ⟨n, rfl⟩ : ∃ k, n = k + 1 := ⟨n - 1, by omega⟩
    have hlt : i < P.length := by omega
    have hx := hPm P[i] (List.getElem_mem hlt)
    show Zu.S2 (Zu.l2 n) _ _ _ _ _ _ = _
    unfold Zu.S2
    rw [lt_t (by omega), cond_true, Zt (by rw [Zd]; omega), cond_true, Zba hlt, lt_f hx.1, cond_false, le_f hx.2, cond_false, Zt (by rw [Zd]; exact hx), cond_true, Zea (by rw [List.length_map, List.length_take]; omega), cond_true, Zv (by omega)]
    have := ih (i + 1) n (by omega) (by omega) (by omega)
    rw [take_one hlt, List.map_append] at this
    exact this
theorem Zc0 (l : List ByteArray) (hl : l.length ≤ 65536) (hsh : Short l) {s : ByteArray} (hs : Zf s = runTB l) : Zu s (l.length : Int) = some (l, 0) := by
  show Zu.S (Zu.l0 (Zu.t1 fu) fu) s _ = _
  unfold Zu.S
  unfold runTB at hs
  by_cases h0 : l.length = 0
  · rw [if_pos h0] at hs
    have hse : s = eB := size0.2 (by rw [← Zja, hs]; rfl)
    rw [eq_t (by omega), cond_true, eqS_t hse, List.eq_nil_of_length_eq_zero h0]
    rfl
  · rw [if_neg h0] at hs
    have hdl := Zdg l
    have hsp := Ztg l
    have hdp := hsp.pos (by omega)
    have hpl : (Zaa l).length = l.length := Zjf _ _
    have k1 := Zjd ((dictT l).length : Int)
    have k2 := Zwe _ hsh.dict
    obtain ⟨r1, r2, r3⟩ := Zej (Zaa l) (by omega)
    have k3 := Zqh (runO (Zaa l))
    have k4 := Zgf _ _ _ r3
    rw [r2] at k4
    have hsz : s.size = (vB ((dictT l).length : Int)).length + ((Zia (dictT l)).length + (runB (runO (Zaa l))).length) := by rw [← Zja, hs, List.length_append, List.length_append]
    rw [eq_f (by omega), cond_false, Zvg (by unfold in64; omega) hs, Option.bind_some]
    dsimp only
    rw [ne_f rfl, cond_false, lt_f (by omega), cond_false, lt_f (by omega), cond_false]
    have hloop := Zlj1 (D := dictT l) (by omega) hsh.dict hs (by omega) (o1 := Zu.t1 fu) (xn := (l.length : Int)) (size := ((dictT l).length : Int)) (dictT l).length 0 fu (by omega) (by omega) (by unfold fu; omega)
    rw [List.take_zero, show Zia [] = [] from rfl, List.length_nil, Nat.add_zero] at hloop
    rw [show (0 : Int) = ((0 : Nat) : Int) from rfl, hloop]
    show Zu.S1 (Zu.l2 18446744073709551615) s _ _ _ _ = _
    unfold Zu.S1
    have hcut : Zf (cutS s (((vB ((dictT l).length : Int)).length + (Zia (dictT l)).length : Nat) : Int) (lenS s)) = runB (runO (Zaa l)) := by
      have := Zwf (s := s) (a := vB ((dictT l).length : Int) ++ Zia (dictT l)) (rest := runB (runO (Zaa l))) (by rw [hs, List.append_assoc])
      rw [List.length_append] at this
      exact this
    have ht := Zwu (runO (Zaa l)) r3 (by rw [r2]; omega) (fun r hr => by
      have hm : r.1 ∈ Zaa l := r2 ▸ Zat r3 r hr
      have := Zim hsp r.1 hm
      unfold in64; omega) hcut
    rw [r2, hpl] at ht
    rw [Zmc (by rw [Zcb]; omega), cond_true, ht, Option.bind_some]
    dsimp only
    rw [ne_f rfl, cond_false, Zxu _ r3 (by rw [r2]; omega), r2, Option.bind_some]
    dsimp only
    rw [ne_f rfl, cond_false]
    have := Zmj1 (D := dictT l) (P := Zaa l) (by omega) (fun x hx => Zim hsp x hx) (Zaa l).length 0 18446744073709551615 (by omega) (by omega) (by omega)
    rw [Zh8 hsp eB] at this
    exact this
def wordB (l : List ByteArray) (code : Int) : Option (List Int) :=
  if code = 1 then some (Zia l)
  else if code = 4 then some (Zoj l (widN (Zaa l)))
  else if code = 2 then some (runTB l)
  else none
theorem Zu3 (l : List ByteArray) (hl : l.length ≤ 65536) (hsh : Short l) (code : Int) : Zhi l code = some (match wordB l code with | some b => (ofBytes b, 0) | none => (eB, 1)) := by
  have hpl : (Zaa l).length = l.length := Zjf _ _
  unfold Zhi wordB
  by_cases h1 : code = 1
  · rw [eq_t h1, cond_true, if_pos h1, Zmj l hl hsh]
    rfl
  · rw [eq_f h1, cond_false, if_neg h1]
    by_cases h4 : code = 4
    · obtain ⟨k1, k2, _⟩ := Zme (Zaa l) (by omega)
      rw [eq_t h4, cond_true, if_pos h4, Zd0 l hl hsh k1 k2]
      rfl
    · rw [eq_f h4, cond_false, if_neg h4]
      by_cases h2 : code = 2
      · rw [eq_t h2, cond_true, if_pos h2, Zd]
        unfold runTB
        by_cases h0 : l.length = 0
        · rw [eq_t (by omega), cond_true, if_pos h0]
          rfl
        · obtain ⟨r1, r2, r3⟩ := Zej (Zaa l) (by omega)
          have hdl := Zdg l
          have k1 := Zjd ((dictT l).length : Int)
          have k2 := Zwe _ hsh.dict
          have k3 := Zqh (runO (Zaa l))
          have k4 := Zgf _ _ _ r3
          rw [r2] at k4
          rw [eq_f (by omega), cond_false, if_neg h0, Zbo l hl (by omega), Option.bind_some]
          dsimp only
          rw [Zmj _ (by omega) hsh.dict, Option.bind_some]
          dsimp only
          rw [ne_f rfl, cond_false, r1, Option.bind_some, Zcz _ r3 (by rw [r2]; omega), Option.bind_some, Zd, Zof, Option.bind_some, Zid, Zbd]
          dsimp only
          have r1 : roomS (ofBytes (vB ((dictT l).length : Int))) (ofBytes (Zia (dictT l))) = true := decide_eq_true (by rw [Zo, Zo]; omega)
          have r2 : roomS (ofBytes (vB ((dictT l).length : Int) ++ Zia (dictT l))) (ofBytes (runB (runO (Zaa l)))) = true := decide_eq_true (by rw [Zo, Zo, List.length_append]; omega)
          rw [r1, r2, Zbd, cond_true, cond_true, List.append_assoc]
      · rw [eq_f h2, cond_false, if_neg h2]
theorem Zfn1 {l : List ByteArray} (hl : l.length ≤ 65536) (hsh : Short l) {code : Int} {b : List Int} (h : wordB l code = some b) : (∀ x ∈ b, 0 ≤ x ∧ x < 256) ∧ b.length ≤ 60 * l.length + 40 := by
  have hpl : (Zaa l).length = l.length := Zjf _ _
  have hdl := Zdg l
  have k1 := Zjd ((dictT l).length : Int)
  have k2 := Zwe _ hsh.dict
  unfold wordB at h
  split at h
  · cases h
    have := Zwe l hsh
    exact ⟨Zll l hsh, by omega⟩
  · split at h
    · cases h
      obtain ⟨_, w2, _⟩ := Zme (Zaa l) (by omega)
      have h3 : (packB (Zaa l) (widN (Zaa l))).length ≤ 8 * l.length := by
        rw [Zsd, hpl]
        have : l.length * widN (Zaa l) ≤ l.length * 64 := Nat.mul_le_mul_left _ w2
        omega
      unfold Zoj
      split
      · exact ⟨fun x hx => (by cases hx), by simp⟩
      · refine ⟨fun x hx => ?_, by rw [List.length_append, List.length_append]; omega⟩
        rcases List.mem_append.1 hx with hx | hx
        · exact Zwh _ x hx
        · rcases List.mem_append.1 hx with hx | hx
          · exact Zll _ hsh.dict x hx
          · exact Zxk _ _ x hx
    · split at h
      · cases h
        obtain ⟨r1, r2, r3⟩ := Zej (Zaa l) (by omega)
        have k3 := Zqh (runO (Zaa l))
        have k4 := Zgf _ _ _ r3
        rw [r2] at k4
        unfold runTB
        split
        · exact ⟨fun x hx => (by cases hx), by simp⟩
        · refine ⟨fun x hx => ?_, by rw [List.length_append, List.length_append]; omega⟩
          rcases List.mem_append.1 hx with hx | hx
          · exact Zwh _ x hx
          · rcases List.mem_append.1 hx with hx | hx
            · exact Zll _ hsh.dict x hx
            · exact Zct _ x hx
      · cases h
theorem Zv3 {l : List ByteArray} (hl : l.length ≤ 65536) (hsh : Short l) {code : Int} {b : List Int} (h : wordB l code = some b) {s : ByteArray} (hs : Zf s = b) : Zyj s (l.length : Int) code = some (l, 0) := by
  have hpl : (Zaa l).length = l.length := Zjf _ _
  unfold wordB at h
  unfold Zyj
  by_cases h1 : code = 1
  · rw [if_pos h1] at h
    cases h
    rw [eq_t h1, cond_true, Zju l hl hsh hs]
    rfl
  · rw [if_neg h1] at h
    rw [eq_f h1, cond_false]
    by_cases h4 : code = 4
    · rw [if_pos h4] at h
      cases h
      obtain ⟨k1, k2, k3⟩ := Zme (Zaa l) (by omega)
      rw [eq_f (by omega), cond_false, eq_t h4, cond_true, Zwy l hl hsh k2 k3 hs]
      rfl
    · rw [if_neg h4] at h
      by_cases h2 : code = 2
      · rw [if_pos h2] at h
        cases h
        rw [eq_t h2, cond_true, Zc0 l hl hsh hs]
        rfl
      · rw [if_neg h2] at h
        cases h
theorem Zgn1 (l : List ByteArray) (hl : l.length ≤ 65536) (h : Int × Int × Int × Int) (e : Int) : ∀ (d i n : Nat), d = l.length - i → i ≤ l.length → d < n →
    Zha.l1 n ((l.take i).map fun x => ((h.1, 0, x) : Cell)) e l (l.length : Int) (i : Int) h = some (l.map fun x => ((h.1, 0, x) : Cell), e) := by
  intro d
  induction d with
  | zero =>
    intro i n hd hi hn
    have : i = l.length := by omega
    subst this
    obtain ⟨n, rfl⟩ : ∃ k, n = k + 1 := ⟨n - 1, by omega⟩
    show Zha.S1 _ _ _ _ _ _ _ = _
    unfold Zha.S1
    rw [lt_f (by omega), cond_false, List.take_length]
  | succ d ih =>
    intro i n hd hi hn
    obtain ⟨n, rfl⟩ : ∃ k, n = k + 1 := ⟨n - 1, by omega⟩
    have hlt : i < l.length := by omega
    show Zha.S1 (Zha.l1 n) _ _ _ _ _ _ = _
    unfold Zha.S1
    rw [lt_t (by omega), cond_true, Zt (by rw [Zd]; omega), cond_true, Zea (by rw [List.length_map, List.length_take]; omega), cond_true, Zba hlt, Zv (by omega)]
    have := ih (i + 1) n (by omega) (by omega) (by omega)
    rw [take_one hlt, List.map_append] at this
    exact this
theorem Ze1 {s : ByteArray} {l : List ByteArray} (hl : l.length ≤ 65536) {code k n : Int} (hs : Zyj s n code = some (l, 0)) (m : Int) : Zha s n (2, code, m, k) = some (l.map fun x => ((2, 0, x) : Cell), 0) := by
  show Zha.S _ (Zha.l1 fu) s n _ = _
  unfold Zha.S
  dsimp only
  rw [eq_f (by omega), cond_false, eq_t rfl, cond_true, hs, Option.bind_some]
  exact Zgn1 l hl (2, code, m, k) 0 l.length 0 fu (by omega) (by omega) (by unfold fu; omega)
def valB (l : List Cell) (kind code : Int) : Option (List Int) := if kind = 1 then numB (numsC l) code else wordB (txtsC l) code
theorem Zf8 {l : List Cell} {kind : Int} (h : MayB l kind) : ∀ c ∈ restC l, (kind = 1 ∧ ∃ n, c = (1, n, eB)) ∨ (kind = 2 ∧ ∃ t, c = (2, 0, t) ∧ t.size ≤ 32) := fun c hc => by
  unfold restC at hc
  obtain ⟨h1, h2⟩ := List.mem_filter.1 hc
  obtain ⟨h3, h4⟩ := h.2.2.2 c h1
  rcases Zw8 h3 with rfl | ⟨n, rfl⟩ | ⟨t, rfl, ht⟩
  · exact absurd h2 (by decide)
  · rcases h4 with h4 | h4
    · exact absurd h4 (by show ¬ (1 : Int) = 0; decide)
    · exact .inl ⟨h4.symm, n, rfl⟩
  · rcases h4 with h4 | h4
    · exact absurd h4 (by show ¬ (2 : Int) = 0; decide)
    · exact .inr ⟨h4.symm, t, rfl, ht⟩
theorem Zop {l : List Cell} {kind : Int} (h : MayB l kind) : Short (txtsC (restC l)) := fun t ht => by
  obtain ⟨c, hc, rfl⟩ := List.mem_map.1 ht
  rcases Zf8 h c hc with ⟨_, n, rfl⟩ | ⟨_, t, rfl, h⟩
  · exact Nat.zero_le _
  · exact h
theorem Zrk {l : List Cell} {kind : Int} (h : MayB l kind) (code : Int) : Zla (restC l) kind code = some (match valB (restC l) kind code with | some b => (ofBytes b, 0) | none => (eB, 1)) := by
  have hle := Zkf l
  have h2 := h.2.1
  rw [Zf1 _ (by omega)]
  unfold valB
  by_cases hk : kind = 1
  · rw [eq_t hk, cond_true, if_pos hk, Ze0 _ (by rw [List.length_map]; omega)]
    rfl
  · rw [eq_f hk, cond_false, if_neg hk, Zu3 _ (by rw [List.length_map]; omega) (Zop h)]
theorem Zys {l : List Cell} {kind : Int} (h : MayB l kind) {code : Int} {b : List Int} (hb : valB (restC l) kind code = some b) : (∀ x ∈ b, 0 ≤ x ∧ x < 256) ∧ b.length ≤ 10000 := by
  have hle := Zkf l
  have h2 := h.2.1
  unfold valB at hb
  split at hb
  · obtain ⟨h3, h4⟩ := Zuz1 (by rw [List.length_map]; omega) hb
    rw [List.length_map] at h4
    exact ⟨h3, by omega⟩
  · obtain ⟨h3, h4⟩ := Zfn1 (by rw [List.length_map]; omega) (Zop h) hb
    rw [List.length_map] at h4
    exact ⟨h3, by omega⟩
theorem Zxm {l : List Cell} {kind code : Int} {b : List Int} (hb : valB l kind code = some b) : 1 ≤ code ∧ code ≤ 5 := by
  unfold valB numB wordB at hb
  repeat' split at hb
  all_goals first
    | omega
    | cases hb
theorem Zhf1 {l : List Cell} {kind code : Int} (h : MayB l kind) {b : List Int} (hb : valB (restC l) kind code = some b) : Zqe l kind code = some (ofBytes (sealB (blkT l kind code b)), 0) := by
  obtain ⟨h1, h2⟩ := Zys h hb
  have hc := Zxm hb
  exact Zmu h (by omega) (by omega) h1 (by rw [Zrk h, hb])
theorem Zpz1 {l : List Cell} {kind code : Int} (h : MayB l kind) (hb : valB (restC l) kind code = none) : Zqe l kind code = some (eB, 1) := by
  obtain ⟨h1, h2, _, _⟩ := id h
  unfold Zqe
  rw [Zlf1 h, Option.bind_some, Bool.not_true, cond_false, Zqq l (by omega) (by omega), Option.bind_some]
  dsimp only
  rw [Zrk h, hb, Option.bind_some]
  rfl
theorem Zqz1 {l : List Cell} {kind code : Int} (h : MayB l kind) (h64 : ∀ c ∈ l, in64 c.2.1) {b : List Int} (hb : valB (restC l) kind code = some b) :
    Ztf (ofBytes (sealB (blkT l kind code b))) = some (((kind, code, (l.length : Int), ((l.length - (restC l).length : Nat) : Int)), ofBytes (maskL l), ofBytes b, l), true) := by
  obtain ⟨h1, h2⟩ := Zys h hb
  have hc := Zxm hb
  have hle := Zkf l
  have hm := h.2.1
  refine Zh7 h (by omega) (by omega) h1 (by rw [Zrk h, hb]) fun s hs k => ?_
  unfold valB at hb
  rcases h.2.2.1 with rfl | rfl
  · rw [if_pos rfl] at hb
    have h3 := Zi7 (by rw [List.length_map]; omega) (fun x hx => by
      obtain ⟨c, hc, rfl⟩ := List.mem_map.1 hx
      unfold restC at hc
      exact h64 c (List.mem_filter.1 hc).1) hb hs
    rw [List.length_map] at h3
    rw [Zg1 (by rw [List.length_map]; omega) h3 (l.length : Int), List.map_map]
    congr 2
    conv => rhs; rw [← List.map_id (restC l)]
    apply List.map_congr_left
    intro c hc
    rcases Zf8 h c hc with ⟨_, n, rfl⟩ | ⟨h, _⟩
    · rfl
    · omega
  · rw [if_neg (by omega)] at hb
    have h3 := Zv3 (by rw [List.length_map]; omega) (Zop h) hb hs
    rw [List.length_map] at h3
    rw [Ze1 (by rw [List.length_map]; omega) h3 (l.length : Int), List.map_map]
    congr 2
    conv => rhs; rw [← List.map_id (restC l)]
    apply List.map_congr_left
    intro c hc
    rcases Zf8 h c hc with ⟨h, _⟩ | ⟨_, t, rfl, _⟩
    · omega
    · rfl
end Go.AM.Pure
end

section
/- The document's words of few bits: the same bytes as pack.Put's; which cells are nulls; plain numbers. -/
namespace Go.AM.Pure
open Go.AM
theorem Zf91 (x : Int) : ∀ (m k n : Nat), m = k → k ≤ 64 → m < n → x % 18446744073709551616 < 2 ^ k →
    ∃ v : Nat, Zzc.l0 n ((k : Int) - 1) (bitsOf x) = some (v : Int) ∧ v ≤ 64 ∧ Wd [x] v := by
  intro m
  induction m with
  | zero =>
    intro k n hk hk64 hn hlt
    subst hk
    obtain ⟨n, rfl⟩ : ∃ j, n = j + 1 := ⟨n - 1, by omega⟩
    refine ⟨0, ?_, by omega, ⟨fun y hy => ?_, .inl rfl⟩⟩
    · show Zzc.S0 _ _ _ = _
      unfold Zzc.S0
      rw [le_f (by omega)]
      rfl
    · rw [List.mem_singleton.1 hy]; exact hlt
  | succ m ih =>
    intro k n hk hk64 hn hlt
    subst hk
    obtain ⟨n, rfl⟩ : ∃ j, n = j + 1 := ⟨n - 1, by omega⟩
    have hlen := Zbg x
    have hb := Zyg x (k := m) (by omega)
    have hd : decide (64 = (bitsOf x).length) = true := decide_eq_true hlen.symm
    have hmod := mod_pow_succ (x % 18446744073709551616) m
    rw [Int.emod_eq_of_lt (by omega) hlt, Zrg x (by omega)] at hmod
    show ∃ v : Nat, Zzc.S0 (Zzc.l0 n) _ _ = _ ∧ _
    unfold Zzc.S0
    rw [show ((m + 1 : Nat) : Int) - 1 = (m : Int) by omega, le_t (by omega), cond_true, Zt (by omega), hd, Bool.true_and, cond_true, show Int.toNat (m : Int) = m from rfl, hb]
    have hp := Zgc m
    have hr : 0 ≤ x % 18446744073709551616 % 2 ^ m ∧ x % 18446744073709551616 % 2 ^ m < 2 ^ m := ⟨Int.emod_nonneg _ (by omega), Int.emod_lt_of_pos _ hp⟩
    by_cases hbit : bit x m = true
    · rw [hbit, if_pos rfl] at hmod
      rw [hbit, cond_true, Zv (by omega)]
      refine ⟨m + 1, by rw [Int.natCast_add]; rfl, by omega, ⟨fun y hy => ?_, .inr ⟨x, List.mem_singleton.2 rfl, ?_⟩⟩⟩
      · rw [List.mem_singleton.1 hy]; exact hlt
      · rw [Nat.add_sub_cancel]; omega
    · rw [Bool.not_eq_true] at hbit
      rw [hbit] at hmod
      rw [hbit, cond_false, Zdd (by omega)]
      exact ih m n rfl (by omega) (by omega) (by
        rw [if_neg (by decide)] at hmod
        omega)
theorem Zr3 (x : Int) : ∃ v : Nat, Zzc x = some (v : Int) ∧ v ≤ 64 ∧ Wd [x] v := by
  unfold Zzc Zzc.S
  rw [Zgi, Option.bind_some]
  exact Zf91 x 64 64 fu rfl (by omega) (by unfold fu; omega) (by rw [show (2 : Int) ^ 64 = 18446744073709551616 from rfl]; omega)
theorem Zg91 {l : List Int} {x : Int} {w v : Nat} (h : Wd l w) (k : Wd [x] v) : Wd (l ++ [x]) (max w v) := by
  have hx := k.1 x (List.mem_singleton.2 rfl)
  have pw : ∀ a b : Nat, a ≤ b → (2 : Int) ^ a ≤ 2 ^ b := fun a b h => by
    have := Nat.pow_le_pow_right (show 0 < 2 by omega) h
    exact_mod_cast this
  constructor
  · intro y hy
    rcases List.mem_append.1 hy with hy | hy
    · have := h.1 y hy
      have := pw w (max w v) (by omega)
      omega
    · rw [List.mem_singleton.1 hy]
      have := pw v (max w v) (by omega)
      omega
  · by_cases hwv : v ≤ w
    · rw [show max w v = w by omega]
      rcases h.2 with h2 | ⟨y, hy, h2⟩
      · exact .inl h2
      · exact .inr ⟨y, List.mem_append_left _ hy, h2⟩
    · rw [show max w v = v by omega]
      rcases k.2 with h2 | ⟨y, hy, h2⟩
      · omega
      · rw [List.mem_singleton.1 hy] at h2
        exact .inr ⟨x, by simp, h2⟩
theorem Zh91 (l : List Int) (hl : l.length ≤ 65536) : ∀ (d i n w : Nat), d = l.length - i → i ≤ l.length → d < n → w ≤ 64 → Wd (l.take i) w →
    ∃ v : Nat, Zsc.l0 n l (w : Int) (i : Int) = some (v : Int) ∧ Wd l v := by
  intro d
  induction d with
  | zero =>
    intro i n w hd hi hn hw h
    have : i = l.length := by omega
    subst this
    obtain ⟨n, rfl⟩ : ∃ k, n = k + 1 := ⟨n - 1, by omega⟩
    rw [List.take_length] at h
    refine ⟨w, ?_, h⟩
    show Zsc.S0 _ _ _ _ = _
    unfold Zsc.S0
    rw [Zd, lt_f (by omega), cond_false]
  | succ d ih =>
    intro i n w hd hi hn hw h
    obtain ⟨n, rfl⟩ : ∃ k, n = k + 1 := ⟨n - 1, by omega⟩
    have hlt : i < l.length := by omega
    obtain ⟨v, h1, h2, h3⟩ := Zr3 l[i]
    show ∃ u : Nat, Zsc.S0 (Zsc.l0 n) _ _ _ = _ ∧ _
    unfold Zsc.S0
    have hm : maxI (w : Int) (v : Int) = ((max w v : Nat) : Int) := by unfold maxI; split <;> omega
    rw [Zd, lt_t (by omega), cond_true, Zt (by omega), cond_true, Zba hlt, h1, Option.bind_some, hm, Zv (by omega)]
    exact ih (i + 1) n (max w v) (by omega) (by omega) (by omega) (by omega) (by rw [take_one hlt]; exact Zg91 h h3)
theorem Zdj (l : List Int) (hl : l.length ≤ 65536) : Zsc l = some (widN l : Int) := by
  obtain ⟨v, h1, h2⟩ := Zh91 l hl l.length 0 fu 0 (by omega) (by omega) (by unfold fu; omega) (by omega) ⟨fun y hy => by simp at hy, .inl rfl⟩
  rw [h2.unique (Zme l hl).2.2] at h1
  exact h1
theorem Zd1 : ∀ (n : Nat) (s : List Bool), s = [] → chop n s = List.replicate n 0
  | 0, _, _ => rfl
  | n + 1, s, h => by
    subst h
    rw [Znh, List.replicate_succ]
    congr 1
    exact Zd1 n _ rfl
theorem Zen1 (n : Nat) (A : List Bool) (b : Bool) (h : A.length < 8 * n) :
    chop n (A ++ [b]) = if b = true then (chop n A).set (A.length / 8) ((chop n A).getD (A.length / 8) 0 + 2 ^ (A.length % 8)) else chop n A := by
  have hlen := Zlf n A
  have hk : A.length / 8 < n := by omega
  have base : ∀ j, j < n → (chop n (A ++ [b])).getD j 0 = if j = A.length / 8 ∧ b = true then (chop n A).getD j 0 + 2 ^ (A.length % 8) else (chop n A).getD j 0 := by
    intro j hj
    rw [List.getD_eq_getElem?_getD, List.getD_eq_getElem?_getD, Zjm n _ j hj, Zjm n _ j hj]
    show numOf _ = if _ then numOf _ + _ else numOf _
    rcases Nat.lt_trichotomy j (A.length / 8) with hlt | heq | hgt
    · rw [if_neg (by omega), List.drop_append_of_le_length (by omega), List.take_append_of_le_length (by rw [List.length_drop]; omega)]
    · rw [List.drop_append_of_le_length (by omega)]
      have hdl : (A.drop (8 * j)).length = A.length % 8 := by rw [List.length_drop]; omega
      rw [List.take_of_length_le (by rw [List.length_append, hdl, List.length_singleton]; omega), List.take_of_length_le (l := A.drop (8 * j)) (by omega), Zdo, hdl]
      by_cases hb : b = true
      · rw [if_pos (⟨heq, hb⟩ : j = A.length / 8 ∧ b = true)]
        simp [hb]
      · rw [if_neg (fun h : j = A.length / 8 ∧ b = true => hb h.2)]
        simp [hb]
    · rw [if_neg (by omega), List.drop_eq_nil_of_le (by rw [List.length_append, List.length_singleton]; omega), List.drop_eq_nil_of_le (by omega)]
  apply List.ext_getElem
  · split
    · rw [Zlf, List.length_set, Zlf]
    · rw [Zlf, Zlf]
  · intro j h1 h2
    have hj : j < n := by rwa [Zlf] at h1
    have hb := base j hj
    rw [List.getD_eq_getElem?_getD, List.getElem?_eq_getElem h1] at hb
    have hb : (chop n (A ++ [b]))[j] = _ := hb
    rw [hb]
    have hg : (chop n A).getD j 0 = (chop n A)[j]'(by rw [hlen]; exact hj) := by rw [List.getD_eq_getElem?_getD, List.getElem?_eq_getElem (by rw [hlen]; exact hj)]; rfl
    by_cases hbt : b = true
    · subst hbt
      simp only [if_pos]
      rw [List.getElem_set]
      by_cases hj2 : A.length / 8 = j
      · rw [if_pos (⟨hj2.symm, trivial⟩ : j = A.length / 8 ∧ True), if_pos hj2, hj2]
      · rw [if_neg (fun h : j = A.length / 8 ∧ True => hj2 h.1.symm), if_neg hj2, hg]
    · simp only [if_neg hbt]
      rw [if_neg (fun h => hbt h.2), hg]
theorem or_u8 {a : Int} {k : Nat} (hk : k < 8) (h0 : 0 ≤ a) (h1 : a < 2 ^ k) : orI .u8 a (shlI .u8 1 (k : Int)) = a + 2 ^ k := by
  have : ∀ k : Fin 8, ∀ a : Fin 256, (a.val : Int) < 2 ^ k.val → orI .u8 (a.val : Int) (shlI .u8 1 (k.val : Int)) = (a.val : Int) + 2 ^ k.val := by decide +kernel
  have h2 : (2 : Int) ^ k ≤ 2 ^ 8 := by
    have := Nat.pow_le_pow_right (show 0 < 2 by omega) (show k ≤ 8 by omega)
    exact_mod_cast this
  rw [show (2 : Int) ^ 8 = 256 from rfl] at h2
  have := this ⟨k, hk⟩ ⟨a.toNat, by omega⟩
  simp only [show ((a.toNat : Nat) : Int) = a by omega] at this
  exact this h1
theorem quo8 (a : Nat) (h : a < 1000000000000) : quoI .i64 (a : Int) 8 = ((a / 8 : Nat) : Int) := by
  unfold quoI
  rw [show Int.tdiv (a : Int) 8 = ((a / 8 : Nat) : Int) from rfl]
  exact Zud (by omega)
theorem rem8 (a : Nat) : remI (a : Int) 8 = ((a % 8 : Nat) : Int) := rfl
theorem Zi91 {l : List Int} {i k : Nat} (hi : i < l.length) : wb l[i] (k + 1) = wb l[i] k ++ [bit l[i] k] := by
  unfold wb
  rw [List.range_succ, List.map_append]
  rfl
theorem Zhj1 (l : List Int) {w : Nat} (hw : w ≤ 64) (hl : l.length ≤ 65536) {i : Nat} (hi : i < l.length) {o0 : List Int → Int → Int → List Int → Option (ByteArray × Int)} : ∀ (d k n : Nat), d = w - k → k ≤ w → d < n →
    Zhb.l1 o0 n l (w : Int) (i : Int) (k : Int) (chop ((l.length * w + 7) / 8) (strm (l.take i) w ++ wb l[i] k)) = o0 l (w : Int) ((i : Int) + 1) (chop ((l.length * w + 7) / 8) (strm (l.take (i + 1)) w)) := by
  intro d
  induction d with
  | zero =>
    intro k n hd hk hn
    have : k = w := by omega
    subst this
    obtain ⟨n, rfl⟩ : ∃ j, n = j + 1 := ⟨n - 1, by omega⟩
    show Zhb.S1 _ _ _ _ _ _ _ = _
    unfold Zhb.S1
    rw [lt_f (by omega), cond_false, Zv (by omega), take_one hi, Zqp]
  | succ d ih =>
    intro k n hd hk hn
    obtain ⟨n, rfl⟩ : ∃ j, n = j + 1 := ⟨n - 1, by omega⟩
    have hkw : k < w := by omega
    have hal : (strm (l.take i) w ++ wb l[i] k).length = i * w + k := by rw [List.length_append, Zlg, Zte, List.length_take]; congr 2; omega
    have h1 : i * w + w ≤ l.length * w := by
      have := Nat.mul_le_mul_right w (show i + 1 ≤ l.length by omega)
      rw [Nat.succ_mul] at this
      exact this
    have h2 : l.length * w ≤ 65536 * 64 := Nat.mul_le_mul hl hw
    have hfit : i * w + k < 8 * ((l.length * w + 7) / 8) := by omega
    have hmore := Zen1 ((l.length * w + 7) / 8) (strm (l.take i) w ++ wb l[i] k) (bit l[i] k) (by omega)
    rw [List.append_assoc, ← Zi91 hi, hal] at hmore
    have hlen := Zlf ((l.length * w + 7) / 8) (strm (l.take i) w ++ wb l[i] k)
    have hat : addI .i64 (mulI .i64 (i : Int) (w : Int)) (k : Int) = ((i * w + k : Nat) : Int) := by
      have e1 : mulI .i64 (i : Int) (w : Int) = ((i * w : Nat) : Int) := by
        rw [show mulI .i64 (i : Int) (w : Int) = IntKind.wrap .i64 ((i : Int) * (w : Int)) from rfl, ← Int.natCast_mul]
        exact Zud (by omega)
      rw [e1, Zv (by omega)]; omega
    show Zhb.S1 o0 (Zhb.l1 o0 n) _ _ _ _ _ = _
    unfold Zhb.S1
    rw [lt_t (by omega), cond_true, Zd, Zt (by omega), cond_true, le_t (by omega), cond_true, Zba hi, ofBit _ _ (by omega), hat, quo8 _ (by omega), rem8, Zd, hlen, Zt (by omega), le_t (by omega), Zv (by omega)]
    have hih := ih (k + 1) n (by omega) (by omega) (by omega)
    rw [hmore] at hih
    by_cases hb : bit l[i] k = true
    · rw [if_pos hb] at hih
      rw [hb]
      simp only [cond_true]
      have hg0 : (chop ((l.length * w + 7) / 8) (strm (l.take i) w ++ wb l[i] k)).getD ((i * w + k) / 8) 0 = numOf (((strm (l.take i) w ++ wb l[i] k).drop (8 * ((i * w + k) / 8))).take 8) := by
        rw [List.getD_eq_getElem?_getD, Zjm _ _ _ (by omega)]
        rfl
      have hnb := Zbe (((strm (l.take i) w ++ wb l[i] k).drop (8 * ((i * w + k) / 8))).take 8)
      have hnl : (((strm (l.take i) w ++ wb l[i] k).drop (8 * ((i * w + k) / 8))).take 8).length = (i * w + k) % 8 := by rw [List.length_take, List.length_drop, hal]; omega
      rw [hnl] at hnb
      rw [show Int.toNat (((i * w + k) / 8 : Nat) : Int) = (i * w + k) / 8 from rfl, or_u8 (by omega) (by rw [hg0]; exact hnb.1) (by rw [hg0]; exact hnb.2)]
      exact hih
    · rw [if_neg hb] at hih
      rw [Bool.not_eq_true] at hb
      rw [hb, cond_false]
      exact hih
theorem Zij1 (l : List Int) {w : Nat} (hw : w ≤ 64) (hl : l.length ≤ 65536) : ∀ (d i n : Nat), d = l.length - i → i ≤ l.length → 70 < n →
    Zhb.l0 (n + d) l (w : Int) (i : Int) (chop ((l.length * w + 7) / 8) (strm (l.take i) w)) = some (ofBytes (packB l w), 0) := by
  intro d
  induction d with
  | zero =>
    intro i n hd hi hn
    have : i = l.length := by omega
    subst this
    obtain ⟨n, rfl⟩ : ∃ k, n = k + 1 := ⟨n - 1, by omega⟩
    show Zhb.S0 _ _ _ _ _ = _
    unfold Zhb.S0
    rw [Zd, lt_f (by omega), cond_false, List.take_length]
    rfl
  | succ d ih =>
    intro i n hd hi hn
    have hlt : i < l.length := by omega
    show Zhb.S0 (Zhb.l1 (Zhb.l0 (n + d)) (n + d)) _ _ _ _ = _
    unfold Zhb.S0
    rw [Zd, lt_t (by omega), cond_true]
    have := Zhj1 l hw hl hlt (o0 := Zhb.l0 (n + d)) w 0 (n + d) (by omega) (by omega) (by omega)
    rw [Zof1, List.append_nil] at this
    rw [show (0 : Int) = ((0 : Nat) : Int) from rfl, this]
    exact ih (i + 1) n (by omega) (by omega) (by omega)
theorem Zs3 (n w : Nat) (hn : n ≤ 65536) (hw : w ≤ 64) : Zdq (n : Int) (w : Int) = (((n * w + 7) / 8 : Nat) : Int) := by
  unfold Zdq
  by_cases h0 : n = 0
  · subst h0
    rw [lt_t (by omega), cond_true, Nat.zero_mul]
    rfl
  · rw [lt_f (by omega), cond_false, lt_f (by omega), cond_false]
    by_cases h1 : w = 0
    · subst h1
      rw [lt_t (by omega), cond_true, Nat.mul_zero]
      rfl
    · have h2 : n * w ≤ 65536 * 64 := Nat.mul_le_mul hn hw
      have e1 : mulI .i64 (n : Int) (w : Int) = ((n * w : Nat) : Int) := by
        rw [show mulI .i64 (n : Int) (w : Int) = IntKind.wrap .i64 ((n : Int) * (w : Int)) from rfl, ← Int.natCast_mul]
        exact Zud (by omega)
      rw [lt_f (by omega), cond_false, lt_f (by omega), cond_false, e1, Zv (by omega), show ((n * w : Nat) : Int) + 7 = ((n * w + 7 : Nat) : Int) by omega, quo8 _ (by omega)]
theorem Zkl (l : List Int) {w : Nat} (hw : w ≤ 64) (hl : l.length ≤ 65536) (hvw : widN l ≤ w) : Zhb l (w : Int) = some (ofBytes (packB l w), 0) := by
  have h2 : l.length * w ≤ 65536 * 64 := Nat.mul_le_mul hl hw
  show Zhb.S (Zhb.l0 fu) l (w : Int) = _
  unfold Zhb.S
  rw [lt_f (by omega), cond_false, lt_f (by omega), cond_false, Zd, lt_f (by omega), cond_false, Zdj l hl, Option.bind_some, lt_f (by omega), cond_false, Zs3 _ _ hl hw]
  dsimp only
  rw [le_t (by omega), Zea (by show (l.length * w + 7) / 8 * 1 ≤ _; omega)]
  have := Zij1 l hw hl l.length 0 (fu - l.length) (by omega) (by omega) (by unfold fu; omega)
  rw [show fu - l.length + l.length = fu by unfold fu; omega, List.take_zero, show strm [] w = [] from rfl, Zd1 _ _ rfl] at this
  exact this
theorem Znp (p : List Int) (hl : p.length ≤ 65536) : Zvl p = some (ofBytes (packB p (widN p))) := by
  unfold Zvl
  rw [Zdj p hl, Option.bind_some, Zkl p (Zme p hl).2.1 hl (Nat.le_refl _)]
  rfl
theorem Zjj1 (l : List Cell) (c : Cell) : nbits (l ++ [c]) = nbits l ++ [if isN c then 1 else 0] := by unfold nbits; rw [List.map_append]; rfl
theorem Zd8 (l : List Cell) (hl : l.length ≤ 65536) : ∀ (d i n : Nat), d = l.length - i → i ≤ l.length → d < n →
    Znb.l0 (Znb.t1 fu) n l (restC (l.take i)) (nbits (l.take i)) (i : Int) = Znb.S1 l (restC l) (nbits l) := by
  intro d
  induction d with
  | zero =>
    intro i n hd hi hn
    have : i = l.length := by omega
    subst this
    obtain ⟨n, rfl⟩ : ∃ k, n = k + 1 := ⟨n - 1, by omega⟩
    show Znb.S0 Znb.S1 _ _ _ _ _ = _
    unfold Znb.S0
    rw [Zd, lt_f (by omega), cond_false, List.take_length]
  | succ d ih =>
    intro i n hd hi hn
    obtain ⟨n, rfl⟩ : ∃ k, n = k + 1 := ⟨n - 1, by omega⟩
    have hlt : i < l.length := by omega
    have h1 := Zkf (l.take i)
    rw [List.length_take] at h1
    have hih := ih (i + 1) n (by omega) (by omega) (by omega)
    rw [take_one hlt, Zdt, Zjj1] at hih
    show Znb.S0 (Znb.t1 fu) (Znb.l0 (Znb.t1 fu) n) _ _ _ _ = _
    unfold Znb.S0
    rw [Zd, lt_t (by omega), cond_true, Zt (by omega), cond_true, Zba hlt, Zea (by rw [Zxc, List.length_take]; omega), cond_true, cond_true, cond_true, Zea (by omega), cond_true, Zv (by omega)]
    by_cases hz : isN l[i] = true
    · have hz0 : l[i].1 = 0 := of_decide_eq_true (show decide (l[i].1 = 0) = true from hz)
      rw [if_pos hz, if_pos hz, List.append_nil] at hih
      rw [eq_t hz0, cond_true]
      exact hih
    · have hz0 : ¬ l[i].1 = 0 := fun h => hz (decide_eq_true h)
      rw [if_neg hz, if_neg hz] at hih
      rw [eq_f hz0, cond_false]
      exact hih
theorem Zkj1 (l : List Cell) (hl : l.length ≤ 65536) : widN (nbits l) ≤ 1 := by
  obtain ⟨_, _, h1, h2⟩ := Zme (nbits l) (by rw [Zxc]; exact hl)
  rcases h2 with h2 | ⟨x, hx, h2⟩
  · omega
  · have hx := Zan x hx
    by_cases h : widN (nbits l) ≤ 1
    · exact h
    · have : (2 : Int) ^ 1 ≤ 2 ^ (widN (nbits l) - 1) := by
        have := Nat.pow_le_pow_right (show 0 < 2 by omega) (show 1 ≤ widN (nbits l) - 1 by omega)
        exact_mod_cast this
      rw [show (2 : Int) ^ 1 = 2 from rfl] at this
      omega
theorem Zmq (l : List Cell) (hl : l.length ≤ 65536) : Znb l = some (ofBytes (maskL l), restC l) := by
  have h := Zd8 l hl l.length 0 fu (by omega) (by omega) (by unfold fu; omega)
  rw [List.take_zero] at h
  refine Eq.trans (show Znb l = _ from h) ?_
  have hle := Zkf l
  unfold Znb.S1 maskL
  rw [Zd, Zd]
  by_cases hf : (restC l).length = l.length
  · rw [eq_t (by omega), cond_true, (Zp5 hf).2]
    rfl
  · have hany : l.any isN = true := by
      cases ha : l.any isN with
      | true => rfl
      | false =>
        exfalso
        apply hf
        unfold restC
        rw [List.filter_eq_self.2 fun c hc => by
          have := List.any_eq_false.1 ha c hc
          simpa using this]
    rw [eq_f (by omega), cond_false, hany, if_pos rfl, show (1 : Int) = ((1 : Nat) : Int) from rfl, Zkl (nbits l) (by omega) (by rw [Zxc]; exact hl) (Zkj1 l hl)]
    rfl
theorem Zke1 (l : List Cell) (hl : l.length ≤ 65536) : ∀ (d i n : Nat), d = l.length - i → i ≤ l.length → d < n →
    Zxd.l0 n l (numsC (l.take i)) (i : Int) = some (numsC l) := by
  intro d
  induction d with
  | zero =>
    intro i n hd hi hn
    have : i = l.length := by omega
    subst this
    obtain ⟨n, rfl⟩ : ∃ k, n = k + 1 := ⟨n - 1, by omega⟩
    show Zxd.S0 _ _ _ _ = _
    unfold Zxd.S0
    rw [Zd, lt_f (by omega), cond_false, List.take_length]
  | succ d ih =>
    intro i n hd hi hn
    obtain ⟨n, rfl⟩ : ∃ k, n = k + 1 := ⟨n - 1, by omega⟩
    have hlt : i < l.length := by omega
    have hih := ih (i + 1) n (by omega) (by omega) (by omega)
    rw [take_one hlt, show numsC (l.take i ++ [l[i]]) = numsC (l.take i) ++ [l[i].2.1] from List.map_append] at hih
    show Zxd.S0 (Zxd.l0 n) _ _ _ = _
    unfold Zxd.S0
    rw [Zd, lt_t (by omega), cond_true, Zt (by omega), cond_true, Zba hlt, Zea (by rw [List.length_map, List.length_take]; omega), cond_true, Zv (by omega)]
    exact hih
theorem Zf7 (l : List Cell) (hl : l.length ≤ 65536) : Zxd l = some (numsC l) := Zke1 l hl l.length 0 fu (by omega) (by omega) (by unfold fu; omega)
theorem Ze8 (l : List Cell) (hl : l.length ≤ 65536) : ∀ (d i n : Nat), d = l.length - i → i ≤ l.length → d < n →
    Zqd.l0 n l (txtsC (l.take i)) (i : Int) = some (txtsC l) := by
  intro d
  induction d with
  | zero =>
    intro i n hd hi hn
    have : i = l.length := by omega
    subst this
    obtain ⟨n, rfl⟩ : ∃ k, n = k + 1 := ⟨n - 1, by omega⟩
    show Zqd.S0 _ _ _ _ = _
    unfold Zqd.S0
    rw [Zd, lt_f (by omega), cond_false, List.take_length]
  | succ d ih =>
    intro i n hd hi hn
    obtain ⟨n, rfl⟩ : ∃ k, n = k + 1 := ⟨n - 1, by omega⟩
    have hlt : i < l.length := by omega
    have hih := ih (i + 1) n (by omega) (by omega) (by omega)
    rw [take_one hlt, show txtsC (l.take i ++ [l[i]]) = txtsC (l.take i) ++ [l[i].2.2] from List.map_append] at hih
    show Zqd.S0 (Zqd.l0 n) _ _ _ = _
    unfold Zqd.S0
    rw [Zd, lt_t (by omega), cond_true, Zt (by omega), cond_true, Zba hlt, Zea (by rw [List.length_map, List.length_take]; omega), cond_true, Zv (by omega)]
    exact hih
theorem Zt3 (l : List Cell) (hl : l.length ≤ 65536) : Zqd l = some (txtsC l) := Ze8 l hl l.length 0 fu (by omega) (by omega) (by unfold fu; omega)
end Go.AM.Pure
end
