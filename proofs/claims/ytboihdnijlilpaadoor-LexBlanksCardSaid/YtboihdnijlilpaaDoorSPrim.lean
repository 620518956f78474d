import Derived.Test.YtboihdnijlilpaaDoorSTypes
import Derived.Test.YtboihdnijlilpaaDoorAmPrimW
import Derived.Test.YtboihdnijlilpaaDoorAmPrimB
import Derived.Shelf.Strconv.Itoa3
import Derived.Shelf.Strings.Replace
import Derived.Shelf.Strconv.AtoiAll
import Derived.Shelf.Strings.Trim
import Derived.Shelf.Strings.Search3
import Derived.Shelf.Strings.BuilderK
/- The library's functions of this seat that are taken by the kit's contracts. PRINTED by gen/ of this repo. -/
namespace Go.Proofs.YtboihdnijlilpaaDoor.Am
open Go.AM Go.Shelf
open Go.RowKit (Below)
open Go.Sort (grow)
theorem below_grow (w : World) (k : Nat) (os : Array Obj) : Below w.heap.size w (grow (w.drewN k) os) :=
  ⟨rfl, rfl, rfl, by show w.heap.size ≤ (w.heap ++ os).size; rw [Array.size_append]; omega, fun i hi => by
    show (w.heap ++ os)[i]? = w.heap[i]?
    rw [Array.getElem?_append_left hi]⟩
theorem below_bytes (w : World) (T : TypeId) (s : ByteArray) : Below w.heap.size w (Lib.bytesWorld w T s) :=
  ⟨rfl, rfl, rfl, by rw [Lib.bytesWorld_size]; omega, fun k hk => Lib.bytesWorld_at_old w T s k hk⟩
theorem extraB : Builder.Extra Tryd.prog lays155_ren where
  sizeBuilder := by kernel_rfl
  liesBuilder := by kernel_rfl
  t5 := Tryd.underlying5
  a5 := Tryd.isAgg5
  z5 := Tryd.sizeOf5
  v5 := Tryd.zeroValue5
  infoByte := by kernel_rfl
  cellsByte := by kernel_rfl
  sizeByte := by kernel_rfl
  neB5 := by decide
@[reducible] def sp_strconv_Itoa : AM.Spec := AM.spec [.val (.int .i64)] [(.str, [])] (fun x => itoaS x.1)
theorem c_strconv_Itoa : Contract Tryd.prog (lays171_ren.f 171) sp_strconv_Itoa :=
  prim_of (ps := [.int .i64]) (rs := [.str]) rfl rfl fun x y h z w hz => by
    unfold itoaS at h
    cases hb : (leI (-9223372036854775808) x.1 && leI x.1 9223372036854775807) with
    | false => rw [hb] at h; cases h
    | true =>
      rw [hb] at h
      cases h
      rw [Bool.and_eq_true] at hb
      have h0 : -9223372036854775808 ≤ x.1 := of_decide_eq_true hb.1
      have h1 : x.1 ≤ 9223372036854775807 := of_decide_eq_true hb.2
      refine (Any.strconv_Itoa lays171 x.1 h0 h1 w hz.f_pow10).mono ?_
      rintro e w' ⟨rfl, k, os, rfl⟩
      exact ⟨rfl, below_grow _ _ _⟩
@[reducible] def sp_strings_ReplaceAll : AM.Spec := AM.spec [.val .str, .val .str, .val .str] [(.str, [])] (fun x => replS x.1 x.2.1 x.2.2.1)
theorem c_strings_ReplaceAll : Contract Tryd.prog (lays155_ren.f 155) sp_strings_ReplaceAll :=
  prim_of (ps := [.str, .str, .str]) (rs := [.str]) rfl rfl fun x y h z w hz => by
    unfold replS at h
    cases hb : (decide (x.1.size < 4294967281) && (decide (1 ≤ x.2.1.size) && decide (x.1.size + Lib.countB x.1 x.2.1 * x.2.2.1.size ≤ 140737488355328))) with
    | false => rw [hb] at h; cases h
    | true =>
      rw [hb] at h
      cases h
      rw [Bool.and_eq_true, Bool.and_eq_true] at hb
      obtain ⟨m, hm⟩ := hz.f_maxlen
      refine (Any.strings_ReplaceAll { lays155 with } extraB x.1 x.2.1 x.2.2.1 m w (of_decide_eq_true hb.1) hm (of_decide_eq_true hb.2.1) (of_decide_eq_true hb.2.2)).mono ?_
      rintro e w' ⟨rfl, hw⟩
      exact ⟨rfl, hw⟩
@[reducible] def sp_strconv_Atoi : AM.Spec := AM.spec [.val .str] [(.int .i64, []), (.lk true, [])] (fun x => atoiS x.1)
theorem c_strconv_Atoi : Contract Tryd.prog (lays172_ren.f 172) sp_strconv_Atoi :=
  prim_of' (ps := [.str]) (rs := [.int .i64, .lk true]) rfl fun x y h z w hz => by
    unfold atoiS at h
    cases hb : decide (x.1.size ≤ 281474976710656) with
    | false => rw [hb] at h; cases h
    | true =>
      rw [hb] at h
      have hlim : x.1.size ≤ 281474976710656 := of_decide_eq_true hb
      dsimp only [cond] at h
      split at h
      · rename_i v hv
        cases h
        refine (Any.strconv_Atoi_ok lays172 x.1 (by omega) v hv w).mono ?_
        rintro e w' ⟨rfl, hw⟩
        refine ⟨⟨[.int .i64 v, .nilIface], ⟨resV_sc (t := .int .i64) rfl v, resV_err (.inl ⟨rfl, rfl⟩)⟩, rfl⟩, ?_⟩
        rcases hw with rfl | ⟨t, rfl⟩
        · exact Below.refl _ _
        · exact below_bytes _ _ _
      · rename_i hv
        cases h
        obtain ⟨te, pe, hev⟩ := hz.f_syntax
        refine (Any.strconv_Atoi_syntax lays172 x.1 hlim hv _ w hev (.inr ⟨_, _, rfl⟩)).mono ?_
        rintro e w' ⟨N, rfl, _, _, hw⟩
        exact ⟨⟨[.int .i64 0, _], ⟨resV_sc (t := .int .i64) rfl _, resV_err (.inr ⟨rfl, _, _, rfl⟩)⟩, rfl⟩, hw⟩
      · rename_i hv
        cases h
        obtain ⟨te, pe, hev⟩ := hz.f_range
        refine (Any.strconv_Atoi_range lays172 x.1 hlim hv _ w hev (.inr ⟨_, _, rfl⟩)).mono ?_
        rintro e w' ⟨N, rfl, _, _, hw⟩
        exact ⟨⟨[.int .i64 _, _], ⟨resV_sc (t := .int .i64) rfl _, resV_err (.inr ⟨rfl, _, _, rfl⟩)⟩, rfl⟩, hw⟩
@[reducible] def sp_strings_TrimLeft : AM.Spec := AM.spec [.val .str, .val .str] [(.str, [])] (fun x => trimS x.1 x.2.1)
theorem c_strings_TrimLeft : Contract Tryd.prog (lays161_ren.f 161) sp_strings_TrimLeft :=
  prim_of (ps := [.str, .str]) (rs := [.str]) rfl rfl fun x y h z w hz => by
    unfold trimS at h
    split at h
    · rename_i c hc
      cases hb : decide (c.toNat < 128) with
      | false => rw [hb] at h; cases h
      | true =>
        rw [hb] at h
        cases h
        have hx : x.2.1 = ⟨#[c]⟩ := by
          have : x.2.1.data = #[c] := Array.ext' hc
          cases hq : x.2.1 with
          | mk d => rw [hq] at this; dsimp only at this; rw [this]
        have := (Any.strings_TrimLeft_one lays161 x.1 c (of_decide_eq_true hb) w).mono (R' := fun e w' => e = .returned (retV (scVs [.str] _)) ∧ Below w.heap.size w w') (by
          rintro e w' ⟨rfl, rfl⟩
          exact ⟨rfl, Below.refl _ _⟩)
        rw [← hx] at this
        exact this
    · cases h
@[reducible] def sp_strings_Contains : AM.Spec := AM.spec [.val .str, .val .str] [(.bool, [])] (fun x => hasS x.1 x.2.1)
theorem c_strings_Contains : Contract Tryd.prog (lays144_ren.f 144) sp_strings_Contains :=
  prim_of (ps := [.str, .str]) (rs := [.bool]) rfl rfl fun x y h z w hz => by
    unfold hasS at h
    cases hb : (decide (x.2.1.size < 4294967281) && decide (x.1.size < 4294967281)) with
    | false => rw [hb] at h; cases h
    | true =>
      rw [hb] at h
      cases h
      rw [Bool.and_eq_true] at hb
      obtain ⟨m, hm⟩ := hz.f_maxlen
      refine (Any.strings_Contains { lays144 with } x.1 x.2.1 m w (of_decide_eq_true hb.2) hm).mono ?_
      rintro e w' ⟨rfl, rfl⟩
      exact ⟨rfl, Below.refl _ _⟩
@[reducible] def sp_bld_check : AM.Spec := AM.specIo 0 [.io bldT [(1, 0)]] [(bldT, [⟨1, 1, 0, 0⟩])] (fun x => some (bldUse x.1))
theorem c_bld_check : Contract Tryd.prog (lays155_ren.f 240) sp_bld_check := bld_check { lays155 with } extraB.toX72 rfl
@[reducible] def sp_bld_String : AM.Spec := AM.specIo 1 [.io bldT [(1, 0)]] [(.str, []), (bldT, [])] (fun x => bldStr x.1)
theorem c_bld_String : Contract Tryd.prog (lays155_ren.f 169) sp_bld_String := bld_string { lays155 with } extraB rfl rfl
end Go.Proofs.YtboihdnijlilpaaDoor.Am
