import Derived.Test.YtlamhllcnbcbbaaGreatSTypes
import Derived.Test.YtlamhllcnbcbbaaGreatAmPrimW
import Derived.Test.YtlamhllcnbcbbaaGreatAmPrimB
import Derived.Test.YtlamhllcnbcbbaaGreatAmPrimS
import Derived.Shelf.Strings.BuilderK
/- The library's functions of this seat that are taken by the kit's contracts. PRINTED by gen/ of this repo. -/
namespace Go.Proofs.YtlamhllcnbcbbaaGreat.Am
open Go.AM Go.Shelf
open Go.RowKit (Below)
open Go.Sort (grow)
theorem extraB : Builder.Extra Tryz.prog lays169_ren where
  sizeBuilder := by kernel_rfl
  liesBuilder := by kernel_rfl
  t5 := Tryz.underlying5
  a5 := Tryz.isAgg5
  z5 := Tryz.sizeOf5
  v5 := Tryz.zeroValue5
  infoByte := by kernel_rfl
  cellsByte := by kernel_rfl
  sizeByte := by kernel_rfl
  neB5 := by decide
theorem extraC : Builder.X72 Tryz.prog lays240_ren where
  sizeBuilder := by kernel_rfl
  liesBuilder := by kernel_rfl
@[reducible] def sp_bld_check : AM.Spec := AM.specIo 0 [.io bldT [(1, 0)]] [(bldT, [⟨1, 1, 0, 0⟩])] (fun x => some (bldUse x.1))
theorem c_bld_check : Contract Tryz.prog (lays240_ren.f 240) sp_bld_check := bld_check lays240 extraC rfl
@[reducible] def sp_bld_String : AM.Spec := AM.specIo 1 [.io bldT [(1, 0)]] [(.str, []), (bldT, [])] (fun x => bldStr x.1)
theorem c_bld_String : Contract Tryz.prog (lays169_ren.f 169) sp_bld_String := bld_string lays169 extraB rfl rfl
@[reducible] def sp_slices_Clone_int : AM.Spec := AM.specBx (.int .i64) (cloneL 8)
theorem c_slices_Clone_int : Contract Tryz.prog (cloneI_ren.f 41) sp_slices_Clone_int :=
  clone_of (ET := cloneI_ren.t 23) rfl (by decide) fun b off n c news w h1 h2 h3 h4 h5 => AnyE.slices_Clone cloneI Tryz.t3 _ _ 8 (by kernel_rfl) rfl rfl rfl (by kernel_rfl) (by decide) Tryz.sizeOf3 b off n c news w h1 h2 h3 h4 h5
@[reducible] def sp_slices_Clone_string : AM.Spec := AM.specBx .str (cloneL 16)
theorem c_slices_Clone_string : Contract Tryz.prog (cloneS_ren.f 41) sp_slices_Clone_string :=
  clone_of (ET := cloneS_ren.t 23) rfl (by decide) fun b off n c news w h1 h2 h3 h4 h5 => AnyE.slices_Clone cloneS Tryz.t9 _ _ 16 (by kernel_rfl) rfl rfl rfl (by kernel_rfl) (by decide) Tryz.sizeOf9 b off n c news w h1 h2 h3 h4 h5
@[reducible] def sp_slices_Clone_t41 : AM.Spec := AM.specBx (.pair (.int .i64) (.pair (.int .i64) .str)) (cloneL 32)
theorem c_slices_Clone_t41 : Contract Tryz.prog (cloneC_ren.f 41) sp_slices_Clone_t41 :=
  clone_of (ET := cloneC_ren.t 23) rfl (by decide) fun b off n c news w h1 h2 h3 h4 h5 => AnyE.slices_Clone cloneC Tryz.t34 _ _ 32 (by kernel_rfl) rfl rfl rfl (by kernel_rfl) (by decide) Tryz.sizeOf34 b off n c news w h1 h2 h3 h4 h5
@[reducible] def sp_slices_Sort_int : AM.Spec := AM.specIo 0 [.ioa (.int .i64)] [(.sl (.int .i64), [])] (fun x => sortI x.1)
theorem c_slices_Sort_int : Contract Tryz.prog (lays189_ren.f 189) sp_slices_Sort_int :=
  sort_of (e := .int .i64) (enc := Value.int .i64) (fr := fun x => x) (to := fun x => x) rfl (fun _ => rfl) (fun _ => rfl) fun x y h w b cap hH hb => by
    unfold sortI at h
    cases hd : decide (x.length < 4611686018427387904) with
    | false => rw [hd] at h; cases h
    | true =>
      rw [hd] at h
      cases h
      rw [List.map_id'] at hH
      refine (Any.slices_Sort_int lays189 b 0 cap x w hH hb (of_decide_eq_true hd)).mono ?_
      rintro r w' ⟨rfl, n, os, hw⟩
      exact ⟨rfl, n, os, _, hw, List.length_mergeSort _, (List.map_id' _).symm⟩
@[reducible] def sp_slices_Sort_string : AM.Spec := AM.specIo 0 [.ioa .str] [(.sl .str, [])] (fun x => sortS x.1)
theorem c_slices_Sort_string : Contract Tryz.prog (lays190_ren.f 190) sp_slices_Sort_string :=
  sort_of (e := .str) (enc := encStr) (fr := fun s : ByteArray => s.data.toList) (to := bytesL) rfl (fun _ => rfl) (fun _ => rfl) fun x y h w b cap hH hb => by
    unfold sortS at h
    cases hd : decide (List.length (α := ByteArray) x < 4611686018427387904) with
    | false => rw [hd] at h; cases h
    | true =>
      rw [hd] at h
      cases h
      have h1 := Any.slices_Sort_string lays190 b 0 cap (List.map (fun s : ByteArray => s.data.toList) x) w hH hb (by rw [List.length_map]; exact of_decide_eq_true hd)
      rw [List.length_map] at h1
      refine h1.mono ?_
      rintro r w' ⟨rfl, n, os, hw⟩
      exact ⟨rfl, n, os, _, hw, (List.length_mergeSort _).trans (List.length_map _), rfl⟩
@[reducible] def sp_slices_Compact_int : AM.Spec := AM.specSl 0 [.ioa (.int .i64)] [(.int .i64, []), (.sl (.int .i64), [])] (fun x => compI x.1)
theorem c_slices_Compact_int : Contract Tryz.prog (lays2_20_ren.f 20) sp_slices_Compact_int :=
  comp_of (e := .int .i64) (enc := Value.int .i64) (fr := fun x => x) (to := fun x => x) rfl (fun _ => rfl) (fun _ => rfl) fun x y h w b cap hH hcap => by
    unfold compI at h
    cases hd : decide (x.length ≤ 9223372036854775807) with
    | false => rw [hd] at h; cases h
    | true =>
      rw [hd] at h
      cases h
      rw [List.map_id'] at hH
      refine (Any.slices_Compact_int lays2_20 b 0 cap x w hH (of_decide_eq_true hd) hcap).mono ?_
      rintro r w' ⟨rfl, n, hw⟩
      have hle := compact_le x
      exact ⟨_, _, hle, rfl, ⟨n, hw⟩, by rw [List.length_append, List.length_replicate]; omega, by rw [List.map_id']⟩
@[reducible] def sp_slices_Compact_string : AM.Spec := AM.specSl 0 [.ioa .str] [(.int .i64, []), (.sl .str, [])] (fun x => compS x.1)
theorem c_slices_Compact_string : Contract Tryz.prog (lays194_ren.f 194) sp_slices_Compact_string :=
  comp_of (e := .str) (enc := encStr) (fr := fun s : ByteArray => s.data.toList) (to := bytesL) rfl (fun _ => rfl) (fun _ => rfl) fun x y h w b cap hH hcap => by
    unfold compS at h
    cases hd : decide (List.length (α := ByteArray) x ≤ 9223372036854775807) with
    | false => rw [hd] at h; cases h
    | true =>
      rw [hd] at h
      cases h
      have h1 := Any.slices_Compact_string lays194 b 0 cap (List.map (fun s : ByteArray => s.data.toList) x) w hH (by rw [List.length_map]; exact of_decide_eq_true hd) (by rw [List.length_map]; exact hcap)
      rw [List.length_map] at h1
      refine h1.mono ?_
      rintro r w' ⟨rfl, n, hw⟩
      have hle := compact_le (List.map (fun s : ByteArray => s.data.toList) x)
      rw [List.length_map] at hle
      exact ⟨_, _, hle, rfl, ⟨n, hw⟩, by rw [List.length_append, List.length_replicate]; omega, rfl⟩
end Go.Proofs.YtlamhllcnbcbbaaGreat.Am
