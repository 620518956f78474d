import Derived.Test.YtlamhllcnbcbbaaGreatSTypes
import Derived.Test.YtlamhllcnbcbbaaGreatAmPrimW
import Derived.Test.YtlamhllcnbcbbaaGreatAmPrimB
import Derived.Test.YtlamhllcnbcbbaaGreatAmPrimS
import Derived.Shelf.Strings.BuilderK
/- The library's functions of this seat that are taken by the kit's contracts. PRINTED by gen/ of this repo. -/
namespace Go.Proofs.YtlamhllcnbcbbaaGreat.Am
open Go.AM Go.Shelf
open Go.RowKit (Below)
open Go.Sort (grow)
theorem Zs12 : Builder.Extra Tryz.prog Zjq where
  sizeBuilder := by kernel_rfl
  liesBuilder := by kernel_rfl
  t5 := Tryz.underlying5
  a5 := Tryz.isAgg5
  z5 := Tryz.sizeOf5
  v5 := Tryz.zeroValue5
  infoByte := by kernel_rfl
  cellsByte := by kernel_rfl
  sizeByte := by kernel_rfl
  neB5 := by decide
theorem Zt12 : Builder.X72 Tryz.prog Zkq where
  sizeBuilder := by kernel_rfl
  liesBuilder := by kernel_rfl
@[reducible] def Zep : AM.Spec := AM.Zaf 0 [.io bldT [(1, 0)]] [(bldT, [⟨1, 1, 0, 0⟩])] (fun x => some (Zrj x.1))
theorem Zy0 : Zg Tryz.prog (Zkq.f 240) Zep := Za71 Zou2 Zt12 rfl
@[reducible] def Zok : AM.Spec := AM.Zaf 1 [.io bldT [(1, 0)]] [(.str, []), (bldT, [])] (fun x => Zoi x.1)
theorem Zfp : Zg Tryz.prog (Zjq.f 169) Zok := Zpq1 Znu2 Zs12 rfl rfl
@[reducible] def Zhm : AM.Spec := AM.Zcz (.int .i64) (Zpg 8)
theorem Zhy : Zg Tryz.prog (Ziu.f 41) Zhm :=
  Zt2 (ET := Ziu.t 23) rfl (by decide) fun b off n c news w h1 h2 h3 h4 h5 => AnyE.slices_Clone Zk32 Tryz.t3 _ _ 8 (by kernel_rfl) rfl rfl rfl (by kernel_rfl) (by decide) Tryz.sizeOf3 b off n c news w h1 h2 h3 h4 h5
@[reducible] def Zzj : AM.Spec := AM.Zcz .str (Zpg 16)
theorem Zys : Zg Tryz.prog (Zhu.f 41) Zzj :=
  Zt2 (ET := Zhu.t 23) rfl (by decide) fun b off n c news w h1 h2 h3 h4 h5 => AnyE.slices_Clone Zj32 Tryz.t9 _ _ 16 (by kernel_rfl) rfl rfl rfl (by kernel_rfl) (by decide) Tryz.sizeOf9 b off n c news w h1 h2 h3 h4 h5
@[reducible] def Zim : AM.Spec := AM.Zcz (.pair (.int .i64) (.pair (.int .i64) .str)) (Zpg 32)
theorem Ziy : Zg Tryz.prog (Zgu.f 41) Zim :=
  Zt2 (ET := Zgu.t 23) rfl (by decide) fun b off n c news w h1 h2 h3 h4 h5 => AnyE.slices_Clone Zi32 Tryz.t34 _ _ 32 (by kernel_rfl) rfl rfl rfl (by kernel_rfl) (by decide) Tryz.sizeOf34 b off n c news w h1 h2 h3 h4 h5
@[reducible] def Zun : AM.Spec := AM.Zaf 0 [.ioa (.int .i64)] [(.sl (.int .i64), [])] (fun x => sortI x.1)
theorem Zq0 : Zg Tryz.prog (Zn1.f 189) Zun :=
  Zam1 (e := .int .i64) (enc := Value.int .i64) (fr := fun x => x) (to := fun x => x) rfl (fun _ => rfl) (fun _ => rfl) fun x y h w b cap hH hb => by
    unfold sortI at h
    cases hd : decide (x.length < 4611686018427387904) with
    | false => rw [hd] at h; cases h
    | true =>
      rw [hd] at h
      cases h
      rw [List.map_id'] at hH
      refine (Any.slices_Sort_int Zpu2 b 0 cap x w hH hb (of_decide_eq_true hd)).mono ?_
      rintro r w' ⟨rfl, n, os, hw⟩
      exact ⟨rfl, n, os, _, hw, List.length_mergeSort _, (List.map_id' _).symm⟩
@[reducible] def Zbl : AM.Spec := AM.Zaf 0 [.ioa .str] [(.sl .str, [])] (fun x => sortS x.1)
theorem Zst : Zg Tryz.prog (Zo1.f 190) Zbl :=
  Zam1 (e := .str) (enc := encStr) (fr := fun s : ByteArray => s.data.toList) (to := Zuh) rfl (fun _ => rfl) (fun _ => rfl) fun x y h w b cap hH hb => by
    unfold sortS at h
    cases hd : decide (List.length (α := ByteArray) x < 4611686018427387904) with
    | false => rw [hd] at h; cases h
    | true =>
      rw [hd] at h
      cases h
      have h1 := Any.slices_Sort_string Zqu2 b 0 cap (List.map (fun s : ByteArray => s.data.toList) x) w hH hb (by rw [List.length_map]; exact of_decide_eq_true hd)
      rw [List.length_map] at h1
      refine h1.mono ?_
      rintro r w' ⟨rfl, n, os, hw⟩
      exact ⟨rfl, n, os, _, hw, (List.length_mergeSort _).trans (List.length_map _), rfl⟩
@[reducible] def Zcl : AM.Spec := AM.Zen 0 [.ioa (.int .i64)] [(.int .i64, []), (.sl (.int .i64), [])] (fun x => compI x.1)
theorem Ztt : Zg Tryz.prog (Zaz.f 20) Zcl :=
  Zbm1 (e := .int .i64) (enc := Value.int .i64) (fr := fun x => x) (to := fun x => x) rfl (fun _ => rfl) (fun _ => rfl) fun x y h w b cap hH hcap => by
    unfold compI at h
    cases hd : decide (x.length ≤ 9223372036854775807) with
    | false => rw [hd] at h; cases h
    | true =>
      rw [hd] at h
      cases h
      rw [List.map_id'] at hH
      refine (Any.slices_Compact_int Zjl2 b 0 cap x w hH (of_decide_eq_true hd) hcap).mono ?_
      rintro r w' ⟨rfl, n, hw⟩
      have hle := Zz5 x
      exact ⟨_, _, hle, rfl, ⟨n, hw⟩, by rw [List.length_append, List.length_replicate]; omega, by rw [List.map_id']⟩
@[reducible] def Zri : AM.Spec := AM.Zen 0 [.ioa .str] [(.int .i64, []), (.sl .str, [])] (fun x => compS x.1)
theorem Zop : Zg Tryz.prog (Zp1.f 194) Zri :=
  Zbm1 (e := .str) (enc := encStr) (fr := fun s : ByteArray => s.data.toList) (to := Zuh) rfl (fun _ => rfl) (fun _ => rfl) fun x y h w b cap hH hcap => by
    unfold compS at h
    cases hd : decide (List.length (α := ByteArray) x ≤ 9223372036854775807) with
    | false => rw [hd] at h; cases h
    | true =>
      rw [hd] at h
      cases h
      have h1 := Any.slices_Compact_string Zru2 b 0 cap (List.map (fun s : ByteArray => s.data.toList) x) w hH (by rw [List.length_map]; exact of_decide_eq_true hd) (by rw [List.length_map]; exact hcap)
      rw [List.length_map] at h1
      refine h1.mono ?_
      rintro r w' ⟨rfl, n, hw⟩
      have hle := Zz5 (List.map (fun s : ByteArray => s.data.toList) x)
      rw [List.length_map] at hle
      exact ⟨_, _, hle, rfl, ⟨n, hw⟩, by rw [List.length_append, List.length_replicate]; omega, rfl⟩
end Go.Proofs.YtlamhllcnbcbbaaGreat.Am
