import Derived.Test.YtlamhllcnbcbbaaGreatSTypes
import Derived.Test.YtlamhllcnbcbbaaGreatAmPrimW
import Derived.Test.YtlamhllcnbcbbaaGreatAmPrimB
import Derived.Test.YtlamhllcnbcbbaaGreatAmPrimS
import Derived.Shelf.Strings.BuilderK
/- The library's functions of this seat that are taken by the kit's contracts. PRINTED by gen/ of this repo. -/
namespace Go.Proofs.YtlamhllcnbcbbaaGreat.Am
open Go.AM Go.Shelf
open Go.RowKit (Below)
open Go.Sort (grow)
theorem Zmm2 : Builder.Extra Tryz.prog Zhq where
  sizeBuilder := by kernel_rfl
  liesBuilder := by kernel_rfl
  t5 := Tryz.underlying5
  a5 := Tryz.isAgg5
  z5 := Tryz.sizeOf5
  v5 := Tryz.zeroValue5
  infoByte := by kernel_rfl
  cellsByte := by kernel_rfl
  sizeByte := by kernel_rfl
  neB5 := by decide
theorem Znm2 : Builder.X72 Tryz.prog Ziq where
  sizeBuilder := by kernel_rfl
  liesBuilder := by kernel_rfl
@[reducible] def Zcp : AM.Spec := AM.Zdf 0 [.io bldT [(1, 0)]] [(bldT, [⟨1, 1, 0, 0⟩])] (fun x => some (Zsj x.1))
theorem Zgz : Zj Tryz.prog (Ziq.f 240) Zcp := Ziz1 Zfg2 Znm2 rfl
@[reducible] def Zpk : AM.Spec := AM.Zdf 1 [.io bldT [(1, 0)]] [(.str, []), (bldT, [])] (fun x => Zsi x.1)
theorem Zdp : Zj Tryz.prog (Zhq.f 169) Zpk := Ztm1 Zeg2 Zmm2 rfl rfl
@[reducible] def Zfm : AM.Spec := AM.Ztx (.int .i64) (Zng 8)
theorem Zyw : Zj Tryz.prog (Zau.f 41) Zfm :=
  Zy0 (ET := Zau.t 23) rfl (by decide) fun b off n c news w h1 h2 h3 h4 h5 => AnyE.slices_Clone Zeo2 Tryz.t3 _ _ 8 (by kernel_rfl) rfl rfl rfl (by kernel_rfl) (by decide) Tryz.sizeOf3 b off n c news w h1 h2 h3 h4 h5
@[reducible] def Zbk : AM.Spec := AM.Ztx .str (Zng 16)
theorem Zrs : Zj Tryz.prog (Zzt.f 41) Zbk :=
  Zy0 (ET := Zzt.t 23) rfl (by decide) fun b off n c news w h1 h2 h3 h4 h5 => AnyE.slices_Clone Zdo2 Tryz.t9 _ _ 16 (by kernel_rfl) rfl rfl rfl (by kernel_rfl) (by decide) Tryz.sizeOf9 b off n c news w h1 h2 h3 h4 h5
@[reducible] def Zgm : AM.Spec := AM.Ztx (.pair (.int .i64) (.pair (.int .i64) .str)) (Zng 32)
theorem Zzw : Zj Tryz.prog (Zyt.f 41) Zgm :=
  Zy0 (ET := Zyt.t 23) rfl (by decide) fun b off n c news w h1 h2 h3 h4 h5 => AnyE.slices_Clone Zco2 Tryz.t34 _ _ 32 (by kernel_rfl) rfl rfl rfl (by kernel_rfl) (by decide) Tryz.sizeOf34 b off n c news w h1 h2 h3 h4 h5
@[reducible] def Zsn : AM.Spec := AM.Zdf 0 [.ioa (.int .i64)] [(.sl (.int .i64), [])] (fun x => sortI x.1)
theorem Zyy : Zj Tryz.prog (Zvz.f 189) Zsn :=
  Zti1 (e := .int .i64) (enc := Value.int .i64) (fr := fun x => x) (to := fun x => x) rfl (fun _ => rfl) (fun _ => rfl) fun x y h w b cap hH hb => by
    unfold sortI at h
    cases hd : decide (x.length < 4611686018427387904) with
    | false => rw [hd] at h; cases h
    | true =>
      rw [hd] at h
      cases h
      rw [List.map_id'] at hH
      refine (Any.slices_Sort_int Zgg2 b 0 cap x w hH hb (of_decide_eq_true hd)).mono ?_
      rintro r w' ⟨rfl, n, os, hw⟩
      exact ⟨rfl, n, os, _, hw, List.length_mergeSort _, (List.map_id' _).symm⟩
@[reducible] def Zdl : AM.Spec := AM.Zdf 0 [.ioa .str] [(.sl .str, [])] (fun x => sortS x.1)
theorem Zkt : Zj Tryz.prog (Zwz.f 190) Zdl :=
  Zti1 (e := .str) (enc := encStr) (fr := fun s : ByteArray => s.data.toList) (to := Zxh) rfl (fun _ => rfl) (fun _ => rfl) fun x y h w b cap hH hb => by
    unfold sortS at h
    cases hd : decide (List.length (α := ByteArray) x < 4611686018427387904) with
    | false => rw [hd] at h; cases h
    | true =>
      rw [hd] at h
      cases h
      have h1 := Any.slices_Sort_string Zhg2 b 0 cap (List.map (fun s : ByteArray => s.data.toList) x) w hH hb (by rw [List.length_map]; exact of_decide_eq_true hd)
      rw [List.length_map] at h1
      refine h1.mono ?_
      rintro r w' ⟨rfl, n, os, hw⟩
      exact ⟨rfl, n, os, _, hw, (List.length_mergeSort _).trans (List.length_map _), rfl⟩
@[reducible] def Zel : AM.Spec := AM.Zen 0 [.ioa (.int .i64)] [(.int .i64, []), (.sl (.int .i64), [])] (fun x => compI x.1)
theorem Zlt : Zj Tryz.prog (Zrx.f 20) Zel :=
  Zui1 (e := .int .i64) (enc := Value.int .i64) (fr := fun x => x) (to := fun x => x) rfl (fun _ => rfl) (fun _ => rfl) fun x y h w b cap hH hcap => by
    unfold compI at h
    cases hd : decide (x.length ≤ 9223372036854775807) with
    | false => rw [hd] at h; cases h
    | true =>
      rw [hd] at h
      cases h
      rw [List.map_id'] at hH
      refine (Any.slices_Compact_int Zx81 b 0 cap x w hH (of_decide_eq_true hd) hcap).mono ?_
      rintro r w' ⟨rfl, n, hw⟩
      have hle := Zp3 x
      exact ⟨_, _, hle, rfl, ⟨n, hw⟩, by rw [List.length_append, List.length_replicate]; omega, by rw [List.map_id']⟩
@[reducible] def Zui : AM.Spec := AM.Zen 0 [.ioa .str] [(.int .i64, []), (.sl .str, [])] (fun x => compS x.1)
theorem Zlp : Zj Tryz.prog (Zxz.f 194) Zui :=
  Zui1 (e := .str) (enc := encStr) (fr := fun s : ByteArray => s.data.toList) (to := Zxh) rfl (fun _ => rfl) (fun _ => rfl) fun x y h w b cap hH hcap => by
    unfold compS at h
    cases hd : decide (List.length (α := ByteArray) x ≤ 9223372036854775807) with
    | false => rw [hd] at h; cases h
    | true =>
      rw [hd] at h
      cases h
      have h1 := Any.slices_Compact_string Zig2 b 0 cap (List.map (fun s : ByteArray => s.data.toList) x) w hH (by rw [List.length_map]; exact of_decide_eq_true hd) (by rw [List.length_map]; exact hcap)
      rw [List.length_map] at h1
      refine h1.mono ?_
      rintro r w' ⟨rfl, n, hw⟩
      have hle := Zp3 (List.map (fun s : ByteArray => s.data.toList) x)
      rw [List.length_map] at hle
      exact ⟨_, _, hle, rfl, ⟨n, hw⟩, by rw [List.length_append, List.length_replicate]; omega, rfl⟩
end Go.Proofs.YtlamhllcnbcbbaaGreat.Am
