import Derived.Test.YtlamhllcnbcbbaaGreatSTypes
import Derived.Test.YtlamhllcnbcbbaaGreatAmPrimW
import Derived.Test.YtlamhllcnbcbbaaGreatAmPrimB
import Derived.Test.YtlamhllcnbcbbaaGreatAmPrimS
import Derived.Shelf.Strings.BuilderK
/- The library's functions of this seat that are taken by the kit's contracts. PRINTED by gen/ of this repo. -/
namespace Go.Proofs.YtlamhllcnbcbbaaGreat.Am
open Go.AM Go.Shelf
open Go.RowKit (Below)
open Go.Sort (grow)
theorem Zbk3:Builder.Extra Tryz.prog Zit where
  sizeBuilder:=by kernel_rfl
  liesBuilder:=by kernel_rfl
  t5:=Tryz.underlying5
  a5:=Tryz.isAgg5
  z5:=Tryz.sizeOf5
  v5:=Tryz.zeroValue5
  infoByte:=by kernel_rfl
  cellsByte:=by kernel_rfl
  sizeByte:=by kernel_rfl
  neB5:=by decide
theorem Zck3:Builder.X72 Tryz.prog Zjt where
  sizeBuilder:=by kernel_rfl
  liesBuilder:=by kernel_rfl
@[reducible] def Zds : AM.Spec := AM.Zog 0 [.io bldT [(1, 0)]] [(bldT, [⟨1, 1, 0, 0⟩])] (fun x => some (Zjm x.1))
theorem Zz5:Zi Tryz.prog (Zjt.f 240) Zds:=Zmj2 Zdc3 Zck3 rfl
@[reducible] def Zdn : AM.Spec := AM.Zog 1 [.io bldT [(1, 0)]] [(.str, []), (bldT, [])] (fun x => Zal x.1)
theorem Zes:Zi Tryz.prog (Zit.f 169) Zdn:=Zmz1 Zcc3 Zbk3 rfl rfl
@[reducible] def Zso : AM.Spec := AM.Zy3 (.int .i64) (Zli 8)
theorem Zd3:Zi Tryz.prog (Zyx.f 41) Zso:=
  Zu7 (ET:=Zyx.t 23) rfl (by decide) fun b off n c news w h1 h2 h3 h4 h5=>AnyE.slices_Clone Zrl3 Tryz.t3 _ _ 8 (by kernel_rfl) rfl rfl rfl (by kernel_rfl) (by decide) Tryz.sizeOf3 b off n c news w h1 h2 h3 h4 h5
@[reducible] def Zqm : AM.Spec := AM.Zy3 .str (Zli 16)
theorem Zgw:Zi Tryz.prog (Zxx.f 41) Zqm:=
  Zu7 (ET:=Zxx.t 23) rfl (by decide) fun b off n c news w h1 h2 h3 h4 h5=>AnyE.slices_Clone Zql3 Tryz.t9 _ _ 16 (by kernel_rfl) rfl rfl rfl (by kernel_rfl) (by decide) Tryz.sizeOf9 b off n c news w h1 h2 h3 h4 h5
@[reducible] def Zto : AM.Spec := AM.Zy3 (.pair (.int .i64) (.pair (.int .i64) .str)) (Zli 32)
theorem Ze3:Zi Tryz.prog (Zwx.f 41) Zto:=
  Zu7 (ET:=Zwx.t 23) rfl (by decide) fun b off n c news w h1 h2 h3 h4 h5=>AnyE.slices_Clone Zpl3 Tryz.t34 _ _ 32 (by kernel_rfl) rfl rfl rfl (by kernel_rfl) (by decide) Tryz.sizeOf34 b off n c news w h1 h2 h3 h4 h5
@[reducible] def Zgq : AM.Spec := AM.Zog 0 [.ioa (.int .i64)] [(.sl (.int .i64), [])] (fun x => sortI x.1)
theorem Zq5:Zi Tryz.prog (Zo6.f 189) Zgq:=
  Zdu1 (e:= .int .i64) (enc:=Value.int .i64) (fr:=fun x=>x) (to:=fun x=>x) rfl (fun _=>rfl) (fun _=>rfl) fun x y h w b cap hH hb=>by
    unfold sortI at h
    cases hd:decide (x.length<4611686018427387904) with
    | false=>rw [hd] at h;cases h
    | true=>
      rw [hd] at h
      cases h
      rw [List.map_id'] at hH
      refine (Any.slices_Sort_int Zec3 b 0 cap x w hH hb (of_decide_eq_true hd)).mono ?_
      rintro r w' ⟨rfl,n,os,hw⟩
      exact ⟨rfl,n,os,_,hw,List.length_mergeSort _,(List.map_id' _).symm⟩
@[reducible] def Zrn : AM.Spec := AM.Zog 0 [.ioa .str] [(.sl .str, [])] (fun x => sortS x.1)
theorem Zix:Zi Tryz.prog (Zp6.f 190) Zrn:=
  Zdu1 (e:= .str) (enc:=encStr) (fr:=fun s:ByteArray=>s.data.toList) (to:=Zbk) rfl (fun _=>rfl) (fun _=>rfl) fun x y h w b cap hH hb=>by
    unfold sortS at h
    cases hd:decide (List.length (α:=ByteArray) x<4611686018427387904) with
    | false=>rw [hd] at h;cases h
    | true=>
      rw [hd] at h
      cases h
      have h1:=Any.slices_Sort_string Zfc3 b 0 cap (List.map (fun s:ByteArray=>s.data.toList) x) w hH hb (by rw [List.length_map];exact of_decide_eq_true hd)
      rw [List.length_map] at h1
      refine h1.mono ?_
      rintro r w' ⟨rfl,n,os,hw⟩
      exact ⟨rfl,n,os,_,hw,(List.length_mergeSort _).trans (List.length_map _),rfl⟩
@[reducible] def Zsn : AM.Spec := AM.Zsp 0 [.ioa (.int .i64)] [(.int .i64, []), (.sl (.int .i64), [])] (fun x => compI x.1)
theorem Zjx:Zi Tryz.prog (Zw3.f 20) Zsn:=
  Zeu1 (e:= .int .i64) (enc:=Value.int .i64) (fr:=fun x=>x) (to:=fun x=>x) rfl (fun _=>rfl) (fun _=>rfl) fun x y h w b cap hH hcap=>by
    unfold compI at h
    cases hd:decide (x.length≤9223372036854775807) with
    | false=>rw [hd] at h;cases h
    | true=>
      rw [hd] at h
      cases h
      rw [List.map_id'] at hH
      refine (Any.slices_Compact_int Znz2 b 0 cap x w hH (of_decide_eq_true hd) hcap).mono ?_
      rintro r w' ⟨rfl,n,hw⟩
      have hle:=Zvb1 x
      exact ⟨_,_,hle,rfl,⟨n,hw⟩,by rw [List.length_append,List.length_replicate];omega,by rw [List.map_id']⟩
@[reducible] def Zel : AM.Spec := AM.Zsp 0 [.ioa .str] [(.int .i64, []), (.sl .str, [])] (fun x => compS x.1)
theorem Zls:Zi Tryz.prog (Zq6.f 194) Zel:=
  Zeu1 (e:= .str) (enc:=encStr) (fr:=fun s:ByteArray=>s.data.toList) (to:=Zbk) rfl (fun _=>rfl) (fun _=>rfl) fun x y h w b cap hH hcap=>by
    unfold compS at h
    cases hd:decide (List.length (α:=ByteArray) x≤9223372036854775807) with
    | false=>rw [hd] at h;cases h
    | true=>
      rw [hd] at h
      cases h
      have h1:=Any.slices_Compact_string Zgc3 b 0 cap (List.map (fun s:ByteArray=>s.data.toList) x) w hH (by rw [List.length_map];exact of_decide_eq_true hd) (by rw [List.length_map];exact hcap)
      rw [List.length_map] at h1
      refine h1.mono ?_
      rintro r w' ⟨rfl,n,hw⟩
      have hle:=Zvb1 (List.map (fun s:ByteArray=>s.data.toList) x)
      rw [List.length_map] at hle
      exact ⟨_,_,hle,rfl,⟨n,hw⟩,by rw [List.length_append,List.length_replicate];omega,rfl⟩
end Go.Proofs.YtlamhllcnbcbbaaGreat.Am
