import Derived.Test.YtclpadlpcfnfmaaGreatSTypes
import Derived.Test.YtclpadlpcfnfmaaGreatAmPrimW
import Derived.Test.YtclpadlpcfnfmaaGreatAmPrimB
import Derived.Test.YtclpadlpcfnfmaaGreatAmPrimS
import Derived.Test.YtclpadlpcfnfmaaGreatAmPrimC
import Derived.Shelf.Strings.BuilderK
import Derived.Shelf.Small.Strs
/- The library's functions of this seat that are taken by the kit's contracts. PRINTED by gen/ of this repo. -/
namespace Go.Proofs.YtclpadlpcfnfmaaGreat.Am
open Go.AM Go.Shelf
open Go.RowKit (Below)
open Go.Sort (grow)
theorem Zh5:Builder.Extra Tryz.prog PV where
 sizeBuilder:=by kernel_rfl
 liesBuilder:=by kernel_rfl
 t5:=Tryz.underlying5
 a5:=Tryz.isAgg5
 z5:=Tryz.sizeOf5
 v5:=Tryz.zeroValue5
 infoByte:=by kernel_rfl
 cellsByte:=by kernel_rfl
 sizeByte:=by kernel_rfl
 neB5:=by decide
@[reducible] def Nn : AM.Spec := AM.spec [.val .str, .val .str] [(.int .i64, [])] (fun x => some (Ik x.1 x.2.1))
theorem UD:Ah Tryz.prog (Vg.f 106) Nn:=
 Zg1 (ps:=[.str, .str]) (rs:=[.int .i64]) rfl rfl fun x y h z w hz=>by
  cases h
  refine (Any.strings_Compare Zl1 x.1 x.2.1 w).mono ?_
  rintro e w' ⟨rfl,rfl⟩
  exact ⟨rfl,Below.refl _ _⟩
theorem Zi5:Builder.X72 Tryz.prog PW where
 sizeBuilder:=by kernel_rfl
 liesBuilder:=by kernel_rfl
@[reducible] def OI : AM.Spec := AM.EE 0 [.io IZ [(1, 0)]] [(IZ, [⟨1, 1, 0, 0⟩])] (fun x => some (Ko x.1))
theorem UN:Ah Tryz.prog (PW.f 240) OI:=wh Zi1 Zi5 rfl
@[reducible] def KU : AM.Spec := AM.EE 1 [.io IZ [(1, 0)]] [(.str, []), (IZ, [])] (fun x => JC x.1)
theorem OJ:Ah Tryz.prog (PV.f 169) KU:=rT Zh1 Zh5 rfl rfl
@[reducible] def Mo : AM.Spec := AM.Tc (.int .i64) (Hh 8)
theorem SE:Ah Tryz.prog (Ry.f 41) Mo:=
 VW (ET:=Ry.t 23) rfl (by decide) fun b off n c news w h1 h2 h3 h4 h5=>AnyE.slices_Clone gz Tryz.t3 _ _ 8 (by kernel_rfl) rfl rfl rfl (by kernel_rfl) (by decide) Tryz.sizeOf3 b off n c news w h1 h2 h3 h4 h5
@[reducible] def Ky : AM.Spec := AM.Tc .str (Hh 16)
theorem Qo:Ah Tryz.prog (Rx.f 41) Ky:=
 VW (ET:=Rx.t 23) rfl (by decide) fun b off n c news w h1 h2 h3 h4 h5=>AnyE.slices_Clone Zm8 Tryz.t9 _ _ 16 (by kernel_rfl) rfl rfl rfl (by kernel_rfl) (by decide) Tryz.sizeOf9 b off n c news w h1 h2 h3 h4 h5
@[reducible] def LZ : AM.Spec := AM.Tc (.pair (.int .i64) (.pair (.int .i64) .str)) (Hh 32)
theorem RU:Ah Tryz.prog (Rw.f 41) LZ:=
 VW (ET:=Rw.t 23) rfl (by decide) fun b off n c news w h1 h2 h3 h4 h5=>AnyE.slices_Clone Zl8 Tryz.t45 _ _ 32 (by kernel_rfl) rfl rfl rfl (by kernel_rfl) (by decide) Tryz.sizeOf45 b off n c news w h1 h2 h3 h4 h5
@[reducible] def IT : AM.Spec := AM.spec [.val (.sl (.pair (.int .i64) (.int .i64)))] [(.sl (.pair (.int .i64) (.int .i64)), [])] (fun x => OB 16 x.1)
theorem Mp:Ah Tryz.prog (Xn.f 41) IT:=
 wx (e:=(.pair (.int .i64) (.int .i64))) (by_:=16) rfl Zn8 Tryz.t67 _ (by kernel_rfl) rfl rfl rfl (by kernel_rfl) Tryz.sizeOf67
@[reducible] def No : AM.Spec := AM.EE 0 [.ioa (.int .i64)] [(.sl (.int .i64), [])] (fun x => Wh x.1)
theorem UE:Ah Tryz.prog (Vd.f 189) No:=
 lW (e:= .int .i64) (enc:=Value.int .i64) (fr:=fun x=>x) (to:=fun x=>x) rfl (fun _=>rfl) (fun _=>rfl) fun x y h w b cap hH hb=>by
  unfold Wh at h
  cases hd:decide (x.length<4611686018427387904) with
  | false=>rw [hd] at h;cases h
  | true=>
   rw [hd] at h
   cases h
   rw [List.map_id'] at hH
   refine (Any.slices_Sort_int lU b 0 cap x w hH hb (of_decide_eq_true hd)).mono ?_
   rintro r w' ⟨rfl,n,os,hw⟩
   exact ⟨rfl,n,os,_,hw,List.length_mergeSort _,(List.map_id' _).symm⟩
@[reducible] def Ll : AM.Spec := AM.EE 0 [.ioa .str] [(.sl .str, [])] (fun x => Wi x.1)
theorem Rc:Ah Tryz.prog (Ve.f 190) Ll:=
 lW (e:= .str) (enc:=encStr) (fr:=fun s:ByteArray=>s.data.toList) (to:=Jc) rfl (fun _=>rfl) (fun _=>rfl) fun x y h w b cap hH hb=>by
  unfold Wi at h
  cases hd:decide (List.length (α:=ByteArray) x<4611686018427387904) with
  | false=>rw [hd] at h;cases h
  | true=>
   rw [hd] at h
   cases h
   have h1:=Any.slices_Sort_string Zj1 b 0 cap (List.map (fun s:ByteArray=>s.data.toList) x) w hH hb (by rw [List.length_map];exact of_decide_eq_true hd)
   rw [List.length_map] at h1
   refine h1.mono ?_
   rintro r w' ⟨rfl,n,os,hw⟩
   exact ⟨rfl,n,os,_,hw,(List.length_mergeSort _).trans (List.length_map _),rfl⟩
@[reducible] def Lm : AM.Spec := AM.LH 0 [.ioa (.int .i64)] [(.int .i64, []), (.sl (.int .i64), [])] (fun x => Wj x.1)
theorem Re:Ah Tryz.prog (Ta.f 20) Lm:=
 lX (e:= .int .i64) (enc:=Value.int .i64) (fr:=fun x=>x) (to:=fun x=>x) rfl (fun _=>rfl) (fun _=>rfl) fun x y h w b cap hH hcap=>by
  unfold Wj at h
  cases hd:decide (x.length≤9223372036854775807) with
  | false=>rw [hd] at h;cases h
  | true=>
   rw [hd] at h
   cases h
   rw [List.map_id'] at hH
   refine (Any.slices_Compact_int Zbi b 0 cap x w hH (of_decide_eq_true hd) hcap).mono ?_
   rintro r w' ⟨rfl,n,hw⟩
   have hle:=Xp x
   exact ⟨_,_,hle,rfl,⟨n,hw⟩,by rw [List.length_append,List.length_replicate];omega,by rw [List.map_id']⟩
@[reducible] def JM : AM.Spec := AM.LH 0 [.ioa .str] [(.int .i64, []), (.sl .str, [])] (fun x => Wk x.1)
theorem Pc:Ah Tryz.prog (Vf.f 194) JM:=
 lX (e:= .str) (enc:=encStr) (fr:=fun s:ByteArray=>s.data.toList) (to:=Jc) rfl (fun _=>rfl) (fun _=>rfl) fun x y h w b cap hH hcap=>by
  unfold Wk at h
  cases hd:decide (List.length (α:=ByteArray) x≤9223372036854775807) with
  | false=>rw [hd] at h;cases h
  | true=>
   rw [hd] at h
   cases h
   have h1:=Any.slices_Compact_string Zk1 b 0 cap (List.map (fun s:ByteArray=>s.data.toList) x) w hH (by rw [List.length_map];exact of_decide_eq_true hd) (by rw [List.length_map];exact hcap)
   rw [List.length_map] at h1
   refine h1.mono ?_
   rintro r w' ⟨rfl,n,hw⟩
   have hle:=Xp (List.map (fun s:ByteArray=>s.data.toList) x)
   rw [List.length_map] at hle
   exact ⟨_,_,hle,rfl,⟨n,hw⟩,by rw [List.length_append,List.length_replicate];omega,rfl⟩
end Go.Proofs.YtclpadlpcfnfmaaGreat.Am
