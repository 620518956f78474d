import Derived.Test.YtclpadlpcfnfmaaGreatSTypes
import Derived.Test.YtclpadlpcfnfmaaGreatAmPrimW
import Derived.Test.YtclpadlpcfnfmaaGreatAmPrimB
import Derived.Test.YtclpadlpcfnfmaaGreatAmPrimS
import Derived.Test.YtclpadlpcfnfmaaGreatAmPrimC
import Derived.Shelf.Strings.BuilderK
import Derived.Shelf.Small.Strs
/- The library's functions of this seat that are taken by the kit's contracts. PRINTED by gen/ of this repo. -/
namespace Go.Proofs.YtclpadlpcfnfmaaGreat.Am
open Go.AM Go.Shelf
open Go.RowKit (Below)
open Go.Sort (grow)
theorem Ymr:Builder.Extra Tryz.prog dJ where
 sizeBuilder:=by kernel_rfl
 liesBuilder:=by kernel_rfl
 t5:=Tryz.underlying5
 a5:=Tryz.isAgg5
 z5:=Tryz.sizeOf5
 v5:=Tryz.zeroValue5
 infoByte:=by kernel_rfl
 cellsByte:=by kernel_rfl
 sizeByte:=by kernel_rfl
 neB5:=by decide
@[reducible] def nS : AM.Spec := AM.spec [.val .str, .val .str] [(.int .i64, [])] (fun x => some (GZ x.1 x.2.1))
theorem Zzi:AY Tryz.prog (oU.f 106) nS:=
 Ynm (ps:=[.str, .str]) (rs:=[.int .i64]) rfl rfl fun x y h z w hz=>by
  cases h
  refine (Any.strings_Compare Yom x.1 x.2.1 w).mono ?_
  rintro e w' ⟨rfl,rfl⟩
  exact ⟨rfl,Below.refl _ _⟩
theorem Ynr:Builder.X72 Tryz.prog dK where
 sizeBuilder:=by kernel_rfl
 liesBuilder:=by kernel_rfl
@[reducible] def dE : AM.Spec := AM.Gp 0 [.io IN [(1, 0)]] [(IN, [⟨1, 1, 0, 0⟩])] (fun x => some (NK x.1))
theorem oV:AY Tryz.prog (dK.f 240) dE:=Zyt Ypm Ynr rfl
@[reducible] def X7 : AM.Spec := AM.Gp 1 [.io IN [(1, 0)]] [(.str, []), (IN, [])] (fun x => MZ x.1)
theorem dF:AY Tryz.prog (dJ.f 169) X7:=Zbq Yqm Ymr rfl rfl
@[reducible] def nQ : AM.Spec := AM.VI (.int .i64) (Ko 8)
theorem Zui:AY Tryz.prog (dV.f 41) nQ:=
 fB (ET:=dV.t 23) rfl (by decide) fun b off n c news w h1 h2 h3 h4 h5=>AnyE.slices_Clone iT Tryz.t3 _ _ 8 (by kernel_rfl) rfl rfl rfl (by kernel_rfl) (by decide) Tryz.sizeOf3 b off n c news w h1 h2 h3 h4 h5
@[reducible] def nL : AM.Spec := AM.VI .str (Ko 16)
theorem Zji:AY Tryz.prog (dW.f 41) nL:=
 fB (ET:=dW.t 23) rfl (by decide) fun b off n c news w h1 h2 h3 h4 h5=>AnyE.slices_Clone Yor Tryz.t9 _ _ 16 (by kernel_rfl) rfl rfl rfl (by kernel_rfl) (by decide) Tryz.sizeOf9 b off n c news w h1 h2 h3 h4 h5
@[reducible] def nO : AM.Spec := AM.VI (.pair (.int .i64) (.pair (.int .i64) .str)) (Ko 32)
theorem Zqi:AY Tryz.prog (dX.f 41) nO:=
 fB (ET:=dX.t 23) rfl (by decide) fun b off n c news w h1 h2 h3 h4 h5=>AnyE.slices_Clone Ypr Tryz.t45 _ _ 32 (by kernel_rfl) rfl rfl rfl (by kernel_rfl) (by decide) Tryz.sizeOf45 b off n c news w h1 h2 h3 h4 h5
@[reducible] def de : AM.Spec := AM.spec [.val (.sl (.pair (.int .i64) (.int .i64)))] [(.sl (.pair (.int .i64) (.int .i64)), [])] (fun x => MY 16 x.1)
theorem nP:AY Tryz.prog (pG.f 41) de:=
 Zzt (e:=(.pair (.int .i64) (.int .i64))) (by_:=16) rfl Yqr Tryz.t67 _ (by kernel_rfl) rfl rfl rfl (by kernel_rfl) Tryz.sizeOf67
@[reducible] def nT : AM.Spec := AM.Gp 0 [.ioa (.int .i64)] [(.sl (.int .i64), [])] (fun x => We x.1)
theorem Zaj:AY Tryz.prog (oW.f 189) nT:=
 uD (e:= .int .i64) (enc:=Value.int .i64) (fr:=fun x=>x) (to:=fun x=>x) rfl (fun _=>rfl) (fun _=>rfl) fun x y h w b cap hH hb=>by
  unfold We at h
  cases hd:decide (x.length<4611686018427387904) with
  | false=>rw [hd] at h;cases h
  | true=>
   rw [hd] at h
   cases h
   rw [List.map_id'] at hH
   refine (Any.slices_Sort_int uE b 0 cap x w hH hb (Ak hd)).mono ?_
   rintro r w' ⟨rfl,n,os,hw⟩
   exact ⟨rfl,n,os,_,hw,List.length_mergeSort _,(List.map_id' _).symm⟩
@[reducible] def nM : AM.Spec := AM.Gp 0 [.ioa .str] [(.sl .str, [])] (fun x => Wg x.1)
theorem Zli:AY Tryz.prog (oX.f 190) nM:=
 uD (e:= .str) (enc:=encStr) (fr:=fun s:ByteArray=>s.data.toList) (to:=Me) rfl (fun _=>rfl) (fun _=>rfl) fun x y h w b cap hH hb=>by
  unfold Wg at h
  cases hd:decide (List.length (α:=ByteArray) x<4611686018427387904) with
  | false=>rw [hd] at h;cases h
  | true=>
   rw [hd] at h
   cases h
   have h1:=Any.slices_Sort_string Yrm b 0 cap (List.map (fun s:ByteArray=>s.data.toList) x) w hH hb (by rw [Ai];exact Ak hd)
   rw [Ai] at h1
   refine h1.mono ?_
   rintro r w' ⟨rfl,n,os,hw⟩
   exact ⟨rfl,n,os,_,hw,(List.length_mergeSort _).trans (Ai _),rfl⟩
@[reducible] def nN : AM.Spec := AM.O0 0 [.ioa (.int .i64)] [(.int .i64, []), (.sl (.int .i64), [])] (fun x => Wf x.1)
theorem Zmi:AY Tryz.prog (oI.f 20) nN:=
 uF (e:= .int .i64) (enc:=Value.int .i64) (fr:=fun x=>x) (to:=fun x=>x) rfl (fun _=>rfl) (fun _=>rfl) fun x y h w b cap hH Fa=>by
  unfold Wf at h
  cases hd:decide (x.length≤9223372036854775807) with
  | false=>rw [hd] at h;cases h
  | true=>
   rw [hd] at h
   cases h
   rw [List.map_id'] at hH
   refine (Any.slices_Compact_int Ze5 b 0 cap x w hH (Ak hd) Fa).mono ?_
   rintro r w' ⟨rfl,n,hw⟩
   have hle:=pH x
   exact ⟨_,_,hle,rfl,⟨n,hw⟩,by rw [Ae,AK];omega,by rw [List.map_id']⟩
@[reducible] def nK : AM.Spec := AM.O0 0 [.ioa .str] [(.int .i64, []), (.sl .str, [])] (fun x => Wh x.1)
theorem Zii:AY Tryz.prog (oY.f 194) nK:=
 uF (e:= .str) (enc:=encStr) (fr:=fun s:ByteArray=>s.data.toList) (to:=Me) rfl (fun _=>rfl) (fun _=>rfl) fun x y h w b cap hH Fa=>by
  unfold Wh at h
  cases hd:decide (List.length (α:=ByteArray) x≤9223372036854775807) with
  | false=>rw [hd] at h;cases h
  | true=>
   rw [hd] at h
   cases h
   have h1:=Any.slices_Compact_string Ysm b 0 cap (List.map (fun s:ByteArray=>s.data.toList) x) w hH (by rw [Ai];exact Ak hd) (by rw [Ai];exact Fa)
   rw [Ai] at h1
   refine h1.mono ?_
   rintro r w' ⟨rfl,n,hw⟩
   have hle:=pH (List.map (fun s:ByteArray=>s.data.toList) x)
   rw [Ai] at hle
   exact ⟨_,_,hle,rfl,⟨n,hw⟩,by rw [Ae,AK];omega,rfl⟩
end Go.Proofs.YtclpadlpcfnfmaaGreat.Am
