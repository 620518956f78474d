import Derived.Test.YtclpadlpcfnfmaaGreatSTypes
import Derived.Test.YtclpadlpcfnfmaaGreatAmPrimB
import Derived.Test.YtclpadlpcfnfmaaGreatAmPrimC
/- The library's functions of this seat that are taken by the kit's contracts. PRINTED by gen/ of this repo. -/
namespace Go.Proofs.YtclpadlpcfnfmaaGreat.Am
open Go.Proofs.Tryz
open Go.AM Go.Shelf
open Go.RowKit (Below)
open Go.Sort (grow)
theorem Yg4:Builder.Extra prog gD where
 sizeBuilder:=Ag
 liesBuilder:=Ag
 t5:=underlying5
 a5:=isAgg5
 z5:=sizeOf5
 v5:=zeroValue5
 infoByte:=Ag
 cellsByte:=Ag
 sizeByte:=Ag
 neB5:=Af
@[reducible] def rq : AM.Spec := AM.spec [.val .str, .val .str] [(.int .i64, [])] (λ x => some (Ir x.1 x.2.1))
theorem Zyr:Bh prog (sF.f 106) rq:=
 Ypy (ps:=[.str, .str]) (rs:=[.int .i64]) rfl rfl λ x y h z w hz=>by
  cases h;refine (Any.strings_Compare Yqy x.1 x.2.1 w).mono ?_;rintro e w' ⟨rfl,rfl⟩;exact ⟨rfl,Below.refl _ _⟩
theorem Yh4:Builder.X72 prog gE where
 sizeBuilder:=Ag
 liesBuilder:=Ag
@[reducible] def gv : AM.Spec := AM.Hm 0 [.io JD [(1, 0)]] [(JD, [⟨1, 1, 0, 0⟩])] (λ x => some (OW x.1))
theorem sG:Bh prog (gE.f 240) gv:=Zv3 Yry Yh4 rfl
@[reducible] def Zw : AM.Spec := AM.Hm 1 [.io JD [(1, 0)]] [(.str, []), (JD, [])] (λ x => Oa x.1)
theorem gw:Bh prog (gD.f 169) Zw:=Zvz Ysy Yg4 rfl rfl
@[reducible] def rn : AM.Spec := AM.Xh (.int .i64) (Lp 8)
theorem Zur:Bh prog (gP.f 41) rn:=
 jo (ET:=gP.t 23) rfl Af λ b off n c news w h1 h2 h3 h4 h5=>AnyE.slices_Clone lS t3 _ _ 8 Ag rfl rfl rfl Ag Af sizeOf3 b off n c news w h1 h2 h3 h4 h5
@[reducible] def rf : AM.Spec := AM.Xh .str (Lp 16)
theorem Zjr:Bh prog (gQ.f 41) rf:=
 jo (ET:=gQ.t 23) rfl Af λ b off n c news w h1 h2 h3 h4 h5=>AnyE.slices_Clone Yi4 t9 _ _ 16 Ag rfl rfl rfl Ag Af sizeOf9 b off n c news w h1 h2 h3 h4 h5
@[reducible] def rl : AM.Spec := AM.Xh (.pair (.int .i64) (.pair (.int .i64) .str)) (Lp 32)
theorem Zqr:Bh prog (gR.f 41) rl:=
 jo (ET:=gR.t 23) rfl Af λ b off n c news w h1 h2 h3 h4 h5=>AnyE.slices_Clone Yj4 t45 _ _ 32 Ag rfl rfl rfl Ag Af sizeOf45 b off n c news w h1 h2 h3 h4 h5
@[reducible] def fL : AM.Spec := AM.spec [.val (.sl (.pair (.int .i64) (.int .i64)))] [(.sl (.pair (.int .i64) (.int .i64)), [])] (λ x => N9 16 x.1)
theorem rm:Bh prog (tw.f 41) fL:=
 Zw3 (e:=(.pair (.int .i64) (.int .i64))) (by_:=16) rfl Yk4 t67 _ Ag rfl rfl rfl Ag sizeOf67
@[reducible] def ru : AM.Spec := AM.Hm 0 [.ioa (.int .i64)] [(.sl (.int .i64), [])] (λ x => XQ x.1)
theorem Zzr:Bh prog (sH.f 189) ru:=
 yG (e:= .int .i64) (enc:=Value.int .i64) (fr:=λ x=>x) (to:=λ x=>x) rfl (λ _=>rfl) (λ _=>rfl) λ x y h w b cap hH hb=>by
  unfold XQ at h;cases hd:decide (x.length<4611686018427387904) with
  | false=>rw [hd] at h;cases h
  | true=>
   rw [hd] at h;cases h;rw [List.map_id'] at hH;refine (Any.slices_Sort_int yH b 0 cap x w hH hb (Az hd)).mono ?_;rintro r w' ⟨rfl,n,os,hw⟩;exact ⟨rfl,n,os,_,hw,List.length_mergeSort _,(List.map_id' _).symm⟩
@[reducible] def rh : AM.Spec := AM.Hm 0 [.ioa .str] [(.sl .str, [])] (λ x => XS x.1)
theorem Zlr:Bh prog (sI.f 190) rh:=
 yG (e:= .str) (enc:=encStr) (fr:=λ s:ByteArray=>s.data.toList) (to:=Nf) rfl (λ _=>rfl) (λ _=>rfl) λ x y h w b cap hH hb=>by
  unfold XS at h;cases hd:decide (List.length (α:=ByteArray) x<4611686018427387904) with
  | false=>rw [hd] at h;cases h
  | true=>
   rw [hd] at h;cases h;have h1:=Any.slices_Sort_string Yty b 0 cap (List.map (λ s:ByteArray=>s.data.toList) x) w hH hb (by rw [Av];exact Az hd);rw [Av] at h1;refine h1.mono ?_;rintro r w' ⟨rfl,n,os,hw⟩;exact ⟨rfl,n,os,_,hw,(List.length_mergeSort _).trans (Av _),rfl⟩
@[reducible] def rk : AM.Spec := AM.Qd 0 [.ioa (.int .i64)] [(.int .i64, []), (.sl (.int .i64), [])] (λ x => XR x.1)
theorem Zmr:Bh prog (sh.f 20) rk:=
 yI (e:= .int .i64) (enc:=Value.int .i64) (fr:=λ x=>x) (to:=λ x=>x) rfl (λ _=>rfl) (λ _=>rfl) λ x y h w b cap hH Gf=>by
  unfold XR at h;cases hd:decide (x.length<=9223372036854775807) with
  | false=>rw [hd] at h;cases h
  | true=>
   rw [hd] at h;cases h;rw [List.map_id'] at hH;refine (Any.slices_Compact_int Yff b 0 cap x w hH (Az hd) Gf).mono ?_;rintro r w' ⟨rfl,n,hw⟩;have hle:=tx x;exact ⟨_,_,hle,rfl,⟨n,hw⟩,by rw [Ap,AO];omega,by rw [List.map_id']⟩
@[reducible] def re : AM.Spec := AM.Qd 0 [.ioa .str] [(.int .i64, []), (.sl .str, [])] (λ x => XT x.1)
theorem Zir:Bh prog (sJ.f 194) re:=
 yI (e:= .str) (enc:=encStr) (fr:=λ s:ByteArray=>s.data.toList) (to:=Nf) rfl (λ _=>rfl) (λ _=>rfl) λ x y h w b cap hH Gf=>by
  unfold XT at h;cases hd:decide (List.length (α:=ByteArray) x<=9223372036854775807) with
  | false=>rw [hd] at h;cases h
  | true=>
   rw [hd] at h;cases h;have h1:=Any.slices_Compact_string Yuy b 0 cap (List.map (λ s:ByteArray=>s.data.toList) x) w hH (by rw [Av];exact Az hd) (by rw [Av];exact Gf);rw [Av] at h1;refine h1.mono ?_;rintro r w' ⟨rfl,n,hw⟩;have hle:=tx (List.map (λ s:ByteArray=>s.data.toList) x);rw [Av] at hle;exact ⟨_,_,hle,rfl,⟨n,hw⟩,by rw [Ap,AO];omega,rfl⟩
end Go.Proofs.YtclpadlpcfnfmaaGreat.Am
