import Derived.Test.YtclpadlpcfnfmaaGreatSTypes
import Derived.Test.YtclpadlpcfnfmaaGreatAmPrimB
import Derived.Test.YtclpadlpcfnfmaaGreatAmPrimC
/- The library's functions of this seat that are taken by the kit's contracts. PRINTED by gen/ of this repo. -/
namespace Go.Proofs.YtclpadlpcfnfmaaGreat.Am
open Go.Proofs.Tryz
open Go.AM Go.Shelf
open Go.RowKit (Below)
open Go.Sort (grow)
theorem Yf4:Builder.Extra prog gE where
 sizeBuilder:=Ag
 liesBuilder:=Ag
 t5:=underlying5
 a5:=isAgg5
 z5:=sizeOf5
 v5:=zeroValue5
 infoByte:=Ag
 cellsByte:=Ag
 sizeByte:=Ag
 neB5:=Af
@[reducible] def rA : AM.Spec := AM.spec [.val .str, .val .str] [(.int .i64, [])] (λ x => some (Ir x.1 x.2.1))
theorem Zxr:Bh prog (sI.f 106) rA:=
 Yoy (ps:=[.str, .str]) (rs:=[.int .i64]) rfl rfl λ x y h z w hz=>by
  cases h;refine (Any.strings_Compare Ypy x.1 x.2.1 w).mono ?_;rintro e w' ⟨rfl,rfl⟩;exact ⟨rfl,Below.refl _ _⟩
theorem Yg4:Builder.X72 prog gF where
 sizeBuilder:=Ag
 liesBuilder:=Ag
@[reducible] def gw : AM.Spec := AM.Hm 0 [.io JD [(1, 0)]] [(JD, [⟨1, 1, 0, 0⟩])] (λ x => some (OW x.1))
theorem sJ:Bh prog (gF.f 240) gw:=Zu3 Yqy Yg4 rfl
@[reducible] def Zz : AM.Spec := AM.Hm 1 [.io JD [(1, 0)]] [(.str, []), (JD, [])] (λ x => Ob x.1)
theorem gx:Bh prog (gE.f 169) Zz:=Zuz Yry Yf4 rfl rfl
@[reducible] def ru : AM.Spec := AM.Xk (.int .i64) (Lq 8)
theorem Ztr:Bh prog (gQ.f 41) ru:=
 jq (ET:=gQ.t 23) rfl Af λ b off n c news w h1 h2 h3 h4 h5=>AnyE.slices_Clone lT t3 _ _ 8 Ag rfl rfl rfl Ag Af sizeOf3 b off n c news w h1 h2 h3 h4 h5
@[reducible] def rl : AM.Spec := AM.Xk .str (Lq 16)
theorem Zir:Bh prog (gR.f 41) rl:=
 jq (ET:=gR.t 23) rfl Af λ b off n c news w h1 h2 h3 h4 h5=>AnyE.slices_Clone Yh4 t9 _ _ 16 Ag rfl rfl rfl Ag Af sizeOf9 b off n c news w h1 h2 h3 h4 h5
@[reducible] def rp : AM.Spec := AM.Xk (.pair (.int .i64) (.pair (.int .i64) .str)) (Lq 32)
theorem Zpr:Bh prog (gS.f 41) rp:=
 jq (ET:=gS.t 23) rfl Af λ b off n c news w h1 h2 h3 h4 h5=>AnyE.slices_Clone Yi4 t45 _ _ 32 Ag rfl rfl rfl Ag Af sizeOf45 b off n c news w h1 h2 h3 h4 h5
@[reducible] def fM : AM.Spec := AM.spec [.val (.sl (.pair (.int .i64) (.int .i64)))] [(.sl (.pair (.int .i64) (.int .i64)), [])] (λ x => Oa 16 x.1)
theorem rq:Bh prog (tA.f 41) fM:=
 Zv3 (e:=(.pair (.int .i64) (.int .i64))) (by_:=16) rfl Yj4 t67 _ Ag rfl rfl rfl Ag sizeOf67
@[reducible] def rB : AM.Spec := AM.Hm 0 [.ioa (.int .i64)] [(.sl (.int .i64), [])] (λ x => XT x.1)
theorem Zyr:Bh prog (sK.f 189) rB:=
 yG (e:= .int .i64) (enc:=Value.int .i64) (fr:=λ x=>x) (to:=λ x=>x) rfl (λ _=>rfl) (λ _=>rfl) λ x y h w b cap hH hb=>by
  unfold XT at h;cases hd:decide (x.length<4611686018427387904) with
  | false=>rw [hd] at h;cases h
  | true=>
   rw [hd] at h;cases h;rw [List.map_id'] at hH;refine (Any.slices_Sort_int yH b 0 cap x w hH hb (Aw hd)).mono ?_;rintro r w' ⟨rfl,n,os,hw⟩;exact ⟨rfl,n,os,_,hw,List.length_mergeSort _,(List.map_id' _).symm⟩
@[reducible] def rm : AM.Spec := AM.Hm 0 [.ioa .str] [(.sl .str, [])] (λ x => XV x.1)
theorem Zkr:Bh prog (sL.f 190) rm:=
 yG (e:= .str) (enc:=encStr) (fr:=λ s:ByteArray=>s.data.toList) (to:=Nh) rfl (λ _=>rfl) (λ _=>rfl) λ x y h w b cap hH hb=>by
  unfold XV at h;cases hd:decide (List.length (α:=ByteArray) x<4611686018427387904) with
  | false=>rw [hd] at h;cases h
  | true=>
   rw [hd] at h;cases h;have h1:=Any.slices_Sort_string Ysy b 0 cap (List.map (λ s:ByteArray=>s.data.toList) x) w hH hb (by rw [Av];exact Aw hd);rw [Av] at h1;refine h1.mono ?_;rintro r w' ⟨rfl,n,os,hw⟩;exact ⟨rfl,n,os,_,hw,(List.length_mergeSort _).trans (Av _),rfl⟩
@[reducible] def rn : AM.Spec := AM.Qd 0 [.ioa (.int .i64)] [(.int .i64, []), (.sl (.int .i64), [])] (λ x => XU x.1)
theorem Zlr:Bh prog (so.f 20) rn:=
 yI (e:= .int .i64) (enc:=Value.int .i64) (fr:=λ x=>x) (to:=λ x=>x) rfl (λ _=>rfl) (λ _=>rfl) λ x y h w b cap hH Gf=>by
  unfold XU at h;cases hd:decide (x.length<=9223372036854775807) with
  | false=>rw [hd] at h;cases h
  | true=>
   rw [hd] at h;cases h;rw [List.map_id'] at hH;refine (Any.slices_Compact_int Yef b 0 cap x w hH (Aw hd) Gf).mono ?_;rintro r w' ⟨rfl,n,hw⟩;have hle:=tC x;exact ⟨_,_,hle,rfl,⟨n,hw⟩,by rw [Ap,AO];omega,by rw [List.map_id']⟩
@[reducible] def rk : AM.Spec := AM.Qd 0 [.ioa .str] [(.int .i64, []), (.sl .str, [])] (λ x => XW x.1)
theorem Zhr:Bh prog (sM.f 194) rk:=
 yI (e:= .str) (enc:=encStr) (fr:=λ s:ByteArray=>s.data.toList) (to:=Nh) rfl (λ _=>rfl) (λ _=>rfl) λ x y h w b cap hH Gf=>by
  unfold XW at h;cases hd:decide (List.length (α:=ByteArray) x<=9223372036854775807) with
  | false=>rw [hd] at h;cases h
  | true=>
   rw [hd] at h;cases h;have h1:=Any.slices_Compact_string Yty b 0 cap (List.map (λ s:ByteArray=>s.data.toList) x) w hH (by rw [Av];exact Aw hd) (by rw [Av];exact Gf);rw [Av] at h1;refine h1.mono ?_;rintro r w' ⟨rfl,n,hw⟩;have hle:=tC (List.map (λ s:ByteArray=>s.data.toList) x);rw [Av] at hle;exact ⟨_,_,hle,rfl,⟨n,hw⟩,by rw [Ap,AO];omega,rfl⟩
end Go.Proofs.YtclpadlpcfnfmaaGreat.Am
