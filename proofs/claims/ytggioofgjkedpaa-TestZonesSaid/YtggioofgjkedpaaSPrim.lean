/- The library's functions of this seat that are taken by the kit's contracts. -/
import Derived.Test.YtggioofgjkedpaaSTypes
import Derived.Test.YtggioofgjkedpaaAmPrim
import Derived.Shelf.Small.Strs
namespace Go.Proofs.Ytggioofgjkedpaa.Am
open Go.AM Go.Shelf
open Go.RowKit (Below)
noncomputable def ren106 : Ren := ⟨fun n => if n = 106 then 32 else if n = 213 then 34 else 35, fun t => t, fun g => g⟩
theorem lays106 : Lays.n106 Try.prog ren106 where
  mixed := tabOk.mixed
  f106 := by kernel_rfl
  f213 := by kernel_rfl
  f265 := by kernel_rfl
  t3 := Try.underlying3
  a3 := Try.isAgg3
  z3 := Try.sizeOf3
  v3 := Try.zeroValue3
  t9 := Try.underlying9
  a9 := Try.isAgg9
  z9 := Try.sizeOf9
  v9 := Try.zeroValue9
@[reducible] def sp_strings_Compare : AM.Spec := AM.spec [.val .str, .val .str] [(.int .i64, [])] (fun x => some (cmpS x.1 x.2.1))
theorem c_strings_Compare : Contract Try.prog 32 sp_strings_Compare :=
  prim_of (ps := [.str, .str]) (rs := [.int .i64]) rfl rfl fun x y h w => by
    cases h
    refine (Any.strings_Compare lays106 x.1 x.2.1 w).mono ?_
    rintro e w' ⟨rfl, rfl⟩
    exact ⟨rfl, Below.refl _ _⟩
end Go.Proofs.Ytggioofgjkedpaa.Am
