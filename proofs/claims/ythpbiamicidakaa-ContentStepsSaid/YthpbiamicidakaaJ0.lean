/- What the joins of this seat share. No condition. -/
import Derived.Test.YthpbiamicidakaaProg
import Derived.Test.YthpbiamicidakaaEl
import Derived.Test.YthpbiamicidakaaRows
import Derived.WalkKit
import Derived.ProofKit
import Derived.OpenShut
namespace Go.Proofs.Ythpbiamicidakaa
open Go Go.ChangeShapes Go.WideShapes Go.ChangeAt Go.RowKit Go.PW
open Go.PW.Enc (enc val)
theorem own : ownKnob Try.prog.godebug = none := by kernel_rfl
theorem kids : Kids Try.prog (· < Try.prog.types.size) := kids_rows (by kernel_rfl) (by kernel_rfl)
theorem full : ∀ t e, t < Try.prog.types.size → Try.prog.underlying t = some (.slice e) → 0 < Try.prog.cellsOf e := slices_full_of _ (by kernel_rfl)
theorem u64_of {n : Int} (h : 0 ≤ n ∧ n ≤ 18446744073709551615) : ∃ a : UInt64, n = (a.toNat : Int) := ⟨UInt64.ofNat n.toNat, by rw [UInt64.toNat_ofNat']; omega⟩
end Go.Proofs.Ythpbiamicidakaa
