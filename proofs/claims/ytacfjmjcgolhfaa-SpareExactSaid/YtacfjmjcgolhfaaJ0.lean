/- What the joins of this seat share. No condition. -/
import Derived.Test.YtacfjmjcgolhfaaProg
import Derived.Test.YtacfjmjcgolhfaaEl
import Derived.Test.YtacfjmjcgolhfaaRows
import Derived.WalkKit
import Derived.ProofKit
import Derived.OpenShut
namespace Go.Proofs.Ytacfjmjcgolhfaa
open Go.ChangeShapes Go.WideShapes Go.ChangeAt Go.RowKit Go.PW
open Go.PW.Enc (enc val)
theorem own : ownKnob Try.prog.godebug = none := by kernel_rfl
theorem kids : Kids Try.prog (· < Try.prog.types.size) := kids_rows (by kernel_rfl) (by kernel_rfl)
theorem full : ∀ t e, t < Try.prog.types.size → Try.prog.underlying t = some (.slice e) → 0 < Try.prog.cellsOf e := slices_full_of _ (by kernel_rfl)
theorem opn30 : Opn Try.prog 30 Key := opn_arr (n := 32) Try.underlying30 (by kernel_rfl) (by kernel_rfl) (opn_u8 Try.underlying5)
theorem opn33 : Opn Try.prog 33 Spare := opn3 Try.underlying33 rfl rfl rfl (by kernel_rfl) (by kernel_rfl) (by kernel_rfl) (by kernel_rfl) opn30 (opn_u32 Try.underlying31) opn30 (fun a b c => (⟨a, b, c⟩ : Spare)) (fun a b c => by show cat [pt a, pt b, pt c] = _; simp [cat, pt])
theorem sized33 {H : Type} {ts : List TypeId} {ds : List (DataW H)} (h : (DataW.weightsEach Try.prog ts ds).all (· ≤ reachBytes) = true) {j : Nat} {d : DataW H} (ht : ts[j]? = some 22) (hd : ds[j]? = some d) {xs : List Spare} (ho : d = .nil ∧ xs = [] ∨ ∃ el sp, d = .slice el sp ∧ el.length = xs.length) : xs.length ≤ 2199023255552 := by
  rcases ho with ⟨_, rfl⟩ | ⟨el, sp, rfl, hl⟩
  · simp
  · have h1 := sized_slice h ht hd Try.underlying22
    rw [show Try.prog.bytesOf 33 = 68 by kernel_rfl, show reachBytes = 140737488351232 from rfl] at h1
    omega


theorem sized3 {H : Type} {ts : List TypeId} {ds : List (DataW H)} (h : (DataW.weightsEach Try.prog ts ds).all (· ≤ reachBytes) = true) {j : Nat} {d : DataW H} (ht : ts[j]? = some 50) (hd : ds[j]? = some d) {xs : List Int} (ho : d = .nil ∧ xs = [] ∨ ∃ el sp, d = .slice el sp ∧ el.length = xs.length) : xs.length ≤ 140737488351232 := by
  rcases ho with ⟨_, rfl⟩ | ⟨el, sp, rfl, hl⟩
  · simp
  · have h1 := sized_slice h ht hd Try.underlying50
    rw [show Try.prog.bytesOf 3 = 8 by kernel_rfl, show reachBytes = 140737488351232 from rfl] at h1
    omega
end Go.Proofs.Ytacfjmjcgolhfaa
