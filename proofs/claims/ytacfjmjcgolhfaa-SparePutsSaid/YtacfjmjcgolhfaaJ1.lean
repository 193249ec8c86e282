/- SparePuts: for every bound and any two lists the law answers true, and the arguments read as they did. No condition. -/
import Derived.Test.YtacfjmjcgolhfaaA7
import Derived.Test.YtacfjmjcgolhfaaEl
import Derived.Test.YtacfjmjcgolhfaaRows
import Derived.WalkKit
import Derived.ProofKit
import Derived.OpenShut
namespace Go.Proofs.Ytacfjmjcgolhfaa
open Go.ChangeShapes Go.WideShapes Go.ChangeAt Go.RowKit Go.PW
open Go.PW.Enc (enc val)
theorem own : ownKnob Try.prog.godebug = none := by kernel_rfl
theorem kids : Kids Try.prog (· < Try.prog.types.size) := kids_rows (by kernel_rfl) (by kernel_rfl)
theorem full : ∀ t e, t < Try.prog.types.size → Try.prog.underlying t = some (.slice e) → 0 < Try.prog.cellsOf e := slices_full_of _ (by kernel_rfl)
theorem opn30 : Opn Try.prog 30 Key := opn_arr (n := 32) Try.underlying30 (by kernel_rfl) (by kernel_rfl) (opn_u8 Try.underlying5)
theorem opn33 : Opn Try.prog 33 Spare := opn3 Try.underlying33 rfl rfl rfl (by kernel_rfl) (by kernel_rfl) (by kernel_rfl) (by kernel_rfl) opn30 (opn_u32 Try.underlying31) opn30 (fun a b c => (⟨a, b, c⟩ : Spare)) (fun a b c => by show cat [pt a, pt b, pt c] = _; simp [cat, pt])
theorem sized33 {H : Type} {ts : List TypeId} {ds : List (DataW H)} (h : (DataW.weightsEach Try.prog ts ds).all (· ≤ reachBytes) = true) {j : Nat} {d : DataW H} (ht : ts[j]? = some 22) (hd : ds[j]? = some d) {xs : List Spare} (ho : d = .nil ∧ xs = [] ∨ ∃ el sp, d = .slice el sp ∧ el.length = xs.length) : xs.length ≤ 2199023255552 := by
  rcases ho with ⟨_, rfl⟩ | ⟨el, sp, rfl, hl⟩
  · simp
  · have h1 := sized_slice h ht hd Try.underlying22
    rw [show Try.prog.bytesOf 33 = 68 by kernel_rfl, show reachBytes = 140737488351232 from rfl] at h1
    omega

set_option maxRecDepth 100000 in
theorem puts_lifted (os : Os) (started : os.Started) (H : Type) (enc : TypeId × Value → H) :
    ReturnsInHanded {} Try.checked os 3 .any (Rows.sparePutsSpec.pre6 enc Try.prog Try.f3 Rows.sparePutsRow.domain false) (Rows.sparePutsSpec.post enc Try.prog Try.f3 false true false false) := by
  refine returnsInHanded_of_change_sized (C := Try.checked) own started (by kernel_rfl) Try.func3
    (ChangeSpec.witness6 (enc := enc) (C := Try.checked) false ⟨#[], #[.int .i64 0, .slice none 0 0, .slice none 0 0], []⟩ 8 (by kernel_rfl) (by kernel_rfl) (by kernel_rfl) (by kernel_rfl)) ?_
  intro W base args ds gs before hval0 hW hcnd hwt _
  have hval : ∀ (j : Nat) t v, Try.f3.params[j]? = some t → args[j]? = some v → Value.okWide Try.prog W .any base t v := hval0
  have hW' := hW
  obtain ⟨p, q, hA0, hV, rfl, hfz, hnd⟩ := hW
  have hA : DataW.TrodAll enc Try.prog W 0 (fun _ => true) true Try.f3.params.toList args.toList ds p := hA0
  rw [Try.params3] at hA hval
  obtain ⟨v0, vs0, d0, ds0, p0, q0, hargs, rfl, rfl, h0, r0⟩ := trodAll_cons hA
  obtain ⟨v1, vs1, d1, ds1, p1, q1, rfl, rfl, rfl, h1, r1⟩ := trodAll_cons r0
  obtain ⟨v2, vs2, d2, ds2, p2, q2, rfl, rfl, rfl, h2, r2⟩ := trodAll_cons r1
  obtain ⟨rfl, rfl, rfl⟩ := trodAll_nil r2
  obtain rfl : args = #[v0, v1, v2] := by cases args; simp_all
  obtain ⟨rfl, rfl⟩ := trodVars_none hV
  obtain ⟨most, rfl, rfl, rfl, _⟩ := open_int Try.underlying3 (hval 0 3 v0 rfl rfl) h0
  obtain ⟨s, xs, hs, rfl, hsg, ho1⟩ := open_vs Try.underlying22 (by kernel_rfl) (by decide) opn33 (hval 1 22 v1 rfl rfl) h1
  obtain ⟨t, ys, ht, rfl, htg, ho2⟩ := open_vs Try.underlying22 (by kernel_rfl) (by decide) opn33 (hval 2 22 v2 rfl rfl) h2
  have hbx := sized33 hwt (j := 1) (by rw [Try.params3]; rfl) rfl ho1
  have hby := sized33 hwt (j := 2) (by rw [Try.params3]; rfl) rfl ho2
  have hct := (Puts_ct most s t xs ys hs ht hbx hby).2 W ⟨by simp, by simpa using ⟨hsg, htg⟩, by simp [blks], by simp [blks]⟩
  refine hct.mono fun e W' ⟨v, own', ro', he, hp, hin⟩ => ⟨v, he, ?_⟩
  obtain ⟨rfl, _, _⟩ := hp
  exact law_post kids full (by rw [Try.params3]; decide) hW' rfl hin.ext rfl (by kernel_rfl) Try.underlying4

theorem puts_over : Rows.sparePutsRow.holds Try.pinned (OpenSpec.ofChange Rows.sparePutsSpec) :=
  OpenClaim.holds_of_wide 3 Try.f3 rfl rfl rfl rfl rfl rfl rfl ⟨rfl, rfl, rfl, rfl, rfl⟩ rfl rfl rfl rfl rfl (by kernel_rfl) Try.func3 (by kernel_rfl)
    (of_decide_eq_true (by kernel_rfl)) (by unfold Func.isWrapper; first | (rw [if_pos (by decide +kernel)]; kernel_rfl) | (rw [if_neg (by decide +kernel)]; exact ⟨rfl, rfl⟩))
    (fun os started H enc _ => puts_lifted os started H enc)

/-- The statement. -/
theorem sparePuts_holds : Rows.SparePutsSaid := puts_over
#print axioms sparePuts_holds
end Go.Proofs.Ytacfjmjcgolhfaa
