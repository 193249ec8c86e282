/- ContentPlaces: for every input the law answers true, and the arguments read as they did. No condition. -/
import Derived.Test.YthpbiamicidakaaA5
import Derived.Test.YthpbiamicidakaaJ0
namespace Go.Proofs.Ythpbiamicidakaa
open Go Go.ChangeShapes Go.WideShapes Go.ChangeAt Go.RowKit Go.PW
open Go.PW.Enc (enc val)

set_option maxRecDepth 100000 in
theorem contentPlaces_lifted (os : Os) (started : os.Started) (H : Type) (enc : TypeId × Value → H) :
    ReturnsInHanded {} Try.checked os 4 .any (Rows.contentPlacesSpec.pre6 enc Try.prog Try.f4 Rows.contentPlacesRow.domain false) (Rows.contentPlacesSpec.post enc Try.prog Try.f4 false true false false) := by
  refine returnsInHanded_of_change_sized (C := Try.checked) own started (by kernel_rfl) Try.func4
    (ChangeSpec.witness6 (enc := enc) (C := Try.checked) false ⟨#[], #[.int .i32 0, .int .u64 0, .int .u64 0], []⟩ 8 (by kernel_rfl) (by kernel_rfl) (by kernel_rfl) (by kernel_rfl)) ?_
  intro W base args ds gs before hval0 hW hcnd hwt _
  have hval : ∀ (j : Nat) t v, Try.f4.params[j]? = some t → args[j]? = some v → Value.okWide Try.prog W .any base t v := hval0
  have hW' := hW
  obtain ⟨p, q, hA0, hV, rfl, hfz, hnd⟩ := hW
  have hA : DataW.TrodAll enc Try.prog W 0 (fun _ => true) true Try.f4.params.toList args.toList ds p := hA0
  rw [Try.params4] at hA hval
  obtain ⟨v0, vs0, d0, ds0, p0, q0, hargs, rfl, rfl, h0, r0⟩ := trodAll_cons hA
  obtain ⟨v1, vs1, d1, ds1, p1, q1, rfl, rfl, rfl, h1, r1⟩ := trodAll_cons r0
  obtain ⟨v2, vs2, d2, ds2, p2, q2, rfl, rfl, rfl, h2, r2⟩ := trodAll_cons r1
  obtain ⟨rfl, rfl, rfl⟩ := trodAll_nil r2
  obtain rfl : args = #[v0, v1, v2] := by cases args; simp_all
  obtain ⟨rfl, rfl⟩ := trodVars_none hV
  obtain ⟨i0, rfl, rfl, rfl, hi0⟩ := open_int Try.underlying21 (hval 0 21 v0 rfl rfl) h0
  have hn0 : i0.natAbs ≤ 2147483648 := by simp [Lit.wf, IntKind.min, IntKind.max, IntKind.bits, IntKind.signed] at hi0; omega
  obtain ⟨i1, rfl, rfl, rfl, hi1⟩ := open_int Try.underlying22 (hval 1 22 v1 rfl rfl) h1
  obtain ⟨u1, rfl⟩ := u64_of (n := i1) (by simpa [Lit.wf, IntKind.min, IntKind.max, IntKind.bits, IntKind.signed] using hi1)
  obtain ⟨i2, rfl, rfl, rfl, hi2⟩ := open_int Try.underlying22 (hval 2 22 v2 rfl rfl) h2
  obtain ⟨u2, rfl⟩ := u64_of (n := i2) (by simpa [Lit.wf, IntKind.min, IntKind.max, IntKind.bits, IntKind.signed] using hi2)
  have hct := (CPlaces_ct i0 u1 u2 hn0).2 W ⟨by simp, by simp, by simp [blks], by simp [blks]⟩
  refine hct.mono fun e W' ⟨v, own', ro', he, hp, hin⟩ => ⟨v, he, ?_⟩
  obtain ⟨rfl, _, _⟩ := hp
  exact law_post kids full (by rw [Try.params4]; decide) hW' rfl hin.ext rfl (by kernel_rfl) Try.underlying4

theorem contentPlaces_over : Rows.contentPlacesRow.holds Try.pinned (OpenSpec.ofChange Rows.contentPlacesSpec) :=
  OpenClaim.holds_of_wide 4 Try.f4 rfl rfl rfl rfl rfl rfl rfl ⟨rfl, rfl, rfl, rfl, rfl⟩ rfl rfl rfl rfl rfl (by kernel_rfl) Try.func4 (by kernel_rfl)
    (of_decide_eq_true (by kernel_rfl)) (by unfold Func.isWrapper; first | (rw [if_pos (by decide +kernel)]; kernel_rfl) | (rw [if_neg (by decide +kernel)]; exact ⟨rfl, rfl⟩))
    (fun os started H enc _ => contentPlaces_lifted os started H enc)

/-- The statement. -/
theorem contentPlaces_holds : Rows.ContentPlacesSaid := contentPlaces_over
#print axioms contentPlaces_holds
end Go.Proofs.Ythpbiamicidakaa
