/- SpareFroms: for every input the law answers true, and the arguments read as they did. No condition. -/
import Derived.Test.YtacfjmjcgolhfaaA16
import Derived.Test.YtacfjmjcgolhfaaJ0
namespace Go.Proofs.Ytacfjmjcgolhfaa
open Go.ChangeShapes Go.WideShapes Go.ChangeAt Go.RowKit Go.PW
open Go.PW.Enc (enc val)

set_option maxRecDepth 100000 in
theorem spareFroms_lifted (os : Os) (started : os.Started) (H : Type) (enc : TypeId × Value → H) :
    ReturnsInHanded {} Try.checked os 4 .any (Rows.spareFromsSpec.pre6 enc Try.prog Try.f4 Rows.spareFromsRow.domain false) (Rows.spareFromsSpec.post enc Try.prog Try.f4 false true false false) := by
  refine returnsInHanded_of_change_sized (C := Try.checked) own started (by kernel_rfl) Try.func4
    (ChangeSpec.witness6 (enc := enc) (C := Try.checked) false ⟨#[], #[.int .i64 0, .slice none 0 0], []⟩ 8 (by kernel_rfl) (by kernel_rfl) (by kernel_rfl) (by kernel_rfl)) ?_
  intro W base args ds gs before hval0 hW hcnd hwt _
  have hval : ∀ (j : Nat) t v, Try.f4.params[j]? = some t → args[j]? = some v → Value.okWide Try.prog W .any base t v := hval0
  have hW' := hW
  obtain ⟨p, q, hA0, hV, rfl, hfz, hnd⟩ := hW
  have hA : DataW.TrodAll enc Try.prog W 0 (fun _ => true) true Try.f4.params.toList args.toList ds p := hA0
  rw [Try.params4] at hA hval
  obtain ⟨v0, vs0, d0, ds0, p0, q0, hargs, rfl, rfl, h0, r0⟩ := trodAll_cons hA
  obtain ⟨v1, vs1, d1, ds1, p1, q1, rfl, rfl, rfl, h1, r1⟩ := trodAll_cons r0
  obtain ⟨rfl, rfl, rfl⟩ := trodAll_nil r1
  obtain rfl : args = #[v0, v1] := by cases args; simp_all
  obtain ⟨rfl, rfl⟩ := trodVars_none hV
  obtain ⟨i0, rfl, rfl, rfl, _⟩ := open_int Try.underlying3 (hval 0 3 v0 rfl rfl) h0
  obtain ⟨s1, x1, hs1, rfl, hg1, ho1⟩ := open_vs Try.underlying22 (by kernel_rfl) (by decide) opn33 (hval 1 22 v1 rfl rfl) h1
  have hb1 := sized33 hwt (j := 1) (by rw [Try.params4]; rfl) rfl ho1
  have hct := (Froms_ct i0 s1 x1 hs1 hb1).2 W ⟨by simp, by simpa using hg1, by simp [blks], by simp [blks]⟩
  refine hct.mono fun e W' ⟨v, own', ro', he, hp, hin⟩ => ⟨v, he, ?_⟩
  obtain ⟨rfl, _, _⟩ := hp
  exact law_post kids full (by rw [Try.params4]; decide) hW' rfl hin.ext rfl (by kernel_rfl) Try.underlying4

theorem spareFroms_over : Rows.spareFromsRow.holds Try.pinned (OpenSpec.ofChange Rows.spareFromsSpec) :=
  OpenClaim.holds_of_wide 4 Try.f4 rfl rfl rfl rfl rfl rfl rfl ⟨rfl, rfl, rfl, rfl, rfl⟩ rfl rfl rfl rfl rfl (by kernel_rfl) Try.func4 (by kernel_rfl)
    (of_decide_eq_true (by kernel_rfl)) (by unfold Func.isWrapper; first | (rw [if_pos (by decide +kernel)]; kernel_rfl) | (rw [if_neg (by decide +kernel)]; exact ⟨rfl, rfl⟩))
    (fun os started H enc _ => spareFroms_lifted os started H enc)

/-- The statement. -/
theorem spareFroms_holds : Rows.SpareFromsSaid := spareFroms_over
#print axioms spareFroms_holds
end Go.Proofs.Ytacfjmjcgolhfaa
