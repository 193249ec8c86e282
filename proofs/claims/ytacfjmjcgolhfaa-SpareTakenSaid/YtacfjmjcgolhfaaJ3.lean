/- SpareTaken: for every input the law answers true, and the arguments read as they did. No condition. -/
import Derived.Test.YtacfjmjcgolhfaaA10
import Derived.Test.YtacfjmjcgolhfaaJ0
namespace Go.Proofs.Ytacfjmjcgolhfaa
open Go.ChangeShapes Go.WideShapes Go.ChangeAt Go.RowKit Go.PW
open Go.PW.Enc (enc val)

set_option maxRecDepth 100000 in
theorem spareTaken_lifted (os : Os) (started : os.Started) (H : Type) (enc : TypeId × Value → H) :
    ReturnsInHanded {} Try.checked os 5 .any (Rows.spareTakenSpec.pre6 enc Try.prog Try.f5 Rows.spareTakenRow.domain false) (Rows.spareTakenSpec.post enc Try.prog Try.f5 false true false false) := by
  refine returnsInHanded_of_change_sized (C := Try.checked) own started (by kernel_rfl) Try.func5
    (ChangeSpec.witness6 (enc := enc) (C := Try.checked) false ⟨#[], #[.int .i64 0, .slice none 0 0, .slice none 0 0, .slice none 0 0], []⟩ 8 (by kernel_rfl) (by kernel_rfl) (by kernel_rfl) (by kernel_rfl)) ?_
  intro W base args ds gs before hval0 hW hcnd hwt _
  have hval : ∀ (j : Nat) t v, Try.f5.params[j]? = some t → args[j]? = some v → Value.okWide Try.prog W .any base t v := hval0
  have hW' := hW
  obtain ⟨p, q, hA0, hV, rfl, hfz, hnd⟩ := hW
  have hA : DataW.TrodAll enc Try.prog W 0 (fun _ => true) true Try.f5.params.toList args.toList ds p := hA0
  rw [Try.params5] at hA hval
  obtain ⟨v0, vs0, d0, ds0, p0, q0, hargs, rfl, rfl, h0, r0⟩ := trodAll_cons hA
  obtain ⟨v1, vs1, d1, ds1, p1, q1, rfl, rfl, rfl, h1, r1⟩ := trodAll_cons r0
  obtain ⟨v2, vs2, d2, ds2, p2, q2, rfl, rfl, rfl, h2, r2⟩ := trodAll_cons r1
  obtain ⟨v3, vs3, d3, ds3, p3, q3, rfl, rfl, rfl, h3, r3⟩ := trodAll_cons r2
  obtain ⟨rfl, rfl, rfl⟩ := trodAll_nil r3
  obtain rfl : args = #[v0, v1, v2, v3] := by cases args; simp_all
  obtain ⟨rfl, rfl⟩ := trodVars_none hV
  obtain ⟨i0, rfl, rfl, rfl, _⟩ := open_int Try.underlying3 (hval 0 3 v0 rfl rfl) h0
  obtain ⟨s1, x1, hs1, rfl, hg1, ho1⟩ := open_vs Try.underlying22 (by kernel_rfl) (by decide) opn33 (hval 1 22 v1 rfl rfl) h1
  have hb1 := sized33 hwt (j := 1) (by rw [Try.params5]; rfl) rfl ho1
  obtain ⟨s2, x2, hs2, rfl, hg2, ho2⟩ := open_vs Try.underlying22 (by kernel_rfl) (by decide) opn33 (hval 2 22 v2 rfl rfl) h2
  have hb2 := sized33 hwt (j := 2) (by rw [Try.params5]; rfl) rfl ho2
  obtain ⟨s3, x3, hs3, rfl, hg3, ho3⟩ := open_vs Try.underlying50 (by kernel_rfl) (by decide) (opn_i64 Try.underlying3) (hval 3 50 v3 rfl rfl) h3
  have hb3 := sized3 hwt (j := 3) (by rw [Try.params5]; rfl) rfl ho3
  have hct := (Taken_ct i0 s1 s2 s3 x1 x2 x3 hs1 hs2 hs3 hb1 hb2 hb3).2 W ⟨by simp, by simpa using ⟨hg1, hg2, hg3⟩, by simp [blks], by simp [blks]⟩
  refine hct.mono fun e W' ⟨v, own', ro', he, hp, hin⟩ => ⟨v, he, ?_⟩
  obtain ⟨rfl, _, _⟩ := hp
  exact law_post kids full (by rw [Try.params5]; decide) hW' rfl hin.ext rfl (by kernel_rfl) Try.underlying4

theorem spareTaken_over : Rows.spareTakenRow.holds Try.pinned (OpenSpec.ofChange Rows.spareTakenSpec) :=
  OpenClaim.holds_of_wide 5 Try.f5 rfl rfl rfl rfl rfl rfl rfl ⟨rfl, rfl, rfl, rfl, rfl⟩ rfl rfl rfl rfl rfl (by kernel_rfl) Try.func5 (by kernel_rfl)
    (of_decide_eq_true (by kernel_rfl)) (by unfold Func.isWrapper; first | (rw [if_pos (by decide +kernel)]; kernel_rfl) | (rw [if_neg (by decide +kernel)]; exact ⟨rfl, rfl⟩))
    (fun os started H enc _ => spareTaken_lifted os started H enc)

/-- The statement. -/
theorem spareTaken_holds : Rows.SpareTakenSaid := spareTaken_over
#print axioms spareTaken_holds
end Go.Proofs.Ytacfjmjcgolhfaa
