/- SpareAgain: for every input the law answers true, and the arguments read as they did. No condition. -/
import Derived.Test.YtacfjmjcgolhfaaA19
import Derived.Test.YtacfjmjcgolhfaaJ5
import Derived.Test.YtacfjmjcgolhfaaJ0
namespace Go.Proofs.Ytacfjmjcgolhfaa
open Go.ChangeShapes Go.WideShapes Go.ChangeAt Go.RowKit Go.PW
open Go.PW.Enc (enc val)

set_option maxRecDepth 100000 in
theorem spareAgain_lifted (os : Os) (started : os.Started) (H : Type) (enc : TypeId × Value → H) :
    ReturnsInHanded {} Try.checked os 7 .any (Rows.spareAgainSpec.pre6 enc Try.prog Try.f7 Rows.spareAgainRow.domain false) (Rows.spareAgainSpec.post enc Try.prog Try.f7 false true false false) := by
  refine returnsInHanded_of_change_sized (C := Try.checked) own started (by kernel_rfl) Try.func7
    (ChangeSpec.witness6 (enc := enc) (C := Try.checked) false ⟨#[], #[.int .i64 0, .slice none 0 0, .slice none 0 0], []⟩ 8 (by kernel_rfl) (by kernel_rfl) (by kernel_rfl) (by kernel_rfl)) ?_
  intro W base args ds gs before hval0 hW hcnd hwt _
  have hval : ∀ (j : Nat) t v, Try.f7.params[j]? = some t → args[j]? = some v → Value.okWide Try.prog W .any base t v := hval0
  have hW' := hW
  obtain ⟨p, q, hA0, hV, rfl, hfz, hnd⟩ := hW
  have hA : DataW.TrodAll enc Try.prog W 0 (fun _ => true) true Try.f7.params.toList args.toList ds p := hA0
  rw [Try.params7] at hA hval
  obtain ⟨v0, vs0, d0, ds0, p0, q0, hargs, rfl, rfl, h0, r0⟩ := trodAll_cons hA
  obtain ⟨v1, vs1, d1, ds1, p1, q1, rfl, rfl, rfl, h1, r1⟩ := trodAll_cons r0
  obtain ⟨v2, vs2, d2, ds2, p2, q2, rfl, rfl, rfl, h2, r2⟩ := trodAll_cons r1
  obtain ⟨rfl, rfl, rfl⟩ := trodAll_nil r2
  obtain rfl : args = #[v0, v1, v2] := by cases args; simp_all
  obtain ⟨rfl, rfl⟩ := trodVars_none hV
  obtain ⟨i0, rfl, rfl, rfl, _⟩ := open_int Try.underlying3 (hval 0 3 v0 rfl rfl) h0
  obtain ⟨s1, x1, hs1, rfl, hg1, ho1⟩ := open_vs Try.underlying22 (by kernel_rfl) (by decide) opn33 (hval 1 22 v1 rfl rfl) h1
  have hb1 := sized33 hwt (j := 1) (by rw [Try.params7]; rfl) rfl ho1
  obtain ⟨t2, sc2, ht2, rfl, hg2, hk2, hops2, hsc2⟩ := open_ops h2 (fun n hn => of_decide_eq_true (List.all_eq_true.1 hwt n (DataW.weights_mem_each (j := 2) (by rw [Try.params7]; rfl) rfl n hn))) (hval 2 54 v2 rfl rfl)
  have hct := (Again_ct i0 s1 x1 hs1 hb1 t2 sc2 ht2 hops2 hsc2).2 W ⟨by simp, by simpa using ⟨hg1, hg2, hk2⟩, by simp [blks], by simp [blks]⟩
  refine hct.mono fun e W' ⟨v, own', ro', he, hp, hin⟩ => ⟨v, he, ?_⟩
  obtain ⟨rfl, _, _⟩ := hp
  exact law_post kids full (by rw [Try.params7]; decide) hW' rfl hin.ext rfl (by kernel_rfl) Try.underlying4

theorem spareAgain_over : Rows.spareAgainRow.holds Try.pinned (OpenSpec.ofChange Rows.spareAgainSpec) :=
  OpenClaim.holds_of_wide 7 Try.f7 rfl rfl rfl rfl rfl rfl rfl ⟨rfl, rfl, rfl, rfl, rfl⟩ rfl rfl rfl rfl rfl (by kernel_rfl) Try.func7 (by kernel_rfl)
    (of_decide_eq_true (by kernel_rfl)) (by unfold Func.isWrapper; first | (rw [if_pos (by decide +kernel)]; kernel_rfl) | (rw [if_neg (by decide +kernel)]; exact ⟨rfl, rfl⟩))
    (fun os started H enc _ => spareAgain_lifted os started H enc)

/-- The statement. -/
theorem spareAgain_holds : Rows.SpareAgainSaid := spareAgain_over
#print axioms spareAgain_holds
end Go.Proofs.Ytacfjmjcgolhfaa
