/- ContentPrints: for every input the law answers true, and the argument reads as it did; the card. No condition. -/
import Derived.Test.YthpbiamicidakaaDoorB10
import Derived.Test.YthpbiamicidakaaDoorJ0
import Derived.Test.YthpbiamicidakaaDoorTie
import Derived.Test.YthpbiamicidakaaDoorCards
import Derived.SevenTiedAt
namespace Go.Proofs.YthpbiamicidakaaDoor
open Go Go.ChangeShapes Go.WideShapes Go.ChangeAt Go.RowKit Go.PW
open Go.PW.Enc (enc val)

theorem g3 : Tryd.prog.globalNamed "internal/strconv.uint64pow10" = some 3 := by kernel_rfl
theorem g8 : Tryd.prog.globalNamed "math/bits.deBruijn64tab" = some 8 := by kernel_rfl
theorem tg3 : (Tryd.prog.globals[3]?).map (·.type) = some 127 := by kernel_rfl
theorem tg8 : (Tryd.prog.globals[8]?).map (·.type) = some 150 := by kernel_rfl
set_option maxRecDepth 100000 in
theorem laid_pow10 {W : World} {l : List (String × DataW Unit)} {ps : List MemPlace} (h : DataW.LaidVars Tryd.prog W l ps) (hm : ("internal/strconv.uint64pow10", Rows.laid_internal_strconv_uint64pow10) ∈ l) : SegIn W (tPow10 3) :=
  laid_row (⟨pow10L, by kernel_rfl⟩ : Arr UInt64 20) g3 tg3 (opnD_arr Tryd.underlying127 (by kernel_rfl) (by kernel_rfl) (opnD_u64 Tryd.underlying23)) (fun h => dU64_inj h) (by kernel_rfl) (laid_one h hm)
set_option maxRecDepth 100000 in
theorem laid_db64 {W : World} {l : List (String × DataW Unit)} {ps : List MemPlace} (h : DataW.LaidVars Tryd.prog W l ps) (hm : ("math/bits.deBruijn64tab", Rows.laid_math_bits_deBruijn64tab) ∈ l) : SegIn W (tDb64 8) :=
  laid_row (⟨dbL, by kernel_rfl⟩ : Arr UInt8 64) g8 tg8 (opnD_arr Tryd.underlying150 (by kernel_rfl) (by kernel_rfl) (opnD_u8 Tryd.underlying5)) (fun h => dU8_inj h) (by kernel_rfl) (laid_one h hm)
set_option maxRecDepth 100000 in
theorem contentPrints_met (os : Os) (args : Array Value) : laidMetH Tryd.prog Rows.contentPrintsRow.laid ((laidW os).forCall (fun _ _ => 0) ⟨#[], args, []⟩).memory :=
  laidMetH_of_parts3 (fuel := 8) (laidMet_of_run' 8 (by kernel_rfl) (by kernel_rfl)) (by kernel_rfl) (by kernel_rfl)
set_option maxRecDepth 100000 in
theorem contentPrints_lifted (os : Os) (started : os.Started) (H : Type) (enc : TypeId × Value → H) :
    ReturnsInHanded {} Tryd.checked os 4 .any (fun w args => (Rows.contentPrintsSpec.pre enc Tryd.prog Tryd.f4 [] false w args ∧ laidMetH Tryd.prog Rows.contentPrintsRow.laid w) ∧ sizedMet enc Tryd.prog Tryd.f4 (OpenSpec.ofChange Rows.contentPrintsSpec) false w args)
      (Rows.contentPrintsSpec.post enc Tryd.prog Tryd.f4 false true false false) := by
  refine returnsInHanded_of_change_and (C := Tryd.checked) (X := fun w _ => laidMetH Tryd.prog Rows.contentPrintsRow.laid w) (fun _ _ _ hh h => h.of_heap hh) own started (by kernel_rfl) Tryd.func4
    (ChangeSpec.witness_shaped (enc := enc) (C := Tryd.checked) (os := os) (X := fun w _ => laidMetH Tryd.prog Rows.contentPrintsRow.laid w) false (laidW os) #[zsaid] 40 rfl (World.shaped_of_RefB (by kernel_rfl) (by kernel_rfl)) (by kernel_rfl) (by kernel_rfl) (by kernel_rfl) (contentPrints_met os _)) ?_
  intro W base args ds gs before hval0 hW _ hwt hL _
  have hval : ∀ (j : Nat) t v, Tryd.f4.params[j]? = some t → args[j]? = some v → Value.okWide Tryd.prog W .any base t v := hval0
  have hW' := hW
  obtain ⟨p, q, hA0, hV, rfl, hfz, hnd⟩ := hW
  have hA : DataW.TrodAll enc Tryd.prog W 0 (fun _ => true) true Tryd.f4.params.toList args.toList ds p := hA0
  rw [Tryd.params4] at hA hval
  obtain ⟨v0, vs0, d0, ds0, p0, q0, hargs, rfl, rfl, h0, r0⟩ := trodAll_cons hA
  obtain ⟨rfl, rfl, rfl⟩ := trodAll_nil r0
  obtain rfl : args = #[v0] := by cases args; simp_all
  obtain ⟨rfl, rfl⟩ := trodVars_none hV
  obtain ⟨s, sm, ms, hm, hb, hsg, ht, rfl⟩ := open_said (hval 0 27 v0 rfl rfl) h0 (weights_arg hwt (j := 0) (by rw [Tryd.params4]; rfl) rfl)
  have hl := hL
  rw [MakeChecks.laidMetH_plain _ _ _ (by kernel_rfl)] at hl
  obtain ⟨ps, hl, _⟩ := hl
  have ha := laid_first hl (by simp [Rows.contentPrintsRow, Rows.laid_unicode_utf8_first])
  have hb2 := laid_acc hl (by simp [Rows.contentPrintsRow])
  have hc := laid_pow10 hl (by simp [Rows.contentPrintsRow])
  have hd := laid_db64 hl (by simp [Rows.contentPrintsRow])
  have hct := (ContentPrints_ct s sm ms hm hb).2 W ⟨by simp, by simpa using ⟨hsg, ha, hb2, hc, hd⟩, by simp [blks], by simp [blks]⟩
  refine hct.mono fun e W' ⟨v, own', ro', he, hp, hin⟩ => ⟨v, he, ?_⟩
  obtain ⟨rfl, _, _⟩ := hp
  exact law_post kids full (by rw [Tryd.params4]; decide) hW' rfl hin.ext rfl (by kernel_rfl) Tryd.underlying4

set_option maxRecDepth 100000 in
theorem contentPrints_over : Rows.contentPrintsRow.holds Tryd.pinned (OpenSpec.ofChange Rows.contentPrintsSpec) :=
  OpenClaim.holds_of_wide 4 Tryd.f4 rfl rfl rfl rfl rfl rfl rfl ⟨rfl, rfl, rfl, rfl, rfl⟩ rfl rfl rfl rfl rfl (by kernel_rfl) Tryd.func4 (by kernel_rfl)
    (of_decide_eq_true (by kernel_rfl)) (by unfold Func.isWrapper; first | (rw [if_pos (by decide +kernel)]; kernel_rfl) | (rw [if_neg (by decide +kernel)]; exact ⟨rfl, rfl⟩))
    (fun os started H enc _ => contentPrints_lifted os started H enc)

set_option maxRecDepth 100000 in
/-- The statement: the tied card. -/
theorem contentPrints_holds : Rows.ContentPrintsCardSaid :=
  Claim7.holds_tied_plain_at .later [] [.data, .data, .data, .data, .pinned] true (true, "eaff5602f16009a75e294530c1c39c3436e583f10ae91c592370ce35e5a34927") true
    contentPrints_over (fun _ h => by cases h) (by kernel_rfl) (fun _ h => by cases h) contentPrints_row_tie rfl ⟨rfl, rfl⟩ (by kernel_rfl) rfl
    (fun f fn hf hfn => by
      obtain rfl : f = 4 := Option.some.inj ((show Tryd.prog.funcNamed "pawl/pawllaw09.ContentPrints" = some 4 by kernel_rfl).symm.trans hf) |>.symm
      obtain rfl : fn = Tryd.f4 := (Option.some.inj (Tryd.func4.symm.trans hfn)).symm
      exact ⟨by kernel_rfl, fun j t ht => by
        rw [Tryd.params4] at ht
        have hm : t ∈ [27] := by simpa using Array.mem_of_getElem? ht
        have hall : ([27].all fun u => !Tryd.prog.wantsStandIn u) = true := by kernel_rfl
        exact (show Tryd.prog.wantsStandIn t = false by simpa using List.all_eq_true.1 hall t hm)⟩)
    (by kernel_rfl)
#print axioms contentPrints_holds
end Go.Proofs.YthpbiamicidakaaDoor
