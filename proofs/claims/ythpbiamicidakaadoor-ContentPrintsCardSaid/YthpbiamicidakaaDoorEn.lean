/- The engine: drawn regions in which several operations that make memory may come up in any order: one walk for each order. No condition. -/
import Derived.Test.YthpbiamicidakaaDoorEm
namespace Go.PW
open Go

/-- Plans with branches: where several operations may come up. -/
inductive PT where
  | leaf
  | one (i q : Nat) (r : PT)
  | alt (a b : PT)
def PT.of : List (Nat × Nat) → PT → PT
  | [], t => t
  | (i, q) :: r, t => .one i q (PT.of r t)
def PT.heads : PT → List Nat
  | .leaf => []
  | .one i _ _ => [i]
  | .alt a b => a.heads ++ b.heads
def PT.size : PT → Nat
  | .leaf => 0
  | .one _ _ r => r.size + 1
  | .alt a b => max a.size b.size

mutual
def okT (ops : Array Oper) (Bs : List Nat) : PT → Array Bool → Bool → Bool
  | .leaf, listed, _ => (Region.ready .any ops listed).isEmpty
  | .one i 0 r, listed, tb => !tb && Region.free .any ops listed i && (Region.ready .any ops listed).contains i && !Bs.contains i && Bs.all (fun j => match ops[j]? with | some oj => oj.after.any (fun e => Region.binds .any e && e.on == i) | none => true) && okT ops Bs r (listed.setIfInBounds i true) tb
  | .one i (k + 1) r, listed, tb => ((Region.ready .any ops listed) == [i]) && ((k == 0) != Bs.contains i) && okT ops Bs r (listed.setIfInBounds i true) (tb || Bs.contains i)
  | .alt a b, listed, tb => !(Region.ready .any ops listed).isEmpty && (Region.ready .any ops listed).all (fun j => a.heads.contains j || b.heads.contains j) && brT ops Bs a listed tb && brT ops Bs b listed tb
def brT (ops : Array Oper) (Bs : List Nat) : PT → Array Bool → Bool → Bool
  | .leaf, _, _ => false
  | .one _ 0 _, _, _ => false
  | .one i (k + 1) r, listed, tb => ((k == 0) != Bs.contains i) && okT ops Bs r (listed.setIfInBounds i true) (tb || Bs.contains i)
  | .alt a b, listed, tb => brT ops Bs a listed tb && brT ops Bs b listed tb
end

def wpT (P : Program) (ops : Array Oper) (S : World → Prop) (Q : Exit → Act → World → Prop) : PT → Act → World → Prop
  | .leaf, a, w => Q .normal a w
  | .one i 0 r, a, w => ∃ v, YieldsIf P ops S (ops.toList.getD i default) v a ∧ wpT P ops S Q r (a.put (ops.toList.getD i default).dst v) w
  | .one i (k + 1) r, a, w => if Region.wanted (ops.toList.getD i default) (yielded ops a.tmps) = true then (ops.toList.getD i default).wp P a w (fun a' w' => (k = 0 → S w') ∧ wpT P ops S Q r a' w') Q
      else (k = 0 → S w) ∧ wpT P ops S Q r (a.put (ops.toList.getD i default).dst undef) w
  | .alt a b, x, w => wpT P ops S Q a x w ∧ wpT P ops S Q b x w

theorem brT_pos {ops : Array Oper} {Bs : List Nat} : ∀ (t : PT) (l : Array Bool) (tb : Bool), brT ops Bs t l tb = true → 0 < t.size
  | .leaf, _, _, h => by simp [brT] at h
  | .one _ _ _, _, _, _ => by simp [PT.size]
  | .alt a b, l, tb, h => by
    simp only [brT, Bool.and_eq_true] at h
    have := brT_pos a l tb h.1
    simp only [PT.size]; omega
theorem okT_sound {P : Program} {ops : Array Oper} {S : World → Prop} {Q : Exit → Act → World → Prop} {Bs : List Nat} (hs : Region.noSelect ops = true)
    (hQ : ∀ c a d v w, Q (.panic c) (a.put d v) w → Q (.panic c) a w) :
    ∀ (t : PT), (∀ (fuel : Nat) (listed : Array Bool) (tb : Bool) (a : Act) (w : World), t.size ≤ fuel → okT ops Bs t listed tb = true → (tb = false → S w) → wpT P ops S Q t a w → wpX P ops Q S (fun i => Bs.contains i) fuel listed a w) ∧
      (∀ (fuel : Nat) (listed : Array Bool) (tb : Bool) (a : Act) (w : World), t.size ≤ fuel + 1 → brT ops Bs t listed tb = true → (tb = false → S w) → wpT P ops S Q t a w →
        ∀ j, (∃ oj, ops[j]? = some oj) → t.heads.contains j = true → wpOp P ops Q j (fun a' w' => (Bs.contains j = false → S w') ∧ wpX P ops Q S (fun i => Bs.contains i) fuel (listed.setIfInBounds j true) a' w') a w) := by
  intro t
  induction t with
  | leaf =>
    refine ⟨fun fuel listed tb a w hf hc hS h => ?_, fun fuel listed tb a w hf hc => by simp [brT] at hc⟩
    simp only [okT, List.isEmpty_iff] at hc
    exact wpX_done hc h
  | one i q r ih =>
    have noisy : ∀ (k : Nat), q = k + 1 → ∀ (fuel : Nat) (listed : Array Bool) (tb : Bool) (a : Act) (w : World), r.size ≤ fuel → ((k == 0) != Bs.contains i) = true → okT ops Bs r (listed.setIfInBounds i true) (tb || Bs.contains i) = true → (tb = false → S w) →
        wpT P ops S Q (.one i q r) a w → (∃ oi, ops[i]? = some oi) → wpOp P ops Q i (fun a' w' => (Bs.contains i = false → S w') ∧ wpX P ops Q S (fun i => Bs.contains i) fuel (listed.setIfInBounds i true) a' w') a w := by
      intro k hk fuel listed tb a w hf hb hok hS h ⟨oi, hoi⟩
      subst hk
      have ho : ops.toList.getD i default = oi := by simp [List.getD, hoi]
      have hk0 : Bs.contains i = false → k = 0 := fun e => by rw [e] at hb; simpa using hb
      have hsx : ∀ w', (k = 0 → S w') → ((tb || Bs.contains i) = false → S w') := fun w' h1 h2 => h1 (hk0 (by simp only [Bool.or_eq_false_iff] at h2; exact h2.2))
      simp only [wpT, ho] at h
      unfold wpOp
      simp only [hoi]
      split
      · rename_i hw
        rw [if_pos hw] at h
        exact .inl (Oper.wp_mono (fun a' w' ⟨hS', hr⟩ => ⟨fun e => hS' (hk0 e), ih.1 fuel _ _ _ w' hf hok (hsx w' hS') hr⟩) h)
      · rename_i hw
        rw [if_neg hw] at h
        exact ⟨fun e => h.1 (hk0 e), ih.1 fuel _ _ _ w hf hok (hsx w h.1) h.2⟩
    refine ⟨fun fuel listed tb a w hf hc hS h => ?_, fun fuel listed tb a w hf hc hS h j hj hm => ?_⟩
    · obtain ⟨g, rfl⟩ : ∃ g, fuel = g + 1 := ⟨fuel - 1, by simp [PT.size] at hf; omega⟩
      have hf' : r.size ≤ g := by simpa [PT.size] using hf
      cases q with
      | zero =>
        simp only [okT, Bool.and_eq_true, Bool.not_eq_true'] at hc
        obtain ⟨⟨⟨⟨⟨h0, h1⟩, h2⟩, h3⟩, h4⟩, h5⟩ := hc
        obtain ⟨_, oi, hi, _⟩ := mem_ready.1 (show i ∈ Region.ready .any ops listed by simpa using h2)
        have ho : ops.toList.getD i default = oi := by simp [List.getD, hi]
        simp only [wpT, ho] at h
        obtain ⟨v, hy, hrest⟩ := h
        refine wpX_first hi (Region.noSelect_spec hs) (fun c a w => hQ c a _ _ w) (by simpa using h3) (fun j oj hj hoj => ?_) g listed a w (Region.free_spec hi h1) (by simpa using h2) hy (hS h0) (ih.1 g _ tb _ w hf' h5 hS hrest)
        have h6 := List.all_eq_true.1 h4 j (by simpa using hj)
        rw [hoj] at h6
        obtain ⟨e, he, hb⟩ := Array.any_eq_true'.1 h6
        simp only [Bool.and_eq_true, beq_iff_eq] at hb
        exact ⟨e, he, hb.1, hb.2⟩
      | succ k =>
        simp only [okT, Bool.and_eq_true, beq_iff_eq] at hc
        obtain ⟨⟨h1, h2⟩, h3⟩ := hc
        refine ⟨fun h0 => by rw [h1] at h0; simp at h0, fun j hj => ?_⟩
        obtain ⟨_, oi, hi, _⟩ := mem_ready.1 hj
        rw [h1, List.mem_singleton] at hj; subst hj
        exact noisy k rfl g listed tb a w hf' h2 h3 hS h ⟨oi, hi⟩
    · cases q with
      | zero => simp [brT] at hc
      | succ k =>
        simp only [brT, Bool.and_eq_true] at hc
        have e : j = i := by simpa [PT.heads] using hm
        subst e
        exact noisy k rfl fuel listed tb a w (by simpa [PT.size] using hf) hc.1 hc.2 hS h hj
  | alt x y ihx ihy =>
    refine ⟨fun fuel listed tb a w hf hc hS h => ?_, fun fuel listed tb a w hf hc hS h j hj hm => ?_⟩
    · simp only [okT, Bool.and_eq_true, Bool.not_eq_true'] at hc
      obtain ⟨⟨⟨h1, h2⟩, h3⟩, h4⟩ := hc
      have hne : Region.ready .any ops listed ≠ [] := fun e => by rw [e] at h1; simp at h1
      cases fuel with
      | zero =>
        exfalso
        have := brT_pos x listed tb h3
        simp only [PT.size] at hf; omega
      | succ g =>
        refine ⟨fun h0 => absurd h0 hne, fun j hj => ?_⟩
        obtain ⟨_, oi, hi, _⟩ := mem_ready.1 hj
        have h5 := List.all_eq_true.1 h2 j hj
        rw [Bool.or_eq_true] at h5
        simp only [PT.size] at hf
        rcases h5 with h5 | h5
        · exact ihx.2 g listed tb a w (by omega) h3 hS h.1 j ⟨oi, hi⟩ h5
        · exact ihy.2 g listed tb a w (by omega) h4 hS h.2 j ⟨oi, hi⟩ h5
    · simp only [brT, Bool.and_eq_true] at hc
      simp only [PT.size] at hf
      simp only [PT.heads, List.contains_append, Bool.or_eq_true] at hm
      rcases hm with hm | hm
      · exact ihx.2 fuel listed tb a w (by omega) hc.1 hS h.1 j hj hm
      · exact ihy.2 fuel listed tb a w (by omega) hc.2 hS h.2 j hj hm

theorem wp_Q {P : Program} {o : Oper} {a : Act} {w : World} {K : Act → World → Prop} {Q Q' : Exit → Act → World → Prop} (h : ∀ e a w, e ≠ .normal → Q' e a w → Q e a w) (hh : o.wp P a w K Q') : o.wp P a w K Q := by
  unfold Oper.wp at *
  generalize (execOp a.eval o).run P w = r at *
  cases r with
  | ok n w' =>
    cases n <;> simp only [Oper.upon] at hh ⊢ <;>
      first
        | exact hh
        | exact Calls.mono hh (fun e w'' he => by cases e <;> first | exact he | exact h _ _ _ (by simp) he | (obtain ⟨a1, w1, h1⟩ := he; exact ⟨a1, w1, h _ _ _ (by simp) h1⟩))
  | halt x w' => cases x <;> simp only [Oper.upon] at hh ⊢ <;> first | exact hh | exact h _ _ _ (by simp) hh
/-- What stands behind a part of a plan: a tree. -/
def QT (P : Program) (ops : Array Oper) (S : World → Prop) (Q : Exit → Act → World → Prop) (t : PT) : Exit → Act → World → Prop
  | .normal, a, w => wpT P ops S Q t a w
  | e, a, w => Q e a w
theorem wpT_of {P : Program} {ops : Array Oper} {S : World → Prop} {Q : Exit → Act → World → Prop} (t : PT) : ∀ (l : List (Nat × Nat)) (a : Act) (w : World), wpPl P ops S (QT P ops S Q t) (plOf ops l) a w → wpT P ops S Q (PT.of l t) a w
  | [], _, _, h => h
  | (i, 0) :: r, a, w, h => by
    obtain ⟨v, hy, h2⟩ := h
    exact ⟨v, hy, wpT_of t r _ _ h2⟩
  | (i, k + 1) :: r, a, w, h => by
    simp only [plOf, wpPl] at h
    simp only [PT.of, wpT]
    split
    · rename_i hw
      rw [if_pos hw] at h
      exact wp_Q (Q' := QT P ops S Q t) (fun e a w hne h3 => by cases e <;> first | exact absurd rfl hne | exact h3) (Oper.wp_mono (fun a' w' (h5 : (k = 0 → S w') ∧ wpPl P ops S (QT P ops S Q t) (plOf ops r) a' w') => ⟨h5.1, wpT_of t r a' w' h5.2⟩) h)
    · rename_i hw
      rw [if_neg hw] at h
      exact ⟨h.1, wpT_of t r _ _ h.2⟩
theorem wpT_leaf {P : Program} {ops : Array Oper} {S : World → Prop} {Q : Exit → Act → World → Prop} : ∀ (l : List (Nat × Nat)) (a : Act) (w : World), wpPl P ops S Q (plOf ops l) a w → wpT P ops S Q (PT.of l .leaf) a w
  | [], _, _, h => h
  | (i, 0) :: r, a, w, h => by
    obtain ⟨v, hy, h2⟩ := h
    exact ⟨v, hy, wpT_leaf r _ _ h2⟩
  | (i, k + 1) :: r, a, w, h => by
    simp only [plOf, wpPl] at h
    simp only [PT.of, wpT]
    split
    · rename_i hw
      rw [if_pos hw] at h
      exact Oper.wp_mono (fun a' w' (h5 : (k = 0 → S w') ∧ wpPl P ops S Q (plOf ops r) a' w') => ⟨h5.1, wpT_leaf r a' w' h5.2⟩) h
    · rename_i hw
      rw [if_neg hw] at h
      exact ⟨h.1, wpT_leaf r _ _ h.2⟩

def JT (cx : Cx) (S : List Seg) (ops : Array Oper) (Q : Exit → Act → World → Prop) (t : PT) (base : Nat → Value) (L : List (Nat × Value)) (own ro : List Seg) : Prop :=
  ∀ w, In cx.z own ro w → AllIn S w → wpT cx.P ops (AllIn S) Q t (A cx.n base L) w

section
variable {cx : Cx} {ops : Array Oper} {Q Q0 : Exit → Act → World → Prop} {st : List Fr} {base : Nat → Value} {L : List (Nat × Value)} {own ro : List Seg} {S : List Seg} {t a b : PT}
def okTree (ops : Array Oper) (Bs : List Nat) (t : PT) : Bool := Region.noSelect ops && okT ops Bs t (Array.replicate ops.size false) false && Nat.ble t.size ops.size
theorem c_drT {id : Nat} (S : List Seg) (Bs : List Nat) (t : PT) (hm : cx.P.follows .mixedOrders = true) (hok : okTree ops Bs t = true) (hQ : Calm Q0) (hS : KeepS S own ro)
    (h : JT cx S ops (qof cx.P Q0 st) t base L own ro) : JC cx (.region id ops true) Q0 st base L own ro := JC.mk fun w hw => by
  have hw' := hw.drew
  simp only [okTree, Bool.and_eq_true] at hok
  obtain ⟨⟨hs, hp⟩, hl1⟩ := hok
  exact wp_region_any hm (wpAny_of_X _ _ _ _ ((okT_sound (S := AllIn S) hs (fun c a d v w h => (qof_panic st).2 (hQ c a d v w ((qof_panic st).1 h))) t).1 _ _ false _ _ (Nat.ble_eq.mp hl1) hp (fun _ => hw'.keep hS) (h _ hw' (hw'.keep hS))))
theorem jt_of (l : List (Nat × Nat)) (h : JG cx (.dr S) ops (QT cx.P ops (AllIn S) Q t) (plOf ops l) base L own ro) : JT cx S ops Q (PT.of l t) base L own ro := fun w hw hs => by
  unfold JG at h
  exact wpT_of t l _ _ (h w hw fun _ _ _ => hs)
theorem jt_fin (l : List (Nat × Nat)) (h : JG cx (.dr S) ops Q (plOf ops l) base L own ro) : JT cx S ops Q (PT.of l .leaf) base L own ro := fun w hw hs => by
  unfold JG at h
  exact wpT_leaf l _ _ (h w hw fun _ _ _ => hs)
theorem jt_alt (h1 : JT cx S ops Q a base L own ro) (h2 : JT cx S ops Q b base L own ro) : JT cx S ops Q (.alt a b) base L own ro := fun w hw hs => ⟨h1 w hw hs, h2 w hw hs⟩
theorem j_alt (hS : KeepS S own ro) (h : JT cx S ops Q t base L own ro) : JG cx (.dr S) ops (QT cx.P ops (AllIn S) Q t) [] base L own ro := by
  unfold JG
  exact fun w hw _ => h w hw (hw.keep hS)
end
end Go.PW
