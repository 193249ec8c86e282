/- Laws of an engine and of the program's functions, gathered. No condition. -/
import Derived.WalkKit
import Derived.KernelRfl
import Derived.OrdersHeld
import Derived.Deep.RegionHeld
import Derived.Deep.LoopGhost
import Derived.ChangeKeysEq
import Derived.ReadAgain
import Derived.OpenShut
import Derived.SizedLaws
import Derived.Deep.Slices
import Derived.RowKit
import Derived.Laws.FloatArith
import Derived.Laws.Shifts
import Derived.Lib.ConvBytes
import Derived.Test.YtakbbpahfclgnaaGreatDoorProg
import Derived.Laws.IdiomStrings
import Derived.Lib.Builder
import Derived.Lib.UnsafeStr
open Go.Proofs.Tryz renaming underlying2 → uy2, underlying3 → uy3, underlying5 → uy5, underlying9 → uy9, underlying72 → uy72, underlying93 → uy93
set_option maxRecDepth 20000
set_option maxHeartbeats 4000000
namespace Go.PW
open Go
def look (base : Nat → Value) : List (Nat × Value) → Nat → Value
  | [], t => base t
  | (d, v) :: r, t => bif Nat.beq d t then v else look base r t
def A (n : Nat) (base : Nat → Value) (L : List (Nat × Value)) : Act := ⟨Array.ofFn (n := n) fun i => look base L i.val, []⟩
def ev (n : Nat) (base : Nat → Value) (L : List (Nat × Value)) : Operand → Value
  | .tmp t => bif Nat.blt t n then look base L t else undef
  | .const v => v
  | .global g => .pointer (some ⟨g, 0, none⟩)
  | .func f => .func (.func f) #[] #[]
theorem A_eval (n base L) (x : Operand) : (A n base L).eval x = ev n base L x := by
  cases x with
  | tmp t =>
    simp only [Act.eval, A, ev]
    rw [Array.getD_eq_getD_getElem?]
    by_cases h : t < n
    · have : Nat.blt t n = true := Nat.ble_eq.mpr h
      simp [h, this]
    · have : Nat.blt t n = false := by
        cases hb : Nat.blt t n with
        | false => rfl
        | true => exact absurd (Nat.ble_eq.mp hb) h
      simp [h, this]
  | _ => rfl
theorem A_eval_fun (n base L) : (A n base L).eval = ev n base L := funext (A_eval n base L)
theorem A_ext {n base L base' L'} (h : ∀ t, t < n → look base L t = look base' L' t) : A n base L = A n base' L' := by
  unfold A; congr 1
  exact congrArg Array.ofFn (funext fun i => h i.val i.isLt)
theorem A_put (n base L) (d : Nat) (v : Value) : (A n base L).put (some d) v = A n base ((d, v) :: L) := by
  simp only [Act.put, A]
  congr 1
  apply Array.ext
  · simp
  · intro i h1 h2
    simp only [Array.getElem_ofFn, look]
    by_cases e : d = i
    · subst e; simp
    · have : Nat.beq d i = false := by
        cases hb : Nat.beq d i with
        | false => rfl
        | true => exact absurd (Nat.eq_of_beq_eq_true hb) e
      rw [this, Array.getElem_setIfInBounds_ne (by simpa using h2) e]; simp
theorem A_same {n base L d v} (h : look base L d = v) : A n base ((d, v) :: L) = A n base L :=
  A_ext fun t _ => by
    simp only [look]
    cases hb : Nat.beq d t with
    | false => rfl
    | true => have := Nat.eq_of_beq_eq_true hb; subst this; simp [h]
inductive Ck where
  | cells (c : List Value) (E : Nat)
  | view (off : Nat) (l : List Value)
  | pred (φ : Obj → Prop)
def isCells : Obj → Bool
  | .cells .. => true
  | _ => false
def Ck.ok : Ck → Obj → Prop
  | .cells c E, o => ∃ fr : Nat × Nat, o = .cells ⟨c⟩ E fr ∧ (c.length ≤ fr.1 ∨ fr.2 ≤ fr.1)
  | .view off l, o => ∃ c E fr, o = .cells c E fr ∧ ∀ i v, l[i]? = some v → c[off + i]? = some v
  | .pred φ, o => φ o ∧ isCells o = false
abbrev Seg := List (Nat × Ck)
def SegIn (w : World) (s : Seg) : Prop := ∀ p ∈ s, ∃ o, w.heap[p.1]? = some o ∧ p.2.ok o
def blks (l : List Seg) : List Nat := l.flatten.map (·.1)
theorem mem_blks {l : List Seg} {b : Nat} : b ∈ blks l ↔ ∃ s ∈ l, ∃ p ∈ s, p.1 = b := by
  simp only [blks, List.mem_map, List.mem_flatten]
  constructor
  · rintro ⟨p, ⟨s, hs, hp⟩, rfl⟩; exact ⟨s, hs, p, hp, rfl⟩
  · rintro ⟨s, hs, p, hp, rfl⟩; exact ⟨p, ⟨s, hs, hp⟩, rfl⟩
structure Has (w : World) (own ro : List Seg) : Prop where
  o : ∀ s ∈ own, SegIn w s
  r : ∀ s ∈ ro, SegIn w s
  nd : (blks own).Nodup
  dj : ∀ b, b ∈ blks own → b ∈ blks ro → False
structure Ext (M : List Nat) (w w' : World) : Prop where
  os : w'.os = w.os
  tape : w'.tape = w.tape
  output : w'.output = w.output
  size : w.heap.size ≤ w'.heap.size
  blk : ∀ b, b < w.heap.size → b ∉ M → w'.heap[b]? = w.heap[b]?
theorem Ext.refl (M w) : Ext M w w := ⟨rfl, rfl, rfl, Nat.le_refl _, fun _ _ _ => rfl⟩
structure Zt0 where
  w0 : World
  M0 : List Nat
  N0 : Nat
structure In (z : Zt0) (own ro : List Seg) (w : World) : Prop where
  has : Has w own ro
  ext : Ext z.M0 z.w0 w
  fr : ∀ b ∈ blks own, b ∈ z.M0 ∨ z.w0.heap.size ≤ b
  rf : ∀ b ∈ blks (ro.drop z.N0), b ∈ z.M0 ∨ z.w0.heap.size ≤ b
theorem SegIn.lt {w s p} (h : SegIn w s) (hp : p ∈ s) : p.1 < w.heap.size := by
  obtain ⟨o, ho, _⟩ := h p hp
  exact (Array.getElem?_eq_some_iff.1 ho).1
theorem Has.lt {w own ro} (h : Has w own ro) {b} (hb : b ∈ blks own ∨ b ∈ blks ro) : b < w.heap.size := by
  rcases hb with hb | hb
  · obtain ⟨s, hs, p, hp, rfl⟩ := mem_blks.1 hb; exact (h.o s hs).lt hp
  · obtain ⟨s, hs, p, hp, rfl⟩ := mem_blks.1 hb; exact (h.r s hs).lt hp
theorem SegIn.keep {w w' : World} {s : Seg} (h : SegIn w s) (hk : ∀ p ∈ s, w'.heap[p.1]? = w.heap[p.1]?) : SegIn w' s := fun p hp => by
  obtain ⟨o, ho, hok⟩ := h p hp
  exact ⟨o, (hk p hp).trans ho, hok⟩
theorem new_at (w : World) (o : Obj) : (w.alloc o).heap[w.heap.size]? = some o := by
  show (w.heap.push o)[w.heap.size]? = some o
  simp
theorem new_old (w : World) (o : Obj) (b : Nat) (h : b < w.heap.size) : (w.alloc o).heap[b]? = w.heap[b]? := by
  show (w.heap.push o)[b]? = w.heap[b]?
  rw [Array.getElem?_push, if_neg (Nat.ne_of_lt h)]
theorem In.alloc {z own ro w} (h : In z own ro w) (o : Obj) (k : Ck) (hk : k.ok o) :
    In z (own ++ [[(w.heap.size, k)]]) ro (w.alloc o) := by
  have old : ∀ b, b < w.heap.size → (w.alloc o).heap[b]? = w.heap[b]? := fun b hb => new_old w o b hb
  have hb : blks (own ++ [[(w.heap.size, k)]]) = blks own ++ [w.heap.size] := by simp [blks]
  refine ⟨⟨?_, ?_, ?_, ?_⟩, ?_, ?_, h.rf⟩
  · intro s hs
    rcases List.mem_append.1 hs with hs | hs
    · exact (h.has.o s hs).keep fun p hp => old _ ((h.has.o s hs).lt hp)
    · simp only [List.mem_singleton] at hs; subst hs
      intro p hp
      simp only [List.mem_singleton] at hp; subst hp
      exact ⟨o, new_at w o, hk⟩
  · exact fun s hs => (h.has.r s hs).keep fun p hp => old _ ((h.has.r s hs).lt hp)
  · rw [hb, List.nodup_append]
    refine ⟨h.has.nd, by simp, fun a ha c hc => ?_⟩
    simp only [List.mem_singleton] at hc; subst hc
    exact Nat.ne_of_lt (h.has.lt (.inl ha))
  · intro b hb1 hb2
    rw [hb] at hb1
    rcases List.mem_append.1 hb1 with h1 | h1
    · exact h.has.dj b h1 hb2
    · simp only [List.mem_singleton] at h1; subst h1
      exact Nat.lt_irrefl _ (h.has.lt (.inr hb2))
  · exact ⟨h.ext.os, h.ext.tape, h.ext.output, by simp; exact Nat.le_succ_of_le h.ext.size,
      fun b hb hm => (old b (Nat.lt_of_lt_of_le hb h.ext.size)).trans (h.ext.blk b hb hm)⟩
  · intro b hb1
    rw [hb] at hb1
    rcases List.mem_append.1 hb1 with h1 | h1
    · exact h.fr b h1
    · simp only [List.mem_singleton] at h1; subst h1; exact .inr h.ext.size
theorem blks_set {own : List Seg} {i : Nat} {b : Nat} {k k' : Ck} (hi : own[i]? = some [(b, k)]) : blks (own.set i [(b, k')]) = blks own := by
  obtain ⟨hlt, he⟩ := List.getElem?_eq_some_iff.1 hi
  have h1 : own = own.take i ++ [(b, k)] :: own.drop (i + 1) := by
    rw [← he, List.getElem_cons_drop, List.take_append_drop]
  have h2 : own.set i [(b, k')] = own.take i ++ [(b, k')] :: own.drop (i + 1) := by
    rw [List.set_eq_take_append_cons_drop, if_pos hlt]
  rw [h2]
  conv => rhs; rw [h1]
  simp [blks]
theorem In.turn {z own ro w} (h : In z own ro w) {i b k k'} {w' : World} {o' : Obj} (hi : own[i]? = some [(b, k)])
    (hnew : w'.heap[b]? = some o') (hk : k'.ok o') (hold : ∀ c, c ≠ b → w'.heap[c]? = w.heap[c]?) (hsz : w'.heap.size = w.heap.size)
    (hos : w'.os = w.os) (htp : w'.tape = w.tape) (hout : w'.output = w.output) :
    In z (own.set i [(b, k')]) ro w' := by
  have hmem : [(b, k)] ∈ own := List.mem_of_getElem? hi
  have hbo : b ∈ blks own := mem_blks.2 ⟨_, hmem, (b, k), by simp, rfl⟩
  have hbs := blks_set (k' := k') hi
  obtain ⟨hlt, he⟩ := List.getElem?_eq_some_iff.1 hi
  have hsplit : own = own.take i ++ [(b, k)] :: own.drop (i + 1) := by
    rw [← he, List.getElem_cons_drop, List.take_append_drop]
  have hnd := h.has.nd
  rw [hsplit] at hnd
  simp only [blks, List.flatten_append, List.flatten_cons, List.map_append, List.map_cons, List.map_nil] at hnd
  have hne : ∀ s, s ∈ own.take i ∨ s ∈ own.drop (i + 1) → ∀ p ∈ s, p.1 ≠ b := by
    intro s hs p hp e
    rw [List.nodup_append] at hnd
    obtain ⟨_, h2, h3⟩ := hnd
    rcases hs with hs | hs
    · exact h3 p.1 (List.mem_map.2 ⟨p, List.mem_flatten.2 ⟨s, hs, hp⟩, rfl⟩) b (by simp) e
    · have h4 := (List.nodup_cons.1 h2).1
      exact h4 (e ▸ List.mem_map.2 ⟨p, List.mem_flatten.2 ⟨s, hs, hp⟩, rfl⟩)
  refine ⟨⟨?_, ?_, ?_, ?_⟩, ?_, ?_, h.rf⟩
  · intro s hs
    rw [List.set_eq_take_append_cons_drop, if_pos hlt] at hs
    rcases List.mem_append.1 hs with hs | hs
    · exact (h.has.o s (List.mem_of_mem_take hs)).keep fun p hp => hold _ (hne s (.inl hs) p hp)
    · rcases List.mem_cons.1 hs with hs | hs
      · subst hs
        intro p hp
        simp only [List.mem_singleton] at hp; subst hp
        exact ⟨o', hnew, hk⟩
      · exact (h.has.o s (List.mem_of_mem_drop hs)).keep fun p hp => hold _ (hne s (.inr hs) p hp)
  · intro s hs
    exact (h.has.r s hs).keep fun p hp => hold _ fun e => h.has.dj b hbo (e ▸ mem_blks.2 ⟨s, hs, p, hp, rfl⟩)
  · rw [hbs]; exact h.has.nd
  · rw [hbs]; exact h.has.dj
  · refine ⟨hos.trans h.ext.os, htp.trans h.ext.tape, hout.trans h.ext.output, by rw [hsz]; exact h.ext.size, fun c hc hm => ?_⟩
    by_cases e : c = b
    · subst e
      rcases h.fr c hbo with h1 | h1
      · exact absurd h1 hm
      · omega
    · exact (hold c e).trans (h.ext.blk c hc hm)
  · rw [hbs]; exact h.fr
theorem In.drew {z own ro w} (h : In z own ro w) : In z own ro { w with drawn := w.drawn + 1 } :=
  ⟨⟨fun s hs => (h.has.o s hs).keep fun _ _ => rfl, fun s hs => (h.has.r s hs).keep fun _ _ => rfl, h.has.nd, h.has.dj⟩,
    ⟨h.ext.os, h.ext.tape, h.ext.output, h.ext.size, h.ext.blk⟩, h.fr, h.rf⟩
end Go.PW
namespace Go.PW
open Go
structure Cx where
  P : Program
  n : Nat
  z : Zt0
inductive Md where
  | pl
  | dr (S : List Seg)
def AllIn (S : List Seg) (w : World) : Prop := ∀ s ∈ S, SegIn w s
def wpX (P : Program) (ops : Array Oper) (Q : Exit → Act → World → Prop) (S : World → Prop) (B : Nat → Bool) : Nat → Array Bool → Act → World → Prop
  | 0, listed, a, w => Region.ready .any ops listed = [] ∧ Q .normal a w
  | f + 1, listed, a, w => (Region.ready .any ops listed = [] → Q .normal a w) ∧
      ∀ i ∈ Region.ready .any ops listed, wpOp P ops Q i (fun a' w' => (B i = false → S w') ∧ wpX P ops Q S B f (listed.setIfInBounds i true) a' w') a w
section
variable {P : Program} {ops : Array Oper} {Q : Exit → Act → World → Prop} {S : World → Prop} {B : Nat → Bool}
theorem wpAny_of_X : ∀ (f : Nat) (listed : Array Bool) (a : Act) (w : World), wpX P ops Q S B f listed a w → wpAny P .any ops Q f listed a w
  | 0, _, _, _, h => h
  | f + 1, _, _, _, h => ⟨h.1, fun i hi => wpOp_mono (fun a' w' h' => wpAny_of_X f _ a' w' h'.2) (h.2 i hi)⟩
theorem wpX_done {f : Nat} {listed : Array Bool} {a : Act} {w : World} (hr : Region.ready .any ops listed = []) (h : Q .normal a w) : wpX P ops Q S B f listed a w := by
  cases f with
  | zero => exact ⟨hr, h⟩
  | succ f => exact ⟨fun _ => h, fun i hi => by rw [hr] at hi; cases hi⟩
theorem wpX_first {i : Nat} {oi : Oper} {v : Value} (hi : ops[i]? = some oi) (hsel : ∀ (j : Nat) (o : Oper) cs b, ops[j]? = some o → o.op ≠ .select cs b)
    (hQ : ∀ c a w, Q (.panic c) (a.put oi.dst v) w → Q (.panic c) a w) (hBi : B i = false)
    (hB : ∀ j oj, B j = true → ops[j]? = some oj → ∃ e ∈ oj.after, Region.binds .any e = true ∧ e.on = i) :
    ∀ (f : Nat) (listed : Array Bool) (a : Act) (w : World),
      (∀ j oj, ops[j]? = some oj → j ≠ i → listed.getD j true = false → (∀ e ∈ oj.after, Region.binds .any e = true → e.on ≠ i) → oi.apart ops oj = true) →
      i ∈ Region.ready .any ops listed → YieldsIf P ops S oi v a → S w →
      wpX P ops Q S B f (listed.setIfInBounds i true) (a.put oi.dst v) w → wpX P ops Q S B (f + 1) listed a w := by
  intro f
  induction f with
  | zero =>
    intro listed a w _ hr hy hS H
    refine ⟨fun h0 => (by rw [h0] at hr; cases hr), fun j hj => ?_⟩
    by_cases e : j = i
    · subst e; exact hy.wpOp hi hS ⟨fun _ => hS, H⟩
    · have := ready_mono hj e
      rw [H.1] at this; cases this
  | succ f ih =>
    intro listed a w hfree hr hy hS H
    refine ⟨fun h0 => (by rw [h0] at hr; cases hr), fun j hj => ?_⟩
    by_cases e : j = i
    · subst e; exact hy.wpOp hi hS ⟨fun _ => hS, H⟩
    · obtain ⟨hun, oj, hoj, hall⟩ := mem_ready.1 hj
      have hiun := (mem_ready.1 hr).1
      have hnot : ∀ e ∈ oj.after, Region.binds .any e = true → e.on ≠ i := fun e he hb heq => by
        have h1 := hall e he hb
        rw [heq] at h1
        rcases Nat.lt_or_ge i listed.size with h' | h'
        · simp [h'] at hiun h1; rw [hiun] at h1; cases h1
        · simp [Array.getElem?_eq_none h'] at h1
      have hBj : B j = false := by
        cases hb : B j with
        | false => rfl
        | true =>
          obtain ⟨e, he, h1, h2⟩ := hB j oj hb hoj
          exact absurd h2 (hnot e he h1)
      have h1 := H.2 j (ready_mono hj e)
      have h2 := wpOp_putIf hoj (hfree j oj hoj e hun hnot) (fun cs b => hsel i oi cs b hi) (fun cs b => hsel j oj cs b hoj) hQ hy h1
      have hfree' : ∀ k ok, ops[k]? = some ok → k ≠ i → (listed.setIfInBounds j true).getD k true = false → (∀ e ∈ ok.after, Region.binds .any e = true → e.on ≠ i) → oi.apart ops ok = true := fun k ok hk hki hku hno => by
        refine hfree k ok hk hki ?_ hno
        by_cases hjk : j = k
        · subst hjk; exact hun
        · rwa [getD_set_ne true hjk] at hku
      refine wpOp_mono (fun a' w' h3 => ⟨h3.2.1, ih (listed.setIfInBounds j true) a' w' hfree' (ready_mono hr (Ne.symm e)) h3.1 (h3.2.1 hBj) ?_⟩) h2
      rw [Array.setIfInBounds_comm _ _ e]
      exact h3.2.2
end
def wpPl (P : Program) (ops : Array Oper) (S : World → Prop) (Q : Exit → Act → World → Prop) : List (Oper × Nat) → Act → World → Prop
  | [], a, w => Q .normal a w
  | (o, 0) :: r, a, w => ∃ v, YieldsIf P ops S o v a ∧ wpPl P ops S Q r (a.put o.dst v) w
  | (o, k + 1) :: r, a, w => if Region.wanted o (yielded ops a.tmps) = true then o.wp P a w (fun a' w' => (k = 0 → S w') ∧ wpPl P ops S Q r a' w') Q
      else (k = 0 → S w) ∧ wpPl P ops S Q r (a.put o.dst undef) w
def planOk (ops : Array Oper) (Bs : List Nat) : List (Nat × Nat) → Array Bool → Bool
  | [], listed => (Region.ready .any ops listed).isEmpty
  | (i, 0) :: r, listed => Region.free .any ops listed i && (Region.ready .any ops listed).contains i && !Bs.contains i && Bs.all (fun j => match ops[j]? with | some oj => oj.after.any (fun e => Region.binds .any e && e.on == i) | none => true) && planOk ops Bs r (listed.setIfInBounds i true)
  | (i, k + 1) :: r, listed => (Region.ready .any ops listed) == [i] && ((k == 0) != Bs.contains i) && planOk ops Bs r (listed.setIfInBounds i true)
theorem planOk_sound {P : Program} {ops : Array Oper} {S : World → Prop} {Q : Exit → Act → World → Prop} {Bs : List Nat} (hs : Region.noSelect ops = true)
    (hQ : ∀ c a d v w, Q (.panic c) (a.put d v) w → Q (.panic c) a w) :
    ∀ (plan : List (Nat × Nat)) (pl : List (Oper × Nat)) (fuel : Nat) (listed : Array Bool) (a : Act) (w : World),
      plan.length ≤ fuel → plan.map (fun p => (ops[p.1]?, p.2)) = pl.map (fun p => (some p.1, p.2)) → planOk ops Bs plan listed = true → (∀ p ∈ plan, p.2 = 0 → S w) →
      wpPl P ops S Q pl a w → wpX P ops Q S (fun i => Bs.contains i) fuel listed a w := by
  intro plan
  induction plan with
  | nil =>
    intro pl fuel listed a w hf hm hp hS h
    cases pl with
    | cons p pl => simp at hm
    | nil =>
      simp only [planOk, List.isEmpty_iff] at hp
      exact wpX_done hp h
  | cons p plan ih =>
    intro pl fuel listed a w hf hm hp hS h
    cases pl with
    | nil => simp at hm
    | cons q pl =>
      obtain ⟨i, b⟩ := p
      obtain ⟨o, b'⟩ := q
      simp only [List.map_cons, List.cons.injEq, Prod.mk.injEq] at hm
      obtain ⟨⟨hi, rfl⟩, hm⟩ := hm
      obtain ⟨f, rfl⟩ : ∃ f, fuel = f + 1 := ⟨fuel - 1, by simp at hf; omega⟩
      have hf' : plan.length ≤ f := by simpa using hf
      cases b with
      | zero =>
        simp only [planOk, Bool.and_eq_true] at hp
        obtain ⟨⟨⟨⟨h1, h2⟩, h3⟩, h4⟩, h5⟩ := hp
        obtain ⟨v, hy, hrest⟩ := h
        refine wpX_first hi (Region.noSelect_spec hs) (fun c a w => hQ c a _ _ w) (by simpa using h3) (fun j oj hj hoj => ?_) f listed a w (Region.free_spec hi h1) (by simpa using h2) hy (hS (i, 0) (by simp) rfl)
          (ih pl f _ _ w hf' hm h5 (fun p hp => hS p (by simp [hp])) hrest)
        have h6 := List.all_eq_true.1 h4 j (by simpa using hj)
        rw [hoj] at h6
        obtain ⟨e, he, hb⟩ := Array.any_eq_true'.1 h6
        simp only [Bool.and_eq_true, beq_iff_eq] at hb
        exact ⟨e, he, hb.1, hb.2⟩
      | succ k =>
        simp only [planOk, Bool.and_eq_true, beq_iff_eq] at hp
        obtain ⟨⟨h1, h2⟩, h3⟩ := hp
        refine ⟨fun h0 => by rw [h1] at h0; simp at h0, fun j hj => ?_⟩
        rw [h1, List.mem_singleton] at hj; subst hj
        -- no quiet one comes behind a turning one
        have hk : Bs.contains j = false → k = 0 := fun hb => by
          rw [hb] at h2; simpa using h2
        have hq : Bs.contains j = true → ∀ p ∈ plan, p.2 ≠ 0 := by
          intro hb
          have hjB : j ∈ Bs := by simpa using hb
          have hlt : j < listed.size ∨ listed.size ≤ j := Nat.lt_or_ge _ _
          -- a quiet one behind it would have been waited for
          have key : ∀ (plan : List (Nat × Nat)) (l : Array Bool), planOk ops Bs plan l = true → (∀ t, ∀ oj, ops[j]? = some oj → (∃ e ∈ oj.after, Region.binds .any e = true ∧ e.on = t) → l.getD t false = true) → ∀ p ∈ plan, p.2 ≠ 0 := by
            intro plan
            induction plan with
            | nil => intro l _ _ p hp; cases hp
            | cons p plan ihp =>
              intro l hok hall
              obtain ⟨t, c⟩ := p
              cases c with
              | zero =>
                exfalso
                simp only [planOk, Bool.and_eq_true] at hok
                obtain ⟨⟨⟨⟨g1, g2⟩, g3⟩, g4⟩, g5⟩ := hok
                have h6 := List.all_eq_true.1 g4 j hjB
                rw [hi] at h6
                obtain ⟨e, he, hbd⟩ := Array.any_eq_true'.1 h6
                simp only [Bool.and_eq_true, beq_iff_eq] at hbd
                have h7 := hall t o hi ⟨e, he, hbd.1, hbd.2⟩
                have h8 := (mem_ready.1 (show t ∈ Region.ready .any ops l by simpa using g2)).1
                rcases Nat.lt_or_ge t l.size with h' | h'
                · simp [h'] at h7 h8; rw [h7] at h8; cases h8
                · simp [Array.getElem?_eq_none h'] at h7
              | succ c =>
                simp only [planOk, Bool.and_eq_true] at hok
                intro p hp
                rcases List.mem_cons.1 hp with rfl | hp
                · simp
                · exact ihp _ hok.2 (fun u oj hoj he => getD_set_true (hall u oj hoj he)) p hp
          refine key plan _ h3 fun t oj hoj ⟨e, he, hb1, hb2⟩ => ?_
          obtain ⟨_, oj', hoj', hall⟩ := mem_ready.1 (show j ∈ Region.ready .any ops listed by rw [h1]; simp)
          rw [hoj'] at hoj; cases hoj
          exact getD_set_true (by rw [← hb2]; exact hall e he hb1)
        have hnext : ∀ w', (k = 0 → S w') → ∀ p ∈ plan, p.2 = 0 → S w' := fun w' hS' p hp hp0 => by
          cases hb : Bs.contains j with
          | false => exact hS' (hk hb)
          | true => exact absurd hp0 (hq hb p hp)
        unfold wpOp
        simp only [hi]
        simp only [wpPl] at h
        split
        · rename_i hw
          rw [if_pos hw] at h
          exact .inl (Oper.wp_mono (fun a' w' ⟨hS', hr⟩ => ⟨fun hb => hS' (hk hb), ih pl f _ _ w' hf' hm h3 (hnext w' hS') hr⟩) h)
        · rename_i hw
          rw [if_neg hw] at h
          exact ⟨fun hb => h.1 (hk hb), ih pl f _ _ w hf' hm h3 (hnext w h.1) h.2⟩
def JG (cx : Cx) (md : Md) (ops : Array Oper) (Q : Exit → Act → World → Prop) (l : List (Oper × Nat)) (base : Nat → Value) (L : List (Nat × Value)) (own ro : List Seg) : Prop :=
  match md with
  | .pl => ∀ w, In cx.z own ro w → wpList cx.P ops Q (l.map (·.1)) (A cx.n base L) w
  | .dr S => ∀ w, In cx.z own ro w → (∀ p ∈ l, p.2 < 2 → AllIn S w) → wpPl cx.P ops (AllIn S) Q l (A cx.n base L) w
def Src (md : Md) (q : Nat) (own ro : List Seg) : List Seg :=
  match md, q with
  | .dr S, 0 => S
  | _, _ => own ++ ro
def Keep (md : Md) (k : Nat) (rest : List (Oper × Nat)) (own ro : List Seg) : Prop :=
  match md with
  | .pl => True
  | .dr S => (k = 0 ∧ ∀ s ∈ S, s ∈ own ++ ro) ∨ ((k = 0 → False) ∧ ∀ p ∈ rest, ¬ p.2 < 2)
def KeepS (S own ro : List Seg) : Prop := ∀ s ∈ S, s ∈ own ++ ro
theorem keepS {S own ro : List Seg} (is : List Nat) (h : S.map some = is.map fun i => (own ++ ro)[i]?) : KeepS S own ro := fun s hs => by
  have h1 : some s ∈ S.map some := List.mem_map.2 ⟨s, hs, rfl⟩
  rw [h] at h1
  obtain ⟨i, _, hi⟩ := List.mem_map.1 h1
  exact List.mem_of_getElem? hi
theorem keepI {S own ro : List Seg} {rest : List (Oper × Nat)} (is : List Nat) (h : S.map some = is.map fun i => (own ++ ro)[i]?) : Keep (.dr S) 0 rest own ro := .inl ⟨rfl, keepS is h⟩
theorem In.src {z own ro w} (h : In z own ro w) : AllIn (own ++ ro) w := fun s hs =>
  (List.mem_append.1 hs).elim (h.has.o s) (h.has.r s)
theorem In.keep {z own ro w S} (h : In z own ro w) (hk : KeepS S own ro) : AllIn S w := fun s hs => h.src s (hk s hs)
section
variable {cx : Cx} {md : Md} {ops : Array Oper} {Q : Exit → Act → World → Prop} {rest : List (Oper × Nat)} {base : Nat → Value} {L : List (Nat × Value)} {own ro : List Seg} {kq : Nat}
theorem jg_nil (h : ∀ w, In cx.z own ro w → Q .normal (A cx.n base L) w) : JG cx md ops Q [] base L own ro := by
  cases md with
  | pl => exact h
  | dr S => exact fun w hw _ => h w hw
theorem qt {q : Nat} {d : Nat} {op : Op} {ty : TypeId} {pos : String} {aft : Array Edge} {v : Value}
    (hy : ∀ w, AllIn (Src md q own ro) w → (execOp (ev cx.n base L) ⟨some d, op, ty, pos, aft, none⟩).run cx.P w = .ok (.value v) w)
    (h : JG cx md ops Q rest base ((d, v) :: L) own ro) : JG cx md ops Q ((⟨some d, op, ty, pos, aft, none⟩, q) :: rest) base L own ro := by
  cases md with
  | pl =>
    intro w hw
    have := hy w (by cases q <;> exact hw.src)
    refine wpList_plain rfl fun K hK => ?_
    unfold Oper.wp
    rw [A_eval_fun, this]
    show K ((A cx.n base L).put (some d) v) w
    rw [A_put]
    exact hK _ _ (h w hw)
  | dr S =>
    intro w hw hS
    cases q with
    | zero =>
      refine ⟨v, .inl ⟨rfl, fun w hw => ?_⟩, ?_⟩
      · rw [A_eval_fun]; exact hy w hw
      · show wpPl _ _ _ _ _ ((A cx.n base L).put (some d) v) w
        rw [A_put]
        exact h w hw fun p hp => hS p (List.mem_cons_of_mem _ hp)
    | succ k =>
      have := hy w hw.src
      show if Region.wanted _ _ = true then _ else _
      rw [if_pos (show Region.wanted ⟨some d, op, ty, pos, aft, none⟩ (yielded ops (A cx.n base L).tmps) = true from rfl)]
      unfold Oper.wp
      rw [A_eval_fun, this]
      show _ ∧ wpPl _ _ _ _ _ ((A cx.n base L).put (some d) v) w
      rw [A_put]
      exact ⟨fun e => hS _ (List.mem_cons_self ..) (by subst e; exact Nat.lt_succ_self 1), h w hw fun p hp => hS p (List.mem_cons_of_mem _ hp)⟩
theorem nq {o : Oper} {Post : List (Nat × Value) → List Seg → List Seg → Prop} (hg : o.guard = none)
    (core : ∀ w (K : Act → World → Prop), In cx.z own ro w → (∀ L' own' ro' w', Post L' own' ro' → In cx.z own' ro' w' → K (A cx.n base L') w') → o.wp cx.P (A cx.n base L) w K Q)
    (keep : ∀ L' own' ro', Post L' own' ro' → Keep md kq rest own' ro')
    (h : ∀ L' own' ro', Post L' own' ro' → JG cx md ops Q rest base L' own' ro') : JG cx md ops Q ((o, kq + 1) :: rest) base L own ro := by
  cases md with
  | pl => exact fun w hw => wpList_plain hg fun K hK => core w K hw fun L' own' ro' w' hp hi => hK _ _ (h L' own' ro' hp w' hi)
  | dr S =>
    intro w hw hS
    show if Region.wanted _ _ = true then _ else _
    rw [if_pos (by unfold Region.wanted; rw [hg])]
    refine core w _ hw fun L' own' ro' w' hp hi => ?_
    rcases keep _ _ _ hp with ⟨_, hk⟩ | ⟨hk0, hk⟩
    · have hS' := hi.keep hk
      exact ⟨fun _ => hS', h L' own' ro' hp w' hi fun _ _ _ => hS'⟩
    · exact ⟨fun e => (hk0 e).elim, h L' own' ro' hp w' hi fun p hp' e => absurd e (hk p hp')⟩
theorem yielded_A {n j d : Nat} (hj : (ops[j]?).bind (·.dst) = some d) (hd : Nat.blt d n = true) {b : Bool} (hl : look base L d = .bool b) : yielded ops (A n base L).tmps j = some b := by
  have hdn : d < n := Nat.ble_eq.mp hd
  unfold yielded
  rw [hj]
  simp [A, hdn, hl]
theorem g_on {q : Nat} {dst : Option Nat} {op : Op} {ty : TypeId} {pos : String} {aft : Array Edge} {j : Nat} {b : Bool} {d : Nat}
    (hj : (ops[j]?).bind (·.dst) = some d) (hd : Nat.blt d cx.n = true) (hl : look base L d = .bool b)
    (h : JG cx md ops Q ((⟨dst, op, ty, pos, aft, none⟩, q) :: rest) base L own ro) : JG cx md ops Q ((⟨dst, op, ty, pos, aft, some (j, b)⟩, q) :: rest) base L own ro := by
  have hw : Region.wanted ⟨dst, op, ty, pos, aft, some (j, b)⟩ (yielded ops (A cx.n base L).tmps) = true := by
    simp [Region.wanted, yielded_A hj hd hl]
  cases md with
  | pl =>
    intro w hin
    have h := h w hin
    simp only [List.map_cons, wpList] at h ⊢
    rw [if_pos hw]
    rw [if_pos (by rfl)] at h
    exact h
  | dr S =>
    intro w hin hS
    have h := h w hin fun p hp e => by
      rcases List.mem_cons.1 hp with rfl | hp
      · exact hS _ (List.mem_cons_self ..) e
      · exact hS p (List.mem_cons_of_mem _ hp) e
    cases q with
    | zero =>
      obtain ⟨v, hy, hr⟩ := h
      refine ⟨v, ?_, hr⟩
      rcases hy with ⟨_, hy⟩ | ⟨hn, _⟩
      · exact .inl ⟨hw, hy⟩
      · exact absurd (show true = false from hn) (by simp)
    | succ k =>
      simp only [wpPl] at h ⊢
      rw [if_pos hw]
      rw [if_pos (by rfl)] at h
      exact h
theorem g_off {q : Nat} {t : Nat} {op : Op} {ty : TypeId} {pos : String} {aft : Array Edge} {j : Nat} {b b' : Bool} {d : Nat}
    (hj : (ops[j]?).bind (·.dst) = some d) (hd : Nat.blt d cx.n = true) (hl : look base L d = .bool b') (hb : (b' == b) = false)
    (h : JG cx md ops Q rest base ((t, undef) :: L) own ro) : JG cx md ops Q ((⟨some t, op, ty, pos, aft, some (j, b)⟩, q) :: rest) base L own ro := by
  have hne : b' ≠ b := by simpa using hb
  have hw : Region.wanted ⟨some t, op, ty, pos, aft, some (j, b)⟩ (yielded ops (A cx.n base L).tmps) = false := by
    simp [Region.wanted, yielded_A hj hd hl, hne]
  cases md with
  | pl =>
    intro w hin
    have h := h w hin
    simp only [List.map_cons, wpList]
    rw [if_neg (by rw [hw]; simp), A_put]
    exact h
  | dr S =>
    intro w hin hS
    have h := h w hin fun p hp => hS p (List.mem_cons_of_mem _ hp)
    cases q with
    | zero => exact ⟨undef, .inr ⟨hw, rfl⟩, by show wpPl _ _ _ _ _ ((A cx.n base L).put (some t) undef) w; rw [A_put]; exact h⟩
    | succ k =>
      simp only [wpPl]
      rw [if_neg (by rw [hw]; simp)]
      show _ ∧ wpPl _ _ _ _ _ ((A cx.n base L).put (some t) undef) w
      rw [A_put]
      exact ⟨fun e => hS _ (List.mem_cons_self ..) (by subst e; exact Nat.lt_succ_self 1), h⟩
theorem jsplit {l : List (Oper × Nat)} (d : Nat) {b : Bool} (hl : look base L d = .bool b) (ht : b = true → JG cx md ops Q l base ((d, .bool true) :: L) own ro)
    (hf : b = false → JG cx md ops Q l base ((d, .bool false) :: L) own ro) : JG cx md ops Q l base L own ro := by
  cases b with
  | true => have h := ht rfl; unfold JG at *; rw [A_same hl] at h; exact h
  | false => have h := hf rfl; unfold JG at *; rw [A_same hl] at h; exact h
end
inductive Fr where
  | seq (y : Code)
  | blk (id : Nat)
  | lp (H : Act → World → Prop)
def qof (P : Program) (Q0 : Exit → Act → World → Prop) : List Fr → Exit → Act → World → Prop
  | [] => Q0
  | .seq y :: r => Exit.then (y.wp P (qof P Q0 r)) (qof P Q0 r)
  | .blk id :: r => Exit.inBlock id (qof P Q0 r)
  | .lp H :: r => Exit.then H (qof P Q0 r)
def popTo (id : Nat) : List Fr → Option (List Fr)
  | [] => none
  | .blk id' :: r => bif Nat.beq id id' then some r else popTo id r
  | .seq _ :: r => popTo id r
  | .lp _ :: r => popTo id r
theorem qof_ret {P Q0} (st : List Fr) {a w} (h : Q0 .ret a w) : qof P Q0 st .ret a w := by
  induction st with
  | nil => exact h
  | cons f r ih => cases f <;> exact ih
theorem qof_panic {P Q0} (st : List Fr) {c a w} : qof P Q0 st (.panic c) a w ↔ Q0 (.panic c) a w := by
  induction st with
  | nil => exact Iff.rfl
  | cons f r ih => cases f <;> exact ih
theorem qof_exit {P Q0 id} {st st' : List Fr} (hp : popTo id st = some st') {a w} (h : qof P Q0 st' .normal a w) : qof P Q0 st (.exit id) a w := by
  induction st with
  | nil => cases hp
  | cons f r ih =>
    cases f with
    | seq y => exact ih hp
    | lp H => exact ih hp
    | blk id' =>
      simp only [popTo] at hp
      show if id = id' then _ else _
      cases hb : Nat.beq id id' with
      | true =>
        rw [hb] at hp
        have := Nat.eq_of_beq_eq_true hb
        rw [if_pos this]
        simp only [cond_true, Option.some.injEq] at hp
        subst hp; exact h
      | false =>
        rw [hb] at hp
        rw [if_neg (fun e => by subst e; simp at hb)]
        exact ih hp
def Calm (Q0 : Exit → Act → World → Prop) : Prop := ∀ c a d v w, Q0 (.panic c) (Act.put a d v) w → Q0 (.panic c) a w
theorem calm_body {P fn R} : Calm (bodyPost P fn R) := fun c a d v w h => by
  cases d <;> exact h
def JC (cx : Cx) (c : Code) (Q0 : Exit → Act → World → Prop) (st : List Fr) (base : Nat → Value) (L : List (Nat × Value)) (own ro : List Seg) : Prop :=
  ∀ w, In cx.z own ro w → c.wp cx.P (qof cx.P Q0 st) (A cx.n base L) w
def JE (cx : Cx) (e : Exit) (Q0 : Exit → Act → World → Prop) (st : List Fr) (base : Nat → Value) (L : List (Nat × Value)) (own ro : List Seg) : Prop :=
  ∀ w, In cx.z own ro w → qof cx.P Q0 st e (A cx.n base L) w
def plOf (ops : Array Oper) : List (Nat × Nat) → List (Oper × Nat)
  | [] => []
  | (i, q) :: r => (ops.toList.getD i default, q) :: plOf ops r
def drOk (ops : Array Oper) (Bs : List Nat) (plan : List (Nat × Nat)) : Bool := Region.noSelect ops && planOk ops Bs plan (Array.replicate ops.size false) && Nat.ble plan.length ops.size && plan.all fun p => Nat.blt p.1 ops.size
theorem plOf_ok {ops : Array Oper} : ∀ (plan : List (Nat × Nat)), plan.all (fun p => Nat.blt p.1 ops.size) = true → plan.map (fun p => (ops[p.1]?, p.2)) = (plOf ops plan).map (fun p => (some p.1, p.2))
  | [], _ => rfl
  | (i, q) :: r, h => by
    simp only [List.all_cons, Bool.and_eq_true] at h
    have hi : i < ops.size := Nat.ble_eq.mp h.1
    simp only [List.map_cons, plOf, plOf_ok r h.2, List.cons.injEq, and_true, Prod.mk.injEq]
    simp [hi]
def plz : List Oper → List (Oper × Nat)
  | [] => []
  | o :: r => (o, 1) :: plz r
theorem plz_fst (l : List Oper) : (plz l).map (·.1) = l := by induction l with | nil => rfl | cons o r ih => simp [plz, ih]
section
variable {cx : Cx} {Q0 : Exit → Act → World → Prop} {st : List Fr} {base : Nat → Value} {L : List (Nat × Value)} {own ro : List Seg}
theorem c_seq {x y : Code} (h : JC cx x Q0 (.seq y :: st) base L own ro) : JC cx (.seq x y) Q0 st base L own ro := fun w hw => wp_seq (h w hw)
theorem c_skip (h : JE cx .normal Q0 st base L own ro) : JC cx .skip Q0 st base L own ro := fun w hw => wp_skip (h w hw)
theorem c_block {id : Nat} {c : Code} (h : JC cx c Q0 (.blk id :: st) base L own ro) : JC cx (.block id c) Q0 st base L own ro := fun w hw => wp_block (h w hw)
theorem c_exit {id : Nat} {st' : List Fr} (hp : popTo id st = some st') (h : JE cx .normal Q0 st' base L own ro) : JC cx (.exit id) Q0 st base L own ro := fun w hw => wp_exit (qof_exit hp (h w hw))
theorem c_ret (h : JE cx .ret Q0 [] base L own ro) : JC cx .ret Q0 st base L own ro := fun w hw => wp_ret (qof_ret st (h w hw))
theorem c_reg {id : Nat} {l : List Oper} (h : JG cx .pl l.toArray (qof cx.P Q0 st) (plz l) base L own ro) : JC cx (.region id l.toArray false) Q0 st base L own ro := fun w hw =>
  wp_region_list (by
    have h1 := h w hw
    rw [plz_fst] at h1; simpa using h1)
theorem c_dr {id : Nat} {ops : Array Oper} (S : List Seg) (Bs : List Nat) (plan : List (Nat × Nat)) (hm : cx.P.follows .mixedOrders = true) (hok : drOk ops Bs plan = true) (hQ : Calm Q0) (hS : KeepS S own ro)
    (h : JG cx (.dr S) ops (qof cx.P Q0 st) (plOf ops plan) base L own ro) : JC cx (.region id ops true) Q0 st base L own ro := fun w hw => by
  have hw' := hw.drew
  simp only [drOk, Bool.and_eq_true] at hok
  obtain ⟨⟨⟨hs, hp⟩, hl1⟩, hl2⟩ := hok
  exact wp_region_any hm (wpAny_of_X _ _ _ _ (planOk_sound (S := AllIn S) hs (fun c a d v w h => (qof_panic st).2 (hQ c a d v w ((qof_panic st).1 h))) plan _ _ _ _ _ (Nat.ble_eq.mp hl1) (plOf_ok plan hl2) hp (fun _ _ _ => hw'.keep hS) (h _ hw' fun _ _ _ => hw'.keep hS)))
theorem c_true {c : Operand} {x y : Code} (hc : ev cx.n base L c = .bool true) (h : JC cx x Q0 st base L own ro) : JC cx (.cond c x y) Q0 st base L own ro := fun w hw =>
  wp_cond_true (by rw [A_eval]; exact hc) (h w hw)
theorem c_false {c : Operand} {x y : Code} (hc : ev cx.n base L c = .bool false) (h : JC cx y Q0 st base L own ro) : JC cx (.cond c x y) Q0 st base L own ro := fun w hw =>
  wp_cond_false (by rw [A_eval]; exact hc) (h w hw)
theorem c_cond {c : Operand} {x y : Code} {b : Bool} (hc : ev cx.n base L c = .bool b) (ht : b = true → JC cx x Q0 st base L own ro) (hf : b = false → JC cx y Q0 st base L own ro) :
    JC cx (.cond c x y) Q0 st base L own ro := fun w hw => wp_cond_split (by rw [A_eval]; exact hc) (fun h => ht h w hw) (fun h => hf h w hw)
theorem JC.mk {c} (h : ∀ w, In cx.z own ro w → c.wp cx.P (qof cx.P Q0 st) (A cx.n base L) w) : JC cx c Q0 st base L own ro := h
theorem JC.out {c} (h : JC cx c Q0 st base L own ro) : ∀ w, In cx.z own ro w → c.wp cx.P (qof cx.P Q0 st) (A cx.n base L) w := h
theorem JE.mk {e} (h : ∀ w, In cx.z own ro w → qof cx.P Q0 st e (A cx.n base L) w) : JE cx e Q0 st base L own ro := h
theorem JE.out {e} (h : JE cx e Q0 st base L own ro) : ∀ w, In cx.z own ro w → qof cx.P Q0 st e (A cx.n base L) w := h
theorem e_then {y : Code} (h : JC cx y Q0 st base L own ro) : JE cx .normal Q0 (.seq y :: st) base L own ro := h
theorem e_in {id : Nat} (h : JE cx .normal Q0 st base L own ro) : JE cx .normal Q0 (.blk id :: st) base L own ro := h
theorem jn {md : Md} {ops : Array Oper} (h : JE cx .normal Q0 st base L own ro) : JG cx md ops (qof cx.P Q0 st) [] base L own ro := jg_nil h
theorem jt {md : Md} {ops : Array Oper} {y : Code} (h : JC cx y Q0 st base L own ro) : JG cx md ops (qof cx.P Q0 (.seq y :: st)) [] base L own ro := jg_nil h
end
attribute [irreducible] JG JC JE
end Go.PW
namespace Go.PW
open Go
structure Pt where
  n : Nat
  c : List Value
  v : Value
  ag : Bool
  len : c.length = n
  hv : (ag = true ∧ v = .agg ⟨c⟩) ∨ (ag = false ∧ c = [v])
  one : ∀ u ∈ c, u.oneCell' = true
class Enc (α : Type) where
  n : Nat
  enc : α → List Value
  val : α → Value
  ag : Bool
  len : ∀ x, (enc x).length = n
  hv : ∀ x, (ag = true ∧ val x = .agg ⟨enc x⟩) ∨ (ag = false ∧ enc x = [val x])
  one : ∀ x, ∀ u ∈ enc x, u.oneCell' = true
open Enc (enc val)
def pt {α : Type} [Enc α] (x : α) : Pt := ⟨Enc.n α, enc x, val x, Enc.ag α, Enc.len x, Enc.hv x, Enc.one x⟩
def p1 (v : Value) (h : v.oneCell' = true := by rfl) : Pt := ⟨1, [v], v, false, rfl, .inr ⟨rfl, rfl⟩, by simpa using h⟩
def cat : List Pt → List Value
  | [] => []
  | [p] => p.c
  | p :: q :: r => p.c ++ cat (q :: r)
theorem cat_cons (p : Pt) (r : List Pt) : cat (p :: r) = p.c ++ cat r := by cases r <;> simp [cat]
def psum : List Pt → Nat → Nat
  | _, 0 => 0
  | [], _ => 0
  | p :: r, i + 1 => p.n + psum r i
theorem cat_split {ps : List Pt} {i : Nat} {p : Pt} (h : ps[i]? = some p) :
    ∃ pre post, cat ps = pre ++ (p.c ++ post) ∧ pre.length = psum ps i ∧ ∀ p' : Pt, cat (ps.set i p') = pre ++ (p'.c ++ post) := by
  induction ps generalizing i with
  | nil => simp at h
  | cons q r ih =>
    cases i with
    | zero =>
      simp only [List.getElem?_cons_zero, Option.some.injEq] at h; subst h
      exact ⟨[], cat r, by simp [cat_cons], rfl, fun p' => by simp [cat_cons]⟩
    | succ i =>
      obtain ⟨pre, post, h1, h2, h3⟩ := ih (by simpa using h)
      exact ⟨q.c ++ pre, post, by simp [cat_cons, h1], by simp [psum, h2, q.len], fun p' => by simp [cat_cons, h3]⟩
theorem cat_length (ps : List Pt) : (cat ps).length = psum ps ps.length := by
  induction ps with
  | nil => rfl
  | cons p r ih => simp [cat_cons, psum, p.len, ih]
theorem cat_one (ps : List Pt) : ∀ u ∈ cat ps, u.oneCell' = true := by
  induction ps with
  | nil => simp [cat]
  | cons p r ih =>
    rw [cat_cons]; intro u hu
    rcases List.mem_append.1 hu with h | h
    · exact p.one u h
    · exact ih u h
def pa (ps : List Pt) : Pt := ⟨psum ps ps.length, cat ps, .agg ⟨cat ps⟩, true, cat_length ps, .inl ⟨rfl, rfl⟩, cat_one ps⟩
def encs {α : Type} [Enc α] (xs : List α) : List Value := xs.flatMap enc
theorem encs_length {α : Type} [Enc α] (xs : List α) : (encs xs).length = xs.length * Enc.n α := by
  induction xs with
  | nil => simp [encs]
  | cons x r ih => simp only [encs, List.flatMap_cons, List.length_append, Enc.len, List.length_cons] at *; rw [ih, Nat.add_mul]; omega
theorem encs_append {α : Type} [Enc α] (xs ys : List α) : encs (xs ++ ys) = encs xs ++ encs ys := by simp [encs]
theorem encs_one {α : Type} [Enc α] (xs : List α) : ∀ u ∈ encs xs, u.oneCell' = true := by
  intro u hu; obtain ⟨x, _, hx⟩ := List.mem_flatMap.1 hu; exact Enc.one x u hx
theorem encs_split {α : Type} [Enc α] (xs : List α) (k : Nat) (h : k < xs.length) : encs xs = encs (xs.take k) ++ (enc xs[k] ++ encs (xs.drop (k + 1))) := by
  have e : xs = xs.take k ++ xs[k] :: xs.drop (k + 1) := by rw [List.getElem_cons_drop, List.take_append_drop]
  have h2 := congrArg encs e
  rw [encs_append] at h2
  exact h2
def isAggD : TypeDesc → Bool
  | .struct _ | .array _ _ => true
  | _ => false
structure Ty (P : Program) (t n : Nat) (ag : Bool) : Prop where
  sz : (P.info? t).map (·.size) = some n
  ag : (P.underlying t).map isAggD = some ag
def Zt (P : Program) (t : Nat) (v : Value) : Prop := (P.info? t).bind (·.zero) = some v
section
variable {P : Program} {w : World}
theorem run_sizeOf' {t n : Nat} (h : (P.info? t).map (·.size) = some n) : (sizeOf t).run P w = .ok n w := by
  cases hq : P.info? t with
  | none => simp [hq] at h
  | some i => simp [hq] at h; simp [sizeOf, typeInfo, hq, h]
theorem run_isAgg' {t b} (h : (P.underlying t).map isAggD = some b) : (isAgg t).run P w = .ok b w := by
  cases hq : P.underlying t with
  | none => simp [hq] at h
  | some d =>
    simp [hq] at h
    unfold isAgg
    rw [Sem.run_bind, run_underlying hq w]
    cases d <;> simp_all [isAggD]
theorem run_zero' {t v} (h : Zt P t v) : (zeroValue t).run P w = .ok v w := by
  unfold Zt at h
  cases hq : P.info? t with
  | none => simp [hq] at h
  | some i => simp [hq] at h; simp [zeroValue, typeInfo, hq, h]
def cellsAt (w : World) (b o : Nat) (l : List Value) : Prop := ∀ i v, l[i]? = some v → w.cell? ⟨b, o + i, none⟩ = some v
theorem add_none (b o n : Nat) : (⟨b, o, none⟩ : Addr).add n = ⟨b, o + n, none⟩ := by
  unfold Addr.add; split <;> simp_all
theorem run_load_agg {t b o : Nat} {c : List Value} (ht : Ty P t c.length true) (h : cellsAt w b o c) : (loadVar t ⟨b, o, none⟩).run P w = .ok (.agg ⟨c⟩) w := by
  have hl : (loadCells ⟨b, o, none⟩ c.length).run P w = .ok c.toArray w :=
    run_loadCells_list (P := P) w ⟨b, o, none⟩ c (fun j v hv => by rw [add_none]; exact h j v hv)
  simp [loadVar, Sem.run_bind, run_isAgg' ht.ag, run_sizeOf' ht.sz, hl]
theorem run_load_one {t b o : Nat} {v : Value} {n} (ht : Ty P t n false) (h : cellsAt w b o [v]) : (loadVar t ⟨b, o, none⟩).run P w = .ok v w := by
  have h0 : w.cell? ⟨b, o, none⟩ = some v := h 0 v rfl
  simp only [loadVar, Sem.run_bind, run_isAgg' ht.ag, Result.andThen_ok]
  show (load ⟨b, o, none⟩).run P w = _
  simp [load, Sem.run, h0]
theorem run_load_pt {t b o : Nat} {p : Pt} (ht : Ty P t p.n p.ag) (h : cellsAt w b o p.c) : (loadVar t ⟨b, o, none⟩).run P w = .ok p.v w := by
  obtain ⟨n, c, v, ag, len, hv, one⟩ := p
  subst len
  rcases hv with ⟨rfl, rfl⟩ | ⟨rfl, rfl⟩
  · exact run_load_agg ht h
  · exact run_load_one ht h
theorem cellsAt_cells {b o E : Nat} {c l pre post : List Value} {s : Seg} (hs : SegIn w s) (hm : (b, Ck.cells c E) ∈ s) (hc : c = pre ++ (l ++ post)) (ho : pre.length = o) : cellsAt w b o l := by
  obtain ⟨x, hx, fr, rfl, _⟩ := hs _ hm
  intro i v hv
  have hi : i < l.length := (List.getElem?_eq_some_iff.1 hv).1
  simp only [World.cell?, hx, Option.isSome_none, Bool.false_eq_true, if_false]
  subst hc; subst ho
  simp only [List.getElem?_toArray, List.getElem?_append_right (Nat.le_add_right _ _), Nat.add_sub_cancel_left, List.getElem?_append_left hi, hv]
theorem cellsAt_view {b o off : Nat} {c l pre post : List Value} {s : Seg} (hs : SegIn w s) (hm : (b, Ck.view off c) ∈ s) (hc : c = pre ++ (l ++ post)) (ho : off + pre.length = o) : cellsAt w b o l := by
  obtain ⟨x, hx, c', E, fr, rfl, hv'⟩ := hs _ hm
  intro i v hv
  have hi : i < l.length := (List.getElem?_eq_some_iff.1 hv).1
  simp only [World.cell?, hx, Option.isSome_none, Bool.false_eq_true, if_false]
  subst hc; subst ho
  have := hv' (pre.length + i) v (by simp only [List.getElem?_append_right (Nat.le_add_right _ _), Nat.add_sub_cancel_left, List.getElem?_append_left hi, hv])
  rw [Nat.add_assoc]; exact this
theorem run_stores {b E : Nat} {fr : Nat × Nat} : ∀ (vs : List Value) (i o : Nat) (c : List Value) (w : World), w.heap[b]? = some (.cells ⟨c⟩ E fr) → (c.length ≤ fr.1 ∨ fr.2 ≤ fr.1) → o + i + vs.length ≤ c.length →
    (∀ v ∈ vs, v.oneCell' = true) → ∃ w', (storeCells ⟨b, o, none⟩ vs i).run P w = .ok () w' ∧ w'.heap[b]? = some (.cells ⟨c.take (o + i) ++ (vs ++ c.drop (o + i + vs.length))⟩ E fr) ∧
      (∀ k, k ≠ b → w'.heap[k]? = w.heap[k]?) ∧ w'.heap.size = w.heap.size ∧ w'.os = w.os ∧ w'.tape = w.tape ∧ w'.output = w.output
  | [], i, o, c, w, hg, _, _, _ => ⟨w, rfl, by simpa using hg, fun _ _ => rfl, rfl, rfl, rfl, rfl⟩
  | v :: vs, i, o, c, w, hg, hf, hl, h1 => by
    simp only [List.length_cons] at hl
    have hcell : w.cell? ⟨b, o + i, none⟩ = some (c[o + i]'(by omega)) := by
      simp only [World.cell?, hg, Option.isSome_none, Bool.false_eq_true, if_false, List.getElem?_toArray]
      exact List.getElem?_eq_getElem (by omega)
    have hfz : w.frozen? ⟨b, o + i, none⟩ = false := by
      simp only [World.frozen?, hg, Bool.and_eq_false_iff, decide_eq_false_iff_not]
      omega
    have hv1 : v.oneCell' = true := h1 v (by simp)
    have hst : (store ((⟨b, o, none⟩ : Addr).add i) v).run P w = .ok () (w.setCell ⟨b, o + i, none⟩ v) := by
      rw [add_none]
      cases v <;> simp_all [store, Sem.run, Value.oneCell']
    have hheap : (w.setCell ⟨b, o + i, none⟩ v).heap[b]? = some (.cells ⟨c.set (o + i) v⟩ E fr) := by
      simp only [World.setCell, Array.getElem?_modify, if_true, hg, Option.map_some, Option.isSome_none, Bool.false_eq_true, if_false]
      congr 2
      simp
    obtain ⟨w', hr, hh, hold, hsz, hos, htp, hout⟩ := run_stores vs (i + 1) o (c.set (o + i) v) (w.setCell ⟨b, o + i, none⟩ v) hheap (by simpa using hf) (by simp; omega) (fun u hu => h1 u (by simp [hu]))
    refine ⟨w', ?_, ?_, ?_, ?_, hos, htp, hout⟩
    · simp only [storeCells, Sem.run_bind, hst, Result.andThen_ok]; exact hr
    · rw [hh]
      congr 2
      have e1 : (c.set (o + i) v).take (o + (i + 1)) = c.take (o + i) ++ [v] := by
        rw [show o + (i + 1) = (o + i) + 1 by omega, List.take_succ_eq_append_getElem (by simp; omega)]
        simp [List.take_set_of_le]
      have e2 : (c.set (o + i) v).drop (o + (i + 1) + vs.length) = c.drop (o + i + (vs.length + 1)) := by
        rw [List.drop_set_of_lt (by omega)]
        congr 1; omega
      rw [e1, e2]
      simp
    · intro k hk
      rw [hold k hk]
      simp only [World.setCell, Array.getElem?_modify, if_neg (Ne.symm hk)]
    · rw [hsz]; simp
theorem run_store_pt {t b o E : Nat} {p : Pt} {c pre old post : List Value} (ht : Ty P t p.n p.ag) (hin : ∃ x, w.heap[b]? = some x ∧ (Ck.cells c E).ok x) (hc : c = pre ++ (old ++ post)) (hol : old.length = p.n) (ho : pre.length = o) :
    ∃ w' x', (storeVar t ⟨b, o, none⟩ p.v).run P w = .ok () w' ∧ w'.heap[b]? = some x' ∧ (Ck.cells (pre ++ (p.c ++ post)) E).ok x' ∧
      (∀ k, k ≠ b → w'.heap[k]? = w.heap[k]?) ∧ w'.heap.size = w.heap.size ∧ w'.os = w.os ∧ w'.tape = w.tape ∧ w'.output = w.output := by
  obtain ⟨x, hx, fr, rfl, hfr⟩ := hin
  obtain ⟨n, pc, v, ag, len, hv, one⟩ := p
  have hcells : v.cells = ⟨pc⟩ := by
    rcases hv with ⟨_, rfl⟩ | ⟨_, h2⟩
    · rfl
    · subst h2
      have h1 := one v (by simp)
      cases v <;> simp_all [Value.cells, Value.oneCell']
  obtain ⟨w', hr, hh, hold, hsz, hos, htp, hout⟩ := run_stores (P := P) pc 0 o c w hx hfr (by subst hc; subst ho; simp at *; omega) one
  refine ⟨w', _, ?_, hh, ⟨fr, ?_, ?_⟩, hold, hsz, hos, htp, hout⟩
  · simp only [storeVar, Sem.run_bind, run_sizeOf' ht.sz, Result.andThen_ok, hcells]
    rw [if_neg (by simp [len])]
    exact hr
  · congr 2
    subst hc; subst ho
    simp at hol len
    simp [List.take_append, List.drop_append, hol, len, List.drop_eq_nil_of_le]
  · simp at hol len
    subst hc
    simp at hfr ⊢
    omega
end
end Go.PW
namespace Go.PW
open Enc (enc val)
open Go
section
variable {cx : Cx} {md : Md} {ops : Array Oper} {Q : Exit → Act → World → Prop} {rest : List (Oper × Nat)} {kq : Nat} {base : Nat → Value} {L : List (Nat × Value)} {own ro : List Seg}
variable {q : Nat} {d : Nat} {ty : TypeId} {pos : String} {aft : Array Edge} {x y z : Operand}
theorem mv (v : Value) (hx : ev cx.n base L x = v) (h : JG cx md ops Q rest base ((d, v) :: L) own ro) : JG cx md ops Q ((⟨some d, .move x, ty, pos, aft, none⟩, q) :: rest) base L own ro :=
  qt (fun w _ => by subst hx; rfl) h
theorem asg (v : Value) (hx : ev cx.n base L x = v) (h : JG cx md ops Q rest base ((d, v) :: L) own ro) : JG cx md ops Q ((⟨some d, .assign x, ty, pos, aft, none⟩, q) :: rest) base L own ro :=
  qt (fun w _ => by subst hx; rfl) h
theorem pkt (v : Value) (hz : ev cx.n base L z = .bool true) (hx : ev cx.n base L x = v) (h : JG cx md ops Q rest base ((d, v) :: L) own ro) : JG cx md ops Q ((⟨some d, .pick z x y, ty, pos, aft, none⟩, q) :: rest) base L own ro :=
  qt (fun w _ => by subst hx; simp [execOp, hz, asBool]) h
theorem pkf (v : Value) (hz : ev cx.n base L z = .bool false) (hx : ev cx.n base L y = v) (h : JG cx md ops Q rest base ((d, v) :: L) own ro) : JG cx md ops Q ((⟨some d, .pick z x y, ty, pos, aft, none⟩, q) :: rest) base L own ro :=
  qt (fun w _ => by subst hx; simp [execOp, hz, asBool]) h
theorem xtr (v : Value) {i : Nat} {vs : Array Value} (hx : ev cx.n base L x = .tuple vs) (hv : vs[i]? = some v) (h : JG cx md ops Q rest base ((d, v) :: L) own ro) : JG cx md ops Q ((⟨some d, .extract x i, ty, pos, aft, none⟩, q) :: rest) base L own ro :=
  qt (fun w _ => by simp [execOp, hx, Instr.extract, hv]) h
theorem nlc {a : Addr} (hx : ev cx.n base L x = .pointer (some a)) (h : JG cx md ops Q rest base ((d, .pointer (some a)) :: L) own ro) : JG cx md ops Q ((⟨some d, .nilCheck x, ty, pos, aft, none⟩, q) :: rest) base L own ro :=
  qt (fun w _ => by simp [execOp, hx]) h
variable {k : IntKind} {a b : Int} {xt yt : TypeId}
def cmpV : BinOp → Int → Int → Option Bool
  | .eql, a, b => some (decide (a = b))
  | .neq, a, b => some (!decide (a = b))
  | .lss, a, b => some (decide (a < b))
  | .leq, a, b => some (decide (a ≤ b))
  | .gtr, a, b => some (decide (b < a))
  | .geq, a, b => some (decide (b ≤ a))
  | _, _, _ => none
theorem cmp {op : BinOp} (r : Bool) (hx : ev cx.n base L x = .int k a) (hy : ev cx.n base L y = .int k b) (hr : cmpV op a b = some r)
    (h : JG cx md ops Q rest base ((d, .bool r) :: L) own ro) : JG cx md ops Q ((⟨some d, .binOp op xt x y yt, ty, pos, aft, none⟩, q) :: rest) base L own ro :=
  qt (fun w _ => by
    cases op <;> simp only [cmpV] at hr <;> cases hr <;> simp only [execOp, hx, hy] <;> cases k <;> rfl) h
def ariV (k : IntKind) : BinOp → Int → Int → Option Int
  | .add, a, b => some (k.wrap (a + b))
  | .sub, a, b => some (k.wrap (a - b))
  | .mul, a, b => some (k.wrap (a * b))
  | _, _, _ => none
theorem ari {op : BinOp} (r : Int) (hx : ev cx.n base L x = .int k a) (hy : ev cx.n base L y = .int k b) (hr : ariV k op a b = some r)
    (h : JG cx md ops Q rest base ((d, .int k r) :: L) own ro) : JG cx md ops Q ((⟨some d, .binOp op xt x y yt, ty, pos, aft, none⟩, q) :: rest) base L own ro :=
  qt (fun w _ => by
    cases op <;> simp [ariV] at hr <;> subst hr <;> simp [execOp, hx, hy, binOp, Op.intArith, eqGuard_at_int]) h
theorem i64w {n : Int} (h : -9223372036854775808 ≤ n ∧ n ≤ 9223372036854775807) : IntKind.i64.wrap n = n := 
  IntWalk.i64_in _ h
theorem addi {op : BinOp} (hx : ev cx.n base L x = .int .i64 a) (hy : ev cx.n base L y = .int .i64 b) (hop : op = .add) (hr : -9223372036854775808 ≤ a + b ∧ a + b ≤ 9223372036854775807)
    (h : JG cx md ops Q rest base ((d, .int .i64 (a + b)) :: L) own ro) : JG cx md ops Q ((⟨some d, .binOp op xt x y yt, ty, pos, aft, none⟩, q) :: rest) base L own ro :=
  ari (a + b) hx hy (by subst hop; simp [ariV, i64w hr]) h
theorem subi {op : BinOp} (hx : ev cx.n base L x = .int .i64 a) (hy : ev cx.n base L y = .int .i64 b) (hop : op = .sub) (hr : -9223372036854775808 ≤ a - b ∧ a - b ≤ 9223372036854775807)
    (h : JG cx md ops Q rest base ((d, .int .i64 (a - b)) :: L) own ro) : JG cx md ops Q ((⟨some d, .binOp op xt x y yt, ty, pos, aft, none⟩, q) :: rest) base L own ro :=
  ari (a - b) hx hy (by subst hop; simp [ariV, i64w hr]) h
theorem muli {op : BinOp} (hx : ev cx.n base L x = .int .i64 a) (hy : ev cx.n base L y = .int .i64 b) (hop : op = .mul) (hr : -9223372036854775808 ≤ a * b ∧ a * b ≤ 9223372036854775807)
    (h : JG cx md ops Q rest base ((d, .int .i64 (a * b)) :: L) own ro) : JG cx md ops Q ((⟨some d, .binOp op xt x y yt, ty, pos, aft, none⟩, q) :: rest) base L own ro :=
  ari (a * b) hx hy (by subst hop; simp [ariV, i64w hr]) h
theorem not_ {b : Bool} (hx : ev cx.n base L x = .bool b) (h : JG cx md ops Q rest base ((d, .bool (!b)) :: L) own ro) : JG cx md ops Q ((⟨some d, .unOp .not xt x, ty, pos, aft, none⟩, q) :: rest) base L own ro :=
  qt (fun w _ => by simp [execOp, hx, Op.unary]) h
theorem cvi {k' : IntKind} {ds : TypeDesc} {src dst : TypeId} (hx : ev cx.n base L x = .int k a) (hs : cx.P.underlying src = some ds) (hd : cx.P.underlying dst = some (.int k'))
    (h : JG cx md ops Q rest base ((d, .int k' (k'.wrap a)) :: L) own ro) : JG cx md ops Q ((⟨some d, .convert src dst x, ty, pos, aft, none⟩, q) :: rest) base L own ro :=
  qt (fun w _ => by simp [execOp, hx, convert, run_underlying hs, run_underlying hd, Conv.intToInt]) h
theorem run_eq_ptr_nil {P : Program} {w : World} {t e : TypeId} {a : Option Addr} (n : Nat) (hu : P.underlying t = some (.pointer e)) : (Op.equalIn (n + 1) t (.pointer a) (.pointer none)).run P w = .ok a.isNone w := by
  cases a <;> simp [Op.equalIn, run_underlying hu]
theorem eqpn {a : Option Addr} {e : TypeId} {op : BinOp} (r : Bool) (hx : ev cx.n base L x = .pointer a) (hy : ev cx.n base L y = .pointer none) (hu : cx.P.underlying xt = some (.pointer e))
    (hr : (match op with | .eql => some a.isNone | .neq => some !a.isNone | _ => none) = some r)
    (h : JG cx md ops Q rest base ((d, .bool r) :: L) own ro) : JG cx md ops Q ((⟨some d, .binOp op xt x y yt, ty, pos, aft, none⟩, q) :: rest) base L own ro :=
  qt (fun w _ => by
    have h0 : ∀ op, eqGuard op xt x y (.pointer a) (.pointer none) = pure () := fun op => eqGuard_at_pointer ..
    have h1 : binOp .eql xt (.pointer a) (.pointer none) = (do pure (.bool (← Op.equalIn (9999 + 1) xt (.pointer a) (.pointer none)))) := by cases a <;> rfl
    have h2 : binOp .neq xt (.pointer a) (.pointer none) = (do pure (.bool (!(← Op.equalIn (9999 + 1) xt (.pointer a) (.pointer none))))) := by cases a <;> rfl
    cases op <;> dsimp only at hr <;> cases hr
    · simp only [execOp, hx, hy, h0, h1, Sem.run_bind, Sem.run_pure, Result.andThen_ok, run_eq_ptr_nil 9999 hu]
    · simp only [execOp, hx, hy, h0, h2, Sem.run_bind, Sem.run_pure, Result.andThen_ok, run_eq_ptr_nil 9999 hu]) h
theorem lenS {e : TypeId} {a : Option Addr} {n c : Nat} (hx : ev cx.n base L x = .slice a n c) (hu : cx.P.underlying xt = some (.slice e))
    (h : JG cx md ops Q rest base ((d, .int .i64 n) :: L) own ro) : JG cx md ops Q ((⟨some d, .call ⟨.builtin .len, #[x], #[xt]⟩, ty, pos, aft, none⟩, q) :: rest) base L own ro :=
  qt (fun w _ => by simp [execOp, resolve, hx, invoke, builtin, Builtin.len_, run_underlying hu, goInt]) h
theorem lenStr {s : ByteArray} (hx : ev cx.n base L x = .string s) (hu : cx.P.underlying xt = some .string)
    (h : JG cx md ops Q rest base ((d, .int .i64 s.size) :: L) own ro) : JG cx md ops Q ((⟨some d, .call ⟨.builtin .len, #[x], #[xt]⟩, ty, pos, aft, none⟩, q) :: rest) base L own ro :=
  qt (fun w _ => by simp [execOp, resolve, hx, invoke, builtin, Builtin.len_, run_underlying hu, goInt]) h
theorem fad {bk o : Nat} {fs : Array Field} {f : Nat} {fl : Field} {n : Nat} (hx : ev cx.n base L x = .pointer (some ⟨bk, o, none⟩)) (hu : cx.P.underlying xt = some (.struct fs)) (hf : fs[f]? = some fl)
    (hs : (cx.P.info? fl.type).map (·.size) = some (n + 1))
    (h : JG cx md ops Q rest base ((d, .pointer (some ⟨bk, o + fl.offset, none⟩)) :: L) own ro) : JG cx md ops Q ((⟨some d, .fieldAddr xt x f, ty, pos, aft, none⟩, q) :: rest) base L own ro :=
  qt (fun w _ => by simp [execOp, hx, Instr.fieldAt, run_underlying hu, hf, Instr.sureAddr, fieldPlace, run_sizeOf' hs, add_none]) h
theorem ixa {e : TypeId} {bk o len cp n : Nat} {i : Int} (j : Nat) (hx : ev cx.n base L x = .slice (some ⟨bk, o, none⟩) len cp) (hy : ev cx.n base L y = .int k i) (hu : cx.P.underlying xt = some (.slice e))
    (hs : (cx.P.info? e).map (·.size) = some n) (hi : i = (j : Int)) (hj : j < len)
    (h : JG cx md ops Q rest base ((d, .pointer (some ⟨bk, o + j * n, none⟩)) :: L) own ro) : JG cx md ops Q ((⟨some d, .indexAddr xt x y, ty, pos, aft, none⟩, q) :: rest) base L own ro :=
  qt (fun w _ => by
    subst hi
    simp [execOp, hx, hy, Instr.indexAt, asIntOf, run_underlying hu, hj, run_sizeOf' hs, add_none]) h
theorem ixaA {e : TypeId} {bk o len n : Nat} {i : Int} (j : Nat) (hx : ev cx.n base L x = .pointer (some ⟨bk, o, none⟩)) (hy : ev cx.n base L y = .int k i) (hu : cx.P.underlying xt = some (.array len e))
    (hs : (cx.P.info? e).map (·.size) = some n) (hi : i = (j : Int)) (hj : j < len)
    (h : JG cx md ops Q rest base ((d, .pointer (some ⟨bk, o + j * n, none⟩)) :: L) own ro) : JG cx md ops Q ((⟨some d, .indexAddr xt x y, ty, pos, aft, none⟩, q) :: rest) base L own ro :=
  qt (fun w _ => by
    subst hi
    simp [execOp, hx, hy, Instr.indexAt, asIntOf, run_underlying hu, hj, run_sizeOf' hs, add_none, Instr.sureAddr]) h
theorem ldg {t bk o : Nat} {p : Pt} {s : Seg} (hx : ev cx.n base L x = .pointer (some ⟨bk, o, none⟩)) (hs : s ∈ Src md q own ro) (ht : Ty cx.P t p.n p.ag) (hc : ∀ w, SegIn w s → cellsAt w bk o p.c)
    (h : JG cx md ops Q rest base ((d, p.v) :: L) own ro) : JG cx md ops Q ((⟨some d, .load t x, ty, pos, aft, none⟩, q) :: rest) base L own ro :=
  qt (fun w hw => by simp [execOp, hx, Instr.loadAt, Instr.sureAddr, run_load_pt ht (hc w (hw s hs))]) h
theorem ldp {t bk o E n : Nat} {c : List Value} {v : Value} {ag : Bool} {l1 l2 l3} (j i : Nat) (ps : List Pt) (hx : ev cx.n base L x = .pointer (some ⟨bk, o, none⟩)) (hs : (Src md q own ro)[j]? = some [(bk, .cells (cat ps) E)])
    (hp : ps[i]? = some ⟨n, c, v, ag, l1, l2, l3⟩) (ho : psum ps i = o) (ht : Ty cx.P t n ag)
    (h : JG cx md ops Q rest base ((d, v) :: L) own ro) : JG cx md ops Q ((⟨some d, .load t x, ty, pos, aft, none⟩, q) :: rest) base L own ro :=
  ldg (p := ⟨n, c, v, ag, l1, l2, l3⟩) hx (List.mem_of_getElem? hs) ht (fun w hw => by
    obtain ⟨pre, post, h1, h2, _⟩ := cat_split hp
    exact cellsAt_cells hw (List.mem_singleton.2 rfl) h1 (h2.trans ho)) h
theorem ldw {t bk E : Nat} (j : Nat) (ps : List Pt) (hx : ev cx.n base L x = .pointer (some ⟨bk, 0, none⟩)) (hs : (Src md q own ro)[j]? = some [(bk, .cells (cat ps) E)])
    (ht : Ty cx.P t (psum ps ps.length) true)
    (h : JG cx md ops Q rest base ((d, .agg ⟨cat ps⟩) :: L) own ro) : JG cx md ops Q ((⟨some d, .load t x, ty, pos, aft, none⟩, q) :: rest) base L own ro :=
  ldg (p := pa ps) hx (List.mem_of_getElem? hs) ht (fun w hw => cellsAt_cells hw (List.mem_singleton.2 rfl) (pre := []) (post := []) (by simp [pa]) rfl) h
theorem ldo {α : Type} [Enc α] {t bk o E : Nat} {sp : List Value} {xs : List α} (j i : Nat) (hx : ev cx.n base L x = .pointer (some ⟨bk, o, none⟩)) (hs : (Src md q own ro)[j]? = some [(bk, .cells (encs xs ++ sp) E)])
    (ho : o = 0 + i * Enc.n α) (hi : i < xs.length) (ht : Ty cx.P t (Enc.n α) (Enc.ag α))
    (h : JG cx md ops Q rest base ((d, val xs[i]) :: L) own ro) : JG cx md ops Q ((⟨some d, .load t x, ty, pos, aft, none⟩, q) :: rest) base L own ro :=
  ldg (p := pt xs[i]) hx (List.mem_of_getElem? hs) ht (fun w hw => cellsAt_cells hw (List.mem_singleton.2 rfl) (pre := encs (xs.take i)) (post := encs (xs.drop (i + 1)) ++ sp)
    (by rw [encs_split xs i hi]; simp [pt]) (by rw [encs_length, List.length_take, Nat.min_eq_left (Nat.le_of_lt hi)]; omega)) h
theorem ldv {α : Type} [Enc α] {t bk o off : Nat} {xs : List α} (j i : Nat) (hx : ev cx.n base L x = .pointer (some ⟨bk, o, none⟩)) (hs : (Src md q own ro)[j]? = some [(bk, .view off (encs xs))])
    (ho : o = off + i * Enc.n α) (hi : i < xs.length) (ht : Ty cx.P t (Enc.n α) (Enc.ag α))
    (h : JG cx md ops Q rest base ((d, val xs[i]) :: L) own ro) : JG cx md ops Q ((⟨some d, .load t x, ty, pos, aft, none⟩, q) :: rest) base L own ro :=
  ldg (p := pt xs[i]) hx (List.mem_of_getElem? hs) ht (fun w hw => cellsAt_view hw (List.mem_singleton.2 rfl) (pre := encs (xs.take i)) (post := encs (xs.drop (i + 1)))
    (by rw [encs_split xs i hi]; simp [pt]) (by rw [encs_length, List.length_take, Nat.min_eq_left (Nat.le_of_lt hi)]; omega)) h
theorem alo {t : Nat} (ps : List Pt) (v : Value) (hz : Zt cx.P t v) (hv : v.cells = ⟨cat ps⟩) 
    (h : ∀ bk, Keep md kq rest (own ++ [[(bk, .cells (cat ps) t)]]) ro ∧ JG cx md ops Q rest base ((d, .pointer (some ⟨bk, 0, none⟩)) :: L) (own ++ [[(bk, .cells (cat ps) t)]]) ro) :
    JG cx md ops Q ((⟨some d, .alloc t, ty, pos, aft, none⟩, kq + 1) :: rest) base L own ro :=
  nq (Post := fun L' own' ro' => ∃ bk, L' = (d, .pointer (some ⟨bk, 0, none⟩)) :: L ∧ own' = own ++ [[(bk, .cells (cat ps) t)]] ∧ ro' = ro) rfl
    (fun w K hw hK => by
      unfold Oper.wp
      rw [A_eval_fun]
      simp only [execOp, Instr.alloc, Sem.run_bind, run_zero' hz, Result.andThen_ok, newVar, newRow, newObj, Sem.run, hv, Sem.run_pure, Oper.upon]
      rw [A_put]
      exact hK _ _ _ _ ⟨w.heap.size, rfl, rfl, rfl⟩ (hw.alloc _ _ ⟨(0, 0), rfl, .inr (Nat.le_refl _)⟩))
    (by rintro L' own' ro' ⟨bk, rfl, rfl, rfl⟩; exact (h bk).1)
    (by rintro L' own' ro' ⟨bk, rfl, rfl, rfl⟩; exact (h bk).2)
theorem bxx {t : Nat} (ps : List Pt) (v : Value) (hx : ev cx.n base L x = v) (hv : v.cells = ⟨cat ps⟩) 
    (h : ∀ bk, Keep md kq rest (own ++ [[(bk, .cells (cat ps) t)]]) ro ∧ JG cx md ops Q rest base ((d, .pointer (some ⟨bk, 0, none⟩)) :: L) (own ++ [[(bk, .cells (cat ps) t)]]) ro) :
    JG cx md ops Q ((⟨some d, .box t x, ty, pos, aft, none⟩, kq + 1) :: rest) base L own ro :=
  nq (Post := fun L' own' ro' => ∃ bk, L' = (d, .pointer (some ⟨bk, 0, none⟩)) :: L ∧ own' = own ++ [[(bk, .cells (cat ps) t)]] ∧ ro' = ro) rfl
    (fun w K hw hK => by
      unfold Oper.wp
      rw [A_eval_fun]
      simp only [execOp, Instr.box, hx, Sem.run_bind, Result.andThen_ok, newVar, newRow, newObj, Sem.run, hv, Sem.run_pure, Oper.upon]
      rw [A_put]
      exact hK _ _ _ _ ⟨w.heap.size, rfl, rfl, rfl⟩ (hw.alloc _ _ ⟨(0, 0), rfl, .inr (Nat.le_refl _)⟩))
    (by rintro L' own' ro' ⟨bk, rfl, rfl, rfl⟩; exact (h bk).1)
    (by rintro L' own' ro' ⟨bk, rfl, rfl, rfl⟩; exact (h bk).2)
theorem stg {t bk o E j : Nat} {p : Pt} {c pre old post : List Value} (hx : ev cx.n base L x = .pointer (some ⟨bk, o, none⟩)) (hy : ev cx.n base L y = p.v) (hs : own[j]? = some [(bk, .cells c E)])
    (ht : Ty cx.P t p.n p.ag) (hc : c = pre ++ (old ++ post)) (hol : old.length = p.n) (ho : pre.length = o) 
    (h : Keep md kq rest (own.set j [(bk, .cells (pre ++ (p.c ++ post)) E)]) ro ∧ JG cx md ops Q rest base L (own.set j [(bk, .cells (pre ++ (p.c ++ post)) E)]) ro) :
    JG cx md ops Q ((⟨none, .store t x y, ty, pos, aft, none⟩, kq + 1) :: rest) base L own ro :=
  nq (Post := fun L' own' ro' => L' = L ∧ own' = own.set j [(bk, .cells (pre ++ (p.c ++ post)) E)] ∧ ro' = ro) rfl
    (fun w K hw hK => by
      obtain ⟨w', x', hr, hh, hok, hold, hsz, hos, htp, hout⟩ := run_store_pt (P := cx.P) (t := t) (w := w) ht (hw.has.o _ (List.mem_of_getElem? hs) (bk, .cells c E) (List.mem_singleton.2 rfl)) hc hol ho
      unfold Oper.wp
      rw [A_eval_fun]
      simp only [execOp, Instr.storeAt, hx, hy, Instr.sureAddr, Sem.run_bind, Sem.run_pure, Result.andThen_ok, hr, Oper.upon]
      exact hK _ _ _ _ ⟨rfl, rfl, rfl⟩ (hw.turn hs hh hok hold hsz hos htp hout))
    (by rintro L' own' ro' ⟨rfl, rfl, rfl⟩; exact h.1)
    (by rintro L' own' ro' ⟨rfl, rfl, rfl⟩; exact h.2)
theorem stp {t bk o E n : Nat} {c : List Value} {v : Value} {ag : Bool} {l1 l2 l3} (j i : Nat) (ps : List Pt) (p : Pt) (hx : ev cx.n base L x = .pointer (some ⟨bk, o, none⟩)) (hy : ev cx.n base L y = p.v) (hs : own[j]? = some [(bk, .cells (cat ps) E)])
    (hp : ps[i]? = some ⟨n, c, v, ag, l1, l2, l3⟩) (ho : psum ps i = o) (hn : p.n = n) (ht : Ty cx.P t p.n p.ag) 
    (h : Keep md kq rest (own.set j [(bk, .cells (cat (ps.set i p)) E)]) ro ∧ JG cx md ops Q rest base L (own.set j [(bk, .cells (cat (ps.set i p)) E)]) ro) :
    JG cx md ops Q ((⟨none, .store t x y, ty, pos, aft, none⟩, kq + 1) :: rest) base L own ro := by
  obtain ⟨pre, post, h1, h2, h3⟩ := cat_split hp
  rw [h3] at h
  exact stg hx hy hs ht h1 (by simp [hn, l1]) (h2.trans ho) h
theorem stw {t bk E : Nat} (j : Nat) (ps ps' : List Pt) (hx : ev cx.n base L x = .pointer (some ⟨bk, 0, none⟩)) (hy : ev cx.n base L y = .agg ⟨cat ps'⟩) (hs : own[j]? = some [(bk, .cells (cat ps) E)])
    (hn : psum ps ps.length = psum ps' ps'.length) (ht : Ty cx.P t (psum ps' ps'.length) true)
    (h : Keep md kq rest (own.set j [(bk, .cells (cat ps') E)]) ro ∧ JG cx md ops Q rest base L (own.set j [(bk, .cells (cat ps') E)]) ro) :
    JG cx md ops Q ((⟨none, .store t x y, ty, pos, aft, none⟩, kq + 1) :: rest) base L own ro := by
  have e : cat ps' = [] ++ ((pa ps').c ++ []) := by simp [pa]
  rw [e] at h
  exact stg (p := pa ps') hx hy hs ht (pre := []) (post := []) (by simp) ((cat_length ps).trans hn) rfl h
class Flds (α : Type) [Enc α] where
  parts : α → List Pt
  eq : ∀ x, enc x = cat (parts x)
theorem ldof {α : Type} [Enc α] [Flds α] {t bk o E n : Nat} {c : List Value} {v : Value} {ag : Bool} {l1 l2 l3} {sp : List Value} {xs : List α} (j i f : Nat) (hx : ev cx.n base L x = .pointer (some ⟨bk, o, none⟩)) (hs : (Src md q own ro)[j]? = some [(bk, .cells (encs xs ++ sp) E)])
    (hi : i < xs.length) (hp : (Flds.parts xs[i])[f]? = some ⟨n, c, v, ag, l1, l2, l3⟩) (ho : o = 0 + i * Enc.n α + psum (Flds.parts xs[i]) f) (ht : Ty cx.P t n ag)
    (h : JG cx md ops Q rest base ((d, v) :: L) own ro) : JG cx md ops Q ((⟨some d, .load t x, ty, pos, aft, none⟩, q) :: rest) base L own ro :=
  ldg (p := ⟨n, c, v, ag, l1, l2, l3⟩) hx (List.mem_of_getElem? hs) ht (fun w hw => by
    obtain ⟨pre, post, h1, h2, _⟩ := cat_split hp
    exact cellsAt_cells hw (List.mem_singleton.2 rfl) (pre := encs (xs.take i) ++ pre) (post := post ++ (encs (xs.drop (i + 1)) ++ sp))
      (by rw [encs_split xs i hi, Flds.eq, h1]; simp) (by rw [List.length_append, encs_length, List.length_take, Nat.min_eq_left (Nat.le_of_lt hi), h2]; omega)) h
theorem ldvf {α : Type} [Enc α] [Flds α] {t bk o off n : Nat} {c : List Value} {v : Value} {ag : Bool} {l1 l2 l3} {xs : List α} (j i f : Nat) (hx : ev cx.n base L x = .pointer (some ⟨bk, o, none⟩)) (hs : (Src md q own ro)[j]? = some [(bk, .view off (encs xs))])
    (hi : i < xs.length) (hp : (Flds.parts xs[i])[f]? = some ⟨n, c, v, ag, l1, l2, l3⟩) (ho : o = off + i * Enc.n α + psum (Flds.parts xs[i]) f) (ht : Ty cx.P t n ag)
    (h : JG cx md ops Q rest base ((d, v) :: L) own ro) : JG cx md ops Q ((⟨some d, .load t x, ty, pos, aft, none⟩, q) :: rest) base L own ro :=
  ldg (p := ⟨n, c, v, ag, l1, l2, l3⟩) hx (List.mem_of_getElem? hs) ht (fun w hw => by
    obtain ⟨pre, post, h1, h2, _⟩ := cat_split hp
    exact cellsAt_view hw (List.mem_singleton.2 rfl) (pre := encs (xs.take i) ++ pre) (post := post ++ encs (xs.drop (i + 1)))
      (by rw [encs_split xs i hi, Flds.eq, h1]; simp) (by rw [List.length_append, encs_length, List.length_take, Nat.min_eq_left (Nat.le_of_lt hi), h2]; omega)) h
structure Vs where
  nl : Bool
  b : Nat
  off : Nat
  cap : Nat
  wa : Option Addr   -- where it points, if no memory of it is looked at
def Vs.adr (s : Vs) : Option Addr := if s.nl then s.wa else some ⟨s.b, s.off, none⟩
abbrev Vs.v (s : Vs) (n : Nat) : Value := .slice s.adr n s.cap
def Vs.seg {α : Type} [Enc α] (s : Vs) (xs : List α) : Seg := if s.nl then [] else [(s.b, .view s.off (encs xs))]
structure Vs.ok {α : Type} (s : Vs) (xs : List α) : Prop where
  nl : s.nl = true → xs = []
  le : xs.length ≤ s.cap
theorem ixs {k : IntKind} {e n : Nat} {i : Int} {α : Type} {len : Nat} (s : Vs) (xs : List α) (j : Nat) (hok : s.ok xs) (hx : ev cx.n base L x = .slice s.adr len s.cap) (hl : len = xs.length) (hy : ev cx.n base L y = .int k i) (hu : cx.P.underlying xt = some (.slice e))
    (hs : (cx.P.info? e).map (·.size) = some n) (hi : i = (j : Int)) (hj : j < xs.length)
    (h : JG cx md ops Q rest base ((d, .pointer (some ⟨s.b, s.off + j * n, none⟩)) :: L) own ro) : JG cx md ops Q ((⟨some d, .indexAddr xt x y, ty, pos, aft, none⟩, q) :: rest) base L own ro := by
  have hn : s.nl = false := by
    cases hb : s.nl with
    | false => rfl
    | true => have := hok.nl hb; subst this; simp at hj
  have ha : s.adr = some ⟨s.b, s.off, none⟩ := by simp [Vs.adr, hn]
  rw [ha] at hx
  exact ixa j hx hy hu hs hi (by omega) h
theorem ldvs {α : Type} [Enc α] {t bk o : Nat} {s : Vs} {xs : List α} (j i : Nat) (hok : s.ok xs) (hx : ev cx.n base L x = .pointer (some ⟨bk, o, none⟩)) (hs : (Src md q own ro)[j]? = some (s.seg xs))
    (hb : bk = s.b) (ho : o = s.off + i * Enc.n α) (hi : i < xs.length) (ht : Ty cx.P t (Enc.n α) (Enc.ag α))
    (h : JG cx md ops Q rest base ((d, val xs[i]) :: L) own ro) : JG cx md ops Q ((⟨some d, .load t x, ty, pos, aft, none⟩, q) :: rest) base L own ro := by
  have hn : s.nl = false := by
    cases hb : s.nl with
    | false => rfl
    | true => have := hok.nl hb; subst this; simp at hi
  subst hb
  exact ldv j i hx (by rw [hs]; simp [Vs.seg, hn]) ho hi ht h
theorem ldvsf {α : Type} [Enc α] [Flds α] {t bk o n : Nat} {c : List Value} {v : Value} {ag : Bool} {l1 l2 l3} {s : Vs} {xs : List α} (j i f : Nat) (hok : s.ok xs) (hx : ev cx.n base L x = .pointer (some ⟨bk, o, none⟩)) (hs : (Src md q own ro)[j]? = some (s.seg xs))
    (hb : bk = s.b) (hi : i < xs.length) (hp : (Flds.parts xs[i])[f]? = some ⟨n, c, v, ag, l1, l2, l3⟩) (ho : o = s.off + i * Enc.n α + psum (Flds.parts xs[i]) f) (ht : Ty cx.P t n ag)
    (h : JG cx md ops Q rest base ((d, v) :: L) own ro) : JG cx md ops Q ((⟨some d, .load t x, ty, pos, aft, none⟩, q) :: rest) base L own ro := by
  have hn : s.nl = false := by
    cases hb : s.nl with
    | false => rfl
    | true => have := hok.nl hb; subst this; simp at hi
  subst hb
  exact ldvf j i f hx (by rw [hs]; simp [Vs.seg, hn]) hi hp ho ht h
end
end Go.PW
namespace Go.PW
open Enc (enc val)
open Go
def pick (is : List Nat) (own : List Seg) : List Seg := is.map fun i => own.getD i []
theorem pick_range (own : List Seg) : pick (List.range own.length) own = own := by
  apply List.ext_getElem
  · simp [pick]
  · intro i h1 h2
    simp [pick, h2]
theorem pick_perm {is : List Nat} {own : List Seg} (h : is.isPerm (List.range own.length) = true) : (pick is own).Perm own := by
  replace h := List.isPerm_iff.1 h
  have := h.map (fun i => own.getD i [])
  have e := pick_range own
  unfold pick at e ⊢
  rwa [e] at this
theorem pick_of {own : List Seg} : ∀ {js : List Nat} {R : List Seg}, R.map some = js.map (fun i => own[i]?) → pick js own = R
  | [], [], _ => rfl
  | [], _ :: _, h => by simp at h
  | _ :: _, [], h => by simp at h
  | j :: js, s :: R, h => by
    simp only [List.map_cons, List.cons.injEq] at h
    have := pick_of (own := own) h.2
    unfold pick at this ⊢
    rw [List.map_cons, this]
    congr 1
    rw [List.getD_eq_getElem?_getD, ← h.1]; rfl
theorem blks_perm {a b : List Seg} (h : a.Perm b) : (blks a).Perm (blks b) := by
  unfold blks; exact (h.flatten).map _
theorem blks_append (a b : List Seg) : blks (a ++ b) = blks a ++ blks b := by simp [blks]
def Impl (src roC : List Seg) : Prop := ∀ s ∈ roC, ∀ p ∈ s, ∃ s' ∈ src, ∃ p' ∈ s', p'.1 = p.1 ∧ ∀ o, p'.2.ok o → p.2.ok o
theorem impl_nil {src} : Impl src [] := fun _ h => by cases h
theorem impl_cons {src s r} (h : Impl src [s]) (hr : Impl src r) : Impl src (s :: r) := fun x hx =>
  (List.mem_cons.1 hx).elim (fun e => h x (e ▸ List.mem_singleton.2 rfl)) (hr x)
theorem impl_mem {src : List Seg} {s : Seg} (h : s ∈ src) : Impl src [s] := fun x hx p hp => by
  rw [List.mem_singleton] at hx; subst hx
  exact ⟨_, h, p, hp, rfl, fun _ h => h⟩
theorem impl_at {src : List Seg} {s : Seg} (j : Nat) (h : src[j]? = some s) : Impl src [s] := impl_mem (List.mem_of_getElem? h)
theorem impl_view {src : List Seg} {b off E : Nat} {c l : List Value} (j : Nat) (h : src[j]? = some [(b, .cells c E)]) (hl : ∃ pre post, c = pre ++ (l ++ post) ∧ pre.length = off) : Impl src [[(b, .view off l)]] := fun x hx p hp => by
  rw [List.mem_singleton] at hx; subst hx
  rw [List.mem_singleton] at hp; subst hp
  refine ⟨_, List.mem_of_getElem? h, (b, .cells c E), List.mem_singleton.2 rfl, rfl, ?_⟩
  rintro o ⟨fr, rfl, _⟩
  obtain ⟨pre, post, rfl, rfl⟩ := hl
  refine ⟨_, E, fr, rfl, fun i v hv => ?_⟩
  have hi : i < l.length := (List.getElem?_eq_some_iff.1 hv).1
  simp only [List.getElem?_toArray, List.getElem?_append_right (Nat.le_add_right _ _), Nat.add_sub_cancel_left, List.getElem?_append_left hi, hv]
theorem Has.impl {w own ro roC} (h : Has w own ro) {R : List Seg} (hR : ∀ s ∈ R, s ∈ own) (hi : Impl (ro ++ R) roC) : ∀ s ∈ roC, SegIn w s := fun s hs p hp => by
  obtain ⟨s', hs', p', hp', e, hk⟩ := hi s hs p hp
  have : SegIn w s' := (List.mem_append.1 hs').elim (h.r s') (fun hm => h.o s' (hR s' hm))
  obtain ⟨o, ho, hok⟩ := this p' hp'
  exact ⟨o, e ▸ ho, hk o hok⟩
theorem Has.sub {w own ro} (h : Has w own ro) {own' dr ro' : List Seg} (hp : (own' ++ dr).Perm own) (hi : Impl (ro ++ dr) ro') : Has w own' ro' := by
  have hb := blks_perm hp
  rw [blks_append] at hb
  have hnd := (hb.nodup_iff).2 h.nd
  have hm : ∀ s, s ∈ own' ∨ s ∈ dr → s ∈ own := fun s hs => hp.mem_iff.1 (List.mem_append.2 hs)
  refine ⟨fun s hs => h.o s (hm s (.inl hs)), h.impl (R := dr) (fun s hs => hm s (.inr hs)) hi, (List.nodup_append.1 hnd).1, ?_⟩
  intro b h1 h2
  obtain ⟨s, hs, p, hps, rfl⟩ := mem_blks.1 h2
  obtain ⟨s', hs', p', hp', e, _⟩ := hi s hs p hps
  rw [← e] at h1
  rcases List.mem_append.1 hs' with h3 | h3
  · exact h.dj _ ((hb.mem_iff).1 (List.mem_append.2 (.inl h1))) (mem_blks.2 ⟨s', h3, p', hp', rfl⟩)
  · exact (List.nodup_append.1 hnd).2.2 _ h1 _ (mem_blks.2 ⟨s', h3, p', hp', rfl⟩) rfl
def EnterOk (P : Program) (f : Nat) : Prop := ∃ fn, P.funcs[f]? = some fn ∧ fn.body.isNone = false ∧ (fn.name == "runtime.NumGoroutine") = false
def After (w : World) (own ro : List Seg) (post : Value → List Seg → List Seg → Prop) (e : Ending) (w' : World) : Prop :=
  ∃ v own' ro', e = .returned v ∧ post v own' ro' ∧ In ⟨w, blks own, ro.length⟩ own' (ro ++ ro') w'
def Ct (P : Program) (f : Nat) (args : List Value) (own ro : List Seg) (post : Value → List Seg → List Seg → Prop) : Prop :=
  EnterOk P f ∧ ∀ w, Has w own ro → Calls P f ⟨args⟩ w (After w own ro post)
theorem Ct.mono {P f args own ro} {post post' : Value → List Seg → List Seg → Prop} (h : Ct P f args own ro post) (hp : ∀ v o r, post v o r → post' v o r) : Ct P f args own ro post' :=
  ⟨h.1, fun w hw => (h.2 w hw).mono fun _ _ ⟨v, o, r, he, hpost, hi⟩ => ⟨v, o, r, he, hp _ _ _ hpost, hi⟩⟩
def ini : Nat → List Value → List (Nat × Value)
  | _, [] => []
  | i, v :: r => (i, v) :: ini (i + 1) r
theorem look_ini (base : Nat → Value) (vs : List Value) : ∀ i t, look base (ini i vs) t = if i ≤ t ∧ t < i + vs.length then vs.getD (t - i) undef else base t := by
  induction vs with
  | nil => intro i t; simp [ini, look]; intro h1 h2; omega
  | cons v r ih =>
    intro i t
    simp only [ini, look]
    cases hb : Nat.beq i t with
    | true => have := Nat.eq_of_beq_eq_true hb; subst this; simp
    | false =>
      have hne : i ≠ t := fun e => by subst e; simp at hb
      simp only [cond_false, ih]
      by_cases h : i + 1 ≤ t ∧ t < i + 1 + r.length
      · rw [if_pos h, if_pos (by simp; omega)]
        obtain ⟨k, rfl⟩ : ∃ k, t = i + 1 + k := ⟨t - (i + 1), by omega⟩
        rw [show i + 1 + k - i = k + 1 by omega, show i + 1 + k - (i + 1) = k by omega]; simp
      · rw [if_neg h, if_neg (by simp; omega)]
theorem A_ini (n : Nat) (args : List Value) (h : args.length ≤ n) : A n (fun _ => undef) (ini 0 args) = { tmps := (⟨args⟩ : Array Value) ++ Array.replicate (n - args.length) undef, defers := [] } := by
  unfold A; congr 1
  apply Array.ext
  · simp; omega
  · intro i h1 h2
    simp only [Array.getElem_ofFn, look_ini]
    simp only [Array.size_ofFn] at h1
    rw [Array.getElem_append]
    by_cases hi : i < args.length
    · simp [hi]
    · simp [hi]
theorem ct_enter {P : Program} {f : Nat} {fn : Func} {c : Code} {n : Nat} {args : List Value} {own ro : List Seg} {post : Value → List Seg → List Seg → Prop}
    (hf : P.funcs[f]? = some fn) (hb : fn.body = some c) (hn : fn.ntmps = n) (hname : (fn.name == "runtime.NumGoroutine") = false) (hl : Nat.ble args.length n = true)
    (h : ∀ w0, JC ⟨P, n, ⟨w0, blks own, ro.length⟩⟩ c (bodyPost P fn (After w0 own ro post)) [] (fun _ => undef) (ini 0 args) own ro) : Ct P f args own ro post :=
  ⟨⟨fn, hf, by simp [hb], hname⟩, fun w hw => calls_of_wp hf hb (by
    have h1 := (h w).out w ⟨hw, Ext.refl _ _, fun b hb => .inl hb, by simp [blks]⟩
    dsimp only at h1
    rw [A_ini n args (Nat.ble_eq.mp hl)] at h1
    subst hn; exact h1)⟩
def rv (tmps : Array Value) : ResultVar → Sem Value
  | .tmp t => pure (tmps.getD t undef)
  | .cell a t => do loadVar t (← asAddr (tmps.getD a undef))
section
variable {P : Program} {w : World} {fn : Func} {tmps : Array Value}
theorem results_rv (fn : Func) (tmps : Array Value) : results fn tmps = (do let vs ← fn.results.mapM (rv tmps); pure (if h : vs.size = 1 then vs[0] else .tuple vs)) := by
  unfold results
  congr 2
theorem res0 (h : fn.results = #[]) : (results fn tmps).run P w = .ok (.tuple #[]) w := by simp [results, h]
theorem res1 {r v} (h : fn.results = #[r]) (h1 : (rv tmps r).run P w = .ok v w) : (results fn tmps).run P w = .ok v w := by
  rw [results_rv, h]; simp [h1]
theorem res2 {r s v u} (h : fn.results = #[r, s]) (h1 : (rv tmps r).run P w = .ok v w) (h2 : (rv tmps s).run P w = .ok u w) : (results fn tmps).run P w = .ok (.tuple #[v, u]) w := by
  rw [results_rv, h]; simp [h1, h2]
theorem res3 {r s t v u x} (h : fn.results = #[r, s, t]) (h1 : (rv tmps r).run P w = .ok v w) (h2 : (rv tmps s).run P w = .ok u w) (h3 : (rv tmps t).run P w = .ok x w) : (results fn tmps).run P w = .ok (.tuple #[v, u, x]) w := by
  rw [results_rv, h]; simp [h1, h2, h3]
end
def RV (cx : Cx) (base : Nat → Value) (L : List (Nat × Value)) (own ro : List Seg) (r : ResultVar) (v : Value) : Prop :=
  ∀ w, In cx.z own ro w → (rv (A cx.n base L).tmps r).run cx.P w = .ok v w
section
variable {cx : Cx} {base : Nat → Value} {L : List (Nat × Value)} {own ro : List Seg}
theorem rvt {t : Nat} {v : Value} (h : ev cx.n base L (.tmp t) = v) : RV cx base L own ro (.tmp t) v := fun w _ => by
  have := A_eval cx.n base L (.tmp t)
  simp only [Act.eval] at this
  simp only [rv, this, h, Sem.run_pure]
theorem rvc {a t bk E : Nat} {p : Pt} {ps : List Pt} (j : Nat) (hx : ev cx.n base L (.tmp a) = .pointer (some ⟨bk, 0, none⟩)) (hs : (own ++ ro)[j]? = some [(bk, .cells (cat ps) E)]) (hp : cat ps = p.c) (ht : Ty cx.P t p.n p.ag) :
    RV cx base L own ro (.cell a t) p.v := fun w hw => by
  have h1 := A_eval cx.n base L (.tmp a)
  simp only [Act.eval] at h1
  have h2 := run_load_pt (w := w) (b := bk) (o := 0) ht (cellsAt_cells (hw.src _ (List.mem_of_getElem? hs)) (List.mem_singleton.2 rfl) (pre := []) (post := []) (by simp [hp]) rfl)
  simp only [rv, h1, hx, asAddr, Sem.run_bind, Sem.run_pure, Result.andThen_ok, h2]
theorem In.leave {z : Zt0} {w : World} {ro0 own' dr ro' r1 : List Seg} (h : In z own ro w) (hz : z.N0 = ro0.length) (hp : (own' ++ dr).Perm own) (hr : ro = ro0 ++ r1) (hi : Impl (r1 ++ dr) ro') :
    In z own' (ro0 ++ ro') w := by
  subst hr
  have hb := blks_perm hp
  rw [blks_append] at hb
  refine ⟨h.has.sub hp ?_, h.ext, fun b hb' => h.fr b ((hb.mem_iff).1 (List.mem_append.2 (.inl hb'))), ?_⟩
  · intro s hs
    rcases List.mem_append.1 hs with h1 | h1
    · exact fun p hp => ⟨s, by simp [h1], p, hp, rfl, fun _ h => h⟩
    · intro p hp
      obtain ⟨s', hs', rest⟩ := hi s h1 p hp
      exact ⟨s', by rcases List.mem_append.1 hs' with h | h <;> simp [h], rest⟩
  · intro b hb'
    rw [hz, List.drop_left] at hb'
    obtain ⟨s, hs, p, hps, rfl⟩ := mem_blks.1 hb'
    obtain ⟨s', hs', p', hp', e, _⟩ := hi s hs p hps
    rw [← e]
    rcases List.mem_append.1 hs' with h1 | h1
    · exact h.rf _ (by rw [hz, List.drop_left]; exact mem_blks.2 ⟨s', h1, p', hp', rfl⟩)
    · exact h.fr _ ((hb.mem_iff).1 (List.mem_append.2 (.inr (mem_blks.2 ⟨s', h1, p', hp', rfl⟩))))
variable {Q0 : Exit → Act → World → Prop} {st : List Fr} {fn : Func} {own0 ro0 : List Seg} {post : Value → List Seg → List Seg → Prop}
theorem j_end {v : Value} {ex : Exit} (hex : ex = .ret ∨ ex = .normal) (hz : cx.z = ⟨cx.z.w0, blks own0, ro0.length⟩)
    (hres : ∀ w, In cx.z own ro w → (results fn (A cx.n base L).tmps).run cx.P w = .ok v w) (io jo : List Nat) (ow dr r1 ro' : List Seg) (how : ow.map some = io.map fun i => own[i]?) (hdr : dr.map some = jo.map fun i => own[i]?) (perm : (io ++ jo).isPerm (List.range own.length) = true)
    (hr : ro = ro0 ++ r1) (hi : Impl (r1 ++ dr) ro') (hp : post v ow ro') : JE cx ex (bodyPost cx.P fn (After cx.z.w0 own0 ro0 post)) [] base L own ro := JE.mk fun w hw => by
  obtain rfl := pick_of how
  obtain rfl := pick_of hdr
  have hpm : (pick io own ++ pick jo own).Perm own := by
    have := pick_perm (own := own) perm
    simpa [pick] using this
  have h1 := hw.leave (ro0 := ro0) (ro' := ro') (r1 := r1) (by rw [hz]) hpm hr hi
  rw [hz] at h1
  rcases hex with rfl | rfl
  · exact ⟨rfl, v, hres w hw, v, _, _, rfl, hp, h1⟩
  · exact ⟨rfl, v, hres w hw, v, _, _, rfl, hp, h1⟩
theorem hr1 {r v} (h : fn.results = #[r]) (h1 : RV cx base L own ro r v) : ∀ w, In cx.z own ro w → (results fn (A cx.n base L).tmps).run cx.P w = .ok v w := fun w hw => res1 h (h1 w hw)
theorem hr2 {r s v u} (h : fn.results = #[r, s]) (h1 : RV cx base L own ro r v) (h2 : RV cx base L own ro s u) : ∀ w, In cx.z own ro w → (results fn (A cx.n base L).tmps).run cx.P w = .ok (.tuple #[v, u]) w := fun w hw => res2 h (h1 w hw) (h2 w hw)
theorem hr3 {r s t v u x} (h : fn.results = #[r, s, t]) (h1 : RV cx base L own ro r v) (h2 : RV cx base L own ro s u) (h3 : RV cx base L own ro t x) : ∀ w, In cx.z own ro w → (results fn (A cx.n base L).tmps).run cx.P w = .ok (.tuple #[v, u, x]) w := fun w hw => res3 h (h1 w hw) (h2 w hw) (h3 w hw)
theorem hr0 (h : fn.results = #[]) : ∀ w, In cx.z own ro w → (results fn (A cx.n base L).tmps).run cx.P w = .ok (.tuple #[]) w := fun w _ => res0 h
def hav (W : List Nat) (g f : Nat → Value) : Nat → Value := fun t => bif W.any (Nat.beq t) then g t else f t
def Mt (f : Nat → Value) : List (Nat × Value) → Prop
  | [] => True
  | (d, v) :: r => f d = v ∧ Mt f r
theorem Mt.look {f : Nat → Value} {base : Nat → Value} {L : List (Nat × Value)} (h : Mt f L) (t : Nat) (hb : (∀ v, (t, v) ∉ L) → base t = f t) : look base L t = f t := by
  induction L with
  | nil => exact hb (by simp)
  | cons p r ih =>
    obtain ⟨d, v⟩ := p
    simp only [PW.look]
    cases hd : Nat.beq d t with
    | true => have := Nat.eq_of_beq_eq_true hd; subst this; exact h.1.symm
    | false =>
      refine ih h.2 fun hn => hb fun v hv => ?_
      rcases List.mem_cons.1 hv with e | e
      · simp only [Prod.mk.injEq] at e; obtain ⟨rfl, _⟩ := e; simp at hd
      · exact hn v e
theorem look_out {base : Nat → Value} {L : List (Nat × Value)} {t : Nat} (h : ∀ p ∈ L, p.1 ≠ t) : look base L t = base t := by
  induction L with
  | nil => rfl
  | cons p r ih =>
    obtain ⟨d, v⟩ := p
    simp only [PW.look]
    cases hd : Nat.beq d t with
    | true => exact absurd (Nat.eq_of_beq_eq_true hd) (h (d, v) (by simp))
    | false => exact ih fun p hp => h p (by simp [hp])
def Hd (cx : Cx) {σ : Type} (I : σ → Prop) (Ls : σ → List (Nat × Value)) (owns ros : σ → List Seg) (W : List Nat) (base : Nat → Value) (less : σ → Prop) : Act → World → Prop := fun a w =>
  ∃ s, I s ∧ less s ∧ (∃ g, a = A cx.n (hav W g base) (Ls s)) ∧ In cx.z (owns s) (ros s) w
theorem hd_intro {σ : Type} {I : σ → Prop} {Ls : σ → List (Nat × Value)} {owns ros : σ → List Seg} {W : List Nat} {base' : Nat → Value} {g : Nat → Value} {less : σ → Prop} (s : σ) (hI : I s) (hl : less s)
    (hm : Mt (look (hav W g base') L) (Ls s)) (hk : L.all (fun p => W.any (Nat.beq p.1)) = true) (ho : own = owns s) (hr : ro = ros s) {w : World} (hw : In cx.z own ro w) :
    Hd cx I Ls owns ros W base' less (A cx.n (hav W g base') L) w := by
  subst ho; subst hr
  refine ⟨s, hI, hl, ⟨look (hav W g base') L, A_ext fun t _ => ?_⟩, hw⟩
  refine (Mt.look hm t fun _ => ?_).symm
  unfold hav
  cases hb : W.any (Nat.beq t) with
  | true => rfl
  | false =>
    simp only [cond_false]
    have h1 : ∀ p ∈ L, p.1 ≠ t := fun p hp e => by
      have := List.all_eq_true.1 hk p hp
      rw [e, hb] at this; cases this
    have := look_out (base := hav W g base') h1
    unfold hav at this
    rw [this, hb]; rfl
theorem c_loop {σ : Type} (I : σ → Prop) (μ : σ → Nat) (Ls : σ → List (Nat × Value)) (owns ros : σ → List Seg) (W : List Nat) {c : Code} (s0 : σ) (hI : I s0) (hm : Mt (look base L) (Ls s0))
    (ho : own = owns s0) (hr : ro = ros s0)
    (round : ∀ s g, I s → JC cx c Q0 (.lp (Hd cx I Ls owns ros W (look base L) fun s' => μ s' < μ s) :: st) (hav W g (look base L)) (Ls s) (owns s) (ros s)) : JC cx (.loop c) Q0 st base L own ro := JC.mk fun w hw => by
  subst ho; subst hr
  refine wp_loop_ghost (fun m a w => ∃ s, μ s = m ∧ I s ∧ (∃ g, a = A cx.n (hav W g (look base L)) (Ls s)) ∧ In cx.z (owns s) (ros s) w) (μ s0) ⟨s0, rfl, hI, ⟨look base L, A_ext fun t _ => ?_⟩, hw⟩ ?_
  · refine (Mt.look hm t fun _ => ?_).symm
    unfold hav; cases W.any (Nat.beq t) <;> rfl
  · rintro m a w ⟨s, rfl, hs, ⟨g, rfl⟩, hin⟩
    refine wp_mono ((round s g hs).out w hin) ?_
    intro e a' w' hq
    cases e with
    | normal =>
      obtain ⟨s', hI', hlt, hg, hin'⟩ := hq
      exact ⟨μ s', hlt, s', rfl, hI', hg, hin'⟩
    | _ => exact hq
theorem e_loop {σ : Type} {I : σ → Prop} {Ls : σ → List (Nat × Value)} {owns ros : σ → List Seg} {W : List Nat} {base' : Nat → Value} {g : Nat → Value} {less : σ → Prop} (s : σ) (hI : I s) (hl : less s)
    (hm : Mt (look (hav W g base') L) (Ls s)) (hk : L.all (fun p => W.any (Nat.beq p.1)) = true) (ho : own = owns s) (hr : ro = ros s) :
    JE cx .normal Q0 (.lp (Hd cx I Ls owns ros W base' less) :: st) (hav W g base') L own ro := JE.mk fun w hw => hd_intro s hI hl hm hk ho hr hw
end
theorem c_cut {cx : Cx} {Q0 : Exit → Act → World → Prop} {st : List Fr} {base : Nat → Value} {L : List (Nat × Value)} {own ro : List Seg} {σ : Type} (I : σ → Prop) (Ls : σ → List (Nat × Value)) (owns ros : σ → List Seg) (W : List Nat) {x y : Code}
    (h : JC cx x Q0 (.lp (Hd cx I Ls owns ros W (look base L) fun _ => True) :: st) (hav W (look base L) (look base L)) [] own ro)
    (rest : ∀ s g, I s → JC cx y Q0 st (hav W g (look base L)) (Ls s) (owns s) (ros s)) : JC cx (.seq x y) Q0 st base L own ro := JC.mk fun w hw => by
  have e : A cx.n base L = A cx.n (hav W (look base L) (look base L)) [] := A_ext fun t _ => by
    simp only [look, hav]; cases W.any (Nat.beq t) <;> rfl
  rw [e]
  refine wp_seq (wp_mono (h.out w hw) ?_)
  intro e a' w' hq
  cases e with
  | normal =>
    obtain ⟨s', hI', _, ⟨g, rfl⟩, hin'⟩ := hq
    exact (rest s' g hI').out w' hin'
  | _ => exact hq
theorem In.call {z : Zt0} {own ro ownC R roC own' ro' : List Seg} {w w' : World} (h : In z own ro w) (hp : (ownC ++ R).Perm own) (hi : Impl (ro ++ R) roC)
    (ha : In ⟨w, blks ownC, roC.length⟩ own' (roC ++ ro') w') (hz : z.N0 ≤ ro.length) : In z (R ++ own') (ro ++ ro') w' := by
  have hb := blks_perm hp
  rw [blks_append] at hb
  have hnd := List.nodup_append.1 ((hb.nodup_iff).2 h.has.nd)
  have hmo : ∀ b, b ∈ blks ownC ∨ b ∈ blks R → b ∈ blks own := fun b hb' => (hb.mem_iff).1 (List.mem_append.2 hb')
  have hrf := ha.rf
  simp only [List.drop_left] at hrf
  have keepR : ∀ b, b ∈ blks R ∨ b ∈ blks ro → w'.heap[b]? = w.heap[b]? := by
    intro b hb'
    have hlt : b < w.heap.size := h.has.lt (hb'.imp (fun h => hmo b (.inr h)) id)
    refine ha.ext.blk b hlt fun hm => ?_
    rcases hb' with h1 | h1
    · exact hnd.2.2 _ hm _ h1 rfl
    · exact h.has.dj b (hmo b (.inl hm)) h1
  refine ⟨⟨?_, ?_, ?_, ?_⟩, ?_, ?_, ?_⟩
  · intro s hs
    rcases List.mem_append.1 hs with h1 | h1
    · exact (h.has.o s ((hp.mem_iff).1 (List.mem_append.2 (.inr h1)))).keep fun p hp' => keepR _ (.inl (mem_blks.2 ⟨s, h1, p, hp', rfl⟩))
    · exact ha.has.o s h1
  · intro s hs
    rcases List.mem_append.1 hs with h1 | h1
    · exact (h.has.r s h1).keep fun p hp' => keepR _ (.inr (mem_blks.2 ⟨s, h1, p, hp', rfl⟩))
    · exact ha.has.r s (List.mem_append.2 (.inr h1))
  · rw [blks_append, List.nodup_append]
    refine ⟨hnd.2.1, ha.has.nd, fun a h1 b h2 e => ?_⟩
    subst e
    rcases ha.fr a h2 with h3 | h3
    · exact hnd.2.2 _ h3 _ h1 rfl
    · exact Nat.lt_irrefl _ (Nat.lt_of_lt_of_le (h.has.lt (.inl (hmo a (.inr h1)))) h3)
  · intro b h1 h2
    rw [blks_append] at h1 h2
    rcases List.mem_append.1 h1 with h1 | h1 <;> rcases List.mem_append.1 h2 with h2 | h2
    · exact h.has.dj b (hmo b (.inr h1)) h2
    · rcases hrf b h2 with h3 | h3
      · exact hnd.2.2 _ h3 _ h1 rfl
      · exact Nat.lt_irrefl _ (Nat.lt_of_lt_of_le (h.has.lt (.inl (hmo b (.inr h1)))) h3)
    · rcases ha.fr b h1 with h3 | h3
      · exact h.has.dj b (hmo b (.inl h3)) h2
      · exact Nat.lt_irrefl _ (Nat.lt_of_lt_of_le (h.has.lt (.inr h2)) h3)
    · exact ha.has.dj b h1 (by rw [blks_append]; exact List.mem_append.2 (.inr h2))
  · refine ⟨ha.ext.os.trans h.ext.os, ha.ext.tape.trans h.ext.tape, ha.ext.output.trans h.ext.output, Nat.le_trans h.ext.size ha.ext.size, fun b hb1 hb2 => ?_⟩
    refine (ha.ext.blk b (Nat.lt_of_lt_of_le hb1 h.ext.size) fun hm => ?_).trans (h.ext.blk b hb1 hb2)
    rcases h.fr b (hmo b (.inl hm)) with h3 | h3
    · exact hb2 h3
    · omega
  · intro b hb'
    rw [blks_append] at hb'
    rcases List.mem_append.1 hb' with h1 | h1
    · exact h.fr b (hmo b (.inr h1))
    · rcases ha.fr b h1 with h3 | h3
      · exact h.fr b (hmo b (.inl h3))
      · exact .inr (Nat.le_trans h.ext.size h3)
  · intro b hb'
    rw [List.drop_append_of_le_length hz, blks_append] at hb'
    rcases List.mem_append.1 hb' with h1 | h1
    · exact h.rf b h1
    · rcases hrf b h1 with h3 | h3
      · exact h.fr b (hmo b (.inl h3))
      · exact .inr (Nat.le_trans h.ext.size h3)
theorem run_callFunc {P : Program} {f : Nat} {args : Array Value} {w : World} (h : EnterOk P f) : (callFunc f args).run P w = .ok (.enter f args) w := by
  obtain ⟨fn, h1, h2, h3⟩ := h
  simp only [callFunc, Sem.run_bind, run_program, Result.andThen_ok, h1, h3, h2, Bool.false_eq_true, if_false, Sem.run_pure]
section
variable {cx : Cx} {md : Md} {ops : Array Oper} {Q : Exit → Act → World → Prop} {rest : List (Oper × Nat)} {kq : Nat} {base : Nat → Value} {L : List (Nat × Value)} {own ro : List Seg}
variable {d : Nat} {ty : TypeId} {pos : String} {aft : Array Edge}
theorem cal {f : Nat} {xs : Array Operand} {ts : Array TypeId} {args : List Value} {ownC roC : List Seg} {post : Value → List Seg → List Seg → Prop} (hct : Ct cx.P f args ownC roC post)
    (io jo : List Nat) (R : List Seg) (hR : R.map some = jo.map fun i => own[i]?) (hx : xs.toList.map (ev cx.n base L) = args) (hio : ownC.map some = io.map fun i => own[i]?) (perm : (io ++ jo).isPerm (List.range own.length) = true) (hi : Impl (ro ++ R) roC) (hz : Nat.ble cx.z.N0 ro.length = true)
    (h : ∀ v own' ro', post v own' ro' → Keep md kq rest (R ++ own') (ro ++ ro') ∧ JG cx md ops Q rest base ((d, v) :: L) (R ++ own') (ro ++ ro')) :
    JG cx md ops Q ((⟨some d, .call ⟨.value (.func f), xs, ts⟩, ty, pos, aft, none⟩, kq + 1) :: rest) base L own ro := by
  obtain rfl := pick_of hR
  exact nq (Post := fun L' o r => ∃ v own' ro', post v own' ro' ∧ L' = (d, v) :: L ∧ o = pick jo own ++ own' ∧ r = ro ++ ro') rfl
    (fun w K hw hK => by
      have hpm : (ownC ++ pick jo own).Perm own := by
        have := pick_perm (own := own) perm
        obtain rfl := pick_of hio; simpa [pick] using this
      have hR : ∀ s ∈ pick jo own, s ∈ own := fun s hs => (hpm.mem_iff).1 (List.mem_append.2 (.inr hs))
      have hC : ∀ s ∈ ownC, s ∈ own := fun s hs => (hpm.mem_iff).1 (List.mem_append.2 (.inl hs))
      have hb := blks_perm hpm
      rw [blks_append] at hb
      have hnd := List.nodup_append.1 ((hb.nodup_iff).2 hw.has.nd)
      have hhas : Has w ownC roC := ⟨fun s hs => hw.has.o s (hC s hs), hw.has.impl hR hi, hnd.1, fun b h1 h2 => by
        obtain ⟨s, hs, p, hps, rfl⟩ := mem_blks.1 h2
        obtain ⟨s', hs', p', hp', e, _⟩ := hi s hs p hps
        rw [← e] at h1
        rcases List.mem_append.1 hs' with h3 | h3
        · exact hw.has.dj _ ((hb.mem_iff).1 (List.mem_append.2 (.inl h1))) (mem_blks.2 ⟨s', h3, p', hp', rfl⟩)
        · exact hnd.2.2 _ h1 _ (mem_blks.2 ⟨s', h3, p', hp', rfl⟩) rfl⟩
      have hargs : xs.map (ev cx.n base L) = ⟨args⟩ := by
        apply Array.ext'
        simp [← hx]
      unfold Oper.wp
      rw [A_eval_fun]
      simp only [execOp, resolve, ev, Deferred.ofValue, Sem.run_bind, Sem.run_pure, Result.andThen_ok, invoke, hargs, Array.append_empty, Array.empty_append, run_callFunc hct.1, Oper.upon]
      refine (hct.2 w hhas).mono ?_
      rintro e w' ⟨v, own', ro', rfl, hpost, hin⟩
      show K ((A cx.n base L).put (some d) v) w'
      rw [A_put]
      exact hK _ _ _ _ ⟨v, own', ro', hpost, rfl, rfl, rfl⟩ (hw.call hpm hi hin (Nat.ble_eq.mp hz)))
    (by rintro L' o r ⟨v, own', ro', hpost, rfl, rfl, rfl⟩; exact (h v own' ro' hpost).1)
    (by rintro L' o r ⟨v, own', ro', hpost, rfl, rfl, rfl⟩; exact (h v own' ro' hpost).2)
end
end Go.PW
namespace Go.PW
open Enc (enc val)
open Go
instance : Enc UInt8 := ⟨1, fun x => [.int .u8 x.toNat], fun x => .int .u8 x.toNat, false, fun _ => rfl, fun _ => .inr ⟨rfl, rfl⟩, fun x u hu => by rw [List.mem_singleton] at hu; subst hu; rfl⟩
instance : Enc UInt32 := ⟨1, fun x => [.int .u32 x.toNat], fun x => .int .u32 x.toNat, false, fun _ => rfl, fun _ => .inr ⟨rfl, rfl⟩, fun x u hu => by rw [List.mem_singleton] at hu; subst hu; rfl⟩
instance : Enc UInt64 := ⟨1, fun x => [.int .u64 x.toNat], fun x => .int .u64 x.toNat, false, fun _ => rfl, fun _ => .inr ⟨rfl, rfl⟩, fun x u hu => by rw [List.mem_singleton] at hu; subst hu; rfl⟩
instance : Enc Int := ⟨1, fun x => [.int .i64 x], fun x => .int .i64 x, false, fun _ => rfl, fun _ => .inr ⟨rfl, rfl⟩, fun x u hu => by rw [List.mem_singleton] at hu; subst hu; rfl⟩
instance : Enc Bool := ⟨1, fun x => [.bool x], fun x => .bool x, false, fun _ => rfl, fun _ => .inr ⟨rfl, rfl⟩, fun x u hu => by rw [List.mem_singleton] at hu; subst hu; rfl⟩
structure Arr (α : Type) (n : Nat) where
  l : List α
  h : l.length = n
  deriving DecidableEq
theorem Arr.ext {α n} {a b : Arr α n} (h : a.l = b.l) : a = b := by cases a; cases b; simp at h; subst h; rfl
instance {α n} [Enc α] : Enc (Arr α n) := ⟨n * Enc.n α, fun x => encs x.l, fun x => .agg ⟨encs x.l⟩, true, fun x => by rw [encs_length, x.h], fun _ => .inl ⟨rfl, rfl⟩, fun x => encs_one x.l⟩
def zarr {α : Type} {n : Nat} [OfNat α 0] : Arr α n := ⟨List.replicate n 0, by simp⟩
def Arr.set {α : Type} {n : Nat} (a : Arr α n) (k : Nat) (x : α) : Arr α n := ⟨a.l.set k x, by simp [a.h]⟩
theorem ndt {p : Prop} [Decidable p] (h : (!decide p) = true) : ¬p := by simpa using h
theorem ndf {p : Prop} [Decidable p] (h : (!decide p) = false) : p := by simpa using h
abbrev Key := Arr UInt8 32
structure SlH where
  a : Option Addr
  n : Nat
  c : Nat
  deriving DecidableEq
instance : Enc SlH := ⟨1, fun x => [.slice x.a x.n x.c], fun x => .slice x.a x.n x.c, false, fun _ => rfl, fun _ => .inr ⟨rfl, rfl⟩, fun x u hu => by rw [List.mem_singleton] at hu; subst hu; rfl⟩
end Go.PW
namespace Go.PW
open Enc (enc val)
open Go
section
variable {P : Program} {w : World}
theorem run_part {t o : Nat} {p : Pt} {pre post : List Value} (ht : Ty P t p.n p.ag) (ho : pre.length = o) : (part t ⟨pre ++ (p.c ++ post)⟩ o).run P w = .ok p.v w := by
  obtain ⟨n, c, v, ag, len, hv, one⟩ := p
  subst ho; subst len
  simp only [part, Sem.run_bind, run_isAgg' ht.ag, Result.andThen_ok]
  rcases hv with ⟨rfl, rfl⟩ | ⟨rfl, rfl⟩
  · simp only [if_true, Sem.run_bind, run_sizeOf' ht.sz, Result.andThen_ok, Sem.run_pure]
    congr 2
    apply Array.ext'
    simp [List.take_append]
  · simp
def EqT (P : Program) (t k : Nat) (α : Type) [Enc α] [DecidableEq α] : Prop := ∀ (d : Nat) (x y : α) (w : World), (Op.equalIn (d + k) t (val x) (val y)).run P w = .ok (decide (x = y)) w
theorem eqT_int {t} (h : P.underlying t = some (.int .i64)) : EqT P t 1 Int := fun d x y w => by
  show (Op.equalIn (d + 1) t (.int .i64 x) (.int .i64 y)).run P w = _
  rw [run_equalIn_int w d t .i64 .i64 _ _ h]
  rfl
inductive FEq (P : Program) (k : Nat) (α : Type) : Nat → List Field → List (α → Pt) → List (α → α → Bool) → Prop where
  | nil (o) : FEq P k α o [] [] []
  | cons {o n ag f p b fs ps bs} (h1 : f.name ≠ "_") (h2 : f.offset = o) (h3 : ∀ x, (p x).n = n) (h4 : ∀ x, (p x).ag = ag) (h5 : Ty P f.type n ag)
      (h6 : ∀ d x y w, (Op.equalIn (d + k) f.type (p x).v (p y).v).run P w = .ok (b x y) w) (h7 : FEq P k α (o + n) fs ps bs) : FEq P k α o (f :: fs) (p :: ps) (b :: bs)
theorem run_eqFields {α : Type} {k o : Nat} {fs ps bs} (h : FEq P k α o fs ps bs) : ∀ (d : Nat) (x y : α) (prex prey : List Value), prex.length = o → prey.length = o →
    (Op.eqFields (d + k) ⟨prex ++ cat (ps.map (· x))⟩ ⟨prey ++ cat (ps.map (· y))⟩ fs).run P w = .ok (bs.all fun b => b x y) w := by
  induction h with
  | nil o => intros; simp [Op.eqFields]
  | @cons o n ag f p b fs ps bs h1 h2 h3 h4 h5 h6 h7 ih =>
    intro d x y prex prey hx hy
    subst h2
    have e1 : (part f.type ⟨prex ++ cat ((p :: ps).map (· x))⟩ f.offset).run P w = .ok (p x).v w := by
      rw [List.map_cons, cat_cons]; exact run_part (p := p x) (by rw [h3, h4]; exact h5) hx
    have e2 : (part f.type ⟨prey ++ cat ((p :: ps).map (· y))⟩ f.offset).run P w = .ok (p y).v w := by
      rw [List.map_cons, cat_cons]; exact run_part (p := p y) (by rw [h3, h4]; exact h5) hy
    simp only [Op.eqFields, h1, ne_eq, not_false_eq_true, if_true, Sem.run_bind, e1, e2, h6 d, Result.andThen_ok, List.all_cons]
    cases hb : b x y
    · simp
    · simp only [Bool.not_true, Bool.false_eq_true, if_false, Bool.true_and]
      have := ih d x y (prex ++ (p x).c) (prey ++ (p y).c) (by simp [hx, (p x).len, h3]) (by simp [hy, (p y).len, h3])
      simp only [List.map_cons, cat_cons]
      simpa using this
theorem eqT_struct {α : Type} [Enc α] [DecidableEq α] {t k : Nat} {fs : Array Field} {ps : List (α → Pt)} {bs} (hu : P.underlying t = some (.struct fs)) (hp : P.stoodInHeld t = false) (hv : ∀ x, val x = .agg ⟨cat (ps.map (· x))⟩)
    (h : FEq P k α 0 fs.toList ps bs) (hb : ∀ x y : α, bs.all (fun b => b x y) = decide (x = y)) : EqT P t (k + 1) α := fun d x y w => by
  have hf : P.fieldsOf t = fs := by simp [Program.fieldsOf, hu]
  rw [hv, hv, ← hb]
  rw [show d + (k + 1) = (d + k) + 1 from rfl, run_equalIn_struct w (d + k) t _ _ (by rw [hf]; exact hu) hp, hf]
  exact run_eqFields h d x y [] [] rfl rfl
end
section
variable {cx : Cx} {md : Md} {ops : Array Oper} {Q : Exit → Act → World → Prop} {rest : List (Oper × Nat)} {kq : Nat} {base : Nat → Value} {L : List (Nat × Value)} {own ro : List Seg}
variable {q : Nat} {d : Nat} {ty : TypeId} {pos : String} {aft : Array Edge} {x y z : Operand} {xt yt : TypeId}
theorem eqA {α : Type} [Enc α] [DecidableEq α] {op : BinOp} {k : Nat} {xs ys : Array Value} (a b : α) (r : Bool) (hx : ev cx.n base L x = .agg xs) (hy : ev cx.n base L y = .agg ys) (ha : val a = .agg xs) (hb : val b = .agg ys) (he : EqT cx.P xt k α)
    (hk : Nat.ble k 10000 = true) (hg : cx.P.eqGuardType cx.P.depth xt = false)
    (hr : (match op with | .eql => some (decide (a = b)) | .neq => some !(decide (a = b)) | _ => none) = some r)
    (h : JG cx md ops Q rest base ((d, .bool r) :: L) own ro) : JG cx md ops Q ((⟨some d, .binOp op xt x y yt, ty, pos, aft, none⟩, q) :: rest) base L own ro :=
  qt (fun w _ => by
    have h1 : (Op.equalIn 10000 xt (.agg xs) (.agg ys)).run cx.P w = .ok (decide (a = b)) w := by
      have := he (10000 - k) a b w
      rw [show 10000 - k + k = 10000 from Nat.sub_add_cancel (Nat.ble_eq.mp hk), ha, hb] at this
      exact this
    cases op <;> dsimp only at hr <;> cases hr
    · simp only [execOp, hx, hy, Sem.run_bind, run_eqGuard_agg w _ _ _ _ _ _ hg, Result.andThen_ok, run_eql_struct, h1, Sem.run_pure]
    · simp only [execOp, hx, hy, Sem.run_bind, run_eqGuard_agg w _ _ _ _ _ _ hg, Result.andThen_ok, run_neq_struct, h1, Sem.run_pure]) h
theorem fold_put (o : Nat) : ∀ (vs : List Value) (k : Nat) (l : List Value), o + k + vs.length ≤ l.length →
    (vs.zipIdx k).foldl (fun (cs : Array Value) (p : Value × Nat) => cs.setIfInBounds (o + p.2) p.1) ⟨l⟩ = ⟨l.take (o + k) ++ (vs ++ l.drop (o + k + vs.length))⟩
  | [], k, l, _ => by simp
  | v :: vs, k, l, h => by
    simp only [List.length_cons] at h
    simp only [List.zipIdx_cons, List.foldl_cons, List.setIfInBounds_toArray]
    rw [fold_put o vs (k + 1) (l.set (o + k) v) (by simp; omega)]
    congr 1
    have e1 : (l.set (o + k) v).take (o + (k + 1)) = l.take (o + k) ++ [v] := by
      rw [show o + (k + 1) = (o + k) + 1 by omega, List.take_succ_eq_append_getElem (by simp; omega)]
      simp [List.take_set_of_le]
    have e2 : (l.set (o + k) v).drop (o + (k + 1) + vs.length) = l.drop (o + k + (vs.length + 1)) := by
      rw [List.drop_set_of_lt (by omega)]
      congr 1; omega
    rw [e1, e2]; simp
theorem Pt.cells (p : Pt) : p.v.cells = ⟨p.c⟩ := by
  obtain ⟨n, c, v, ag, len, hv, one⟩ := p
  rcases hv with ⟨_, rfl⟩ | ⟨_, h2⟩
  · rfl
  · subst h2
    have h1 := one v (by simp)
    cases v <;> simp_all [Value.cells, Value.oneCell']
theorem fill_cons {place : Nat → Option (Nat × Nat)} {i o n : Nat} {p : Pt} {pre old post : List Value} {r : List (Nat × Value)} (hp : place i = some (o, n)) (hn : p.n = n) (ho : pre.length = o) (hol : old.length = n) :
    Instr.fill place ⟨pre ++ (old ++ post)⟩ ((i, p.v) :: r) = Instr.fill place ⟨pre ++ (p.c ++ post)⟩ r := by
  subst ho; subst hol
  have hs : p.v.cells.size = old.length := by rw [Pt.cells]; simp [p.len, hn]
  simp only [Instr.fill, hp, hs]
  rw [if_neg (by simp)]
  congr 1
  rw [Pt.cells, ← Array.foldl_toList]
  have := fold_put pre.length p.c 0 (pre ++ (old ++ post)) (by simp [p.len, hn])
  simp only [Nat.add_zero] at this
  simp only [Array.toList_zipIdx]
  rw [this]
  have hpn : p.c.length = old.length := p.len.trans hn
  simp [List.take_append, List.drop_append, hpn, List.drop_eq_nil_of_le]
def fillP (ps : List Pt) : List (Nat × Pt) → List Pt
  | [] => ps
  | (i, p) :: r => fillP (ps.set i p) r
def plc (ps : List Pt) (i : Nat) : Option (Nat × Nat) := (ps[i]?).map fun p => (psum ps i, p.n)
theorem fill_all {place : Nat → Option (Nat × Nat)} : ∀ (qs : List (Nat × Pt)) (ps : List Pt), (∀ i, place i = plc ps i) → (∀ x ∈ qs, (ps[x.1]?).map (·.n) = some x.2.n) →
    Instr.fill place ⟨cat ps⟩ (qs.map fun x => (x.1, x.2.v)) = some ⟨cat (fillP ps qs)⟩
  | [], ps, _, _ => rfl
  | (i, p) :: qs, ps, hpl, hq => by
    have h1 := hq (i, p) (by simp)
    cases hi : ps[i]? with
    | none => simp [hi] at h1
    | some p0 =>
      simp [hi] at h1
      obtain ⟨pre, post, e1, e2, e3⟩ := cat_split hi
      rw [List.map_cons, e1, fill_cons (o := psum ps i) (n := p0.n) (by rw [hpl]; simp [plc, hi]) h1.symm e2 p0.len, ← e3 p]
      have hn : (ps.set i p).map (·.n) = ps.map (·.n) := by
        apply List.ext_getElem?
        intro j
        simp only [List.getElem?_map, List.getElem?_set]
        split
        · rename_i h; subst h
          split
          · simp [hi, h1]
          · rename_i h2; rw [List.getElem?_eq_none (by omega)] at hi; cases hi
        · rfl
      have hps : ∀ (a b : List Pt), a.map (·.n) = b.map (·.n) → ∀ j, psum a j = psum b j := by
        intro a
        induction a with
        | nil => intro b hb j; cases b <;> simp_all
        | cons x a ih =>
          intro b hb j
          cases b with
          | nil => simp at hb
          | cons y b =>
            simp at hb
            cases j with
            | zero => rfl
            | succ j => simp [psum, hb.1, ih b hb.2 j]
      refine fill_all qs (ps.set i p) (fun j => ?_) (fun x hx => ?_)
      · rw [hpl]
        unfold plc
        have h3 := congrArg (·[j]?) hn
        simp only [List.getElem?_map] at h3
        rw [hps _ _ hn]
        cases ha : ps[j]? <;> cases hb : (ps.set i p)[j]? <;> simp_all
      · have h3 := congrArg (·[x.1]?) hn
        simp only [List.getElem?_map] at h3
        rw [h3]; exact hq x (by simp [hx])
def Lay (P : Program) (fs : Array Field) (l : List (Nat × Nat)) : Prop := (fs.toList.mapM fun f => (P.info? f.type).map fun i => (f.offset, i.size)) = some l
theorem run_lay {P : Program} {w : World} {fs : Array Field} {l : List (Nat × Nat)} (h : Lay P fs l) : (fs.mapM fun f => do pure (f.offset, ← sizeOf f.type) : Sem (Array (Nat × Nat))).run P w = .ok ⟨l⟩ w := by
  obtain ⟨fs⟩ := fs
  unfold Lay at h
  simp only [List.mapM_toArray, Sem.run_map] at h ⊢
  have : (List.mapM (fun f => do pure (f.offset, ← sizeOf f.type)) fs : Sem (List (Nat × Nat))).run P w = .ok l w := by
    induction fs generalizing l with
    | nil => simp at h; subst h; rfl
    | cons f r ih =>
      rw [List.mapM_cons] at h ⊢
      simp only [bind, Option.bind_eq_some_iff, pure, Option.some.injEq] at h
      obtain ⟨a, ha, l', hl', rfl⟩ := h
      have ha' : (P.info? f.type).map (·.size) = some a.2 ∧ a.1 = f.offset := by
        cases hq : P.info? f.type with
        | none => simp [hq] at ha
        | some i => simp [hq] at ha; subst ha; simp
      have e1 := run_sizeOf' (P := P) (w := w) ha'.1
      have e2 := ih hl'
      simp only [Sem.run_bind, e1, Result.andThen_ok, Sem.run_pure, e2, ← ha'.2]
  rw [this]; rfl
def plcs : List Pt → Nat → List (Nat × Nat)
  | [], _ => []
  | p :: r, o => (o, p.n) :: plcs r (o + p.n)
theorem plcs_get (ps : List Pt) : ∀ (o i : Nat), (plcs ps o)[i]? = (ps[i]?).map fun p => (o + psum ps i, p.n) := by
  induction ps with
  | nil => intro o i; simp [plcs]
  | cons p r ih =>
    intro o i
    cases i with
    | zero => simp [plcs, psum]
    | succ i =>
      simp only [plcs, List.getElem?_cons_succ, ih, psum]
      congr 1; funext q; simp; omega
theorem bld {t : Nat} {fs : Array Field} {parts : Array (Nat × Operand)} (ps : List Pt) (qs : List (Nat × Pt)) (v0 : Value) (hu : cx.P.underlying t = some (.struct fs)) (hl : Lay cx.P fs (plcs ps 0)) (hz : Zt cx.P t v0) (hv : v0.cells = ⟨cat ps⟩)
    (hq : qs.map (fun x => some x.2.n) = qs.map (fun x => (ps[x.1]?).map (·.n))) (hx : parts.toList.map (fun a => (a.1, ev cx.n base L a.2)) = qs.map fun x => (x.1, x.2.v))
    (h : JG cx md ops Q rest base ((d, .agg ⟨cat (fillP ps qs)⟩) :: L) own ro) : JG cx md ops Q ((⟨some d, .build t parts, ty, pos, aft, none⟩, q) :: rest) base L own ro :=
  qt (fun w _ => by
    have hf := fill_all (place := fun i => (⟨plcs ps 0⟩ : Array (Nat × Nat))[i]?) qs ps (fun i => by simp [plcs_get, plc]) (fun x hx => by
      obtain ⟨i, hi, e⟩ := List.getElem_of_mem hx
      have h3 := congrArg (·[i]?) hq
      simp only [List.getElem?_map, List.getElem?_eq_getElem hi, Option.map_some, Option.some.injEq, e] at h3
      exact h3.symm)
    have hp2 : (parts.map fun a => (a.1, ev cx.n base L a.2)).toList = qs.map fun x => (x.1, x.2.v) := by simpa using hx
    have hrl := run_lay (w := w) hl
    simp only [execOp, Instr.build, Sem.run_bind, run_zero' hz, Result.andThen_ok, run_underlying hu, hrl, hv, hp2, hf, Sem.run_pure]) h
end
end Go.PW
namespace Go.PW
open Enc (enc val)
open Go
def BornOk (es : List MapEntry) (clock : Nat) : Prop := (es.map (·.born)).Nodup ∧ ∀ e ∈ es, e.born < clock
theorem BornOk.push {es : List MapEntry} {clock : Nat} (h : BornOk es clock) (k v : Value) : BornOk (es ++ [⟨k, v, clock⟩]) (clock + 1) := by
  constructor
  · rw [List.map_append, List.nodup_append]
    refine ⟨h.1, by simp, fun a ha b hb e => ?_⟩
    simp only [List.map_cons, List.map_nil, List.mem_singleton] at hb
    obtain ⟨x, hx, rfl⟩ := List.mem_map.1 ha
    have := h.2 x hx
    omega
  · intro e he
    rcases List.mem_append.1 he with h1 | h1
    · exact Nat.lt_succ_of_lt (h.2 e h1)
    · rw [List.mem_singleton] at h1; subst h1; exact Nat.lt_succ_self _
def isMap {α β : Type} [Enc α] [Enc β] (kv : List (α × β)) (o : Obj) : Prop := ∃ es clock, o = .map ⟨es⟩ clock ∧ es.map (fun e => (e.key, e.val)) = (kv.map fun p => (val p.1, val p.2)) ∧ BornOk es clock
def fnd {α β : Type} [DecidableEq α] (k : α) : List (α × β) → Nat → Option (Nat × β)
  | [], _ => none
  | p :: r, i => if k = p.1 then some (i, p.2) else fnd k r (i + 1)
def mget {α β : Type} [DecidableEq α] (k : α) (kv : List (α × β)) : Option β := (fnd k kv 0).map (·.2)
section
variable {P : Program}
structure KeyT (P : Program) (t : Nat) (α : Type) [Enc α] [DecidableEq α] : Prop where
  chk : ∀ (e : Bool) (x : α) (w : World), (Instr.checkKey e 10000 t (val x)).run P w = .ok () w
  fnd : ∀ (x : α) (es : List MapEntry) (ks : List α) (w : World), es.map (·.key) = ks.map val → (Instr.findKey t (val x) es).run P w = .ok ((fnd x (ks.zip (es.map (·.val))) 0)) w
def ChkT (P : Program) (t k : Nat) (α : Type) [Enc α] : Prop := ∀ (d : Nat) (e : Bool) (x : α) (w : World), (Instr.checkKey e (d + k) t (val x)).run P w = .ok () w
def scalarD : TypeDesc → Bool
  | .interface _ | .array _ _ | .struct _ => false
  | _ => true
theorem chkT_scalar {α : Type} [Enc α] {t : Nat} {ds : TypeDesc} (hu : P.underlying t = some ds) (hd : scalarD ds = true) : ChkT P t 1 α := fun d e x w => by
  simp only [Instr.checkKey, Sem.run_bind, run_underlying hu, Result.andThen_ok]
  cases ds <;> simp [scalarD] at hd <;> rfl
end
theorem map_run {α β : Type} [Enc α] [Enc β] [DecidableEq α] {P : Program} {w : World} {K : Nat} (hk : KeyT P K α) {kv : List (α × β)} {es : List MapEntry} (he : es.map (fun e => (e.key, e.val)) = kv.map fun p => (val p.1, val p.2)) (x : α) :
    (Instr.findKey K (val x) es).run P w = .ok ((fnd x kv 0).map fun r => (r.1, val r.2)) w := by
  have h1 : es.map (·.key) = (kv.map (·.1)).map val := by
    have := congrArg (List.map (·.1)) he
    simpa [List.map_map, Function.comp_def] using this
  have h2 : es.map (·.val) = kv.map fun p => val p.2 := by
    have := congrArg (List.map (·.2)) he
    simpa [List.map_map, Function.comp_def] using this
  rw [hk.fnd x es _ w h1, h2]
  congr 1
  have : ∀ (kv : List (α × β)) (i : Nat), fnd x ((kv.map (·.1)).zip (kv.map fun p => val p.2)) i = (fnd x kv i).map fun r => (r.1, val r.2) := by
    intro kv
    induction kv with
    | nil => intro i; rfl
    | cons p r ih =>
      intro i
      simp only [List.map_cons, List.zip_cons_cons, fnd]
      split <;> simp [ih]
  exact this kv 0
section
variable {cx : Cx} {md : Md} {ops : Array Oper} {Q : Exit → Act → World → Prop} {rest : List (Oper × Nat)} {kq : Nat} {base : Nat → Value} {L : List (Nat × Value)} {own ro : List Seg}
variable {q : Nat} {d : Nat} {ty : TypeId} {pos : String} {aft : Array Edge} {x y z : Operand} {xt yt : TypeId}
theorem run_getMap {P : Program} {w : World} {b : Nat} {o : Obj} (h : w.heap[b]? = some o) (hc : isCells o = false) : (getObj b).run P w = .ok o w := by
  cases o <;> simp [isCells] at hc <;> simp [getObj, Sem.run, h]
theorem mkm {α β : Type} [Enc α] [Enc β] (h : ∀ bk, Keep md kq rest (own ++ [[(bk, .pred (isMap ([] : List (α × β))))]]) ro ∧ JG cx md ops Q rest base ((d, .map (some bk)) :: L) (own ++ [[(bk, .pred (isMap ([] : List (α × β))))]]) ro) :
    JG cx md ops Q ((⟨some d, .makeMap xt none, ty, pos, aft, none⟩, kq + 1) :: rest) base L own ro :=
  nq (Post := fun L' own' ro' => ∃ bk, L' = (d, .map (some bk)) :: L ∧ own' = own ++ [[(bk, .pred (isMap ([] : List (α × β))))]] ∧ ro' = ro) rfl
    (fun w K hw hK => by
      unfold Oper.wp
      rw [A_eval_fun]
      simp only [execOp, Option.map_none, Instr.makeMap, Sem.run_bind, Result.andThen_ok, newObj, Sem.run, Sem.run_pure, Oper.upon]
      show K ((A cx.n base L).put (some d) _) _
      rw [A_put]
      exact hK _ _ _ _ ⟨w.heap.size, rfl, rfl, rfl⟩ (hw.alloc _ _ ⟨⟨[], 0, rfl, rfl, by simp [BornOk]⟩, rfl⟩))
    (by rintro L' own' ro' ⟨bk, rfl, rfl, rfl⟩; exact (h bk).1)
    (by rintro L' own' ro' ⟨bk, rfl, rfl, rfl⟩; exact (h bk).2)
theorem lk2 {α β : Type} [Enc α] [Enc β] [DecidableEq α] {K E bk : Nat} {kx : Value} (j : Nat) (kv : List (α × β)) (k : α) (z : β) (hx : ev cx.n base L x = .map (some bk)) (hy : ev cx.n base L y = kx) (hkx : kx = val k) (hu : cx.P.underlying xt = some (.map K E))
    (hk : KeyT cx.P K α) (hz : Zt cx.P E (val z)) (hs : (Src md q own ro)[j]? = some [(bk, .pred (isMap kv))])
    (h : JG cx md ops Q rest base ((d, .tuple #[val ((mget k kv).getD z), .bool (mget k kv).isSome]) :: L) own ro) : JG cx md ops Q ((⟨some d, .lookup xt x y true, ty, pos, aft, none⟩, q) :: rest) base L own ro :=
  qt (fun w hw => by
    subst hkx
    obtain ⟨o, ho, ⟨es, clock, rfl, he, hbn⟩, hc⟩ := hw _ (List.mem_of_getElem? hs) _ (List.mem_singleton.2 rfl)
    simp only [execOp, hx, hy, Instr.lookup, Sem.run_bind, run_underlying hu, Result.andThen_ok, run_getMap ho hc, Sem.run_pure, hk.chk, map_run hk he]
    cases hf : fnd k kv 0 with
    | none => simp [mget, hf, run_zero' hz]
    | some r => simp [mget, hf]) h
theorem run_setMap {P : Program} {w : World} {b : Nat} {o o' : Obj} (h : w.heap[b]? = some o) (hc : isCells o = false) : (setObj b o').run P w = .ok () { w with heap := w.heap.setIfInBounds b o' } := by
  cases o <;> simp [isCells] at hc <;> simp [setObj, Sem.run, h]
theorem In.turnObj {z : Zt0} {own ro w} (h : In z own ro w) {i b k k'} {o' : Obj} (hi : own[i]? = some [(b, k)]) (hk : k'.ok o') : In z (own.set i [(b, k')]) ro { w with heap := w.heap.setIfInBounds b o' } := by
  have hlt : b < w.heap.size := (h.has.o _ (List.mem_of_getElem? hi)).lt (List.mem_singleton.2 rfl)
  refine h.turn hi (o' := o') (by simp [hlt]) hk (fun c hc => by simp [Array.getElem?_setIfInBounds_ne (Ne.symm hc)]) (by simp) rfl rfl rfl
end
end Go.PW
namespace Go.PW
open Enc (enc val)
open Go
structure Ow where
  nl : Bool
  b : Nat
  cap : Nat
  sp : List Value
def Ow.adr (s : Ow) : Option Addr := if s.nl then none else some ⟨s.b, 0, none⟩
abbrev Ow.v (s : Ow) (n : Nat) : Value := .slice s.adr n s.cap
def Ow.seg {α : Type} [Enc α] (s : Ow) (xs : List α) (E : Nat) : Seg := if s.nl then [] else [(s.b, .cells (encs xs ++ s.sp) E)]
structure Ow.ok {α : Type} [Enc α] (s : Ow) (xs : List α) : Prop where
  nl : s.nl = true → xs = [] ∧ s.cap = 0
  len : s.nl = false → xs.length * Enc.n α + s.sp.length = s.cap * Enc.n α
  le : xs.length ≤ s.cap
def Ow.nil : Ow := ⟨true, 0, 0, []⟩
theorem Ow.nil_ok {α : Type} [Enc α] : Ow.nil.ok ([] : List α) := ⟨fun _ => ⟨rfl, rfl⟩, fun h => by simp [Ow.nil] at h, Nat.le_refl _⟩
def Ow.vs (s : Ow) : Vs := ⟨s.nl, s.b, 0, s.cap, none⟩
theorem Ow.vs_ok {α : Type} [Enc α] {s : Ow} {xs : List α} (h : s.ok xs) : s.vs.ok xs := ⟨fun e => (h.nl e).1, h.le⟩
theorem Ow.ne {α : Type} [Enc α] {s : Ow} {xs : List α} (h : s.ok xs) {i : Nat} (hi : i < xs.length) : s.nl = false := by
  cases hb : s.nl with
  | false => rfl
  | true => have := (h.nl hb).1; subst this; simp at hi
section
variable {z : Zt0} {own ro : List Seg} {w : World}
theorem In.dropAdd (h : In z own ro w) {j : Nat} {s s' : Seg} (hs : own[j]? = some s) {w' : World} (hs' : SegIn w' s') (hk : ∀ b, b < w.heap.size → b ∉ s.map (·.1) → w'.heap[b]? = w.heap[b]?) (hsz : w.heap.size ≤ w'.heap.size)
    (hos : w'.os = w.os) (htp : w'.tape = w.tape) (hout : w'.output = w.output) (hnd : (s'.map (·.1)).Nodup) (hb : ∀ b ∈ s'.map (·.1), b ∈ s.map (·.1) ∨ w.heap.size ≤ b) : In z (own.set j s') ro w' := by
  obtain ⟨hlt, he⟩ := List.getElem?_eq_some_iff.1 hs
  have h1 : own = own.take j ++ s :: own.drop (j + 1) := by
    rw [← he, List.getElem_cons_drop, List.take_append_drop]
  have h2 : own.set j s' = own.take j ++ s' :: own.drop (j + 1) := by
    rw [List.set_eq_take_append_cons_drop, if_pos hlt]
  have hb1 : blks own = blks (own.take j) ++ (s.map (·.1) ++ blks (own.drop (j + 1))) := by
    conv => lhs; rw [h1]
    simp [blks]
  have hb2 : blks (own.set j s') = blks (own.take j) ++ (s'.map (·.1) ++ blks (own.drop (j + 1))) := by
    rw [h2]; simp [blks]
  have hnd1 := h.has.nd
  rw [hb1] at hnd1
  have hd := List.nodup_append.1 hnd1
  have hd2 := List.nodup_append.1 hd.2.1
  have lt : ∀ b, b ∈ blks own → b < w.heap.size := fun b hb => h.has.lt (.inl hb)
  have mo : ∀ b, b ∈ blks (own.take j) ∨ b ∈ s.map (·.1) ∨ b ∈ blks (own.drop (j + 1)) → b ∈ blks own := fun b hb => by
    rw [hb1]; rcases hb with h | h | h <;> simp [h]
  have other : ∀ t, t ∈ own.take j ∨ t ∈ own.drop (j + 1) → SegIn w' t := by
    intro t ht
    have hto : t ∈ own := by rcases ht with h | h; exact List.mem_of_mem_take h; exact List.mem_of_mem_drop h
    refine (h.has.o t hto).keep fun p hp => hk _ ((h.has.o t hto).lt hp) fun hm => ?_
    rcases ht with h3 | h3
    · exact hd.2.2 p.1 (mem_blks.2 ⟨t, h3, p, hp, rfl⟩) p.1 (List.mem_append.2 (.inl hm)) rfl
    · exact hd2.2.2 p.1 hm p.1 (mem_blks.2 ⟨t, h3, p, hp, rfl⟩) rfl
  refine ⟨⟨?_, ?_, ?_, ?_⟩, ?_, ?_, h.rf⟩
  · intro t ht
    rw [h2] at ht
    rcases List.mem_append.1 ht with h3 | h3
    · exact other t (.inl h3)
    · rcases List.mem_cons.1 h3 with rfl | h3
      · exact hs'
      · exact other t (.inr h3)
  · intro t ht
    refine (h.has.r t ht).keep fun p hp => hk _ ((h.has.r t ht).lt hp) fun hm => ?_
    exact h.has.dj p.1 (mo _ (.inr (.inl hm))) (mem_blks.2 ⟨t, ht, p, hp, rfl⟩)
  · rw [hb2, List.nodup_append, List.nodup_append]
    refine ⟨hd.1, ⟨hnd, hd2.2.1, ?_⟩, ?_⟩
    · intro a ha c hc e; subst e
      rcases hb a ha with h3 | h3
      · exact hd2.2.2 a h3 a hc rfl
      · exact Nat.lt_irrefl _ (Nat.lt_of_lt_of_le (lt a (mo a (.inr (.inr hc)))) h3)
    · intro a ha c hc e; subst e
      rcases List.mem_append.1 hc with h4 | h4
      · rcases hb a h4 with h3 | h3
        · exact hd.2.2 a ha a (List.mem_append.2 (.inl h3)) rfl
        · exact Nat.lt_irrefl _ (Nat.lt_of_lt_of_le (lt a (mo a (.inl ha))) h3)
      · exact hd.2.2 a ha a (List.mem_append.2 (.inr h4)) rfl
  · intro b hbo hbr
    rw [hb2] at hbo
    rcases List.mem_append.1 hbo with h3 | h3
    · exact h.has.dj b (mo b (.inl h3)) hbr
    · rcases List.mem_append.1 h3 with h4 | h4
      · rcases hb b h4 with h5 | h5
        · exact h.has.dj b (mo b (.inr (.inl h5))) hbr
        · exact Nat.lt_irrefl _ (Nat.lt_of_lt_of_le (h.has.lt (.inr hbr)) h5)
      · exact h.has.dj b (mo b (.inr (.inr h4))) hbr
  · refine ⟨hos.trans h.ext.os, htp.trans h.ext.tape, hout.trans h.ext.output, Nat.le_trans h.ext.size hsz, fun b hb1 hb2 => ?_⟩
    refine (hk b (Nat.lt_of_lt_of_le hb1 h.ext.size) fun hm => ?_).trans (h.ext.blk b hb1 hb2)
    rcases h.fr b (mo b (.inr (.inl hm))) with h3 | h3
    · exact hb2 h3
    · omega
  · intro b hbo
    rw [hb2] at hbo
    rcases List.mem_append.1 hbo with h3 | h3
    · exact h.fr b (mo b (.inl h3))
    · rcases List.mem_append.1 h3 with h4 | h4
      · rcases hb b h4 with h5 | h5
        · exact h.fr b (mo b (.inr (.inl h5)))
        · exact .inr (Nat.le_trans h.ext.size h5)
      · exact h.fr b (mo b (.inr (.inr h4)))
end
section
variable {P : Program} {w : World}
theorem run_firstCells {b o m n : Nat} {c : List Value} {cp : Nat} (h : cellsAt w b o c) (hl : c.length = m * n) : (Builtin.firstCells n m (.slice (some ⟨b, o, none⟩) m cp)).run P w = .ok ⟨c⟩ w := by
  have : (loadCells ⟨b, o, none⟩ c.length).run P w = .ok c.toArray w :=
    run_loadCells_list (P := P) w ⟨b, o, none⟩ c (fun j v hv => by rw [add_none]; exact h j v hv)
  simp only [Builtin.firstCells, ← hl, this]
def Gives {α : Type} [Enc α] (P : Program) (S : List Seg) (v : Value) (ys : List α) : Prop :=
  ∀ w, AllIn S w → (Builtin.lenOf v).run P w = .ok ys.length w ∧ (Builtin.firstCells (Enc.n α) ys.length v).run P w = .ok ⟨encs ys⟩ w
theorem gives_own {α : Type} [Enc α] {S : List Seg} {b o cp E : Nat} {c pre post : List Value} {ys : List α} (j : Nat) (hs : S[j]? = some [(b, .cells c E)]) (hc : c = pre ++ (encs ys ++ post)) (ho : pre.length = o) : Gives P S (.slice (some ⟨b, o, none⟩) ys.length cp) ys := fun w hw =>
  ⟨rfl, run_firstCells (cellsAt_cells (hw _ (List.mem_of_getElem? hs)) (List.mem_singleton.2 rfl) hc ho) (encs_length ys)⟩
theorem nextcap_le (need old bytes : Nat) (h1 : old < need) (h2 : need * bytes ≤ 140737488355328) : Builtin.nextslicecap need old * bytes ≤ 281474976710656 := by
  have key : Builtin.nextslicecap need old ≤ 2 * need := by
    unfold Builtin.nextslicecap
    split
    · omega
    · split
      · omega
      · have : ∀ r c, c ≤ need ∨ c ≤ 2 * need → 256 ≤ need → Builtin.growBy need r c ≤ 2 * need := by
          intro r
          induction r with
          | zero => intro c hc _; simp only [Builtin.growBy]; omega
          | succ r ih =>
            intro c hc hn
            simp only [Builtin.growBy]
            split
            · omega
            · exact ih _ (.inr (by omega)) hn
        exact this 4 old (.inl (by omega)) (by omega)
  calc Builtin.nextslicecap need old * bytes ≤ 2 * need * bytes := Nat.mul_le_mul_right _ key
    _ = 2 * (need * bytes) := by rw [Nat.mul_assoc]
    _ ≤ 281474976710656 := by omega
theorem zeroCells_length (z : Array Value) (n : Nat) : (Builtin.zeroCells z n).toList.length = n * z.size := by simp [Builtin.zeroCells]
end
section
variable {cx : Cx} {md : Md} {ops : Array Oper} {Q : Exit → Act → World → Prop} {rest : List (Oper × Nat)} {kq : Nat} {base : Nat → Value} {L : List (Nat × Value)} {own ro : List Seg}
variable {q : Nat} {d : Nat} {ty : TypeId} {pos : String} {aft : Array Edge} {x y z : Operand} {xt yt : TypeId}
theorem ldso {α : Type} [Enc α] {t bk o E : Nat} {s : Ow} {xs : List α} (j i : Nat) (hok : s.ok xs) (hx : ev cx.n base L x = .pointer (some ⟨bk, o, none⟩)) (hs : (Src md q own ro)[j]? = some (s.seg xs E))
    (hb : bk = s.b) (ho : o = 0 + i * Enc.n α) (hi : i < xs.length) (ht : Ty cx.P t (Enc.n α) (Enc.ag α))
    (h : JG cx md ops Q rest base ((d, val xs[i]) :: L) own ro) : JG cx md ops Q ((⟨some d, .load t x, ty, pos, aft, none⟩, q) :: rest) base L own ro := by
  subst hb
  exact ldo (E := E) (sp := s.sp) j i hx (by rw [hs]; simp [Ow.seg, Ow.ne hok hi]) ho hi ht h
theorem ldsof {α : Type} [Enc α] [Flds α] {t bk o E n : Nat} {c : List Value} {v : Value} {ag : Bool} {l1 l2 l3} {s : Ow} {xs : List α} (j i f : Nat) (hok : s.ok xs) (hx : ev cx.n base L x = .pointer (some ⟨bk, o, none⟩)) (hs : (Src md q own ro)[j]? = some (s.seg xs E))
    (hb : bk = s.b) (hi : i < xs.length) (hp : (Flds.parts xs[i])[f]? = some ⟨n, c, v, ag, l1, l2, l3⟩) (ho : o = 0 + i * Enc.n α + psum (Flds.parts xs[i]) f) (ht : Ty cx.P t n ag)
    (h : JG cx md ops Q rest base ((d, v) :: L) own ro) : JG cx md ops Q ((⟨some d, .load t x, ty, pos, aft, none⟩, q) :: rest) base L own ro := by
  subst hb
  exact ldof (E := E) (sp := s.sp) j i f hx (by rw [hs]; simp [Ow.seg, Ow.ne hok hi]) hi hp ho ht h
theorem run_askRoom {P : Program} {w : World} (n : Nat) : (askRoom n).run P w = .ok () w := by
  unfold askRoom; split <;> rfl
theorem run_append_fits {P : Program} {w : World} {E m l c n : Nat} {S T ty : Nat} {base : Option Addr} {yv : Value} {dT : TypeDesc} {ysc : List Value} (hu : P.underlying S = some (.slice E)) (hT : P.underlying T = some dT) (hT2 : (∃ e, dT = .slice e) ∨ dT = .string)
    (hsz : (P.info? E).map (·.size) = some n) (hlen : (Builtin.lenOf yv).run P w = .ok m w) (hfirst : (Builtin.firstCells n m yv).run P w = .ok ⟨ysc⟩ w) (h : l + m ≤ c) :
    (Builtin.append_ #[S, T] ty #[.slice base l c, yv]).run P w = (((match base with | some a => storeCells (a.add (l * n)) ysc | none => pure ()) : Sem Unit).run P w).andThen fun _ w' => .ok (.slice base (l + m) c) w' := by
  rcases hT2 with ⟨e, rfl⟩ | rfl
  all_goals
    unfold Builtin.append_
    simp only [List.getElem?_toArray, List.getElem?_cons_zero, List.getElem?_cons_succ, Sem.run_bind, run_underlying hu, Result.andThen_ok, run_sizeOf' hsz, run_underlying hT, Sem.run_pure, hlen, Bool.false_eq_true, if_false, h, if_true, Bool.not_false, hfirst]
    cases base
    · rfl
    · simp only [Sem.run_bind, Sem.run_pure]
theorem run_append_grows {P : Program} {w : World} {E m l c n bytes : Nat} {S T ty : Nat} {base : Option Addr} {yv zv : Value} {dT : TypeDesc} {xsc ysc : List Value} (hu : P.underlying S = some (.slice E)) (hT : P.underlying T = some dT) (hT2 : (∃ e, dT = .slice e) ∨ dT = .string)
    (hsz : (P.info? E).map (·.size) = some n) (hby : (P.info? E).map (·.bytes) = some bytes) (hz : Zt P E zv) (hlen : (Builtin.lenOf yv).run P w = .ok m w) (hfirst : ∀ w', w'.heap = w.heap → (Builtin.firstCells n m yv).run P w' = .ok ⟨ysc⟩ w')
    (hold : ∀ w', w'.heap = w.heap → (Builtin.firstCells n l (.slice base l c)).run P w' = .ok ⟨xsc⟩ w') (h : ¬ l + m ≤ c) (hroom : (l + m) * bytes ≤ 140737488355328) (hbytes : 0 < bytes) :
    ∃ k, l + m ≤ k ∧ (Builtin.append_ #[S, T] ty #[.slice base l c, yv]).run P w = .ok (.slice (some ⟨w.heap.size, 0, none⟩) (l + m) k) { w with heap := w.heap.push (.cells ⟨xsc ++ ysc ++ (Builtin.zeroCells zv.cells (k - (l + m))).toList⟩ E), drawn := w.drawn + 1 } := by
  have hinf : ∀ w', (typeInfo E).run P w' = .ok ((P.info? E).getD default) w' := fun w' => by
    cases hq : P.info? E with
    | none => simp [hq] at hsz
    | some i => simp [typeInfo, hq]
  have hb2 : ((P.info? E).getD default).bytes = bytes := by
    cases hq : P.info? E with
    | none => simp [hq] at hsz
    | some i => simpa [hq] using hby
  have hc := nextcap_le (l + m) c bytes (by omega) hroom
  have hnb : ¬ bytes = 0 := by omega
  let t := w.tape w.drawn (.appendCap (l + m) c E)
  refine ⟨(l + m) + t % (2 ^ 63 - (l + m)), by omega, ?_⟩
  rcases hT2 with ⟨e, rfl⟩ | rfl
  all_goals
    unfold Builtin.append_
    simp only [List.getElem?_toArray, List.getElem?_cons_zero, List.getElem?_cons_succ, Sem.run_bind, run_underlying hu, Result.andThen_ok, run_sizeOf' hsz, run_underlying hT, Sem.run_pure, hlen, Bool.false_eq_true, if_false, h, if_true, Bool.not_false, hinf, hb2]
    rw [if_neg (by simp [hnb])]
    simp only [Sem.run_bind, hinf, Result.andThen_ok, hb2]
    rw [if_neg (by omega)]
    simp only [Sem.run_bind, choose, Sem.run, Question.forced, Bool.false_eq_true, if_false, Question.cut, Result.andThen_ok, hinf, hb2, run_askRoom]
    rw [hold { w with drawn := w.drawn + 1 } rfl]
    simp only [Result.andThen_ok]
    rw [hfirst { w with drawn := w.drawn + 1 } rfl]
    have e : ∀ Z : Array Value, (⟨xsc⟩ : Array Value) ++ ⟨ysc⟩ ++ Z = ⟨xsc ++ ysc ++ Z.toList⟩ := fun Z => by apply Array.ext'; simp
    simp only [Result.andThen_ok, run_zero' hz, newRow, newObj, Sem.run_bind, Sem.run, Sem.run_pure, e]
    rfl
theorem allIn_heap {S : List Seg} {w w' : World} (h : AllIn S w) (e : w'.heap = w.heap) : AllIn S w' := fun s hs p hp => by
  obtain ⟨o, ho, hk⟩ := h s hs p hp
  exact ⟨o, by rw [e]; exact ho, hk⟩
theorem set_self {β : Type} {l : List β} {j : Nat} {s : β} (h : l[j]? = some s) : l.set j s = l := by
  apply List.ext_getElem?; intro i
  rw [List.getElem?_set]; split
  · rename_i e; subst e
    rw [if_pos (List.getElem?_eq_some_iff.1 h).1]; exact h.symm
  · rfl
theorem app_core {α : Type} [Enc α] {w : World} {P : Program} {zt : Zt0} {E bytes : Nat} {S T ty : Nat} {o : Ow} {xs ys : List α} {yv zv : Value} {j : Nat} {dT : TypeDesc} (hw : In zt own ro w) (hs : own[j]? = some (o.seg xs E)) (hok : o.ok xs) (hg : Gives P (own ++ ro) yv ys)
    (hu : P.underlying S = some (.slice E)) (hT : P.underlying T = some dT) (hT2 : (∃ e, dT = .slice e) ∨ dT = .string) (hsz : (P.info? E).map (·.size) = some (Enc.n α)) (hby : (P.info? E).map (·.bytes) = some bytes) (hz : Zt P E zv) (hzc : zv.cells.size = Enc.n α)
    (hroom : (xs.length + ys.length) * bytes ≤ 140737488355328) (hbytes : 0 < bytes) :
    ∃ o' w', Ow.ok o' (xs ++ ys) ∧ (Builtin.append_ #[S, T] ty #[.slice o.adr xs.length o.cap, yv]).run P w = .ok (.slice o'.adr (xs.length + ys.length) o'.cap) w' ∧ In zt (own.set j (o'.seg (xs ++ ys) E)) ro w' := by
  have hsrc := hw.src
  obtain ⟨hlen, hfirst⟩ := hg w hsrc
  have hlt : j < own.length := (List.getElem?_eq_some_iff.1 hs).1
  by_cases hroomy : xs.length + ys.length ≤ o.cap
  · have hrun := run_append_fits (base := o.adr) (ty := ty) hu hT hT2 hsz hlen hfirst hroomy
    cases hn : o.nl with
    | true =>
      obtain ⟨rfl, hc0⟩ := hok.nl hn
      have hys : ys = [] := List.length_eq_zero_iff.1 (by simp at hroomy; omega)
      subst hys
      refine ⟨o, w, hok, ?_, ?_⟩
      · rw [hrun]
        have ha : o.adr = none := by simp [Ow.adr, hn]
        simp [ha]
      · have : own.set j (o.seg (([] : List α) ++ []) E) = own := by
          exact set_self hs
        rw [this]; exact hw
    | false =>
      have ha : o.adr = some ⟨o.b, 0, none⟩ := by simp [Ow.adr, hn]
      have hs' : own[j]? = some [(o.b, .cells (encs xs ++ o.sp) E)] := by rw [hs]; simp [Ow.seg, hn]
      have hl := hok.len hn
      obtain ⟨x, hx, fr, rfl, hfr⟩ := hw.has.o _ (List.mem_of_getElem? hs') (o.b, .cells (encs xs ++ o.sp) E) (List.mem_singleton.2 rfl)
      have hsp : ys.length * Enc.n α ≤ o.sp.length := by
        have := Nat.mul_le_mul_right (Enc.n α) hroomy
        rw [Nat.add_mul] at this; omega
      obtain ⟨w', hr, hh, hold, hsz', hos, htp, hout⟩ := run_stores (P := P) (encs ys) 0 (xs.length * Enc.n α) (encs xs ++ o.sp) w hx hfr (by simp [encs_length]; omega) (encs_one ys)
      refine ⟨⟨false, o.b, o.cap, o.sp.drop (ys.length * Enc.n α)⟩, w', ⟨by simp, fun _ => ?_, ?_⟩, ?_, ?_⟩
      · simp only [List.length_append, List.length_drop, Nat.add_mul]; omega
      · simp; exact hroomy
      · rw [hrun, ha]
        simp only [add_none, Nat.zero_add, hr, Result.andThen_ok]
        simp [Ow.adr]
      · have e1 : List.take (xs.length * Enc.n α + 0) (encs xs ++ o.sp) ++ (encs ys ++ List.drop (xs.length * Enc.n α + 0 + (encs ys).length) (encs xs ++ o.sp)) = encs (xs ++ ys) ++ o.sp.drop (ys.length * Enc.n α) := by
          rw [encs_append, Nat.add_zero, ← encs_length xs, ← encs_length ys]
          simp [List.drop_append, List.drop_eq_nil_of_le]
        rw [e1] at hh
        have e2 : (Ow.seg ⟨false, o.b, o.cap, o.sp.drop (ys.length * Enc.n α)⟩ (xs ++ ys) E) = [(o.b, Ck.cells (encs (xs ++ ys) ++ o.sp.drop (ys.length * Enc.n α)) E)] := by simp [Ow.seg]
        rw [e2]
        refine hw.turn hs' hh ⟨fr, rfl, ?_⟩ hold hsz' hos htp hout
        simp only [encs_append, List.length_append, encs_length, List.length_drop] at hfr ⊢
        omega
  · have hold : ∀ w' : World, w'.heap = w.heap → (Builtin.firstCells (Enc.n α) xs.length (.slice o.adr xs.length o.cap)).run P w' = .ok ⟨encs xs⟩ w' := fun w' e => by
      cases hn : o.nl with
      | true =>
        obtain ⟨rfl, _⟩ := hok.nl hn
        have ha : o.adr = none := by simp [Ow.adr, hn]
        rw [ha]; rfl
      | false =>
        have ha : o.adr = some ⟨o.b, 0, none⟩ := by simp [Ow.adr, hn]
        have hs' : own[j]? = some [(o.b, .cells (encs xs ++ o.sp) E)] := by rw [hs]; simp [Ow.seg, hn]
        rw [ha]
        exact run_firstCells (cellsAt_cells ((allIn_heap hsrc e) _ (List.mem_append.2 (.inl (List.mem_of_getElem? hs')))) (List.mem_singleton.2 rfl) (pre := []) (post := o.sp) (by simp) rfl) (encs_length xs)
    obtain ⟨k, hk, hrun⟩ := run_append_grows (w := w) (base := o.adr) (ty := ty) (yv := yv) (xsc := encs xs) (ysc := encs ys) hu hT hT2 hsz hby hz hlen (fun w' e => (hg w' (allIn_heap hsrc e)).2) hold hroomy hroom hbytes
    refine ⟨⟨false, w.heap.size, k, (Builtin.zeroCells zv.cells (k - (xs.length + ys.length))).toList⟩, _, ⟨by simp, fun _ => ?_, ?_⟩, hrun.trans rfl, ?_⟩
    · simp only [List.length_append, zeroCells_length, hzc]
      rw [← Nat.add_mul]; congr 1; omega
    · simp; exact hk
    · have e2 : (Ow.seg ⟨false, w.heap.size, k, (Builtin.zeroCells zv.cells (k - (xs.length + ys.length))).toList⟩ (xs ++ ys) E) = [(w.heap.size, Ck.cells (encs xs ++ encs ys ++ (Builtin.zeroCells zv.cells (k - (xs.length + ys.length))).toList) E)] := by simp [Ow.seg, encs_append]
      rw [e2]
      refine hw.dropAdd hs (fun p hp => ?_) (fun b hb _ => ?_) (by simp) rfl rfl rfl (by simp) (by simp)
      · rw [List.mem_singleton] at hp; subst hp
        exact ⟨_, by simp, (0, 0), rfl, .inr (Nat.le_refl _)⟩
      · simp [Array.getElem?_push, Nat.ne_of_lt hb]
theorem app {α : Type} [Enc α] {E bytes len cap : Nat} {a : Option Addr} {S T : TypeId} {yv zv : Value} {dT : TypeDesc} (j : Nat) (o : Ow) (xs ys : List α) (hok : o.ok xs) (hx : ev cx.n base L x = .slice a len cap) (ha : a = o.adr ∧ len = xs.length ∧ cap = o.cap) (hs : own[j]? = some (o.seg xs E)) (hy : ev cx.n base L y = yv) (hg : Gives cx.P (own ++ ro) yv ys)
    (hu : cx.P.underlying S = some (.slice E)) (hT : cx.P.underlying T = some dT) (hT2 : (∃ e, dT = .slice e) ∨ dT = .string) (hsz : (cx.P.info? E).map (·.size) = some (Enc.n α)) (hby : (cx.P.info? E).map (·.bytes) = some bytes) (hz : Zt cx.P E zv) (hzc : zv.cells.size = Enc.n α)
    (hroom : (xs.length + ys.length) * bytes ≤ 140737488355328) (hbytes : Nat.blt 0 bytes = true)
    (h : ∀ o' : Ow, o'.ok (xs ++ ys) → Keep md kq rest (own.set j (o'.seg (xs ++ ys) E)) ro ∧ JG cx md ops Q rest base ((d, .slice o'.adr ((xs ++ ys).length) o'.cap) :: L) (own.set j (o'.seg (xs ++ ys) E)) ro) :
    JG cx md ops Q ((⟨some d, .call ⟨.builtin .append, #[x, y], #[S, T]⟩, ty, pos, aft, none⟩, kq + 1) :: rest) base L own ro :=
  nq (Post := fun L' own' ro' => ∃ o' : Ow, o'.ok (xs ++ ys) ∧ L' = (d, .slice o'.adr ((xs ++ ys).length) o'.cap) :: L ∧ own' = own.set j (o'.seg (xs ++ ys) E) ∧ ro' = ro) rfl
    (fun w K hw hK => by
      obtain ⟨rfl, rfl, rfl⟩ := ha
      obtain ⟨o', w', hok', hrun, hin⟩ := app_core (ty := ty) hw hs hok hg hu hT hT2 hsz hby hz hzc hroom (Nat.ble_eq.mp hbytes)
      unfold Oper.wp
      rw [A_eval_fun]
      simp only [execOp, resolve, invoke, builtin, List.map_toArray, List.map_cons, List.map_nil, hx, hy, Sem.run_bind, Sem.run_pure, Result.andThen_ok, hrun, Oper.upon]
      show K ((A cx.n base L).put (some d) _) _
      rw [A_put]
      exact hK _ _ _ _ ⟨o', hok', by rw [List.length_append], rfl, rfl⟩ hin)
    (by rintro L' own' ro' ⟨o', hok', rfl, rfl, rfl⟩; exact (h o' hok').1)
    (by rintro L' own' ro' ⟨o', hok', rfl, rfl, rfl⟩; exact (h o' hok').2)
end
end Go.PW
namespace Go.PW
open Enc (enc val)
open Go
section
variable {cx : Cx} {md : Md} {ops : Array Oper} {Q : Exit → Act → World → Prop} {rest : List (Oper × Nat)} {kq : Nat} {base : Nat → Value} {L : List (Nat × Value)} {own ro : List Seg}
variable {q : Nat} {d : Nat} {ty : TypeId} {pos : String} {aft : Array Edge} {x y z : Operand} {xt yt : TypeId}
theorem fill_row {α : Type} [Enc α] : ∀ (ys : List α) (k : Nat) (pre post : List Value), pre.length = k * Enc.n α → post.length = ys.length * Enc.n α →
    Instr.fill (fun i => some (i * Enc.n α, Enc.n α)) ⟨pre ++ post⟩ ((ys.zipIdx k).map fun p => (p.2, val p.1)) = some ⟨pre ++ encs ys⟩
  | [], k, pre, post, _, h2 => by
    have : post = [] := List.length_eq_zero_iff.1 (by simpa using h2)
    subst this; simp [Instr.fill, encs]
  | v :: ys, k, pre, post, h1, h2 => by
    simp only [List.zipIdx_cons, List.map_cons]
    have hp : post = post.take (Enc.n α) ++ post.drop (Enc.n α) := (List.take_append_drop _ _).symm
    have hl : (post.take (Enc.n α)).length = Enc.n α := by simp at h2 ⊢; rw [h2, Nat.add_mul]; omega
    rw [hp]
    have := fill_cons (place := fun i => some (i * Enc.n α, Enc.n α)) (i := k) (o := k * Enc.n α) (n := Enc.n α) (p := pt v) (pre := pre) (old := post.take (Enc.n α)) (post := post.drop (Enc.n α)) (r := (ys.zipIdx (k + 1)).map fun p => (p.2, val p.1)) rfl rfl h1 hl
    have e : (pt v).v = val v := rfl
    rw [e] at this
    rw [this]
    have h3 := fill_row ys (k + 1) (pre ++ enc v) (post.drop (Enc.n α)) (by simp [h1, Enc.len, Nat.add_mul]) (by simp at h2 ⊢; rw [h2, Nat.add_mul]; omega)
    simp only [List.append_assoc] at h3
    show Instr.fill _ ⟨pre ++ (enc v ++ _)⟩ _ = _
    rw [h3]; simp [encs]
theorem bsl {α : Type} [Enc α] {t E n : Nat} {parts : Array (Nat × Operand)} {zv : Value} (ys : List α) (hu : cx.P.underlying t = some (.slice E)) (hsz : (cx.P.info? E).map (·.size) = some (Enc.n α)) (hn : n = ys.length) (hsmall : n * Enc.n α ≤ 2 ^ 24) (hz : Zt cx.P E zv)
    (hx : parts.toList.map (fun a => (a.1, ev cx.n base L a.2)) = ys.zipIdx.map fun p => (p.2, val p.1))
    (h : ∀ bk, Keep md kq rest (own ++ [[(bk, .cells (encs ys) E)]]) ro ∧ JG cx md ops Q rest base ((d, .slice (some ⟨bk, 0, none⟩) n n) :: L) (own ++ [[(bk, .cells (encs ys) E)]]) ro) :
    JG cx md ops Q ((⟨some d, .buildSlice t n parts, ty, pos, aft, none⟩, kq + 1) :: rest) base L own ro :=
  nq (Post := fun L' own' ro' => ∃ bk, L' = (d, .slice (some ⟨bk, 0, none⟩) n n) :: L ∧ own' = own ++ [[(bk, .cells (encs ys) E)]] ∧ ro' = ro) rfl
    (fun w K hw hK => by
      subst hn
      have hp2 : (parts.map fun a => (a.1, ev cx.n base L a.2)).toList = ys.zipIdx.map fun p => (p.2, val p.1) := by simpa using hx
      have hf : ∀ zz : Array Value, Instr.fill (fun i => some (i * Enc.n α, Enc.n α)) ((Array.range (ys.length * Enc.n α)).map (zz[· % zz.size]!)) (ys.zipIdx.map fun p => (p.2, val p.1)) = some ⟨encs ys⟩ := fun zz => by
        have := fill_row ys 0 [] ((Array.range (ys.length * Enc.n α)).map (zz[· % zz.size]!)).toList (by simp) (by simp)
        simpa only [List.nil_append, Array.toArray_toList] using this
      unfold Oper.wp
      rw [A_eval_fun]
      simp only [execOp, Instr.buildSlice, Sem.run_bind, run_underlying hu, Result.andThen_ok, run_sizeOf' hsz]
      rw [if_neg (by omega)]
      simp only [hp2]
      by_cases h0 : ys.length * Enc.n α = 0
      all_goals
        first | rw [if_pos h0] | rw [if_neg h0]
        simp only [Sem.run_bind, Sem.run_pure, Result.andThen_ok, run_zero' hz, hf, newRow, newObj, Sem.run, Oper.upon]
        show K ((A cx.n base L).put (some d) _) _
        rw [A_put]
        exact hK _ _ _ _ ⟨w.heap.size, rfl, rfl, rfl⟩ (hw.alloc _ _ ⟨(0, 0), rfl, .inr (Nat.le_refl _)⟩))
    (by rintro L' own' ro' ⟨bk, rfl, rfl, rfl⟩; exact (h bk).1)
    (by rintro L' own' ro' ⟨bk, rfl, rfl, rfl⟩; exact (h bk).2)
theorem mks {α : Type} [Enc α] {k1 k2 : IntKind} {t E bytes : Nat} {l c : Int} (zv : α) (n m : Nat) (hx : ev cx.n base L x = .int k1 l) (hy : ev cx.n base L y = .int k2 c) (hl : l = (n : Int)) (hc : c = (m : Int)) (hnm : n ≤ m) (hu : cx.P.underlying t = some (.slice E)) (hsz : (cx.P.info? E).map (·.size) = some (Enc.n α)) (hby : (cx.P.info? E).map (·.bytes) = some bytes)
    (hz : Zt cx.P E (val zv)) (hroom : m * bytes ≤ 140737488355328) (hbytes : Nat.blt 0 bytes = true)
    (h : ∀ bk, Keep md kq rest (own ++ [Ow.seg ⟨false, bk, m, encs (List.replicate (m - n) zv)⟩ (List.replicate n zv) E]) ro ∧
      JG cx md ops Q rest base ((d, .slice (Ow.adr ⟨false, bk, m, encs (List.replicate (m - n) zv)⟩) n m) :: L) (own ++ [Ow.seg ⟨false, bk, m, encs (List.replicate (m - n) zv)⟩ (List.replicate n zv) E]) ro) :
    JG cx md ops Q ((⟨some d, .makeSlice t x y, ty, pos, aft, none⟩, kq + 1) :: rest) base L own ro :=
  nq (Post := fun L' own' ro' => ∃ bk, L' = (d, .slice (Ow.adr ⟨false, bk, m, encs (List.replicate (m - n) zv)⟩) n m) :: L ∧ own' = own ++ [Ow.seg ⟨false, bk, m, encs (List.replicate (m - n) zv)⟩ (List.replicate n zv) E] ∧ ro' = ro) rfl
    (fun w K hw hK => by
      subst hl; subst hc
      have hpos : 0 < bytes := Nat.ble_eq.mp hbytes
      have hm' : m ≤ 140737488355328 := Nat.le_trans (Nat.le_mul_of_pos_right _ hpos) hroom
      have hinf : (typeInfo E).run cx.P w = .ok ((cx.P.info? E).getD default) w := by
        cases hq : cx.P.info? E with
        | none => simp [hq] at hsz
        | some i => simp [typeInfo, hq]
      have hb2 : ((cx.P.info? E).getD default).bytes = bytes := by
        cases hq : cx.P.info? E with
        | none => simp [hq] at hsz
        | some i => simpa [hq] using hby
      have hw1 : IntKind.i64.wrap (n : Int) = n := IntWalk.i64_in _ (by omega)
      have hw2 : IntKind.i64.wrap (m : Int) = m := IntWalk.i64_in _ (by omega)
      have hrow : ∀ zz : Array Value, (m * Enc.n α = 0 ∨ zz = ⟨enc zv⟩) → ((Array.range (m * Enc.n α)).map (zz[· % zz.size]!)) = ⟨encs (List.replicate m zv)⟩ := by
        intro zz hzz
        apply Array.ext'
        apply List.ext_getElem
        · simp [encs_length]
        · intro i h1 h2
          simp [encs_length] at h2
          rcases hzz with h0 | rfl
          · omega
          · have hn0 : 0 < Enc.n α := by
              rcases Nat.eq_zero_or_pos (Enc.n α) with h | h
              · rw [h] at h2; simp at h2
              · exact h
            have hdm : i = (i / Enc.n α) * Enc.n α + i % Enc.n α := by rw [Nat.mul_comm]; exact (Nat.div_add_mod i _).symm
            have hq : i / Enc.n α < m := Nat.div_lt_of_lt_mul (by rw [Nat.mul_comm]; exact h2)
            have hr : i % Enc.n α < Enc.n α := Nat.mod_lt _ hn0
            have hsp := encs_split (List.replicate m zv) (i / Enc.n α) (by simpa using hq)
            have hpre : (encs ((List.replicate m zv).take (i / Enc.n α))).length = (i / Enc.n α) * Enc.n α := by
              rw [encs_length, List.length_take, List.length_replicate, Nat.min_eq_left (Nat.le_of_lt hq)]
            have hget : (encs (List.replicate m zv))[i]? = (enc zv)[i % Enc.n α]? := by
              rw [hsp, List.getElem?_append_right (by rw [hpre]; omega), hpre, show i - i / Enc.n α * Enc.n α = i % Enc.n α by omega, List.getElem?_append_left (by rw [Enc.len]; exact hr)]
              simp
            have hlen : (enc zv).length = Enc.n α := Enc.len zv
            have e1 : (encs (List.replicate m zv))[i] = (enc zv)[i % Enc.n α]'(by omega) := by
              have := hget
              rw [List.getElem?_eq_getElem (by rw [encs_length]; simpa using h2), List.getElem?_eq_getElem (by omega)] at this
              exact Option.some.inj this
            simp only [Array.getElem_toList, Array.getElem_map, Array.getElem_range, e1]
            simp only [List.size_toArray, hlen]
            rw [getElem!_pos _ _ (by simp [hlen]; exact hr)]
            simp
      have hvc : (val zv).cells = ⟨enc zv⟩ := (pt zv).cells
      have hre : (List.replicate n zv ++ List.replicate (m - n) zv) = List.replicate m zv := by rw [List.replicate_append_replicate]; congr 1; omega
      have hbig : ¬ ((bytes : Int) * (m : Int) > 2 ^ 48) := by
        have : (bytes : Int) * (m : Int) = ((m * bytes : Nat) : Int) := by rw [Nat.mul_comm]; simp
        rw [this]; omega
      unfold Oper.wp
      rw [A_eval_fun]
      simp only [execOp, Instr.makeSlice, hx, hy, asInt, asIntOf, Sem.run_bind, run_underlying hu, Result.andThen_ok, Sem.run_pure, hinf, hb2, hw1, hw2]
      rw [if_neg (by simp only [Bool.or_eq_true, decide_eq_true_eq]; omega)]
      simp only [Sem.run_bind, run_askRoom, Result.andThen_ok, run_sizeOf' hsz, Int.toNat_natCast]
      have e2 : Ow.seg ⟨false, w.heap.size, m, encs (List.replicate (m - n) zv)⟩ (List.replicate n zv) E = [(w.heap.size, Ck.cells (encs (List.replicate m zv)) E)] := by
        simp only [Ow.seg, Bool.false_eq_true, if_false, ← encs_append, hre]
      by_cases h0 : m * Enc.n α = 0
      · rw [if_pos h0]
        have hrw := hrow #[] (.inl h0)
        simp only [Sem.run_bind, Sem.run_pure, Result.andThen_ok, hrw, newRow, newObj, Sem.run, Oper.upon]
        show K ((A cx.n base L).put (some d) _) _
        rw [A_put]
        refine hK _ _ _ _ ⟨w.heap.size, rfl, rfl, rfl⟩ ?_
        rw [e2]
        exact hw.alloc _ _ ⟨(0, 0), rfl, .inr (Nat.le_refl _)⟩
      · rw [if_neg h0]
        have hrw := hrow _ (.inr hvc)
        simp only [Sem.run_bind, Sem.run_pure, Result.andThen_ok, run_zero' hz, hrw, newRow, newObj, Sem.run, Oper.upon]
        show K ((A cx.n base L).put (some d) _) _
        rw [A_put]
        refine hK _ _ _ _ ⟨w.heap.size, rfl, rfl, rfl⟩ ?_
        rw [e2]
        exact hw.alloc _ _ ⟨(0, 0), rfl, .inr (Nat.le_refl _)⟩)
    (by rintro L' own' ro' ⟨bk, rfl, rfl, rfl⟩; exact (h bk).1)
    (by rintro L' own' ro' ⟨bk, rfl, rfl, rfl⟩; exact (h bk).2)
theorem mks_ok {α : Type} [Enc α] (zv : α) (bk n m : Nat) (h : n ≤ m) : Ow.ok ⟨false, bk, m, encs (List.replicate (m - n) zv)⟩ (List.replicate n zv) := ⟨by simp, fun _ => by simp only [encs_length, List.length_replicate, ← Nat.add_mul]; congr 1; omega, by simpa⟩
def Vs.sub (s : Vs) (l n : Nat) : Vs := ⟨s.nl, s.b, if s.cap = l then s.off else s.off + l * n, s.cap - l, if s.cap = l then s.wa else s.wa.map (·.add (l * n))⟩
theorem Vs.sub_adr (s : Vs) (l n : Nat) : (if s.cap = l then s.adr else s.adr.map (·.add (l * n))) = (s.sub l n).adr := by
  unfold Vs.adr Vs.sub
  cases s.nl <;> simp
  split <;> simp [add_none]
theorem Vs.sub_ok {α : Type} {s : Vs} {xs : List α} (h : s.ok xs) (l m n : Nat) (hm : m ≤ xs.length - l) : (s.sub l n).ok ((xs.drop l).take m) := ⟨fun e => by have := h.nl e; subst this; simp, by have := h.le; simp [Vs.sub]; omega⟩
theorem run_bounds {P : Program} {w : World} {len cap l h : Nat} {lo hi : Option Value} (hlo : match lo with | none => l = 0 | some v => ∃ k, v = .int k (l : Int)) (hhi : match hi with | none => h = len | some v => ∃ k, v = .int k (h : Int)) (hlh : l ≤ h) (hc : h ≤ cap) (hlc : len ≤ cap) :
    (Instr.sliceBounds true len cap lo hi none).run P w = .ok (l, h, cap) w := by
  have hb : ∀ (k : IntKind) (n y : Nat) (cd : BoundsCode), n ≤ y → (Instr.sliceBound (.int k (n : Int)) y cd).run P w = .ok n w := fun k n y cd h => by
    simp [Instr.sliceBound, asIntOf, h]
  unfold Instr.sliceBounds
  cases hi with
  | none =>
    dsimp only at hhi; subst hhi
    cases lo with
    | none => dsimp only at hlo; subst hlo; rfl
    | some v =>
      obtain ⟨k, rfl⟩ := hlo
      simp only [Sem.run_bind, Sem.run_pure, Result.andThen_ok, hb k l h _ hlh]
  | some u =>
    obtain ⟨k', rfl⟩ := hhi
    cases lo with
    | none => dsimp only at hlo; subst hlo; simp only [Sem.run_bind, Sem.run_pure, Result.andThen_ok, hb k' h cap _ hc]
    | some v =>
      obtain ⟨k, rfl⟩ := hlo
      simp only [Sem.run_bind, Sem.run_pure, Result.andThen_ok, hb k' h cap _ hc, hb k l h _ hlh]
theorem sli {e n : Nat} {len : Nat} {lo hi : Option Operand} (s : Vs) (l h : Nat) (hx : ev cx.n base L x = .slice s.adr len s.cap) (hu : cx.P.underlying xt = some (.slice e)) (hsz : (cx.P.info? e).map (·.size) = some n)
    (hlo : match lo with | none => l = 0 | some o => ∃ k, ev cx.n base L o = .int k (l : Int)) (hhi : match hi with | none => h = len | some o => ∃ k, ev cx.n base L o = .int k (h : Int)) (hlh : l ≤ h) (hc : h ≤ s.cap) (hlc : len ≤ s.cap)
    (hr : JG cx md ops Q rest base ((d, .slice (s.sub l n).adr (h - l) (s.sub l n).cap) :: L) own ro) : JG cx md ops Q ((⟨some d, .slice xt x lo hi none, ty, pos, aft, none⟩, q) :: rest) base L own ro :=
  qt (fun w _ => by
    have hb := run_bounds (P := cx.P) (w := w) (len := len) (cap := s.cap) (l := l) (h := h) (lo := lo.map (ev cx.n base L)) (hi := hi.map (ev cx.n base L)) (by cases lo <;> simpa using hlo) (by cases hi <;> simpa using hhi) hlh hc hlc
    simp only [execOp, hx, Instr.sliceAt, Sem.run_bind, run_underlying hu, Result.andThen_ok, Instr.slice, Option.map_none, hb, run_sizeOf' hsz, Sem.run_pure, Vs.sub_adr]
    rfl) hr
theorem mki {t : Nat} {v : Value} {ds : TypeDesc} (hx : ev cx.n base L x = v) (hu : cx.P.underlying t = some ds) (hd : (match ds with | .interface _ => true | _ => false) = false) (h : JG cx md ops Q rest base ((d, .iface t v) :: L) own ro) : JG cx md ops Q ((⟨some d, .makeInterface t x, ty, pos, aft, none⟩, q) :: rest) base L own ro :=
  qt (fun w _ => by
    simp only [execOp, hx, Instr.makeInterface, Sem.run_bind, run_underlying hu, Result.andThen_ok]
    cases ds <;> simp at hd <;> rfl) h
theorem calv {f : Nat} {g : Operand} {cap : List Value} {xs : Array Operand} {ts : Array TypeId} {args : List Value} {ownC roC : List Seg} {post : Value → List Seg → List Seg → Prop} (hct : Ct cx.P f args ownC roC post) (hg : ev cx.n base L g = .func (.func f) #[] ⟨cap⟩)
    (io jo : List Nat) (R : List Seg) (hR : R.map some = jo.map fun i => own[i]?) (hx : xs.toList.map (ev cx.n base L) ++ cap = args) (hio : ownC.map some = io.map fun i => own[i]?) (perm : (io ++ jo).isPerm (List.range own.length) = true) (hi : Impl (ro ++ R) roC) (hz : Nat.ble cx.z.N0 ro.length = true)
    (h : ∀ v own' ro', post v own' ro' → Keep md kq rest (R ++ own') (ro ++ ro') ∧ JG cx md ops Q rest base ((d, v) :: L) (R ++ own') (ro ++ ro')) :
    JG cx md ops Q ((⟨some d, .call ⟨.value g, xs, ts⟩, ty, pos, aft, none⟩, kq + 1) :: rest) base L own ro := by
  obtain rfl := pick_of hR
  exact nq (Post := fun L' o r => ∃ v own' ro', post v own' ro' ∧ L' = (d, v) :: L ∧ o = pick jo own ++ own' ∧ r = ro ++ ro') rfl
    (fun w K hw hK => by
      have hpm : (ownC ++ pick jo own).Perm own := by
        have := pick_perm (own := own) perm
        obtain rfl := pick_of hio; simpa [pick] using this
      have hR : ∀ s ∈ pick jo own, s ∈ own := fun s hs => (hpm.mem_iff).1 (List.mem_append.2 (.inr hs))
      have hC : ∀ s ∈ ownC, s ∈ own := fun s hs => (hpm.mem_iff).1 (List.mem_append.2 (.inl hs))
      have hb := blks_perm hpm
      rw [blks_append] at hb
      have hnd := List.nodup_append.1 ((hb.nodup_iff).2 hw.has.nd)
      have hhas : Has w ownC roC := ⟨fun s hs => hw.has.o s (hC s hs), hw.has.impl hR hi, hnd.1, fun b h1 h2 => by
        obtain ⟨s, hs, p, hps, rfl⟩ := mem_blks.1 h2
        obtain ⟨s', hs', p', hp', e, _⟩ := hi s hs p hps
        rw [← e] at h1
        rcases List.mem_append.1 hs' with h3 | h3
        · exact hw.has.dj _ ((hb.mem_iff).1 (List.mem_append.2 (.inl h1))) (mem_blks.2 ⟨s', h3, p', hp', rfl⟩)
        · exact hnd.2.2 _ h1 _ (mem_blks.2 ⟨s', h3, p', hp', rfl⟩) rfl⟩
      have hargs : xs.map (ev cx.n base L) ++ ⟨cap⟩ = (⟨args⟩ : Array Value) := by
        apply Array.ext'
        simp [← hx]
      unfold Oper.wp
      rw [A_eval_fun]
      simp only [execOp, resolve, hg, Deferred.ofValue, Sem.run_bind, Sem.run_pure, Result.andThen_ok, invoke, Array.empty_append, hargs, run_callFunc hct.1, Oper.upon]
      refine (hct.2 w hhas).mono ?_
      rintro e w' ⟨v, own', ro', rfl, hpost, hin⟩
      show K ((A cx.n base L).put (some d) v) w'
      rw [A_put]
      exact hK _ _ _ _ ⟨v, own', ro', hpost, rfl, rfl, rfl⟩ (hw.call hpm hi hin (Nat.ble_eq.mp hz)))
    (by rintro L' o r ⟨v, own', ro', hpost, rfl, rfl, rfl⟩; exact (h v own' ro' hpost).1)
    (by rintro L' o r ⟨v, own', ro', hpost, rfl, rfl, rfl⟩; exact (h v own' ro' hpost).2)
theorem In.addE {z : Zt0} {own ro : List Seg} {w : World} (h : In z own ro w) : In z (own ++ [[]]) ro w := by
  have hb : blks (own ++ [[]]) = blks own := by simp [blks]
  refine ⟨⟨fun s hs => ?_, h.has.r, by rw [hb]; exact h.has.nd, by rw [hb]; exact h.has.dj⟩, h.ext, by rw [hb]; exact h.fr, h.rf⟩
  rcases List.mem_append.1 hs with h1 | h1
  · exact h.has.o s h1
  · rw [List.mem_singleton] at h1; subst h1; intro p hp; cases hp
theorem c_addE {Q0 : Exit → Act → World → Prop} {st : List Fr} {c : Code} (h : JC cx c Q0 st base L (own ++ [[]]) ro) : JC cx c Q0 st base L own ro := JC.mk fun w hw => h.out w hw.addE
theorem In.drop {z : Zt0} {own own' dr ro : List Seg} {w : World} (h : In z own ro w) (hp : (own' ++ dr).Perm own) : In z own' ro w := by
  have hb := blks_perm hp
  rw [blks_append] at hb
  exact ⟨h.has.sub hp fun s hs p hp => ⟨s, List.mem_append.2 (.inl hs), p, hp, rfl, fun _ h => h⟩, h.ext, fun b hb' => h.fr b ((hb.mem_iff).1 (List.mem_append.2 (.inl hb'))), h.rf⟩
theorem c_keep {Q0 : Exit → Act → World → Prop} {st : List Fr} {c : Code} (io jo : List Nat) (ow : List Seg) (how : ow.map some = io.map fun i => own[i]?) (perm : (io ++ jo).isPerm (List.range own.length) = true) (h : JC cx c Q0 st base L ow ro) : JC cx c Q0 st base L own ro := JC.mk fun w hw =>
  h.out w (hw.drop (dr := pick jo own) (by obtain rfl := pick_of how; have := pick_perm (own := own) perm; simpa [pick] using this))
theorem e_keep {Q0 : Exit → Act → World → Prop} {st : List Fr} {e : Exit} (io jo : List Nat) (ow : List Seg) (how : ow.map some = io.map fun i => own[i]?) (perm : (io ++ jo).isPerm (List.range own.length) = true) (h : JE cx e Q0 st base L ow ro) : JE cx e Q0 st base L own ro := JE.mk fun w hw =>
  h.out w (hw.drop (dr := pick jo own) (by obtain rfl := pick_of how; have := pick_perm (own := own) perm; simpa [pick] using this))
theorem equ8 {a b : UInt8} {op : BinOp} (r : Bool) (hx : ev cx.n base L x = .int .u8 a.toNat) (hy : ev cx.n base L y = .int .u8 b.toNat) (hr : (match op with | .eql => some (decide (a = b)) | .neq => some !(decide (a = b)) | _ => none) = some r)
    (h : JG cx md ops Q rest base ((d, .bool r) :: L) own ro) : JG cx md ops Q ((⟨some d, .binOp op xt x y yt, ty, pos, aft, none⟩, q) :: rest) base L own ro :=
  have e : decide (((a.toNat : Nat) : Int) = ((b.toNat : Nat) : Int)) = decide (a = b) := by rw [Bool.eq_iff_iff]; simp [← UInt8.toNat_inj]; omega
  cmp r hx hy (by cases op <;> dsimp only at hr <;> first | (cases hr; simp only [cmpV, e]) | cases hr) h
theorem equ64 {a b : UInt64} {op : BinOp} (r : Bool) (hx : ev cx.n base L x = .int .u64 a.toNat) (hy : ev cx.n base L y = .int .u64 b.toNat) (hr : (match op with | .eql => some (decide (a = b)) | .neq => some !(decide (a = b)) | _ => none) = some r)
    (h : JG cx md ops Q rest base ((d, .bool r) :: L) own ro) : JG cx md ops Q ((⟨some d, .binOp op xt x y yt, ty, pos, aft, none⟩, q) :: rest) base L own ro :=
  have e : decide (((a.toNat : Nat) : Int) = ((b.toNat : Nat) : Int)) = decide (a = b) := by rw [Bool.eq_iff_iff]; simp [← UInt64.toNat_inj]; omega
  cmp r hx hy (by cases op <;> dsimp only at hr <;> first | (cases hr; simp only [cmpV, e]) | cases hr) h
end
end Go.PW
namespace Go.PW
open Enc (enc val)
open Go
section
variable {cx : Cx} {md : Md} {ops : Array Oper} {Q : Exit → Act → World → Prop} {rest : List (Oper × Nat)} {kq : Nat} {base : Nat → Value} {L : List (Nat × Value)} {own ro : List Seg}
variable {q : Nat} {d : Nat} {ty : TypeId} {pos : String} {aft : Array Edge} {x y z : Operand} {xt yt : TypeId}
theorem e_addE {Q0 : Exit → Act → World → Prop} {st : List Fr} {e : Exit} (h : JE cx e Q0 st base L (own ++ [[]]) ro) : JE cx e Q0 st base L own ro := JE.mk fun w hw => h.out w hw.addE
def fillA {α : Type} (zs : List α) : List (Nat × α) → List α
  | [] => zs
  | (i, x) :: r => fillA (zs.set i x) r
theorem fill_arr {α : Type} [Enc α] : ∀ (qs : List (Nat × α)) (zs : List α), (∀ p ∈ qs, p.1 < zs.length) →
    Instr.fill (fun i => some (i * Enc.n α, Enc.n α)) ⟨encs zs⟩ (qs.map fun p => (p.1, val p.2)) = some ⟨encs (fillA zs qs)⟩
  | [], zs, _ => rfl
  | (i, x) :: qs, zs, h => by
    have hi := h (i, x) (by simp)
    have h1 := fill_cons (place := fun i => some (i * Enc.n α, Enc.n α)) (i := i) (o := i * Enc.n α) (n := Enc.n α) (p := pt x) (pre := encs (zs.take i)) (old := enc zs[i]) (post := encs (zs.drop (i + 1))) (r := qs.map fun p => (p.1, val p.2)) rfl rfl
      (by rw [encs_length, List.length_take, Nat.min_eq_left (Nat.le_of_lt hi)]) (Enc.len _)
    rw [← encs_split zs i hi] at h1
    have e1 : encs (zs.take i) ++ ((pt x).c ++ encs (zs.drop (i + 1))) = encs (zs.set i x) := by
      rw [List.set_eq_take_append_cons_drop, if_pos hi, encs_append]; simp [encs, pt]
    rw [e1] at h1
    exact h1.trans (fill_arr qs (zs.set i x) fun p hp => by simpa using h p (by simp [hp]))
theorem bldA {α : Type} [Enc α] {t e len : Nat} {parts : Array (Nat × Operand)} {v0 : Value} (zs : List α) (qs : List (Nat × α)) (hu : cx.P.underlying t = some (.array len e)) (hsz : (cx.P.info? e).map (·.size) = some (Enc.n α)) (hz : Zt cx.P t v0) (hv : v0.cells = ⟨encs zs⟩)
    (hq : qs.all (fun p => Nat.blt p.1 zs.length) = true) (hx : parts.toList.map (fun a => (a.1, ev cx.n base L a.2)) = qs.map fun p => (p.1, val p.2))
    (h : JG cx md ops Q rest base ((d, .agg ⟨encs (fillA zs qs)⟩) :: L) own ro) : JG cx md ops Q ((⟨some d, .build t parts, ty, pos, aft, none⟩, q) :: rest) base L own ro :=
  qt (fun w _ => by
    have hf := fill_arr qs zs fun p hp => Nat.ble_eq.mp (List.all_eq_true.1 hq p hp)
    have hp2 : (parts.map fun a => (a.1, ev cx.n base L a.2)).toList = qs.map fun p => (p.1, val p.2) := by simpa using hx
    simp only [execOp, Instr.build, Sem.run_bind, run_zero' hz, Result.andThen_ok, run_underlying hu, run_sizeOf' hsz, hv, hp2, hf, Sem.run_pure]) h
theorem Ow.ok_set {α : Type} [Enc α] {o : Ow} {xs : List α} (h : o.ok xs) (i : Nat) (x : α) : o.ok (xs.set i x) :=
  ⟨fun e => by have := h.nl e; simp [this.1, this.2], fun e => by simpa using h.len e, by simpa using h.le⟩
theorem sto {α : Type} [Enc α] {t bk of E : Nat} {o : Ow} {xs : List α} (j i : Nat) (a : α) (hok : o.ok xs) (hx : ev cx.n base L x = .pointer (some ⟨bk, of, none⟩)) (hy : ev cx.n base L y = val a) (hs : own[j]? = some (o.seg xs E))
    (hb : bk = o.b) (ho : of = 0 + i * Enc.n α) (hi : i < xs.length) (ht : Ty cx.P t (Enc.n α) (Enc.ag α))
    (h : Keep md kq rest (own.set j (o.seg (xs.set i a) E)) ro ∧ JG cx md ops Q rest base L (own.set j (o.seg (xs.set i a) E)) ro) :
    JG cx md ops Q ((⟨none, .store t x y, ty, pos, aft, none⟩, kq + 1) :: rest) base L own ro := by
  subst hb
  have hn := Ow.ne hok hi
  have e1 : o.seg (xs.set i a) E = [(o.b, Ck.cells (encs (xs.take i) ++ ((pt a).c ++ (encs (xs.drop (i + 1)) ++ o.sp))) E)] := by
    simp only [Ow.seg, hn, Bool.false_eq_true, if_false]
    rw [List.set_eq_take_append_cons_drop, if_pos hi, encs_append]; simp [encs, pt]
  rw [e1] at h
  refine stg (p := pt a) (old := enc xs[i]) (c := encs xs ++ o.sp) hx hy (by rw [hs]; simp [Ow.seg, hn]) ht ?_ (Enc.len _) ?_ h
  · rw [encs_split xs i hi]; simp
  · rw [encs_length, List.length_take, Nat.min_eq_left (Nat.le_of_lt hi)]; omega
def Ow.cut {α : Type} [Enc α] (o : Ow) (xs : List α) (l : Nat) : Ow := ⟨o.nl, o.b, o.cap, encs (xs.drop l) ++ o.sp⟩
end
end Go.PW
namespace Go.PW
open Enc (enc val)
open Go Go.ChangeShapes Go.WideShapes Go.RowKit Go.Deep
theorem Ext.same {w w' : World} (h : Ext [] w w') {p : MemPlace} (hp : p.block < w.heap.size) : w.sameAt w' p := by
  have := h.blk p.block hp (by simp)
  cases p with
  | cell b off => simp only [World.sameAt, World.cell?]; exact congrArg (fun o : Option Obj => match o with | some (.cells c _ _) => if (none : Option Nat).isSome then none else c[off]? | _ => none) this
  | map b => exact this
theorem Ext.kept {w w' : World} (h : Ext [] w w') (may : MemPlace → Prop) : w.keptBut w' may := by
  refine ⟨h.os, h.output, fun i hi => ?_⟩
  rw [h.blk i hi (by simp)]
  exact (World.keptBut_refl w may).2.2 i hi
section
variable {H : Type} {encH : TypeId × Value → H} {P : Program}
theorem trodAll_carry {w w' : World} {base : Nat} {sp : Nat → Bool} {held : Bool} : ∀ {ts : List TypeId} {vs : List Value} {ds : List (DataW H)} {ps : List MemPlace},
    DataW.TrodAll encH P w base sp held ts vs ds ps → (∀ p ∈ ps, w.sameAt w' p) → DataW.TrodAll encH P w' base sp held ts vs ds ps
  | [], [], [], _, h, _ => h
  | _ :: _, _ :: _, _ :: _, _, ⟨p, q, ⟨n, h1⟩, h2, e⟩, hs => ⟨p, q, ⟨n, DataW.trod_carry n _ _ _ h1 fun x hx => hs x (by rw [e]; exact List.mem_append_left _ hx)⟩,
      trodAll_carry h2 (fun x hx => hs x (by rw [e]; exact List.mem_append_right _ hx)), e⟩
theorem law_post {f : Func} {s : ChangeSpec} {apart fresh handsOn : Bool} {W W' : World} {args : Array Value} {ds gs : List (DataW H)} {before : List MemPlace} {tb : TypeId}
    (K : Kids P (· < P.types.size)) (hz : ∀ t e, t < P.types.size → P.underlying t = some (.slice e) → 0 < P.cellsOf e) (hts : ∀ t ∈ f.params.toList, t < P.types.size)
    (hW : DataW.Whole encH P f.params.toList s.vars apart W args.toList ds gs before) (hv : s.vars = []) (hx : Ext [] W W')
    (hf : s.fn H (ds ++ gs) = { results := [.lit (.bool true)], args := ds }) (hr : f.resultTypes = #[tb]) (hb : P.underlying tb = some .bool) :
    s.post encH P f apart fresh handsOn false W args (.bool true) W' := by
  have hlt := hW.lt
  have hW' := hW
  obtain ⟨p, q, hA, hV, rfl, hfz, hnd⟩ := hW
  rw [hv] at hV
  obtain ⟨rfl, rfl⟩ := trodVars_none hV
  have hsame : ∀ x ∈ p, W.sameAt W' x := fun x hx' => hx.same (hlt x (List.mem_append_left _ hx'))
  refine ⟨ds, [], p ++ [], [], p, [], hW', ?_, ?_, ?_, hx.kept _, fun h => by cases h⟩
  · rw [hf, hr]; exact trodAll_mk1 (shut_bool hb true)
  · rw [hf]; exact trodAll_carry (DataW.TrodAll.respare K hz hts hA fun x hx' => by simpa using hlt x (List.mem_append_left _ hx')) hsame
  · rw [hf, hv]; rfl
end
end Go.PW
namespace Go.PW
open Enc (enc val)
open Go
section
variable {cx : Cx} {md : Md} {ops : Array Oper} {Q : Exit → Act → World → Prop} {rest : List (Oper × Nat)} {kq : Nat} {base : Nat → Value} {L : List (Nat × Value)} {own ro : List Seg}
variable {q : Nat} {d : Nat} {ty : TypeId} {pos : String} {aft : Array Edge} {x y z : Operand} {xt yt : TypeId} {P : Program}
theorem remi {k : IntKind} {a b : Int} (hx : ev cx.n base L x = .int k a) (hy : ev cx.n base L y = .int k b) (hb : b ≠ 0)
    (h : JG cx md ops Q rest base ((d, .int k (a.tmod b)) :: L) own ro) : JG cx md ops Q ((⟨some d, .binOp .rem xt x y yt, ty, pos, aft, none⟩, q) :: rest) base L own ro :=
  qt (fun w _ => by
    simp [execOp, hx, hy, binOp, Op.intDiv, eqGuard_at_int, hb]) h
end
end Go.PW
namespace Go.PW
open Enc (enc val)
open Go
section
variable {cx : Cx} {md : Md} {ops : Array Oper} {Q : Exit → Act → World → Prop} {rest : List (Oper × Nat)} {kq : Nat} {base : Nat → Value} {L : List (Nat × Value)} {own ro : List Seg}
variable {q : Nat} {d : Nat} {ty : TypeId} {pos : String} {aft : Array Edge} {x y z : Operand} {xt yt : TypeId}
def Out (W : List Nat) (b c : Nat → Value) : Prop := ∀ t, W.any (Nat.beq t) = false → b t = c t
theorem out_self {W : List Nat} {g b : Nat → Value} : Out W (hav W g b) b := fun t h => by unfold hav; rw [h]; rfl
theorem out_hav {W W2 : List Nat} {g b c : Nat → Value} (hW : W2.all (fun t => W.any (Nat.beq t)) = true) (h : Out W c b) : Out W (hav W2 g c) b := fun t ht => by
  unfold hav
  cases hb : W2.any (Nat.beq t) with
  | false => exact h t ht
  | true =>
    obtain ⟨x, hx, he⟩ := List.any_eq_true.1 hb
    have := Nat.eq_of_beq_eq_true he; subst this
    have := List.all_eq_true.1 hW t hx
    rw [ht] at this; cases this
theorem out_look {W : List Nat} {b c : Nat → Value} {L : List (Nat × Value)} (hL : L.all (fun p => W.any (Nat.beq p.1)) = true) (h : Out W c b) : Out W (look c L) b := fun t ht => by
  rw [look_out fun p hp e => ?_]
  · exact h t ht
  · have := List.all_eq_true.1 hL p hp
    rw [e, ht] at this; cases this
theorem e_lp {Q0 : Exit → Act → World → Prop} {st : List Fr} {σ : Type} {I : σ → Prop} {Ls : σ → List (Nat × Value)} {owns ros : σ → List Seg} {W : List Nat} {base' : Nat → Value} {less : σ → Prop} (s : σ) (hb : Out W base base') (hI : I s) (hl : less s)
    (hm : Mt (look base L) (Ls s)) (hk : L.all (fun p => W.any (Nat.beq p.1)) = true) (ho : own = owns s) (hr : ro = ros s) :
    JE cx .normal Q0 (.lp (Hd cx I Ls owns ros W base' less) :: st) base L own ro := JE.mk fun w hw => by
  subst ho; subst hr
  refine ⟨s, hI, hl, ⟨look base L, A_ext fun t _ => ?_⟩, hw⟩
  refine (Mt.look hm t fun _ => ?_).symm
  unfold hav
  cases h : W.any (Nat.beq t) with
  | true => rfl
  | false =>
    simp only [cond_false]
    rw [look_out fun p hp e => ?_, hb t h]
    have := List.all_eq_true.1 hk p hp
    rw [e, h] at this; cases this
theorem eqbo {a b : Bool} {op : BinOp} (r : Bool) (hx : ev cx.n base L x = .bool a) (hy : ev cx.n base L y = .bool b) (hu : cx.P.underlying xt = some .bool) (hr : (match op with | .eql => some (a == b) | .neq => some (a != b) | _ => none) = some r)
    (h : JG cx md ops Q rest base ((d, .bool r) :: L) own ro) : JG cx md ops Q ((⟨some d, .binOp op xt x y yt, ty, pos, aft, none⟩, q) :: rest) base L own ro :=
  qt (fun w _ => by
    have h0 : ∀ op, eqGuard op xt x y (.bool a) (.bool b) = pure () := fun op => eqGuard_at_bool ..
    have h1 : binOp .eql xt (.bool a) (.bool b) = (do pure (.bool (← Op.equalIn (9999 + 1) xt (.bool a) (.bool b)))) := by cases a <;> rfl
    have h2 : binOp .neq xt (.bool a) (.bool b) = (do pure (.bool (!(← Op.equalIn (9999 + 1) xt (.bool a) (.bool b))))) := by cases a <;> rfl
    have h3 : (Op.equalIn (9999 + 1) xt (.bool a) (.bool b)).run cx.P w = .ok (a == b) w := by rw [run_equalIn_bool' w 9999 xt _ _ hu]
    cases op <;> dsimp only at hr <;> cases hr
    · simp only [execOp, hx, hy, h0, h1, Sem.run_bind, Sem.run_pure, Result.andThen_ok, h3]
    · simp only [execOp, hx, hy, h0, h2, Sem.run_bind, Sem.run_pure, Result.andThen_ok, h3]; rfl) h
theorem g_und {l : List (Oper × Nat)} {t j dd : Nat} {op : Op} {b : Bool}
    (hj : (ops[j]?).bind (·.dst) = some dd) (hd : Nat.blt dd cx.n = true) (hl : look base L dd = undef)
    (h : JG cx md ops Q l base ((t, undef) :: L) own ro) : JG cx md ops Q ((⟨some t, op, ty, pos, aft, some (j, b)⟩, q) :: l) base L own ro := by
  have hdn : dd < cx.n := Nat.ble_eq.mp hd
  have hw : Region.wanted ⟨some t, op, ty, pos, aft, some (j, b)⟩ (yielded ops (A cx.n base L).tmps) = false := by
    have : yielded ops (A cx.n base L).tmps j = none := by
      unfold yielded; rw [hj]; simp [A, hdn, hl, undef]
    simp [Region.wanted, this]
  unfold JG at *
  cases md with
  | pl =>
    intro w hin
    have h := h w hin
    simp only [List.map_cons, wpList]
    rw [if_neg (by rw [hw]; simp), A_put]
    exact h
  | dr S =>
    intro w hin hS
    have h := h w hin fun p hp => hS p (List.mem_cons_of_mem _ hp)
    cases q with
    | zero => exact ⟨undef, .inr ⟨hw, rfl⟩, by show wpPl _ _ _ _ _ ((A cx.n base L).put (some t) undef) w; rw [A_put]; exact h⟩
    | succ k =>
      simp only [wpPl]
      rw [if_neg (by rw [hw]; simp)]
      show _ ∧ wpPl _ _ _ _ _ ((A cx.n base L).put (some t) undef) w
      rw [A_put]
      exact ⟨fun e => hS _ (List.mem_cons_self ..) (by subst e; exact Nat.lt_succ_self 1), h⟩
theorem j_re {l : List (Oper × Nat)} (d : Nat) (v' : Value) (hv : look base L d = v') (h : JG cx md ops Q l base ((d, v') :: L) own ro) : JG cx md ops Q l base L own ro := by
  unfold JG at *; rw [A_same hv] at h; exact h
theorem j_addE {l : List (Oper × Nat)} (h : JG cx .pl ops Q l base L (own ++ [[]]) ro) : JG cx .pl ops Q l base L own ro := by
  unfold JG at h ⊢
  exact fun w hw => h w hw.addE
end
end Go.PW
namespace Go.PW
open Enc (enc val)
open Go
structure F64 where
  b : UInt64
  deriving DecidableEq
instance : Enc F64 := ⟨1, fun x => [.float .f64 x.b.toNat], fun x => .float .f64 x.b.toNat, false, fun _ => rfl, fun _ => .inr ⟨rfl, rfl⟩, fun x u hu => by rw [List.mem_singleton] at hu; subst hu; rfl⟩
theorem wrapU8 (n : Int) : IntKind.u8.wrap n = n % 256 := by simp [IntKind.wrap, IntKind.bits, IntKind.signed]
theorem wrapU32 (n : Int) : IntKind.u32.wrap n = n % 4294967296 := by simp [IntKind.wrap, IntKind.bits, IntKind.signed]
theorem wrapU64 (n : Int) : IntKind.u64.wrap n = n % 18446744073709551616 := by simp [IntKind.wrap, IntKind.bits, IntKind.signed]
theorem wrapI32 (n : Int) : IntKind.i32.wrap n = (n + 2147483648) % 4294967296 - 2147483648 := by
  simp [IntKind.wrap, IntKind.bits, IntKind.signed]; split <;> omega
theorem wrapI64 (n : Int) : IntKind.i64.wrap n = (n + 9223372036854775808) % 18446744073709551616 - 9223372036854775808 := by
  simp [IntKind.wrap, IntKind.bits, IntKind.signed]; split <;> omega
theorem wI64 {n : Int} (h : -9223372036854775808 ≤ n ∧ n ≤ 9223372036854775807) : IntKind.i64.wrap n = n := by rw [wrapI64]; omega
theorem i32w {n : Int} (h : -2147483648 ≤ n ∧ n ≤ 2147483647) : IntKind.i32.wrap n = n := by rw [wrapI32]; omega
section
variable {cx : Cx} {md : Md} {ops : Array Oper} {Q : Exit → Act → World → Prop} {rest : List (Oper × Nat)} {kq : Nat} {base : Nat → Value} {L : List (Nat × Value)} {own ro : List Seg}
variable {q : Nat} {d : Nat} {ty : TypeId} {pos : String} {aft : Array Edge} {x y z : Operand} {xt yt : TypeId} {k k2 : IntKind}
theorem bopI {op : BinOp} {a b : Int} (r : Value) (hx : ev cx.n base L x = .int k a) (hy : ev cx.n base L y = .int k2 b) (hr : binOp op xt (.int k a) (.int k2 b) = pure r)
    (h : JG cx md ops Q rest base ((d, r) :: L) own ro) : JG cx md ops Q ((⟨some d, .binOp op xt x y yt, ty, pos, aft, none⟩, q) :: rest) base L own ro :=
  qt (fun w _ => by simp only [execOp, hx, hy, eqGuard_at_int, hr, Sem.run_bind, Sem.run_pure, Result.andThen_ok]) h
theorem cvI {ds : TypeDesc} {src dst : TypeId} {a : Int} (r : Int) (hx : ev cx.n base L x = .int k a) (hs : cx.P.underlying src = some ds) (hd : cx.P.underlying dst = some (.int k2)) (hr : k2.wrap a = r)
    (h : JG cx md ops Q rest base ((d, .int k2 r) :: L) own ro) : JG cx md ops Q ((⟨some d, .convert src dst x, ty, pos, aft, none⟩, q) :: rest) base L own ro :=
  cvi hx hs hd (by rw [hr]; exact h)
theorem negI {a : Int} (hx : ev cx.n base L x = .int .i64 a) (hr : -9223372036854775807 ≤ a ∧ a ≤ 9223372036854775807)
    (h : JG cx md ops Q rest base ((d, .int .i64 (-a)) :: L) own ro) : JG cx md ops Q ((⟨some d, .unOp .neg xt x, ty, pos, aft, none⟩, q) :: rest) base L own ro :=
  qt (fun w _ => by
    have : IntKind.i64.wrap (0 - a) = -a := by rw [wrapI64]; omega
    simp only [execOp, hx, Op.unary, Op.intArith, this, Sem.run_bind, Sem.run_pure, Result.andThen_ok]) h
theorem negW {a : Int} (hx : ev cx.n base L x = .int k a) (h : JG cx md ops Q rest base ((d, .int k (k.wrap (0 - a))) :: L) own ro) : JG cx md ops Q ((⟨some d, .unOp .neg xt x, ty, pos, aft, none⟩, q) :: rest) base L own ro :=
  qt (fun w _ => by simp only [execOp, hx, Op.unary, Op.intArith, Sem.run_bind, Sem.run_pure, Result.andThen_ok]) h
theorem quoi {a b : Int} (hx : ev cx.n base L x = .int .i64 a) (hy : ev cx.n base L y = .int .i64 b) (hb : b ≠ 0) (hr : -9223372036854775808 ≤ a.tdiv b ∧ a.tdiv b ≤ 9223372036854775807)
    (h : JG cx md ops Q rest base ((d, .int .i64 (a.tdiv b)) :: L) own ro) : JG cx md ops Q ((⟨some d, .binOp .quo xt x y yt, ty, pos, aft, none⟩, q) :: rest) base L own ro :=
  bopI _ hx hy (by simp only [binOp, ne_eq, not_true_eq_false, if_false, Op.intDiv, hb]; rw [show IntKind.i64.wrap (a.tdiv b) = a.tdiv b from i64w hr]) h
def fcv (op : BinOp) (a b : Nat) : Option Bool :=
  match op with
  | .eql => some (Ieee.double.order a b == some .eq)
  | .neq => some (Ieee.double.order a b != some .eq)
  | .lss => some (Ieee.double.order a b == some .lt)
  | .leq => some (Ieee.double.order a b == some .lt || Ieee.double.order a b == some .eq)
  | .gtr => some (Ieee.double.order a b == some .gt)
  | .geq => some (Ieee.double.order a b == some .gt || Ieee.double.order a b == some .eq)
  | _ => none
def fEq (a b : Nat) : Bool := Ieee.double.order a b == some .eq
def fNe (a b : Nat) : Bool := Ieee.double.order a b != some .eq
def fGt (a b : Nat) : Bool := Ieee.double.order a b == some .gt
theorem fcmp {op : BinOp} {a b : Nat} (r : Bool) (hx : ev cx.n base L x = .float .f64 a) (hy : ev cx.n base L y = .float .f64 b) (hr : fcv op a b = some r)
    (h : JG cx md ops Q rest base ((d, .bool r) :: L) own ro) : JG cx md ops Q ((⟨some d, .binOp op xt x y yt, ty, pos, aft, none⟩, q) :: rest) base L own ro :=
  qt (fun w _ => by
    have h1 : binOp op xt (.float .f64 a) (.float .f64 b) = pure (.bool r) := by
      cases op <;> simp only [fcv, Option.some.injEq, reduceCtorEq] at hr <;> subst hr <;> rfl
    simp only [execOp, hx, hy, eqGuard_at_float, h1, Sem.run_bind, Sem.run_pure, Result.andThen_ok]) h
theorem xcal {f : Nat} {fn : Func} {xs : Array Operand} {ts : Array TypeId} {args : List Value} (v : Value) (hf : cx.P.funcs[f]? = some fn) (hname : (fn.name == "runtime.NumGoroutine") = false) (hb : fn.body.isNone = true)
    (he : (match Extern.findNext fn with | some _ => false | none => true) = true) (hfind : ∀ w, (match Extern.find fn with | some e => (e ⟨args⟩).run cx.P w | none => .ok undef w) = .ok v w) (hsome : (Extern.find fn).isSome = true)
    (hargs : xs.toList.map (ev cx.n base L) = args) (h : JG cx md ops Q rest base ((d, v) :: L) own ro) :
    JG cx md ops Q ((⟨some d, .call ⟨.value (.func f), xs, ts⟩, ty, pos, aft, none⟩, q) :: rest) base L own ro :=
  qt (fun w _ => by
    obtain ⟨e, hee⟩ := Option.isSome_iff_exists.1 hsome
    have hrun : (e ⟨args⟩).run cx.P w = .ok v w := by
      have := hfind w
      rw [hee] at this
      exact this
    have hnext : Extern.findNext fn = none := by
      cases hn : Extern.findNext fn with
      | none => rfl
      | some _ => rw [hn] at he; simp at he
    have hcf : (callFunc f ⟨args⟩).run cx.P w = .ok (.value v) w := by
      simp only [callFunc, Sem.run_bind, run_program, Result.andThen_ok, hf, hname, hb, Bool.false_eq_true, if_false, if_true, mark, Sem.run, hnext, hee, hrun, Sem.run_pure]
    have hfv : ev cx.n base L (.func f) = .func (.func f) #[] #[] := rfl
    have ha : xs.map (ev cx.n base L) = ⟨args⟩ := by rw [← hargs]; simp [Array.ext_iff]
    simp only [execOp, resolve, hfv, Deferred.ofValue, ha, Sem.run_bind, Sem.run_pure, Result.andThen_ok, invoke, Array.append_empty, Array.empty_append, hcf]) h
theorem bvU8 (a : UInt8) : BitVec.ofInt IntKind.u8.bits ((a.toNat : Nat) : Int) = a.toBitVec := by
  apply BitVec.eq_of_toNat_eq
  rw [BitVec.toNat_ofInt]
  have := a.toNat_lt
  show ((((a.toNat : Nat) : Int) % ((2 ^ 8 : Nat) : Int)).toNat) = a.toNat
  rw [show ((2 ^ 8 : Nat) : Int) = 256 by rfl]
  omega
theorem wrapTU8 (a : UInt8) : IntKind.u8.wrap ((a.toNat : Nat) : Int) = ((a.toNat : Nat) : Int) := by
  have := a.toNat_lt
  rw [wrapU8]; omega
def shlU8 (a : UInt8) (n : Nat) : UInt8 := UInt8.ofNat (a.toNat <<< n)
theorem shlU8_toNat (a : UInt8) (n : Nat) : (shlU8 a n).toNat = (a.toNat * 2 ^ n) % 256 := by simp [shlU8, Nat.shiftLeft_eq]
section
variable {a b : UInt8}
theorem addU8 (hx : ev cx.n base L x = .int .u8 a.toNat) (hy : ev cx.n base L y = .int .u8 b.toNat) (h : JG cx md ops Q rest base ((d, .int .u8 (a + b).toNat) :: L) own ro) : JG cx md ops Q ((⟨some d, .binOp .add xt x y yt, ty, pos, aft, none⟩, q) :: rest) base L own ro :=
  bopI _ hx hy (by
    show pure (Value.int .u8 (IntKind.u8.wrap ((a.toNat : Int) + b.toNat))) = _
    rw [wrapU8, UInt8.toNat_add]
    congr 2) h
theorem subU8 (hx : ev cx.n base L x = .int .u8 a.toNat) (hy : ev cx.n base L y = .int .u8 b.toNat) (h : JG cx md ops Q rest base ((d, .int .u8 (a - b).toNat) :: L) own ro) : JG cx md ops Q ((⟨some d, .binOp .sub xt x y yt, ty, pos, aft, none⟩, q) :: rest) base L own ro :=
  bopI _ hx hy (by
    show pure (Value.int .u8 (IntKind.u8.wrap ((a.toNat : Int) - b.toNat))) = _
    have h1 := a.toNat_lt
    have h2 := b.toNat_lt
    rw [wrapU8, UInt8.toNat_sub]
    congr 2
    omega) h
theorem andU8 (hx : ev cx.n base L x = .int .u8 a.toNat) (hy : ev cx.n base L y = .int .u8 b.toNat) (h : JG cx md ops Q rest base ((d, .int .u8 (a &&& b).toNat) :: L) own ro) : JG cx md ops Q ((⟨some d, .binOp .and xt x y yt, ty, pos, aft, none⟩, q) :: rest) base L own ro :=
  bopI _ hx hy (by
    show pure (Value.int .u8 (IntKind.u8.wrap ((BitVec.ofInt IntKind.u8.bits (a.toNat : Int) &&& BitVec.ofInt IntKind.u8.bits (b.toNat : Int)).toNat : Nat))) = _
    rw [bvU8, bvU8]
    exact congrArg (fun n => pure (Value.int .u8 n)) (wrapTU8 (a &&& b))) h
theorem orU8 (hx : ev cx.n base L x = .int .u8 a.toNat) (hy : ev cx.n base L y = .int .u8 b.toNat) (h : JG cx md ops Q rest base ((d, .int .u8 (a ||| b).toNat) :: L) own ro) : JG cx md ops Q ((⟨some d, .binOp .or xt x y yt, ty, pos, aft, none⟩, q) :: rest) base L own ro :=
  bopI _ hx hy (by
    show pure (Value.int .u8 (IntKind.u8.wrap ((BitVec.ofInt IntKind.u8.bits (a.toNat : Int) ||| BitVec.ofInt IntKind.u8.bits (b.toNat : Int)).toNat : Nat))) = _
    rw [bvU8, bvU8]
    exact congrArg (fun n => pure (Value.int .u8 n)) (wrapTU8 (a ||| b))) h
theorem shlRU8 {i : Int} (n : Nat) (hx : ev cx.n base L x = .int .u8 a.toNat) (hy : ev cx.n base L y = .int k2 i) (hn : i = (n : Int)) (h : JG cx md ops Q rest base ((d, .int .u8 (shlU8 a n).toNat) :: L) own ro) : JG cx md ops Q ((⟨some d, .binOp .shl xt x y yt, ty, pos, aft, none⟩, q) :: rest) base L own ro :=
  bopI _ hx hy (by
    subst hn
    show Op.shift .shl .u8 _ k2 _ = _
    rw [shift_shl_any _ _ _ _ (by omega), wrapU8, shlU8_toNat, Int.toNat_natCast, show IntKind.u8.bits = 8 from rfl]
    congr 2
    rcases Nat.lt_or_ge n 8 with h | h
    · rw [Nat.min_eq_left (by omega), Int.natCast_emod, Int.natCast_mul, Int.natCast_pow]; rfl
    · rw [Nat.min_eq_right h]
      obtain ⟨j, rfl⟩ := Nat.exists_eq_add_of_le h
      rw [Nat.pow_add, ← Nat.mul_assoc, Nat.mul_right_comm, show (2 : Nat) ^ 8 = 256 by rfl, Nat.mul_mod_left, show (2 : Int) ^ 8 = 256 by rfl, Int.mul_emod_left]; rfl) h
end
theorem cvNU8 {ds : TypeDesc} {src dst : TypeId} {n : Nat} (hx : ev cx.n base L x = .int k (n : Int)) (hs : cx.P.underlying src = some ds) (hd : cx.P.underlying dst = some (.int .u8))
    (h : JG cx md ops Q rest base ((d, .int .u8 (UInt8.ofNat n).toNat) :: L) own ro) : JG cx md ops Q ((⟨some d, .convert src dst x, ty, pos, aft, none⟩, q) :: rest) base L own ro :=
  cvI _ hx hs hd (by rw [wrapU8, UInt8.toNat_ofNat']; omega) h
theorem cvZU8 {ds : TypeDesc} {src dst : TypeId} {n : Int} (hx : ev cx.n base L x = .int k n) (hs : cx.P.underlying src = some ds) (hd : cx.P.underlying dst = some (.int .u8))
    (h : JG cx md ops Q rest base ((d, .int .u8 (UInt8.ofInt n).toNat) :: L) own ro) : JG cx md ops Q ((⟨some d, .convert src dst x, ty, pos, aft, none⟩, q) :: rest) base L own ro :=
  cvI _ hx hs hd (by rw [wrapU8]; show _ = (((UInt8.ofNat (n % 2 ^ 8).toNat).toNat : Nat) : Int); rw [UInt8.toNat_ofNat']; omega) h
section
variable {a b : UInt16}
end
theorem wrapTU32 (a : UInt32) : IntKind.u32.wrap ((a.toNat : Nat) : Int) = ((a.toNat : Nat) : Int) := by
  have := a.toNat_lt
  rw [wrapU32]; omega
section
variable {a b : UInt32}
theorem addU32 (hx : ev cx.n base L x = .int .u32 a.toNat) (hy : ev cx.n base L y = .int .u32 b.toNat) (h : JG cx md ops Q rest base ((d, .int .u32 (a + b).toNat) :: L) own ro) : JG cx md ops Q ((⟨some d, .binOp .add xt x y yt, ty, pos, aft, none⟩, q) :: rest) base L own ro :=
  bopI _ hx hy (by
    show pure (Value.int .u32 (IntKind.u32.wrap ((a.toNat : Int) + b.toNat))) = _
    rw [wrapU32, UInt32.toNat_add]
    congr 2) h
theorem mulU32 (hx : ev cx.n base L x = .int .u32 a.toNat) (hy : ev cx.n base L y = .int .u32 b.toNat) (h : JG cx md ops Q rest base ((d, .int .u32 (a * b).toNat) :: L) own ro) : JG cx md ops Q ((⟨some d, .binOp .mul xt x y yt, ty, pos, aft, none⟩, q) :: rest) base L own ro :=
  bopI _ hx hy (by
    show pure (Value.int .u32 (IntKind.u32.wrap ((a.toNat : Int) * b.toNat))) = _
    rw [wrapU32, UInt32.toNat_mul, Int.natCast_emod, Int.natCast_mul]; rfl) h
theorem quoU32 (hx : ev cx.n base L x = .int .u32 a.toNat) (hy : ev cx.n base L y = .int .u32 b.toNat) (hb : b ≠ 0) (h : JG cx md ops Q rest base ((d, .int .u32 (a / b).toNat) :: L) own ro) : JG cx md ops Q ((⟨some d, .binOp .quo xt x y yt, ty, pos, aft, none⟩, q) :: rest) base L own ro :=
  bopI _ hx hy (by
    have hb0 : ¬ ((b.toNat : Nat) : Int) = 0 := fun e => hb (UInt32.toNat_inj.1 (by simpa using e))
    show (if ((b.toNat : Nat) : Int) = 0 then _ else pure (Value.int .u32 (IntKind.u32.wrap ((a.toNat : Int).tdiv b.toNat)))) = _
    rw [if_neg hb0, ← Int.ofNat_tdiv, ← UInt32.toNat_div, wrapTU32]) h
theorem remU32 (hx : ev cx.n base L x = .int .u32 a.toNat) (hy : ev cx.n base L y = .int .u32 b.toNat) (hb : b ≠ 0) (h : JG cx md ops Q rest base ((d, .int .u32 (a % b).toNat) :: L) own ro) : JG cx md ops Q ((⟨some d, .binOp .rem xt x y yt, ty, pos, aft, none⟩, q) :: rest) base L own ro :=
  bopI _ hx hy (by
    have hb0 : ¬ ((b.toNat : Nat) : Int) = 0 := fun e => hb (UInt32.toNat_inj.1 (by simpa using e))
    show (if ((b.toNat : Nat) : Int) = 0 then _ else pure (Value.int .u32 ((a.toNat : Int).tmod b.toNat))) = _
    rw [if_neg hb0, UInt32.toNat_mod, Int.natCast_emod, Int.tmod_eq_emod_of_nonneg (by omega)]) h
end
theorem cvNU32 {ds : TypeDesc} {src dst : TypeId} {n : Nat} (hx : ev cx.n base L x = .int k (n : Int)) (hs : cx.P.underlying src = some ds) (hd : cx.P.underlying dst = some (.int .u32))
    (h : JG cx md ops Q rest base ((d, .int .u32 (UInt32.ofNat n).toNat) :: L) own ro) : JG cx md ops Q ((⟨some d, .convert src dst x, ty, pos, aft, none⟩, q) :: rest) base L own ro :=
  cvI _ hx hs hd (by rw [wrapU32, UInt32.toNat_ofNat']; omega) h
theorem bvU64 (a : UInt64) : BitVec.ofInt IntKind.u64.bits ((a.toNat : Nat) : Int) = a.toBitVec := by
  apply BitVec.eq_of_toNat_eq
  rw [BitVec.toNat_ofInt]
  have := a.toNat_lt
  show ((((a.toNat : Nat) : Int) % ((2 ^ 64 : Nat) : Int)).toNat) = a.toNat
  rw [show ((2 ^ 64 : Nat) : Int) = 18446744073709551616 by rfl]
  omega
theorem wrapTU64 (a : UInt64) : IntKind.u64.wrap ((a.toNat : Nat) : Int) = ((a.toNat : Nat) : Int) := by
  have := a.toNat_lt
  rw [wrapU64]; omega
def shlU64 (a : UInt64) (n : Nat) : UInt64 := UInt64.ofNat (a.toNat <<< n)
def shrU64 (a : UInt64) (n : Nat) : UInt64 := UInt64.ofNat (a.toNat >>> n)
theorem shlU64_toNat (a : UInt64) (n : Nat) : (shlU64 a n).toNat = (a.toNat * 2 ^ n) % 18446744073709551616 := by simp [shlU64, Nat.shiftLeft_eq]
theorem shrU64_toNat (a : UInt64) (n : Nat) : (shrU64 a n).toNat = a.toNat / 2 ^ n := by
  have h := a.toNat_lt
  have h2 : a.toNat / 2 ^ n ≤ a.toNat := Nat.div_le_self _ _
  simp only [shrU64, Nat.shiftRight_eq_div_pow, UInt64.toNat_ofNat']
  exact Nat.mod_eq_of_lt (by omega)
section
variable {a b : UInt64}
theorem addU64 (hx : ev cx.n base L x = .int .u64 a.toNat) (hy : ev cx.n base L y = .int .u64 b.toNat) (h : JG cx md ops Q rest base ((d, .int .u64 (a + b).toNat) :: L) own ro) : JG cx md ops Q ((⟨some d, .binOp .add xt x y yt, ty, pos, aft, none⟩, q) :: rest) base L own ro :=
  bopI _ hx hy (by
    show pure (Value.int .u64 (IntKind.u64.wrap ((a.toNat : Int) + b.toNat))) = _
    rw [wrapU64, UInt64.toNat_add]
    congr 2) h
theorem subU64 (hx : ev cx.n base L x = .int .u64 a.toNat) (hy : ev cx.n base L y = .int .u64 b.toNat) (h : JG cx md ops Q rest base ((d, .int .u64 (a - b).toNat) :: L) own ro) : JG cx md ops Q ((⟨some d, .binOp .sub xt x y yt, ty, pos, aft, none⟩, q) :: rest) base L own ro :=
  bopI _ hx hy (by
    show pure (Value.int .u64 (IntKind.u64.wrap ((a.toNat : Int) - b.toNat))) = _
    have h1 := a.toNat_lt
    have h2 := b.toNat_lt
    rw [wrapU64, UInt64.toNat_sub]
    congr 2
    omega) h
theorem mulU64 (hx : ev cx.n base L x = .int .u64 a.toNat) (hy : ev cx.n base L y = .int .u64 b.toNat) (h : JG cx md ops Q rest base ((d, .int .u64 (a * b).toNat) :: L) own ro) : JG cx md ops Q ((⟨some d, .binOp .mul xt x y yt, ty, pos, aft, none⟩, q) :: rest) base L own ro :=
  bopI _ hx hy (by
    show pure (Value.int .u64 (IntKind.u64.wrap ((a.toNat : Int) * b.toNat))) = _
    rw [wrapU64, UInt64.toNat_mul, Int.natCast_emod, Int.natCast_mul]; rfl) h
theorem andU64 (hx : ev cx.n base L x = .int .u64 a.toNat) (hy : ev cx.n base L y = .int .u64 b.toNat) (h : JG cx md ops Q rest base ((d, .int .u64 (a &&& b).toNat) :: L) own ro) : JG cx md ops Q ((⟨some d, .binOp .and xt x y yt, ty, pos, aft, none⟩, q) :: rest) base L own ro :=
  bopI _ hx hy (by
    show pure (Value.int .u64 (IntKind.u64.wrap ((BitVec.ofInt IntKind.u64.bits (a.toNat : Int) &&& BitVec.ofInt IntKind.u64.bits (b.toNat : Int)).toNat : Nat))) = _
    rw [bvU64, bvU64]
    exact congrArg (fun n => pure (Value.int .u64 n)) (wrapTU64 (a &&& b))) h
theorem orU64 (hx : ev cx.n base L x = .int .u64 a.toNat) (hy : ev cx.n base L y = .int .u64 b.toNat) (h : JG cx md ops Q rest base ((d, .int .u64 (a ||| b).toNat) :: L) own ro) : JG cx md ops Q ((⟨some d, .binOp .or xt x y yt, ty, pos, aft, none⟩, q) :: rest) base L own ro :=
  bopI _ hx hy (by
    show pure (Value.int .u64 (IntKind.u64.wrap ((BitVec.ofInt IntKind.u64.bits (a.toNat : Int) ||| BitVec.ofInt IntKind.u64.bits (b.toNat : Int)).toNat : Nat))) = _
    rw [bvU64, bvU64]
    exact congrArg (fun n => pure (Value.int .u64 n)) (wrapTU64 (a ||| b))) h
theorem andNotU64 (hx : ev cx.n base L x = .int .u64 a.toNat) (hy : ev cx.n base L y = .int .u64 b.toNat) (h : JG cx md ops Q rest base ((d, .int .u64 (a &&& ~~~b).toNat) :: L) own ro) : JG cx md ops Q ((⟨some d, .binOp .andNot xt x y yt, ty, pos, aft, none⟩, q) :: rest) base L own ro :=
  bopI _ hx hy (by
    show pure (Value.int .u64 (IntKind.u64.wrap ((BitVec.ofInt IntKind.u64.bits (a.toNat : Int) &&& ~~~ BitVec.ofInt IntKind.u64.bits (b.toNat : Int)).toNat : Nat))) = _
    rw [bvU64, bvU64]
    exact congrArg (fun n => pure (Value.int .u64 n)) (wrapTU64 (a &&& ~~~b))) h
theorem quoU64 (hx : ev cx.n base L x = .int .u64 a.toNat) (hy : ev cx.n base L y = .int .u64 b.toNat) (hb : b ≠ 0) (h : JG cx md ops Q rest base ((d, .int .u64 (a / b).toNat) :: L) own ro) : JG cx md ops Q ((⟨some d, .binOp .quo xt x y yt, ty, pos, aft, none⟩, q) :: rest) base L own ro :=
  bopI _ hx hy (by
    have hb0 : ¬ ((b.toNat : Nat) : Int) = 0 := fun e => hb (UInt64.toNat_inj.1 (by simpa using e))
    show (if ((b.toNat : Nat) : Int) = 0 then _ else pure (Value.int .u64 (IntKind.u64.wrap ((a.toNat : Int).tdiv b.toNat)))) = _
    rw [if_neg hb0, ← Int.ofNat_tdiv, ← UInt64.toNat_div, wrapTU64]) h
theorem remU64 (hx : ev cx.n base L x = .int .u64 a.toNat) (hy : ev cx.n base L y = .int .u64 b.toNat) (hb : b ≠ 0) (h : JG cx md ops Q rest base ((d, .int .u64 (a % b).toNat) :: L) own ro) : JG cx md ops Q ((⟨some d, .binOp .rem xt x y yt, ty, pos, aft, none⟩, q) :: rest) base L own ro :=
  bopI _ hx hy (by
    have hb0 : ¬ ((b.toNat : Nat) : Int) = 0 := fun e => hb (UInt64.toNat_inj.1 (by simpa using e))
    show (if ((b.toNat : Nat) : Int) = 0 then _ else pure (Value.int .u64 ((a.toNat : Int).tmod b.toNat))) = _
    rw [if_neg hb0, UInt64.toNat_mod, Int.natCast_emod, Int.tmod_eq_emod_of_nonneg (by omega)]) h
theorem shlRU64 {i : Int} (n : Nat) (hx : ev cx.n base L x = .int .u64 a.toNat) (hy : ev cx.n base L y = .int k2 i) (hn : i = (n : Int)) (h : JG cx md ops Q rest base ((d, .int .u64 (shlU64 a n).toNat) :: L) own ro) : JG cx md ops Q ((⟨some d, .binOp .shl xt x y yt, ty, pos, aft, none⟩, q) :: rest) base L own ro :=
  bopI _ hx hy (by
    subst hn
    show Op.shift .shl .u64 _ k2 _ = _
    rw [shift_shl_any _ _ _ _ (by omega), wrapU64, shlU64_toNat, Int.toNat_natCast, show IntKind.u64.bits = 64 from rfl]
    congr 2
    rcases Nat.lt_or_ge n 64 with h | h
    · rw [Nat.min_eq_left (by omega), Int.natCast_emod, Int.natCast_mul, Int.natCast_pow]; rfl
    · rw [Nat.min_eq_right h]
      obtain ⟨j, rfl⟩ := Nat.exists_eq_add_of_le h
      rw [Nat.pow_add, ← Nat.mul_assoc, Nat.mul_right_comm, show (2 : Nat) ^ 64 = 18446744073709551616 by rfl, Nat.mul_mod_left, show (2 : Int) ^ 64 = 18446744073709551616 by rfl, Int.mul_emod_left]; rfl) h
theorem shrRU64 {i : Int} (n : Nat) (hx : ev cx.n base L x = .int .u64 a.toNat) (hy : ev cx.n base L y = .int k2 i) (hn : i = (n : Int)) (h : JG cx md ops Q rest base ((d, .int .u64 (shrU64 a n).toNat) :: L) own ro) : JG cx md ops Q ((⟨some d, .binOp .shr xt x y yt, ty, pos, aft, none⟩, q) :: rest) base L own ro :=
  bopI _ hx hy (by
    subst hn
    show Op.shift .shr .u64 _ k2 _ = _
    rw [shift_shr_any _ _ _ _ (by omega), shrU64_toNat, Int.toNat_natCast, show IntKind.u64.bits = 64 from rfl]
    congr 2
    have ha := a.toNat_lt
    rcases Nat.lt_or_ge n 64 with h | h
    · rw [Nat.min_eq_left (by omega), Int.natCast_ediv, Int.natCast_pow]; rfl
    · rw [Nat.min_eq_right h, Nat.div_eq_of_lt (Nat.lt_of_lt_of_le ha (Nat.pow_le_pow_right (by decide) h)), show (2 : Int) ^ 64 = 18446744073709551616 by rfl]
      omega) h
end
theorem cvNU64 {ds : TypeDesc} {src dst : TypeId} {n : Nat} (hx : ev cx.n base L x = .int k (n : Int)) (hs : cx.P.underlying src = some ds) (hd : cx.P.underlying dst = some (.int .u64))
    (h : JG cx md ops Q rest base ((d, .int .u64 (UInt64.ofNat n).toNat) :: L) own ro) : JG cx md ops Q ((⟨some d, .convert src dst x, ty, pos, aft, none⟩, q) :: rest) base L own ro :=
  cvI _ hx hs hd (by rw [wrapU64, UInt64.toNat_ofNat']; omega) h
theorem cvZU64 {ds : TypeDesc} {src dst : TypeId} {n : Int} (hx : ev cx.n base L x = .int k n) (hs : cx.P.underlying src = some ds) (hd : cx.P.underlying dst = some (.int .u64))
    (h : JG cx md ops Q rest base ((d, .int .u64 (UInt64.ofInt n).toNat) :: L) own ro) : JG cx md ops Q ((⟨some d, .convert src dst x, ty, pos, aft, none⟩, q) :: rest) base L own ro :=
  cvI _ hx hs hd (by rw [wrapU64]; show _ = (((UInt64.ofNat (n % 2 ^ 64).toNat).toNat : Nat) : Int); rw [UInt64.toNat_ofNat']; omega) h
end
end Go.PW
namespace Go.PW
open Enc (enc val)
open Go
abbrev Str := List UInt8
abbrev strV (l : Str) : Value := .string ⟨⟨l⟩⟩
instance : Enc (List UInt8) := ⟨1, fun x => [strV x], fun x => strV x, false, fun _ => rfl, fun _ => .inr ⟨rfl, rfl⟩, fun x u hu => by rw [List.mem_singleton] at hu; subst hu; rfl⟩
theorem toList_mk (l : Str) : (⟨⟨l⟩⟩ : ByteArray).toList = l := ByteArray.toList_eq _
theorem list_beq (a b : Str) : (a == b) = decide (a = b) := by
  rw [Bool.eq_iff_iff]; simp
section
variable {cx : Cx} {md : Md} {ops : Array Oper} {Q : Exit → Act → World → Prop} {rest : List (Oper × Nat)} {kq : Nat} {base : Nat → Value} {L : List (Nat × Value)} {own ro : List Seg}
variable {q : Nat} {d : Nat} {ty : TypeId} {pos : String} {aft : Array Edge} {x y z : Operand} {xt yt : TypeId} {k : IntKind}
theorem encs_bytes (s : Str) : encs s = s.map fun b => Value.int .u8 b.toNat := by
  induction s with
  | nil => rfl
  | cons a r ih => simp only [encs, List.flatMap_cons, List.map_cons] at ih ⊢; rw [ih]; rfl
theorem lenT {s : Str} (hx : ev cx.n base L x = strV s) (hu : cx.P.underlying xt = some .string)
    (h : JG cx md ops Q rest base ((d, .int .i64 (s.length : Int)) :: L) own ro) : JG cx md ops Q ((⟨some d, .call ⟨.builtin .len, #[x], #[xt]⟩, ty, pos, aft, none⟩, q) :: rest) base L own ro :=
  lenStr hx hu h
theorem idxT {s : Str} {i : Int} (j : Nat) (hx : ev cx.n base L x = strV s) (hy : ev cx.n base L y = .int k i) (hu : cx.P.underlying xt = some .string) (hi : i = (j : Int)) (hj : j < s.length)
    (h : JG cx md ops Q rest base ((d, .int .u8 (s.getD j 0).toNat) :: L) own ro) : JG cx md ops Q ((⟨some d, .index xt x y, ty, pos, aft, none⟩, q) :: rest) base L own ro :=
  qt (fun w _ => by
    subst hi
    have he : s.getD j 0 = s[j] := by rw [List.getD_eq_getElem?_getD, List.getElem?_eq_getElem hj]; rfl
    rw [he]
    have h0 : (⟨⟨s⟩⟩ : ByteArray)[j]? = some s[j] := getElem?_pos (⟨⟨s⟩⟩ : ByteArray) j hj
    simp [execOp, hx, hy, Instr.index, asIntOf, run_underlying hu, h0]) h
theorem extract_l (s : Str) (a b : Nat) : (⟨⟨s⟩⟩ : ByteArray).extract a b = ⟨⟨(s.drop a).take (b - a)⟩⟩ := by
  rw [ByteArray.extract_mk]
theorem cutT {s : Str} {lo hi : Option Operand} (l h : Nat) (hx : ev cx.n base L x = strV s) (hu : cx.P.underlying xt = some .string)
    (hlo : match lo with | none => l = 0 | some o => ∃ k, ev cx.n base L o = .int k (l : Int)) (hhi : match hi with | none => h = s.length | some o => ∃ k, ev cx.n base L o = .int k (h : Int)) (hlh : l ≤ h) (hc : h ≤ s.length)
    (r : Str) (hr' : (s.drop l).take (h - l) = r)
    (hr : JG cx md ops Q rest base ((d, strV r) :: L) own ro) : JG cx md ops Q ((⟨some d, .slice xt x lo hi none, ty, pos, aft, none⟩, q) :: rest) base L own ro :=
  qt (fun w _ => by
    subst hr'
    have hb : ∀ (k : IntKind) (n m : Nat) (c : BoundsCode), n ≤ m → (Instr.sliceBound (.int k (n : Int)) m c).run cx.P w = .ok n w := fun k n m c hnm => by
      simp only [Instr.sliceBound, asIntOf, Sem.run_bind, Sem.run_pure, Result.andThen_ok]
      rw [if_pos ⟨Int.natCast_nonneg n, Int.ofNat_le.mpr hnm⟩]
      simp
    have hsz : (⟨⟨s⟩⟩ : ByteArray).size = s.length := rfl
    have h2 : (Instr.sliceBounds false (⟨⟨s⟩⟩ : ByteArray).size (⟨⟨s⟩⟩ : ByteArray).size (lo.map (ev cx.n base L)) (hi.map (ev cx.n base L)) none).run cx.P w = .ok (l, h, s.length) w := by
      rw [hsz]
      unfold Instr.sliceBounds
      cases hi with
      | none =>
        dsimp only at hhi; subst hhi
        cases lo with
        | none => dsimp only at hlo; subst hlo; simp
        | some o => obtain ⟨k, hk⟩ := hlo; simp [hk, hb k l s.length _ hlh]
      | some o' =>
        obtain ⟨k', hk'⟩ := hhi
        cases lo with
        | none => dsimp only at hlo; subst hlo; simp [hk', hb k' h s.length _ hc]
        | some o => obtain ⟨k, hk⟩ := hlo; simp [hk', hb k' h s.length _ hc, hk, hb k l h _ hlh]
    simp only [execOp, hx, Instr.sliceAt, Sem.run_bind, run_underlying hu, Result.andThen_ok, Instr.slice, Option.map_none, Option.isSome_none, Bool.false_eq_true, if_false, h2, Sem.run_pure, extract_l]) hr
def scv : BinOp → Str → Str → Option Bool
  | .eql, a, b => some (decide (a = b))
  | .neq, a, b => some (!decide (a = b))
  | .lss, a, b => some (Op.bytesLess a b)
  | .leq, a, b => some (Op.bytesLess a b || decide (a = b))
  | .gtr, a, b => some !(Op.bytesLess a b || decide (a = b))
  | .geq, a, b => some !(Op.bytesLess a b)
  | _, _, _ => none
theorem scmp {a b : Str} {op : BinOp} (r : Bool) (hx : ev cx.n base L x = strV a) (hy : ev cx.n base L y = strV b) (hu : cx.P.underlying xt = some .string) (hr : scv op a b = some r)
    (h : JG cx md ops Q rest base ((d, .bool r) :: L) own ro) : JG cx md ops Q ((⟨some d, .binOp op xt x y yt, ty, pos, aft, none⟩, q) :: rest) base L own ro :=
  qt (fun w _ => by
    have hg : (eqGuard op xt x y (strV a) (strV b)).run cx.P w = .ok () w := by
      unfold eqGuard
      cases op <;> simp_all [scv]
    cases op <;> simp only [scv, reduceCtorEq] at hr <;> cases hr <;> simp only [execOp, hx, hy, Sem.run_bind, hg, Result.andThen_ok, binOp, Op.stringOp, toList_mk, list_beq, Sem.run_pure]) h
theorem sadd {a b : Str} (hx : ev cx.n base L x = strV a) (hy : ev cx.n base L y = strV b) (hl : a.length + b.length ≤ 9223372036854775807)
    (h : JG cx md ops Q rest base ((d, strV (a ++ b)) :: L) own ro) : JG cx md ops Q ((⟨some d, .binOp .add xt x y yt, ty, pos, aft, none⟩, q) :: rest) base L own ro :=
  qt (fun w _ => by
    have hg : (eqGuard .add xt x y (strV a) (strV b)).run cx.P w = .ok () w := by unfold eqGuard; rfl
    have h1 : ((⟨⟨a⟩⟩ : ByteArray).size + (⟨⟨b⟩⟩ : ByteArray).size : Nat) = a.length + b.length := rfl
    have h2 : (⟨⟨a⟩⟩ : ByteArray) ++ ⟨⟨b⟩⟩ = ⟨⟨a ++ b⟩⟩ := by
      apply ByteArray.ext
      rw [ByteArray.data_append]
      apply Array.ext'; simp
    simp only [execOp, hx, hy, Sem.run_bind, hg, Result.andThen_ok, binOp, Op.stringOp, h1, h2]
    rw [if_neg (by simp only [IntKind.max, IntKind.bits, IntKind.signed, if_true]; omega)]
    simp only [Sem.run_pure, Result.andThen_ok]) h
theorem cvSB {s : Str} {src dst e : TypeId} {u : TypeDesc} (hx : ev cx.n base L x = strV s) (hs : cx.P.underlying src = some u) (hd : cx.P.underlying dst = some (.slice e)) (he : cx.P.underlying e = some (.int .u8))
    (h : ∀ (o : Ow), o.ok s → Keep md kq rest (own ++ [o.seg s e]) ro ∧ JG cx md ops Q rest base ((d, o.v s.length) :: L) (own ++ [o.seg s e]) ro) :
    JG cx md ops Q ((⟨some d, .convert src dst x, ty, pos, aft, none⟩, kq + 1) :: rest) base L own ro :=
  nq (Post := fun L' own' ro' => ∃ o : Ow, o.ok s ∧ L' = (d, o.v s.length) :: L ∧ own' = own ++ [o.seg s e] ∧ ro' = ro) rfl
    (fun w K hw hK => by
      let k := grownCap w s.length 0 e
      have hk : s.length ≤ k := by show s.length ≤ grownCap w s.length 0 e; unfold grownCap; simp only [Question.cut]; omega
      have hc : (Lib.bytesCells w e ⟨⟨s⟩⟩) = ⟨encs s ++ List.replicate (k - s.length) (.int .u8 0)⟩ := by
        unfold Lib.bytesCells
        apply Array.ext'
        have hz : (⟨⟨s⟩⟩ : ByteArray).size = s.length := rfl
        simp only [Array.toList_append, Array.toList_map, Array.toList_replicate, hz]
        rw [encs_bytes]
      have hsize : (Lib.bytesCells w e ⟨⟨s⟩⟩).size = k := by
        rw [hc]; simp [encs_length]; show s.length * 1 + (k - s.length) = k; omega
      have hrun : (convert src dst (strV s)).run cx.P w = .ok (.slice (some ⟨w.heap.size, 0, none⟩) s.length k) (Lib.bytesWorld w e ⟨⟨s⟩⟩) := Lib.run_convert_string_bytes w src dst e ⟨⟨s⟩⟩ hs hd he
      unfold Oper.wp
      rw [A_eval_fun]
      simp only [execOp, hx, Sem.run_bind, hrun, Result.andThen_ok, Sem.run_pure, Oper.upon]
      rw [A_put]
      refine hK _ _ _ _ ⟨⟨false, w.heap.size, k, List.replicate (k - s.length) (.int .u8 0)⟩, ⟨by simp, fun _ => by show s.length * 1 + (List.replicate (k - s.length) (Value.int .u8 0)).length = k * 1; rw [List.length_replicate]; omega, hk⟩, rfl, rfl, rfl⟩ ?_
      have ha := hw.alloc (.cells (Lib.bytesCells w e ⟨⟨s⟩⟩) e ((Lib.bytesCells w e ⟨⟨s⟩⟩).size, (Lib.bytesCells w e ⟨⟨s⟩⟩).size + 1)) (.cells (encs s ++ List.replicate (k - s.length) (.int .u8 0)) e)
        ⟨_, by rw [hc], .inl (Nat.le_refl _)⟩
      have heap : (Lib.bytesWorld w e ⟨⟨s⟩⟩).heap = (w.alloc (.cells (Lib.bytesCells w e ⟨⟨s⟩⟩) e ((Lib.bytesCells w e ⟨⟨s⟩⟩).size, (Lib.bytesCells w e ⟨⟨s⟩⟩).size + 1))).heap := by
        apply Array.ext_getElem?
        intro i
        rcases Nat.lt_trichotomy i w.heap.size with hi | hi | hi
        · rw [Lib.bytesWorld_at_old w e _ i hi, new_old w _ i hi]
        · subst hi; rw [Lib.bytesWorld_at_new, new_at]
        · rw [Array.getElem?_eq_none (by rw [Lib.bytesWorld_size]; omega), Array.getElem?_eq_none (by simp; omega)]
      have hext : ∀ (M : List Nat) (w0 : World), Ext M w0 (w.alloc (.cells (Lib.bytesCells w e ⟨⟨s⟩⟩) e ((Lib.bytesCells w e ⟨⟨s⟩⟩).size, (Lib.bytesCells w e ⟨⟨s⟩⟩).size + 1))) → Ext M w0 (Lib.bytesWorld w e ⟨⟨s⟩⟩) := fun M w0 hE =>
        ⟨hE.os, hE.tape, hE.output, by rw [heap]; exact hE.size, fun b h1 h2 => by rw [heap]; exact hE.blk b h1 h2⟩
      have hseg : ∀ s', SegIn (w.alloc (.cells (Lib.bytesCells w e ⟨⟨s⟩⟩) e ((Lib.bytesCells w e ⟨⟨s⟩⟩).size, (Lib.bytesCells w e ⟨⟨s⟩⟩).size + 1))) s' → SegIn (Lib.bytesWorld w e ⟨⟨s⟩⟩) s' := fun s' h p hp => by rw [heap]; exact h p hp
      exact ⟨⟨fun s' hs' => hseg s' (ha.has.o s' hs'), fun s' hs' => hseg s' (ha.has.r s' hs'), ha.has.nd, ha.has.dj⟩, hext _ _ ha.ext, ha.fr, ha.rf⟩)
    (by rintro L' own' ro' ⟨o, ho, rfl, rfl, rfl⟩; exact (h o ho).1)
    (by rintro L' own' ro' ⟨o, ho, rfl, rfl, rfl⟩; exact (h o ho).2)
theorem cut_hi (s : Str) (l : Nat) : (s.drop l).take (s.length - l) = s.drop l := List.take_of_length_le (by simp)
theorem cut_lo (s : Str) (h : Nat) : (s.drop 0).take (h - 0) = s.take h := by simp
theorem getD_some {α : Type} {xs : List α} {i : Nat} {z : α} (h : i < xs.length) : xs[i]? = some (xs.getD i z) := by
  rw [List.getD_eq_getElem?_getD, List.getElem?_eq_getElem h]; rfl
theorem ldvG {α : Type} [Enc α] {t bk o off : Nat} {xs : List α} (j i : Nat) (v : α) (hx : ev cx.n base L x = .pointer (some ⟨bk, o, none⟩)) (hs : (Src md q own ro)[j]? = some [(bk, .view off (encs xs))])
    (ho : o = off + i * Enc.n α) (hv : xs[i]? = some v) (ht : Ty cx.P t (Enc.n α) (Enc.ag α))
    (h : JG cx md ops Q rest base ((d, val v) :: L) own ro) : JG cx md ops Q ((⟨some d, .load t x, ty, pos, aft, none⟩, q) :: rest) base L own ro := by
  obtain ⟨hi, rfl⟩ := List.getElem?_eq_some_iff.1 hv
  exact ldv j i hx hs ho hi ht h
theorem ldvsG {α : Type} [Enc α] {t bk o : Nat} {s : Vs} {xs : List α} {i : Nat} (j : Nat) (v : α) (hok : s.ok xs) (hx : ev cx.n base L x = .pointer (some ⟨bk, o, none⟩)) (hs : (Src md q own ro)[j]? = some (s.seg xs))
    (hb : bk = s.b) (ho : o = s.off + i * Enc.n α) (hv : xs[i]? = some v) (ht : Ty cx.P t (Enc.n α) (Enc.ag α))
    (h : JG cx md ops Q rest base ((d, val v) :: L) own ro) : JG cx md ops Q ((⟨some d, .load t x, ty, pos, aft, none⟩, q) :: rest) base L own ro := by
  obtain ⟨hi, rfl⟩ := List.getElem?_eq_some_iff.1 hv
  exact ldvs j i hok hx hs hb ho hi ht h
theorem ldsoG {α : Type} [Enc α] {t bk o E : Nat} {s : Ow} {xs : List α} {i : Nat} (j : Nat) (v : α) (hok : s.ok xs) (hx : ev cx.n base L x = .pointer (some ⟨bk, o, none⟩)) (hs : (Src md q own ro)[j]? = some (s.seg xs E))
    (hb : bk = s.vs.b) (ho : o = s.vs.off + i * Enc.n α) (hv : xs[i]? = some v) (ht : Ty cx.P t (Enc.n α) (Enc.ag α))
    (h : JG cx md ops Q rest base ((d, val v) :: L) own ro) : JG cx md ops Q ((⟨some d, .load t x, ty, pos, aft, none⟩, q) :: rest) base L own ro := by
  obtain ⟨hi, rfl⟩ := List.getElem?_eq_some_iff.1 hv
  exact ldso j i hok hx hs hb ho hi ht h
end
theorem ow_impl {α : Type} [Enc α] {o : Ow} {xs : List α} {E : Nat} {src : List Seg} (j : Nat) (hs : src[j]? = some (o.seg xs E)) : Impl src [o.vs.seg xs] := by
  intro t ht p hp
  rw [List.mem_singleton] at ht; subst ht
  cases hn : o.nl with
  | true => simp [Vs.seg, Ow.vs, hn] at hp
  | false =>
    have e : o.vs.seg xs = [(o.b, .view 0 (encs xs))] := by simp [Vs.seg, Ow.vs, hn]
    have hs' : src[j]? = some [(o.b, .cells (encs xs ++ o.sp) E)] := by rw [hs]; simp [Ow.seg, hn]
    rw [e] at hp
    exact impl_view (l := encs xs) (off := 0) j hs' ⟨[], o.sp, by simp, rfl⟩ _ (List.mem_singleton.2 rfl) p hp
theorem impl_trans {a b c : List Seg} (h1 : Impl a b) (h2 : Impl b c) : Impl a c := fun s hs p hp => by
  obtain ⟨s', hs', p', hp', e, hk⟩ := h2 s hs p hp
  obtain ⟨s2, hs2, p2, hp2, e2, hk2⟩ := h1 s' hs' p' hp'
  exact ⟨s2, hs2, p2, hp2, e2.trans e, fun o ho => hk o (hk2 o ho)⟩
theorem hx_cons {x a : Value} {xs l r : List Value} (hl : l = x :: xs) (h : x = a) (h2 : xs = r) : l = a :: r := by rw [hl, h, h2]
theorem hx_len {a : Option Addr} {c n m : Nat} (h : n = m) : Value.slice a n c = Value.slice a m c := by rw [h]
theorem nilrow_ok {α : Type} : (⟨true, 0, 0, 0, none⟩ : Vs).ok ([] : List α) := ⟨fun _ => rfl, Nat.le_refl _⟩
theorem impl_nilrow {α : Type} [Enc α] {src : List Seg} : Impl src [(⟨true, 0, 0, 0, none⟩ : Vs).seg ([] : List α)] := fun s hs p hp => by
  rw [List.mem_singleton] at hs; subst hs; cases hp
end Go.PW
namespace Go.PW
open Enc (enc val)
open Go
structure Con where
  kind : Int
  text : Str
  lat : F64
  long : F64
  number : UInt64
  key : Key
end Go.PW
namespace Go.PW
open Enc (enc val)
open Go
abbrev bt (l : Str) (i : Nat) : Nat := (l.getD i 0).toNat
def cont (n : Nat) : Bool := decide (128 ≤ n) && decide (n < 192)
def u8step (l : Str) : Nat :=
  if bt l 0 < 128 then 1
  else if bt l 0 < 194 then 0
  else if bt l 0 < 224 then (if cont (bt l 1) then 2 else 0)
  else if bt l 0 < 240 then (if cont (bt l 1) && cont (bt l 2) && decide (bt l 0 = 224 → 160 ≤ bt l 1) && decide (bt l 0 = 237 → bt l 1 < 160) then 3 else 0)
  else if bt l 0 < 245 then (if cont (bt l 1) && cont (bt l 2) && cont (bt l 3) && decide (bt l 0 = 240 → 144 ≤ bt l 1) && decide (bt l 0 = 244 → bt l 1 < 144) then 4 else 0)
  else 0
def u8ok (l : Str) : Bool :=
  if l.length = 0 then true
  else if u8step l = 0 then false
  else u8ok (l.drop (u8step l))
termination_by l.length
decreasing_by simp; omega
theorem u8ok_nil {l : Str} (h : l.length = 0) : u8ok l = true := by rw [u8ok, if_pos h]
theorem u8ok_bad {l : Str} (h : 0 < l.length) (hs : u8step l = 0) : u8ok l = false := by rw [u8ok, if_neg (by omega), if_pos hs]
theorem u8ok_go {l : Str} (k : Nat) (h : 0 < l.length) (hs : u8step l = k) (hk : 0 < k) : u8ok (l.drop k) = u8ok l := by
  conv => rhs; rw [u8ok, if_neg (by omega), if_neg (by omega), hs]
theorem bt_drop (l : Str) (i j : Nat) : bt (l.drop i) j = bt l (i + j) := by
  simp only [bt, List.getD_eq_getElem?_getD, List.getElem?_drop]
theorem bt_out {l : Str} {i : Nat} (h : l.length ≤ i) : bt l i = 0 := by
  simp only [bt, List.getD_eq_getElem?_getD, List.getElem?_eq_none h]; rfl
theorem bt_lt (l : Str) (i : Nat) : bt l i < 256 := UInt8.toNat_lt _
def firstF (n : Nat) : UInt8 :=
  if n < 128 then 240 else if n < 194 then 241 else if n < 224 then 2 else if n = 224 then 19 else if n < 237 then 3 else if n = 237 then 35 else if n < 240 then 3
  else if n = 240 then 52 else if n < 244 then 4 else if n = 244 then 68 else 241
def firstL : Str := (List.range 256).map firstF
def Cls (a : Nat) (n c mn : Int) : Prop :=
  (n = 1 ∧ c = a ∧ mn = 0 ∧ a < 128) ∨ (n = 2 ∧ c = a - 192 ∧ mn = 128 ∧ 192 ≤ a ∧ a < 224) ∨ (n = 3 ∧ c = a - 224 ∧ mn = 2048 ∧ 224 ≤ a ∧ a < 240) ∨ (n = 4 ∧ c = a - 240 ∧ mn = 65536 ∧ 240 ≤ a ∧ a < 248)
def accC (xs : Str) (i : Nat) (c : Int) : Nat → Int
  | 0 => c
  | 1 => c
  | k + 2 => accC xs i c (k + 1) * 64 + ((xs.getD (i + (k + 1)) 0).toNat - 128)
structure TxtI (xs : Str) (i : Nat) (n c : Int) (k : Nat) (v : Int) : Prop where
  k1 : 1 ≤ k
  k2 : (k : Int) ≤ n
  hv : v = accC xs i c k
  hc : ∀ j, 1 ≤ j → j < k → 128 ≤ (xs.getD (i + j) 0).toNat ∧ (xs.getD (i + j) 0).toNat < 192
  v0 : 0 ≤ v
  b1 : k = 1 → v < 256
  b2 : k = 2 → v < 16384
  b3 : k = 3 → v < 1048576
  b4 : k = 4 → v < 67108864
theorem TxtI.start {xs i a n c mn} (h : Cls a n c mn) : TxtI xs i n c 1 c := by
  unfold Cls at h
  exact ⟨by omega, by omega, rfl, fun j h1 h2 => by omega, by omega, fun _ => by omega, by omega, by omega, by omega⟩
theorem sub128 {x : UInt8} (h : 128 ≤ x.toNat) : (x - 128).toNat = x.toNat - 128 := by
  rw [UInt8.toNat_sub]; have := x.toNat_lt; simp; omega
theorem TxtI.next {xs i a n c mn k v} (hC : Cls a n c mn) (h : TxtI xs i n c k v) (hk : (k : Int) < n) (h1 : 128 ≤ (xs.getD (i + k) 0).toNat) (h2 : (xs.getD (i + k) 0).toNat < 192) :
    TxtI xs i n c (k + 1) (v * 64 + ((xs.getD (i + k) 0 - 128).toNat : Int)) := by
  have hk1 := h.k1; have v0 := h.v0; have b1 := h.b1; have b2 := h.b2; have b3 := h.b3
  have hn : n ≤ 4 := by unfold Cls at hC; omega
  rw [sub128 h1]
  obtain ⟨k, rfl⟩ : ∃ m, k = m + 1 := ⟨k - 1, by omega⟩
  refine ⟨by omega, by omega, ?_, fun j g1 g2 => ?_, by omega, by omega, by omega, by omega, by omega⟩
  · rw [h.hv]; show _ = accC xs i c (k + 1) * 64 + _; omega
  · by_cases e : j = k + 1
    · subst e; exact ⟨h1, h2⟩
    · exact h.hc j g1 (by omega)
theorem step_drop (xs : Str) (i : Nat) : u8step (xs.drop i) =
    (if bt xs i < 128 then 1
    else if bt xs i < 194 then 0
    else if bt xs i < 224 then (if cont (bt xs (i + 1)) then 2 else 0)
    else if bt xs i < 240 then (if cont (bt xs (i + 1)) && cont (bt xs (i + 2)) && decide (bt xs i = 224 → 160 ≤ bt xs (i + 1)) && decide (bt xs i = 237 → bt xs (i + 1) < 160) then 3 else 0)
    else if bt xs i < 245 then (if cont (bt xs (i + 1)) && cont (bt xs (i + 2)) && cont (bt xs (i + 3)) && decide (bt xs i = 240 → 144 ≤ bt xs (i + 1)) && decide (bt xs i = 244 → bt xs (i + 1) < 144) then 4 else 0)
    else 0) := by
  unfold u8step
  rw [bt_drop, bt_drop, bt_drop, bt_drop]; rfl
theorem txt_good {xs : Str} {i : Nat} {n c mn v : Int} {k : Nat} (hC : Cls (xs.getD i 0).toNat n c mn) (h : TxtI xs i n c k v) (hk : ¬ (k : Int) < n) (h1 : mn ≤ v) (h2 : v ≤ 1114111) (h3 : v < 55296 ∨ 57343 < v) : ((u8step (xs.drop i) : Nat) : Int) = n := by
  have hkn : (k : Int) = n := by have := h.k2; omega
  have hv := h.hv; have hc := h.hc
  rw [step_drop]
  unfold Cls at hC
  rcases hC with ⟨rfl, rfl, rfl, ha⟩ | ⟨rfl, rfl, rfl, ha, hb⟩ | ⟨rfl, rfl, rfl, ha, hb⟩ | ⟨rfl, rfl, rfl, ha, hb⟩
  · rw [if_pos ha]; rfl
  · obtain rfl : k = 2 := by omega
    have c1 := hc 1 (by omega) (by omega)
    simp only [accC, Nat.zero_add, Nat.reduceAdd] at hv
    rw [if_neg (by unfold bt; omega), if_neg (by unfold bt; omega), if_pos (by unfold bt; omega), if_pos (by simp only [cont, Bool.and_eq_true, decide_eq_true_eq, bt]; omega)]; rfl
  · obtain rfl : k = 3 := by omega
    have c1 := hc 1 (by omega) (by omega)
    have c2 := hc 2 (by omega) (by omega)
    simp only [accC, Nat.zero_add, Nat.reduceAdd] at hv
    rw [if_neg (by unfold bt; omega), if_neg (by unfold bt; omega), if_neg (by unfold bt; omega), if_pos (by unfold bt; omega), if_pos (by simp only [cont, Bool.and_eq_true, decide_eq_true_eq, bt]; omega)]; rfl
  · obtain rfl : k = 4 := by omega
    have c1 := hc 1 (by omega) (by omega)
    have c2 := hc 2 (by omega) (by omega)
    have c3 := hc 3 (by omega) (by omega)
    simp only [accC, Nat.zero_add, Nat.reduceAdd] at hv
    rw [if_neg (by unfold bt; omega), if_neg (by unfold bt; omega), if_neg (by unfold bt; omega), if_neg (by unfold bt; omega), if_pos (by unfold bt; omega), if_pos (by simp only [cont, Bool.and_eq_true, decide_eq_true_eq, bt]; omega)]; rfl
theorem txt_wide {xs : Str} {i : Nat} {n c mn v : Int} {k : Nat} (hC : Cls (xs.getD i 0).toNat n c mn) (h : TxtI xs i n c k v) (hk : ¬ (k : Int) < n) (h1 : v < mn ∨ 1114111 < v ∨ (55296 ≤ v ∧ v ≤ 57343)) : u8step (xs.drop i) = 0 := by
  have hkn : (k : Int) = n := by have := h.k2; omega
  have hv := h.hv; have hc := h.hc
  rw [step_drop]
  unfold Cls at hC
  rcases hC with ⟨rfl, rfl, rfl, ha⟩ | ⟨rfl, rfl, rfl, ha, hb⟩ | ⟨rfl, rfl, rfl, ha, hb⟩ | ⟨rfl, rfl, rfl, ha, hb⟩
  · obtain rfl : k = 1 := by omega
    simp only [accC, Nat.zero_add, Nat.reduceAdd] at hv
    omega
  · obtain rfl : k = 2 := by omega
    have c1 := hc 1 (by omega) (by omega)
    simp only [accC, Nat.zero_add, Nat.reduceAdd] at hv
    rw [if_neg (by unfold bt; omega), if_pos (by unfold bt; omega)]
  · obtain rfl : k = 3 := by omega
    have c1 := hc 1 (by omega) (by omega)
    have c2 := hc 2 (by omega) (by omega)
    simp only [accC, Nat.zero_add, Nat.reduceAdd] at hv
    rw [if_neg (by unfold bt; omega), if_neg (by unfold bt; omega), if_neg (by unfold bt; omega), if_pos (by unfold bt; omega), if_neg (by simp only [cont, Bool.and_eq_true, decide_eq_true_eq, bt]; omega)]
  · obtain rfl : k = 4 := by omega
    have c1 := hc 1 (by omega) (by omega)
    have c2 := hc 2 (by omega) (by omega)
    have c3 := hc 3 (by omega) (by omega)
    simp only [accC, Nat.zero_add, Nat.reduceAdd] at hv
    rw [if_neg (by unfold bt; omega), if_neg (by unfold bt; omega), if_neg (by unfold bt; omega), if_neg (by unfold bt; omega)]
    split
    · rw [if_neg (by simp only [cont, Bool.and_eq_true, decide_eq_true_eq, bt] at *; omega)]
    · rfl
theorem txt_head {xs : Str} {i : Nat} (h1 : 128 ≤ (xs.getD i 0).toNat) (h2 : (xs.getD i 0).toNat < 192 ∨ 248 ≤ (xs.getD i 0).toNat) : u8step (xs.drop i) = 0 := by
  rw [step_drop, if_neg (by unfold bt; omega)]
  by_cases h : bt xs i < 194
  · rw [if_pos h]
  · rw [if_neg h, if_neg (by unfold bt at *; omega), if_neg (by unfold bt at *; omega), if_neg (by unfold bt at *; omega)]
theorem txt_cont {xs : Str} {i : Nat} {n c mn : Int} (hC : Cls (xs.getD i 0).toNat n c mn) (k : Nat) (k1 : 1 ≤ k) (hk : (k : Int) < n) (hb : (xs.getD (i + k) 0).toNat < 128 ∨ 192 ≤ (xs.getD (i + k) 0).toNat) : u8step (xs.drop i) = 0 := by
  rw [step_drop]
  unfold Cls at hC
  have hkc : k = 1 ∨ k = 2 ∨ k = 3 := by omega
  rcases hC with ⟨rfl, rfl, rfl, ha⟩ | ⟨rfl, rfl, rfl, ha, hb2⟩ | ⟨rfl, rfl, rfl, ha, hb2⟩ | ⟨rfl, rfl, rfl, ha, hb2⟩
  · omega
  · obtain rfl : k = 1 := by omega
    rw [if_neg (by unfold bt; omega)]
    by_cases h : bt xs i < 194
    · rw [if_pos h]
    · rw [if_neg h, if_pos (by unfold bt at *; omega), if_neg (by simp only [cont, Bool.and_eq_true, decide_eq_true_eq, bt]; omega)]
  · rw [if_neg (by unfold bt; omega), if_neg (by unfold bt; omega), if_neg (by unfold bt; omega), if_pos (by unfold bt; omega), if_neg (by
      simp only [cont, Bool.and_eq_true, decide_eq_true_eq, bt]; rcases hkc with rfl | rfl | rfl <;> omega)]
  · rw [if_neg (by unfold bt; omega), if_neg (by unfold bt; omega), if_neg (by unfold bt; omega), if_neg (by unfold bt; omega)]
    split
    · rw [if_neg (by simp only [cont, Bool.and_eq_true, decide_eq_true_eq, bt]; rcases hkc with rfl | rfl | rfl <;> omega)]
    · rfl
theorem txt_short {xs : Str} {i : Nat} {n c mn : Int} (hC : Cls (xs.getD i 0).toNat n c mn) (h0 : i < xs.length) (h : (xs.length : Int) < i + n) : u8step (xs.drop i) = 0 := by
  have hn := hC
  unfold Cls at hn
  refine txt_cont hC (xs.length - i) (by omega) (by omega) (.inl ?_)
  have := bt_out (l := xs) (i := i + (xs.length - i)) (by omega)
  unfold bt at this; omega
theorem txt_no {xs : Str} {i : Nat} (hI : u8ok (xs.drop i) = u8ok xs) (h0 : i < xs.length) (h : u8step (xs.drop i) = 0) : Value.bool false = .bool (u8ok xs) := by
  rw [← hI, u8ok_bad (by simp; omega) h]
theorem txt_on {xs : Str} {i m : Nat} {n : Int} (hI : u8ok (xs.drop i) = u8ok xs) (h0 : i < xs.length) (h : ((u8step (xs.drop i) : Nat) : Int) = n) (hn : 1 ≤ n) (hm : (m : Int) = i + n) : u8ok (xs.drop m) = u8ok xs := by
  rw [← hI, ← u8ok_go (l := xs.drop i) (u8step (xs.drop i)) (by simp; omega) rfl (by omega), List.drop_drop]
  congr 2; omega
end Go.PW
namespace Go.PW
open Go
def mant (r : Nat) : Nat := if r / 4503599627370496 = 0 then r % 4503599627370496 else 4503599627370496 + r % 4503599627370496
def absF (f : F64) : F64 := ⟨f.b &&& ~~~9223372036854775808⟩
def negF (f : F64) : Bool := decide (IntKind.i64.wrap (f.b.toNat : Int) < 0)
def rung (b : Nat) : Nat := b % 9223372036854775808
def sgn (b : Nat) : Bool := b / 9223372036854775808 % 2 == 1
def plcF (r : Nat) : Nat := max (r / 4503599627370496) 1 - 1
def vl (r : Nat) : Nat := mant r * 2 ^ plcF r
def sv (b : Nat) : Int := if sgn b then -(vl (rung b) : Int) else (vl (rung b) : Int)
theorem read_fin {b : Nat} (h : rung b < 9218868437227405312) : Ieee.double.read b = .number (sgn b) (mant (rung b)) (-1074 + (plcF (rung b) : Int)) := by
  unfold Ieee.Format.read
  rw [show Ieee.double.signWeight = 9223372036854775808 from rfl, show Ieee.double.binade = 4503599627370496 from rfl, show Ieee.double.infRung = 9218868437227405312 from rfl, show Ieee.double.leastPlace = -1074 from rfl]
  show (if rung b < 4503599627370496 then Ieee.Datum.number (sgn b) (rung b) (-1074) else if rung b < 9218868437227405312 then _ else _) = _
  unfold mant plcF
  split
  · next h1 =>
    have e : rung b / 4503599627370496 = 0 := by omega
    rw [if_pos e, e, Nat.mod_eq_of_lt h1]; rfl
  · next h1 =>
    have e : ¬ rung b / 4503599627370496 = 0 := by omega
    rw [if_neg e, Nat.max_eq_left (by omega)]; first | rfl | (rw [if_pos h]; rfl)
theorem read_inf {b : Nat} (h : rung b = 9218868437227405312) : Ieee.double.read b = .infinity (sgn b) := by
  unfold Ieee.Format.read
  rw [show Ieee.double.signWeight = 9223372036854775808 from rfl, show Ieee.double.binade = 4503599627370496 from rfl, show Ieee.double.infRung = 9218868437227405312 from rfl]
  show (if rung b < 4503599627370496 then _ else if rung b < 9218868437227405312 then _ else if rung b = 9218868437227405312 then Ieee.Datum.infinity (sgn b) else _) = _
  rw [if_neg (by omega), if_neg (by omega), if_pos h]
theorem read_nan {b : Nat} (h : 9218868437227405312 < rung b) : ∃ f, Ieee.double.read b = .nan (sgn b) f := by
  refine ⟨rung b - 9218868437227405312, ?_⟩
  unfold Ieee.Format.read
  rw [show Ieee.double.signWeight = 9223372036854775808 from rfl, show Ieee.double.binade = 4503599627370496 from rfl, show Ieee.double.infRung = 9218868437227405312 from rfl]
  show (if rung b < 4503599627370496 then _ else if rung b < 9218868437227405312 then _ else if rung b = 9218868437227405312 then _ else Ieee.Datum.nan (sgn b) (rung b - 9218868437227405312)) = _
  rw [if_neg (by omega), if_neg (by omega), if_neg (by omega)]
theorem vl_succ (r : Nat) : vl r < vl (r + 1) := by
  unfold vl mant plcF
  have hr : r = r / 4503599627370496 * 4503599627370496 + r % 4503599627370496 := by omega
  generalize hq : r / 4503599627370496 = q at *
  generalize hf : r % 4503599627370496 = f at *
  have hfl : f < 4503599627370496 := by omega
  by_cases hc : f + 1 < 4503599627370496
  · have e1 : (r + 1) / 4503599627370496 = q := by omega
    have e2 : (r + 1) % 4503599627370496 = f + 1 := by omega
    rw [e1, e2]
    have hp := Nat.two_pow_pos (max q 1 - 1)
    split <;> exact Nat.mul_lt_mul_of_pos_right (by omega) hp
  · have e1 : (r + 1) / 4503599627370496 = q + 1 := by omega
    have e2 : (r + 1) % 4503599627370496 = 0 := by omega
    rw [e1, e2, if_neg (by omega : ¬ q + 1 = 0), Nat.max_eq_left (by omega : 1 ≤ q + 1), Nat.add_sub_cancel]
    have hp := Nat.two_pow_pos q
    split
    · next h0 => subst h0; simp; omega
    · next h0 =>
      obtain ⟨j, rfl⟩ : ∃ j, q = j + 1 := ⟨q - 1, by omega⟩
      rw [Nat.max_eq_left (by omega), Nat.add_sub_cancel, Nat.pow_succ]
      have hj := Nat.two_pow_pos j
      generalize 2 ^ j = P at *
      have : (4503599627370496 + f) * P < 9007199254740992 * P := Nat.mul_lt_mul_of_pos_right (by omega) hj
      omega
theorem vl_lt {a b : Nat} (h : a < b) : vl a < vl b := by
  induction b with
  | zero => omega
  | succ b ih =>
    rcases Nat.lt_or_ge a b with h1 | h1
    · exact Nat.lt_trans (ih h1) (vl_succ b)
    · have : a = b := by omega
      subst this; exact vl_succ a
theorem vl_lt_iff {a b : Nat} : vl a < vl b ↔ a < b := by
  refine ⟨fun h => ?_, vl_lt⟩
  rcases Nat.lt_trichotomy a b with h1 | h1 | h1
  · exact h1
  · subst h1; omega
  · have := vl_lt h1; omega
theorem cmp_scale {a b : Int} {c : Int} (hc : 0 < c) : compare (a * c) (b * c) = compare a b := by
  simp only [compare, compareOfLessAndEq]
  have h1 : a * c < b * c ↔ a < b := Int.mul_lt_mul_right hc
  have h2 : a * c = b * c ↔ a = b := ⟨fun h => Int.eq_of_mul_eq_mul_right (by omega) h, fun h => by rw [h]⟩
  simp only [h1, h2]
theorem signed_eq (s : Bool) (m n : Nat) : Ieee.signed s m n = (if s then -((m * 2 ^ n : Nat) : Int) else ((m * 2 ^ n : Nat) : Int)) := by
  unfold Ieee.signed; rw [Nat.shiftLeft_eq]
theorem order_fin {a b : Nat} (ha : rung a < 9218868437227405312) (hb : rung b < 9218868437227405312) : Ieee.double.order a b = some (compare (sv a) (sv b)) := by
  unfold Ieee.Format.order
  rw [read_fin ha, read_fin hb]
  simp only [Ieee.Datum.order]
  congr 1
  rw [signed_eq, signed_eq]
  generalize hp : plcF (rung a) = p
  generalize hq : plcF (rung b) = q
  have e1 : ((-1074 + (p : Int)) - min (-1074 + (p : Int)) (-1074 + (q : Int))).toNat = p - min p q := by omega
  have e2 : ((-1074 + (q : Int)) - min (-1074 + (p : Int)) (-1074 + (q : Int))).toNat = q - min p q := by omega
  rw [e1, e2]
  have hc : (0 : Int) < ((2 ^ min p q : Nat) : Int) := by have := Nat.two_pow_pos (min p q); omega
  rw [← cmp_scale (c := ((2 ^ min p q : Nat) : Int)) hc]
  have h1 : mant (rung a) * 2 ^ (p - min p q) * 2 ^ min p q = vl (rung a) := by
    unfold vl; rw [hp, Nat.mul_assoc, ← Nat.pow_add, Nat.sub_add_cancel (Nat.min_le_left _ _)]
  have h2 : mant (rung b) * 2 ^ (q - min p q) * 2 ^ min p q = vl (rung b) := by
    unfold vl; rw [hq, Nat.mul_assoc, ← Nat.pow_add, Nat.sub_add_cancel (Nat.min_le_right _ _)]
  unfold sv
  congr 1
  · split
    · rw [Int.neg_mul, ← Int.natCast_mul, h1]
    · rw [← Int.natCast_mul, h1]
  · split
    · rw [Int.neg_mul, ← Int.natCast_mul, h2]
    · rw [← Int.natCast_mul, h2]
theorem cmp_gt {a b : Int} : (some (compare a b) == some Ordering.gt) = decide (b < a) := by
  simp only [compare, compareOfLessAndEq]
  split
  · next h => simp; omega
  · next h =>
    split
    · next h2 => simp; omega
    · next h2 => simp; omega
theorem cmp_eq {a b : Int} : (some (compare a b) == some Ordering.eq) = decide (a = b) := by
  simp only [compare, compareOfLessAndEq]
  split
  · next h => simp; omega
  · next h => split <;> simp_all
theorem fGt_fin {a b : Nat} (ha : rung a < 9218868437227405312) (hb : rung b < 9218868437227405312) : fGt a b = decide (sv b < sv a) := by unfold fGt; rw [order_fin ha hb, cmp_gt]
theorem order_inf {a b : Nat} (ha : rung a = 9218868437227405312) (hb : rung b < 9218868437227405312) : Ieee.double.order a b = some (if sgn a then .lt else .gt) := by
  unfold Ieee.Format.order; rw [read_inf ha, read_fin hb]; rfl
theorem order_nan {a b : Nat} (ha : 9218868437227405312 < rung a) : Ieee.double.order a b = none := by
  unfold Ieee.Format.order
  obtain ⟨f, h⟩ := read_nan ha
  rw [h]; cases Ieee.double.read b <;> rfl
theorem fNe_self (b : Nat) : fNe b b = decide (9218868437227405312 < rung b) := by
  unfold fNe
  rcases Nat.lt_trichotomy (rung b) 9218868437227405312 with h | h | h
  · rw [order_fin h h, show compare (sv b) (sv b) = .eq by simp [compare, compareOfLessAndEq]]
    simp; omega
  · unfold Ieee.Format.order; rw [read_inf h]
    simp only [Ieee.Datum.order, show compare (sgn b).toNat (sgn b).toNat = .eq by simp [compare, compareOfLessAndEq]]
    simp; omega
  · rw [order_nan h]; simp [h]
theorem fGt_pos {r c : Nat} (hc : c < 9218868437227405312) (h : r ≤ 9218868437227405312) : fGt r c = decide (c < r) := by
  have hr : rung r = r := Nat.mod_eq_of_lt (by omega)
  have hs : sgn r = false := by unfold sgn; rw [Nat.div_eq_of_lt (by omega)]; rfl
  have hr2 : rung c = c := Nat.mod_eq_of_lt (by omega)
  have hs2 : sgn c = false := by unfold sgn; rw [Nat.div_eq_of_lt (by omega)]; rfl
  rcases Nat.lt_or_ge r 9218868437227405312 with h1 | h1
  · rw [fGt_fin (by rw [hr]; exact h1) (by rw [hr2]; exact hc), Bool.eq_iff_iff]
    unfold sv; rw [hs, hr, hs2, hr2]
    simp only [Bool.false_eq_true, if_false, decide_eq_true_iff, Int.ofNat_lt, vl_lt_iff]
  · have e : r = 9218868437227405312 := by omega
    unfold fGt
    rw [order_inf (by rw [hr]; exact e) (by rw [hr2]; exact hc), hs]
    simp; omega
theorem vl_0 : vl 0 = 0 := rfl
theorem fEq_0 {b : Nat} (h : rung b < 9218868437227405312) : fEq b 0 = decide (rung b = 0) := by
  unfold fEq
  rw [order_fin h (by decide), cmp_eq, Bool.eq_iff_iff, show sv 0 = 0 from rfl]
  unfold sv
  have h1 := vl_lt_iff (a := 0) (b := rung b)
  rw [vl_0] at h1
  simp only [decide_eq_true_iff]
  cases sgn b
  · simp only [Bool.false_eq_true, if_false]; omega
  · simp only [if_true]; omega
theorem absF_b (f : F64) : (absF f).b.toNat = rung f.b.toNat := by
  show (f.b &&& ~~~9223372036854775808).toNat = _
  rw [show (~~~9223372036854775808 : UInt64) = 9223372036854775807 by decide, UInt64.toNat_and]
  exact Nat.and_two_pow_sub_one_eq_mod f.b.toNat 63
theorem negF_eq (f : F64) : negF f = decide (9223372036854775808 ≤ f.b.toNat) := by
  have := f.b.toNat_lt
  unfold negF; rw [wrapI64, Bool.eq_iff_iff]; simp only [decide_eq_true_iff]; omega
def oddB (x m : F64) : Bool := (fNe x.b.toNat x.b.toNat || fGt (absF x).b.toNat m.b.toNat) || (fEq x.b.toNat 0 && negF x)
theorem oddB_eq (x m : F64) (hm : m.b.toNat < 9218868437227405312) : oddB x m = (decide (m.b.toNat < rung x.b.toNat) || decide (x.b.toNat = 9223372036854775808)) := by
  have hx := x.b.toNat_lt
  unfold oddB
  rw [fNe_self, absF_b, negF_eq]
  rcases Nat.lt_or_ge 9218868437227405312 (rung x.b.toNat) with h | h
  · have h1 : m.b.toNat < rung x.b.toNat := by omega
    simp [h, h1]
  · rw [fGt_pos hm h]
    rcases Nat.lt_or_ge (rung x.b.toNat) 9218868437227405312 with h2 | h2
    · rw [fEq_0 h2, Bool.eq_iff_iff]
      simp only [Bool.or_eq_true, Bool.and_eq_true, decide_eq_true_eq]
      unfold rung at *; omega
    · have h1 : m.b.toNat < rung x.b.toNat := by omega
      simp [h1]
def wholeV (n : UInt64) : UInt64 :=
  if n = 0 then 0 else if 52 < (UInt64.ofNat (Nat.log2 n.toNat)).toNat then shlU64 (1023 + UInt64.ofNat (Nat.log2 n.toNat)) 52
  else shlU64 (1023 + UInt64.ofNat (Nat.log2 n.toNat)) 52 + shlU64 n (52 - UInt64.ofNat (Nat.log2 n.toNat)).toNat - 4503599627370496
def floatV (b m : UInt64) : Int := if 9218868437227405312 ≤ (b % 9223372036854775808).toNat ∨ b = 9223372036854775808 then 84 else if (wholeV m).toNat < (b % 9223372036854775808).toNat then 83 else 0
theorem onEarth_eq (f : F64) (m : UInt64) (hm : (wholeV m).toNat < 9218868437227405312) : decide (floatV f.b m = 0) = !oddB f ⟨wholeV m⟩ := by
  have ho := oddB_eq f ⟨wholeV m⟩ hm
  rw [ho]
  have hs : (f.b % 9223372036854775808).toNat = rung f.b.toNat := by rw [UInt64.toNat_mod]; rfl
  have hz : f.b = 9223372036854775808 ↔ f.b.toNat = 9223372036854775808 := by rw [← UInt64.toNat_inj]; rfl
  unfold floatV
  rw [hs, Bool.eq_iff_iff]
  simp only [hz]
  simp only [decide_eq_true_eq, Bool.not_eq_true', Bool.or_eq_false_iff, decide_eq_false_iff_not]
  split
  · constructor
    · intro h; omega
    · rintro ⟨h1, h2⟩; omega
  · split
    · constructor
      · intro h; omega
      · rintro ⟨h1, h2⟩; omega
    · constructor
      · intro _; omega
      · intro _; rfl
theorem whole_90 : wholeV 90 = 4636033603912859648 := by decide +kernel
theorem whole_180 : wholeV 180 = 4640537203540230144 := by decide +kernel
theorem log2_unique {n p : Nat} (h1 : 1 ≤ n / 2 ^ p) (h2 : n / 2 ^ p ≤ 1) : Nat.log2 n = p := by
  have h3 : 0 < 2 ^ p := Nat.two_pow_pos p
  have h4 : 2 ^ p ≤ n := by
    rcases Nat.lt_or_ge n (2 ^ p) with h | h
    · rw [Nat.div_eq_of_lt h] at h1; omega
    · exact h
  have h5 : n < 2 ^ (p + 1) := by
    rw [Nat.pow_succ]
    have h6 := Nat.lt_mul_div_succ n h3
    have h7 : n / 2 ^ p = 1 := by omega
    rw [h7] at h6
    generalize 2 ^ p = q at *; omega
  exact (Nat.log2_eq_iff (by omega)).2 ⟨h4, h5⟩
end Go.PW
namespace Go.PW
section
open Go
variable {cx : Cx} {md : Md} {ops : Array Oper} {Q : Exit → Act → World → Prop} {rest : List (Oper × Nat)} {base : Nat → Value} {L : List (Nat × Value)} {own ro : List Seg}
variable {q : Nat} {d : Nat} {ty : TypeId} {pos : String} {aft : Array Edge} {x : Operand}
theorem mvi {k : IntKind} {a : Int} (hx : ev cx.n base L x = .int k a) (h : JG cx md ops Q rest base ((d, .int k a) :: L) own ro) : JG cx md ops Q ((⟨some d, .move x, ty, pos, aft, none⟩, q) :: rest) base L own ro := mv _ hx h
theorem mvs {a : ByteArray} (hx : ev cx.n base L x = .string a) (h : JG cx md ops Q rest base ((d, .string a) :: L) own ro) : JG cx md ops Q ((⟨some d, .move x, ty, pos, aft, none⟩, q) :: rest) base L own ro := mv _ hx h
theorem mvb {a : Bool} (hx : ev cx.n base L x = .bool a) (h : JG cx md ops Q rest base ((d, .bool a) :: L) own ro) : JG cx md ops Q ((⟨some d, .move x, ty, pos, aft, none⟩, q) :: rest) base L own ro := mv _ hx h
theorem mvp {a : Option Addr} (hx : ev cx.n base L x = .pointer a) (h : JG cx md ops Q rest base ((d, .pointer a) :: L) own ro) : JG cx md ops Q ((⟨some d, .move x, ty, pos, aft, none⟩, q) :: rest) base L own ro := mv _ hx h
theorem mvl {a : Option Addr} {n c : Nat} (hx : ev cx.n base L x = .slice a n c) (h : JG cx md ops Q rest base ((d, .slice a n c) :: L) own ro) : JG cx md ops Q ((⟨some d, .move x, ty, pos, aft, none⟩, q) :: rest) base L own ro := mv _ hx h
theorem agi {k : IntKind} {a : Int} (hx : ev cx.n base L x = .int k a) (h : JG cx md ops Q rest base ((d, .int k a) :: L) own ro) : JG cx md ops Q ((⟨some d, .assign x, ty, pos, aft, none⟩, q) :: rest) base L own ro := asg _ hx h
theorem ags {a : ByteArray} (hx : ev cx.n base L x = .string a) (h : JG cx md ops Q rest base ((d, .string a) :: L) own ro) : JG cx md ops Q ((⟨some d, .assign x, ty, pos, aft, none⟩, q) :: rest) base L own ro := asg _ hx h
theorem agb {a : Bool} (hx : ev cx.n base L x = .bool a) (h : JG cx md ops Q rest base ((d, .bool a) :: L) own ro) : JG cx md ops Q ((⟨some d, .assign x, ty, pos, aft, none⟩, q) :: rest) base L own ro := asg _ hx h
theorem agp {a : Option Addr} (hx : ev cx.n base L x = .pointer a) (h : JG cx md ops Q rest base ((d, .pointer a) :: L) own ro) : JG cx md ops Q ((⟨some d, .assign x, ty, pos, aft, none⟩, q) :: rest) base L own ro := asg _ hx h
theorem agl {a : Option Addr} {n c : Nat} (hx : ev cx.n base L x = .slice a n c) (h : JG cx md ops Q rest base ((d, .slice a n c) :: L) own ro) : JG cx md ops Q ((⟨some d, .assign x, ty, pos, aft, none⟩, q) :: rest) base L own ro := asg _ hx h
theorem csr {Q0 : Exit → Act → World → Prop} {st : List Fr} {id : Nat} {l : List Oper} {y : Code} (h : JG cx .pl l.toArray (qof cx.P Q0 (.seq y :: st)) (plz l) base L own ro) : JC cx (.seq (.region id l.toArray false) y) Q0 st base L own ro := c_seq (c_reg h)
theorem jr {Q0 : Exit → Act → World → Prop} {st : List Fr} {md : Md} {ops : Array Oper} {id : Nat} {l : List Oper} (h : JG cx .pl l.toArray (qof cx.P Q0 st) (plz l) base L own ro) : JG cx md ops (qof cx.P Q0 (.seq (.region id l.toArray false) :: st)) [] base L own ro := jt (c_reg h)
theorem jsr {Q0 : Exit → Act → World → Prop} {st : List Fr} {md : Md} {ops : Array Oper} {id : Nat} {l : List Oper} {y : Code} (h : JG cx .pl l.toArray (qof cx.P Q0 (.seq y :: st)) (plz l) base L own ro) : JG cx md ops (qof cx.P Q0 (.seq (.seq (.region id l.toArray false) y) :: st)) [] base L own ro := jt (csr h)
variable {Q0 : Exit → Act → World → Prop} {st : List Fr} {fn : Func} {own0 ro0 : List Seg} {post : Value → List Seg → List Seg → Prop}
theorem j_d {v : Value} {ex : Exit} (hex : ex = .ret ∨ ex = .normal) (hz : cx.z = ⟨cx.z.w0, blks own0, ro0.length⟩) (hres : ∀ w, In cx.z own ro w → (results fn (A cx.n base L).tmps).run cx.P w = .ok v w) (jo : List Nat) (dr : List Seg) (hdr : dr.map some = jo.map fun i => own[i]?) (perm : ([] ++ jo).isPerm (List.range own.length) = true)
    (hr : ro = ro0 ++ []) (hp : post v [] []) : JE cx ex (bodyPost cx.P fn (After cx.z.w0 own0 ro0 post)) [] base L own ro := j_end hex hz hres [] jo [] dr [] [] rfl hdr perm hr impl_nil hp
theorem j_z {v : Value} {ex : Exit} (hex : ex = .ret ∨ ex = .normal) (hz : cx.z = ⟨cx.z.w0, blks own0, ro0.length⟩) (hres : ∀ w, In cx.z [] ro w → (results fn (A cx.n base L).tmps).run cx.P w = .ok v w) (hr : ro = ro0 ++ []) (hp : post v [] []) : JE cx ex (bodyPost cx.P fn (After cx.z.w0 own0 ro0 post)) [] base L [] ro := j_end hex hz hres [] [] [] [] [] [] rfl rfl (by decide) hr impl_nil hp
end
end Go.PW
namespace Go.Proofs.YtakbbpahfclgnaaGreatDoor
open Go Go.Proofs Go.PW
open Go.PW.Enc (enc val)
theorem follows : Tryz.prog.follows .mixedOrders = true := by kernel_rfl
theorem IsNaN_ct (f : F64) : Ct Tryz.prog 129 [.float .f64 f.b.toNat] [] [] (fun v o r => v = .bool (fNe f.b.toNat f.b.toNat) ∧ o = [] ∧ r = []) := by
 refine ct_enter Tryz.func129 rfl Tryz.ntmps129 (by kernel_rfl) rfl fun w0 => ?_
 refine csr <| agb rfl <| jsr <| mv (.float _ _) rfl <| mv (.float _ _) rfl <| fcmp (fNe f.b.toNat f.b.toNat) rfl rfl rfl <| agb rfl <| jt <| c_ret ?_
 exact j_z (own0 := []) (ro0 := []) (.inl rfl) rfl (hr1 Tryz.results129 (rvt (v := (.bool _)) rfl)) rfl (⟨rfl, rfl, rfl⟩)
theorem Abs_ct (f : F64) : Ct Tryz.prog 130 [.float .f64 f.b.toNat] [] [] (fun v o r => v = .float .f64 (absF f).b.toNat ∧ o = [] ∧ r = []) := by
 refine ct_enter Tryz.func130 rfl Tryz.ntmps130 (by kernel_rfl) rfl fun w0 => ?_
 refine csr <| asg (.float _ _) rfl <| jsr <| mv (.float _ _) rfl <| xcal (args := [.float .f64 f.b.toNat]) (.int .u64 (f.b.toNat : Int)) Tryz.func119 (by kernel_rfl) (by kernel_rfl) (by kernel_rfl) (fun w => rfl) (by kernel_rfl) rfl <| andNotU64 (a := f.b) (b := (9223372036854775808 : UInt64)) rfl rfl <| xcal (args := [.int .u64 ((f.b &&& ~~~(9223372036854775808 : UInt64)).toNat : Int)]) (.float .f64 (f.b &&& ~~~(9223372036854775808 : UInt64)).toNat) Tryz.func93 (by kernel_rfl) (by kernel_rfl) (by kernel_rfl) (fun w => rfl) (by kernel_rfl) rfl <| asg (.float _ _) rfl <| jt <| c_ret ?_
 exact j_z (own0 := []) (ro0 := []) (.inl rfl) rfl (hr1 Tryz.results130 (rvt (v := (.float _ _)) rfl)) rfl (⟨rfl, rfl, rfl⟩)
theorem Signbit_ct (f : F64) : Ct Tryz.prog 131 [.float .f64 f.b.toNat] [] [] (fun v o r => v = .bool (negF f) ∧ o = [] ∧ r = []) := by
 refine ct_enter Tryz.func131 rfl Tryz.ntmps131 (by kernel_rfl) rfl fun w0 => ?_
 refine csr <| agb rfl <| jsr <| mv (.float _ _) rfl <| xcal (args := [.float .f64 f.b.toNat]) (.int .u64 (f.b.toNat : Int)) Tryz.func119 (by kernel_rfl) (by kernel_rfl) (by kernel_rfl) (fun w => rfl) (by kernel_rfl) rfl <| cvI (IntKind.i64.wrap (f.b.toNat : Int)) rfl uy72 uy2 rfl <| cmp _ rfl rfl rfl <| agb rfl <| jt <| c_ret ?_
 exact j_z (own0 := []) (ro0 := []) (.inl rfl) rfl (hr1 Tryz.results131 (rvt (v := (.bool _)) rfl)) rfl (⟨rfl, rfl, rfl⟩)
end Go.Proofs.YtakbbpahfclgnaaGreatDoor
namespace Go.Proofs.YtakbbpahfclgnaaGreatDoor
open Go Go.Proofs Go.PW
open Go.PW.Enc (enc val)
theorem ty5 : Ty Tryz.prog 5 1 false := ⟨by kernel_rfl, by kernel_rfl⟩
theorem Text_ct (sx : Vs) (xs : Str) (hx : sx.ok xs) (hb : xs.length ≤ 4611686018427387904) : Ct Tryz.prog 117 [.slice sx.adr xs.length sx.cap] [] [sx.seg xs] (fun v o r => v = .bool (u8ok xs) ∧ o = [] ∧ r = []) := by
 refine ct_enter Tryz.func117 rfl Tryz.ntmps117 (by kernel_rfl) rfl fun w0 => ?_
 refine csr <| agb rfl <| jt <| c_seq <| csr <| agi rfl <| jt <| c_block <| c_loop (σ := Nat) (fun i => i ≤ xs.length ∧ u8ok (xs.drop i) = u8ok xs) (fun i => xs.length - i) (fun i => [(3, .int .i64 (i : Int))]) (fun i => []) (fun i => [sx.seg xs]) [2, 3, 4, 5, 6, 7, 8, 9, 10, 11, 12, 13, 14, 15, 16, 17, 18, 19, 20, 21, 22, 23, 24, 25, 26, 27, 28, 29, 30, 31, 32, 33, 34, 35, 36, 37, 38, 39, 40, 41, 42, 43, 44, 45, 46, 47, 48, 49, 50, 51, 52, 53, 54, 55, 56, 57, 58, 59, 60, 61, 62, 63, 64, 65, 66, 67, 68, 69, 70, 71, 72, 73, 74, 75, 76, 77, 78, 79, 80, 81, 82, 83, 84, 85, 86, 87, 88, 89, 90, 91, 92, 93, 94, 95, 96, 97, 98, 99, 100, 101, 102] 0 (⟨by omega, rfl⟩) ⟨rfl, trivial⟩ rfl rfl ?_
 rintro i g1 hI1
 try dsimp only at hI1 ⊢
 refine c_seq <| csr <| mvi rfl <| mvl rfl <| lenS rfl uy93 <| cmp _ rfl rfl rfl <| jt <| c_cond rfl (fun h1 => ?_) (fun h1 => ?_)
 ·replace h1 := of_decide_eq_true h1
  refine c_skip <| e_then <| c_block <| csr <| agi rfl <| jsr <| mvl rfl <| mvi rfl <| ixs sx xs i hx rfl rfl rfl uy93 ty5.sz rfl (by first | omega | (simp; done) | (simp; omega) | (simp at *; omega)) <| ldvsG 0 (List.getD xs i 0) hx rfl rfl rfl rfl (getD_some (by first | omega | (simp; done) | (simp; omega) | (simp at *; omega))) ty5 <| cvI ((List.getD xs i 0).toNat : Int) rfl uy5 uy3 (wI64 (by have := UInt8.toNat_lt (List.getD xs i 0); omega)) <| agi rfl <| jsr <| agi rfl <| jt <| c_cut (σ := Int × Int × Int) (fun ⟨n, c, mn⟩ => Cls (xs.getD i 0).toNat n c mn) (fun ⟨n, c, mn⟩ => [(4, .int .i64 n), (5, .int .i64 c), (6, .int .i64 mn)]) (fun ⟨n, c, mn⟩ => []) (fun ⟨n, c, mn⟩ => [sx.seg xs]) [2, 4, 5, 6, 17, 18, 19, 20, 21, 22, 23, 24, 25, 26, 27, 28, 29, 30, 31, 32, 33, 34, 35, 36, 37, 38, 39, 40, 41, 42, 43, 44, 45, 46] ?_ ?_
  ·refine c_block <| csr <| mvi rfl <| cmp _ rfl rfl rfl <| agb rfl <| jt <| c_cond rfl (fun h2 => ?_) (fun h2 => ?_)
   ·replace h2 := of_decide_eq_true h2
    refine c_skip <| e_in ?_
    exact e_lp (1, ((List.getD xs i 0).toNat : Int), 0) (by repeat (first | exact out_self | refine out_hav (by kernel_rfl) ?_ | refine out_look (by kernel_rfl) ?_)) (by unfold Cls; omega) trivial (⟨rfl, rfl, rfl, trivial⟩) rfl rfl rfl
   ·replace h2 := of_decide_eq_false h2
    refine csr <| mvi rfl <| cmp _ rfl rfl rfl <| mvb rfl <| jsplit 23 rfl (fun h3 => ?_) (fun h3 => ?_)
    ·replace h3 := of_decide_eq_true h3
     refine g_on rfl rfl rfl <| mvi rfl <| g_on rfl rfl rfl <| cmp _ rfl rfl rfl <| pkt (.bool _) rfl rfl <| agb rfl <| jt <| c_cond rfl (fun h4 => ?_) (fun h4 => ?_)
     ·replace h4 := of_decide_eq_true h4
      refine c_reg <| mvi rfl <| subi rfl rfl rfl (by omega) <| agi rfl <| agi rfl <| agi rfl <| jn <| e_in ?_
      exact e_lp (2, ((List.getD xs i 0).toNat : Int) - 192, 128) (by repeat (first | exact out_self | refine out_hav (by kernel_rfl) ?_ | refine out_look (by kernel_rfl) ?_)) (by unfold Cls; omega) trivial (⟨rfl, rfl, rfl, trivial⟩) rfl rfl rfl
     ·replace h4 := of_decide_eq_false h4
      refine csr <| mvi rfl <| cmp _ rfl rfl rfl <| mvb rfl <| jsplit 32 rfl (fun h5 => ?_) (fun h5 => ?_)
      ·replace h5 := of_decide_eq_true h5
       refine g_on rfl rfl rfl <| mvi rfl <| g_on rfl rfl rfl <| cmp _ rfl rfl rfl <| pkt (.bool _) rfl rfl <| agb rfl <| jt <| c_cond rfl (fun h6 => ?_) (fun h6 => ?_)
       ·replace h6 := of_decide_eq_true h6
        refine c_reg <| mvi rfl <| subi rfl rfl rfl (by omega) <| agi rfl <| agi rfl <| agi rfl <| jn <| e_in ?_
        exact e_lp (3, ((List.getD xs i 0).toNat : Int) - 224, 2048) (by repeat (first | exact out_self | refine out_hav (by kernel_rfl) ?_ | refine out_look (by kernel_rfl) ?_)) (by unfold Cls; omega) trivial (⟨rfl, rfl, rfl, trivial⟩) rfl rfl rfl
       ·replace h6 := of_decide_eq_false h6
        refine csr <| mvi rfl <| cmp _ rfl rfl rfl <| mvb rfl <| jsplit 41 rfl (fun h7 => ?_) (fun h7 => ?_)
        ·replace h7 := of_decide_eq_true h7
         refine g_on rfl rfl rfl <| mvi rfl <| g_on rfl rfl rfl <| cmp _ rfl rfl rfl <| pkt (.bool _) rfl rfl <| agb rfl <| jt <| c_cond rfl (fun h8 => ?_) (fun h8 => ?_)
         ·replace h8 := of_decide_eq_true h8
          refine c_reg <| mvi rfl <| subi rfl rfl rfl (by omega) <| agi rfl <| agi rfl <| agi rfl <| jn <| e_in ?_
          exact e_lp (4, ((List.getD xs i 0).toNat : Int) - 240, 65536) (by repeat (first | exact out_self | refine out_hav (by kernel_rfl) ?_ | refine out_look (by kernel_rfl) ?_)) (by unfold Cls; omega) trivial (⟨rfl, rfl, rfl, trivial⟩) rfl rfl rfl
         ·replace h8 := of_decide_eq_false h8
          refine csr <| agb rfl <| jt <| c_ret ?_
          exact j_z (own0 := []) (ro0 := [sx.seg xs]) (.inl rfl) rfl (hr1 Tryz.results117 (rvt (v := (.bool _)) rfl)) rfl (⟨(by first | exact txt_no hI1.2 (by omega) (txt_cont hC1 k (by omega) (by omega) (by omega)) | exact txt_no hI1.2 (by omega) (txt_wide hC1 hI2 (by assumption) (by omega)) | exact txt_no hI1.2 (by omega) (txt_short hC1 (by omega) (by omega)) | exact txt_no hI1.2 (by omega) (txt_head (by omega) (by omega)) | (rw [← hI1.2, u8ok_nil (by simp; omega)])), rfl, rfl⟩)
        ·replace h7 := of_decide_eq_false h7
         refine g_off rfl rfl rfl rfl <| g_off rfl rfl rfl rfl <| pkf (.bool _) rfl rfl <| agb rfl <| jt <| c_false rfl <| csr <| agb rfl <| jt <| c_ret ?_
         exact j_z (own0 := []) (ro0 := [sx.seg xs]) (.inl rfl) rfl (hr1 Tryz.results117 (rvt (v := (.bool _)) rfl)) rfl (⟨(by first | exact txt_no hI1.2 (by omega) (txt_cont hC1 k (by omega) (by omega) (by omega)) | exact txt_no hI1.2 (by omega) (txt_wide hC1 hI2 (by assumption) (by omega)) | exact txt_no hI1.2 (by omega) (txt_short hC1 (by omega) (by omega)) | exact txt_no hI1.2 (by omega) (txt_head (by omega) (by omega)) | (rw [← hI1.2, u8ok_nil (by simp; omega)])), rfl, rfl⟩)
      ·replace h5 := of_decide_eq_false h5
       refine g_off rfl rfl rfl rfl <| g_off rfl rfl rfl rfl <| pkf (.bool _) rfl rfl <| agb rfl <| jt <| c_false rfl <| csr <| mvi rfl <| cmp _ rfl rfl rfl <| mvb rfl <| jsplit 41 rfl (fun h9 => ?_) (fun h9 => ?_)
       ·replace h9 := of_decide_eq_true h9
        refine g_on rfl rfl rfl <| mvi rfl <| g_on rfl rfl rfl <| cmp _ rfl rfl rfl <| pkt (.bool _) rfl rfl <| agb rfl <| jt <| c_cond rfl (fun h10 => ?_) (fun h10 => ?_)
        ·replace h10 := of_decide_eq_true h10
         refine c_reg <| mvi rfl <| subi rfl rfl rfl (by omega) <| agi rfl <| agi rfl <| agi rfl <| jn <| e_in ?_
         exact e_lp (4, ((List.getD xs i 0).toNat : Int) - 240, 65536) (by repeat (first | exact out_self | refine out_hav (by kernel_rfl) ?_ | refine out_look (by kernel_rfl) ?_)) (by unfold Cls; omega) trivial (⟨rfl, rfl, rfl, trivial⟩) rfl rfl rfl
        ·replace h10 := of_decide_eq_false h10
         refine csr <| agb rfl <| jt <| c_ret ?_
         exact j_z (own0 := []) (ro0 := [sx.seg xs]) (.inl rfl) rfl (hr1 Tryz.results117 (rvt (v := (.bool _)) rfl)) rfl (⟨(by first | exact txt_no hI1.2 (by omega) (txt_cont hC1 k (by omega) (by omega) (by omega)) | exact txt_no hI1.2 (by omega) (txt_wide hC1 hI2 (by assumption) (by omega)) | exact txt_no hI1.2 (by omega) (txt_short hC1 (by omega) (by omega)) | exact txt_no hI1.2 (by omega) (txt_head (by omega) (by omega)) | (rw [← hI1.2, u8ok_nil (by simp; omega)])), rfl, rfl⟩)
       ·replace h9 := of_decide_eq_false h9
        refine g_off rfl rfl rfl rfl <| g_off rfl rfl rfl rfl <| pkf (.bool _) rfl rfl <| agb rfl <| jt <| c_false rfl <| csr <| agb rfl <| jt <| c_ret ?_
        exact j_z (own0 := []) (ro0 := [sx.seg xs]) (.inl rfl) rfl (hr1 Tryz.results117 (rvt (v := (.bool _)) rfl)) rfl (⟨(by first | exact txt_no hI1.2 (by omega) (txt_cont hC1 k (by omega) (by omega) (by omega)) | exact txt_no hI1.2 (by omega) (txt_wide hC1 hI2 (by assumption) (by omega)) | exact txt_no hI1.2 (by omega) (txt_short hC1 (by omega) (by omega)) | exact txt_no hI1.2 (by omega) (txt_head (by omega) (by omega)) | (rw [← hI1.2, u8ok_nil (by simp; omega)])), rfl, rfl⟩)
    ·replace h3 := of_decide_eq_false h3
     refine g_off rfl rfl rfl rfl <| g_off rfl rfl rfl rfl <| pkf (.bool _) rfl rfl <| agb rfl <| jt <| c_false rfl <| csr <| mvi rfl <| cmp _ rfl rfl rfl <| mvb rfl <| jsplit 32 rfl (fun h11 => ?_) (fun h11 => ?_)
     ·replace h11 := of_decide_eq_true h11
      refine g_on rfl rfl rfl <| mvi rfl <| g_on rfl rfl rfl <| cmp _ rfl rfl rfl <| pkt (.bool _) rfl rfl <| agb rfl <| jt <| c_cond rfl (fun h12 => ?_) (fun h12 => ?_)
      ·replace h12 := of_decide_eq_true h12
       refine c_reg <| mvi rfl <| subi rfl rfl rfl (by omega) <| agi rfl <| agi rfl <| agi rfl <| jn <| e_in ?_
       exact e_lp (3, ((List.getD xs i 0).toNat : Int) - 224, 2048) (by repeat (first | exact out_self | refine out_hav (by kernel_rfl) ?_ | refine out_look (by kernel_rfl) ?_)) (by unfold Cls; omega) trivial (⟨rfl, rfl, rfl, trivial⟩) rfl rfl rfl
      ·replace h12 := of_decide_eq_false h12
       refine csr <| mvi rfl <| cmp _ rfl rfl rfl <| mvb rfl <| jsplit 41 rfl (fun h13 => ?_) (fun h13 => ?_)
       ·replace h13 := of_decide_eq_true h13
        refine g_on rfl rfl rfl <| mvi rfl <| g_on rfl rfl rfl <| cmp _ rfl rfl rfl <| pkt (.bool _) rfl rfl <| agb rfl <| jt <| c_cond rfl (fun h14 => ?_) (fun h14 => ?_)
        ·replace h14 := of_decide_eq_true h14
         refine c_reg <| mvi rfl <| subi rfl rfl rfl (by omega) <| agi rfl <| agi rfl <| agi rfl <| jn <| e_in ?_
         exact e_lp (4, ((List.getD xs i 0).toNat : Int) - 240, 65536) (by repeat (first | exact out_self | refine out_hav (by kernel_rfl) ?_ | refine out_look (by kernel_rfl) ?_)) (by unfold Cls; omega) trivial (⟨rfl, rfl, rfl, trivial⟩) rfl rfl rfl
        ·replace h14 := of_decide_eq_false h14
         refine csr <| agb rfl <| jt <| c_ret ?_
         exact j_z (own0 := []) (ro0 := [sx.seg xs]) (.inl rfl) rfl (hr1 Tryz.results117 (rvt (v := (.bool _)) rfl)) rfl (⟨(by first | exact txt_no hI1.2 (by omega) (txt_cont hC1 k (by omega) (by omega) (by omega)) | exact txt_no hI1.2 (by omega) (txt_wide hC1 hI2 (by assumption) (by omega)) | exact txt_no hI1.2 (by omega) (txt_short hC1 (by omega) (by omega)) | exact txt_no hI1.2 (by omega) (txt_head (by omega) (by omega)) | (rw [← hI1.2, u8ok_nil (by simp; omega)])), rfl, rfl⟩)
       ·replace h13 := of_decide_eq_false h13
        refine g_off rfl rfl rfl rfl <| g_off rfl rfl rfl rfl <| pkf (.bool _) rfl rfl <| agb rfl <| jt <| c_false rfl <| csr <| agb rfl <| jt <| c_ret ?_
        exact j_z (own0 := []) (ro0 := [sx.seg xs]) (.inl rfl) rfl (hr1 Tryz.results117 (rvt (v := (.bool _)) rfl)) rfl (⟨(by first | exact txt_no hI1.2 (by omega) (txt_cont hC1 k (by omega) (by omega) (by omega)) | exact txt_no hI1.2 (by omega) (txt_wide hC1 hI2 (by assumption) (by omega)) | exact txt_no hI1.2 (by omega) (txt_short hC1 (by omega) (by omega)) | exact txt_no hI1.2 (by omega) (txt_head (by omega) (by omega)) | (rw [← hI1.2, u8ok_nil (by simp; omega)])), rfl, rfl⟩)
     ·replace h11 := of_decide_eq_false h11
      refine g_off rfl rfl rfl rfl <| g_off rfl rfl rfl rfl <| pkf (.bool _) rfl rfl <| agb rfl <| jt <| c_false rfl <| csr <| mvi rfl <| cmp _ rfl rfl rfl <| mvb rfl <| jsplit 41 rfl (fun h15 => ?_) (fun h15 => ?_)
      ·replace h15 := of_decide_eq_true h15
       refine g_on rfl rfl rfl <| mvi rfl <| g_on rfl rfl rfl <| cmp _ rfl rfl rfl <| pkt (.bool _) rfl rfl <| agb rfl <| jt <| c_cond rfl (fun h16 => ?_) (fun h16 => ?_)
       ·replace h16 := of_decide_eq_true h16
        refine c_reg <| mvi rfl <| subi rfl rfl rfl (by omega) <| agi rfl <| agi rfl <| agi rfl <| jn <| e_in ?_
        exact e_lp (4, ((List.getD xs i 0).toNat : Int) - 240, 65536) (by repeat (first | exact out_self | refine out_hav (by kernel_rfl) ?_ | refine out_look (by kernel_rfl) ?_)) (by unfold Cls; omega) trivial (⟨rfl, rfl, rfl, trivial⟩) rfl rfl rfl
       ·replace h16 := of_decide_eq_false h16
        refine csr <| agb rfl <| jt <| c_ret ?_
        exact j_z (own0 := []) (ro0 := [sx.seg xs]) (.inl rfl) rfl (hr1 Tryz.results117 (rvt (v := (.bool _)) rfl)) rfl (⟨(by first | exact txt_no hI1.2 (by omega) (txt_cont hC1 k (by omega) (by omega) (by omega)) | exact txt_no hI1.2 (by omega) (txt_wide hC1 hI2 (by assumption) (by omega)) | exact txt_no hI1.2 (by omega) (txt_short hC1 (by omega) (by omega)) | exact txt_no hI1.2 (by omega) (txt_head (by omega) (by omega)) | (rw [← hI1.2, u8ok_nil (by simp; omega)])), rfl, rfl⟩)
      ·replace h15 := of_decide_eq_false h15
       refine g_off rfl rfl rfl rfl <| g_off rfl rfl rfl rfl <| pkf (.bool _) rfl rfl <| agb rfl <| jt <| c_false rfl <| csr <| agb rfl <| jt <| c_ret ?_
       exact j_z (own0 := []) (ro0 := [sx.seg xs]) (.inl rfl) rfl (hr1 Tryz.results117 (rvt (v := (.bool _)) rfl)) rfl (⟨(by first | exact txt_no hI1.2 (by omega) (txt_cont hC1 k (by omega) (by omega) (by omega)) | exact txt_no hI1.2 (by omega) (txt_wide hC1 hI2 (by assumption) (by omega)) | exact txt_no hI1.2 (by omega) (txt_short hC1 (by omega) (by omega)) | exact txt_no hI1.2 (by omega) (txt_head (by omega) (by omega)) | (rw [← hI1.2, u8ok_nil (by simp; omega)])), rfl, rfl⟩)
  ·rintro ⟨n, c, mn⟩ g hC1
   try dsimp only at hC1 ⊢
   have hCb := hC1
   unfold Cls at hCb
   have hn : 1 ≤ n ∧ n ≤ 4 := by omega
   clear hCb
   refine c_seq <| csr <| mvi rfl <| mvi rfl <| addi rfl rfl rfl (by omega) <| mvl rfl <| lenS rfl uy93 <| cmp _ rfl rfl rfl <| jt <| c_cond rfl (fun h17 => ?_) (fun h17 => ?_)
   ·replace h17 := of_decide_eq_true h17
    refine csr <| agb rfl <| jt <| c_ret ?_
    exact j_z (own0 := []) (ro0 := [sx.seg xs]) (.inl rfl) rfl (hr1 Tryz.results117 (rvt (v := (.bool _)) rfl)) rfl (⟨(by first | exact txt_no hI1.2 (by omega) (txt_cont hC1 k (by omega) (by omega) (by omega)) | exact txt_no hI1.2 (by omega) (txt_wide hC1 hI2 (by assumption) (by omega)) | exact txt_no hI1.2 (by omega) (txt_short hC1 (by omega) (by omega)) | exact txt_no hI1.2 (by omega) (txt_head (by omega) (by omega)) | (rw [← hI1.2, u8ok_nil (by simp; omega)])), rfl, rfl⟩)
   ·replace h17 := of_decide_eq_false h17
    refine c_skip <| e_then <| c_seq <| csr <| agi rfl <| jt <| c_block <| c_loop (σ := Nat × Int) (fun ⟨k, v⟩ => TxtI xs i n c k v) (fun ⟨k, v⟩ => (n - (k : Int)).toNat) (fun ⟨k, v⟩ => [(7, .int .i64 (k : Int)), (5, .int .i64 v)]) (fun ⟨k, v⟩ => []) (fun ⟨k, v⟩ => [sx.seg xs]) [2, 5, 7, 53, 54, 55, 56, 57, 58, 59, 60, 61, 62, 63, 64, 65, 66, 67, 68, 69, 70, 71, 72, 73, 74, 75, 76, 77, 78, 79, 80, 81, 82, 83, 84] (1, c) (TxtI.start hC1) ⟨rfl, rfl, trivial⟩ rfl rfl ?_
    rintro ⟨k, v⟩ g2 hI2
    try dsimp only at hI2 ⊢
    obtain ⟨k1, k2, -, -, v0, vb1, vb2, vb3, vb4⟩ := id hI2
    refine c_seq <| csr <| mvi rfl <| mvi rfl <| cmp _ rfl rfl rfl <| jt <| c_cond rfl (fun h18 => ?_) (fun h18 => ?_)
    ·replace h18 := of_decide_eq_true h18
     refine c_skip <| e_then <| c_seq <| c_block <| c_seq <| csr <| mvl rfl <| mvi rfl <| mvi rfl <| addi rfl rfl rfl (by omega) <| ixs sx xs (i + k) hx rfl rfl rfl uy93 ty5.sz (by omega) (by omega) <| ldvsG 0 (List.getD xs (i + k) 0) hx rfl rfl rfl rfl (getD_some (by first | omega | (simp; done) | (simp; omega) | (simp at *; omega))) ty5 <| cmp _ rfl rfl rfl <| mvb rfl <| jsplit 65 rfl (fun h19 => ?_) (fun h19 => ?_)
     ·replace h19 := of_decide_eq_true h19
      refine g_off rfl rfl rfl rfl <| g_off rfl rfl rfl rfl <| g_off rfl rfl rfl rfl <| g_off rfl rfl rfl rfl <| g_off rfl rfl rfl rfl <| g_off rfl rfl rfl rfl <| g_off rfl rfl rfl rfl <| pkt (.bool _) rfl rfl <| jt <| c_true rfl <| csr <| agb rfl <| jt <| c_ret ?_
      exact j_z (own0 := []) (ro0 := [sx.seg xs]) (.inl rfl) rfl (hr1 Tryz.results117 (rvt (v := (.bool _)) rfl)) rfl (⟨(by first | exact txt_no hI1.2 (by omega) (txt_cont hC1 k (by omega) (by omega) (by omega)) | exact txt_no hI1.2 (by omega) (txt_wide hC1 hI2 (by assumption) (by omega)) | exact txt_no hI1.2 (by omega) (txt_short hC1 (by omega) (by omega)) | exact txt_no hI1.2 (by omega) (txt_head (by omega) (by omega)) | (rw [← hI1.2, u8ok_nil (by simp; omega)])), rfl, rfl⟩)
     ·replace h19 := of_decide_eq_false h19
      refine g_on rfl rfl rfl <| mvl rfl <| g_on rfl rfl rfl <| mvi rfl <| g_on rfl rfl rfl <| mvi rfl <| g_on rfl rfl rfl <| addi rfl rfl rfl (by omega) <| g_on rfl rfl rfl <| ixs sx xs (i + k) hx rfl rfl rfl uy93 ty5.sz (by omega) (by omega) <| g_on rfl rfl rfl <| ldvsG 0 (List.getD xs (i + k) 0) hx rfl rfl rfl rfl (getD_some (by first | omega | (simp; done) | (simp; omega) | (simp at *; omega))) ty5 <| g_on rfl rfl rfl <| cmp _ rfl rfl rfl <| pkf (.bool _) rfl rfl <| jt <| c_cond rfl (fun h20 => ?_) (fun h20 => ?_)
      ·replace h20 := of_decide_eq_true h20
       refine csr <| agb rfl <| jt <| c_ret ?_
       exact j_z (own0 := []) (ro0 := [sx.seg xs]) (.inl rfl) rfl (hr1 Tryz.results117 (rvt (v := (.bool _)) rfl)) rfl (⟨(by first | exact txt_no hI1.2 (by omega) (txt_cont hC1 k (by omega) (by omega) (by omega)) | exact txt_no hI1.2 (by omega) (txt_wide hC1 hI2 (by assumption) (by omega)) | exact txt_no hI1.2 (by omega) (txt_short hC1 (by omega) (by omega)) | exact txt_no hI1.2 (by omega) (txt_head (by omega) (by omega)) | (rw [← hI1.2, u8ok_nil (by simp; omega)])), rfl, rfl⟩)
      ·replace h20 := of_decide_eq_false h20
       refine c_skip <| e_then <| c_reg <| mvi rfl <| muli rfl rfl rfl (by omega) <| mvl rfl <| mvi rfl <| mvi rfl <| addi rfl rfl rfl (by omega) <| ixs sx xs (i + k) hx rfl rfl rfl uy93 ty5.sz (by omega) (by omega) <| ldvsG 0 (List.getD xs (i + k) 0) hx rfl rfl rfl rfl (getD_some (by first | omega | (simp; done) | (simp; omega) | (simp at *; omega))) ty5 <| subU8 (a := (List.getD xs (i + k) 0)) (b := (128 : UInt8)) rfl rfl <| cvI (((List.getD xs (i + k) 0) - (128 : UInt8)).toNat : Int) rfl uy5 uy3 (wI64 (by have := UInt8.toNat_lt ((List.getD xs (i + k) 0) - (128 : UInt8)); omega)) ?_
       have hlt8 := UInt8.toNat_lt (List.getD xs (i + k) 0 - 128)
       refine addi rfl rfl rfl (by omega) <| agi rfl <| jn <| e_in <| e_then <| c_reg <| mvi rfl <| addi rfl rfl rfl (by omega) <| agi rfl <| jn ?_
       exact e_lp (k + 1, v * 64 + ((xs.getD (i + k) 0 - 128).toNat : Int)) (by repeat (first | exact out_self | refine out_hav (by kernel_rfl) ?_ | refine out_look (by kernel_rfl) ?_)) (TxtI.next hC1 hI2 (by omega) (by omega) (by omega)) (by (try dsimp only); omega) (⟨rfl, rfl, trivial⟩) rfl rfl rfl
    ·replace h18 := of_decide_eq_false h18
     refine c_exit rfl <| e_then <| c_seq <| csr <| mvi rfl <| mvi rfl <| cmp _ rfl rfl rfl <| mvb rfl <| jsplit 88 rfl (fun h21 => ?_) (fun h21 => ?_)
     ·replace h21 := of_decide_eq_true h21
      refine g_off rfl rfl rfl rfl <| g_off rfl rfl rfl rfl <| pkt (.bool _) rfl rfl <| mvb rfl <| g_off rfl rfl rfl rfl <| g_off rfl rfl rfl rfl <| g_off rfl rfl rfl rfl <| g_und rfl rfl rfl <| g_und rfl rfl rfl <| g_off rfl rfl rfl rfl <| pkt (.bool _) rfl rfl <| jt <| c_true rfl <| csr <| agb rfl <| jt <| c_ret ?_
      exact j_z (own0 := []) (ro0 := [sx.seg xs]) (.inl rfl) rfl (hr1 Tryz.results117 (rvt (v := (.bool _)) rfl)) rfl (⟨(by first | exact txt_no hI1.2 (by omega) (txt_cont hC1 k (by omega) (by omega) (by omega)) | exact txt_no hI1.2 (by omega) (txt_wide hC1 hI2 (by assumption) (by omega)) | exact txt_no hI1.2 (by omega) (txt_short hC1 (by omega) (by omega)) | exact txt_no hI1.2 (by omega) (txt_head (by omega) (by omega)) | (rw [← hI1.2, u8ok_nil (by simp; omega)])), rfl, rfl⟩)
     ·replace h21 := of_decide_eq_false h21
      refine g_on rfl rfl rfl <| mvi rfl <| g_on rfl rfl rfl <| cmp _ rfl rfl rfl <| pkf (.bool _) rfl rfl <| mvb rfl <| jsplit 92 rfl (fun h22 => ?_) (fun h22 => ?_)
      ·replace h22 := of_decide_eq_true h22
       refine g_off rfl rfl rfl rfl <| g_off rfl rfl rfl rfl <| g_off rfl rfl rfl rfl <| g_und rfl rfl rfl <| g_und rfl rfl rfl <| g_off rfl rfl rfl rfl <| pkt (.bool _) rfl rfl <| jt <| c_true rfl <| csr <| agb rfl <| jt <| c_ret ?_
       exact j_z (own0 := []) (ro0 := [sx.seg xs]) (.inl rfl) rfl (hr1 Tryz.results117 (rvt (v := (.bool _)) rfl)) rfl (⟨(by first | exact txt_no hI1.2 (by omega) (txt_cont hC1 k (by omega) (by omega) (by omega)) | exact txt_no hI1.2 (by omega) (txt_wide hC1 hI2 (by assumption) (by omega)) | exact txt_no hI1.2 (by omega) (txt_short hC1 (by omega) (by omega)) | exact txt_no hI1.2 (by omega) (txt_head (by omega) (by omega)) | (rw [← hI1.2, u8ok_nil (by simp; omega)])), rfl, rfl⟩)
      ·replace h22 := of_decide_eq_false h22
       refine g_on rfl rfl rfl <| mvi rfl <| g_on rfl rfl rfl <| cmp _ rfl rfl rfl <| g_on rfl rfl rfl <| mvb rfl <| jsplit 95 rfl (fun h23 => ?_) (fun h23 => ?_)
       ·replace h23 := of_decide_eq_true h23
        refine g_on rfl rfl rfl <| mvi rfl <| g_on rfl rfl rfl <| cmp _ rfl rfl rfl <| g_on rfl rfl rfl <| pkt (.bool _) rfl rfl <| pkf (.bool _) rfl rfl <| jt <| c_cond rfl (fun h24 => ?_) (fun h24 => ?_)
        ·replace h24 := of_decide_eq_true h24
         refine csr <| agb rfl <| jt <| c_ret ?_
         exact j_z (own0 := []) (ro0 := [sx.seg xs]) (.inl rfl) rfl (hr1 Tryz.results117 (rvt (v := (.bool _)) rfl)) rfl (⟨(by first | exact txt_no hI1.2 (by omega) (txt_cont hC1 k (by omega) (by omega) (by omega)) | exact txt_no hI1.2 (by omega) (txt_wide hC1 hI2 (by assumption) (by omega)) | exact txt_no hI1.2 (by omega) (txt_short hC1 (by omega) (by omega)) | exact txt_no hI1.2 (by omega) (txt_head (by omega) (by omega)) | (rw [← hI1.2, u8ok_nil (by simp; omega)])), rfl, rfl⟩)
        ·replace h24 := of_decide_eq_false h24
         refine c_skip <| e_then <| c_reg <| mvi rfl <| mvi rfl <| addi rfl rfl rfl (by omega) <| agi rfl <| jn <| e_in ?_
         exact e_lp (((i : Int) + n).toNat) (by repeat (first | exact out_self | refine out_hav (by kernel_rfl) ?_ | refine out_look (by kernel_rfl) ?_)) (⟨by omega, txt_on hI1.2 (by omega) (txt_good hC1 hI2 (by assumption) (by omega) (by omega) (by omega)) (by omega) (by omega)⟩) (by (try dsimp only); omega) (⟨congrArg (Value.int .i64) (show (i : Int) + n = (((i : Int) + n).toNat : Int) by omega), trivial⟩) rfl rfl rfl
       ·replace h23 := of_decide_eq_false h23
        refine g_off rfl rfl rfl rfl <| g_off rfl rfl rfl rfl <| g_on rfl rfl rfl <| pkf (.bool _) rfl rfl <| pkf (.bool _) rfl rfl <| jt <| c_false rfl <| c_skip <| e_then <| c_reg <| mvi rfl <| mvi rfl <| addi rfl rfl rfl (by omega) <| agi rfl <| jn <| e_in ?_
        exact e_lp (((i : Int) + n).toNat) (by repeat (first | exact out_self | refine out_hav (by kernel_rfl) ?_ | refine out_look (by kernel_rfl) ?_)) (⟨by omega, txt_on hI1.2 (by omega) (txt_good hC1 hI2 (by assumption) (by omega) (by omega) (by omega)) (by omega) (by omega)⟩) (by (try dsimp only); omega) (⟨congrArg (Value.int .i64) (show (i : Int) + n = (((i : Int) + n).toNat : Int) by omega), trivial⟩) rfl rfl rfl
 ·replace h1 := of_decide_eq_false h1
  refine c_exit rfl <| e_then <| csr <| agb rfl <| jt <| c_ret ?_
  exact j_z (own0 := []) (ro0 := [sx.seg xs]) (.inl rfl) rfl (hr1 Tryz.results117 (rvt (v := (.bool _)) rfl)) rfl (⟨(by first | exact txt_no hI1.2 (by omega) (txt_cont hC1 k (by omega) (by omega) (by omega)) | exact txt_no hI1.2 (by omega) (txt_wide hC1 hI2 (by assumption) (by omega)) | exact txt_no hI1.2 (by omega) (txt_short hC1 (by omega) (by omega)) | exact txt_no hI1.2 (by omega) (txt_head (by omega) (by omega)) | (rw [← hI1.2, u8ok_nil (by simp; omega)])), rfl, rfl⟩)
end Go.Proofs.YtakbbpahfclgnaaGreatDoor
namespace Go.Proofs.YtakbbpahfclgnaaGreatDoor
open Go Go.Proofs Go.PW
open Go.PW.Enc (enc val)
def saidB (s : Str) (lo hi : Int) : Bool := (decide (lo ≤ (s.length : Int)) && decide ((s.length : Int) ≤ hi)) && u8ok s
theorem odd_ct (x m : F64) : Ct Tryz.prog 106 [.float .f64 x.b.toNat, .float .f64 m.b.toNat] [] [] (fun v o r => v = .bool (oddB x m) ∧ o = [] ∧ r = []) := by
 refine ct_enter Tryz.func106 rfl Tryz.ntmps106 (by kernel_rfl) rfl fun w0 => ?_
 refine csr <| agb rfl <| jsr <| mv (.float _ _) rfl <| cal (IsNaN_ct x) [] [] [] rfl rfl rfl (by kernel_rfl) impl_nil rfl ?_; rintro _ _ _ ⟨rfl, rfl, rfl⟩; refine ⟨trivial, ?_⟩
 refine mvb rfl <| jsplit 7 rfl (fun h1 => ?_) (fun h1 => ?_)
 ·refine g_off rfl rfl rfl rfl <| g_off rfl rfl rfl rfl <| g_off rfl rfl rfl rfl <| g_off rfl rfl rfl rfl <| pkt (.bool _) rfl rfl <| mvb rfl <| g_off rfl rfl rfl rfl <| g_off rfl rfl rfl rfl <| g_off rfl rfl rfl rfl <| g_und rfl rfl rfl <| g_und rfl rfl rfl <| g_off rfl rfl rfl rfl <| pkt (.bool _) rfl rfl <| agb rfl <| jt <| c_ret ?_
  exact j_z (own0 := []) (ro0 := []) (.inl rfl) rfl (hr1 Tryz.results106 (rvt (v := (.bool _)) rfl)) rfl (⟨by simp [oddB, *], rfl, rfl⟩)
 ·refine g_on rfl rfl rfl <| mv (.float _ _) rfl <| g_on rfl rfl rfl <| cal (Abs_ct x) [] [] [] rfl rfl rfl (by kernel_rfl) impl_nil rfl ?_; rintro _ _ _ ⟨rfl, rfl, rfl⟩; refine ⟨trivial, ?_⟩
  refine g_on rfl rfl rfl <| mv (.float _ _) rfl <| g_on rfl rfl rfl <| fcmp (fGt ((absF x).b.toNat) m.b.toNat) rfl rfl rfl <| pkf (.bool _) rfl rfl <| mvb rfl <| jsplit 13 rfl (fun h2 => ?_) (fun h2 => ?_)
  ·refine g_off rfl rfl rfl rfl <| g_off rfl rfl rfl rfl <| g_off rfl rfl rfl rfl <| g_und rfl rfl rfl <| g_und rfl rfl rfl <| g_off rfl rfl rfl rfl <| pkt (.bool _) rfl rfl <| agb rfl <| jt <| c_ret ?_
   exact j_z (own0 := []) (ro0 := []) (.inl rfl) rfl (hr1 Tryz.results106 (rvt (v := (.bool _)) rfl)) rfl (⟨by simp [oddB, *], rfl, rfl⟩)
  ·refine g_on rfl rfl rfl <| mv (.float _ _) rfl <| g_on rfl rfl rfl <| fcmp (fEq x.b.toNat 0) rfl rfl rfl <| g_on rfl rfl rfl <| mvb rfl <| jsplit 16 rfl (fun h3 => ?_) (fun h3 => ?_)
   ·refine g_on rfl rfl rfl <| mv (.float _ _) rfl <| g_on rfl rfl rfl <| cal (Signbit_ct x) [] [] [] rfl rfl rfl (by kernel_rfl) impl_nil rfl ?_; rintro _ _ _ ⟨rfl, rfl, rfl⟩; refine ⟨trivial, ?_⟩
    refine g_on rfl rfl rfl <| pkt (.bool _) rfl rfl <| pkf (.bool _) rfl rfl <| agb rfl <| jt <| c_ret ?_
    exact j_z (own0 := []) (ro0 := []) (.inl rfl) rfl (hr1 Tryz.results106 (rvt (v := (.bool _)) rfl)) rfl (⟨by simp [oddB, *], rfl, rfl⟩)
   ·refine g_off rfl rfl rfl rfl <| g_off rfl rfl rfl rfl <| g_on rfl rfl rfl <| pkf (.bool _) rfl rfl <| pkf (.bool _) rfl rfl <| agb rfl <| jt <| c_ret ?_
    exact j_z (own0 := []) (ro0 := []) (.inl rfl) rfl (hr1 Tryz.results106 (rvt (v := (.bool _)) rfl)) rfl (⟨by simp [oddB, *], rfl, rfl⟩)
end Go.Proofs.YtakbbpahfclgnaaGreatDoor
namespace Go.Proofs.YtakbbpahfclgnaaGreatDoor
open Go Go.Proofs Go.PW
open Go.PW.Enc (enc val)
theorem whole_0 {n : UInt64} (h : ¬n = 0) : (0 : UInt64).toNat < 64 ∧ 1 ≤ n.toNat / 2 ^ (0 : UInt64).toNat := by
  have : n.toNat ≠ 0 := fun e => h (UInt64.toNat_inj.1 e)
  have e : (0 : UInt64).toNat = 0 := rfl
  rw [e]; omega
theorem whole_up {n p : UInt64} (h1 : p.toNat < 64) (h2 : 1 < n.toNat / 2 ^ p.toNat) : (p + 1).toNat = p.toNat + 1 ∧ p.toNat + 1 < 64 ∧ 2 ^ (p.toNat + 1) ≤ n.toNat := by
  have hn := n.toNat_lt
  have h3 : (p + 1).toNat = p.toNat + 1 := by rw [UInt64.toNat_add]; show (p.toNat + 1) % 2 ^ 64 = _; omega
  have h4 : 2 * 2 ^ p.toNat ≤ n.toNat := (Nat.le_div_iff_mul_le (Nat.two_pow_pos _)).1 h2
  have h5 : 2 ^ (p.toNat + 1) ≤ n.toNat := by rw [Nat.pow_succ]; omega
  refine ⟨h3, ?_, h5⟩
  rcases Nat.lt_or_ge (p.toNat + 1) 64 with h | h
  · exact h
  · have : (2 : Nat) ^ 64 ≤ 2 ^ (p.toNat + 1) := Nat.pow_le_pow_right (by decide) h
    omega
theorem whole_on {n p : UInt64} (h1 : p.toNat < 64) (h2 : 1 < n.toNat / 2 ^ p.toNat) : (p + 1).toNat < 64 ∧ 1 ≤ n.toNat / 2 ^ (p + 1).toNat := by
  obtain ⟨h3, h4, h5⟩ := whole_up h1 h2
  rw [h3]
  exact ⟨h4, (Nat.le_div_iff_mul_le (Nat.two_pow_pos _)).2 (by omega)⟩
theorem whole_z {n : UInt64} (h : n = 0) : wholeV n = 0 := by unfold wholeV; rw [if_pos h]
theorem whole_hi {n p : UInt64} (h : ¬n = 0) (h1 : p.toNat < 64) (h2 : 1 ≤ n.toNat / 2 ^ p.toNat) (h3 : n.toNat / 2 ^ p.toNat ≤ 1) (h4 : 52 < p.toNat) : wholeV n = shlU64 (1023 + p) 52 := by
  have e : Nat.log2 n.toNat = p.toNat := log2_unique h2 h3
  unfold wholeV; rw [if_neg h, e, UInt64.ofNat_toNat, if_pos h4]
theorem whole_lo {n p : UInt64} (h : ¬n = 0) (h1 : p.toNat < 64) (h2 : 1 ≤ n.toNat / 2 ^ p.toNat) (h3 : n.toNat / 2 ^ p.toNat ≤ 1) (h4 : ¬52 < p.toNat) : wholeV n = shlU64 (1023 + p) 52 + shlU64 n (52 - p).toNat - 4503599627370496 := by
  have e : Nat.log2 n.toNat = p.toNat := log2_unique h2 h3
  unfold wholeV; rw [if_neg h, e, UInt64.ofNat_toNat, if_neg h4]
theorem whole_ct (n : UInt64) (hn : n.toNat < 9223372036854775808) : Ct Tryz.prog 138 [.int .u64 (n.toNat : Int)] [] [] (fun v o r => v = .int .u64 (wholeV n).toNat ∧ o = [] ∧ r = []) := by
 refine ct_enter Tryz.func138 rfl Tryz.ntmps138 (by kernel_rfl) rfl fun w0 => ?_
 refine csr <| agi rfl <| jt <| c_seq <| csr <| mvi rfl <| equ64 (a := n) (b := (0 : UInt64)) _ rfl rfl rfl <| jt <| c_cond rfl (fun h1 => ?_) (fun h1 => ?_)
 ·replace h1 := of_decide_eq_true h1
  refine csr <| agi rfl <| jt <| c_ret ?_
  exact j_z (own0 := []) (ro0 := []) (.inl rfl) rfl (hr1 Tryz.results138 (rvt (v := (.int _ _)) rfl)) rfl (⟨by rw [whole_z h1]; rfl, rfl, rfl⟩)
 ·replace h1 := of_decide_eq_false h1
  refine c_skip <| e_then <| csr <| agi rfl <| jt <| c_seq <| c_block <| c_loop (σ := UInt64) (fun p => p.toNat < 64 ∧ 1 ≤ n.toNat / 2 ^ p.toNat) (fun p => 64 - p.toNat) (fun p => [(3, .int .u64 (p.toNat : Int))]) (fun p => []) (fun p => []) [3, 6, 7, 8, 9, 10, 11] 0 (whole_0 h1) ⟨rfl, trivial⟩ rfl rfl ?_
  rintro p g1 hI1
  try dsimp only at hI1 ⊢
  refine c_seq <| csr <| mvi rfl <| mvi rfl <| shrRU64 (a := n) p.toNat rfl rfl rfl <| cmp _ rfl rfl rfl <| jt <| c_cond rfl (fun h2 => ?_) (fun h2 => ?_)
  ·replace h2 := of_decide_eq_true h2
   refine c_skip <| e_then <| c_block <| c_reg <| mvi rfl <| addU64 (a := p) (b := (1 : UInt64)) rfl rfl <| agi rfl <| jn <| e_in ?_
   exact e_loop (p + 1) (whole_on (p := p) hI1.1 (by rw [shrU64_toNat] at h2; omega)) (by have h9 := whole_up (n := n) (p := p) hI1.1 (by rw [shrU64_toNat] at h2; omega); (try dsimp only); omega) (⟨rfl, trivial⟩) rfl rfl rfl
  ·replace h2 := of_decide_eq_false h2
   refine c_exit rfl <| e_then <| c_seq <| csr <| mvi rfl <| cmp _ rfl rfl rfl <| jt <| c_cond rfl (fun h3 => ?_) (fun h3 => ?_)
   ·replace h3 := of_decide_eq_true h3
    refine csr <| mvi rfl <| addU64 (a := (1023 : UInt64)) (b := p) rfl rfl <| shlRU64 (a := ((1023 : UInt64) + p)) 52 rfl rfl rfl <| agi rfl <| jt <| c_ret ?_
    exact j_z (own0 := []) (ro0 := []) (.inl rfl) rfl (hr1 Tryz.results138 (rvt (v := (.int _ _)) rfl)) rfl (⟨by rw [whole_hi h1 hI1.1 hI1.2 (by rw [shrU64_toNat] at h2; omega) (by omega)], rfl, rfl⟩)
   ·replace h3 := of_decide_eq_false h3
    refine c_skip <| e_then <| csr <| mvi rfl <| addU64 (a := (1023 : UInt64)) (b := p) rfl rfl <| shlRU64 (a := ((1023 : UInt64) + p)) 52 rfl rfl rfl <| mvi rfl <| mvi rfl <| subU64 (a := (52 : UInt64)) (b := p) rfl rfl <| shlRU64 (a := n) ((52 - p).toNat) rfl rfl rfl <| addU64 (a := (shlU64 ((1023 : UInt64) + p) 52)) (b := (shlU64 n ((52 - p).toNat))) rfl rfl <| subU64 (a := ((shlU64 ((1023 : UInt64) + p) 52) + (shlU64 n ((52 - p).toNat)))) (b := (4503599627370496 : UInt64)) rfl rfl <| agi rfl <| jt <| c_ret ?_
    exact j_z (own0 := []) (ro0 := []) (.inl rfl) rfl (hr1 Tryz.results138 (rvt (v := (.int _ _)) rfl)) rfl (⟨by rw [whole_lo h1 hI1.1 hI1.2 (by rw [shrU64_toNat] at h2; omega) (by omega)], rfl, rfl⟩)
end Go.Proofs.YtakbbpahfclgnaaGreatDoor
namespace Go.Proofs.YtakbbpahfclgnaaGreatDoor
open Go Go.Proofs Go.PW
open Go.PW.Enc (enc val)
theorem Float_ct (b m : UInt64) (hm : m.toNat < 9223372036854775808) : Ct Tryz.prog 118 [.int .u64 (b.toNat : Int), .int .u64 (m.toNat : Int)] [] [] (fun v o r => v = .int .i64 (floatV b m) ∧ o = [] ∧ r = []) := by
 refine ct_enter Tryz.func118 rfl Tryz.ntmps118 (by kernel_rfl) rfl fun w0 => ?_
 refine csr <| agi rfl <| jsr <| mvi rfl <| remU64 (a := b) (b := (9223372036854775808 : UInt64)) rfl rfl (by decide) <| agi rfl <| jt <| c_seq <| csr <| mvi rfl <| cmp _ rfl rfl rfl <| mvb rfl <| jsplit 10 rfl (fun h1 => ?_) (fun h1 => ?_)
 ·replace h1 := of_decide_eq_true h1
  refine g_off rfl rfl rfl rfl <| g_off rfl rfl rfl rfl <| pkt (.bool _) rfl rfl <| jt <| c_true rfl <| csr <| agi rfl <| jt <| c_ret ?_
  exact j_z (own0 := []) (ro0 := []) (.inl rfl) rfl (hr1 Tryz.results118 (rvt (v := (.int _ _)) rfl)) rfl (⟨(by unfold floatV; first | rw [if_pos (.inl (by omega))] | rw [if_pos (.inr (by assumption))] | rw [if_neg (fun h => h.elim (fun h => by omega) (by assumption)), if_pos (by omega)] | rw [if_neg (fun h => h.elim (fun h => by omega) (by assumption)), if_neg (by omega)]), rfl, rfl⟩)
 ·replace h1 := of_decide_eq_false h1
  refine g_on rfl rfl rfl <| mvi rfl <| g_on rfl rfl rfl <| equ64 (a := b) (b := (9223372036854775808 : UInt64)) _ rfl rfl rfl <| pkf (.bool _) rfl rfl <| jt <| c_cond rfl (fun h2 => ?_) (fun h2 => ?_)
  ·replace h2 := of_decide_eq_true h2
   refine csr <| agi rfl <| jt <| c_ret ?_
   exact j_z (own0 := []) (ro0 := []) (.inl rfl) rfl (hr1 Tryz.results118 (rvt (v := (.int _ _)) rfl)) rfl (⟨(by unfold floatV; first | rw [if_pos (.inl (by omega))] | rw [if_pos (.inr (by assumption))] | rw [if_neg (fun h => h.elim (fun h => by omega) (by assumption)), if_pos (by omega)] | rw [if_neg (fun h => h.elim (fun h => by omega) (by assumption)), if_neg (by omega)]), rfl, rfl⟩)
  ·replace h2 := of_decide_eq_false h2
   refine c_skip <| e_then <| c_seq <| csr <| mvi rfl <| mvi rfl <| cal (whole_ct m hm) [] [] [] rfl rfl rfl (by kernel_rfl) impl_nil rfl ?_; rintro _ _ _ ⟨rfl, rfl, rfl⟩; refine ⟨trivial, ?_⟩
   refine cmp _ rfl rfl rfl <| jt <| c_cond rfl (fun h3 => ?_) (fun h3 => ?_)
   ·replace h3 := of_decide_eq_true h3
    refine csr <| agi rfl <| jt <| c_ret ?_
    exact j_z (own0 := []) (ro0 := []) (.inl rfl) rfl (hr1 Tryz.results118 (rvt (v := (.int _ _)) rfl)) rfl (⟨(by unfold floatV; first | rw [if_pos (.inl (by omega))] | rw [if_pos (.inr (by assumption))] | rw [if_neg (fun h => h.elim (fun h => by omega) (by assumption)), if_pos (by omega)] | rw [if_neg (fun h => h.elim (fun h => by omega) (by assumption)), if_neg (by omega)]), rfl, rfl⟩)
   ·replace h3 := of_decide_eq_false h3
    refine c_skip <| e_then <| csr <| agi rfl <| jt <| c_ret ?_
    exact j_z (own0 := []) (ro0 := []) (.inl rfl) rfl (hr1 Tryz.results118 (rvt (v := (.int _ _)) rfl)) rfl (⟨(by unfold floatV; first | rw [if_pos (.inl (by omega))] | rw [if_pos (.inr (by assumption))] | rw [if_neg (fun h => h.elim (fun h => by omega) (by assumption)), if_pos (by omega)] | rw [if_neg (fun h => h.elim (fun h => by omega) (by assumption)), if_neg (by omega)]), rfl, rfl⟩)
theorem onEarth_ct (f : F64) (m : UInt64) (hm : m.toNat < 9223372036854775808) : Ct Tryz.prog 94 [.float .f64 f.b.toNat, .int .u64 (m.toNat : Int)] [] [] (fun v o r => v = .bool (decide (floatV f.b m = 0)) ∧ o = [] ∧ r = []) := by
 refine ct_enter Tryz.func94 rfl Tryz.ntmps94 (by kernel_rfl) rfl fun w0 => ?_
 refine csr <| agb rfl <| jsr <| mv (.float _ _) rfl <| xcal (args := [.float .f64 f.b.toNat]) (.int .u64 (f.b.toNat : Int)) Tryz.func119 (by kernel_rfl) (by kernel_rfl) (by kernel_rfl) (fun w => rfl) (by kernel_rfl) rfl <| mvi rfl <| cal (Float_ct f.b m hm) [] [] [] rfl rfl rfl (by kernel_rfl) impl_nil rfl ?_; rintro _ _ _ ⟨rfl, rfl, rfl⟩; refine ⟨trivial, ?_⟩
 refine cmp _ rfl rfl rfl <| agb rfl <| jt <| c_ret ?_
 exact j_z (own0 := []) (ro0 := []) (.inl rfl) rfl (hr1 Tryz.results94 (rvt (v := (.bool _)) rfl)) rfl (⟨rfl, rfl, rfl⟩)
theorem text_ct (s : Str) (lo hi : Int) (hh : hi ≤ 4611686018427387904) : Ct Tryz.prog 91 [strV s, .int .i64 lo, .int .i64 hi] [] [] (fun v o r => v = .bool (saidB s lo hi) ∧ o = [] ∧ r = []) := by
 refine ct_enter Tryz.func91 rfl Tryz.ntmps91 (by kernel_rfl) rfl fun w0 => ?_
 refine csr <| agb rfl <| jsr <| mvs rfl <| lenT (s := s) rfl uy9 <| mvi rfl <| cmp _ rfl rfl rfl <| mvb rfl <| jsplit 11 rfl (fun h1 => ?_) (fun h1 => ?_)
 ·replace h1 := of_decide_eq_true h1
  refine g_on rfl rfl rfl <| mvs rfl <| g_on rfl rfl rfl <| lenT (s := s) rfl uy9 <| g_on rfl rfl rfl <| mvi rfl <| g_on rfl rfl rfl <| cmp _ rfl rfl rfl <| pkt (.bool _) rfl rfl <| mvb rfl <| jsplit 17 rfl (fun h2 => ?_) (fun h2 => ?_)
  ·replace h2 := of_decide_eq_true h2
   refine g_on rfl rfl rfl <| mvs rfl <| g_on rfl rfl rfl <| cvSB (s := s) rfl uy9 uy93 uy5 fun c19 hc19 => ⟨trivial, ?_⟩
   refine g_on rfl rfl rfl <| cal (Text_ct ((c19).vs) s (Ow.vs_ok hc19) (by omega)) [] [0] [_] rfl rfl rfl (by kernel_rfl) (impl_cons (ow_impl 0 rfl) impl_nil) rfl ?_; rintro _ _ _ ⟨rfl, rfl, rfl⟩; refine ⟨trivial, ?_⟩
   refine pkt (.bool _) rfl rfl <| agb rfl <| jt <| c_ret ?_
   exact j_d (own0 := []) (ro0 := []) (.inl rfl) rfl (hr1 Tryz.results91 (rvt (v := (.bool _)) rfl)) [0] [_] rfl (by kernel_rfl) rfl (⟨by simp [saidB, *], rfl, rfl⟩)
  ·replace h2 := of_decide_eq_false h2
   refine g_off rfl rfl rfl rfl <| g_off rfl rfl rfl rfl <| g_off rfl rfl rfl rfl <| pkf (.bool _) rfl rfl <| agb rfl <| jt <| c_ret ?_
   exact j_z (own0 := []) (ro0 := []) (.inl rfl) rfl (hr1 Tryz.results91 (rvt (v := (.bool _)) rfl)) rfl (⟨by simp [saidB, *], rfl, rfl⟩)
 ·replace h1 := of_decide_eq_false h1
  refine g_off rfl rfl rfl rfl <| g_off rfl rfl rfl rfl <| g_off rfl rfl rfl rfl <| g_off rfl rfl rfl rfl <| pkf (.bool _) rfl rfl <| mvb rfl <| g_off rfl rfl rfl rfl <| g_off rfl rfl rfl rfl <| g_off rfl rfl rfl rfl <| pkf (.bool _) rfl rfl <| agb rfl <| jt <| c_ret ?_
  exact j_z (own0 := []) (ro0 := []) (.inl rfl) rfl (hr1 Tryz.results91 (rvt (v := (.bool _)) rfl)) rfl (⟨by simp [saidB, *], rfl, rfl⟩)
end Go.Proofs.YtakbbpahfclgnaaGreatDoor
namespace Go.PW
open Enc (enc val)
open Go
theorem encs_set {α : Type} [Enc α] (xs : List α) (k : Nat) (h : k < xs.length) (v : α) : encs (xs.set k v) = encs (xs.take k) ++ (enc v ++ encs (xs.drop (k + 1))) := by
  rw [List.set_eq_take_append_cons_drop, if_pos h, encs_append]; rfl
section
variable {cx : Cx} {md : Md} {ops : Array Oper} {Q : Exit → Act → World → Prop} {rest : List (Oper × Nat)} {kq : Nat} {base : Nat → Value} {L : List (Nat × Value)} {own ro : List Seg}
variable {q : Nat} {d : Nat} {ty : TypeId} {pos : String} {aft : Array Edge} {x y z : Operand} {xt yt : TypeId}
theorem sta {α : Type} [Enc α] {n t bk o E : Nat} (j i : Nat) (ps : List Pt) (a : Arr α n) (k : Nat) (v : α) (hx : ev cx.n base L x = .pointer (some ⟨bk, o, none⟩)) (hy : ev cx.n base L y = val v) (hs : own[j]? = some [(bk, .cells (cat ps) E)])
    (hp : ps[i]? = some (pt a)) (ho : o = psum ps i + k * Enc.n α) (hk : k < n) (ht : Ty cx.P t (Enc.n α) (Enc.ag α))
    (h : Keep md kq rest (own.set j [(bk, .cells (cat (ps.set i (pt (a.set k v)))) E)]) ro ∧ JG cx md ops Q rest base L (own.set j [(bk, .cells (cat (ps.set i (pt (a.set k v)))) E)]) ro) :
    JG cx md ops Q ((⟨none, .store t x y, ty, pos, aft, none⟩, kq + 1) :: rest) base L own ro := by
  obtain ⟨pre, post, h1, h2, h3⟩ := cat_split hp
  have hkl : k < a.l.length := by rw [a.h]; exact hk
  have e1 : cat ps = (pre ++ encs (a.l.take k)) ++ (enc a.l[k] ++ (encs (a.l.drop (k + 1)) ++ post)) := by
    rw [h1]; show pre ++ (encs a.l ++ post) = _
    rw [encs_split a.l k hkl]; simp
  have e2 : cat (ps.set i (pt (a.set k v))) = (pre ++ encs (a.l.take k)) ++ ((pt v).c ++ (encs (a.l.drop (k + 1)) ++ post)) := by
    rw [h3]; show pre ++ (encs (a.l.set k v) ++ post) = _
    rw [encs_set a.l k hkl]; simp [pt]
  rw [e2] at h
  exact stg (p := pt v) hx hy hs ht e1 (by rw [Enc.len]; rfl) (by rw [List.length_append, h2, encs_length, List.length_take, Nat.min_eq_left (by omega)]; exact ho.symm) h
theorem In.part {z : Zt0} {own own' ro : List Seg} {w : World} (h : In z own ro w) (hp : own'.flatten.Perm own.flatten) : In z own' ro w := by
  have hb : (blks own').Perm (blks own) := by unfold blks; exact hp.map _
  refine ⟨⟨fun s hs p hps => ?_, h.has.r, (hb.nodup_iff).2 h.has.nd, fun b h1 h2 => h.has.dj b ((hb.mem_iff).1 h1) h2⟩, h.ext, fun b hb' => h.fr b ((hb.mem_iff).1 hb'), h.rf⟩
  have hm : p ∈ own.flatten := (hp.mem_iff).1 (List.mem_flatten.2 ⟨s, hs, hps⟩)
  obtain ⟨s', hs', hp'⟩ := List.mem_flatten.1 hm
  exact h.has.o s' hs' p hp'
theorem c_part {Q0 : Exit → Act → World → Prop} {st : List Fr} {c : Code} {own' : List Seg} (hp : own'.flatten.Perm own.flatten) (h : JC cx c Q0 st base L own' ro) : JC cx c Q0 st base L own ro := JC.mk fun w hw => h.out w (hw.part hp)
theorem e_part {Q0 : Exit → Act → World → Prop} {st : List Fr} {e : Exit} {own' : List Seg} (hp : own'.flatten.Perm own.flatten) (h : JE cx e Q0 st base L own' ro) : JE cx e Q0 st base L own ro := JE.mk fun w hw => h.out w (hw.part hp)
end
end Go.PW
namespace Go.PW
open Enc (enc val)
open Go
section
variable {cx : Cx} {md : Md} {ops : Array Oper} {Q : Exit → Act → World → Prop} {rest : List (Oper × Nat)} {kq : Nat} {base : Nat → Value} {L : List (Nat × Value)} {own ro : List Seg}
variable {q : Nat} {d : Nat} {ty : TypeId} {pos : String} {aft : Array Edge} {x y z : Operand} {xt yt : TypeId}
theorem cvBS {s : Vs} {ys : Str} {len : Nat} {src dst e : TypeId} (j : Nat) (hok : s.ok ys) (hx : ev cx.n base L x = .slice s.adr len s.cap) (hl : len = ys.length) (hs : (Src md q own ro)[j]? = some (s.seg ys)) (hsrc : cx.P.underlying src = some (.slice e)) (hd : cx.P.underlying dst = some .string) (he : cx.P.underlying e = some (.int .u8))
    (h : JG cx md ops Q rest base ((d, strV ys) :: L) own ro) : JG cx md ops Q ((⟨some d, .convert src dst x, ty, pos, aft, none⟩, q) :: rest) base L own ro :=
  qt (fun w hw => by
    subst hl
    have hseg := hw _ (List.mem_of_getElem? hs)
    cases hn : s.nl with
    | true =>
      have := hok.nl hn; subst this
      have hr : (convert src dst (.slice s.adr 0 s.cap)).run cx.P w = .ok (strV []) w := by
        rw [run_convert_bytes_string w src dst e _ 0 s.cap hsrc he hd]
        cases s.adr with
        | none => simp [Conv.bytesToString]; rfl
        | some a =>
          have := run_bytesToString (P := cx.P) w a 0 s.cap [] rfl
          rw [this]; rfl
      simp only [List.length_nil] at hx
      simp only [execOp, hx, Sem.run_bind, hr, Result.andThen_ok, Sem.run_pure]
    | false =>
      have ha : s.adr = some ⟨s.b, s.off, none⟩ := by simp [Vs.adr, hn]
      have hg : s.seg ys = [(s.b, .view s.off (encs ys))] := by simp [Vs.seg, hn]
      rw [hg] at hseg
      have hc : cellsAt w s.b s.off (encs ys) := cellsAt_view (pre := []) (post := []) hseg (List.mem_singleton.2 rfl) (by simp) rfl
      have hl := run_loadCells_list (P := cx.P) w ⟨s.b, s.off, none⟩ ((ys.map (fun b => (b.toNat : Int))).map (Value.int .u8)) (fun j v hj => by
        rw [add_none]
        refine hc j v ?_
        rw [encs_bytes]
        simpa using hj)
      simp only [List.length_map] at hl
      have hr : (convert src dst (.slice s.adr ys.length s.cap)).run cx.P w = .ok (strV ys) w := by
        rw [ha, run_convert_bytes_string w src dst e _ ys.length s.cap hsrc he hd, run_bytesToString w _ ys.length s.cap _ hl, foldl_push_byteCells]
        have he0 : ByteArray.empty.data = #[] := rfl
        rw [he0]
        simp
      simp only [execOp, hx, Sem.run_bind, hr, Result.andThen_ok, Sem.run_pure]) h
theorem seg_shape {w : World} {b E : Nat} {c : List Value} (h : SegIn w [(b, .cells c E)]) : w.shape? b = some (E, c.length) := by
  obtain ⟨o, ho, fr, rfl, _⟩ := h _ (List.mem_singleton.2 rfl)
  simp [World.shape?, ho]
theorem cvPU {bk E n : Nat} {c : List Value} {src dst t : TypeId} (j : Nat) (hx : ev cx.n base L x = .pointer (some ⟨bk, 0, none⟩)) (hs : (Src md q own ro)[j]? = some [(bk, .cells c E)]) (hc : 0 < c.length) (hsrc : cx.P.underlying src = some (.pointer t)) (hd : cx.P.underlying dst = some .unsafePointer) (hsz : (cx.P.info? t).map (·.size) = some (n + 1))
    (h : JG cx md ops Q rest base ((d, .pointer (some ⟨bk, 0, none⟩)) :: L) own ro) : JG cx md ops Q ((⟨some d, .convert src dst x, ty, pos, aft, none⟩, q) :: rest) base L own ro :=
  qt (fun w hw => by
    have hsh := seg_shape (hw _ (List.mem_of_getElem? hs))
    cases hi : cx.P.info? t with
    | none => simp [hi] at hsz
    | some i =>
      have hj : i.size ≠ 0 := by simp [hi] at hsz; omega
      have hr := Lib.run_to_unsafe (P := cx.P) (w := w) (src := src) (dst := dst) ⟨bk, 0, none⟩ hsrc hd hi hj hsh hc
      simp only [execOp, hx, Sem.run_bind, hr, Result.andThen_ok, Sem.run_pure]) h
theorem cvUP {bk E : Nat} {c : List Value} {src dst u : TypeId} (j : Nat) (hx : ev cx.n base L x = .pointer (some ⟨bk, 0, none⟩)) (hs : (Src md q own ro)[j]? = some [(bk, .cells c E)]) (hsrc : cx.P.underlying src = some .unsafePointer) (hd : cx.P.underlying dst = some (.pointer u)) (hi : (cx.P.info? u).isSome = true)
    (hlies : liesAt cx.P cx.P.depth E (c.length / cx.P.cellsOf E) 0 u 1 = true)
    (h : JG cx md ops Q rest base ((d, .pointer (some ⟨bk, 0, none⟩)) :: L) own ro) : JG cx md ops Q ((⟨some d, .convert src dst x, ty, pos, aft, none⟩, q) :: rest) base L own ro :=
  qt (fun w hw => by
    have hsh := seg_shape (hw _ (List.mem_of_getElem? hs))
    cases hi' : cx.P.info? u with
    | none => simp [hi'] at hi
    | some i =>
      have hr := Lib.run_from_unsafe (P := cx.P) (w := w) (src := src) (dst := dst) ⟨bk, 0, none⟩ hsrc hd hi' hsh hlies
      simp only [execOp, hx, Sem.run_bind, hr, Result.andThen_ok, Sem.run_pure]) h
theorem eqps {a : Addr} {e : TypeId} {op : BinOp} (r : Bool) (hx : ev cx.n base L x = .pointer (some a)) (hy : ev cx.n base L y = .pointer (some a)) (hu : cx.P.underlying xt = some (.pointer e)) (hi : (cx.P.info? e).isSome = true)
    (hr : (match op with | .eql => some true | .neq => some false | _ => none) = some r)
    (h : JG cx md ops Q rest base ((d, .bool r) :: L) own ro) : JG cx md ops Q ((⟨some d, .binOp op xt x y yt, ty, pos, aft, none⟩, q) :: rest) base L own ro :=
  qt (fun w _ => by
    cases hi' : cx.P.info? e with
    | none => simp [hi'] at hi
    | some j =>
      have h0 : ∀ op, eqGuard op xt x y (.pointer (some a)) (.pointer (some a)) = pure () := fun op => eqGuard_at_pointer ..
      have hq' : ∀ n : Nat, (Op.equalIn (n + 1) xt (.pointer (some a)) (.pointer (some a))).run cx.P w = .ok true w := fun n => by
        simp [Op.equalIn, run_underlying hu, sizeOf, typeInfo, hi', run_sameAddr_same]
      have hq := hq' 9999
      have h1 : binOp .eql xt (.pointer (some a)) (.pointer (some a)) = (do pure (.bool (← Op.equalIn (9999 + 1) xt (.pointer (some a)) (.pointer (some a))))) := rfl
      have h2 : binOp .neq xt (.pointer (some a)) (.pointer (some a)) = (do pure (.bool (!(← Op.equalIn (9999 + 1) xt (.pointer (some a)) (.pointer (some a)))))) := rfl
      cases op <;> dsimp only at hr <;> cases hr
      · simp only [execOp, hx, hy, h0, h1, Sem.run_bind, Sem.run_pure, Result.andThen_ok, hq]
      · simp only [execOp, hx, hy, h0, h2, Sem.run_bind, Sem.run_pure, Result.andThen_ok, hq]; rfl) h
theorem usd {len cap : Nat} {a : Option Addr} {ts : Array TypeId} (hx : ev cx.n base L x = .slice a len cap) (hc : cap ≠ 0 ∨ a = none)
    (h : JG cx md ops Q rest base ((d, .pointer a) :: L) own ro) : JG cx md ops Q ((⟨some d, .call ⟨.builtin .unsafeSliceData, #[x], ts⟩, ty, pos, aft, none⟩, q) :: rest) base L own ro :=
  qt (fun w _ => by
    have hr : (Builtin.unsafeSliceData_ ts ty #[.slice a len cap]).run cx.P w = .ok (.pointer a) w := by
      cases a with
      | none => exact Lib.run_unsafeSliceData_nil w ts ty len cap
      | some a =>
        rcases hc with hc | hc
        · exact Lib.run_unsafeSliceData_row w ts ty a len cap hc
        · cases hc
    simp [execOp, resolve, hx, invoke, builtin, hr]) h
theorem ust {o : Ow} {ys : Str} {E pt it len : Nat} {a : Option Addr} (j : Nat) (hok : o.ok ys) (hx : ev cx.n base L x = .pointer a) (ha : a = o.adr) (hy : ev cx.n base L y = .int .i64 (len : Int)) (hl : len = ys.length) (hs : own[j]? = some (o.seg ys E)) (hp : cx.P.underlying pt = some (.pointer E)) (hc : cx.P.cellsOf E = 1) (h63 : ys.length ≤ 9223372036854775807)
    (h : Keep md kq rest (own.set j []) ro ∧ JG cx md ops Q rest base ((d, strV ys) :: L) (own.set j []) ro) :
    JG cx md ops Q ((⟨some d, .call ⟨.builtin .unsafeString, #[x, y], #[pt, it]⟩, ty, pos, aft, none⟩, kq + 1) :: rest) base L own ro :=
  nq (Post := fun L' own' ro' => L' = (d, strV ys) :: L ∧ own' = own.set j [] ∧ ro' = ro) rfl
    (fun w K hw hK => by
      subst ha; subst hl
      have hrun : ∃ w', (Builtin.unsafeString_ #[pt, it] ty #[.pointer o.adr, .int .i64 (ys.length : Int)]).run cx.P w = .ok (strV ys) w' ∧ (∀ b, b < w.heap.size → b ∉ (o.seg ys E).map (·.1) → w'.heap[b]? = w.heap[b]?) ∧ w.heap.size ≤ w'.heap.size ∧ w'.os = w.os ∧ w'.tape = w.tape ∧ w'.output = w.output := by
        by_cases h0 : ys = []
        · subst h0
          exact ⟨w, Lib.run_unsafeString_none w pt it ty o.adr, fun _ _ _ => rfl, Nat.le_refl _, rfl, rfl, rfl⟩
        · have hnl : o.nl = false := by
            cases hn : o.nl with
            | false => rfl
            | true => exact absurd (hok.nl hn).1 h0
          have hadr : o.adr = some ⟨o.b, 0, none⟩ := by simp [Ow.adr, hnl]
          have hseg : o.seg ys E = [(o.b, .cells (encs ys ++ o.sp) E)] := by simp [Ow.seg, hnl]
          have hin := hw.has.o _ (List.mem_of_getElem? hs)
          rw [hseg] at hin
          have hsh := seg_shape hin
          have hcells : cellsAt w o.b 0 (encs ys) := cellsAt_cells (pre := []) (post := o.sp) hin (List.mem_singleton.2 rfl) (by simp) rfl
          have hr := Lib.run_unsafeString_row (P := cx.P) w pt it ty E hp hc o.b (encs ys ++ o.sp).length hsh ys h0 (by rw [List.length_append, encs_length]; show ys.length ≤ ys.length * 1 + _; omega) h63 (fun i v hv => by
            rw [add_none]
            refine hcells i _ ?_
            rw [encs_bytes]; simp [hv])
          have hpos : ys.length ≠ 0 := by simpa using h0
          refine ⟨_, by rw [hadr]; exact hr, fun b hb hnb => ?_, ?_, ?_, ?_, ?_⟩
          · rw [hseg] at hnb
            simp only [List.map_cons, List.map_nil, List.mem_singleton] at hnb
            simp [World.freeze, hpos, Array.getElem?_modify, Ne.symm hnb]
          all_goals simp [World.freeze, hpos]
      obtain ⟨w', hr, hk, hsz, hos, htp, hout⟩ := hrun
      unfold Oper.wp
      rw [A_eval_fun]
      have hr' : (execOp (ev cx.n base L) ⟨some d, .call ⟨.builtin .unsafeString, #[x, y], #[pt, it]⟩, ty, pos, aft, none⟩).run cx.P w = .ok (.value (strV ys)) w' := by
        simp [execOp, resolve, hx, hy, invoke, builtin, hr]
      simp only [hr', Oper.upon]
      rw [A_put]
      exact hK _ _ _ _ ⟨rfl, rfl, rfl⟩ (hw.dropAdd hs (fun p hp => by cases hp) hk hsz hos htp hout (by simp) (by simp)))
    (by rintro L' own' ro' ⟨rfl, rfl, rfl⟩; exact h.1)
    (by rintro L' own' ro' ⟨rfl, rfl, rfl⟩; exact h.2)
end
end Go.PW
