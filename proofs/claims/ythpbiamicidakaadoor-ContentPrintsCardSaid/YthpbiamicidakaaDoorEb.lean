/- The engine: the judgement of a region's steps, in text order or in a plan for a drawn order. No condition. -/
import Derived.Test.YthpbiamicidakaaDoorEa
namespace Go.PW
open Go

structure Cx where
  P : Program
  n : Nat
  z : Zt0

inductive Md where
  | pl
  | dr (S : List Seg)

def AllIn (S : List Seg) (w : World) : Prop := ∀ s ∈ S, SegIn w s

/-! A drawn order. Some operations (Bs: those that turn what others read) wait for all others; behind each of the others S holds. -/
def wpX (P : Program) (ops : Array Oper) (Q : Exit → Act → World → Prop) (S : World → Prop) (B : Nat → Bool) : Nat → Array Bool → Act → World → Prop
  | 0, listed, a, w => Region.ready .any ops listed = [] ∧ Q .normal a w
  | f + 1, listed, a, w => (Region.ready .any ops listed = [] → Q .normal a w) ∧
      ∀ i ∈ Region.ready .any ops listed, wpOp P ops Q i (fun a' w' => (B i = false → S w') ∧ wpX P ops Q S B f (listed.setIfInBounds i true) a' w') a w

section
variable {P : Program} {ops : Array Oper} {Q : Exit → Act → World → Prop} {S : World → Prop} {B : Nat → Bool}

theorem wpAny_of_X : ∀ (f : Nat) (listed : Array Bool) (a : Act) (w : World), wpX P ops Q S B f listed a w → wpAny P .any ops Q f listed a w
  | 0, _, _, _, h => h
  | f + 1, _, _, _, h => ⟨h.1, fun i hi => wpOp_mono (fun a' w' h' => wpAny_of_X f _ a' w' h'.2) (h.2 i hi)⟩

theorem wpX_done {f : Nat} {listed : Array Bool} {a : Act} {w : World} (hr : Region.ready .any ops listed = []) (h : Q .normal a w) : wpX P ops Q S B f listed a w := by
  cases f with
  | zero => exact ⟨hr, h⟩
  | succ f => exact ⟨fun _ => h, fun i hi => by rw [hr] at hi; cases hi⟩

/-- What yields in every world of S, and for which the turning ones wait, may be taken first. -/
theorem wpX_first {i : Nat} {oi : Oper} {v : Value} (hi : ops[i]? = some oi) (hsel : ∀ (j : Nat) (o : Oper) cs b, ops[j]? = some o → o.op ≠ .select cs b)
    (hQ : ∀ c a w, Q (.panic c) (a.put oi.dst v) w → Q (.panic c) a w) (hBi : B i = false)
    (hB : ∀ j oj, B j = true → ops[j]? = some oj → ∃ e ∈ oj.after, Region.binds .any e = true ∧ e.on = i) :
    ∀ (f : Nat) (listed : Array Bool) (a : Act) (w : World),
      (∀ j oj, ops[j]? = some oj → j ≠ i → listed.getD j true = false → (∀ e ∈ oj.after, Region.binds .any e = true → e.on ≠ i) → oi.apart ops oj = true) →
      i ∈ Region.ready .any ops listed → YieldsIf P ops S oi v a → S w →
      wpX P ops Q S B f (listed.setIfInBounds i true) (a.put oi.dst v) w → wpX P ops Q S B (f + 1) listed a w := by
  intro f
  induction f with
  | zero =>
    intro listed a w _ hr hy hS H
    refine ⟨fun h0 => (by rw [h0] at hr; cases hr), fun j hj => ?_⟩
    by_cases e : j = i
    · subst e; exact hy.wpOp hi hS ⟨fun _ => hS, H⟩
    · have := ready_mono hj e
      rw [H.1] at this; cases this
  | succ f ih =>
    intro listed a w hfree hr hy hS H
    refine ⟨fun h0 => (by rw [h0] at hr; cases hr), fun j hj => ?_⟩
    by_cases e : j = i
    · subst e; exact hy.wpOp hi hS ⟨fun _ => hS, H⟩
    · obtain ⟨hun, oj, hoj, hall⟩ := mem_ready.1 hj
      have hiun := (mem_ready.1 hr).1
      have hnot : ∀ e ∈ oj.after, Region.binds .any e = true → e.on ≠ i := fun e he hb heq => by
        have h1 := hall e he hb
        rw [heq] at h1
        rcases Nat.lt_or_ge i listed.size with h' | h'
        · simp [h'] at hiun h1; rw [hiun] at h1; cases h1
        · simp [Array.getElem?_eq_none h'] at h1
      have hBj : B j = false := by
        cases hb : B j with
        | false => rfl
        | true =>
          obtain ⟨e, he, h1, h2⟩ := hB j oj hb hoj
          exact absurd h2 (hnot e he h1)
      have h1 := H.2 j (ready_mono hj e)
      have h2 := wpOp_putIf hoj (hfree j oj hoj e hun hnot) (fun cs b => hsel i oi cs b hi) (fun cs b => hsel j oj cs b hoj) hQ hy h1
      have hfree' : ∀ k ok, ops[k]? = some ok → k ≠ i → (listed.setIfInBounds j true).getD k true = false → (∀ e ∈ ok.after, Region.binds .any e = true → e.on ≠ i) → oi.apart ops ok = true := fun k ok hk hki hku hno => by
        refine hfree k ok hk hki ?_ hno
        by_cases hjk : j = k
        · subst hjk; exact hun
        · rwa [getD_set_ne true hjk] at hku
      refine wpOp_mono (fun a' w' h3 => ⟨h3.2.1, ih (listed.setIfInBounds j true) a' w' hfree' (ready_mono hr (Ne.symm e)) h3.1 (h3.2.1 hBj) ?_⟩) h2
      rw [Array.setIfInBounds_comm _ _ e]
      exact h3.2.2
end

def wpPl (P : Program) (ops : Array Oper) (S : World → Prop) (Q : Exit → Act → World → Prop) : List (Oper × Nat) → Act → World → Prop
  | [], a, w => Q .normal a w
  | (o, 0) :: r, a, w => ∃ v, YieldsIf P ops S o v a ∧ wpPl P ops S Q r (a.put o.dst v) w
  | (o, k + 1) :: r, a, w => if Region.wanted o (yielded ops a.tmps) = true then o.wp P a w (fun a' w' => (k = 0 → S w') ∧ wpPl P ops S Q r a' w') Q
      else (k = 0 → S w) ∧ wpPl P ops S Q r (a.put o.dst undef) w

/-- A plan: number of the operation; 0: it only yields, 1: it makes memory, 2: it turns what others read (and waits for all that yield). -/
def planOk (ops : Array Oper) (Bs : List Nat) : List (Nat × Nat) → Array Bool → Bool
  | [], listed => (Region.ready .any ops listed).isEmpty
  | (i, 0) :: r, listed => Region.free .any ops listed i && (Region.ready .any ops listed).contains i && !Bs.contains i && Bs.all (fun j => match ops[j]? with | some oj => oj.after.any (fun e => Region.binds .any e && e.on == i) | none => true) && planOk ops Bs r (listed.setIfInBounds i true)
  | (i, k + 1) :: r, listed => (Region.ready .any ops listed) == [i] && ((k == 0) != Bs.contains i) && planOk ops Bs r (listed.setIfInBounds i true)

theorem planOk_sound {P : Program} {ops : Array Oper} {S : World → Prop} {Q : Exit → Act → World → Prop} {Bs : List Nat} (hs : Region.noSelect ops = true)
    (hQ : ∀ c a d v w, Q (.panic c) (a.put d v) w → Q (.panic c) a w) :
    ∀ (plan : List (Nat × Nat)) (pl : List (Oper × Nat)) (fuel : Nat) (listed : Array Bool) (a : Act) (w : World),
      plan.length ≤ fuel → plan.map (fun p => (ops[p.1]?, p.2)) = pl.map (fun p => (some p.1, p.2)) → planOk ops Bs plan listed = true → (∀ p ∈ plan, p.2 = 0 → S w) →
      wpPl P ops S Q pl a w → wpX P ops Q S (fun i => Bs.contains i) fuel listed a w := by
  intro plan
  induction plan with
  | nil =>
    intro pl fuel listed a w hf hm hp hS h
    cases pl with
    | cons p pl => simp at hm
    | nil =>
      simp only [planOk, List.isEmpty_iff] at hp
      exact wpX_done hp h
  | cons p plan ih =>
    intro pl fuel listed a w hf hm hp hS h
    cases pl with
    | nil => simp at hm
    | cons q pl =>
      obtain ⟨i, b⟩ := p
      obtain ⟨o, b'⟩ := q
      simp only [List.map_cons, List.cons.injEq, Prod.mk.injEq] at hm
      obtain ⟨⟨hi, rfl⟩, hm⟩ := hm
      obtain ⟨f, rfl⟩ : ∃ f, fuel = f + 1 := ⟨fuel - 1, by simp at hf; omega⟩
      have hf' : plan.length ≤ f := by simpa using hf
      cases b with
      | zero =>
        simp only [planOk, Bool.and_eq_true] at hp
        obtain ⟨⟨⟨⟨h1, h2⟩, h3⟩, h4⟩, h5⟩ := hp
        obtain ⟨v, hy, hrest⟩ := h
        refine wpX_first hi (Region.noSelect_spec hs) (fun c a w => hQ c a _ _ w) (by simpa using h3) (fun j oj hj hoj => ?_) f listed a w (Region.free_spec hi h1) (by simpa using h2) hy (hS (i, 0) (by simp) rfl)
          (ih pl f _ _ w hf' hm h5 (fun p hp => hS p (by simp [hp])) hrest)
        have h6 := List.all_eq_true.1 h4 j (by simpa using hj)
        rw [hoj] at h6
        obtain ⟨e, he, hb⟩ := Array.any_eq_true'.1 h6
        simp only [Bool.and_eq_true, beq_iff_eq] at hb
        exact ⟨e, he, hb.1, hb.2⟩
      | succ k =>
        simp only [planOk, Bool.and_eq_true, beq_iff_eq] at hp
        obtain ⟨⟨h1, h2⟩, h3⟩ := hp
        refine ⟨fun h0 => by rw [h1] at h0; simp at h0, fun j hj => ?_⟩
        rw [h1, List.mem_singleton] at hj; subst hj
        -- no quiet one comes behind a turning one
        have hk : Bs.contains j = false → k = 0 := fun hb => by
          rw [hb] at h2; simpa using h2
        have hq : Bs.contains j = true → ∀ p ∈ plan, p.2 ≠ 0 := by
          intro hb
          have hjB : j ∈ Bs := by simpa using hb
          have hlt : j < listed.size ∨ listed.size ≤ j := Nat.lt_or_ge _ _
          -- a quiet one behind it would have been waited for
          have key : ∀ (plan : List (Nat × Nat)) (l : Array Bool), planOk ops Bs plan l = true → (∀ t, ∀ oj, ops[j]? = some oj → (∃ e ∈ oj.after, Region.binds .any e = true ∧ e.on = t) → l.getD t false = true) → ∀ p ∈ plan, p.2 ≠ 0 := by
            intro plan
            induction plan with
            | nil => intro l _ _ p hp; cases hp
            | cons p plan ihp =>
              intro l hok hall
              obtain ⟨t, c⟩ := p
              cases c with
              | zero =>
                exfalso
                simp only [planOk, Bool.and_eq_true] at hok
                obtain ⟨⟨⟨⟨g1, g2⟩, g3⟩, g4⟩, g5⟩ := hok
                have h6 := List.all_eq_true.1 g4 j hjB
                rw [hi] at h6
                obtain ⟨e, he, hbd⟩ := Array.any_eq_true'.1 h6
                simp only [Bool.and_eq_true, beq_iff_eq] at hbd
                have h7 := hall t o hi ⟨e, he, hbd.1, hbd.2⟩
                have h8 := (mem_ready.1 (show t ∈ Region.ready .any ops l by simpa using g2)).1
                rcases Nat.lt_or_ge t l.size with h' | h'
                · simp [h'] at h7 h8; rw [h7] at h8; cases h8
                · simp [Array.getElem?_eq_none h'] at h7
              | succ c =>
                simp only [planOk, Bool.and_eq_true] at hok
                intro p hp
                rcases List.mem_cons.1 hp with rfl | hp
                · simp
                · exact ihp _ hok.2 (fun u oj hoj he => getD_set_true (hall u oj hoj he)) p hp
          refine key plan _ h3 fun t oj hoj ⟨e, he, hb1, hb2⟩ => ?_
          obtain ⟨_, oj', hoj', hall⟩ := mem_ready.1 (show j ∈ Region.ready .any ops listed by rw [h1]; simp)
          rw [hoj'] at hoj; cases hoj
          exact getD_set_true (by rw [← hb2]; exact hall e he hb1)
        have hnext : ∀ w', (k = 0 → S w') → ∀ p ∈ plan, p.2 = 0 → S w' := fun w' hS' p hp hp0 => by
          cases hb : Bs.contains j with
          | false => exact hS' (hk hb)
          | true => exact absurd hp0 (hq hb p hp)
        unfold wpOp
        simp only [hi]
        simp only [wpPl] at h
        split
        · rename_i hw
          rw [if_pos hw] at h
          exact .inl (Oper.wp_mono (fun a' w' ⟨hS', hr⟩ => ⟨fun hb => hS' (hk hb), ih pl f _ _ w' hf' hm h3 (hnext w' hS') hr⟩) h)
        · rename_i hw
          rw [if_neg hw] at h
          exact ⟨fun hb => h.1 (hk hb), ih pl f _ _ w hf' hm h3 (hnext w h.1) h.2⟩

def JG (cx : Cx) (md : Md) (ops : Array Oper) (Q : Exit → Act → World → Prop) (l : List (Oper × Nat)) (base : Nat → Value) (L : List (Nat × Value)) (own ro : List Seg) : Prop :=
  match md with
  | .pl => ∀ w, In cx.z own ro w → wpList cx.P ops Q (l.map (·.1)) (A cx.n base L) w
  | .dr S => ∀ w, In cx.z own ro w → (∀ p ∈ l, p.2 < 2 → AllIn S w) → wpPl cx.P ops (AllIn S) Q l (A cx.n base L) w

/-- What an operation may look at. -/
def Src (md : Md) (q : Nat) (own ro : List Seg) : List Seg :=
  match md, q with
  | .dr S, 0 => S
  | _, _ => own ++ ro

/-- What must be shown behind an operation that makes or turns memory: S anew; or that nothing is left that looks at S. -/
def Keep (md : Md) (k : Nat) (rest : List (Oper × Nat)) (own ro : List Seg) : Prop :=
  match md with
  | .pl => True
  | .dr S => (k = 0 ∧ ∀ s ∈ S, s ∈ own ++ ro) ∨ ((k = 0 → False) ∧ ∀ p ∈ rest, ¬ p.2 < 2)

def KeepS (S own ro : List Seg) : Prop := ∀ s ∈ S, s ∈ own ++ ro
theorem keepS {S own ro : List Seg} (is : List Nat) (h : S.map some = is.map fun i => (own ++ ro)[i]?) : KeepS S own ro := fun s hs => by
  have h1 : some s ∈ S.map some := List.mem_map.2 ⟨s, hs, rfl⟩
  rw [h] at h1
  obtain ⟨i, _, hi⟩ := List.mem_map.1 h1
  exact List.mem_of_getElem? hi
theorem keepI {S own ro : List Seg} {rest : List (Oper × Nat)} (is : List Nat) (h : S.map some = is.map fun i => (own ++ ro)[i]?) : Keep (.dr S) 0 rest own ro := .inl ⟨rfl, keepS is h⟩
theorem keepT {S own ro : List Seg} {k : Nat} {rest : List (Oper × Nat)} (h : rest.all (fun p => Nat.ble 2 p.2) = true) : Keep (.dr S) (k + 1) rest own ro :=
  .inr ⟨by omega, fun p hp e => by have := Nat.ble_eq.mp (List.all_eq_true.1 h p hp); omega⟩

theorem In.src {z own ro w} (h : In z own ro w) : AllIn (own ++ ro) w := fun s hs =>
  (List.mem_append.1 hs).elim (h.has.o s) (h.has.r s)

theorem In.keep {z own ro w S} (h : In z own ro w) (hk : KeepS S own ro) : AllIn S w := fun s hs => h.src s (hk s hs)

section
variable {cx : Cx} {md : Md} {ops : Array Oper} {Q : Exit → Act → World → Prop} {rest : List (Oper × Nat)} {base : Nat → Value} {L : List (Nat × Value)} {own ro : List Seg} {kq : Nat}

theorem jg_nil (h : ∀ w, In cx.z own ro w → Q .normal (A cx.n base L) w) : JG cx md ops Q [] base L own ro := by
  cases md with
  | pl => exact h
  | dr S => exact fun w hw _ => h w hw

/-- What changes nothing and yields a value. -/
theorem qt {q : Nat} {d : Nat} {op : Op} {ty : TypeId} {pos : String} {aft : Array Edge} {v : Value}
    (hy : ∀ w, AllIn (Src md q own ro) w → (execOp (ev cx.n base L) ⟨some d, op, ty, pos, aft, none⟩).run cx.P w = .ok (.value v) w)
    (h : JG cx md ops Q rest base ((d, v) :: L) own ro) : JG cx md ops Q ((⟨some d, op, ty, pos, aft, none⟩, q) :: rest) base L own ro := by
  cases md with
  | pl =>
    intro w hw
    have := hy w (by cases q <;> exact hw.src)
    refine wpList_plain rfl fun K hK => ?_
    unfold Oper.wp
    rw [A_eval_fun, this]
    show K ((A cx.n base L).put (some d) v) w
    rw [A_put]
    exact hK _ _ (h w hw)
  | dr S =>
    intro w hw hS
    cases q with
    | zero =>
      refine ⟨v, .inl ⟨rfl, fun w hw => ?_⟩, ?_⟩
      · rw [A_eval_fun]; exact hy w hw
      · show wpPl _ _ _ _ _ ((A cx.n base L).put (some d) v) w
        rw [A_put]
        exact h w hw fun p hp => hS p (List.mem_cons_of_mem _ hp)
    | succ k =>
      have := hy w hw.src
      show if Region.wanted _ _ = true then _ else _
      rw [if_pos (show Region.wanted ⟨some d, op, ty, pos, aft, none⟩ (yielded ops (A cx.n base L).tmps) = true from rfl)]
      unfold Oper.wp
      rw [A_eval_fun, this]
      show _ ∧ wpPl _ _ _ _ _ ((A cx.n base L).put (some d) v) w
      rw [A_put]
      exact ⟨fun e => hS _ (List.mem_cons_self ..) (by subst e; exact Nat.lt_succ_self 1), h w hw fun p hp => hS p (List.mem_cons_of_mem _ hp)⟩

/-- What changes the world: as a law over all that may follow. -/
theorem nq {o : Oper} {Post : List (Nat × Value) → List Seg → List Seg → Prop} (hg : o.guard = none)
    (core : ∀ w (K : Act → World → Prop), In cx.z own ro w → (∀ L' own' ro' w', Post L' own' ro' → In cx.z own' ro' w' → K (A cx.n base L') w') → o.wp cx.P (A cx.n base L) w K Q)
    (keep : ∀ L' own' ro', Post L' own' ro' → Keep md kq rest own' ro')
    (h : ∀ L' own' ro', Post L' own' ro' → JG cx md ops Q rest base L' own' ro') : JG cx md ops Q ((o, kq + 1) :: rest) base L own ro := by
  cases md with
  | pl => exact fun w hw => wpList_plain hg fun K hK => core w K hw fun L' own' ro' w' hp hi => hK _ _ (h L' own' ro' hp w' hi)
  | dr S =>
    intro w hw hS
    show if Region.wanted _ _ = true then _ else _
    rw [if_pos (by unfold Region.wanted; rw [hg])]
    refine core w _ hw fun L' own' ro' w' hp hi => ?_
    rcases keep _ _ _ hp with ⟨_, hk⟩ | ⟨hk0, hk⟩
    · have hS' := hi.keep hk
      exact ⟨fun _ => hS', h L' own' ro' hp w' hi fun _ _ _ => hS'⟩
    · exact ⟨fun e => (hk0 e).elim, h L' own' ro' hp w' hi fun p hp' e => absurd e (hk p hp')⟩

theorem yielded_A {n j d : Nat} (hj : (ops[j]?).bind (·.dst) = some d) (hd : Nat.blt d n = true) {b : Bool} (hl : look base L d = .bool b) : yielded ops (A n base L).tmps j = some b := by
  have hdn : d < n := Nat.ble_eq.mp hd
  unfold yielded
  rw [hj]
  simp [A, hdn, hl]

/-- A guard that says yes. -/
theorem g_on {q : Nat} {dst : Option Nat} {op : Op} {ty : TypeId} {pos : String} {aft : Array Edge} {j : Nat} {b : Bool} {d : Nat}
    (hj : (ops[j]?).bind (·.dst) = some d) (hd : Nat.blt d cx.n = true) (hl : look base L d = .bool b)
    (h : JG cx md ops Q ((⟨dst, op, ty, pos, aft, none⟩, q) :: rest) base L own ro) : JG cx md ops Q ((⟨dst, op, ty, pos, aft, some (j, b)⟩, q) :: rest) base L own ro := by
  have hw : Region.wanted ⟨dst, op, ty, pos, aft, some (j, b)⟩ (yielded ops (A cx.n base L).tmps) = true := by
    simp [Region.wanted, yielded_A hj hd hl]
  cases md with
  | pl =>
    intro w hin
    have h := h w hin
    simp only [List.map_cons, wpList] at h ⊢
    rw [if_pos hw]
    rw [if_pos (by rfl)] at h
    exact h
  | dr S =>
    intro w hin hS
    have h := h w hin fun p hp e => by
      rcases List.mem_cons.1 hp with rfl | hp
      · exact hS _ (List.mem_cons_self ..) e
      · exact hS p (List.mem_cons_of_mem _ hp) e
    cases q with
    | zero =>
      obtain ⟨v, hy, hr⟩ := h
      refine ⟨v, ?_, hr⟩
      rcases hy with ⟨_, hy⟩ | ⟨hn, _⟩
      · exact .inl ⟨hw, hy⟩
      · exact absurd (show true = false from hn) (by simp)
    | succ k =>
      simp only [wpPl] at h ⊢
      rw [if_pos hw]
      rw [if_pos (by rfl)] at h
      exact h

/-- A guard that says no. -/
theorem g_off {q : Nat} {t : Nat} {op : Op} {ty : TypeId} {pos : String} {aft : Array Edge} {j : Nat} {b b' : Bool} {d : Nat}
    (hj : (ops[j]?).bind (·.dst) = some d) (hd : Nat.blt d cx.n = true) (hl : look base L d = .bool b') (hb : (b' == b) = false)
    (h : JG cx md ops Q rest base ((t, undef) :: L) own ro) : JG cx md ops Q ((⟨some t, op, ty, pos, aft, some (j, b)⟩, q) :: rest) base L own ro := by
  have hne : b' ≠ b := by simpa using hb
  have hw : Region.wanted ⟨some t, op, ty, pos, aft, some (j, b)⟩ (yielded ops (A cx.n base L).tmps) = false := by
    simp [Region.wanted, yielded_A hj hd hl, hne]
  cases md with
  | pl =>
    intro w hin
    have h := h w hin
    simp only [List.map_cons, wpList]
    rw [if_neg (by rw [hw]; simp), A_put]
    exact h
  | dr S =>
    intro w hin hS
    have h := h w hin fun p hp => hS p (List.mem_cons_of_mem _ hp)
    cases q with
    | zero => exact ⟨undef, .inr ⟨hw, rfl⟩, by show wpPl _ _ _ _ _ ((A cx.n base L).put (some t) undef) w; rw [A_put]; exact h⟩
    | succ k =>
      simp only [wpPl]
      rw [if_neg (by rw [hw]; simp)]
      show _ ∧ wpPl _ _ _ _ _ ((A cx.n base L).put (some t) undef) w
      rw [A_put]
      exact ⟨fun e => hS _ (List.mem_cons_self ..) (by subst e; exact Nat.lt_succ_self 1), h⟩

/-- A bool in a slot, parted. -/
theorem jsplit {l : List (Oper × Nat)} (d : Nat) {b : Bool} (hl : look base L d = .bool b) (ht : b = true → JG cx md ops Q l base ((d, .bool true) :: L) own ro)
    (hf : b = false → JG cx md ops Q l base ((d, .bool false) :: L) own ro) : JG cx md ops Q l base L own ro := by
  cases b with
  | true => have h := ht rfl; unfold JG at *; rw [A_same hl] at h; exact h
  | false => have h := hf rfl; unfold JG at *; rw [A_same hl] at h; exact h
end

/-! ### code: what follows is a stack -/
inductive Fr where
  | seq (y : Code)
  | blk (id : Nat)
  | lp (H : Act → World → Prop)

def qof (P : Program) (Q0 : Exit → Act → World → Prop) : List Fr → Exit → Act → World → Prop
  | [] => Q0
  | .seq y :: r => Exit.then (y.wp P (qof P Q0 r)) (qof P Q0 r)
  | .blk id :: r => Exit.inBlock id (qof P Q0 r)
  | .lp H :: r => Exit.then H (qof P Q0 r)

def popTo (id : Nat) : List Fr → Option (List Fr)
  | [] => none
  | .blk id' :: r => bif Nat.beq id id' then some r else popTo id r
  | .seq _ :: r => popTo id r
  | .lp _ :: r => popTo id r

theorem qof_ret {P Q0} (st : List Fr) {a w} (h : Q0 .ret a w) : qof P Q0 st .ret a w := by
  induction st with
  | nil => exact h
  | cons f r ih => cases f <;> exact ih
theorem qof_panic {P Q0} (st : List Fr) {c a w} : qof P Q0 st (.panic c) a w ↔ Q0 (.panic c) a w := by
  induction st with
  | nil => exact Iff.rfl
  | cons f r ih => cases f <;> exact ih
theorem qof_exit {P Q0 id} {st st' : List Fr} (hp : popTo id st = some st') {a w} (h : qof P Q0 st' .normal a w) : qof P Q0 st (.exit id) a w := by
  induction st with
  | nil => cases hp
  | cons f r ih =>
    cases f with
    | seq y => exact ih hp
    | lp H => exact ih hp
    | blk id' =>
      simp only [popTo] at hp
      show if id = id' then _ else _
      cases hb : Nat.beq id id' with
      | true =>
        rw [hb] at hp
        have := Nat.eq_of_beq_eq_true hb
        rw [if_pos this]
        simp only [cond_true, Option.some.injEq] at hp
        subst hp; exact h
      | false =>
        rw [hb] at hp
        rw [if_neg (fun e => by subst e; simp at hb)]
        exact ih hp

/-- A panic's post does not hang on the temporaries. -/
def Calm (Q0 : Exit → Act → World → Prop) : Prop := ∀ c a d v w, Q0 (.panic c) (Act.put a d v) w → Q0 (.panic c) a w
theorem calm_body {P fn R} : Calm (bodyPost P fn R) := fun c a d v w h => by
  cases d <;> exact h

def JC (cx : Cx) (c : Code) (Q0 : Exit → Act → World → Prop) (st : List Fr) (base : Nat → Value) (L : List (Nat × Value)) (own ro : List Seg) : Prop :=
  ∀ w, In cx.z own ro w → c.wp cx.P (qof cx.P Q0 st) (A cx.n base L) w
/-- An end of code. -/
def JE (cx : Cx) (e : Exit) (Q0 : Exit → Act → World → Prop) (st : List Fr) (base : Nat → Value) (L : List (Nat × Value)) (own ro : List Seg) : Prop :=
  ∀ w, In cx.z own ro w → qof cx.P Q0 st e (A cx.n base L) w

def plOf (ops : Array Oper) : List (Nat × Nat) → List (Oper × Nat)
  | [] => []
  | (i, q) :: r => (ops.toList.getD i default, q) :: plOf ops r
def drOk (ops : Array Oper) (Bs : List Nat) (plan : List (Nat × Nat)) : Bool := Region.noSelect ops && planOk ops Bs plan (Array.replicate ops.size false) && Nat.ble plan.length ops.size && plan.all fun p => Nat.blt p.1 ops.size
theorem plOf_ok {ops : Array Oper} : ∀ (plan : List (Nat × Nat)), plan.all (fun p => Nat.blt p.1 ops.size) = true → plan.map (fun p => (ops[p.1]?, p.2)) = (plOf ops plan).map (fun p => (some p.1, p.2))
  | [], _ => rfl
  | (i, q) :: r, h => by
    simp only [List.all_cons, Bool.and_eq_true] at h
    have hi : i < ops.size := Nat.ble_eq.mp h.1
    simp only [List.map_cons, plOf, plOf_ok r h.2, List.cons.injEq, and_true, Prod.mk.injEq]
    simp [hi]

def plz : List Oper → List (Oper × Nat)
  | [] => []
  | o :: r => (o, 1) :: plz r
theorem plz_fst (l : List Oper) : (plz l).map (·.1) = l := by induction l with | nil => rfl | cons o r ih => simp [plz, ih]

section
variable {cx : Cx} {Q0 : Exit → Act → World → Prop} {st : List Fr} {base : Nat → Value} {L : List (Nat × Value)} {own ro : List Seg}

theorem c_seq {x y : Code} (h : JC cx x Q0 (.seq y :: st) base L own ro) : JC cx (.seq x y) Q0 st base L own ro := fun w hw => wp_seq (h w hw)
theorem c_skip (h : JE cx .normal Q0 st base L own ro) : JC cx .skip Q0 st base L own ro := fun w hw => wp_skip (h w hw)
theorem c_block {id : Nat} {c : Code} (h : JC cx c Q0 (.blk id :: st) base L own ro) : JC cx (.block id c) Q0 st base L own ro := fun w hw => wp_block (h w hw)
theorem c_exit {id : Nat} {st' : List Fr} (hp : popTo id st = some st') (h : JE cx .normal Q0 st' base L own ro) : JC cx (.exit id) Q0 st base L own ro := fun w hw => wp_exit (qof_exit hp (h w hw))
theorem c_ret (h : JE cx .ret Q0 [] base L own ro) : JC cx .ret Q0 st base L own ro := fun w hw => wp_ret (qof_ret st (h w hw))
theorem c_reg {id : Nat} {l : List Oper} (h : JG cx .pl l.toArray (qof cx.P Q0 st) (plz l) base L own ro) : JC cx (.region id l.toArray false) Q0 st base L own ro := fun w hw =>
  wp_region_list (by
    have h1 := h w hw
    rw [plz_fst] at h1; simpa using h1)
theorem c_dr {id : Nat} {ops : Array Oper} (S : List Seg) (Bs : List Nat) (plan : List (Nat × Nat)) (hm : cx.P.follows .mixedOrders = true) (hok : drOk ops Bs plan = true) (hQ : Calm Q0) (hS : KeepS S own ro)
    (h : JG cx (.dr S) ops (qof cx.P Q0 st) (plOf ops plan) base L own ro) : JC cx (.region id ops true) Q0 st base L own ro := fun w hw => by
  have hw' := hw.drew
  simp only [drOk, Bool.and_eq_true] at hok
  obtain ⟨⟨⟨hs, hp⟩, hl1⟩, hl2⟩ := hok
  exact wp_region_any hm (wpAny_of_X _ _ _ _ (planOk_sound (S := AllIn S) hs (fun c a d v w h => (qof_panic st).2 (hQ c a d v w ((qof_panic st).1 h))) plan _ _ _ _ _ (Nat.ble_eq.mp hl1) (plOf_ok plan hl2) hp (fun _ _ _ => hw'.keep hS) (h _ hw' fun _ _ _ => hw'.keep hS)))

theorem c_true {c : Operand} {x y : Code} (hc : ev cx.n base L c = .bool true) (h : JC cx x Q0 st base L own ro) : JC cx (.cond c x y) Q0 st base L own ro := fun w hw =>
  wp_cond_true (by rw [A_eval]; exact hc) (h w hw)
theorem c_false {c : Operand} {x y : Code} (hc : ev cx.n base L c = .bool false) (h : JC cx y Q0 st base L own ro) : JC cx (.cond c x y) Q0 st base L own ro := fun w hw =>
  wp_cond_false (by rw [A_eval]; exact hc) (h w hw)
theorem c_cond {c : Operand} {x y : Code} {b : Bool} (hc : ev cx.n base L c = .bool b) (ht : b = true → JC cx x Q0 st base L own ro) (hf : b = false → JC cx y Q0 st base L own ro) :
    JC cx (.cond c x y) Q0 st base L own ro := fun w hw => wp_cond_split (by rw [A_eval]; exact hc) (fun h => ht h w hw) (fun h => hf h w hw)

theorem JC.mk {c} (h : ∀ w, In cx.z own ro w → c.wp cx.P (qof cx.P Q0 st) (A cx.n base L) w) : JC cx c Q0 st base L own ro := h
theorem JC.out {c} (h : JC cx c Q0 st base L own ro) : ∀ w, In cx.z own ro w → c.wp cx.P (qof cx.P Q0 st) (A cx.n base L) w := h
theorem JE.mk {e} (h : ∀ w, In cx.z own ro w → qof cx.P Q0 st e (A cx.n base L) w) : JE cx e Q0 st base L own ro := h
theorem JE.out {e} (h : JE cx e Q0 st base L own ro) : ∀ w, In cx.z own ro w → qof cx.P Q0 st e (A cx.n base L) w := h
/-- The end of a part: what follows. -/
theorem e_then {y : Code} (h : JC cx y Q0 st base L own ro) : JE cx .normal Q0 (.seq y :: st) base L own ro := h
theorem e_in {id : Nat} (h : JE cx .normal Q0 st base L own ro) : JE cx .normal Q0 (.blk id :: st) base L own ro := h
/-- The end of a region. -/
theorem jn {md : Md} {ops : Array Oper} (h : JE cx .normal Q0 st base L own ro) : JG cx md ops (qof cx.P Q0 st) [] base L own ro := jg_nil h
/-- The end of a region, what follows. -/
theorem jt {md : Md} {ops : Array Oper} {y : Code} (h : JC cx y Q0 st base L own ro) : JG cx md ops (qof cx.P Q0 (.seq y :: st)) [] base L own ro := jg_nil h
end
attribute [irreducible] JG JC JE
end Go.PW
