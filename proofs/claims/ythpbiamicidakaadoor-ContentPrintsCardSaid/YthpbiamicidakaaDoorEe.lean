/- The engine: contracts, ends, calls, loops. No condition. -/
import Derived.Test.YthpbiamicidakaaDoorEd
import Derived.Deep.LoopGhost
namespace Go.PW
open Enc (enc val)
open Go

/-! ### picking segments -/
def pick (is : List Nat) (own : List Seg) : List Seg := is.map fun i => own.getD i []

theorem pick_range (own : List Seg) : pick (List.range own.length) own = own := by
  apply List.ext_getElem
  · simp [pick]
  · intro i h1 h2
    simp [pick, h2]

theorem pick_perm {is : List Nat} {own : List Seg} (h : is.isPerm (List.range own.length) = true) : (pick is own).Perm own := by
  replace h := List.isPerm_iff.1 h
  have := h.map (fun i => own.getD i [])
  have e := pick_range own
  unfold pick at e ⊢
  rwa [e] at this

theorem pick_of {own : List Seg} : ∀ {js : List Nat} {R : List Seg}, R.map some = js.map (fun i => own[i]?) → pick js own = R
  | [], [], _ => rfl
  | [], _ :: _, h => by simp at h
  | _ :: _, [], h => by simp at h
  | j :: js, s :: R, h => by
    simp only [List.map_cons, List.cons.injEq] at h
    have := pick_of (own := own) h.2
    unfold pick at this ⊢
    rw [List.map_cons, this]
    congr 1
    rw [List.getD_eq_getElem?_getD, ← h.1]; rfl

theorem blks_perm {a b : List Seg} (h : a.Perm b) : (blks a).Perm (blks b) := by
  unfold blks; exact (h.flatten).map _
theorem blks_append (a b : List Seg) : blks (a ++ b) = blks a ++ blks b := by simp [blks]

/-- Each part of roC is given by one of src. -/
def Impl (src roC : List Seg) : Prop := ∀ s ∈ roC, ∀ p ∈ s, ∃ s' ∈ src, ∃ p' ∈ s', p'.1 = p.1 ∧ ∀ o, p'.2.ok o → p.2.ok o

theorem impl_nil {src} : Impl src [] := fun _ h => by cases h
theorem impl_cons {src s r} (h : Impl src [s]) (hr : Impl src r) : Impl src (s :: r) := fun x hx =>
  (List.mem_cons.1 hx).elim (fun e => h x (e ▸ List.mem_singleton.2 rfl)) (hr x)
theorem impl_mem {src : List Seg} {s : Seg} (h : s ∈ src) : Impl src [s] := fun x hx p hp => by
  rw [List.mem_singleton] at hx; subst hx
  exact ⟨_, h, p, hp, rfl, fun _ h => h⟩
theorem impl_at {src : List Seg} {s : Seg} (j : Nat) (h : src[j]? = some s) : Impl src [s] := impl_mem (List.mem_of_getElem? h)
theorem implI {src roC : List Seg} (is : List Nat) (h : roC.map some = is.map fun i => src[i]?) : Impl src roC := fun s hs p hp => by
  have h1 : some s ∈ roC.map some := List.mem_map.2 ⟨s, hs, rfl⟩
  rw [h] at h1
  obtain ⟨i, _, hi⟩ := List.mem_map.1 h1
  exact ⟨s, List.mem_of_getElem? hi, p, hp, rfl, fun _ h => h⟩
/-- A row of its own, read. -/
theorem impl_view {src : List Seg} {b off E : Nat} {c l : List Value} (j : Nat) (h : src[j]? = some [(b, .cells c E)]) (hl : ∃ pre post, c = pre ++ (l ++ post) ∧ pre.length = off) : Impl src [[(b, .view off l)]] := fun x hx p hp => by
  rw [List.mem_singleton] at hx; subst hx
  rw [List.mem_singleton] at hp; subst hp
  refine ⟨_, List.mem_of_getElem? h, (b, .cells c E), List.mem_singleton.2 rfl, rfl, ?_⟩
  rintro o ⟨fr, rfl, _⟩
  obtain ⟨pre, post, rfl, rfl⟩ := hl
  refine ⟨_, E, fr, rfl, fun i v hv => ?_⟩
  have hi : i < l.length := (List.getElem?_eq_some_iff.1 hv).1
  simp only [List.getElem?_toArray, List.getElem?_append_right (Nat.le_add_right _ _), Nat.add_sub_cancel_left, List.getElem?_append_left hi, hv]

theorem Has.impl {w own ro roC} (h : Has w own ro) {R : List Seg} (hR : ∀ s ∈ R, s ∈ own) (hi : Impl (ro ++ R) roC) : ∀ s ∈ roC, SegIn w s := fun s hs p hp => by
  obtain ⟨s', hs', p', hp', e, hk⟩ := hi s hs p hp
  have : SegIn w s' := (List.mem_append.1 hs').elim (h.r s') (fun hm => h.o s' (hR s' hm))
  obtain ⟨o, ho, hok⟩ := this p' hp'
  exact ⟨o, e ▸ ho, hk o hok⟩

theorem Has.sub {w own ro} (h : Has w own ro) {own' dr ro' : List Seg} (hp : (own' ++ dr).Perm own) (hi : Impl (ro ++ dr) ro') : Has w own' ro' := by
  have hb := blks_perm hp
  rw [blks_append] at hb
  have hnd := (hb.nodup_iff).2 h.nd
  have hm : ∀ s, s ∈ own' ∨ s ∈ dr → s ∈ own := fun s hs => hp.mem_iff.1 (List.mem_append.2 hs)
  refine ⟨fun s hs => h.o s (hm s (.inl hs)), h.impl (R := dr) (fun s hs => hm s (.inr hs)) hi, (List.nodup_append.1 hnd).1, ?_⟩
  intro b h1 h2
  obtain ⟨s, hs, p, hps, rfl⟩ := mem_blks.1 h2
  obtain ⟨s', hs', p', hp', e, _⟩ := hi s hs p hps
  rw [← e] at h1
  rcases List.mem_append.1 hs' with h3 | h3
  · exact h.dj _ ((hb.mem_iff).1 (List.mem_append.2 (.inl h1))) (mem_blks.2 ⟨s', h3, p', hp', rfl⟩)
  · exact (List.nodup_append.1 hnd).2.2 _ h1 _ (mem_blks.2 ⟨s', h3, p', hp', rfl⟩) rfl

/-! ### contracts -/
def EnterOk (P : Program) (f : Nat) : Prop := ∃ fn, P.funcs[f]? = some fn ∧ fn.body.isNone = false ∧ (fn.name == "runtime.NumGoroutine") = false

/-- What a call leaves. -/
def After (w : World) (own ro : List Seg) (post : Value → List Seg → List Seg → Prop) (e : Ending) (w' : World) : Prop :=
  ∃ v own' ro', e = .returned v ∧ post v own' ro' ∧ In ⟨w, blks own, ro.length⟩ own' (ro ++ ro') w'

def Ct (P : Program) (f : Nat) (args : List Value) (own ro : List Seg) (post : Value → List Seg → List Seg → Prop) : Prop :=
  EnterOk P f ∧ ∀ w, Has w own ro → Calls P f ⟨args⟩ w (After w own ro post)

theorem Ct.mono {P f args own ro} {post post' : Value → List Seg → List Seg → Prop} (h : Ct P f args own ro post) (hp : ∀ v o r, post v o r → post' v o r) : Ct P f args own ro post' :=
  ⟨h.1, fun w hw => (h.2 w hw).mono fun _ _ ⟨v, o, r, he, hpost, hi⟩ => ⟨v, o, r, he, hp _ _ _ hpost, hi⟩⟩

def ini : Nat → List Value → List (Nat × Value)
  | _, [] => []
  | i, v :: r => (i, v) :: ini (i + 1) r

theorem look_ini (base : Nat → Value) (vs : List Value) : ∀ i t, look base (ini i vs) t = if i ≤ t ∧ t < i + vs.length then vs.getD (t - i) undef else base t := by
  induction vs with
  | nil => intro i t; simp [ini, look]; intro h1 h2; omega
  | cons v r ih =>
    intro i t
    simp only [ini, look]
    cases hb : Nat.beq i t with
    | true => have := Nat.eq_of_beq_eq_true hb; subst this; simp
    | false =>
      have hne : i ≠ t := fun e => by subst e; simp at hb
      simp only [cond_false, ih]
      by_cases h : i + 1 ≤ t ∧ t < i + 1 + r.length
      · rw [if_pos h, if_pos (by simp; omega)]
        obtain ⟨k, rfl⟩ : ∃ k, t = i + 1 + k := ⟨t - (i + 1), by omega⟩
        rw [show i + 1 + k - i = k + 1 by omega, show i + 1 + k - (i + 1) = k by omega]; simp
      · rw [if_neg h, if_neg (by simp; omega)]

theorem A_ini (n : Nat) (args : List Value) (h : args.length ≤ n) : A n (fun _ => undef) (ini 0 args) = { tmps := (⟨args⟩ : Array Value) ++ Array.replicate (n - args.length) undef, defers := [] } := by
  unfold A; congr 1
  apply Array.ext
  · simp; omega
  · intro i h1 h2
    simp only [Array.getElem_ofFn, look_ini]
    simp only [Array.size_ofFn] at h1
    rw [Array.getElem_append]
    by_cases hi : i < args.length
    · simp [hi]
    · simp [hi]

theorem ct_enter {P : Program} {f : Nat} {fn : Func} {c : Code} {n : Nat} {args : List Value} {own ro : List Seg} {post : Value → List Seg → List Seg → Prop}
    (hf : P.funcs[f]? = some fn) (hb : fn.body = some c) (hn : fn.ntmps = n) (hname : (fn.name == "runtime.NumGoroutine") = false) (hl : Nat.ble args.length n = true)
    (h : ∀ w0, JC ⟨P, n, ⟨w0, blks own, ro.length⟩⟩ c (bodyPost P fn (After w0 own ro post)) [] (fun _ => undef) (ini 0 args) own ro) : Ct P f args own ro post :=
  ⟨⟨fn, hf, by simp [hb], hname⟩, fun w hw => calls_of_wp hf hb (by
    have h1 := (h w).out w ⟨hw, Ext.refl _ _, fun b hb => .inl hb, by simp [blks]⟩
    dsimp only at h1
    rw [A_ini n args (Nat.ble_eq.mp hl)] at h1
    subst hn; exact h1)⟩

/-! ### the end of a function -/
def rv (tmps : Array Value) : ResultVar → Sem Value
  | .tmp t => pure (tmps.getD t undef)
  | .cell a t => do loadVar t (← asAddr (tmps.getD a undef))

section
variable {P : Program} {w : World} {fn : Func} {tmps : Array Value}
theorem results_rv (fn : Func) (tmps : Array Value) : results fn tmps = (do let vs ← fn.results.mapM (rv tmps); pure (if h : vs.size = 1 then vs[0] else .tuple vs)) := by
  unfold results
  congr 2
theorem res0 (h : fn.results = #[]) : (results fn tmps).run P w = .ok (.tuple #[]) w := by simp [results, h]
theorem res1 {r v} (h : fn.results = #[r]) (h1 : (rv tmps r).run P w = .ok v w) : (results fn tmps).run P w = .ok v w := by
  rw [results_rv, h]; simp [h1]
theorem res2 {r s v u} (h : fn.results = #[r, s]) (h1 : (rv tmps r).run P w = .ok v w) (h2 : (rv tmps s).run P w = .ok u w) : (results fn tmps).run P w = .ok (.tuple #[v, u]) w := by
  rw [results_rv, h]; simp [h1, h2]
theorem res3 {r s t v u x} (h : fn.results = #[r, s, t]) (h1 : (rv tmps r).run P w = .ok v w) (h2 : (rv tmps s).run P w = .ok u w) (h3 : (rv tmps t).run P w = .ok x w) : (results fn tmps).run P w = .ok (.tuple #[v, u, x]) w := by
  rw [results_rv, h]; simp [h1, h2, h3]
end

/-- A result. -/
def RV (cx : Cx) (base : Nat → Value) (L : List (Nat × Value)) (own ro : List Seg) (r : ResultVar) (v : Value) : Prop :=
  ∀ w, In cx.z own ro w → (rv (A cx.n base L).tmps r).run cx.P w = .ok v w

section
variable {cx : Cx} {base : Nat → Value} {L : List (Nat × Value)} {own ro : List Seg}
theorem rvt {t : Nat} {v : Value} (h : ev cx.n base L (.tmp t) = v) : RV cx base L own ro (.tmp t) v := fun w _ => by
  have := A_eval cx.n base L (.tmp t)
  simp only [Act.eval] at this
  simp only [rv, this, h, Sem.run_pure]
theorem rvc {a t bk E : Nat} {p : Pt} {ps : List Pt} (j : Nat) (hx : ev cx.n base L (.tmp a) = .pointer (some ⟨bk, 0, none⟩)) (hs : (own ++ ro)[j]? = some [(bk, .cells (cat ps) E)]) (hp : cat ps = p.c) (ht : Ty cx.P t p.n p.ag) :
    RV cx base L own ro (.cell a t) p.v := fun w hw => by
  have h1 := A_eval cx.n base L (.tmp a)
  simp only [Act.eval] at h1
  have h2 := run_load_pt (w := w) (b := bk) (o := 0) ht (cellsAt_cells (hw.src _ (List.mem_of_getElem? hs)) (List.mem_singleton.2 rfl) (pre := []) (post := []) (by simp [hp]) rfl)
  simp only [rv, h1, hx, asAddr, Sem.run_bind, Sem.run_pure, Result.andThen_ok, h2]

/-- What is left at the end: of its own 'own'', the rest let go or handed on to be read. -/
theorem In.leave {z : Zt0} {w : World} {ro0 own' dr ro' r1 : List Seg} (h : In z own ro w) (hz : z.N0 = ro0.length) (hp : (own' ++ dr).Perm own) (hr : ro = ro0 ++ r1) (hi : Impl (r1 ++ dr) ro') :
    In z own' (ro0 ++ ro') w := by
  subst hr
  have hb := blks_perm hp
  rw [blks_append] at hb
  refine ⟨h.has.sub hp ?_, h.ext, fun b hb' => h.fr b ((hb.mem_iff).1 (List.mem_append.2 (.inl hb'))), ?_⟩
  · intro s hs
    rcases List.mem_append.1 hs with h1 | h1
    · exact fun p hp => ⟨s, by simp [h1], p, hp, rfl, fun _ h => h⟩
    · intro p hp
      obtain ⟨s', hs', rest⟩ := hi s h1 p hp
      exact ⟨s', by rcases List.mem_append.1 hs' with h | h <;> simp [h], rest⟩
  · intro b hb'
    rw [hz, List.drop_left] at hb'
    obtain ⟨s, hs, p, hps, rfl⟩ := mem_blks.1 hb'
    obtain ⟨s', hs', p', hp', e, _⟩ := hi s hs p hps
    rw [← e]
    rcases List.mem_append.1 hs' with h1 | h1
    · exact h.rf _ (by rw [hz, List.drop_left]; exact mem_blks.2 ⟨s', h1, p', hp', rfl⟩)
    · exact h.fr _ ((hb.mem_iff).1 (List.mem_append.2 (.inr (mem_blks.2 ⟨s', h1, p', hp', rfl⟩))))

variable {Q0 : Exit → Act → World → Prop} {st : List Fr} {fn : Func} {own0 ro0 : List Seg} {post : Value → List Seg → List Seg → Prop}

/-- The end: the results, what is its own then (the segments io), what is handed on to be read. -/
theorem j_end {v : Value} {ex : Exit} (hex : ex = .ret ∨ ex = .normal) (hz : cx.z = ⟨cx.z.w0, blks own0, ro0.length⟩)
    (hres : ∀ w, In cx.z own ro w → (results fn (A cx.n base L).tmps).run cx.P w = .ok v w) (io jo : List Nat) (ow dr r1 ro' : List Seg) (how : ow.map some = io.map fun i => own[i]?) (hdr : dr.map some = jo.map fun i => own[i]?) (perm : (io ++ jo).isPerm (List.range own.length) = true)
    (hr : ro = ro0 ++ r1) (hi : Impl (r1 ++ dr) ro') (hp : post v ow ro') : JE cx ex (bodyPost cx.P fn (After cx.z.w0 own0 ro0 post)) [] base L own ro := JE.mk fun w hw => by
  obtain rfl := pick_of how
  obtain rfl := pick_of hdr
  have hpm : (pick io own ++ pick jo own).Perm own := by
    have := pick_perm (own := own) perm
    simpa [pick] using this
  have h1 := hw.leave (ro0 := ro0) (ro' := ro') (r1 := r1) (by rw [hz]) hpm hr hi
  rw [hz] at h1
  rcases hex with rfl | rfl
  · exact ⟨rfl, v, hres w hw, v, _, _, rfl, hp, h1⟩
  · exact ⟨rfl, v, hres w hw, v, _, _, rfl, hp, h1⟩

theorem hr1 {r v} (h : fn.results = #[r]) (h1 : RV cx base L own ro r v) : ∀ w, In cx.z own ro w → (results fn (A cx.n base L).tmps).run cx.P w = .ok v w := fun w hw => res1 h (h1 w hw)
theorem hr2 {r s v u} (h : fn.results = #[r, s]) (h1 : RV cx base L own ro r v) (h2 : RV cx base L own ro s u) : ∀ w, In cx.z own ro w → (results fn (A cx.n base L).tmps).run cx.P w = .ok (.tuple #[v, u]) w := fun w hw => res2 h (h1 w hw) (h2 w hw)
theorem hr3 {r s t v u x} (h : fn.results = #[r, s, t]) (h1 : RV cx base L own ro r v) (h2 : RV cx base L own ro s u) (h3 : RV cx base L own ro t x) : ∀ w, In cx.z own ro w → (results fn (A cx.n base L).tmps).run cx.P w = .ok (.tuple #[v, u, x]) w := fun w hw => res3 h (h1 w hw) (h2 w hw) (h3 w hw)
theorem hr0 (h : fn.results = #[]) : ∀ w, In cx.z own ro w → (results fn (A cx.n base L).tmps).run cx.P w = .ok (.tuple #[]) w := fun w _ => res0 h

/-! ### loops -/
def hav (W : List Nat) (g f : Nat → Value) : Nat → Value := fun t => bif W.any (Nat.beq t) then g t else f t
def Mt (f : Nat → Value) : List (Nat × Value) → Prop
  | [] => True
  | (d, v) :: r => f d = v ∧ Mt f r

theorem Mt.look {f : Nat → Value} {base : Nat → Value} {L : List (Nat × Value)} (h : Mt f L) (t : Nat) (hb : (∀ v, (t, v) ∉ L) → base t = f t) : look base L t = f t := by
  induction L with
  | nil => exact hb (by simp)
  | cons p r ih =>
    obtain ⟨d, v⟩ := p
    simp only [PW.look]
    cases hd : Nat.beq d t with
    | true => have := Nat.eq_of_beq_eq_true hd; subst this; exact h.1.symm
    | false =>
      refine ih h.2 fun hn => hb fun v hv => ?_
      rcases List.mem_cons.1 hv with e | e
      · simp only [Prod.mk.injEq] at e; obtain ⟨rfl, _⟩ := e; simp at hd
      · exact hn v e

theorem look_out {base : Nat → Value} {L : List (Nat × Value)} {t : Nat} (h : ∀ p ∈ L, p.1 ≠ t) : look base L t = base t := by
  induction L with
  | nil => rfl
  | cons p r ih =>
    obtain ⟨d, v⟩ := p
    simp only [PW.look]
    cases hd : Nat.beq d t with
    | true => exact absurd (Nat.eq_of_beq_eq_true hd) (h (d, v) (by simp))
    | false => exact ih fun p hp => h p (by simp [hp])

/-- At a loop's head: the slots W have been written, Ls is known of them. -/
def Hd (cx : Cx) {σ : Type} (I : σ → Prop) (Ls : σ → List (Nat × Value)) (owns ros : σ → List Seg) (W : List Nat) (base : Nat → Value) (less : σ → Prop) : Act → World → Prop := fun a w =>
  ∃ s, I s ∧ less s ∧ (∃ g, a = A cx.n (hav W g base) (Ls s)) ∧ In cx.z (owns s) (ros s) w

theorem hd_intro {σ : Type} {I : σ → Prop} {Ls : σ → List (Nat × Value)} {owns ros : σ → List Seg} {W : List Nat} {base' : Nat → Value} {g : Nat → Value} {less : σ → Prop} (s : σ) (hI : I s) (hl : less s)
    (hm : Mt (look (hav W g base') L) (Ls s)) (hk : L.all (fun p => W.any (Nat.beq p.1)) = true) (ho : own = owns s) (hr : ro = ros s) {w : World} (hw : In cx.z own ro w) :
    Hd cx I Ls owns ros W base' less (A cx.n (hav W g base') L) w := by
  subst ho; subst hr
  refine ⟨s, hI, hl, ⟨look (hav W g base') L, A_ext fun t _ => ?_⟩, hw⟩
  refine (Mt.look hm t fun _ => ?_).symm
  unfold hav
  cases hb : W.any (Nat.beq t) with
  | true => rfl
  | false =>
    simp only [cond_false]
    have h1 : ∀ p ∈ L, p.1 ≠ t := fun p hp e => by
      have := List.all_eq_true.1 hk p hp
      rw [e, hb] at this; cases this
    have := look_out (base := hav W g base') h1
    unfold hav at this
    rw [this, hb]; rfl

theorem c_loop {σ : Type} (I : σ → Prop) (μ : σ → Nat) (Ls : σ → List (Nat × Value)) (owns ros : σ → List Seg) (W : List Nat) {c : Code} (s0 : σ) (hI : I s0) (hm : Mt (look base L) (Ls s0))
    (ho : own = owns s0) (hr : ro = ros s0)
    (round : ∀ s g, I s → JC cx c Q0 (.lp (Hd cx I Ls owns ros W (look base L) fun s' => μ s' < μ s) :: st) (hav W g (look base L)) (Ls s) (owns s) (ros s)) : JC cx (.loop c) Q0 st base L own ro := JC.mk fun w hw => by
  subst ho; subst hr
  refine wp_loop_ghost (fun m a w => ∃ s, μ s = m ∧ I s ∧ (∃ g, a = A cx.n (hav W g (look base L)) (Ls s)) ∧ In cx.z (owns s) (ros s) w) (μ s0) ⟨s0, rfl, hI, ⟨look base L, A_ext fun t _ => ?_⟩, hw⟩ ?_
  · refine (Mt.look hm t fun _ => ?_).symm
    unfold hav; cases W.any (Nat.beq t) <;> rfl
  · rintro m a w ⟨s, rfl, hs, ⟨g, rfl⟩, hin⟩
    refine wp_mono ((round s g hs).out w hin) ?_
    intro e a' w' hq
    cases e with
    | normal =>
      obtain ⟨s', hI', hlt, hg, hin'⟩ := hq
      exact ⟨μ s', hlt, s', rfl, hI', hg, hin'⟩
    | _ => exact hq

/-- A loop that goes round at most once more .. (the end of a round). -/
theorem e_loop {σ : Type} {I : σ → Prop} {Ls : σ → List (Nat × Value)} {owns ros : σ → List Seg} {W : List Nat} {base' : Nat → Value} {g : Nat → Value} {less : σ → Prop} (s : σ) (hI : I s) (hl : less s)
    (hm : Mt (look (hav W g base') L) (Ls s)) (hk : L.all (fun p => W.any (Nat.beq p.1)) = true) (ho : own = owns s) (hr : ro = ros s) :
    JE cx .normal Q0 (.lp (Hd cx I Ls owns ros W base' less) :: st) (hav W g base') L own ro := JE.mk fun w hw => hd_intro s hI hl hm hk ho hr hw
end

/-- A meeting of ways: whatever state comes to it is one of a family; what follows is shown once for the family. -/
theorem c_cut {cx : Cx} {Q0 : Exit → Act → World → Prop} {st : List Fr} {base : Nat → Value} {L : List (Nat × Value)} {own ro : List Seg} {σ : Type} (I : σ → Prop) (Ls : σ → List (Nat × Value)) (owns ros : σ → List Seg) (W : List Nat) {x y : Code}
    (h : JC cx x Q0 (.lp (Hd cx I Ls owns ros W (look base L) fun _ => True) :: st) (hav W (look base L) (look base L)) [] own ro)
    (rest : ∀ s g, I s → JC cx y Q0 st (hav W g (look base L)) (Ls s) (owns s) (ros s)) : JC cx (.seq x y) Q0 st base L own ro := JC.mk fun w hw => by
  have e : A cx.n base L = A cx.n (hav W (look base L) (look base L)) [] := A_ext fun t _ => by
    simp only [look, hav]; cases W.any (Nat.beq t) <;> rfl
  rw [e]
  refine wp_seq (wp_mono (h.out w hw) ?_)
  intro e a' w' hq
  cases e with
  | normal =>
    obtain ⟨s', hI', _, ⟨g, rfl⟩, hin'⟩ := hq
    exact (rest s' g hI').out w' hin'
  | _ => exact hq

/-! ### calls -/
theorem In.call {z : Zt0} {own ro ownC R roC own' ro' : List Seg} {w w' : World} (h : In z own ro w) (hp : (ownC ++ R).Perm own) (hi : Impl (ro ++ R) roC)
    (ha : In ⟨w, blks ownC, roC.length⟩ own' (roC ++ ro') w') (hz : z.N0 ≤ ro.length) : In z (R ++ own') (ro ++ ro') w' := by
  have hb := blks_perm hp
  rw [blks_append] at hb
  have hnd := List.nodup_append.1 ((hb.nodup_iff).2 h.has.nd)
  have hmo : ∀ b, b ∈ blks ownC ∨ b ∈ blks R → b ∈ blks own := fun b hb' => (hb.mem_iff).1 (List.mem_append.2 hb')
  have hrf := ha.rf
  simp only [List.drop_left] at hrf
  have keepR : ∀ b, b ∈ blks R ∨ b ∈ blks ro → w'.heap[b]? = w.heap[b]? := by
    intro b hb'
    have hlt : b < w.heap.size := h.has.lt (hb'.imp (fun h => hmo b (.inr h)) id)
    refine ha.ext.blk b hlt fun hm => ?_
    rcases hb' with h1 | h1
    · exact hnd.2.2 _ hm _ h1 rfl
    · exact h.has.dj b (hmo b (.inl hm)) h1
  refine ⟨⟨?_, ?_, ?_, ?_⟩, ?_, ?_, ?_⟩
  · intro s hs
    rcases List.mem_append.1 hs with h1 | h1
    · exact (h.has.o s ((hp.mem_iff).1 (List.mem_append.2 (.inr h1)))).keep fun p hp' => keepR _ (.inl (mem_blks.2 ⟨s, h1, p, hp', rfl⟩))
    · exact ha.has.o s h1
  · intro s hs
    rcases List.mem_append.1 hs with h1 | h1
    · exact (h.has.r s h1).keep fun p hp' => keepR _ (.inr (mem_blks.2 ⟨s, h1, p, hp', rfl⟩))
    · exact ha.has.r s (List.mem_append.2 (.inr h1))
  · rw [blks_append, List.nodup_append]
    refine ⟨hnd.2.1, ha.has.nd, fun a h1 b h2 e => ?_⟩
    subst e
    rcases ha.fr a h2 with h3 | h3
    · exact hnd.2.2 _ h3 _ h1 rfl
    · exact Nat.lt_irrefl _ (Nat.lt_of_lt_of_le (h.has.lt (.inl (hmo a (.inr h1)))) h3)
  · intro b h1 h2
    rw [blks_append] at h1 h2
    rcases List.mem_append.1 h1 with h1 | h1 <;> rcases List.mem_append.1 h2 with h2 | h2
    · exact h.has.dj b (hmo b (.inr h1)) h2
    · rcases hrf b h2 with h3 | h3
      · exact hnd.2.2 _ h3 _ h1 rfl
      · exact Nat.lt_irrefl _ (Nat.lt_of_lt_of_le (h.has.lt (.inl (hmo b (.inr h1)))) h3)
    · rcases ha.fr b h1 with h3 | h3
      · exact h.has.dj b (hmo b (.inl h3)) h2
      · exact Nat.lt_irrefl _ (Nat.lt_of_lt_of_le (h.has.lt (.inr h2)) h3)
    · exact ha.has.dj b h1 (by rw [blks_append]; exact List.mem_append.2 (.inr h2))
  · refine ⟨ha.ext.os.trans h.ext.os, ha.ext.tape.trans h.ext.tape, ha.ext.output.trans h.ext.output, Nat.le_trans h.ext.size ha.ext.size, fun b hb1 hb2 => ?_⟩
    refine (ha.ext.blk b (Nat.lt_of_lt_of_le hb1 h.ext.size) fun hm => ?_).trans (h.ext.blk b hb1 hb2)
    rcases h.fr b (hmo b (.inl hm)) with h3 | h3
    · exact hb2 h3
    · omega
  · intro b hb'
    rw [blks_append] at hb'
    rcases List.mem_append.1 hb' with h1 | h1
    · exact h.fr b (hmo b (.inr h1))
    · rcases ha.fr b h1 with h3 | h3
      · exact h.fr b (hmo b (.inl h3))
      · exact .inr (Nat.le_trans h.ext.size h3)
  · intro b hb'
    rw [List.drop_append_of_le_length hz, blks_append] at hb'
    rcases List.mem_append.1 hb' with h1 | h1
    · exact h.rf b h1
    · rcases hrf b h1 with h3 | h3
      · exact h.fr b (hmo b (.inl h3))
      · exact .inr (Nat.le_trans h.ext.size h3)

theorem run_callFunc {P : Program} {f : Nat} {args : Array Value} {w : World} (h : EnterOk P f) : (callFunc f args).run P w = .ok (.enter f args) w := by
  obtain ⟨fn, h1, h2, h3⟩ := h
  simp only [callFunc, Sem.run_bind, run_program, Result.andThen_ok, h1, h3, h2, Bool.false_eq_true, if_false, Sem.run_pure]

section
variable {cx : Cx} {md : Md} {ops : Array Oper} {Q : Exit → Act → World → Prop} {rest : List (Oper × Nat)} {kq : Nat} {base : Nat → Value} {L : List (Nat × Value)} {own ro : List Seg}
variable {d : Nat} {ty : TypeId} {pos : String} {aft : Array Edge}
/-- A call of a Go function, by its contract: the segments io are handed over, the others jo kept. -/
theorem cal {f : Nat} {xs : Array Operand} {ts : Array TypeId} {args : List Value} {ownC roC : List Seg} {post : Value → List Seg → List Seg → Prop} (hct : Ct cx.P f args ownC roC post)
    (io jo : List Nat) (R : List Seg) (hR : R.map some = jo.map fun i => own[i]?) (hx : xs.toList.map (ev cx.n base L) = args) (hio : ownC.map some = io.map fun i => own[i]?) (perm : (io ++ jo).isPerm (List.range own.length) = true) (hi : Impl (ro ++ R) roC) (hz : Nat.ble cx.z.N0 ro.length = true)
    (h : ∀ v own' ro', post v own' ro' → Keep md kq rest (R ++ own') (ro ++ ro') ∧ JG cx md ops Q rest base ((d, v) :: L) (R ++ own') (ro ++ ro')) :
    JG cx md ops Q ((⟨some d, .call ⟨.value (.func f), xs, ts⟩, ty, pos, aft, none⟩, kq + 1) :: rest) base L own ro := by
  obtain rfl := pick_of hR
  exact nq (Post := fun L' o r => ∃ v own' ro', post v own' ro' ∧ L' = (d, v) :: L ∧ o = pick jo own ++ own' ∧ r = ro ++ ro') rfl
    (fun w K hw hK => by
      have hpm : (ownC ++ pick jo own).Perm own := by
        have := pick_perm (own := own) perm
        obtain rfl := pick_of hio; simpa [pick] using this
      have hR : ∀ s ∈ pick jo own, s ∈ own := fun s hs => (hpm.mem_iff).1 (List.mem_append.2 (.inr hs))
      have hC : ∀ s ∈ ownC, s ∈ own := fun s hs => (hpm.mem_iff).1 (List.mem_append.2 (.inl hs))
      have hb := blks_perm hpm
      rw [blks_append] at hb
      have hnd := List.nodup_append.1 ((hb.nodup_iff).2 hw.has.nd)
      have hhas : Has w ownC roC := ⟨fun s hs => hw.has.o s (hC s hs), hw.has.impl hR hi, hnd.1, fun b h1 h2 => by
        obtain ⟨s, hs, p, hps, rfl⟩ := mem_blks.1 h2
        obtain ⟨s', hs', p', hp', e, _⟩ := hi s hs p hps
        rw [← e] at h1
        rcases List.mem_append.1 hs' with h3 | h3
        · exact hw.has.dj _ ((hb.mem_iff).1 (List.mem_append.2 (.inl h1))) (mem_blks.2 ⟨s', h3, p', hp', rfl⟩)
        · exact hnd.2.2 _ h1 _ (mem_blks.2 ⟨s', h3, p', hp', rfl⟩) rfl⟩
      have hargs : xs.map (ev cx.n base L) = ⟨args⟩ := by
        apply Array.ext'
        simp [← hx]
      unfold Oper.wp
      rw [A_eval_fun]
      simp only [execOp, resolve, ev, Deferred.ofValue, Sem.run_bind, Sem.run_pure, Result.andThen_ok, invoke, hargs, Array.append_empty, Array.empty_append, run_callFunc hct.1, Oper.upon]
      refine (hct.2 w hhas).mono ?_
      rintro e w' ⟨v, own', ro', rfl, hpost, hin⟩
      show K ((A cx.n base L).put (some d) v) w'
      rw [A_put]
      exact hK _ _ _ _ ⟨v, own', ro', hpost, rfl, rfl, rfl⟩ (hw.call hpm hi hin (Nat.ble_eq.mp hz)))
    (by rintro L' o r ⟨v, own', ro', hpost, rfl, rfl, rfl⟩; exact (h v own' ro' hpost).1)
    (by rintro L' o r ⟨v, own', ro', hpost, rfl, rfl, rfl⟩; exact (h v own' ro' hpost).2)
end
end Go.PW
