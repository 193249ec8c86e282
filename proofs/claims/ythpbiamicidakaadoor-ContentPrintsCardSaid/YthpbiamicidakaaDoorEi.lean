/- The engine: rows of its own: made, cut, appended to. No condition. -/
import Derived.Test.YthpbiamicidakaaDoorEh
namespace Go.PW
open Enc (enc val)
open Go

/-- The header of a row of its own: is it nil, its block, its capacity, what stands behind its elements. -/
structure Ow where
  nl : Bool
  b : Nat
  cap : Nat
  sp : List Value
def Ow.adr (s : Ow) : Option Addr := if s.nl then none else some ⟨s.b, 0, none⟩
abbrev Ow.v (s : Ow) (n : Nat) : Value := .slice s.adr n s.cap
def Ow.seg {α : Type} [Enc α] (s : Ow) (xs : List α) (E : Nat) : Seg := if s.nl then [] else [(s.b, .cells (encs xs ++ s.sp) E)]
structure Ow.ok {α : Type} [Enc α] (s : Ow) (xs : List α) : Prop where
  nl : s.nl = true → xs = [] ∧ s.cap = 0
  len : s.nl = false → xs.length * Enc.n α + s.sp.length = s.cap * Enc.n α
  le : xs.length ≤ s.cap
def Ow.nil : Ow := ⟨true, 0, 0, []⟩
theorem Ow.nil_ok {α : Type} [Enc α] : Ow.nil.ok ([] : List α) := ⟨fun _ => ⟨rfl, rfl⟩, fun h => by simp [Ow.nil] at h, Nat.le_refl _⟩
/-- To read it. -/
def Ow.vs (s : Ow) : Vs := ⟨s.nl, s.b, 0, s.cap, none⟩
theorem Ow.vs_ok {α : Type} [Enc α] {s : Ow} {xs : List α} (h : s.ok xs) : s.vs.ok xs := ⟨fun e => (h.nl e).1, h.le⟩
theorem Ow.ne {α : Type} [Enc α] {s : Ow} {xs : List α} (h : s.ok xs) {i : Nat} (hi : i < xs.length) : s.nl = false := by
  cases hb : s.nl with
  | false => rfl
  | true => have := (h.nl hb).1; subst this; simp at hi

section
variable {z : Zt0} {own ro : List Seg} {w : World}

theorem In.dropAdd (h : In z own ro w) {j : Nat} {s s' : Seg} (hs : own[j]? = some s) {w' : World} (hs' : SegIn w' s') (hk : ∀ b, b < w.heap.size → b ∉ s.map (·.1) → w'.heap[b]? = w.heap[b]?) (hsz : w.heap.size ≤ w'.heap.size)
    (hos : w'.os = w.os) (htp : w'.tape = w.tape) (hout : w'.output = w.output) (hnd : (s'.map (·.1)).Nodup) (hb : ∀ b ∈ s'.map (·.1), b ∈ s.map (·.1) ∨ w.heap.size ≤ b) : In z (own.set j s') ro w' := by
  obtain ⟨hlt, he⟩ := List.getElem?_eq_some_iff.1 hs
  have h1 : own = own.take j ++ s :: own.drop (j + 1) := by
    rw [← he, List.getElem_cons_drop, List.take_append_drop]
  have h2 : own.set j s' = own.take j ++ s' :: own.drop (j + 1) := by
    rw [List.set_eq_take_append_cons_drop, if_pos hlt]
  have hb1 : blks own = blks (own.take j) ++ (s.map (·.1) ++ blks (own.drop (j + 1))) := by
    conv => lhs; rw [h1]
    simp [blks]
  have hb2 : blks (own.set j s') = blks (own.take j) ++ (s'.map (·.1) ++ blks (own.drop (j + 1))) := by
    rw [h2]; simp [blks]
  have hnd1 := h.has.nd
  rw [hb1] at hnd1
  have hd := List.nodup_append.1 hnd1
  have hd2 := List.nodup_append.1 hd.2.1
  have lt : ∀ b, b ∈ blks own → b < w.heap.size := fun b hb => h.has.lt (.inl hb)
  have mo : ∀ b, b ∈ blks (own.take j) ∨ b ∈ s.map (·.1) ∨ b ∈ blks (own.drop (j + 1)) → b ∈ blks own := fun b hb => by
    rw [hb1]; rcases hb with h | h | h <;> simp [h]
  have other : ∀ t, t ∈ own.take j ∨ t ∈ own.drop (j + 1) → SegIn w' t := by
    intro t ht
    have hto : t ∈ own := by rcases ht with h | h; exact List.mem_of_mem_take h; exact List.mem_of_mem_drop h
    refine (h.has.o t hto).keep fun p hp => hk _ ((h.has.o t hto).lt hp) fun hm => ?_
    rcases ht with h3 | h3
    · exact hd.2.2 p.1 (mem_blks.2 ⟨t, h3, p, hp, rfl⟩) p.1 (List.mem_append.2 (.inl hm)) rfl
    · exact hd2.2.2 p.1 hm p.1 (mem_blks.2 ⟨t, h3, p, hp, rfl⟩) rfl
  refine ⟨⟨?_, ?_, ?_, ?_⟩, ?_, ?_, h.rf⟩
  · intro t ht
    rw [h2] at ht
    rcases List.mem_append.1 ht with h3 | h3
    · exact other t (.inl h3)
    · rcases List.mem_cons.1 h3 with rfl | h3
      · exact hs'
      · exact other t (.inr h3)
  · intro t ht
    refine (h.has.r t ht).keep fun p hp => hk _ ((h.has.r t ht).lt hp) fun hm => ?_
    exact h.has.dj p.1 (mo _ (.inr (.inl hm))) (mem_blks.2 ⟨t, ht, p, hp, rfl⟩)
  · rw [hb2, List.nodup_append, List.nodup_append]
    refine ⟨hd.1, ⟨hnd, hd2.2.1, ?_⟩, ?_⟩
    · intro a ha c hc e; subst e
      rcases hb a ha with h3 | h3
      · exact hd2.2.2 a h3 a hc rfl
      · exact Nat.lt_irrefl _ (Nat.lt_of_lt_of_le (lt a (mo a (.inr (.inr hc)))) h3)
    · intro a ha c hc e; subst e
      rcases List.mem_append.1 hc with h4 | h4
      · rcases hb a h4 with h3 | h3
        · exact hd.2.2 a ha a (List.mem_append.2 (.inl h3)) rfl
        · exact Nat.lt_irrefl _ (Nat.lt_of_lt_of_le (lt a (mo a (.inl ha))) h3)
      · exact hd.2.2 a ha a (List.mem_append.2 (.inr h4)) rfl
  · intro b hbo hbr
    rw [hb2] at hbo
    rcases List.mem_append.1 hbo with h3 | h3
    · exact h.has.dj b (mo b (.inl h3)) hbr
    · rcases List.mem_append.1 h3 with h4 | h4
      · rcases hb b h4 with h5 | h5
        · exact h.has.dj b (mo b (.inr (.inl h5))) hbr
        · exact Nat.lt_irrefl _ (Nat.lt_of_lt_of_le (h.has.lt (.inr hbr)) h5)
      · exact h.has.dj b (mo b (.inr (.inr h4))) hbr
  · refine ⟨hos.trans h.ext.os, htp.trans h.ext.tape, hout.trans h.ext.output, Nat.le_trans h.ext.size hsz, fun b hb1 hb2 => ?_⟩
    refine (hk b (Nat.lt_of_lt_of_le hb1 h.ext.size) fun hm => ?_).trans (h.ext.blk b hb1 hb2)
    rcases h.fr b (mo b (.inr (.inl hm))) with h3 | h3
    · exact hb2 h3
    · omega
  · intro b hbo
    rw [hb2] at hbo
    rcases List.mem_append.1 hbo with h3 | h3
    · exact h.fr b (mo b (.inl h3))
    · rcases List.mem_append.1 h3 with h4 | h4
      · rcases hb b h4 with h5 | h5
        · exact h.fr b (mo b (.inr (.inl h5)))
        · exact .inr (Nat.le_trans h.ext.size h5)
      · exact h.fr b (mo b (.inr (.inr h4)))
end

section
variable {P : Program} {w : World}
theorem run_firstCells {b o m n : Nat} {c : List Value} {cp : Nat} (h : cellsAt w b o c) (hl : c.length = m * n) : (Builtin.firstCells n m (.slice (some ⟨b, o, none⟩) m cp)).run P w = .ok ⟨c⟩ w := by
  have : (loadCells ⟨b, o, none⟩ c.length).run P w = .ok c.toArray w :=
    run_loadCells_list (P := P) w ⟨b, o, none⟩ c (fun j v hv => by rw [add_none]; exact h j v hv)
  simp only [Builtin.firstCells, ← hl, this]

/-- What is appended: read as these elements. -/
def Gives {α : Type} [Enc α] (P : Program) (S : List Seg) (v : Value) (ys : List α) : Prop :=
  ∀ w, AllIn S w → (Builtin.lenOf v).run P w = .ok ys.length w ∧ (Builtin.firstCells (Enc.n α) ys.length v).run P w = .ok ⟨encs ys⟩ w

/-- No element: from wherever. -/
theorem gives_none {α : Type} [Enc α] {S : List Seg} {a : Option Addr} {c : Nat} : Gives (α := α) P S (.slice a 0 c) [] := fun w _ => by
  cases a <;> exact ⟨rfl, by simp [Builtin.firstCells, encs, loadCells, loadCellsFrom, Sem.run_pure]⟩
theorem gives_nil {α : Type} [Enc α] {S : List Seg} {c : Nat} : Gives (α := α) P S (.slice none 0 c) [] := fun w _ => ⟨rfl, rfl⟩
/-- From a part of a row of its own. -/
theorem gives_own {α : Type} [Enc α] {S : List Seg} {b o cp E : Nat} {c pre post : List Value} {ys : List α} (j : Nat) (hs : S[j]? = some [(b, .cells c E)]) (hc : c = pre ++ (encs ys ++ post)) (ho : pre.length = o) : Gives P S (.slice (some ⟨b, o, none⟩) ys.length cp) ys := fun w hw =>
  ⟨rfl, run_firstCells (cellsAt_cells (hw _ (List.mem_of_getElem? hs)) (List.mem_singleton.2 rfl) hc ho) (encs_length ys)⟩
theorem gives_vs {α : Type} [Enc α] {S : List Seg} {s : Vs} {ys : List α} (j : Nat) (hok : s.ok ys) (hs : S[j]? = some (s.seg ys)) : Gives P S (.slice s.adr ys.length s.cap) ys := by
  cases hn : s.nl with
  | true =>
    have := hok.nl hn; subst this
    exact gives_none
  | false =>
    have ha : s.adr = some ⟨s.b, s.off, none⟩ := by simp [Vs.adr, hn]
    rw [ha]
    intro w hw
    refine ⟨rfl, run_firstCells (cellsAt_view (hw _ (List.mem_of_getElem? hs)) (b := s.b) (off := s.off) (c := encs ys) (pre := []) (post := []) ?_ (by simp) (by simp)) (encs_length ys)⟩
    simp [Vs.seg, hn]

theorem nextcap_le (need old bytes : Nat) (h1 : old < need) (h2 : need * bytes ≤ 140737488355328) : Builtin.nextslicecap need old * bytes ≤ 281474976710656 := by
  have key : Builtin.nextslicecap need old ≤ 2 * need := by
    unfold Builtin.nextslicecap
    split
    · omega
    · split
      · omega
      · have : ∀ r c, c ≤ need ∨ c ≤ 2 * need → 256 ≤ need → Builtin.growBy need r c ≤ 2 * need := by
          intro r
          induction r with
          | zero => intro c hc _; simp only [Builtin.growBy]; omega
          | succ r ih =>
            intro c hc hn
            simp only [Builtin.growBy]
            split
            · omega
            · exact ih _ (.inr (by omega)) hn
        exact this 4 old (.inl (by omega)) (by omega)
  calc Builtin.nextslicecap need old * bytes ≤ 2 * need * bytes := Nat.mul_le_mul_right _ key
    _ = 2 * (need * bytes) := by rw [Nat.mul_assoc]
    _ ≤ 281474976710656 := by omega

theorem zeroCells_length (z : Array Value) (n : Nat) : (Builtin.zeroCells z n).toList.length = n * z.size := by simp [Builtin.zeroCells]
end

section
variable {cx : Cx} {md : Md} {ops : Array Oper} {Q : Exit → Act → World → Prop} {rest : List (Oper × Nat)} {kq : Nat} {base : Nat → Value} {L : List (Nat × Value)} {own ro : List Seg}
variable {q : Nat} {d : Nat} {ty : TypeId} {pos : String} {aft : Array Edge} {x y z : Operand} {xt yt : TypeId}

/-- An element of a row of its own (its header may be nil). -/
theorem ldso {α : Type} [Enc α] {t bk o E : Nat} {s : Ow} {xs : List α} (j i : Nat) (hok : s.ok xs) (hx : ev cx.n base L x = .pointer (some ⟨bk, o, none⟩)) (hs : (Src md q own ro)[j]? = some (s.seg xs E))
    (hb : bk = s.b) (ho : o = 0 + i * Enc.n α) (hi : i < xs.length) (ht : Ty cx.P t (Enc.n α) (Enc.ag α))
    (h : JG cx md ops Q rest base ((d, val xs[i]) :: L) own ro) : JG cx md ops Q ((⟨some d, .load t x, ty, pos, aft, none⟩, q) :: rest) base L own ro := by
  subst hb
  exact ldo (E := E) (sp := s.sp) j i hx (by rw [hs]; simp [Ow.seg, Ow.ne hok hi]) ho hi ht h
theorem ldsof {α : Type} [Enc α] [Flds α] {t bk o E n : Nat} {c : List Value} {v : Value} {ag : Bool} {l1 l2 l3} {s : Ow} {xs : List α} (j i f : Nat) (hok : s.ok xs) (hx : ev cx.n base L x = .pointer (some ⟨bk, o, none⟩)) (hs : (Src md q own ro)[j]? = some (s.seg xs E))
    (hb : bk = s.b) (hi : i < xs.length) (hp : (Flds.parts xs[i])[f]? = some ⟨n, c, v, ag, l1, l2, l3⟩) (ho : o = 0 + i * Enc.n α + psum (Flds.parts xs[i]) f) (ht : Ty cx.P t n ag)
    (h : JG cx md ops Q rest base ((d, v) :: L) own ro) : JG cx md ops Q ((⟨some d, .load t x, ty, pos, aft, none⟩, q) :: rest) base L own ro := by
  subst hb
  exact ldof (E := E) (sp := s.sp) j i f hx (by rw [hs]; simp [Ow.seg, Ow.ne hok hi]) hi hp ho ht h

def isIntD : TypeDesc → Bool
  | .int _ => true
  | _ => false

theorem run_askRoom {P : Program} {w : World} (n : Nat) : (askRoom n).run P w = .ok () w := by
  unfold askRoom; split <;> rfl

theorem run_append_fits {P : Program} {w : World} {E m l c n : Nat} {S T ty : Nat} {base : Option Addr} {yv : Value} {dT : TypeDesc} {ysc : List Value} (hu : P.underlying S = some (.slice E)) (hT : P.underlying T = some dT) (hT2 : (∃ e, dT = .slice e) ∨ dT = .string)
    (hsz : (P.info? E).map (·.size) = some n) (hlen : (Builtin.lenOf yv).run P w = .ok m w) (hfirst : (Builtin.firstCells n m yv).run P w = .ok ⟨ysc⟩ w) (h : l + m ≤ c) :
    (Builtin.append_ #[S, T] ty #[.slice base l c, yv]).run P w = (((match base with | some a => storeCells (a.add (l * n)) ysc | none => pure ()) : Sem Unit).run P w).andThen fun _ w' => .ok (.slice base (l + m) c) w' := by
  rcases hT2 with ⟨e, rfl⟩ | rfl
  all_goals
    unfold Builtin.append_
    simp only [List.getElem?_toArray, List.getElem?_cons_zero, List.getElem?_cons_succ, Sem.run_bind, run_underlying hu, Result.andThen_ok, run_sizeOf' hsz, run_underlying hT, Sem.run_pure, hlen, Bool.false_eq_true, if_false, h, if_true, Bool.not_false, hfirst]
    cases base
    · rfl
    · simp only [Sem.run_bind, Sem.run_pure]

theorem run_append_grows {P : Program} {w : World} {E m l c n bytes : Nat} {S T ty : Nat} {base : Option Addr} {yv zv : Value} {dT : TypeDesc} {xsc ysc : List Value} (hu : P.underlying S = some (.slice E)) (hT : P.underlying T = some dT) (hT2 : (∃ e, dT = .slice e) ∨ dT = .string)
    (hsz : (P.info? E).map (·.size) = some n) (hby : (P.info? E).map (·.bytes) = some bytes) (hz : Zt P E zv) (hlen : (Builtin.lenOf yv).run P w = .ok m w) (hfirst : ∀ w', w'.heap = w.heap → (Builtin.firstCells n m yv).run P w' = .ok ⟨ysc⟩ w')
    (hold : ∀ w', w'.heap = w.heap → (Builtin.firstCells n l (.slice base l c)).run P w' = .ok ⟨xsc⟩ w') (h : ¬ l + m ≤ c) (hroom : (l + m) * bytes ≤ 140737488355328) (hbytes : 0 < bytes) :
    ∃ k, l + m ≤ k ∧ (Builtin.append_ #[S, T] ty #[.slice base l c, yv]).run P w = .ok (.slice (some ⟨w.heap.size, 0, none⟩) (l + m) k) { w with heap := w.heap.push (.cells ⟨xsc ++ ysc ++ (Builtin.zeroCells zv.cells (k - (l + m))).toList⟩ E), drawn := w.drawn + 1 } := by
  have hinf : ∀ w', (typeInfo E).run P w' = .ok ((P.info? E).getD default) w' := fun w' => by
    cases hq : P.info? E with
    | none => simp [hq] at hsz
    | some i => simp [typeInfo, hq]
  have hb2 : ((P.info? E).getD default).bytes = bytes := by
    cases hq : P.info? E with
    | none => simp [hq] at hsz
    | some i => simpa [hq] using hby
  have hc := nextcap_le (l + m) c bytes (by omega) hroom
  have hnb : ¬ bytes = 0 := by omega
  let t := w.tape w.drawn (.appendCap (l + m) c E)
  refine ⟨(l + m) + t % (2 ^ 63 - (l + m)), by omega, ?_⟩
  rcases hT2 with ⟨e, rfl⟩ | rfl
  all_goals
    unfold Builtin.append_
    simp only [List.getElem?_toArray, List.getElem?_cons_zero, List.getElem?_cons_succ, Sem.run_bind, run_underlying hu, Result.andThen_ok, run_sizeOf' hsz, run_underlying hT, Sem.run_pure, hlen, Bool.false_eq_true, if_false, h, if_true, Bool.not_false, hinf, hb2]
    rw [if_neg (by simp [hnb])]
    simp only [Sem.run_bind, hinf, Result.andThen_ok, hb2]
    rw [if_neg (by omega)]
    simp only [Sem.run_bind, choose, Sem.run, Question.forced, Bool.false_eq_true, if_false, Question.cut, Result.andThen_ok, hinf, hb2, run_askRoom]
    rw [hold { w with drawn := w.drawn + 1 } rfl]
    simp only [Result.andThen_ok]
    rw [hfirst { w with drawn := w.drawn + 1 } rfl]
    have e : ∀ Z : Array Value, (⟨xsc⟩ : Array Value) ++ ⟨ysc⟩ ++ Z = ⟨xsc ++ ysc ++ Z.toList⟩ := fun Z => by apply Array.ext'; simp
    simp only [Result.andThen_ok, run_zero' hz, newRow, newObj, Sem.run_bind, Sem.run, Sem.run_pure, e]
    rfl

theorem allIn_heap {S : List Seg} {w w' : World} (h : AllIn S w) (e : w'.heap = w.heap) : AllIn S w' := fun s hs p hp => by
  obtain ⟨o, ho, hk⟩ := h s hs p hp
  exact ⟨o, by rw [e]; exact ho, hk⟩

theorem set_self {β : Type} {l : List β} {j : Nat} {s : β} (h : l[j]? = some s) : l.set j s = l := by
  apply List.ext_getElem?; intro i
  rw [List.getElem?_set]; split
  · rename_i e; subst e
    rw [if_pos (List.getElem?_eq_some_iff.1 h).1]; exact h.symm
  · rfl

theorem app_core {α : Type} [Enc α] {w : World} {P : Program} {zt : Zt0} {E bytes : Nat} {S T ty : Nat} {o : Ow} {xs ys : List α} {yv zv : Value} {j : Nat} {dT : TypeDesc} (hw : In zt own ro w) (hs : own[j]? = some (o.seg xs E)) (hok : o.ok xs) (hg : Gives P (own ++ ro) yv ys)
    (hu : P.underlying S = some (.slice E)) (hT : P.underlying T = some dT) (hT2 : (∃ e, dT = .slice e) ∨ dT = .string) (hsz : (P.info? E).map (·.size) = some (Enc.n α)) (hby : (P.info? E).map (·.bytes) = some bytes) (hz : Zt P E zv) (hzc : zv.cells.size = Enc.n α)
    (hroom : (xs.length + ys.length) * bytes ≤ 140737488355328) (hbytes : 0 < bytes) :
    ∃ o' w', Ow.ok o' (xs ++ ys) ∧ (Builtin.append_ #[S, T] ty #[.slice o.adr xs.length o.cap, yv]).run P w = .ok (.slice o'.adr (xs.length + ys.length) o'.cap) w' ∧ In zt (own.set j (o'.seg (xs ++ ys) E)) ro w' := by
  have hsrc := hw.src
  obtain ⟨hlen, hfirst⟩ := hg w hsrc
  have hlt : j < own.length := (List.getElem?_eq_some_iff.1 hs).1
  by_cases hroomy : xs.length + ys.length ≤ o.cap
  · have hrun := run_append_fits (base := o.adr) (ty := ty) hu hT hT2 hsz hlen hfirst hroomy
    cases hn : o.nl with
    | true =>
      obtain ⟨rfl, hc0⟩ := hok.nl hn
      have hys : ys = [] := List.length_eq_zero_iff.1 (by simp at hroomy; omega)
      subst hys
      refine ⟨o, w, hok, ?_, ?_⟩
      · rw [hrun]
        have ha : o.adr = none := by simp [Ow.adr, hn]
        simp [ha]
      · have : own.set j (o.seg (([] : List α) ++ []) E) = own := by
          exact set_self hs
        rw [this]; exact hw
    | false =>
      have ha : o.adr = some ⟨o.b, 0, none⟩ := by simp [Ow.adr, hn]
      have hs' : own[j]? = some [(o.b, .cells (encs xs ++ o.sp) E)] := by rw [hs]; simp [Ow.seg, hn]
      have hl := hok.len hn
      obtain ⟨x, hx, fr, rfl, hfr⟩ := hw.has.o _ (List.mem_of_getElem? hs') (o.b, .cells (encs xs ++ o.sp) E) (List.mem_singleton.2 rfl)
      have hsp : ys.length * Enc.n α ≤ o.sp.length := by
        have := Nat.mul_le_mul_right (Enc.n α) hroomy
        rw [Nat.add_mul] at this; omega
      obtain ⟨w', hr, hh, hold, hsz', hos, htp, hout⟩ := run_stores (P := P) (encs ys) 0 (xs.length * Enc.n α) (encs xs ++ o.sp) w hx hfr (by simp [encs_length]; omega) (encs_one ys)
      refine ⟨⟨false, o.b, o.cap, o.sp.drop (ys.length * Enc.n α)⟩, w', ⟨by simp, fun _ => ?_, ?_⟩, ?_, ?_⟩
      · simp only [List.length_append, List.length_drop, Nat.add_mul]; omega
      · simp; exact hroomy
      · rw [hrun, ha]
        simp only [add_none, Nat.zero_add, hr, Result.andThen_ok]
        simp [Ow.adr]
      · have e1 : List.take (xs.length * Enc.n α + 0) (encs xs ++ o.sp) ++ (encs ys ++ List.drop (xs.length * Enc.n α + 0 + (encs ys).length) (encs xs ++ o.sp)) = encs (xs ++ ys) ++ o.sp.drop (ys.length * Enc.n α) := by
          rw [encs_append, Nat.add_zero, ← encs_length xs, ← encs_length ys]
          simp [List.drop_append, List.drop_eq_nil_of_le]
        rw [e1] at hh
        have e2 : (Ow.seg ⟨false, o.b, o.cap, o.sp.drop (ys.length * Enc.n α)⟩ (xs ++ ys) E) = [(o.b, Ck.cells (encs (xs ++ ys) ++ o.sp.drop (ys.length * Enc.n α)) E)] := by simp [Ow.seg]
        rw [e2]
        refine hw.turn hs' hh ⟨fr, rfl, ?_⟩ hold hsz' hos htp hout
        simp only [encs_append, List.length_append, encs_length, List.length_drop] at hfr ⊢
        omega
  · have hold : ∀ w' : World, w'.heap = w.heap → (Builtin.firstCells (Enc.n α) xs.length (.slice o.adr xs.length o.cap)).run P w' = .ok ⟨encs xs⟩ w' := fun w' e => by
      cases hn : o.nl with
      | true =>
        obtain ⟨rfl, _⟩ := hok.nl hn
        have ha : o.adr = none := by simp [Ow.adr, hn]
        rw [ha]; rfl
      | false =>
        have ha : o.adr = some ⟨o.b, 0, none⟩ := by simp [Ow.adr, hn]
        have hs' : own[j]? = some [(o.b, .cells (encs xs ++ o.sp) E)] := by rw [hs]; simp [Ow.seg, hn]
        rw [ha]
        exact run_firstCells (cellsAt_cells ((allIn_heap hsrc e) _ (List.mem_append.2 (.inl (List.mem_of_getElem? hs')))) (List.mem_singleton.2 rfl) (pre := []) (post := o.sp) (by simp) rfl) (encs_length xs)
    obtain ⟨k, hk, hrun⟩ := run_append_grows (w := w) (base := o.adr) (ty := ty) (yv := yv) (xsc := encs xs) (ysc := encs ys) hu hT hT2 hsz hby hz hlen (fun w' e => (hg w' (allIn_heap hsrc e)).2) hold hroomy hroom hbytes
    refine ⟨⟨false, w.heap.size, k, (Builtin.zeroCells zv.cells (k - (xs.length + ys.length))).toList⟩, _, ⟨by simp, fun _ => ?_, ?_⟩, hrun.trans rfl, ?_⟩
    · simp only [List.length_append, zeroCells_length, hzc]
      rw [← Nat.add_mul]; congr 1; omega
    · simp; exact hk
    · have e2 : (Ow.seg ⟨false, w.heap.size, k, (Builtin.zeroCells zv.cells (k - (xs.length + ys.length))).toList⟩ (xs ++ ys) E) = [(w.heap.size, Ck.cells (encs xs ++ encs ys ++ (Builtin.zeroCells zv.cells (k - (xs.length + ys.length))).toList) E)] := by simp [Ow.seg, encs_append]
      rw [e2]
      refine hw.dropAdd hs (fun p hp => ?_) (fun b hb _ => ?_) (by simp) rfl rfl rfl (by simp) (by simp)
      · rw [List.mem_singleton] at hp; subst hp
        exact ⟨_, by simp, (0, 0), rfl, .inr (Nat.le_refl _)⟩
      · simp [Array.getElem?_push, Nat.ne_of_lt hb]

/-- append to a row of its own. -/
theorem app {α : Type} [Enc α] {E bytes len cap : Nat} {a : Option Addr} {S T : TypeId} {yv zv : Value} {dT : TypeDesc} (j : Nat) (o : Ow) (xs ys : List α) (hok : o.ok xs) (hx : ev cx.n base L x = .slice a len cap) (ha : a = o.adr ∧ len = xs.length ∧ cap = o.cap) (hs : own[j]? = some (o.seg xs E)) (hy : ev cx.n base L y = yv) (hg : Gives cx.P (own ++ ro) yv ys)
    (hu : cx.P.underlying S = some (.slice E)) (hT : cx.P.underlying T = some dT) (hT2 : (∃ e, dT = .slice e) ∨ dT = .string) (hsz : (cx.P.info? E).map (·.size) = some (Enc.n α)) (hby : (cx.P.info? E).map (·.bytes) = some bytes) (hz : Zt cx.P E zv) (hzc : zv.cells.size = Enc.n α)
    (hroom : (xs.length + ys.length) * bytes ≤ 140737488355328) (hbytes : Nat.blt 0 bytes = true)
    (h : ∀ o' : Ow, o'.ok (xs ++ ys) → Keep md kq rest (own.set j (o'.seg (xs ++ ys) E)) ro ∧ JG cx md ops Q rest base ((d, .slice o'.adr ((xs ++ ys).length) o'.cap) :: L) (own.set j (o'.seg (xs ++ ys) E)) ro) :
    JG cx md ops Q ((⟨some d, .call ⟨.builtin .append, #[x, y], #[S, T]⟩, ty, pos, aft, none⟩, kq + 1) :: rest) base L own ro :=
  nq (Post := fun L' own' ro' => ∃ o' : Ow, o'.ok (xs ++ ys) ∧ L' = (d, .slice o'.adr ((xs ++ ys).length) o'.cap) :: L ∧ own' = own.set j (o'.seg (xs ++ ys) E) ∧ ro' = ro) rfl
    (fun w K hw hK => by
      obtain ⟨rfl, rfl, rfl⟩ := ha
      obtain ⟨o', w', hok', hrun, hin⟩ := app_core (ty := ty) hw hs hok hg hu hT hT2 hsz hby hz hzc hroom (Nat.ble_eq.mp hbytes)
      unfold Oper.wp
      rw [A_eval_fun]
      simp only [execOp, resolve, invoke, builtin, List.map_toArray, List.map_cons, List.map_nil, hx, hy, Sem.run_bind, Sem.run_pure, Result.andThen_ok, hrun, Oper.upon]
      show K ((A cx.n base L).put (some d) _) _
      rw [A_put]
      exact hK _ _ _ _ ⟨o', hok', by rw [List.length_append], rfl, rfl⟩ hin)
    (by rintro L' own' ro' ⟨o', hok', rfl, rfl, rfl⟩; exact (h o' hok').1)
    (by rintro L' own' ro' ⟨o', hok', rfl, rfl, rfl⟩; exact (h o' hok').2)
end
end Go.PW
