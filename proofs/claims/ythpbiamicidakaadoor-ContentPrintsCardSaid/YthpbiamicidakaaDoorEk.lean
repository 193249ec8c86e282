/- The engine: arrays built, elements stored, rows cleared. No condition. -/
import Derived.Test.YthpbiamicidakaaDoorEj
namespace Go.PW
open Enc (enc val)
open Go

section
variable {cx : Cx} {md : Md} {ops : Array Oper} {Q : Exit → Act → World → Prop} {rest : List (Oper × Nat)} {kq : Nat} {base : Nat → Value} {L : List (Nat × Value)} {own ro : List Seg}
variable {q : Nat} {d : Nat} {ty : TypeId} {pos : String} {aft : Array Edge} {x y z : Operand} {xt yt : TypeId}

theorem e_addE {Q0 : Exit → Act → World → Prop} {st : List Fr} {e : Exit} (h : JE cx e Q0 st base L (own ++ [[]]) ro) : JE cx e Q0 st base L own ro := JE.mk fun w hw => h.out w hw.addE

def fillA {α : Type} (zs : List α) : List (Nat × α) → List α
  | [] => zs
  | (i, x) :: r => fillA (zs.set i x) r

theorem fill_arr {α : Type} [Enc α] : ∀ (qs : List (Nat × α)) (zs : List α), (∀ p ∈ qs, p.1 < zs.length) →
    Instr.fill (fun i => some (i * Enc.n α, Enc.n α)) ⟨encs zs⟩ (qs.map fun p => (p.1, val p.2)) = some ⟨encs (fillA zs qs)⟩
  | [], zs, _ => rfl
  | (i, x) :: qs, zs, h => by
    have hi := h (i, x) (by simp)
    have h1 := fill_cons (place := fun i => some (i * Enc.n α, Enc.n α)) (i := i) (o := i * Enc.n α) (n := Enc.n α) (p := pt x) (pre := encs (zs.take i)) (old := enc zs[i]) (post := encs (zs.drop (i + 1))) (r := qs.map fun p => (p.1, val p.2)) rfl rfl
      (by rw [encs_length, List.length_take, Nat.min_eq_left (Nat.le_of_lt hi)]) (Enc.len _)
    rw [← encs_split zs i hi] at h1
    have e1 : encs (zs.take i) ++ ((pt x).c ++ encs (zs.drop (i + 1))) = encs (zs.set i x) := by
      rw [List.set_eq_take_append_cons_drop, if_pos hi, encs_append]; simp [encs, pt]
    rw [e1] at h1
    exact h1.trans (fill_arr qs (zs.set i x) fun p hp => by simpa using h p (by simp [hp]))

/-- An array written out. -/
theorem bldA {α : Type} [Enc α] {t e len : Nat} {parts : Array (Nat × Operand)} {v0 : Value} (zs : List α) (qs : List (Nat × α)) (hu : cx.P.underlying t = some (.array len e)) (hsz : (cx.P.info? e).map (·.size) = some (Enc.n α)) (hz : Zt cx.P t v0) (hv : v0.cells = ⟨encs zs⟩)
    (hq : qs.all (fun p => Nat.blt p.1 zs.length) = true) (hx : parts.toList.map (fun a => (a.1, ev cx.n base L a.2)) = qs.map fun p => (p.1, val p.2))
    (h : JG cx md ops Q rest base ((d, .agg ⟨encs (fillA zs qs)⟩) :: L) own ro) : JG cx md ops Q ((⟨some d, .build t parts, ty, pos, aft, none⟩, q) :: rest) base L own ro :=
  qt (fun w _ => by
    have hf := fill_arr qs zs fun p hp => Nat.ble_eq.mp (List.all_eq_true.1 hq p hp)
    have hp2 : (parts.map fun a => (a.1, ev cx.n base L a.2)).toList = qs.map fun p => (p.1, val p.2) := by simpa using hx
    simp only [execOp, Instr.build, Sem.run_bind, run_zero' hz, Result.andThen_ok, run_underlying hu, run_sizeOf' hsz, hv, hp2, hf, Sem.run_pure]) h

theorem Ow.ok_set {α : Type} [Enc α] {o : Ow} {xs : List α} (h : o.ok xs) (i : Nat) (x : α) : o.ok (xs.set i x) :=
  ⟨fun e => by have := h.nl e; simp [this.1, this.2], fun e => by simpa using h.len e, by simpa using h.le⟩

/-- An element of a row of its own, stored. -/
theorem sto {α : Type} [Enc α] {t bk of E : Nat} {o : Ow} {xs : List α} (j i : Nat) (a : α) (hok : o.ok xs) (hx : ev cx.n base L x = .pointer (some ⟨bk, of, none⟩)) (hy : ev cx.n base L y = val a) (hs : own[j]? = some (o.seg xs E))
    (hb : bk = o.b) (ho : of = 0 + i * Enc.n α) (hi : i < xs.length) (ht : Ty cx.P t (Enc.n α) (Enc.ag α))
    (h : Keep md kq rest (own.set j (o.seg (xs.set i a) E)) ro ∧ JG cx md ops Q rest base L (own.set j (o.seg (xs.set i a) E)) ro) :
    JG cx md ops Q ((⟨none, .store t x y, ty, pos, aft, none⟩, kq + 1) :: rest) base L own ro := by
  subst hb
  have hn := Ow.ne hok hi
  have e1 : o.seg (xs.set i a) E = [(o.b, Ck.cells (encs (xs.take i) ++ ((pt a).c ++ (encs (xs.drop (i + 1)) ++ o.sp))) E)] := by
    simp only [Ow.seg, hn, Bool.false_eq_true, if_false]
    rw [List.set_eq_take_append_cons_drop, if_pos hi, encs_append]; simp [encs, pt]
  rw [e1] at h
  refine stg (p := pt a) (old := enc xs[i]) (c := encs xs ++ o.sp) hx hy (by rw [hs]; simp [Ow.seg, hn]) ht ?_ (Enc.len _) ?_ h
  · rw [encs_split xs i hi]; simp
  · rw [encs_length, List.length_take, Nat.min_eq_left (Nat.le_of_lt hi)]; omega

/-- clear of the end of a row of its own. -/
theorem clr {α : Type} [Enc α] {e len cp : Nat} {a : Option Addr} {dst : Option Nat} {o : Ow} {xs : List α} (j l : Nat) (zv : α) (hdst : dst = none) (hok : o.ok xs) (hl : l ≤ xs.length) (hx : ev cx.n base L x = .slice a len cp) (ha : a = (o.vs.sub l (Enc.n α)).adr) (hlen : len = xs.length - l) (hs : own[j]? = some (o.seg xs e))
    (hu : cx.P.underlying xt = some (.slice e)) (hz : Zt cx.P e (val zv))
    (h : Keep md kq rest (own.set j (o.seg (xs.take l ++ List.replicate (xs.length - l) zv) e)) ro ∧ JG cx md ops Q rest base L (own.set j (o.seg (xs.take l ++ List.replicate (xs.length - l) zv) e)) ro) :
    JG cx md ops Q ((⟨dst, .call ⟨.builtin .clear, #[x], #[xt]⟩, ty, pos, aft, none⟩, kq + 1) :: rest) base L own ro :=
  nq (Post := fun L' own' ro' => L' = L ∧ own' = own.set j (o.seg (xs.take l ++ List.replicate (xs.length - l) zv) e) ∧ ro' = ro) rfl
    (fun w K hw hK => by
      subst hdst; subst hlen
      unfold Oper.wp
      rw [A_eval_fun]
      simp only [execOp, resolve, invoke, builtin, List.map_toArray, List.map_cons, List.map_nil, hx, Builtin.clear_, List.getElem?_toArray, List.getElem?_cons_zero, Sem.run_bind, Sem.run_pure, run_underlying hu, Result.andThen_ok]
      by_cases h0 : xs.length - l = 0
      · have e1 : xs.take l ++ List.replicate (xs.length - l) zv = xs := by rw [h0, List.take_of_length_le (by omega)]; simp
        have e2 : own.set j (o.seg (xs.take l ++ List.replicate (xs.length - l) zv) e) = own := by rw [e1]; exact set_self hs
        rw [h0]
        have hfin := hK L _ ro w ⟨rfl, rfl, rfl⟩ (by rw [e2]; exact hw)
        cases a <;> simpa [Oper.upon, A_put_none] using hfin
      · have hne : 0 < xs.length := by omega
        have hn := Ow.ne hok hne
        have hcap : ¬ o.vs.cap = l := fun e => by have h1 : o.cap = l := e; have := hok.le; omega
        have hadr : a = some ⟨o.b, 0 + l * Enc.n α, none⟩ := by
          rw [ha]
          show (if o.nl then (if o.vs.cap = l then o.vs.wa else o.vs.wa.map (·.add (l * Enc.n α))) else some (⟨o.b, if o.vs.cap = l then o.vs.off else o.vs.off + l * Enc.n α, none⟩ : Addr)) = _
          simp only [hn, if_neg hcap, Bool.false_eq_true, if_false]; rfl
        rw [hadr]
        obtain ⟨m, hm⟩ : ∃ m, xs.length - l = m + 1 := ⟨xs.length - l - 1, by omega⟩
        have hvc : (val zv).cells = ⟨enc zv⟩ := (pt zv).cells
        have hzc : (Builtin.zeroCells (val zv).cells (xs.length - l)).toList = encs (List.replicate (xs.length - l) zv) := by
          rw [hvc]
          apply List.ext_getElem
          · simp [Builtin.zeroCells, encs_length, Enc.len]
          · intro i h1 h2
            simp [encs_length] at h2
            have hn0 : 0 < Enc.n α := by
              rcases Nat.eq_zero_or_pos (Enc.n α) with h | h
              · rw [h] at h2; simp at h2
              · exact h
            have hq : i / Enc.n α < xs.length - l := Nat.div_lt_of_lt_mul (by rw [Nat.mul_comm]; exact h2)
            have hr : i % Enc.n α < Enc.n α := Nat.mod_lt _ hn0
            have hsp := encs_split (List.replicate (xs.length - l) zv) (i / Enc.n α) (by simpa using hq)
            have hdm : i = (i / Enc.n α) * Enc.n α + i % Enc.n α := by rw [Nat.mul_comm]; exact (Nat.div_add_mod i _).symm
            have hpre : (encs ((List.replicate (xs.length - l) zv).take (i / Enc.n α))).length = (i / Enc.n α) * Enc.n α := by
              rw [encs_length, List.length_take, List.length_replicate, Nat.min_eq_left (Nat.le_of_lt hq)]
            have hget : (encs (List.replicate (xs.length - l) zv))[i]? = (enc zv)[i % Enc.n α]? := by
              rw [hsp, List.getElem?_append_right (by rw [hpre]; omega), hpre, show i - i / Enc.n α * Enc.n α = i % Enc.n α by omega, List.getElem?_append_left (by rw [Enc.len]; exact hr)]
              simp
            have hlen : (enc zv).length = Enc.n α := Enc.len zv
            have e1 : (encs (List.replicate (xs.length - l) zv))[i] = (enc zv)[i % Enc.n α]'(by omega) := by
              have := hget
              rw [List.getElem?_eq_getElem (by rw [encs_length]; simpa using h2), List.getElem?_eq_getElem (by omega)] at this
              exact Option.some.inj this
            rw [e1]
            simp only [Builtin.zeroCells, Array.getElem_toList, Array.getElem_map, Array.getElem_range, List.size_toArray, hlen]
            rw [getElem!_pos _ _ (by simp [hlen]; exact hr)]
            simp
        have hs' : own[j]? = some [(o.b, .cells (encs xs ++ o.sp) e)] := by rw [hs]; simp [Ow.seg, hn]
        obtain ⟨y', hy', fr, rfl, hfr⟩ := hw.has.o _ (List.mem_of_getElem? hs') (o.b, .cells (encs xs ++ o.sp) e) (List.mem_singleton.2 rfl)
        obtain ⟨w', hr, hh, hold, hsz', hos, htp, hout⟩ := run_stores (P := cx.P) (encs (List.replicate (xs.length - l) zv)) 0 (0 + l * Enc.n α) (encs xs ++ o.sp) w hy' hfr (by
          simp only [encs_length, List.length_replicate, List.length_append, Nat.add_zero, Nat.zero_add, ← Nat.add_mul]
          have : l + (xs.length - l) = xs.length := by omega
          rw [this]; omega) (encs_one _)
        have e1 : List.take (0 + l * Enc.n α + 0) (encs xs ++ o.sp) ++ (encs (List.replicate (xs.length - l) zv) ++ List.drop (0 + l * Enc.n α + 0 + (encs (List.replicate (xs.length - l) zv)).length) (encs xs ++ o.sp)) = encs (xs.take l ++ List.replicate (xs.length - l) zv) ++ o.sp := by
          have hx2 : encs xs = encs (xs.take l) ++ encs (xs.drop l) := by rw [← encs_append, List.take_append_drop]
          have hpl : (encs (xs.take l)).length = l * Enc.n α := by rw [encs_length, List.length_take, Nat.min_eq_left hl]
          have hpd : (encs (xs.drop l)).length = (xs.length - l) * Enc.n α := by rw [encs_length, List.length_drop]
          have hpr : (encs (List.replicate (xs.length - l) zv)).length = (xs.length - l) * Enc.n α := by rw [encs_length, List.length_replicate]
          rw [hpr, Nat.add_zero, Nat.zero_add, encs_append, hx2, ← hpl, ← hpd, List.append_assoc (encs (xs.take l)), List.take_left, ← List.length_append]
          have : List.drop (encs (xs.take l) ++ encs (xs.drop l)).length (encs (xs.take l) ++ (encs (xs.drop l) ++ o.sp)) = o.sp := by
            rw [← List.append_assoc, List.drop_left]
          rw [this, List.append_assoc]
        rw [e1] at hh
        have hfin := hK L _ ro w' ⟨rfl, rfl, rfl⟩ (by
          have e2 : o.seg (xs.take l ++ List.replicate (xs.length - l) zv) e = [(o.b, Ck.cells (encs (xs.take l ++ List.replicate (xs.length - l) zv) ++ o.sp) e)] := by simp [Ow.seg, hn]
          rw [e2]
          refine hw.turn hs' hh ⟨fr, rfl, ?_⟩ hold hsz' hos htp hout
          simp only [encs_append, List.length_append, encs_length, List.length_take, List.length_replicate] at hfr ⊢
          rw [Nat.min_eq_left hl, ← Nat.add_mul, show l + (xs.length - l) = xs.length by omega]
          exact hfr)
        rw [hm] at hzc hr ⊢
        simp only [Sem.run_bind, run_zero' hz, Result.andThen_ok, hzc, hr, Sem.run_pure, Oper.upon]
        exact hfin)
    (by rintro L' own' ro' ⟨rfl, rfl, rfl⟩; exact h.1)
    (by rintro L' own' ro' ⟨rfl, rfl, rfl⟩; exact h.2)
theorem Ow.ok_clr {α : Type} [Enc α] {o : Ow} {xs : List α} (h : o.ok xs) (l : Nat) (hl : l ≤ xs.length) (zv : α) : o.ok (xs.take l ++ List.replicate (xs.length - l) zv) := by
  have e : (xs.take l ++ List.replicate (xs.length - l) zv).length = xs.length := by simp; omega
  exact ⟨fun e1 => by have := h.nl e1; simp [this.1, this.2], fun e1 => by rw [e]; exact h.len e1, by rw [e]; exact h.le⟩
/-- A row cut short: what is behind is no more of it. -/
def Ow.cut {α : Type} [Enc α] (o : Ow) (xs : List α) (l : Nat) : Ow := ⟨o.nl, o.b, o.cap, encs (xs.drop l) ++ o.sp⟩
theorem Ow.cut_ok {α : Type} [Enc α] {o : Ow} {xs : List α} (h : o.ok xs) (l : Nat) (hl : l ≤ xs.length) : (o.cut xs l).ok (xs.take l) :=
  ⟨fun e1 => by have h1 : o.nl = true := e1; have := h.nl h1; simp [Ow.cut, this.1, this.2], fun e1 => by
    have h1 : o.nl = false := e1
    have := h.len h1
    simp only [Ow.cut, List.length_append, encs_length, List.length_drop, List.length_take, Nat.min_eq_left hl]
    rw [← Nat.add_assoc, ← Nat.add_mul, show l + (xs.length - l) = xs.length by omega]; exact this, by have := h.le; simp [Ow.cut]; omega⟩
theorem Ow.cut_seg {α : Type} [Enc α] (o : Ow) (xs : List α) (l E : Nat) : o.seg xs E = (o.cut xs l).seg (xs.take l) E := by
  unfold Ow.seg Ow.cut
  cases o.nl
  · simp only [Bool.false_eq_true, if_false]
    rw [← List.append_assoc, ← encs_append, List.take_append_drop]
  · rfl
end
end Go.PW
