/- The engine: rows made and cut; what is kept, read again; closures; the rest. No condition. -/
import Derived.Test.YthpbiamicidakaaDoorEi
namespace Go.PW
open Enc (enc val)
open Go

section
variable {cx : Cx} {md : Md} {ops : Array Oper} {Q : Exit → Act → World → Prop} {rest : List (Oper × Nat)} {kq : Nat} {base : Nat → Value} {L : List (Nat × Value)} {own ro : List Seg}
variable {q : Nat} {d : Nat} {ty : TypeId} {pos : String} {aft : Array Edge} {x y z : Operand} {xt yt : TypeId}

theorem fill_row {α : Type} [Enc α] : ∀ (ys : List α) (k : Nat) (pre post : List Value), pre.length = k * Enc.n α → post.length = ys.length * Enc.n α →
    Instr.fill (fun i => some (i * Enc.n α, Enc.n α)) ⟨pre ++ post⟩ ((ys.zipIdx k).map fun p => (p.2, val p.1)) = some ⟨pre ++ encs ys⟩
  | [], k, pre, post, _, h2 => by
    have : post = [] := List.length_eq_zero_iff.1 (by simpa using h2)
    subst this; simp [Instr.fill, encs]
  | v :: ys, k, pre, post, h1, h2 => by
    simp only [List.zipIdx_cons, List.map_cons]
    have hp : post = post.take (Enc.n α) ++ post.drop (Enc.n α) := (List.take_append_drop _ _).symm
    have hl : (post.take (Enc.n α)).length = Enc.n α := by simp at h2 ⊢; rw [h2, Nat.add_mul]; omega
    rw [hp]
    have := fill_cons (place := fun i => some (i * Enc.n α, Enc.n α)) (i := k) (o := k * Enc.n α) (n := Enc.n α) (p := pt v) (pre := pre) (old := post.take (Enc.n α)) (post := post.drop (Enc.n α)) (r := (ys.zipIdx (k + 1)).map fun p => (p.2, val p.1)) rfl rfl h1 hl
    have e : (pt v).v = val v := rfl
    rw [e] at this
    rw [this]
    have h3 := fill_row ys (k + 1) (pre ++ enc v) (post.drop (Enc.n α)) (by simp [h1, Enc.len, Nat.add_mul]) (by simp at h2 ⊢; rw [h2, Nat.add_mul]; omega)
    simp only [List.append_assoc] at h3
    show Instr.fill _ ⟨pre ++ (enc v ++ _)⟩ _ = _
    rw [h3]; simp [encs]

/-- A row written out. -/
theorem bsl {α : Type} [Enc α] {t E n : Nat} {parts : Array (Nat × Operand)} {zv : Value} (ys : List α) (hu : cx.P.underlying t = some (.slice E)) (hsz : (cx.P.info? E).map (·.size) = some (Enc.n α)) (hn : n = ys.length) (hsmall : n * Enc.n α ≤ 2 ^ 24) (hz : Zt cx.P E zv)
    (hx : parts.toList.map (fun a => (a.1, ev cx.n base L a.2)) = ys.zipIdx.map fun p => (p.2, val p.1))
    (h : ∀ bk, Keep md kq rest (own ++ [[(bk, .cells (encs ys) E)]]) ro ∧ JG cx md ops Q rest base ((d, .slice (some ⟨bk, 0, none⟩) n n) :: L) (own ++ [[(bk, .cells (encs ys) E)]]) ro) :
    JG cx md ops Q ((⟨some d, .buildSlice t n parts, ty, pos, aft, none⟩, kq + 1) :: rest) base L own ro :=
  nq (Post := fun L' own' ro' => ∃ bk, L' = (d, .slice (some ⟨bk, 0, none⟩) n n) :: L ∧ own' = own ++ [[(bk, .cells (encs ys) E)]] ∧ ro' = ro) rfl
    (fun w K hw hK => by
      subst hn
      have hp2 : (parts.map fun a => (a.1, ev cx.n base L a.2)).toList = ys.zipIdx.map fun p => (p.2, val p.1) := by simpa using hx
      have hf : ∀ zz : Array Value, Instr.fill (fun i => some (i * Enc.n α, Enc.n α)) ((Array.range (ys.length * Enc.n α)).map (zz[· % zz.size]!)) (ys.zipIdx.map fun p => (p.2, val p.1)) = some ⟨encs ys⟩ := fun zz => by
        have := fill_row ys 0 [] ((Array.range (ys.length * Enc.n α)).map (zz[· % zz.size]!)).toList (by simp) (by simp)
        simpa only [List.nil_append, Array.toArray_toList] using this
      unfold Oper.wp
      rw [A_eval_fun]
      simp only [execOp, Instr.buildSlice, Sem.run_bind, run_underlying hu, Result.andThen_ok, run_sizeOf' hsz]
      rw [if_neg (by omega)]
      simp only [hp2]
      by_cases h0 : ys.length * Enc.n α = 0
      all_goals
        first | rw [if_pos h0] | rw [if_neg h0]
        simp only [Sem.run_bind, Sem.run_pure, Result.andThen_ok, run_zero' hz, hf, newRow, newObj, Sem.run, Oper.upon]
        show K ((A cx.n base L).put (some d) _) _
        rw [A_put]
        exact hK _ _ _ _ ⟨w.heap.size, rfl, rfl, rfl⟩ (hw.alloc _ _ ⟨(0, 0), rfl, .inr (Nat.le_refl _)⟩))
    (by rintro L' own' ro' ⟨bk, rfl, rfl, rfl⟩; exact (h bk).1)
    (by rintro L' own' ro' ⟨bk, rfl, rfl, rfl⟩; exact (h bk).2)

/-- make. -/
theorem mks {α : Type} [Enc α] {k1 k2 : IntKind} {t E bytes : Nat} {l c : Int} (zv : α) (n m : Nat) (hx : ev cx.n base L x = .int k1 l) (hy : ev cx.n base L y = .int k2 c) (hl : l = (n : Int)) (hc : c = (m : Int)) (hnm : n ≤ m) (hu : cx.P.underlying t = some (.slice E)) (hsz : (cx.P.info? E).map (·.size) = some (Enc.n α)) (hby : (cx.P.info? E).map (·.bytes) = some bytes)
    (hz : Zt cx.P E (val zv)) (hroom : m * bytes ≤ 140737488355328) (hbytes : Nat.blt 0 bytes = true)
    (h : ∀ bk, Keep md kq rest (own ++ [Ow.seg ⟨false, bk, m, encs (List.replicate (m - n) zv)⟩ (List.replicate n zv) E]) ro ∧
      JG cx md ops Q rest base ((d, .slice (Ow.adr ⟨false, bk, m, encs (List.replicate (m - n) zv)⟩) n m) :: L) (own ++ [Ow.seg ⟨false, bk, m, encs (List.replicate (m - n) zv)⟩ (List.replicate n zv) E]) ro) :
    JG cx md ops Q ((⟨some d, .makeSlice t x y, ty, pos, aft, none⟩, kq + 1) :: rest) base L own ro :=
  nq (Post := fun L' own' ro' => ∃ bk, L' = (d, .slice (Ow.adr ⟨false, bk, m, encs (List.replicate (m - n) zv)⟩) n m) :: L ∧ own' = own ++ [Ow.seg ⟨false, bk, m, encs (List.replicate (m - n) zv)⟩ (List.replicate n zv) E] ∧ ro' = ro) rfl
    (fun w K hw hK => by
      subst hl; subst hc
      have hpos : 0 < bytes := Nat.ble_eq.mp hbytes
      have hm' : m ≤ 140737488355328 := Nat.le_trans (Nat.le_mul_of_pos_right _ hpos) hroom
      have hinf : (typeInfo E).run cx.P w = .ok ((cx.P.info? E).getD default) w := by
        cases hq : cx.P.info? E with
        | none => simp [hq] at hsz
        | some i => simp [typeInfo, hq]
      have hb2 : ((cx.P.info? E).getD default).bytes = bytes := by
        cases hq : cx.P.info? E with
        | none => simp [hq] at hsz
        | some i => simpa [hq] using hby
      have hw1 : IntKind.i64.wrap (n : Int) = n := IntWalk.i64_in _ (by omega)
      have hw2 : IntKind.i64.wrap (m : Int) = m := IntWalk.i64_in _ (by omega)
      have hrow : ∀ zz : Array Value, (m * Enc.n α = 0 ∨ zz = ⟨enc zv⟩) → ((Array.range (m * Enc.n α)).map (zz[· % zz.size]!)) = ⟨encs (List.replicate m zv)⟩ := by
        intro zz hzz
        apply Array.ext'
        apply List.ext_getElem
        · simp [encs_length]
        · intro i h1 h2
          simp [encs_length] at h2
          rcases hzz with h0 | rfl
          · omega
          · have hn0 : 0 < Enc.n α := by
              rcases Nat.eq_zero_or_pos (Enc.n α) with h | h
              · rw [h] at h2; simp at h2
              · exact h
            have hdm : i = (i / Enc.n α) * Enc.n α + i % Enc.n α := by rw [Nat.mul_comm]; exact (Nat.div_add_mod i _).symm
            have hq : i / Enc.n α < m := Nat.div_lt_of_lt_mul (by rw [Nat.mul_comm]; exact h2)
            have hr : i % Enc.n α < Enc.n α := Nat.mod_lt _ hn0
            have hsp := encs_split (List.replicate m zv) (i / Enc.n α) (by simpa using hq)
            have hpre : (encs ((List.replicate m zv).take (i / Enc.n α))).length = (i / Enc.n α) * Enc.n α := by
              rw [encs_length, List.length_take, List.length_replicate, Nat.min_eq_left (Nat.le_of_lt hq)]
            have hget : (encs (List.replicate m zv))[i]? = (enc zv)[i % Enc.n α]? := by
              rw [hsp, List.getElem?_append_right (by rw [hpre]; omega), hpre, show i - i / Enc.n α * Enc.n α = i % Enc.n α by omega, List.getElem?_append_left (by rw [Enc.len]; exact hr)]
              simp
            have hlen : (enc zv).length = Enc.n α := Enc.len zv
            have e1 : (encs (List.replicate m zv))[i] = (enc zv)[i % Enc.n α]'(by omega) := by
              have := hget
              rw [List.getElem?_eq_getElem (by rw [encs_length]; simpa using h2), List.getElem?_eq_getElem (by omega)] at this
              exact Option.some.inj this
            simp only [Array.getElem_toList, Array.getElem_map, Array.getElem_range, e1]
            simp only [List.size_toArray, hlen]
            rw [getElem!_pos _ _ (by simp [hlen]; exact hr)]
            simp
      have hvc : (val zv).cells = ⟨enc zv⟩ := (pt zv).cells
      have hre : (List.replicate n zv ++ List.replicate (m - n) zv) = List.replicate m zv := by rw [List.replicate_append_replicate]; congr 1; omega
      have hbig : ¬ ((bytes : Int) * (m : Int) > 2 ^ 48) := by
        have : (bytes : Int) * (m : Int) = ((m * bytes : Nat) : Int) := by rw [Nat.mul_comm]; simp
        rw [this]; omega
      unfold Oper.wp
      rw [A_eval_fun]
      simp only [execOp, Instr.makeSlice, hx, hy, asInt, asIntOf, Sem.run_bind, run_underlying hu, Result.andThen_ok, Sem.run_pure, hinf, hb2, hw1, hw2]
      rw [if_neg (by simp only [Bool.or_eq_true, decide_eq_true_eq]; omega)]
      simp only [Sem.run_bind, run_askRoom, Result.andThen_ok, run_sizeOf' hsz, Int.toNat_natCast]
      have e2 : Ow.seg ⟨false, w.heap.size, m, encs (List.replicate (m - n) zv)⟩ (List.replicate n zv) E = [(w.heap.size, Ck.cells (encs (List.replicate m zv)) E)] := by
        simp only [Ow.seg, Bool.false_eq_true, if_false, ← encs_append, hre]
      by_cases h0 : m * Enc.n α = 0
      · rw [if_pos h0]
        have hrw := hrow #[] (.inl h0)
        simp only [Sem.run_bind, Sem.run_pure, Result.andThen_ok, hrw, newRow, newObj, Sem.run, Oper.upon]
        show K ((A cx.n base L).put (some d) _) _
        rw [A_put]
        refine hK _ _ _ _ ⟨w.heap.size, rfl, rfl, rfl⟩ ?_
        rw [e2]
        exact hw.alloc _ _ ⟨(0, 0), rfl, .inr (Nat.le_refl _)⟩
      · rw [if_neg h0]
        have hrw := hrow _ (.inr hvc)
        simp only [Sem.run_bind, Sem.run_pure, Result.andThen_ok, run_zero' hz, hrw, newRow, newObj, Sem.run, Oper.upon]
        show K ((A cx.n base L).put (some d) _) _
        rw [A_put]
        refine hK _ _ _ _ ⟨w.heap.size, rfl, rfl, rfl⟩ ?_
        rw [e2]
        exact hw.alloc _ _ ⟨(0, 0), rfl, .inr (Nat.le_refl _)⟩)
    (by rintro L' own' ro' ⟨bk, rfl, rfl, rfl⟩; exact (h bk).1)
    (by rintro L' own' ro' ⟨bk, rfl, rfl, rfl⟩; exact (h bk).2)
theorem mks_ok {α : Type} [Enc α] (zv : α) (bk n m : Nat) (h : n ≤ m) : Ow.ok ⟨false, bk, m, encs (List.replicate (m - n) zv)⟩ (List.replicate n zv) := ⟨by simp, fun _ => by simp only [encs_length, List.length_replicate, ← Nat.add_mul]; congr 1; omega, by simpa⟩

/-! cutting -/
def Vs.sub (s : Vs) (l n : Nat) : Vs := ⟨s.nl, s.b, if s.cap = l then s.off else s.off + l * n, s.cap - l, if s.cap = l then s.wa else s.wa.map (·.add (l * n))⟩
theorem Vs.sub_adr (s : Vs) (l n : Nat) : (if s.cap = l then s.adr else s.adr.map (·.add (l * n))) = (s.sub l n).adr := by
  unfold Vs.adr Vs.sub
  cases s.nl <;> simp
  split <;> simp [add_none]
theorem Vs.sub_ok {α : Type} {s : Vs} {xs : List α} (h : s.ok xs) (l m n : Nat) (hm : m ≤ xs.length - l) : (s.sub l n).ok ((xs.drop l).take m) := ⟨fun e => by have := h.nl e; subst this; simp, by have := h.le; simp [Vs.sub]; omega⟩
theorem Vs.sub_impl {α : Type} [Enc α] {s : Vs} {xs : List α} (h : s.ok xs) (l m : Nat) (hm : l + m ≤ xs.length) {src : List Seg} (j : Nat) (hs : src[j]? = some (s.seg xs)) : Impl src [(s.sub l (Enc.n α)).seg ((xs.drop l).take m)] := by
  intro t ht p hp
  rw [List.mem_singleton] at ht; subst ht
  cases hn : s.nl with
  | true => simp [Vs.seg, Vs.sub, hn] at hp
  | false =>
    simp only [Vs.seg, Vs.sub, hn, Bool.false_eq_true, if_false, List.mem_singleton] at hp
    subst hp
    have hs' : src[j]? = some [(s.b, .view s.off (encs xs))] := by rw [hs]; simp [Vs.seg, hn]
    refine ⟨_, List.mem_of_getElem? hs', (s.b, .view s.off (encs xs)), List.mem_singleton.2 rfl, rfl, ?_⟩
    rintro o ⟨c, E, fr, rfl, hv⟩
    refine ⟨c, E, fr, rfl, fun i v hiv => ?_⟩
    have hi : i < (encs ((xs.drop l).take m)).length := (List.getElem?_eq_some_iff.1 hiv).1
    have hlen : ((xs.drop l).take m).length = m := by simp; omega
    rw [encs_length, hlen] at hi
    have hle := h.le
    have hne : s.cap ≠ l := by
      intro e
      have : m = 0 := by omega
      subst this; simp at hi
    rw [if_neg hne]
    have hx : encs xs = encs (xs.take l) ++ (encs ((xs.drop l).take m) ++ encs ((xs.drop l).drop m)) := by
      rw [← encs_append, ← encs_append, List.take_append_drop, List.take_append_drop]
    have := hv (l * Enc.n α + i) v (by
      rw [hx, List.getElem?_append_right (by rw [encs_length, List.length_take, Nat.min_eq_left (by omega)]; omega), encs_length, List.length_take, Nat.min_eq_left (by omega), Nat.add_sub_cancel_left, List.getElem?_append_left (by rw [encs_length, hlen]; exact hi)]
      exact hiv)
    rw [Nat.add_assoc]; exact this

def bnd (cx : Cx) (base : Nat → Value) (L : List (Nat × Value)) (x : Option Operand) (dflt n : Nat) : Prop := match x with | none => dflt = n | some o => ∃ k, ev cx.n base L o = .int k (n : Int)

theorem run_bounds {P : Program} {w : World} {len cap l h : Nat} {lo hi : Option Value} (hlo : match lo with | none => l = 0 | some v => ∃ k, v = .int k (l : Int)) (hhi : match hi with | none => h = len | some v => ∃ k, v = .int k (h : Int)) (hlh : l ≤ h) (hc : h ≤ cap) (hlc : len ≤ cap) :
    (Instr.sliceBounds true len cap lo hi none).run P w = .ok (l, h, cap) w := by
  have hb : ∀ (k : IntKind) (n y : Nat) (cd : BoundsCode), n ≤ y → (Instr.sliceBound (.int k (n : Int)) y cd).run P w = .ok n w := fun k n y cd h => by
    simp [Instr.sliceBound, asIntOf, h]
  unfold Instr.sliceBounds
  cases hi with
  | none =>
    dsimp only at hhi; subst hhi
    cases lo with
    | none => dsimp only at hlo; subst hlo; rfl
    | some v =>
      obtain ⟨k, rfl⟩ := hlo
      simp only [Sem.run_bind, Sem.run_pure, Result.andThen_ok, hb k l h _ hlh]
  | some u =>
    obtain ⟨k', rfl⟩ := hhi
    cases lo with
    | none => dsimp only at hlo; subst hlo; simp only [Sem.run_bind, Sem.run_pure, Result.andThen_ok, hb k' h cap _ hc]
    | some v =>
      obtain ⟨k, rfl⟩ := hlo
      simp only [Sem.run_bind, Sem.run_pure, Result.andThen_ok, hb k' h cap _ hc, hb k l h _ hlh]

/-- A slice of a slice. -/
theorem sli {e n : Nat} {len : Nat} {lo hi : Option Operand} (s : Vs) (l h : Nat) (hx : ev cx.n base L x = .slice s.adr len s.cap) (hu : cx.P.underlying xt = some (.slice e)) (hsz : (cx.P.info? e).map (·.size) = some n)
    (hlo : match lo with | none => l = 0 | some o => ∃ k, ev cx.n base L o = .int k (l : Int)) (hhi : match hi with | none => h = len | some o => ∃ k, ev cx.n base L o = .int k (h : Int)) (hlh : l ≤ h) (hc : h ≤ s.cap) (hlc : len ≤ s.cap)
    (hr : JG cx md ops Q rest base ((d, .slice (s.sub l n).adr (h - l) (s.sub l n).cap) :: L) own ro) : JG cx md ops Q ((⟨some d, .slice xt x lo hi none, ty, pos, aft, none⟩, q) :: rest) base L own ro :=
  qt (fun w _ => by
    have hb := run_bounds (P := cx.P) (w := w) (len := len) (cap := s.cap) (l := l) (h := h) (lo := lo.map (ev cx.n base L)) (hi := hi.map (ev cx.n base L)) (by cases lo <;> simpa using hlo) (by cases hi <;> simpa using hhi) hlh hc hlc
    simp only [execOp, hx, Instr.sliceAt, Sem.run_bind, run_underlying hu, Result.andThen_ok, Instr.slice, Option.map_none, hb, run_sizeOf' hsz, Sem.run_pure, Vs.sub_adr]
    rfl) hr

/-- An element of a slice that was cut out of one that is only read. -/
theorem ldsub {α : Type} [Enc α] {t bk o : Nat} {s : Vs} {xs : List α} (j l i : Nat) (hok : s.ok xs) (hx : ev cx.n base L x = .pointer (some ⟨bk, o, none⟩)) (hs : (Src md q own ro)[j]? = some (s.seg xs))
    (hb : bk = (s.sub l (Enc.n α)).b) (ho : o = (s.sub l (Enc.n α)).off + i * Enc.n α) (hi : l + i < xs.length) (ht : Ty cx.P t (Enc.n α) (Enc.ag α))
    (h : JG cx md ops Q rest base ((d, val xs[l + i]) :: L) own ro) : JG cx md ops Q ((⟨some d, .load t x, ty, pos, aft, none⟩, q) :: rest) base L own ro := by
  have hle := hok.le
  refine ldvs j (l + i) hok hx hs hb ?_ hi ht h
  rw [ho]; simp only [Vs.sub]
  rw [if_neg (by omega), Nat.add_mul]; omega
theorem ldsubo {α : Type} [Enc α] {t bk o E : Nat} {s : Ow} {xs : List α} (j l i : Nat) (hok : s.ok xs) (hx : ev cx.n base L x = .pointer (some ⟨bk, o, none⟩)) (hs : (Src md q own ro)[j]? = some (s.seg xs E))
    (hb : bk = (s.vs.sub l (Enc.n α)).b) (ho : o = (s.vs.sub l (Enc.n α)).off + i * Enc.n α) (hi : l + i < xs.length) (ht : Ty cx.P t (Enc.n α) (Enc.ag α))
    (h : JG cx md ops Q rest base ((d, val xs[l + i]) :: L) own ro) : JG cx md ops Q ((⟨some d, .load t x, ty, pos, aft, none⟩, q) :: rest) base L own ro := by
  have hle := hok.le
  refine ldso j (l + i) hok hx hs hb ?_ hi ht h
  rw [ho]
  show (if s.vs.cap = l then s.vs.off else s.vs.off + l * Enc.n α) + i * Enc.n α = _
  have hne : ¬ s.vs.cap = l := fun e => by have : s.cap = l := e; omega
  rw [if_neg hne]
  show 0 + l * Enc.n α + i * Enc.n α = _
  rw [Nat.add_mul]; omega

/-! closures, externs, values in interfaces -/
theorem mkf {fnv : Fn} {fs cs : Array Operand} (vs : List Value) (hf : fs.toList.map (ev cx.n base L) = []) (hc : cs.toList.map (ev cx.n base L) = vs) (h : JG cx md ops Q rest base ((d, .func fnv #[] ⟨vs⟩) :: L) own ro) : JG cx md ops Q ((⟨some d, .makeFunc fnv fs cs, ty, pos, aft, none⟩, q) :: rest) base L own ro :=
  qt (fun w _ => by
    have h1 : fs.map (ev cx.n base L) = #[] := by apply Array.ext'; simpa using hf
    have h2 : cs.map (ev cx.n base L) = ⟨vs⟩ := by apply Array.ext'; simpa using hc
    simp only [execOp, Instr.makeFunc, h1, h2, Sem.run_bind, Sem.run_pure, Result.andThen_ok]) h
theorem mki {t : Nat} {v : Value} {ds : TypeDesc} (hx : ev cx.n base L x = v) (hu : cx.P.underlying t = some ds) (hd : (match ds with | .interface _ => true | _ => false) = false) (h : JG cx md ops Q rest base ((d, .iface t v) :: L) own ro) : JG cx md ops Q ((⟨some d, .makeInterface t x, ty, pos, aft, none⟩, q) :: rest) base L own ro :=
  qt (fun w _ => by
    simp only [execOp, hx, Instr.makeInterface, Sem.run_bind, run_underlying hu, Result.andThen_ok]
    cases ds <;> simp at hd <;> rfl) h
/-- An assertion to a type that is no interface, and that it has. -/
theorem tas {t a : Nat} {v : Value} {ds : TypeDesc} (hx : ev cx.n base L x = .iface a v) (hu : cx.P.underlying a = some ds) (hd : (match ds with | .interface _ => true | _ => false) = false) (h : JG cx md ops Q rest base ((d, v) :: L) own ro) : JG cx md ops Q ((⟨some d, .typeAssert x t a false, ty, pos, aft, none⟩, q) :: rest) base L own ro :=
  qt (fun w _ => by
    simp only [execOp, hx, Instr.typeAssert, Sem.run_bind, run_underlying hu, Result.andThen_ok]
    cases ds <;> simp at hd <;> simp) h

/-- A call of a function value: a function and what it captured. -/
theorem calv {f : Nat} {g : Operand} {cap : List Value} {xs : Array Operand} {ts : Array TypeId} {args : List Value} {ownC roC : List Seg} {post : Value → List Seg → List Seg → Prop} (hct : Ct cx.P f args ownC roC post) (hg : ev cx.n base L g = .func (.func f) #[] ⟨cap⟩)
    (io jo : List Nat) (R : List Seg) (hR : R.map some = jo.map fun i => own[i]?) (hx : xs.toList.map (ev cx.n base L) ++ cap = args) (hio : ownC.map some = io.map fun i => own[i]?) (perm : (io ++ jo).isPerm (List.range own.length) = true) (hi : Impl (ro ++ R) roC) (hz : Nat.ble cx.z.N0 ro.length = true)
    (h : ∀ v own' ro', post v own' ro' → Keep md kq rest (R ++ own') (ro ++ ro') ∧ JG cx md ops Q rest base ((d, v) :: L) (R ++ own') (ro ++ ro')) :
    JG cx md ops Q ((⟨some d, .call ⟨.value g, xs, ts⟩, ty, pos, aft, none⟩, kq + 1) :: rest) base L own ro := by
  obtain rfl := pick_of hR
  exact nq (Post := fun L' o r => ∃ v own' ro', post v own' ro' ∧ L' = (d, v) :: L ∧ o = pick jo own ++ own' ∧ r = ro ++ ro') rfl
    (fun w K hw hK => by
      have hpm : (ownC ++ pick jo own).Perm own := by
        have := pick_perm (own := own) perm
        obtain rfl := pick_of hio; simpa [pick] using this
      have hR : ∀ s ∈ pick jo own, s ∈ own := fun s hs => (hpm.mem_iff).1 (List.mem_append.2 (.inr hs))
      have hC : ∀ s ∈ ownC, s ∈ own := fun s hs => (hpm.mem_iff).1 (List.mem_append.2 (.inl hs))
      have hb := blks_perm hpm
      rw [blks_append] at hb
      have hnd := List.nodup_append.1 ((hb.nodup_iff).2 hw.has.nd)
      have hhas : Has w ownC roC := ⟨fun s hs => hw.has.o s (hC s hs), hw.has.impl hR hi, hnd.1, fun b h1 h2 => by
        obtain ⟨s, hs, p, hps, rfl⟩ := mem_blks.1 h2
        obtain ⟨s', hs', p', hp', e, _⟩ := hi s hs p hps
        rw [← e] at h1
        rcases List.mem_append.1 hs' with h3 | h3
        · exact hw.has.dj _ ((hb.mem_iff).1 (List.mem_append.2 (.inl h1))) (mem_blks.2 ⟨s', h3, p', hp', rfl⟩)
        · exact hnd.2.2 _ h1 _ (mem_blks.2 ⟨s', h3, p', hp', rfl⟩) rfl⟩
      have hargs : xs.map (ev cx.n base L) ++ ⟨cap⟩ = (⟨args⟩ : Array Value) := by
        apply Array.ext'
        simp [← hx]
      unfold Oper.wp
      rw [A_eval_fun]
      simp only [execOp, resolve, hg, Deferred.ofValue, Sem.run_bind, Sem.run_pure, Result.andThen_ok, invoke, Array.empty_append, hargs, run_callFunc hct.1, Oper.upon]
      refine (hct.2 w hhas).mono ?_
      rintro e w' ⟨v, own', ro', rfl, hpost, hin⟩
      show K ((A cx.n base L).put (some d) v) w'
      rw [A_put]
      exact hK _ _ _ _ ⟨v, own', ro', hpost, rfl, rfl, rfl⟩ (hw.call hpm hi hin (Nat.ble_eq.mp hz)))
    (by rintro L' o r ⟨v, own', ro', hpost, rfl, rfl, rfl⟩; exact (h v own' ro' hpost).1)
    (by rintro L' o r ⟨v, own', ro', hpost, rfl, rfl, rfl⟩; exact (h v own' ro' hpost).2)

/-- maps.clone, the runtime's own. -/
theorem mcl {α β : Type} [Enc α] [Enc β] {f t bk : Nat} {fn : Func} {xs : Operand} {ts : Array TypeId} (j : Nat) (kv : List (α × β)) (hf : cx.P.funcs[f]? = some fn) (hname : (fn.name == "runtime.NumGoroutine") = false) (hb : fn.body.isNone = true) (he : (match Extern.findNext fn with | some _ => false | none => true) = true)
    (hfind : ∀ a w, (match Extern.find fn with | some e => (e a).run cx.P w | none => .ok undef w) = (Extern.MapsClone.clone a).run cx.P w) (hsome : (Extern.find fn).isSome = true)
    (hx : ev cx.n base L xs = .iface t (.map (some bk))) (hs : (own ++ ro)[j]? = some [(bk, .pred (isMap kv))])
    (h : ∀ b', Keep md kq rest (own ++ [[(b', .pred (isMap kv))]]) ro ∧ JG cx md ops Q rest base ((d, .iface t (.map (some b'))) :: L) (own ++ [[(b', .pred (isMap kv))]]) ro) :
    JG cx md ops Q ((⟨some d, .call ⟨.value (.func f), #[xs], ts⟩, ty, pos, aft, none⟩, kq + 1) :: rest) base L own ro :=
  nq (Post := fun L' own' ro' => ∃ b', L' = (d, .iface t (.map (some b'))) :: L ∧ own' = own ++ [[(b', .pred (isMap kv))]] ∧ ro' = ro) rfl
    (fun w K hw hK => by
      obtain ⟨o, ho, ⟨es, clock, rfl, hkv, hbn⟩, hc⟩ := hw.src _ (List.mem_of_getElem? hs) _ (List.mem_singleton.2 rfl)
      obtain ⟨e, hee⟩ := Option.isSome_iff_exists.1 hsome
      have hrun : (e #[.iface t (.map (some bk))]).run cx.P w = .ok (.iface t (.map (some w.heap.size))) (w.alloc (.map ⟨es⟩ clock)) := by
        have := hfind #[.iface t (.map (some bk))] w
        rw [hee] at this
        dsimp only at this
        rw [this]
        have e0 : Extern.MapsClone.clone #[.iface t (.map (some bk))] = (getObj bk >>= fun o => match o with | .map entries clock => (do pure (.iface t (.map (some (← newObj (.map entries clock)))))) | _ => stuck "maps.clone: a map expected") := rfl
        rw [e0]
        simp only [Sem.run_bind, run_getMap ho hc, Result.andThen_ok, newObj, Sem.run, Sem.run_pure]
        rfl
      have hnext : Extern.findNext fn = none := by
        cases hn : Extern.findNext fn with
        | none => rfl
        | some _ => rw [hn] at he; simp at he
      have hcf : (callFunc f #[.iface t (.map (some bk))]).run cx.P w = .ok (.value (.iface t (.map (some w.heap.size)))) (w.alloc (.map ⟨es⟩ clock)) := by
        simp only [callFunc, Sem.run_bind, run_program, Result.andThen_ok, hf, hname, hb, Bool.false_eq_true, if_false, if_true, mark, Sem.run, hnext, hee, hrun, Sem.run_pure]
      have hfv : ev cx.n base L (.func f) = .func (.func f) #[] #[] := rfl
      unfold Oper.wp
      rw [A_eval_fun]
      simp only [execOp, resolve, hfv, Deferred.ofValue, List.map_toArray, List.map_cons, List.map_nil, hx, Sem.run_bind, Sem.run_pure, Result.andThen_ok, invoke, Array.append_empty, Array.empty_append, hcf, Oper.upon]
      show K ((A cx.n base L).put (some d) _) _
      rw [A_put]
      exact hK _ _ _ _ ⟨w.heap.size, rfl, rfl, rfl⟩ (hw.alloc _ _ ⟨⟨es, clock, rfl, hkv, hbn⟩, rfl⟩))
    (by rintro L' own' ro' ⟨bk, rfl, rfl, rfl⟩; exact (h bk).1)
    (by rintro L' own' ro' ⟨bk, rfl, rfl, rfl⟩; exact (h bk).2)

/-! an empty segment, for a row that is still nil -/
theorem In.addE {z : Zt0} {own ro : List Seg} {w : World} (h : In z own ro w) : In z (own ++ [[]]) ro w := by
  have hb : blks (own ++ [[]]) = blks own := by simp [blks]
  refine ⟨⟨fun s hs => ?_, h.has.r, by rw [hb]; exact h.has.nd, by rw [hb]; exact h.has.dj⟩, h.ext, by rw [hb]; exact h.fr, h.rf⟩
  rcases List.mem_append.1 hs with h1 | h1
  · exact h.has.o s h1
  · rw [List.mem_singleton] at h1; subst h1; intro p hp; cases hp
theorem c_addE {Q0 : Exit → Act → World → Prop} {st : List Fr} {c : Code} (h : JC cx c Q0 st base L (own ++ [[]]) ro) : JC cx c Q0 st base L own ro := JC.mk fun w hw => h.out w hw.addE
/-- Segments let go. -/
theorem In.drop {z : Zt0} {own own' dr ro : List Seg} {w : World} (h : In z own ro w) (hp : (own' ++ dr).Perm own) : In z own' ro w := by
  have hb := blks_perm hp
  rw [blks_append] at hb
  exact ⟨h.has.sub hp fun s hs p hp => ⟨s, List.mem_append.2 (.inl hs), p, hp, rfl, fun _ h => h⟩, h.ext, fun b hb' => h.fr b ((hb.mem_iff).1 (List.mem_append.2 (.inl hb'))), h.rf⟩
theorem c_keep {Q0 : Exit → Act → World → Prop} {st : List Fr} {c : Code} (io jo : List Nat) (ow : List Seg) (how : ow.map some = io.map fun i => own[i]?) (perm : (io ++ jo).isPerm (List.range own.length) = true) (h : JC cx c Q0 st base L ow ro) : JC cx c Q0 st base L own ro := JC.mk fun w hw =>
  h.out w (hw.drop (dr := pick jo own) (by obtain rfl := pick_of how; have := pick_perm (own := own) perm; simpa [pick] using this))
theorem e_keep {Q0 : Exit → Act → World → Prop} {st : List Fr} {e : Exit} (io jo : List Nat) (ow : List Seg) (how : ow.map some = io.map fun i => own[i]?) (perm : (io ++ jo).isPerm (List.range own.length) = true) (h : JE cx e Q0 st base L ow ro) : JE cx e Q0 st base L own ro := JE.mk fun w hw =>
  h.out w (hw.drop (dr := pick jo own) (by obtain rfl := pick_of how; have := pick_perm (own := own) perm; simpa [pick] using this))

/-! min, max; slices and maps held against nil -/
theorem mx2 {k : IntKind} {a b : Int} {ts : Array TypeId} (hx : ev cx.n base L x = .int k a) (hy : ev cx.n base L y = .int k b) (h : JG cx md ops Q rest base ((d, .int k (max a b)) :: L) own ro) : JG cx md ops Q ((⟨some d, .call ⟨.builtin .max, #[x, y], ts⟩, ty, pos, aft, none⟩, q) :: rest) base L own ro :=
  qt (fun w _ => by
    simp only [execOp, resolve, invoke, builtin, List.map_toArray, List.map_cons, List.map_nil, hx, hy, Sem.run_bind, Sem.run_pure, Result.andThen_ok, Builtin.max_, List.foldlM_cons, List.foldlM_nil, Builtin.max2]
    have : (if a < b then b else a) = max a b := by omega
    simp [this]) h
theorem mn2 {k : IntKind} {a b : Int} {ts : Array TypeId} (hx : ev cx.n base L x = .int k a) (hy : ev cx.n base L y = .int k b) (h : JG cx md ops Q rest base ((d, .int k (min a b)) :: L) own ro) : JG cx md ops Q ((⟨some d, .call ⟨.builtin .min, #[x, y], ts⟩, ty, pos, aft, none⟩, q) :: rest) base L own ro :=
  qt (fun w _ => by
    simp only [execOp, resolve, invoke, builtin, List.map_toArray, List.map_cons, List.map_nil, hx, hy, Sem.run_bind, Sem.run_pure, Result.andThen_ok, Builtin.min_, List.foldlM_cons, List.foldlM_nil, Builtin.min2]
    have : (if b < a then b else a) = min a b := by omega
    simp [this]) h
theorem run_eq_slice_nil {P : Program} {w : World} {t e l c l' c' : Nat} {a : Option Addr} (n : Nat) (hu : P.underlying t = some (.slice e)) : (Op.equalIn (n + 1) t (.slice a l c) (.slice none l' c')).run P w = .ok a.isNone w := by
  cases a <;> simp [Op.equalIn, run_underlying hu]
theorem eqsn {a : Option Addr} {e l c l' c' : Nat} {op : BinOp} (r : Bool) (hx : ev cx.n base L x = .slice a l c) (hy : ev cx.n base L y = .slice none l' c') (hu : cx.P.underlying xt = some (.slice e))
    (hr : (match op with | .eql => some a.isNone | .neq => some !a.isNone | _ => none) = some r)
    (h : JG cx md ops Q rest base ((d, .bool r) :: L) own ro) : JG cx md ops Q ((⟨some d, .binOp op xt x y yt, ty, pos, aft, none⟩, q) :: rest) base L own ro :=
  qt (fun w _ => by
    have h0 : ∀ op, eqGuard op xt x y (.slice a l c) (.slice none l' c') = pure () := fun op => eqGuard_at_slice ..
    have h1 : binOp .eql xt (.slice a l c) (.slice none l' c') = (do pure (.bool (← Op.equalIn (9999 + 1) xt (.slice a l c) (.slice none l' c')))) := by cases a <;> rfl
    have h2 : binOp .neq xt (.slice a l c) (.slice none l' c') = (do pure (.bool (!(← Op.equalIn (9999 + 1) xt (.slice a l c) (.slice none l' c'))))) := by cases a <;> rfl
    cases op <;> dsimp only at hr <;> cases hr
    · simp only [execOp, hx, hy, h0, h1, Sem.run_bind, Sem.run_pure, Result.andThen_ok, run_eq_slice_nil 9999 hu]
    · simp only [execOp, hx, hy, h0, h2, Sem.run_bind, Sem.run_pure, Result.andThen_ok, run_eq_slice_nil 9999 hu]) h
theorem run_eq_map_nil {P : Program} {w : World} {t k e : Nat} {a : Option Nat} (n : Nat) (hu : P.underlying t = some (.map k e)) : (Op.equalIn (n + 1) t (.map a) (.map none)).run P w = .ok a.isNone w := by
  cases a <;> simp [Op.equalIn, run_underlying hu]
theorem eqmn {a : Option Nat} {k e : Nat} {op : BinOp} (r : Bool) (hx : ev cx.n base L x = .map a) (hy : ev cx.n base L y = .map none) (hu : cx.P.underlying xt = some (.map k e))
    (hr : (match op with | .eql => some a.isNone | .neq => some !a.isNone | _ => none) = some r)
    (h : JG cx md ops Q rest base ((d, .bool r) :: L) own ro) : JG cx md ops Q ((⟨some d, .binOp op xt x y yt, ty, pos, aft, none⟩, q) :: rest) base L own ro :=
  qt (fun w _ => by
    have h0 : ∀ op, eqGuard op xt x y (.map a) (.map none) = pure () := fun op => eqGuard_at_map ..
    have h1 : binOp .eql xt (.map a) (.map none) = (do pure (.bool (← Op.equalIn (9999 + 1) xt (.map a) (.map none)))) := by cases a <;> rfl
    have h2 : binOp .neq xt (.map a) (.map none) = (do pure (.bool (!(← Op.equalIn (9999 + 1) xt (.map a) (.map none))))) := by cases a <;> rfl
    cases op <;> dsimp only at hr <;> cases hr
    · simp only [execOp, hx, hy, h0, h1, Sem.run_bind, Sem.run_pure, Result.andThen_ok, run_eq_map_nil 9999 hu]
    · simp only [execOp, hx, hy, h0, h2, Sem.run_bind, Sem.run_pure, Result.andThen_ok, run_eq_map_nil 9999 hu]) h

/-- typed numbers held against each other -/
theorem equ32 {a b : UInt32} {op : BinOp} (r : Bool) (hx : ev cx.n base L x = .int .u32 a.toNat) (hy : ev cx.n base L y = .int .u32 b.toNat) (hr : (match op with | .eql => some (decide (a = b)) | .neq => some !(decide (a = b)) | _ => none) = some r)
    (h : JG cx md ops Q rest base ((d, .bool r) :: L) own ro) : JG cx md ops Q ((⟨some d, .binOp op xt x y yt, ty, pos, aft, none⟩, q) :: rest) base L own ro :=
  have e : decide (((a.toNat : Nat) : Int) = ((b.toNat : Nat) : Int)) = decide (a = b) := by rw [Bool.eq_iff_iff]; simp [← UInt32.toNat_inj]; omega
  cmp r hx hy (by cases op <;> dsimp only at hr <;> first | (cases hr; simp only [cmpV, e]) | cases hr) h
theorem equ8 {a b : UInt8} {op : BinOp} (r : Bool) (hx : ev cx.n base L x = .int .u8 a.toNat) (hy : ev cx.n base L y = .int .u8 b.toNat) (hr : (match op with | .eql => some (decide (a = b)) | .neq => some !(decide (a = b)) | _ => none) = some r)
    (h : JG cx md ops Q rest base ((d, .bool r) :: L) own ro) : JG cx md ops Q ((⟨some d, .binOp op xt x y yt, ty, pos, aft, none⟩, q) :: rest) base L own ro :=
  have e : decide (((a.toNat : Nat) : Int) = ((b.toNat : Nat) : Int)) = decide (a = b) := by rw [Bool.eq_iff_iff]; simp [← UInt8.toNat_inj]; omega
  cmp r hx hy (by cases op <;> dsimp only at hr <;> first | (cases hr; simp only [cmpV, e]) | cases hr) h
theorem equ64 {a b : UInt64} {op : BinOp} (r : Bool) (hx : ev cx.n base L x = .int .u64 a.toNat) (hy : ev cx.n base L y = .int .u64 b.toNat) (hr : (match op with | .eql => some (decide (a = b)) | .neq => some !(decide (a = b)) | _ => none) = some r)
    (h : JG cx md ops Q rest base ((d, .bool r) :: L) own ro) : JG cx md ops Q ((⟨some d, .binOp op xt x y yt, ty, pos, aft, none⟩, q) :: rest) base L own ro :=
  have e : decide (((a.toNat : Nat) : Int) = ((b.toNat : Nat) : Int)) = decide (a = b) := by rw [Bool.eq_iff_iff]; simp [← UInt64.toNat_inj]; omega
  cmp r hx hy (by cases op <;> dsimp only at hr <;> first | (cases hr; simp only [cmpV, e]) | cases hr) h
end
end Go.PW
