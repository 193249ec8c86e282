/- The engine: aggregates built, compared. No condition. -/
import Derived.Test.YthpbiamicidakaaDoorEf
import Derived.ChangeKeysEq
namespace Go.PW
open Enc (enc val)
open Go

section
variable {P : Program} {w : World}

theorem run_part {t o : Nat} {p : Pt} {pre post : List Value} (ht : Ty P t p.n p.ag) (ho : pre.length = o) : (part t ⟨pre ++ (p.c ++ post)⟩ o).run P w = .ok p.v w := by
  obtain ⟨n, c, v, ag, len, hv, one⟩ := p
  subst ho; subst len
  simp only [part, Sem.run_bind, run_isAgg' ht.ag, Result.andThen_ok]
  rcases hv with ⟨rfl, rfl⟩ | ⟨rfl, rfl⟩
  · simp only [if_true, Sem.run_bind, run_sizeOf' ht.sz, Result.andThen_ok, Sem.run_pure]
    congr 2
    apply Array.ext'
    simp [List.take_append]
  · simp

theorem run_part_encs {α : Type} [Enc α] {t i : Nat} {xs : List α} (ht : Ty P t (Enc.n α) (Enc.ag α)) (hi : i < xs.length) : (part t ⟨encs xs⟩ (i * Enc.n α)).run P w = .ok (val xs[i]) w := by
  rw [encs_split xs i hi]
  exact run_part (p := pt xs[i]) ht (by rw [encs_length, List.length_take, Nat.min_eq_left (Nat.le_of_lt hi)])

def EqT (P : Program) (t k : Nat) (α : Type) [Enc α] [DecidableEq α] : Prop := ∀ (d : Nat) (x y : α) (w : World), (Op.equalIn (d + k) t (val x) (val y)).run P w = .ok (decide (x = y)) w

theorem eqT_u8 {t} (h : P.underlying t = some (.int .u8)) : EqT P t 1 UInt8 := fun d x y w => by
  show (Op.equalIn (d + 1) t (.int .u8 x.toNat) (.int .u8 y.toNat)).run P w = _
  rw [run_equalIn_int w d t .u8 .u8 _ _ h]
  congr 1; rw [Bool.eq_iff_iff]; simp [← UInt8.toNat_inj]; omega
theorem eqT_u32 {t} (h : P.underlying t = some (.int .u32)) : EqT P t 1 UInt32 := fun d x y w => by
  show (Op.equalIn (d + 1) t (.int .u32 x.toNat) (.int .u32 y.toNat)).run P w = _
  rw [run_equalIn_int w d t .u32 .u32 _ _ h]
  congr 1; rw [Bool.eq_iff_iff]; simp [← UInt32.toNat_inj]; omega
theorem eqT_u64 {t} (h : P.underlying t = some (.int .u64)) : EqT P t 1 UInt64 := fun d x y w => by
  show (Op.equalIn (d + 1) t (.int .u64 x.toNat) (.int .u64 y.toNat)).run P w = _
  rw [run_equalIn_int w d t .u64 .u64 _ _ h]
  congr 1; rw [Bool.eq_iff_iff]; simp [← UInt64.toNat_inj]; omega
theorem eqT_int {t} (h : P.underlying t = some (.int .i64)) : EqT P t 1 Int := fun d x y w => by
  show (Op.equalIn (d + 1) t (.int .i64 x) (.int .i64 y)).run P w = _
  rw [run_equalIn_int w d t .i64 .i64 _ _ h]
  rfl
theorem eqT_bool {t} (h : P.underlying t = some .bool) : EqT P t 1 Bool := fun d x y w => by
  show (Op.equalIn (d + 1) t (.bool x) (.bool y)).run P w = _
  rw [run_equalIn_bool' w d t _ _ h]
  congr 1

theorem run_eqItems {α : Type} [Enc α] [DecidableEq α] {e k : Nat} (ht : Ty P e (Enc.n α) (Enc.ag α)) (he : EqT P e k α) (d : Nat) (xs ys : List α) (hl : xs.length = ys.length) :
    ∀ (m i : Nat), i + m = xs.length → (Op.eqItems (d + k) e (Enc.n α) ⟨encs xs⟩ ⟨encs ys⟩ (List.range' i m)).run P w = .ok (decide (xs.drop i = ys.drop i)) w := by
  intro m
  induction m with
  | zero => intro i hi; simp [Op.eqItems, List.drop_eq_nil_of_le (show xs.length ≤ i by omega), List.drop_eq_nil_of_le (show ys.length ≤ i by omega)]
  | succ m ih =>
    intro i hi
    have hx : i < xs.length := by omega
    have hy : i < ys.length := by omega
    simp only [List.range'_succ, Op.eqItems, Sem.run_bind, run_part_encs ht hx, run_part_encs ht hy, he d, Result.andThen_ok]
    rw [← List.getElem_cons_drop hx, ← List.getElem_cons_drop hy]
    by_cases h : xs[i] = ys[i]
    · simp only [h, decide_true, Bool.not_true, Bool.false_eq_true, if_false, List.cons.injEq, true_and]
      exact ih (i + 1) (by omega)
    · simp only [h, decide_false, Bool.not_false, if_true, List.cons.injEq, false_and, Sem.run_pure]

theorem eqT_arr {α : Type} [Enc α] [DecidableEq α] {t e n k : Nat} (hu : P.underlying t = some (.array n e)) (ht : Ty P e (Enc.n α) (Enc.ag α)) (he : EqT P e k α) : EqT P t (k + 1) (Arr α n) := fun d x y w => by
  have hq : (P.info? e).isSome = true := by
    have := ht.sz
    cases h : P.info? e with
    | none => simp [h] at this
    | some i => rfl
  obtain ⟨i, hi⟩ := Option.isSome_iff_exists.1 hq
  have hc : P.cellsOf e = Enc.n α := by
    have := ht.sz
    simp [hi] at this
    simp [Program.cellsOf, hi, this]
  show (Op.equalIn (d + k + 1) t (.agg ⟨encs x.l⟩) (.agg ⟨encs y.l⟩)).run P w = _
  rw [run_equalIn_array w (d + k) _ _ hu hi, hc, List.range_eq_range', run_eqItems ht he d x.l y.l (x.h.trans y.h.symm) n 0 (by rw [x.h]; omega)]
  congr 1
  rw [Bool.eq_iff_iff]; simp
  exact ⟨fun h => Arr.ext h, fun h => by rw [h]⟩

inductive FEq (P : Program) (k : Nat) (α : Type) : Nat → List Field → List (α → Pt) → List (α → α → Bool) → Prop where
  | nil (o) : FEq P k α o [] [] []
  | cons {o n ag f p b fs ps bs} (h1 : f.name ≠ "_") (h2 : f.offset = o) (h3 : ∀ x, (p x).n = n) (h4 : ∀ x, (p x).ag = ag) (h5 : Ty P f.type n ag)
      (h6 : ∀ d x y w, (Op.equalIn (d + k) f.type (p x).v (p y).v).run P w = .ok (b x y) w) (h7 : FEq P k α (o + n) fs ps bs) : FEq P k α o (f :: fs) (p :: ps) (b :: bs)

theorem run_eqFields {α : Type} {k o : Nat} {fs ps bs} (h : FEq P k α o fs ps bs) : ∀ (d : Nat) (x y : α) (prex prey : List Value), prex.length = o → prey.length = o →
    (Op.eqFields (d + k) ⟨prex ++ cat (ps.map (· x))⟩ ⟨prey ++ cat (ps.map (· y))⟩ fs).run P w = .ok (bs.all fun b => b x y) w := by
  induction h with
  | nil o => intros; simp [Op.eqFields]
  | @cons o n ag f p b fs ps bs h1 h2 h3 h4 h5 h6 h7 ih =>
    intro d x y prex prey hx hy
    subst h2
    have e1 : (part f.type ⟨prex ++ cat ((p :: ps).map (· x))⟩ f.offset).run P w = .ok (p x).v w := by
      rw [List.map_cons, cat_cons]; exact run_part (p := p x) (by rw [h3, h4]; exact h5) hx
    have e2 : (part f.type ⟨prey ++ cat ((p :: ps).map (· y))⟩ f.offset).run P w = .ok (p y).v w := by
      rw [List.map_cons, cat_cons]; exact run_part (p := p y) (by rw [h3, h4]; exact h5) hy
    simp only [Op.eqFields, h1, ne_eq, not_false_eq_true, if_true, Sem.run_bind, e1, e2, h6 d, Result.andThen_ok, List.all_cons]
    cases hb : b x y
    · simp
    · simp only [Bool.not_true, Bool.false_eq_true, if_false, Bool.true_and]
      have := ih d x y (prex ++ (p x).c) (prey ++ (p y).c) (by simp [hx, (p x).len, h3]) (by simp [hy, (p y).len, h3])
      simp only [List.map_cons, cat_cons]
      simpa using this

theorem eqT_struct {α : Type} [Enc α] [DecidableEq α] {t k : Nat} {fs : Array Field} {ps : List (α → Pt)} {bs} (hu : P.underlying t = some (.struct fs)) (hp : P.stoodInHeld t = false) (hv : ∀ x, val x = .agg ⟨cat (ps.map (· x))⟩)
    (h : FEq P k α 0 fs.toList ps bs) (hb : ∀ x y : α, bs.all (fun b => b x y) = decide (x = y)) : EqT P t (k + 1) α := fun d x y w => by
  have hf : P.fieldsOf t = fs := by simp [Program.fieldsOf, hu]
  rw [hv, hv, ← hb]
  rw [show d + (k + 1) = (d + k) + 1 from rfl, run_equalIn_struct w (d + k) t _ _ (by rw [hf]; exact hu) hp, hf]
  exact run_eqFields h d x y [] [] rfl rfl
end

section
variable {cx : Cx} {md : Md} {ops : Array Oper} {Q : Exit → Act → World → Prop} {rest : List (Oper × Nat)} {kq : Nat} {base : Nat → Value} {L : List (Nat × Value)} {own ro : List Seg}
variable {q : Nat} {d : Nat} {ty : TypeId} {pos : String} {aft : Array Edge} {x y z : Operand} {xt yt : TypeId}

/-- Aggregates held against each other. -/
theorem eqA {α : Type} [Enc α] [DecidableEq α] {op : BinOp} {k : Nat} {xs ys : Array Value} (a b : α) (r : Bool) (hx : ev cx.n base L x = .agg xs) (hy : ev cx.n base L y = .agg ys) (ha : val a = .agg xs) (hb : val b = .agg ys) (he : EqT cx.P xt k α)
    (hk : Nat.ble k 10000 = true) (hg : cx.P.eqGuardType cx.P.depth xt = false)
    (hr : (match op with | .eql => some (decide (a = b)) | .neq => some !(decide (a = b)) | _ => none) = some r)
    (h : JG cx md ops Q rest base ((d, .bool r) :: L) own ro) : JG cx md ops Q ((⟨some d, .binOp op xt x y yt, ty, pos, aft, none⟩, q) :: rest) base L own ro :=
  qt (fun w _ => by
    have h1 : (Op.equalIn 10000 xt (.agg xs) (.agg ys)).run cx.P w = .ok (decide (a = b)) w := by
      have := he (10000 - k) a b w
      rw [show 10000 - k + k = 10000 from Nat.sub_add_cancel (Nat.ble_eq.mp hk), ha, hb] at this
      exact this
    cases op <;> dsimp only at hr <;> cases hr
    · simp only [execOp, hx, hy, Sem.run_bind, run_eqGuard_agg w _ _ _ _ _ _ hg, Result.andThen_ok, run_eql_struct, h1, Sem.run_pure]
    · simp only [execOp, hx, hy, Sem.run_bind, run_eqGuard_agg w _ _ _ _ _ _ hg, Result.andThen_ok, run_neq_struct, h1, Sem.run_pure]) h

/-! building -/
theorem fold_put (o : Nat) : ∀ (vs : List Value) (k : Nat) (l : List Value), o + k + vs.length ≤ l.length →
    (vs.zipIdx k).foldl (fun (cs : Array Value) (p : Value × Nat) => cs.setIfInBounds (o + p.2) p.1) ⟨l⟩ = ⟨l.take (o + k) ++ (vs ++ l.drop (o + k + vs.length))⟩
  | [], k, l, _ => by simp
  | v :: vs, k, l, h => by
    simp only [List.length_cons] at h
    simp only [List.zipIdx_cons, List.foldl_cons, List.setIfInBounds_toArray]
    rw [fold_put o vs (k + 1) (l.set (o + k) v) (by simp; omega)]
    congr 1
    have e1 : (l.set (o + k) v).take (o + (k + 1)) = l.take (o + k) ++ [v] := by
      rw [show o + (k + 1) = (o + k) + 1 by omega, List.take_succ_eq_append_getElem (by simp; omega)]
      simp [List.take_set_of_le]
    have e2 : (l.set (o + k) v).drop (o + (k + 1) + vs.length) = l.drop (o + k + (vs.length + 1)) := by
      rw [List.drop_set_of_lt (by omega)]
      congr 1; omega
    rw [e1, e2]; simp

theorem Pt.cells (p : Pt) : p.v.cells = ⟨p.c⟩ := by
  obtain ⟨n, c, v, ag, len, hv, one⟩ := p
  rcases hv with ⟨_, rfl⟩ | ⟨_, h2⟩
  · rfl
  · subst h2
    have h1 := one v (by simp)
    cases v <;> simp_all [Value.cells, Value.oneCell']

theorem fill_cons {place : Nat → Option (Nat × Nat)} {i o n : Nat} {p : Pt} {pre old post : List Value} {r : List (Nat × Value)} (hp : place i = some (o, n)) (hn : p.n = n) (ho : pre.length = o) (hol : old.length = n) :
    Instr.fill place ⟨pre ++ (old ++ post)⟩ ((i, p.v) :: r) = Instr.fill place ⟨pre ++ (p.c ++ post)⟩ r := by
  subst ho; subst hol
  have hs : p.v.cells.size = old.length := by rw [Pt.cells]; simp [p.len, hn]
  simp only [Instr.fill, hp, hs]
  rw [if_neg (by simp)]
  congr 1
  rw [Pt.cells, ← Array.foldl_toList]
  have := fold_put pre.length p.c 0 (pre ++ (old ++ post)) (by simp [p.len, hn])
  simp only [Nat.add_zero] at this
  simp only [Array.toList_zipIdx]
  rw [this]
  have hpn : p.c.length = old.length := p.len.trans hn
  simp [List.take_append, List.drop_append, hpn, List.drop_eq_nil_of_le]

def fillP (ps : List Pt) : List (Nat × Pt) → List Pt
  | [] => ps
  | (i, p) :: r => fillP (ps.set i p) r

/-- The places: offset and size of each part. -/
def plc (ps : List Pt) (i : Nat) : Option (Nat × Nat) := (ps[i]?).map fun p => (psum ps i, p.n)

theorem fill_all {place : Nat → Option (Nat × Nat)} : ∀ (qs : List (Nat × Pt)) (ps : List Pt), (∀ i, place i = plc ps i) → (∀ x ∈ qs, (ps[x.1]?).map (·.n) = some x.2.n) →
    Instr.fill place ⟨cat ps⟩ (qs.map fun x => (x.1, x.2.v)) = some ⟨cat (fillP ps qs)⟩
  | [], ps, _, _ => rfl
  | (i, p) :: qs, ps, hpl, hq => by
    have h1 := hq (i, p) (by simp)
    cases hi : ps[i]? with
    | none => simp [hi] at h1
    | some p0 =>
      simp [hi] at h1
      obtain ⟨pre, post, e1, e2, e3⟩ := cat_split hi
      rw [List.map_cons, e1, fill_cons (o := psum ps i) (n := p0.n) (by rw [hpl]; simp [plc, hi]) h1.symm e2 p0.len, ← e3 p]
      have hn : (ps.set i p).map (·.n) = ps.map (·.n) := by
        apply List.ext_getElem?
        intro j
        simp only [List.getElem?_map, List.getElem?_set]
        split
        · rename_i h; subst h
          split
          · simp [hi, h1]
          · rename_i h2; rw [List.getElem?_eq_none (by omega)] at hi; cases hi
        · rfl
      have hps : ∀ (a b : List Pt), a.map (·.n) = b.map (·.n) → ∀ j, psum a j = psum b j := by
        intro a
        induction a with
        | nil => intro b hb j; cases b <;> simp_all
        | cons x a ih =>
          intro b hb j
          cases b with
          | nil => simp at hb
          | cons y b =>
            simp at hb
            cases j with
            | zero => rfl
            | succ j => simp [psum, hb.1, ih b hb.2 j]
      refine fill_all qs (ps.set i p) (fun j => ?_) (fun x hx => ?_)
      · rw [hpl]
        unfold plc
        have h3 := congrArg (·[j]?) hn
        simp only [List.getElem?_map] at h3
        rw [hps _ _ hn]
        cases ha : ps[j]? <;> cases hb : (ps.set i p)[j]? <;> simp_all
      · have h3 := congrArg (·[x.1]?) hn
        simp only [List.getElem?_map] at h3
        rw [h3]; exact hq x (by simp [hx])

def Lay (P : Program) (fs : Array Field) (l : List (Nat × Nat)) : Prop := (fs.toList.mapM fun f => (P.info? f.type).map fun i => (f.offset, i.size)) = some l

theorem run_lay {P : Program} {w : World} {fs : Array Field} {l : List (Nat × Nat)} (h : Lay P fs l) : (fs.mapM fun f => do pure (f.offset, ← sizeOf f.type) : Sem (Array (Nat × Nat))).run P w = .ok ⟨l⟩ w := by
  obtain ⟨fs⟩ := fs
  unfold Lay at h
  simp only [List.mapM_toArray, Sem.run_map] at h ⊢
  have : (List.mapM (fun f => do pure (f.offset, ← sizeOf f.type)) fs : Sem (List (Nat × Nat))).run P w = .ok l w := by
    induction fs generalizing l with
    | nil => simp at h; subst h; rfl
    | cons f r ih =>
      rw [List.mapM_cons] at h ⊢
      simp only [bind, Option.bind_eq_some_iff, pure, Option.some.injEq] at h
      obtain ⟨a, ha, l', hl', rfl⟩ := h
      have ha' : (P.info? f.type).map (·.size) = some a.2 ∧ a.1 = f.offset := by
        cases hq : P.info? f.type with
        | none => simp [hq] at ha
        | some i => simp [hq] at ha; subst ha; simp
      have e1 := run_sizeOf' (P := P) (w := w) ha'.1
      have e2 := ih hl'
      simp only [Sem.run_bind, e1, Result.andThen_ok, Sem.run_pure, e2, ← ha'.2]
  rw [this]; rfl

def plcs : List Pt → Nat → List (Nat × Nat)
  | [], _ => []
  | p :: r, o => (o, p.n) :: plcs r (o + p.n)
theorem plcs_get (ps : List Pt) : ∀ (o i : Nat), (plcs ps o)[i]? = (ps[i]?).map fun p => (o + psum ps i, p.n) := by
  induction ps with
  | nil => intro o i; simp [plcs]
  | cons p r ih =>
    intro o i
    cases i with
    | zero => simp [plcs, psum]
    | succ i =>
      simp only [plcs, List.getElem?_cons_succ, ih, psum]
      congr 1; funext q; simp; omega

theorem bld {t : Nat} {fs : Array Field} {parts : Array (Nat × Operand)} (ps : List Pt) (qs : List (Nat × Pt)) (v0 : Value) (hu : cx.P.underlying t = some (.struct fs)) (hl : Lay cx.P fs (plcs ps 0)) (hz : Zt cx.P t v0) (hv : v0.cells = ⟨cat ps⟩)
    (hq : qs.map (fun x => some x.2.n) = qs.map (fun x => (ps[x.1]?).map (·.n))) (hx : parts.toList.map (fun a => (a.1, ev cx.n base L a.2)) = qs.map fun x => (x.1, x.2.v))
    (h : JG cx md ops Q rest base ((d, .agg ⟨cat (fillP ps qs)⟩) :: L) own ro) : JG cx md ops Q ((⟨some d, .build t parts, ty, pos, aft, none⟩, q) :: rest) base L own ro :=
  qt (fun w _ => by
    have hf := fill_all (place := fun i => (⟨plcs ps 0⟩ : Array (Nat × Nat))[i]?) qs ps (fun i => by simp [plcs_get, plc]) (fun x hx => by
      obtain ⟨i, hi, e⟩ := List.getElem_of_mem hx
      have h3 := congrArg (·[i]?) hq
      simp only [List.getElem?_map, List.getElem?_eq_getElem hi, Option.map_some, Option.some.injEq, e] at h3
      exact h3.symm)
    have hp2 : (parts.map fun a => (a.1, ev cx.n base L a.2)).toList = qs.map fun x => (x.1, x.2.v) := by simpa using hx
    have hrl := run_lay (w := w) hl
    simp only [execOp, Instr.build, Sem.run_bind, run_zero' hz, Result.andThen_ok, run_underlying hu, hrl, hv, hp2, hf, Sem.run_pure]) h
end
end Go.PW
