/- The engine: maps. No condition. -/
import Derived.Test.YthpbiamicidakaaDoorEg
namespace Go.PW
open Enc (enc val)
open Go

/-- A map that holds these entries, in this order. -/
def BornOk (es : List MapEntry) (clock : Nat) : Prop := (es.map (·.born)).Nodup ∧ ∀ e ∈ es, e.born < clock
theorem BornOk.push {es : List MapEntry} {clock : Nat} (h : BornOk es clock) (k v : Value) : BornOk (es ++ [⟨k, v, clock⟩]) (clock + 1) := by
  constructor
  · rw [List.map_append, List.nodup_append]
    refine ⟨h.1, by simp, fun a ha b hb e => ?_⟩
    simp only [List.map_cons, List.map_nil, List.mem_singleton] at hb
    obtain ⟨x, hx, rfl⟩ := List.mem_map.1 ha
    have := h.2 x hx
    omega
  · intro e he
    rcases List.mem_append.1 he with h1 | h1
    · exact Nat.lt_succ_of_lt (h.2 e h1)
    · rw [List.mem_singleton] at h1; subst h1; exact Nat.lt_succ_self _
theorem BornOk.sub {es es' : List MapEntry} {clock : Nat} (h : BornOk es clock) (hs : es'.Sublist es) : BornOk es' clock :=
  ⟨(hs.map _).nodup h.1, fun e he => h.2 e (hs.subset he)⟩
theorem BornOk.same {es es' : List MapEntry} {clock : Nat} (h : BornOk es clock) (hs : es'.map (·.born) = es.map (·.born)) : BornOk es' clock :=
  ⟨by rw [hs]; exact h.1, fun e he => by
    have h1 : e.born ∈ es.map (·.born) := hs ▸ List.mem_map.2 ⟨e, he, rfl⟩
    obtain ⟨x, hx, h2⟩ := List.mem_map.1 h1
    rw [← h2]; exact h.2 x hx⟩
def isMap {α β : Type} [Enc α] [Enc β] (kv : List (α × β)) (o : Obj) : Prop := ∃ es clock, o = .map ⟨es⟩ clock ∧ es.map (fun e => (e.key, e.val)) = (kv.map fun p => (val p.1, val p.2)) ∧ BornOk es clock

/-- What is found under a key: its place, its element. -/
def fnd {α β : Type} [DecidableEq α] (k : α) : List (α × β) → Nat → Option (Nat × β)
  | [], _ => none
  | p :: r, i => if k = p.1 then some (i, p.2) else fnd k r (i + 1)
def mget {α β : Type} [DecidableEq α] (k : α) (kv : List (α × β)) : Option β := (fnd k kv 0).map (·.2)

section
variable {P : Program}
/-- A key of this type can be asked for. -/
structure KeyT (P : Program) (t : Nat) (α : Type) [Enc α] [DecidableEq α] : Prop where
  chk : ∀ (e : Bool) (x : α) (w : World), (Instr.checkKey e 10000 t (val x)).run P w = .ok () w
  fnd : ∀ (x : α) (es : List MapEntry) (ks : List α) (w : World), es.map (·.key) = ks.map val → (Instr.findKey t (val x) es).run P w = .ok ((fnd x (ks.zip (es.map (·.val))) 0)) w

def ChkT (P : Program) (t k : Nat) (α : Type) [Enc α] : Prop := ∀ (d : Nat) (e : Bool) (x : α) (w : World), (Instr.checkKey e (d + k) t (val x)).run P w = .ok () w

def scalarD : TypeDesc → Bool
  | .interface _ | .array _ _ | .struct _ => false
  | _ => true

theorem chkT_scalar {α : Type} [Enc α] {t : Nat} {ds : TypeDesc} (hu : P.underlying t = some ds) (hd : scalarD ds = true) : ChkT P t 1 α := fun d e x w => by
  simp only [Instr.checkKey, Sem.run_bind, run_underlying hu, Result.andThen_ok]
  cases ds <;> simp [scalarD] at hd <;> rfl

theorem chkT_arr {α : Type} [Enc α] {t e n k : Nat} (hu : P.underlying t = some (.array n e)) (ht : Ty P e (Enc.n α) (Enc.ag α)) (he : ChkT P e k α) : ChkT P t (k + 1) (Arr α n) := fun d em x w => by
  show (Instr.checkKey em (d + k + 1) t (.agg ⟨encs x.l⟩)).run P w = _
  simp only [Instr.checkKey, Sem.run_bind, run_underlying hu, Result.andThen_ok]
  simp only [Std.Legacy.Range.forIn_eq_forIn_range', Std.Legacy.Range.size, Nat.sub_zero, Nat.add_one_sub_one, Nat.div_one]
  have hl : ∀ i ∈ List.range' 0 n 1, i < x.l.length := fun i hi => by rw [x.h]; simpa using (List.mem_range'_1.1 hi).2
  generalize List.range' 0 n 1 = l at hl ⊢
  induction l with
  | nil => simp
  | cons i l ih =>
    simp only [List.forIn_cons, Sem.run_bind, run_sizeOf' ht.sz, Result.andThen_ok, run_part_encs ht (hl i (by simp)), he d em, Sem.run_pure]
    exact ih fun j hj => hl j (by simp [hj])

inductive FCk (P : Program) (k : Nat) (α : Type) : Nat → List Field → List (α → Pt) → Prop where
  | nil (o) : FCk P k α o [] []
  | cons {o n ag f p fs ps} (h2 : f.offset = o) (h3 : ∀ x, (p x).n = n) (h4 : ∀ x, (p x).ag = ag) (h5 : Ty P f.type n ag)
      (h6 : ∀ d e x w, (Instr.checkKey e (d + k) f.type (p x).v).run P w = .ok () w) (h7 : FCk P k α (o + n) fs ps) : FCk P k α o (f :: fs) (p :: ps)

theorem chkT_struct {α : Type} [Enc α] {t k : Nat} {fs : Array Field} {ps : List (α → Pt)} (hu : P.underlying t = some (.struct fs)) (hv : ∀ x, val x = .agg ⟨cat (ps.map (· x))⟩) (h : FCk P k α 0 fs.toList ps) : ChkT P t (k + 1) α := fun d em x w => by
  rw [hv]
  show (Instr.checkKey em (d + k + 1) t _).run P w = _
  simp only [Instr.checkKey, Sem.run_bind, run_underlying hu, Result.andThen_ok]
  rw [← Array.forIn_toList]
  have : ∀ (o : Nat) (fs : List Field) (ps : List (α → Pt)) (pre : List Value), FCk P k α o fs ps → pre.length = o →
      Sem.run P (forIn fs PUnit.unit fun f _ => if f.name ≠ "_" then do
        let __do_lift ← part f.type ⟨pre ++ cat (ps.map (· x))⟩ f.offset
        Instr.checkKey em (d + k) f.type __do_lift
        pure (ForInStep.yield PUnit.unit) else pure (ForInStep.yield PUnit.unit)) w = .ok PUnit.unit w := by
    intro o fs ps pre h
    induction h generalizing pre with
    | nil o => intro _; simp
    | @cons o n ag f p fs ps h2 h3 h4 h5 h6 h7 ih =>
      intro hpre
      subst h2
      have e1 : (part f.type ⟨pre ++ cat ((p :: ps).map (· x))⟩ f.offset).run P w = .ok (p x).v w := by
        rw [List.map_cons, cat_cons]; exact run_part (p := p x) (by rw [h3, h4]; exact h5) hpre
      have e2 := ih (pre ++ (p x).c) (by simp [hpre, (p x).len, h3])
      simp only [List.forIn_cons]
      split
      · simp only [Sem.run_bind, e1, h6 d em x w, Result.andThen_ok, Sem.run_pure]
        simp only [List.map_cons, cat_cons]
        simpa using e2
      · simp only [Sem.run_bind, Result.andThen_ok, Sem.run_pure]
        simp only [List.map_cons, cat_cons]
        simpa using e2
  have h1 := this 0 fs.toList ps [] h rfl
  simp only [List.nil_append] at h1
  rw [h1]; rfl

theorem keyT_of {α : Type} [Enc α] [DecidableEq α] {t k m : Nat} {ds : TypeDesc} (he : EqT P t k α) (hc : ChkT P t m α) (hk : Nat.ble k 10000 = true) (hm : Nat.ble m 10000 = true) (hu : P.underlying t = some ds) (hag : isAggD ds = true) : KeyT P t α where
  chk e x w := by
    have := hc (10000 - m) e x w
    rwa [show 10000 - m + m = 10000 from Nat.sub_add_cancel (Nat.ble_eq.mp hm)] at this
  fnd x es ks w h := by
    have heq : ∀ y w, (Op.equal t (val x) (val y)).run P w = .ok (decide (x = y)) w := fun y w => by
      have := he (10000 - k) x y w
      rw [show 10000 - k + k = 10000 from Nat.sub_add_cancel (Nat.ble_eq.mp hk)] at this
      exact this
    have hask : ∀ (es : List MapEntry) (ks : List α) (i : Nat), es.map (·.key) = ks.map val → (Instr.findAsking t (val x) es i).run P w = .ok (PW.fnd x (ks.zip (es.map (·.val))) i) w := by
      intro es
      induction es with
      | nil => intro ks i h; cases ks <;> simp_all [Instr.findAsking, PW.fnd]
      | cons e es ih =>
        intro ks i h
        cases ks with
        | nil => simp at h
        | cons y ks =>
          simp only [List.map_cons, List.cons.injEq] at h
          simp only [Instr.findAsking, Sem.run_bind, h.1, heq, Result.andThen_ok, List.map_cons, List.zip_cons_cons, PW.fnd]
          by_cases hxy : x = y
          · simp [hxy]
          · simp only [hxy, decide_false, Bool.false_eq_true, if_false]; exact ih ks (i + 1) h.2
    have hnow : Instr.findNow ds (val x) es 0 = none ∨ (es = [] ∧ Instr.findNow ds (val x) es 0 = some none) := by
      cases es with
      | nil => exact .inr ⟨rfl, rfl⟩
      | cons e r =>
        left
        cases ds <;> simp [isAggD] at hag <;> simp [Instr.findNow, Instr.sameNow]
    unfold Instr.findKey
    simp only [Sem.run_bind, run_underlying hu, Result.andThen_ok]
    rcases hnow with h1 | ⟨rfl, h1⟩
    · rw [h1]; exact hask es ks 0 h
    · rw [h1]; cases ks <;> simp_all [PW.fnd]

theorem keyT_str_aux : True := trivial
end

theorem map_run {α β : Type} [Enc α] [Enc β] [DecidableEq α] {P : Program} {w : World} {K : Nat} (hk : KeyT P K α) {kv : List (α × β)} {es : List MapEntry} (he : es.map (fun e => (e.key, e.val)) = kv.map fun p => (val p.1, val p.2)) (x : α) :
    (Instr.findKey K (val x) es).run P w = .ok ((fnd x kv 0).map fun r => (r.1, val r.2)) w := by
  have h1 : es.map (·.key) = (kv.map (·.1)).map val := by
    have := congrArg (List.map (·.1)) he
    simpa [List.map_map, Function.comp_def] using this
  have h2 : es.map (·.val) = kv.map fun p => val p.2 := by
    have := congrArg (List.map (·.2)) he
    simpa [List.map_map, Function.comp_def] using this
  rw [hk.fnd x es _ w h1, h2]
  congr 1
  have : ∀ (kv : List (α × β)) (i : Nat), fnd x ((kv.map (·.1)).zip (kv.map fun p => val p.2)) i = (fnd x kv i).map fun r => (r.1, val r.2) := by
    intro kv
    induction kv with
    | nil => intro i; rfl
    | cons p r ih =>
      intro i
      simp only [List.map_cons, List.zip_cons_cons, fnd]
      split <;> simp [ih]
  exact this kv 0

section
variable {cx : Cx} {md : Md} {ops : Array Oper} {Q : Exit → Act → World → Prop} {rest : List (Oper × Nat)} {kq : Nat} {base : Nat → Value} {L : List (Nat × Value)} {own ro : List Seg}
variable {q : Nat} {d : Nat} {ty : TypeId} {pos : String} {aft : Array Edge} {x y z : Operand} {xt yt : TypeId}

theorem run_getMap {P : Program} {w : World} {b : Nat} {o : Obj} (h : w.heap[b]? = some o) (hc : isCells o = false) : (getObj b).run P w = .ok o w := by
  cases o <;> simp [isCells] at hc <;> simp [getObj, Sem.run, h]

theorem mkm {α β : Type} [Enc α] [Enc β] (h : ∀ bk, Keep md kq rest (own ++ [[(bk, .pred (isMap ([] : List (α × β))))]]) ro ∧ JG cx md ops Q rest base ((d, .map (some bk)) :: L) (own ++ [[(bk, .pred (isMap ([] : List (α × β))))]]) ro) :
    JG cx md ops Q ((⟨some d, .makeMap xt none, ty, pos, aft, none⟩, kq + 1) :: rest) base L own ro :=
  nq (Post := fun L' own' ro' => ∃ bk, L' = (d, .map (some bk)) :: L ∧ own' = own ++ [[(bk, .pred (isMap ([] : List (α × β))))]] ∧ ro' = ro) rfl
    (fun w K hw hK => by
      unfold Oper.wp
      rw [A_eval_fun]
      simp only [execOp, Option.map_none, Instr.makeMap, Sem.run_bind, Result.andThen_ok, newObj, Sem.run, Sem.run_pure, Oper.upon]
      show K ((A cx.n base L).put (some d) _) _
      rw [A_put]
      exact hK _ _ _ _ ⟨w.heap.size, rfl, rfl, rfl⟩ (hw.alloc _ _ ⟨⟨[], 0, rfl, rfl, by simp [BornOk]⟩, rfl⟩))
    (by rintro L' own' ro' ⟨bk, rfl, rfl, rfl⟩; exact (h bk).1)
    (by rintro L' own' ro' ⟨bk, rfl, rfl, rfl⟩; exact (h bk).2)

/-- A lookup with two results. -/
theorem lk2 {α β : Type} [Enc α] [Enc β] [DecidableEq α] {K E bk : Nat} {kx : Value} (j : Nat) (kv : List (α × β)) (k : α) (z : β) (hx : ev cx.n base L x = .map (some bk)) (hy : ev cx.n base L y = kx) (hkx : kx = val k) (hu : cx.P.underlying xt = some (.map K E))
    (hk : KeyT cx.P K α) (hz : Zt cx.P E (val z)) (hs : (Src md q own ro)[j]? = some [(bk, .pred (isMap kv))])
    (h : JG cx md ops Q rest base ((d, .tuple #[val ((mget k kv).getD z), .bool (mget k kv).isSome]) :: L) own ro) : JG cx md ops Q ((⟨some d, .lookup xt x y true, ty, pos, aft, none⟩, q) :: rest) base L own ro :=
  qt (fun w hw => by
    subst hkx
    obtain ⟨o, ho, ⟨es, clock, rfl, he, hbn⟩, hc⟩ := hw _ (List.mem_of_getElem? hs) _ (List.mem_singleton.2 rfl)
    simp only [execOp, hx, hy, Instr.lookup, Sem.run_bind, run_underlying hu, Result.andThen_ok, run_getMap ho hc, Sem.run_pure, hk.chk, map_run hk he]
    cases hf : fnd k kv 0 with
    | none => simp [mget, hf, run_zero' hz]
    | some r => simp [mget, hf]) h
theorem lk1 {α β : Type} [Enc α] [Enc β] [DecidableEq α] {K E bk : Nat} {kx : Value} (j : Nat) (kv : List (α × β)) (k : α) (z : β) (hx : ev cx.n base L x = .map (some bk)) (hy : ev cx.n base L y = kx) (hkx : kx = val k) (hu : cx.P.underlying xt = some (.map K E))
    (hk : KeyT cx.P K α) (hz : Zt cx.P E (val z)) (hs : (Src md q own ro)[j]? = some [(bk, .pred (isMap kv))])
    (h : JG cx md ops Q rest base ((d, val ((mget k kv).getD z)) :: L) own ro) : JG cx md ops Q ((⟨some d, .lookup xt x y false, ty, pos, aft, none⟩, q) :: rest) base L own ro :=
  qt (fun w hw => by
    subst hkx
    obtain ⟨o, ho, ⟨es, clock, rfl, he, hbn⟩, hc⟩ := hw _ (List.mem_of_getElem? hs) _ (List.mem_singleton.2 rfl)
    simp only [execOp, hx, hy, Instr.lookup, Sem.run_bind, run_underlying hu, Result.andThen_ok, run_getMap ho hc, Sem.run_pure, hk.chk, map_run hk he]
    cases hf : fnd k kv 0 with
    | none => simp [mget, hf, run_zero' hz]
    | some r => simp [mget, hf]) h

theorem run_setMap {P : Program} {w : World} {b : Nat} {o o' : Obj} (h : w.heap[b]? = some o) (hc : isCells o = false) : (setObj b o').run P w = .ok () { w with heap := w.heap.setIfInBounds b o' } := by
  cases o <;> simp [isCells] at hc <;> simp [setObj, Sem.run, h]

theorem In.turnObj {z : Zt0} {own ro w} (h : In z own ro w) {i b k k'} {o' : Obj} (hi : own[i]? = some [(b, k)]) (hk : k'.ok o') : In z (own.set i [(b, k')]) ro { w with heap := w.heap.setIfInBounds b o' } := by
  have hlt : b < w.heap.size := (h.has.o _ (List.mem_of_getElem? hi)).lt (List.mem_singleton.2 rfl)
  refine h.turn hi (o' := o') (by simp [hlt]) hk (fun c hc => by simp [Array.getElem?_setIfInBounds_ne (Ne.symm hc)]) (by simp) rfl rfl rfl

/-- A new key. -/
theorem mup {α β : Type} [Enc α] [Enc β] [DecidableEq α] {K E bk : Nat} {kx vx : Value} (j : Nat) (kv : List (α × β)) (k : α) (v : β) (hx : ev cx.n base L x = .map (some bk)) (hy : ev cx.n base L y = kx) (hkx : kx = val k) (hz : ev cx.n base L z = vx) (hvx : vx = val v) (hu : cx.P.underlying xt = some (.map K E))
    (hk : KeyT cx.P K α) (hs : own[j]? = some [(bk, .pred (isMap kv))]) (hnew : mget k kv = none)
    (h : Keep md kq rest (own.set j [(bk, .pred (isMap (kv ++ [(k, v)])))]) ro ∧ JG cx md ops Q rest base L (own.set j [(bk, .pred (isMap (kv ++ [(k, v)])))]) ro) : JG cx md ops Q ((⟨none, .mapUpdate xt x y z, ty, pos, aft, none⟩, kq + 1) :: rest) base L own ro :=
  nq (Post := fun L' own' ro' => L' = L ∧ own' = own.set j [(bk, .pred (isMap (kv ++ [(k, v)])))] ∧ ro' = ro) rfl
    (fun w Kt hw hK => by
      subst hkx; subst hvx
      obtain ⟨o, ho, ⟨es, clock, rfl, he, hbn⟩, hc⟩ := hw.has.o _ (List.mem_of_getElem? hs) _ (List.mem_singleton.2 rfl)
      have hf : fnd k kv 0 = none := by simpa [mget] using hnew
      unfold Oper.wp
      rw [A_eval_fun]
      simp only [execOp, hx, hy, hz, Instr.mapUpdate, Sem.run_bind, run_underlying hu, Result.andThen_ok, run_getMap ho hc, Sem.run_pure, hk.chk, map_run hk he, hf, Option.map_none, run_setMap ho hc, Oper.upon]
      exact hK _ _ _ _ ⟨rfl, rfl, rfl⟩ (hw.turnObj hs ⟨⟨es ++ [⟨val k, val v, clock⟩], clock + 1, by simp, by simp [he], hbn.push _ _⟩, rfl⟩))
    (by rintro L' own' ro' ⟨rfl, rfl, rfl⟩; exact h.1)
    (by rintro L' own' ro' ⟨rfl, rfl, rfl⟩; exact h.2)

theorem map_erase {α β : Type} (f : α → β) : ∀ (l : List α) (i : Nat), (l.eraseIdx i).map f = (l.map f).eraseIdx i
  | [], i => by simp
  | a :: l, 0 => by simp
  | a :: l, i + 1 => by simp [map_erase f l i]

def mdel {α β : Type} [DecidableEq α] (k : α) (kv : List (α × β)) : List (α × β) := match fnd k kv 0 with | some r => kv.eraseIdx r.1 | none => kv

theorem mde {α β : Type} [Enc α] [Enc β] [DecidableEq α] {dst : Option Nat} {K E bk : Nat} {kx : Value} (j : Nat) (kv : List (α × β)) (k : α) (hdst : dst = none) (hx : ev cx.n base L x = .map (some bk)) (hy : ev cx.n base L y = kx) (hkx : kx = val k) (hu : cx.P.underlying xt = some (.map K E))
    (hk : KeyT cx.P K α) (hs : own[j]? = some [(bk, .pred (isMap kv))])
    (h : Keep md kq rest (own.set j [(bk, .pred (isMap (mdel k kv)))]) ro ∧ JG cx md ops Q rest base L (own.set j [(bk, .pred (isMap (mdel k kv)))]) ro) : JG cx md ops Q ((⟨dst, .call ⟨.builtin .delete, #[x, y], #[xt, yt]⟩, ty, pos, aft, none⟩, kq + 1) :: rest) base L own ro :=
  nq (Post := fun L' own' ro' => L' = L ∧ own' = own.set j [(bk, .pred (isMap (mdel k kv)))] ∧ ro' = ro) rfl
    (fun w Kt hw hK => by
      subst hkx; subst hdst
      obtain ⟨o, ho, ⟨es, clock, rfl, he, hbn⟩, hc⟩ := hw.has.o _ (List.mem_of_getElem? hs) _ (List.mem_singleton.2 rfl)
      have hlen : es.length = kv.length := by simpa using congrArg List.length he
      unfold Oper.wp
      rw [A_eval_fun]
      simp only [execOp, resolve, invoke, builtin, Builtin.delete_]
      simp only [List.map_toArray, List.map_cons, List.map_nil, List.getElem?_toArray, List.getElem?_cons_zero, List.getElem?_cons_succ, hx, hy, Sem.run_bind, run_underlying hu, Result.andThen_ok, run_getMap ho hc, Sem.run_pure, hk.chk, map_run hk he]
      cases hf : fnd k kv 0 with
      | none =>
        simp only [Option.map_none, Sem.run_bind, run_setMap ho hc, Result.andThen_ok, Sem.run_pure, Oper.upon]
        exact hK _ _ _ _ ⟨rfl, rfl, rfl⟩ (hw.turnObj hs ⟨⟨es, clock, rfl, by simp [mdel, hf, he], hbn⟩, rfl⟩)
      | some r =>
        simp only [Option.map_some, Sem.run_bind, run_setMap ho hc, Result.andThen_ok, Sem.run_pure, Oper.upon]
        refine hK _ _ _ _ ⟨rfl, rfl, rfl⟩ (hw.turnObj hs (o' := .map (Array.eraseIdxIfInBounds ⟨es⟩ r.1) clock) ⟨⟨es.eraseIdx r.1, clock, ?_, ?_, hbn.sub (List.eraseIdx_sublist _ _)⟩, rfl⟩)
        · simp [Array.eraseIdxIfInBounds]
          exact fun hle => (List.eraseIdx_of_length_le hle).symm
        · simp only [mdel, hf]
          rw [map_erase, map_erase, he])
    (by rintro L' own' ro' ⟨rfl, rfl, rfl⟩; exact h.1)
    (by rintro L' own' ro' ⟨rfl, rfl, rfl⟩; exact h.2)
end
end Go.PW
