/- The engine: entries of maps that are turned in place. No condition. -/
import Derived.Test.YthpbiamicidakaaDoorEn
namespace Go.PW
open Enc (enc val)
open Go

/-- A key whose bits are its own. -/
def SbT (α : Type) [Enc α] : Prop := ∀ x : α, Instr.sameBits 10000 (val x) (val x) = true
theorem sb_agg {cs : List Value} (n : Nat) (h : ∀ c ∈ cs, Instr.sameBits n c c = true) : Instr.sameBits (n + 1) (.agg ⟨cs⟩) (.agg ⟨cs⟩) = true := by
  simp only [Instr.sameBits, beq_self_eq_true, Bool.true_and, List.all_eq_true]
  intro p hp
  obtain ⟨x, y⟩ := p
  have : ∀ (l : List Value), (x, y) ∈ l.zip l → x ∈ l ∧ x = y := by
    intro l
    induction l with
    | nil => simp
    | cons a l ih =>
      simp only [List.zip_cons_cons, List.mem_cons, Prod.mk.injEq]
      rintro (⟨rfl, rfl⟩ | h1)
      · exact ⟨.inl rfl, rfl⟩
      · exact ⟨.inr (ih h1).1, (ih h1).2⟩
  obtain ⟨hx, rfl⟩ := this cs hp
  exact h x hx
theorem sbT_u8arr {n : Nat} : SbT (Arr UInt8 n) := fun x => sb_agg 9999 fun c hc => by
  obtain ⟨b, _, hb⟩ := List.mem_flatMap.1 hc
  simp only [enc, List.mem_singleton] at hb
  subst hb; simp [Instr.sameBits]

def mput0 {α β : Type} [DecidableEq α] (k : α) (z : β) (kv : List (α × β)) : List (α × β) := match fnd k kv 0 with | some _ => kv | none => kv ++ [(k, z)]
def mset {α β : Type} [DecidableEq α] (k : α) (v : β) (kv : List (α × β)) : List (α × β) := match fnd k kv 0 with | some r => kv.set r.1 (k, v) | none => kv ++ [(k, v)]
/-- A map whose entry of a key was born at a stamp. -/
def isMapS {α β : Type} [Enc α] [Enc β] [DecidableEq α] (kv : List (α × β)) (k : α) (s : Nat) (o : Obj) : Prop :=
  ∃ es clock, o = .map ⟨es⟩ clock ∧ es.map (fun e => (e.key, e.val)) = (kv.map fun p => (val p.1, val p.2)) ∧ BornOk es clock ∧ ∃ i, (fnd k kv 0).map (·.1) = some i ∧ (es[i]?).map (·.born) = some s

theorem fnd_get {α β : Type} [DecidableEq α] {k : α} : ∀ {kv : List (α × β)} {j : Nat} {r : Nat × β}, fnd k kv j = some r → j ≤ r.1 ∧ kv[r.1 - j]? = some (k, r.2)
  | [], _, _, h => by simp [fnd] at h
  | p :: t, j, r, h => by
    simp only [fnd] at h
    split at h
    · next e => cases h; subst e; simp
    · have ⟨h1, h2⟩ := fnd_get h
      refine ⟨by omega, ?_⟩
      rw [show r.1 - j = (r.1 - (j + 1)) + 1 by omega]; simpa using h2
theorem fnd_app {α β : Type} [DecidableEq α] {k : α} {v : β} : ∀ {kv : List (α × β)} {j : Nat}, fnd k kv j = none → fnd k (kv ++ [(k, v)]) j = some (j + kv.length, v)
  | [], j, _ => by simp [fnd]
  | p :: t, j, h => by
    simp only [fnd] at h
    split at h
    · cases h
    · next e =>
      simp only [List.cons_append, fnd, if_neg e, List.length_cons]
      rw [fnd_app h]; simp; omega
theorem find_born {es : List MapEntry} (hnd : (es.map (·.born)).Nodup) {i s : Nat} (h : (es[i]?).map (·.born) = some s) : (⟨es⟩ : Array MapEntry).findIdx? (fun e => ((e.born : Nat) : Int) == (s : Int)) = some i := by
  rw [List.findIdx?_toArray, List.findIdx?_eq_some_iff_getElem]
  cases hi : es[i]? with
  | none => simp [hi] at h
  | some e =>
    obtain ⟨hlt, he⟩ := List.getElem?_eq_some_iff.1 hi
    simp [hi] at h
    refine ⟨hlt, by simp [he, h], fun j hj hp => ?_⟩
    have h1 : es[j].born = s := by have h3 : ((es[j].born : Nat) : Int) = (s : Int) := by simpa using hp
                                   omega
    have h2 := (List.pairwise_iff_getElem.1 hnd) j i (by simp; omega) (by simpa using hlt) hj
    exact h2 (by simp [h1, he, h])

theorem fnd_ne {α β : Type} [DecidableEq α] {h k : α} (e : h ≠ k) {v : β} : ∀ {kv : List (α × β)} {j : Nat}, fnd h (kv ++ [(k, v)]) j = fnd h kv j
  | [], j => by simp [fnd, e]
  | p :: t, j => by
    simp only [List.cons_append, fnd]
    split
    · rfl
    · exact fnd_ne e
theorem fnd_set {α β : Type} [DecidableEq α] {h k : α} {v : β} : ∀ {kv : List (α × β)} {j : Nat} {r : Nat × β}, fnd k kv j = some r → (fnd h (kv.set (r.1 - j) (k, v)) j).map (·.2) = if h = k then some v else (fnd h kv j).map (·.2)
  | [], _, _, hf => by simp [fnd] at hf
  | p :: t, j, r, hf => by
    simp only [fnd] at hf
    split at hf
    · next e =>
      cases hf
      simp only [Nat.sub_self, List.set_cons_zero, fnd]
      by_cases e2 : h = k
      · simp [e2]
      · have e3 : ¬ h = p.1 := fun e4 => e2 (e4.trans e.symm)
        simp [e2, e3]
    · next e =>
      have ⟨h1, _⟩ := fnd_get hf
      rw [show r.1 - j = (r.1 - (j + 1)) + 1 by omega]
      simp only [List.set_cons_succ, fnd]
      by_cases e2 : h = p.1
      · have e3 : ¬ h = k := fun e4 => e (e4.symm.trans e2)
        simp [e2] ; subst e2; simp [e3]
      · simp only [e2, if_false]; exact fnd_set hf
theorem mget_mset {α β : Type} [DecidableEq α] (h k : α) (v : β) (kv : List (α × β)) : mget h (mset k v kv) = if h = k then some v else mget h kv := by
  unfold mget mset
  cases hf : fnd k kv 0 with
  | none =>
    by_cases e : h = k
    · subst e; simp [fnd_app hf]
    · simp [fnd_ne e, e]
  | some r => simpa using fnd_set (h := h) (v := v) hf
theorem mget_mput0 {α β : Type} [DecidableEq α] (h k : α) (z : β) (kv : List (α × β)) : (mget h (mput0 k z kv)).getD z = (mget h kv).getD z := by
  unfold mget mput0
  cases hf : fnd k kv 0 with
  | none =>
    by_cases e : h = k
    · subst e; simp [fnd_app hf, hf]
    · simp [fnd_ne e]
  | some r => rfl

section
variable {cx : Cx} {md : Md} {ops : Array Oper} {Q : Exit → Act → World → Prop} {rest : List (Oper × Nat)} {kq : Nat} {base : Nat → Value} {L : List (Nat × Value)} {own ro : List Seg}
variable {q : Nat} {d : Nat} {ty : TypeId} {pos : String} {aft : Array Edge} {x y z : Operand} {xt yt : TypeId}

theorem men {α β : Type} [Enc α] [Enc β] [DecidableEq α] {K E bk : Nat} {kx : Value} (j : Nat) (kv : List (α × β)) (k : α) (z : β) (hsb : SbT α) (hx : ev cx.n base L x = .map (some bk)) (hy : ev cx.n base L y = kx) (hkx : kx = val k) (hu : cx.P.underlying xt = some (.map K E))
    (hk : KeyT cx.P K α) (hz : Zt cx.P E (val z)) (hs : own[j]? = some [(bk, .pred (isMap kv))])
    (h : ∀ s : Nat, Keep md kq rest (own.set j [(bk, .pred (isMapS (mput0 k z kv) k s))]) ro ∧ JG cx md ops Q rest base ((d, .tuple #[val ((mget k kv).getD z), .int .i64 (s : Int)]) :: L) (own.set j [(bk, .pred (isMapS (mput0 k z kv) k s))]) ro) :
    JG cx md ops Q ((⟨some d, .mapEntry xt x y, ty, pos, aft, none⟩, kq + 1) :: rest) base L own ro :=
  nq (Post := fun L' own' ro' => ∃ s : Nat, L' = (d, .tuple #[val ((mget k kv).getD z), .int .i64 (s : Int)]) :: L ∧ own' = own.set j [(bk, .pred (isMapS (mput0 k z kv) k s))] ∧ ro' = ro) rfl
    (fun w Kt hw hK => by
      subst hkx
      obtain ⟨o, ho, ⟨es, clock, rfl, he, hbn⟩, hc⟩ := hw.has.o _ (List.mem_of_getElem? hs) _ (List.mem_singleton.2 rfl)
      have hlen : es.length = kv.length := by simpa using congrArg List.length he
      unfold Oper.wp
      rw [A_eval_fun]
      cases hf : fnd k kv 0 with
      | none =>
        simp only [execOp, hx, hy, Instr.mapEntry, Sem.run_bind, run_underlying hu, Result.andThen_ok, run_getMap ho hc, Sem.run_pure, hk.chk, map_run hk he, hf, Option.map_none, run_zero' hz, run_setMap ho hc, Oper.upon]
        show Kt ((A cx.n base L).put (some d) _) _
        rw [A_put]
        refine hK _ _ _ _ ⟨clock, ?_, rfl, rfl⟩ (hw.turnObj hs ⟨⟨es ++ [⟨val k, val z, clock⟩], clock + 1, by simp, by simp [he, mput0, hf], hbn.push _ _, kv.length, by simp [mput0, hf, fnd_app hf], by simp [← hlen]⟩, rfl⟩)
        simp [mget, hf, goInt]
      | some r =>
        obtain ⟨_, hr⟩ := fnd_get hf
        rw [Nat.sub_zero] at hr
        obtain ⟨hlt, hre⟩ := List.getElem?_eq_some_iff.1 hr
        have hlt' : r.1 < es.length := by omega
        have hkey : es[r.1].key = val k := by
          have h1 := congrArg (fun l => (l[r.1]?).map (·.1)) he
          simp [hlt', hlt, hre] at h1; exact h1
        have hks : ∀ w, (Instr.keyThatStays es[r.1].key (val k)).run cx.P w = .ok (val k) w := fun w => by
          unfold Instr.keyThatStays; rw [hkey, if_pos (hsb k)]; rfl
        simp only [execOp, hx, hy, Instr.mapEntry, Sem.run_bind, run_underlying hu, Result.andThen_ok, run_getMap ho hc, Sem.run_pure, hk.chk, map_run hk he, hf, Option.map_some, List.getElem?_toArray, List.getElem?_eq_getElem hlt', Option.getD_some, hks, run_setMap ho hc, Oper.upon]
        show Kt ((A cx.n base L).put (some d) _) _
        rw [A_put]
        have hmod : (es.modify r.1 fun e => { e with key := val k }) = es := by
          apply List.ext_getElem?
          intro m
          rw [List.getElem?_modify]
          split
          · next e => subst e; rw [List.getElem?_eq_getElem hlt', ← hkey]; simp
          · simp
        refine hK _ _ _ _ ⟨es[r.1].born, ?_, rfl, rfl⟩ (hw.turnObj hs ⟨⟨es, clock, ?_, by simp [he, mput0, hf], hbn, r.1, by simp [mput0, hf], by simp [hlt']⟩, rfl⟩)
        · simp [mget, hf, goInt]
        · simp [hmod])
    (by rintro L' own' ro' ⟨s, rfl, rfl, rfl⟩; exact (h s).1)
    (by rintro L' own' ro' ⟨s, rfl, rfl, rfl⟩; exact (h s).2)

theorem lk1S {α β : Type} [Enc α] [Enc β] [DecidableEq α] {K E bk s : Nat} {kx : Value} {k' : α} {v : β} (j : Nat) (kv : List (α × β)) (k : α) (z : β) (hx : ev cx.n base L x = .map (some bk)) (hy : ev cx.n base L y = kx) (hkx : kx = val k) (hu : cx.P.underlying xt = some (.map K E))
    (hk : KeyT cx.P K α) (hz : Zt cx.P E (val z)) (hs : (Src md q own ro)[j]? = some [(bk, .pred (isMapS kv k' s))]) (hv : (mget k kv).getD z = v)
    (h : JG cx md ops Q rest base ((d, val v) :: L) own ro) : JG cx md ops Q ((⟨some d, .lookup xt x y false, ty, pos, aft, none⟩, q) :: rest) base L own ro :=
  qt (fun w hw => by
    subst hkx; subst hv
    obtain ⟨o, ho, ⟨es, clock, rfl, he, _⟩, hc⟩ := hw _ (List.mem_of_getElem? hs) _ (List.mem_singleton.2 rfl)
    simp only [execOp, hx, hy, Instr.lookup, Sem.run_bind, run_underlying hu, Result.andThen_ok, run_getMap ho hc, Sem.run_pure, hk.chk, map_run hk he]
    cases hf : fnd k kv 0 with
    | none => simp [mget, hf, run_zero' hz]
    | some r => simp [mget, hf]) h

theorem ens {α β : Type} [Enc α] [Enc β] [DecidableEq α] {bk s : Nat} {vx : Value} (j : Nat) (kv : List (α × β)) (k : α) (v : β) (hx : ev cx.n base L x = .map (some bk)) (hy : ev cx.n base L y = .int .i64 (s : Int)) (hz : ev cx.n base L z = vx) (hvx : vx = val v)
    (hs : own[j]? = some [(bk, .pred (isMapS kv k s))])
    (h : Keep md kq rest (own.set j [(bk, .pred (isMap (mset k v kv)))]) ro ∧ JG cx md ops Q rest base L (own.set j [(bk, .pred (isMap (mset k v kv)))]) ro) :
    JG cx md ops Q ((⟨none, .entryStore xt x y z, ty, pos, aft, none⟩, kq + 1) :: rest) base L own ro :=
  nq (Post := fun L' own' ro' => L' = L ∧ own' = own.set j [(bk, .pred (isMap (mset k v kv)))] ∧ ro' = ro) rfl
    (fun w Kt hw hK => by
      subst hvx
      obtain ⟨o, ho, ⟨es, clock, rfl, he, hbn, i, hi, hb⟩, hc⟩ := hw.has.o _ (List.mem_of_getElem? hs) _ (List.mem_singleton.2 rfl)
      have hlen : es.length = kv.length := by simpa using congrArg List.length he
      unfold Oper.wp
      rw [A_eval_fun]
      cases hf : fnd k kv 0 with
      | none => simp [hf] at hi
      | some r =>
        simp [hf] at hi; subst hi
        obtain ⟨_, hr⟩ := fnd_get hf
        rw [Nat.sub_zero] at hr
        obtain ⟨hlt, hre⟩ := List.getElem?_eq_some_iff.1 hr
        have hlt' : r.1 < es.length := by omega
        have hkey : es[r.1].key = val k := by
          have h1 := congrArg (fun l => (l[r.1]?).map (·.1)) he
          simp [hlt', hlt, hre] at h1; exact h1
        simp only [execOp, hx, hy, hz, Instr.entryStore, Sem.run_bind, Result.andThen_ok, run_getMap ho hc, Sem.run_pure, asInt, asIntOf, find_born hbn.1 hb, run_setMap ho hc, Oper.upon]
        refine hK _ _ _ _ ⟨rfl, rfl, rfl⟩ (hw.turnObj hs ⟨⟨es.modify r.1 fun e => { e with val := val v }, clock, by first | rfl | simp, ?_, hbn.same ?_⟩, rfl⟩)
        · simp only [mset, hf]
          apply List.ext_getElem?
          intro m
          have hm := congrArg (fun l => l[m]?) he
          simp only [List.getElem?_map] at hm
          simp only [List.getElem?_map, List.getElem?_modify, List.getElem?_set]
          by_cases e : r.1 = m
          · subst e; simp [hlt, hlt', hkey]
          · simp [e]; exact hm
        · apply List.ext_getElem?
          intro m
          simp only [List.getElem?_map, List.getElem?_modify]
          by_cases e : r.1 = m
          · subst e; simp [hlt']
          · simp [e])
    (by rintro L' own' ro' ⟨rfl, rfl, rfl⟩; exact h.1)
    (by rintro L' own' ro' ⟨rfl, rfl, rfl⟩; exact h.2)
/-- Outside these slots the two are alike. -/
def Out (W : List Nat) (b c : Nat → Value) : Prop := ∀ t, W.any (Nat.beq t) = false → b t = c t
theorem out_self {W : List Nat} {g b : Nat → Value} : Out W (hav W g b) b := fun t h => by unfold hav; rw [h]; rfl
theorem out_hav {W W2 : List Nat} {g b c : Nat → Value} (hW : W2.all (fun t => W.any (Nat.beq t)) = true) (h : Out W c b) : Out W (hav W2 g c) b := fun t ht => by
  unfold hav
  cases hb : W2.any (Nat.beq t) with
  | false => exact h t ht
  | true =>
    obtain ⟨x, hx, he⟩ := List.any_eq_true.1 hb
    have := Nat.eq_of_beq_eq_true he; subst this
    have := List.all_eq_true.1 hW t hx
    rw [ht] at this; cases this
theorem out_look {W : List Nat} {b c : Nat → Value} {L : List (Nat × Value)} (hL : L.all (fun p => W.any (Nat.beq p.1)) = true) (h : Out W c b) : Out W (look c L) b := fun t ht => by
  rw [look_out fun p hp e => ?_]
  · exact h t ht
  · have := List.all_eq_true.1 hL p hp
    rw [e, ht] at this; cases this
theorem e_lp {Q0 : Exit → Act → World → Prop} {st : List Fr} {σ : Type} {I : σ → Prop} {Ls : σ → List (Nat × Value)} {owns ros : σ → List Seg} {W : List Nat} {base' : Nat → Value} {less : σ → Prop} (s : σ) (hb : Out W base base') (hI : I s) (hl : less s)
    (hm : Mt (look base L) (Ls s)) (hk : L.all (fun p => W.any (Nat.beq p.1)) = true) (ho : own = owns s) (hr : ro = ros s) :
    JE cx .normal Q0 (.lp (Hd cx I Ls owns ros W base' less) :: st) base L own ro := JE.mk fun w hw => by
  subst ho; subst hr
  refine ⟨s, hI, hl, ⟨look base L, A_ext fun t _ => ?_⟩, hw⟩
  refine (Mt.look hm t fun _ => ?_).symm
  unfold hav
  cases h : W.any (Nat.beq t) with
  | true => rfl
  | false =>
    simp only [cond_false]
    rw [look_out fun p hp e => ?_, hb t h]
    have := List.all_eq_true.1 hk p hp
    rw [e, h] at this; cases this
/-- bools held against each other -/
theorem eqbo {a b : Bool} {op : BinOp} (r : Bool) (hx : ev cx.n base L x = .bool a) (hy : ev cx.n base L y = .bool b) (hu : cx.P.underlying xt = some .bool) (hr : (match op with | .eql => some (a == b) | .neq => some (a != b) | _ => none) = some r)
    (h : JG cx md ops Q rest base ((d, .bool r) :: L) own ro) : JG cx md ops Q ((⟨some d, .binOp op xt x y yt, ty, pos, aft, none⟩, q) :: rest) base L own ro :=
  qt (fun w _ => by
    have h0 : ∀ op, eqGuard op xt x y (.bool a) (.bool b) = pure () := fun op => eqGuard_at_bool ..
    have h1 : binOp .eql xt (.bool a) (.bool b) = (do pure (.bool (← Op.equalIn (9999 + 1) xt (.bool a) (.bool b)))) := by cases a <;> rfl
    have h2 : binOp .neq xt (.bool a) (.bool b) = (do pure (.bool (!(← Op.equalIn (9999 + 1) xt (.bool a) (.bool b))))) := by cases a <;> rfl
    have h3 : (Op.equalIn (9999 + 1) xt (.bool a) (.bool b)).run cx.P w = .ok (a == b) w := by rw [run_equalIn_bool' w 9999 xt _ _ hu]
    cases op <;> dsimp only at hr <;> cases hr
    · simp only [execOp, hx, hy, h0, h1, Sem.run_bind, Sem.run_pure, Result.andThen_ok, h3]
    · simp only [execOp, hx, hy, h0, h2, Sem.run_bind, Sem.run_pure, Result.andThen_ok, h3]; rfl) h
/-- A guard that hangs on what was not asked. -/
theorem g_und {l : List (Oper × Nat)} {t j dd : Nat} {op : Op} {b : Bool}
    (hj : (ops[j]?).bind (·.dst) = some dd) (hd : Nat.blt dd cx.n = true) (hl : look base L dd = undef)
    (h : JG cx md ops Q l base ((t, undef) :: L) own ro) : JG cx md ops Q ((⟨some t, op, ty, pos, aft, some (j, b)⟩, q) :: l) base L own ro := by
  have hdn : dd < cx.n := Nat.ble_eq.mp hd
  have hw : Region.wanted ⟨some t, op, ty, pos, aft, some (j, b)⟩ (yielded ops (A cx.n base L).tmps) = false := by
    have : yielded ops (A cx.n base L).tmps j = none := by
      unfold yielded; rw [hj]; simp [A, hdn, hl, undef]
    simp [Region.wanted, this]
  unfold JG at *
  cases md with
  | pl =>
    intro w hin
    have h := h w hin
    simp only [List.map_cons, wpList]
    rw [if_neg (by rw [hw]; simp), A_put]
    exact h
  | dr S =>
    intro w hin hS
    have h := h w hin fun p hp => hS p (List.mem_cons_of_mem _ hp)
    cases q with
    | zero => exact ⟨undef, .inr ⟨hw, rfl⟩, by show wpPl _ _ _ _ _ ((A cx.n base L).put (some t) undef) w; rw [A_put]; exact h⟩
    | succ k =>
      simp only [wpPl]
      rw [if_neg (by rw [hw]; simp)]
      show _ ∧ wpPl _ _ _ _ _ ((A cx.n base L).put (some t) undef) w
      rw [A_put]
      exact ⟨fun e => hS _ (List.mem_cons_self ..) (by subst e; exact Nat.lt_succ_self 1), h⟩
/-- A slot's value, said otherwise. -/
theorem j_re {l : List (Oper × Nat)} (d : Nat) (v' : Value) (hv : look base L d = v') (h : JG cx md ops Q l base ((d, v') :: L) own ro) : JG cx md ops Q l base L own ro := by
  unfold JG at *; rw [A_same hv] at h; exact h
theorem j_addE {l : List (Oper × Nat)} (h : JG cx .pl ops Q l base L (own ++ [[]]) ro) : JG cx .pl ops Q l base L own ro := by
  unfold JG at h ⊢
  exact fun w hw => h w hw.addE
end
end Go.PW
