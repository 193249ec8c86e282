/- The engine: the rules, one for each kind of operation. No condition. -/
import Derived.Test.YthpbiamicidakaaDoorEc
namespace Go.PW
open Enc (enc val)
open Go

section
variable {cx : Cx} {md : Md} {ops : Array Oper} {Q : Exit → Act → World → Prop} {rest : List (Oper × Nat)} {kq : Nat} {base : Nat → Value} {L : List (Nat × Value)} {own ro : List Seg}
variable {q : Nat} {d : Nat} {ty : TypeId} {pos : String} {aft : Array Edge} {x y z : Operand}

theorem mv (v : Value) (hx : ev cx.n base L x = v) (h : JG cx md ops Q rest base ((d, v) :: L) own ro) : JG cx md ops Q ((⟨some d, .move x, ty, pos, aft, none⟩, q) :: rest) base L own ro :=
  qt (fun w _ => by subst hx; rfl) h
theorem asg (v : Value) (hx : ev cx.n base L x = v) (h : JG cx md ops Q rest base ((d, v) :: L) own ro) : JG cx md ops Q ((⟨some d, .assign x, ty, pos, aft, none⟩, q) :: rest) base L own ro :=
  qt (fun w _ => by subst hx; rfl) h
theorem pkt (v : Value) (hz : ev cx.n base L z = .bool true) (hx : ev cx.n base L x = v) (h : JG cx md ops Q rest base ((d, v) :: L) own ro) : JG cx md ops Q ((⟨some d, .pick z x y, ty, pos, aft, none⟩, q) :: rest) base L own ro :=
  qt (fun w _ => by subst hx; simp [execOp, hz, asBool]) h
theorem pkf (v : Value) (hz : ev cx.n base L z = .bool false) (hx : ev cx.n base L y = v) (h : JG cx md ops Q rest base ((d, v) :: L) own ro) : JG cx md ops Q ((⟨some d, .pick z x y, ty, pos, aft, none⟩, q) :: rest) base L own ro :=
  qt (fun w _ => by subst hx; simp [execOp, hz, asBool]) h
theorem xtr (v : Value) {i : Nat} {vs : Array Value} (hx : ev cx.n base L x = .tuple vs) (hv : vs[i]? = some v) (h : JG cx md ops Q rest base ((d, v) :: L) own ro) : JG cx md ops Q ((⟨some d, .extract x i, ty, pos, aft, none⟩, q) :: rest) base L own ro :=
  qt (fun w _ => by simp [execOp, hx, Instr.extract, hv]) h
theorem nlc {a : Addr} (hx : ev cx.n base L x = .pointer (some a)) (h : JG cx md ops Q rest base ((d, .pointer (some a)) :: L) own ro) : JG cx md ops Q ((⟨some d, .nilCheck x, ty, pos, aft, none⟩, q) :: rest) base L own ro :=
  qt (fun w _ => by simp [execOp, hx]) h

/-! whole numbers -/
variable {k : IntKind} {a b : Int} {xt yt : TypeId}
def cmpV : BinOp → Int → Int → Option Bool
  | .eql, a, b => some (decide (a = b))
  | .neq, a, b => some (!decide (a = b))
  | .lss, a, b => some (decide (a < b))
  | .leq, a, b => some (decide (a ≤ b))
  | .gtr, a, b => some (decide (b < a))
  | .geq, a, b => some (decide (b ≤ a))
  | _, _, _ => none
theorem cmp {op : BinOp} (r : Bool) (hx : ev cx.n base L x = .int k a) (hy : ev cx.n base L y = .int k b) (hr : cmpV op a b = some r)
    (h : JG cx md ops Q rest base ((d, .bool r) :: L) own ro) : JG cx md ops Q ((⟨some d, .binOp op xt x y yt, ty, pos, aft, none⟩, q) :: rest) base L own ro :=
  qt (fun w _ => by
    cases op <;> simp only [cmpV] at hr <;> cases hr <;> simp only [execOp, hx, hy] <;> cases k <;> rfl) h
def ariV (k : IntKind) : BinOp → Int → Int → Option Int
  | .add, a, b => some (k.wrap (a + b))
  | .sub, a, b => some (k.wrap (a - b))
  | .mul, a, b => some (k.wrap (a * b))
  | _, _, _ => none
theorem ari {op : BinOp} (r : Int) (hx : ev cx.n base L x = .int k a) (hy : ev cx.n base L y = .int k b) (hr : ariV k op a b = some r)
    (h : JG cx md ops Q rest base ((d, .int k r) :: L) own ro) : JG cx md ops Q ((⟨some d, .binOp op xt x y yt, ty, pos, aft, none⟩, q) :: rest) base L own ro :=
  qt (fun w _ => by
    cases op <;> simp [ariV] at hr <;> subst hr <;> simp [execOp, hx, hy, binOp, Op.intArith, eqGuard_at_int]) h
theorem i64w {n : Int} (h : -9223372036854775808 ≤ n ∧ n ≤ 9223372036854775807) : IntKind.i64.wrap n = n := 
  IntWalk.i64_in _ h
theorem addi {op : BinOp} (hx : ev cx.n base L x = .int .i64 a) (hy : ev cx.n base L y = .int .i64 b) (hop : op = .add) (hr : -9223372036854775808 ≤ a + b ∧ a + b ≤ 9223372036854775807)
    (h : JG cx md ops Q rest base ((d, .int .i64 (a + b)) :: L) own ro) : JG cx md ops Q ((⟨some d, .binOp op xt x y yt, ty, pos, aft, none⟩, q) :: rest) base L own ro :=
  ari (a + b) hx hy (by subst hop; simp [ariV, i64w hr]) h
theorem subi {op : BinOp} (hx : ev cx.n base L x = .int .i64 a) (hy : ev cx.n base L y = .int .i64 b) (hop : op = .sub) (hr : -9223372036854775808 ≤ a - b ∧ a - b ≤ 9223372036854775807)
    (h : JG cx md ops Q rest base ((d, .int .i64 (a - b)) :: L) own ro) : JG cx md ops Q ((⟨some d, .binOp op xt x y yt, ty, pos, aft, none⟩, q) :: rest) base L own ro :=
  ari (a - b) hx hy (by subst hop; simp [ariV, i64w hr]) h
theorem muli {op : BinOp} (hx : ev cx.n base L x = .int .i64 a) (hy : ev cx.n base L y = .int .i64 b) (hop : op = .mul) (hr : -9223372036854775808 ≤ a * b ∧ a * b ≤ 9223372036854775807)
    (h : JG cx md ops Q rest base ((d, .int .i64 (a * b)) :: L) own ro) : JG cx md ops Q ((⟨some d, .binOp op xt x y yt, ty, pos, aft, none⟩, q) :: rest) base L own ro :=
  ari (a * b) hx hy (by subst hop; simp [ariV, i64w hr]) h
theorem not_ {b : Bool} (hx : ev cx.n base L x = .bool b) (h : JG cx md ops Q rest base ((d, .bool (!b)) :: L) own ro) : JG cx md ops Q ((⟨some d, .unOp .not xt x, ty, pos, aft, none⟩, q) :: rest) base L own ro :=
  qt (fun w _ => by simp [execOp, hx, Op.unary]) h
theorem cvi {k' : IntKind} {ds : TypeDesc} {src dst : TypeId} (hx : ev cx.n base L x = .int k a) (hs : cx.P.underlying src = some ds) (hd : cx.P.underlying dst = some (.int k'))
    (h : JG cx md ops Q rest base ((d, .int k' (k'.wrap a)) :: L) own ro) : JG cx md ops Q ((⟨some d, .convert src dst x, ty, pos, aft, none⟩, q) :: rest) base L own ro :=
  qt (fun w _ => by simp [execOp, hx, convert, run_underlying hs, run_underlying hd, Conv.intToInt]) h
theorem run_eq_ptr_nil {P : Program} {w : World} {t e : TypeId} {a : Option Addr} (n : Nat) (hu : P.underlying t = some (.pointer e)) : (Op.equalIn (n + 1) t (.pointer a) (.pointer none)).run P w = .ok a.isNone w := by
  cases a <;> simp [Op.equalIn, run_underlying hu]
/-- pointers held against nil -/
theorem eqpn {a : Option Addr} {e : TypeId} {op : BinOp} (r : Bool) (hx : ev cx.n base L x = .pointer a) (hy : ev cx.n base L y = .pointer none) (hu : cx.P.underlying xt = some (.pointer e))
    (hr : (match op with | .eql => some a.isNone | .neq => some !a.isNone | _ => none) = some r)
    (h : JG cx md ops Q rest base ((d, .bool r) :: L) own ro) : JG cx md ops Q ((⟨some d, .binOp op xt x y yt, ty, pos, aft, none⟩, q) :: rest) base L own ro :=
  qt (fun w _ => by
    have h0 : ∀ op, eqGuard op xt x y (.pointer a) (.pointer none) = pure () := fun op => eqGuard_at_pointer ..
    have h1 : binOp .eql xt (.pointer a) (.pointer none) = (do pure (.bool (← Op.equalIn (9999 + 1) xt (.pointer a) (.pointer none)))) := by cases a <;> rfl
    have h2 : binOp .neq xt (.pointer a) (.pointer none) = (do pure (.bool (!(← Op.equalIn (9999 + 1) xt (.pointer a) (.pointer none))))) := by cases a <;> rfl
    cases op <;> dsimp only at hr <;> cases hr
    · simp only [execOp, hx, hy, h0, h1, Sem.run_bind, Sem.run_pure, Result.andThen_ok, run_eq_ptr_nil 9999 hu]
    · simp only [execOp, hx, hy, h0, h2, Sem.run_bind, Sem.run_pure, Result.andThen_ok, run_eq_ptr_nil 9999 hu]) h

/-! memory -/
theorem lenS {e : TypeId} {a : Option Addr} {n c : Nat} (hx : ev cx.n base L x = .slice a n c) (hu : cx.P.underlying xt = some (.slice e))
    (h : JG cx md ops Q rest base ((d, .int .i64 n) :: L) own ro) : JG cx md ops Q ((⟨some d, .call ⟨.builtin .len, #[x], #[xt]⟩, ty, pos, aft, none⟩, q) :: rest) base L own ro :=
  qt (fun w _ => by simp [execOp, resolve, hx, invoke, builtin, Builtin.len_, run_underlying hu, goInt]) h
theorem lenStr {s : ByteArray} (hx : ev cx.n base L x = .string s) (hu : cx.P.underlying xt = some .string)
    (h : JG cx md ops Q rest base ((d, .int .i64 s.size) :: L) own ro) : JG cx md ops Q ((⟨some d, .call ⟨.builtin .len, #[x], #[xt]⟩, ty, pos, aft, none⟩, q) :: rest) base L own ro :=
  qt (fun w _ => by simp [execOp, resolve, hx, invoke, builtin, Builtin.len_, run_underlying hu, goInt]) h
theorem fad {bk o : Nat} {fs : Array Field} {f : Nat} {fl : Field} {n : Nat} (hx : ev cx.n base L x = .pointer (some ⟨bk, o, none⟩)) (hu : cx.P.underlying xt = some (.struct fs)) (hf : fs[f]? = some fl)
    (hs : (cx.P.info? fl.type).map (·.size) = some (n + 1))
    (h : JG cx md ops Q rest base ((d, .pointer (some ⟨bk, o + fl.offset, none⟩)) :: L) own ro) : JG cx md ops Q ((⟨some d, .fieldAddr xt x f, ty, pos, aft, none⟩, q) :: rest) base L own ro :=
  qt (fun w _ => by simp [execOp, hx, Instr.fieldAt, run_underlying hu, hf, Instr.sureAddr, fieldPlace, run_sizeOf' hs, add_none]) h
theorem ixa {e : TypeId} {bk o len cp n : Nat} {i : Int} (j : Nat) (hx : ev cx.n base L x = .slice (some ⟨bk, o, none⟩) len cp) (hy : ev cx.n base L y = .int k i) (hu : cx.P.underlying xt = some (.slice e))
    (hs : (cx.P.info? e).map (·.size) = some n) (hi : i = (j : Int)) (hj : j < len)
    (h : JG cx md ops Q rest base ((d, .pointer (some ⟨bk, o + j * n, none⟩)) :: L) own ro) : JG cx md ops Q ((⟨some d, .indexAddr xt x y, ty, pos, aft, none⟩, q) :: rest) base L own ro :=
  qt (fun w _ => by
    subst hi
    simp [execOp, hx, hy, Instr.indexAt, asIntOf, run_underlying hu, hj, run_sizeOf' hs, add_none]) h
theorem ixaA {e : TypeId} {bk o len n : Nat} {i : Int} (j : Nat) (hx : ev cx.n base L x = .pointer (some ⟨bk, o, none⟩)) (hy : ev cx.n base L y = .int k i) (hu : cx.P.underlying xt = some (.array len e))
    (hs : (cx.P.info? e).map (·.size) = some n) (hi : i = (j : Int)) (hj : j < len)
    (h : JG cx md ops Q rest base ((d, .pointer (some ⟨bk, o + j * n, none⟩)) :: L) own ro) : JG cx md ops Q ((⟨some d, .indexAddr xt x y, ty, pos, aft, none⟩, q) :: rest) base L own ro :=
  qt (fun w _ => by
    subst hi
    simp [execOp, hx, hy, Instr.indexAt, asIntOf, run_underlying hu, hj, run_sizeOf' hs, add_none, Instr.sureAddr]) h

theorem ldg {t bk o : Nat} {p : Pt} {s : Seg} (hx : ev cx.n base L x = .pointer (some ⟨bk, o, none⟩)) (hs : s ∈ Src md q own ro) (ht : Ty cx.P t p.n p.ag) (hc : ∀ w, SegIn w s → cellsAt w bk o p.c)
    (h : JG cx md ops Q rest base ((d, p.v) :: L) own ro) : JG cx md ops Q ((⟨some d, .load t x, ty, pos, aft, none⟩, q) :: rest) base L own ro :=
  qt (fun w hw => by simp [execOp, hx, Instr.loadAt, Instr.sureAddr, run_load_pt ht (hc w (hw s hs))]) h
/-- A part of a variable. -/
theorem ldp {t bk o E n : Nat} {c : List Value} {v : Value} {ag : Bool} {l1 l2 l3} (j i : Nat) (ps : List Pt) (hx : ev cx.n base L x = .pointer (some ⟨bk, o, none⟩)) (hs : (Src md q own ro)[j]? = some [(bk, .cells (cat ps) E)])
    (hp : ps[i]? = some ⟨n, c, v, ag, l1, l2, l3⟩) (ho : psum ps i = o) (ht : Ty cx.P t n ag)
    (h : JG cx md ops Q rest base ((d, v) :: L) own ro) : JG cx md ops Q ((⟨some d, .load t x, ty, pos, aft, none⟩, q) :: rest) base L own ro :=
  ldg (p := ⟨n, c, v, ag, l1, l2, l3⟩) hx (List.mem_of_getElem? hs) ht (fun w hw => by
    obtain ⟨pre, post, h1, h2, _⟩ := cat_split hp
    exact cellsAt_cells hw (List.mem_singleton.2 rfl) h1 (h2.trans ho)) h
/-- A whole variable of several parts. -/
theorem ldw {t bk E : Nat} (j : Nat) (ps : List Pt) (hx : ev cx.n base L x = .pointer (some ⟨bk, 0, none⟩)) (hs : (Src md q own ro)[j]? = some [(bk, .cells (cat ps) E)])
    (ht : Ty cx.P t (psum ps ps.length) true)
    (h : JG cx md ops Q rest base ((d, .agg ⟨cat ps⟩) :: L) own ro) : JG cx md ops Q ((⟨some d, .load t x, ty, pos, aft, none⟩, q) :: rest) base L own ro :=
  ldg (p := pa ps) hx (List.mem_of_getElem? hs) ht (fun w hw => cellsAt_cells hw (List.mem_singleton.2 rfl) (pre := []) (post := []) (by simp [pa]) rfl) h
/-- An element of a row of its own. -/
theorem ldo {α : Type} [Enc α] {t bk o E : Nat} {sp : List Value} {xs : List α} (j i : Nat) (hx : ev cx.n base L x = .pointer (some ⟨bk, o, none⟩)) (hs : (Src md q own ro)[j]? = some [(bk, .cells (encs xs ++ sp) E)])
    (ho : o = 0 + i * Enc.n α) (hi : i < xs.length) (ht : Ty cx.P t (Enc.n α) (Enc.ag α))
    (h : JG cx md ops Q rest base ((d, val xs[i]) :: L) own ro) : JG cx md ops Q ((⟨some d, .load t x, ty, pos, aft, none⟩, q) :: rest) base L own ro :=
  ldg (p := pt xs[i]) hx (List.mem_of_getElem? hs) ht (fun w hw => cellsAt_cells hw (List.mem_singleton.2 rfl) (pre := encs (xs.take i)) (post := encs (xs.drop (i + 1)) ++ sp)
    (by rw [encs_split xs i hi]; simp [pt]) (by rw [encs_length, List.length_take, Nat.min_eq_left (Nat.le_of_lt hi)]; omega)) h
/-- An element of a row that is only read. -/
theorem ldv {α : Type} [Enc α] {t bk o off : Nat} {xs : List α} (j i : Nat) (hx : ev cx.n base L x = .pointer (some ⟨bk, o, none⟩)) (hs : (Src md q own ro)[j]? = some [(bk, .view off (encs xs))])
    (ho : o = off + i * Enc.n α) (hi : i < xs.length) (ht : Ty cx.P t (Enc.n α) (Enc.ag α))
    (h : JG cx md ops Q rest base ((d, val xs[i]) :: L) own ro) : JG cx md ops Q ((⟨some d, .load t x, ty, pos, aft, none⟩, q) :: rest) base L own ro :=
  ldg (p := pt xs[i]) hx (List.mem_of_getElem? hs) ht (fun w hw => cellsAt_view hw (List.mem_singleton.2 rfl) (pre := encs (xs.take i)) (post := encs (xs.drop (i + 1)))
    (by rw [encs_split xs i hi]; simp [pt]) (by rw [encs_length, List.length_take, Nat.min_eq_left (Nat.le_of_lt hi)]; omega)) h

theorem alo {t : Nat} (ps : List Pt) (v : Value) (hz : Zt cx.P t v) (hv : v.cells = ⟨cat ps⟩) 
    (h : ∀ bk, Keep md kq rest (own ++ [[(bk, .cells (cat ps) t)]]) ro ∧ JG cx md ops Q rest base ((d, .pointer (some ⟨bk, 0, none⟩)) :: L) (own ++ [[(bk, .cells (cat ps) t)]]) ro) :
    JG cx md ops Q ((⟨some d, .alloc t, ty, pos, aft, none⟩, kq + 1) :: rest) base L own ro :=
  nq (Post := fun L' own' ro' => ∃ bk, L' = (d, .pointer (some ⟨bk, 0, none⟩)) :: L ∧ own' = own ++ [[(bk, .cells (cat ps) t)]] ∧ ro' = ro) rfl
    (fun w K hw hK => by
      unfold Oper.wp
      rw [A_eval_fun]
      simp only [execOp, Instr.alloc, Sem.run_bind, run_zero' hz, Result.andThen_ok, newVar, newRow, newObj, Sem.run, hv, Sem.run_pure, Oper.upon]
      rw [A_put]
      exact hK _ _ _ _ ⟨w.heap.size, rfl, rfl, rfl⟩ (hw.alloc _ _ ⟨(0, 0), rfl, .inr (Nat.le_refl _)⟩))
    (by rintro L' own' ro' ⟨bk, rfl, rfl, rfl⟩; exact (h bk).1)
    (by rintro L' own' ro' ⟨bk, rfl, rfl, rfl⟩; exact (h bk).2)
theorem bxx {t : Nat} (ps : List Pt) (v : Value) (hx : ev cx.n base L x = v) (hv : v.cells = ⟨cat ps⟩) 
    (h : ∀ bk, Keep md kq rest (own ++ [[(bk, .cells (cat ps) t)]]) ro ∧ JG cx md ops Q rest base ((d, .pointer (some ⟨bk, 0, none⟩)) :: L) (own ++ [[(bk, .cells (cat ps) t)]]) ro) :
    JG cx md ops Q ((⟨some d, .box t x, ty, pos, aft, none⟩, kq + 1) :: rest) base L own ro :=
  nq (Post := fun L' own' ro' => ∃ bk, L' = (d, .pointer (some ⟨bk, 0, none⟩)) :: L ∧ own' = own ++ [[(bk, .cells (cat ps) t)]] ∧ ro' = ro) rfl
    (fun w K hw hK => by
      unfold Oper.wp
      rw [A_eval_fun]
      simp only [execOp, Instr.box, hx, Sem.run_bind, Result.andThen_ok, newVar, newRow, newObj, Sem.run, hv, Sem.run_pure, Oper.upon]
      rw [A_put]
      exact hK _ _ _ _ ⟨w.heap.size, rfl, rfl, rfl⟩ (hw.alloc _ _ ⟨(0, 0), rfl, .inr (Nat.le_refl _)⟩))
    (by rintro L' own' ro' ⟨bk, rfl, rfl, rfl⟩; exact (h bk).1)
    (by rintro L' own' ro' ⟨bk, rfl, rfl, rfl⟩; exact (h bk).2)

theorem stg {t bk o E j : Nat} {p : Pt} {c pre old post : List Value} (hx : ev cx.n base L x = .pointer (some ⟨bk, o, none⟩)) (hy : ev cx.n base L y = p.v) (hs : own[j]? = some [(bk, .cells c E)])
    (ht : Ty cx.P t p.n p.ag) (hc : c = pre ++ (old ++ post)) (hol : old.length = p.n) (ho : pre.length = o) 
    (h : Keep md kq rest (own.set j [(bk, .cells (pre ++ (p.c ++ post)) E)]) ro ∧ JG cx md ops Q rest base L (own.set j [(bk, .cells (pre ++ (p.c ++ post)) E)]) ro) :
    JG cx md ops Q ((⟨none, .store t x y, ty, pos, aft, none⟩, kq + 1) :: rest) base L own ro :=
  nq (Post := fun L' own' ro' => L' = L ∧ own' = own.set j [(bk, .cells (pre ++ (p.c ++ post)) E)] ∧ ro' = ro) rfl
    (fun w K hw hK => by
      obtain ⟨w', x', hr, hh, hok, hold, hsz, hos, htp, hout⟩ := run_store_pt (P := cx.P) (t := t) (w := w) ht (hw.has.o _ (List.mem_of_getElem? hs) (bk, .cells c E) (List.mem_singleton.2 rfl)) hc hol ho
      unfold Oper.wp
      rw [A_eval_fun]
      simp only [execOp, Instr.storeAt, hx, hy, Instr.sureAddr, Sem.run_bind, Sem.run_pure, Result.andThen_ok, hr, Oper.upon]
      exact hK _ _ _ _ ⟨rfl, rfl, rfl⟩ (hw.turn hs hh hok hold hsz hos htp hout))
    (by rintro L' own' ro' ⟨rfl, rfl, rfl⟩; exact h.1)
    (by rintro L' own' ro' ⟨rfl, rfl, rfl⟩; exact h.2)
/-- A part of a variable, or all of it. -/
theorem stp {t bk o E n : Nat} {c : List Value} {v : Value} {ag : Bool} {l1 l2 l3} (j i : Nat) (ps : List Pt) (p : Pt) (hx : ev cx.n base L x = .pointer (some ⟨bk, o, none⟩)) (hy : ev cx.n base L y = p.v) (hs : own[j]? = some [(bk, .cells (cat ps) E)])
    (hp : ps[i]? = some ⟨n, c, v, ag, l1, l2, l3⟩) (ho : psum ps i = o) (hn : p.n = n) (ht : Ty cx.P t p.n p.ag) 
    (h : Keep md kq rest (own.set j [(bk, .cells (cat (ps.set i p)) E)]) ro ∧ JG cx md ops Q rest base L (own.set j [(bk, .cells (cat (ps.set i p)) E)]) ro) :
    JG cx md ops Q ((⟨none, .store t x y, ty, pos, aft, none⟩, kq + 1) :: rest) base L own ro := by
  obtain ⟨pre, post, h1, h2, h3⟩ := cat_split hp
  rw [h3] at h
  exact stg hx hy hs ht h1 (by simp [hn, l1]) (h2.trans ho) h
/-- All of a variable. -/
theorem stw {t bk E : Nat} (j : Nat) (ps ps' : List Pt) (hx : ev cx.n base L x = .pointer (some ⟨bk, 0, none⟩)) (hy : ev cx.n base L y = .agg ⟨cat ps'⟩) (hs : own[j]? = some [(bk, .cells (cat ps) E)])
    (hn : psum ps ps.length = psum ps' ps'.length) (ht : Ty cx.P t (psum ps' ps'.length) true)
    (h : Keep md kq rest (own.set j [(bk, .cells (cat ps') E)]) ro ∧ JG cx md ops Q rest base L (own.set j [(bk, .cells (cat ps') E)]) ro) :
    JG cx md ops Q ((⟨none, .store t x y, ty, pos, aft, none⟩, kq + 1) :: rest) base L own ro := by
  have e : cat ps' = [] ++ ((pa ps').c ++ []) := by simp [pa]
  rw [e] at h
  exact stg (p := pa ps') hx hy hs ht (pre := []) (post := []) (by simp) ((cat_length ps).trans hn) rfl h

/-! a field of a row's element -/
class Flds (α : Type) [Enc α] where
  parts : α → List Pt
  eq : ∀ x, enc x = cat (parts x)

theorem ldof {α : Type} [Enc α] [Flds α] {t bk o E n : Nat} {c : List Value} {v : Value} {ag : Bool} {l1 l2 l3} {sp : List Value} {xs : List α} (j i f : Nat) (hx : ev cx.n base L x = .pointer (some ⟨bk, o, none⟩)) (hs : (Src md q own ro)[j]? = some [(bk, .cells (encs xs ++ sp) E)])
    (hi : i < xs.length) (hp : (Flds.parts xs[i])[f]? = some ⟨n, c, v, ag, l1, l2, l3⟩) (ho : o = 0 + i * Enc.n α + psum (Flds.parts xs[i]) f) (ht : Ty cx.P t n ag)
    (h : JG cx md ops Q rest base ((d, v) :: L) own ro) : JG cx md ops Q ((⟨some d, .load t x, ty, pos, aft, none⟩, q) :: rest) base L own ro :=
  ldg (p := ⟨n, c, v, ag, l1, l2, l3⟩) hx (List.mem_of_getElem? hs) ht (fun w hw => by
    obtain ⟨pre, post, h1, h2, _⟩ := cat_split hp
    exact cellsAt_cells hw (List.mem_singleton.2 rfl) (pre := encs (xs.take i) ++ pre) (post := post ++ (encs (xs.drop (i + 1)) ++ sp))
      (by rw [encs_split xs i hi, Flds.eq, h1]; simp) (by rw [List.length_append, encs_length, List.length_take, Nat.min_eq_left (Nat.le_of_lt hi), h2]; omega)) h
theorem ldvf {α : Type} [Enc α] [Flds α] {t bk o off n : Nat} {c : List Value} {v : Value} {ag : Bool} {l1 l2 l3} {xs : List α} (j i f : Nat) (hx : ev cx.n base L x = .pointer (some ⟨bk, o, none⟩)) (hs : (Src md q own ro)[j]? = some [(bk, .view off (encs xs))])
    (hi : i < xs.length) (hp : (Flds.parts xs[i])[f]? = some ⟨n, c, v, ag, l1, l2, l3⟩) (ho : o = off + i * Enc.n α + psum (Flds.parts xs[i]) f) (ht : Ty cx.P t n ag)
    (h : JG cx md ops Q rest base ((d, v) :: L) own ro) : JG cx md ops Q ((⟨some d, .load t x, ty, pos, aft, none⟩, q) :: rest) base L own ro :=
  ldg (p := ⟨n, c, v, ag, l1, l2, l3⟩) hx (List.mem_of_getElem? hs) ht (fun w hw => by
    obtain ⟨pre, post, h1, h2, _⟩ := cat_split hp
    exact cellsAt_view hw (List.mem_singleton.2 rfl) (pre := encs (xs.take i) ++ pre) (post := post ++ encs (xs.drop (i + 1)))
      (by rw [encs_split xs i hi, Flds.eq, h1]; simp) (by rw [List.length_append, encs_length, List.length_take, Nat.min_eq_left (Nat.le_of_lt hi), h2]; omega)) h

/-! headers of slices: read -/
/-- A slice's header: is it nil, its block, where it begins there, its capacity. -/
structure Vs where
  nl : Bool
  b : Nat
  off : Nat
  cap : Nat
  wa : Option Addr   -- where it points, if no memory of it is looked at
def Vs.adr (s : Vs) : Option Addr := if s.nl then s.wa else some ⟨s.b, s.off, none⟩
abbrev Vs.v (s : Vs) (n : Nat) : Value := .slice s.adr n s.cap
def Vs.seg {α : Type} [Enc α] (s : Vs) (xs : List α) : Seg := if s.nl then [] else [(s.b, .view s.off (encs xs))]
structure Vs.ok {α : Type} (s : Vs) (xs : List α) : Prop where
  nl : s.nl = true → xs = []
  le : xs.length ≤ s.cap

theorem ixs {k : IntKind} {e n : Nat} {i : Int} {α : Type} {len : Nat} (s : Vs) (xs : List α) (j : Nat) (hok : s.ok xs) (hx : ev cx.n base L x = .slice s.adr len s.cap) (hl : len = xs.length) (hy : ev cx.n base L y = .int k i) (hu : cx.P.underlying xt = some (.slice e))
    (hs : (cx.P.info? e).map (·.size) = some n) (hi : i = (j : Int)) (hj : j < xs.length)
    (h : JG cx md ops Q rest base ((d, .pointer (some ⟨s.b, s.off + j * n, none⟩)) :: L) own ro) : JG cx md ops Q ((⟨some d, .indexAddr xt x y, ty, pos, aft, none⟩, q) :: rest) base L own ro := by
  have hn : s.nl = false := by
    cases hb : s.nl with
    | false => rfl
    | true => have := hok.nl hb; subst this; simp at hj
  have ha : s.adr = some ⟨s.b, s.off, none⟩ := by simp [Vs.adr, hn]
  rw [ha] at hx
  exact ixa j hx hy hu hs hi (by omega) h
theorem ldvs {α : Type} [Enc α] {t bk o : Nat} {s : Vs} {xs : List α} (j i : Nat) (hok : s.ok xs) (hx : ev cx.n base L x = .pointer (some ⟨bk, o, none⟩)) (hs : (Src md q own ro)[j]? = some (s.seg xs))
    (hb : bk = s.b) (ho : o = s.off + i * Enc.n α) (hi : i < xs.length) (ht : Ty cx.P t (Enc.n α) (Enc.ag α))
    (h : JG cx md ops Q rest base ((d, val xs[i]) :: L) own ro) : JG cx md ops Q ((⟨some d, .load t x, ty, pos, aft, none⟩, q) :: rest) base L own ro := by
  have hn : s.nl = false := by
    cases hb : s.nl with
    | false => rfl
    | true => have := hok.nl hb; subst this; simp at hi
  subst hb
  exact ldv j i hx (by rw [hs]; simp [Vs.seg, hn]) ho hi ht h
theorem ldvsf {α : Type} [Enc α] [Flds α] {t bk o n : Nat} {c : List Value} {v : Value} {ag : Bool} {l1 l2 l3} {s : Vs} {xs : List α} (j i f : Nat) (hok : s.ok xs) (hx : ev cx.n base L x = .pointer (some ⟨bk, o, none⟩)) (hs : (Src md q own ro)[j]? = some (s.seg xs))
    (hb : bk = s.b) (hi : i < xs.length) (hp : (Flds.parts xs[i])[f]? = some ⟨n, c, v, ag, l1, l2, l3⟩) (ho : o = s.off + i * Enc.n α + psum (Flds.parts xs[i]) f) (ht : Ty cx.P t n ag)
    (h : JG cx md ops Q rest base ((d, v) :: L) own ro) : JG cx md ops Q ((⟨some d, .load t x, ty, pos, aft, none⟩, q) :: rest) base L own ro := by
  have hn : s.nl = false := by
    cases hb : s.nl with
    | false => rfl
    | true => have := hok.nl hb; subst this; simp at hi
  subst hb
  exact ldvf j i f hx (by rw [hs]; simp [Vs.seg, hn]) hi hp ho ht h
end
end Go.PW
