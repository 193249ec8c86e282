/- The engine: going over a string's characters; bytes as a string. No condition. -/
import Derived.Test.YthpbiamicidakaaDoorEx
import Derived.Laws.IdiomStrings
import Derived.Lib.Builder
import Derived.Lib.UnsafeStr
namespace Go.PW
open Enc (enc val)
open Go

def isIter (s : Str) (i : Nat) (o : Obj) : Prop := o = .stringIter ⟨⟨s⟩⟩ i
/-- The character at place i, its width, as the machine tells them. -/
def decA (s : Str) (i : Nat) : Nat × Nat := Utf8.decode ⟨⟨s⟩⟩ i

section
variable {cx : Cx} {md : Md} {ops : Array Oper} {Q : Exit → Act → World → Prop} {rest : List (Oper × Nat)} {kq : Nat} {base : Nat → Value} {L : List (Nat × Value)} {own ro : List Seg}
variable {q : Nat} {d : Nat} {ty : TypeId} {pos : String} {aft : Array Edge} {x y z : Operand} {xt yt : TypeId}

theorem rngT {s : Str} (hx : ev cx.n base L x = strV s) (hu : cx.P.underlying xt = some .string)
    (h : ∀ bk, Keep md kq rest (own ++ [[(bk, .pred (isIter s 0))]]) ro ∧ JG cx md ops Q rest base ((d, .pointer (some ⟨bk, 0, none⟩)) :: L) (own ++ [[(bk, .pred (isIter s 0))]]) ro) :
    JG cx md ops Q ((⟨some d, .range xt x, ty, pos, aft, none⟩, kq + 1) :: rest) base L own ro :=
  nq (Post := fun L' own' ro' => ∃ bk, L' = (d, .pointer (some ⟨bk, 0, none⟩)) :: L ∧ own' = own ++ [[(bk, .pred (isIter s 0))]] ∧ ro' = ro) rfl
    (fun w K hw hK => by
      unfold Oper.wp
      rw [A_eval_fun]
      simp only [execOp, Instr.range, hx, Sem.run_bind, run_underlying hu, Result.andThen_ok, newObj, Sem.run, Sem.run_pure, Oper.upon]
      rw [A_put]
      exact hK _ _ _ _ ⟨w.heap.size, rfl, rfl, rfl⟩ (hw.alloc _ _ ⟨rfl, rfl⟩))
    (by rintro L' own' ro' ⟨bk, rfl, rfl, rfl⟩; exact (h bk).1)
    (by rintro L' own' ro' ⟨bk, rfl, rfl, rfl⟩; exact (h bk).2)

/-- One character on. -/
theorem nxtT {s : Str} {i bk : Nat} (j : Nat) (hx : ev cx.n base L x = .pointer (some ⟨bk, 0, none⟩)) (hs : own[j]? = some [(bk, .pred (isIter s i))]) (hi : i < s.length)
    (h : Keep md kq rest (own.set j [(bk, .pred (isIter s (i + (decA s i).2)))]) ro ∧ JG cx md ops Q rest base ((d, .tuple #[.bool true, .int .i64 (i : Int), .int .i32 ((decA s i).1 : Int)]) :: L) (own.set j [(bk, .pred (isIter s (i + (decA s i).2)))]) ro) :
    JG cx md ops Q ((⟨some d, .next x true, ty, pos, aft, none⟩, kq + 1) :: rest) base L own ro :=
  nq (Post := fun L' own' ro' => L' = (d, .tuple #[.bool true, .int .i64 (i : Int), .int .i32 ((decA s i).1 : Int)]) :: L ∧ own' = own.set j [(bk, .pred (isIter s (i + (decA s i).2)))] ∧ ro' = ro) rfl
    (fun w K hw hK => by
      obtain ⟨o, ho, hok, hcell⟩ := hw.has.o _ (List.mem_of_getElem? hs) (bk, .pred (isIter s i)) (List.mem_singleton.2 rfl)
      have hg := run_getMap (P := cx.P) ho hcell
      obtain rfl : o = _ := hok
      have hsz : i < (⟨⟨s⟩⟩ : ByteArray).size := hi
      have hset := run_setMap (P := cx.P) (o' := .stringIter ⟨⟨s⟩⟩ (i + (decA s i).2)) ho rfl
      unfold Oper.wp
      rw [A_eval_fun]
      simp only [execOp, Instr.next, hx, Sem.run_bind, hg, Result.andThen_ok, hsz, if_true]
      have e : Utf8.decode ⟨⟨s⟩⟩ i = ((decA s i).1, (decA s i).2) := rfl
      rw [e]
      simp only [Sem.run_bind, hset, Result.andThen_ok, Sem.run_pure, goInt, Oper.upon]
      rw [A_put]
      exact hK _ _ _ _ ⟨rfl, rfl, rfl⟩ (hw.turnObj hs ⟨rfl, rfl⟩))
    (by rintro L' own' ro' ⟨rfl, rfl, rfl⟩; exact h.1)
    (by rintro L' own' ro' ⟨rfl, rfl, rfl⟩; exact h.2)
/-- No character left. -/
theorem nxtE {s : Str} {i bk : Nat} (j : Nat) (hx : ev cx.n base L x = .pointer (some ⟨bk, 0, none⟩)) (hs : own[j]? = some [(bk, .pred (isIter s i))]) (hi : ¬ i < s.length)
    (h : Keep md kq rest own ro ∧ JG cx md ops Q rest base ((d, .tuple #[.bool false]) :: L) own ro) :
    JG cx md ops Q ((⟨some d, .next x true, ty, pos, aft, none⟩, kq + 1) :: rest) base L own ro :=
  nq (Post := fun L' own' ro' => L' = (d, .tuple #[.bool false]) :: L ∧ own' = own ∧ ro' = ro) rfl
    (fun w K hw hK => by
      obtain ⟨o, ho, hok, hcell⟩ := hw.has.o _ (List.mem_of_getElem? hs) (bk, .pred (isIter s i)) (List.mem_singleton.2 rfl)
      have hg := run_getMap (P := cx.P) ho hcell
      obtain rfl : o = _ := hok
      have hsz : ¬ i < (⟨⟨s⟩⟩ : ByteArray).size := hi
      unfold Oper.wp
      rw [A_eval_fun]
      simp only [execOp, Instr.next, hx, Sem.run_bind, hg, Result.andThen_ok, hsz, if_false, Sem.run_pure, Oper.upon]
      rw [A_put]
      exact hK _ _ _ _ ⟨rfl, rfl, rfl⟩ hw)
    (by rintro L' own' ro' ⟨rfl, rfl, rfl⟩; exact h.1)
    (by rintro L' own' ro' ⟨rfl, rfl, rfl⟩; exact h.2)

/-- Bytes that are only read, as a string. -/
theorem cvBS {s : Vs} {ys : Str} {len : Nat} {src dst e : TypeId} (j : Nat) (hok : s.ok ys) (hx : ev cx.n base L x = .slice s.adr len s.cap) (hl : len = ys.length) (hs : (Src md q own ro)[j]? = some (s.seg ys)) (hsrc : cx.P.underlying src = some (.slice e)) (hd : cx.P.underlying dst = some .string) (he : cx.P.underlying e = some (.int .u8))
    (h : JG cx md ops Q rest base ((d, strV ys) :: L) own ro) : JG cx md ops Q ((⟨some d, .convert src dst x, ty, pos, aft, none⟩, q) :: rest) base L own ro :=
  qt (fun w hw => by
    subst hl
    have hseg := hw _ (List.mem_of_getElem? hs)
    cases hn : s.nl with
    | true =>
      have := hok.nl hn; subst this
      have hr : (convert src dst (.slice s.adr 0 s.cap)).run cx.P w = .ok (strV []) w := by
        rw [run_convert_bytes_string w src dst e _ 0 s.cap hsrc he hd]
        cases s.adr with
        | none => simp [Conv.bytesToString]; rfl
        | some a =>
          have := run_bytesToString (P := cx.P) w a 0 s.cap [] rfl
          rw [this]; rfl
      simp only [List.length_nil] at hx
      simp only [execOp, hx, Sem.run_bind, hr, Result.andThen_ok, Sem.run_pure]
    | false =>
      have ha : s.adr = some ⟨s.b, s.off, none⟩ := by simp [Vs.adr, hn]
      have hg : s.seg ys = [(s.b, .view s.off (encs ys))] := by simp [Vs.seg, hn]
      rw [hg] at hseg
      have hc : cellsAt w s.b s.off (encs ys) := cellsAt_view (pre := []) (post := []) hseg (List.mem_singleton.2 rfl) (by simp) rfl
      have hl := run_loadCells_list (P := cx.P) w ⟨s.b, s.off, none⟩ ((ys.map (fun b => (b.toNat : Int))).map (Value.int .u8)) (fun j v hj => by
        rw [add_none]
        refine hc j v ?_
        rw [encs_bytes]
        simpa using hj)
      simp only [List.length_map] at hl
      have hr : (convert src dst (.slice s.adr ys.length s.cap)).run cx.P w = .ok (strV ys) w := by
        rw [ha, run_convert_bytes_string w src dst e _ ys.length s.cap hsrc he hd, run_bytesToString w _ ys.length s.cap _ hl, foldl_push_byteCells]
        have he0 : ByteArray.empty.data = #[] := rfl
        rw [he0]
        simp
      simp only [execOp, hx, Sem.run_bind, hr, Result.andThen_ok, Sem.run_pure]) h

theorem seg_shape {w : World} {b E : Nat} {c : List Value} (h : SegIn w [(b, .cells c E)]) : w.shape? b = some (E, c.length) := by
  obtain ⟨o, ho, fr, rfl, _⟩ := h _ (List.mem_singleton.2 rfl)
  simp [World.shape?, ho]
/-- A variable's pointer as one without a type, .. -/
theorem cvPU {bk E n : Nat} {c : List Value} {src dst t : TypeId} (j : Nat) (hx : ev cx.n base L x = .pointer (some ⟨bk, 0, none⟩)) (hs : (Src md q own ro)[j]? = some [(bk, .cells c E)]) (hc : 0 < c.length) (hsrc : cx.P.underlying src = some (.pointer t)) (hd : cx.P.underlying dst = some .unsafePointer) (hsz : (cx.P.info? t).map (·.size) = some (n + 1))
    (h : JG cx md ops Q rest base ((d, .pointer (some ⟨bk, 0, none⟩)) :: L) own ro) : JG cx md ops Q ((⟨some d, .convert src dst x, ty, pos, aft, none⟩, q) :: rest) base L own ro :=
  qt (fun w hw => by
    have hsh := seg_shape (hw _ (List.mem_of_getElem? hs))
    cases hi : cx.P.info? t with
    | none => simp [hi] at hsz
    | some i =>
      have hj : i.size ≠ 0 := by simp [hi] at hsz; omega
      have hr := Lib.run_to_unsafe (P := cx.P) (w := w) (src := src) (dst := dst) ⟨bk, 0, none⟩ hsrc hd hi hj hsh hc
      simp only [execOp, hx, Sem.run_bind, hr, Result.andThen_ok, Sem.run_pure]) h
/-- .. and back. -/
theorem cvUP {bk E : Nat} {c : List Value} {src dst u : TypeId} (j : Nat) (hx : ev cx.n base L x = .pointer (some ⟨bk, 0, none⟩)) (hs : (Src md q own ro)[j]? = some [(bk, .cells c E)]) (hsrc : cx.P.underlying src = some .unsafePointer) (hd : cx.P.underlying dst = some (.pointer u)) (hi : (cx.P.info? u).isSome = true)
    (hlies : liesAt cx.P cx.P.depth E (c.length / cx.P.cellsOf E) 0 u 1 = true)
    (h : JG cx md ops Q rest base ((d, .pointer (some ⟨bk, 0, none⟩)) :: L) own ro) : JG cx md ops Q ((⟨some d, .convert src dst x, ty, pos, aft, none⟩, q) :: rest) base L own ro :=
  qt (fun w hw => by
    have hsh := seg_shape (hw _ (List.mem_of_getElem? hs))
    cases hi' : cx.P.info? u with
    | none => simp [hi'] at hi
    | some i =>
      have hr := Lib.run_from_unsafe (P := cx.P) (w := w) (src := src) (dst := dst) ⟨bk, 0, none⟩ hsrc hd hi' hsh hlies
      simp only [execOp, hx, Sem.run_bind, hr, Result.andThen_ok, Sem.run_pure]) h

/-- A pointer is itself. -/
theorem eqps {a : Addr} {e : TypeId} {op : BinOp} (r : Bool) (hx : ev cx.n base L x = .pointer (some a)) (hy : ev cx.n base L y = .pointer (some a)) (hu : cx.P.underlying xt = some (.pointer e)) (hi : (cx.P.info? e).isSome = true)
    (hr : (match op with | .eql => some true | .neq => some false | _ => none) = some r)
    (h : JG cx md ops Q rest base ((d, .bool r) :: L) own ro) : JG cx md ops Q ((⟨some d, .binOp op xt x y yt, ty, pos, aft, none⟩, q) :: rest) base L own ro :=
  qt (fun w _ => by
    cases hi' : cx.P.info? e with
    | none => simp [hi'] at hi
    | some j =>
      have h0 : ∀ op, eqGuard op xt x y (.pointer (some a)) (.pointer (some a)) = pure () := fun op => eqGuard_at_pointer ..
      have hq' : ∀ n : Nat, (Op.equalIn (n + 1) xt (.pointer (some a)) (.pointer (some a))).run cx.P w = .ok true w := fun n => by
        simp [Op.equalIn, run_underlying hu, sizeOf, typeInfo, hi', run_sameAddr_same]
      have hq := hq' 9999
      have h1 : binOp .eql xt (.pointer (some a)) (.pointer (some a)) = (do pure (.bool (← Op.equalIn (9999 + 1) xt (.pointer (some a)) (.pointer (some a))))) := rfl
      have h2 : binOp .neq xt (.pointer (some a)) (.pointer (some a)) = (do pure (.bool (!(← Op.equalIn (9999 + 1) xt (.pointer (some a)) (.pointer (some a)))))) := rfl
      cases op <;> dsimp only at hr <;> cases hr
      · simp only [execOp, hx, hy, h0, h1, Sem.run_bind, Sem.run_pure, Result.andThen_ok, hq]
      · simp only [execOp, hx, hy, h0, h2, Sem.run_bind, Sem.run_pure, Result.andThen_ok, hq]; rfl) h

/-- Where a row begins, or nil. -/
theorem usd {len cap : Nat} {a : Option Addr} {ts : Array TypeId} (hx : ev cx.n base L x = .slice a len cap) (hc : cap ≠ 0 ∨ a = none)
    (h : JG cx md ops Q rest base ((d, .pointer a) :: L) own ro) : JG cx md ops Q ((⟨some d, .call ⟨.builtin .unsafeSliceData, #[x], ts⟩, ty, pos, aft, none⟩, q) :: rest) base L own ro :=
  qt (fun w _ => by
    have hr : (Builtin.unsafeSliceData_ ts ty #[.slice a len cap]).run cx.P w = .ok (.pointer a) w := by
      cases a with
      | none => exact Lib.run_unsafeSliceData_nil w ts ty len cap
      | some a =>
        rcases hc with hc | hc
        · exact Lib.run_unsafeSliceData_row w ts ty a len cap hc
        · cases hc
    simp [execOp, resolve, hx, invoke, builtin, hr]) h

/-- The bytes of a row of its own, as a string; the row is let go. -/
theorem ust {o : Ow} {ys : Str} {E pt it len : Nat} {a : Option Addr} (j : Nat) (hok : o.ok ys) (hx : ev cx.n base L x = .pointer a) (ha : a = o.adr) (hy : ev cx.n base L y = .int .i64 (len : Int)) (hl : len = ys.length) (hs : own[j]? = some (o.seg ys E)) (hp : cx.P.underlying pt = some (.pointer E)) (hc : cx.P.cellsOf E = 1) (h63 : ys.length ≤ 9223372036854775807)
    (h : Keep md kq rest (own.set j []) ro ∧ JG cx md ops Q rest base ((d, strV ys) :: L) (own.set j []) ro) :
    JG cx md ops Q ((⟨some d, .call ⟨.builtin .unsafeString, #[x, y], #[pt, it]⟩, ty, pos, aft, none⟩, kq + 1) :: rest) base L own ro :=
  nq (Post := fun L' own' ro' => L' = (d, strV ys) :: L ∧ own' = own.set j [] ∧ ro' = ro) rfl
    (fun w K hw hK => by
      subst ha; subst hl
      have hrun : ∃ w', (Builtin.unsafeString_ #[pt, it] ty #[.pointer o.adr, .int .i64 (ys.length : Int)]).run cx.P w = .ok (strV ys) w' ∧ (∀ b, b < w.heap.size → b ∉ (o.seg ys E).map (·.1) → w'.heap[b]? = w.heap[b]?) ∧ w.heap.size ≤ w'.heap.size ∧ w'.os = w.os ∧ w'.tape = w.tape ∧ w'.output = w.output := by
        by_cases h0 : ys = []
        · subst h0
          exact ⟨w, Lib.run_unsafeString_none w pt it ty o.adr, fun _ _ _ => rfl, Nat.le_refl _, rfl, rfl, rfl⟩
        · have hnl : o.nl = false := by
            cases hn : o.nl with
            | false => rfl
            | true => exact absurd (hok.nl hn).1 h0
          have hadr : o.adr = some ⟨o.b, 0, none⟩ := by simp [Ow.adr, hnl]
          have hseg : o.seg ys E = [(o.b, .cells (encs ys ++ o.sp) E)] := by simp [Ow.seg, hnl]
          have hin := hw.has.o _ (List.mem_of_getElem? hs)
          rw [hseg] at hin
          have hsh := seg_shape hin
          have hcells : cellsAt w o.b 0 (encs ys) := cellsAt_cells (pre := []) (post := o.sp) hin (List.mem_singleton.2 rfl) (by simp) rfl
          have hr := Lib.run_unsafeString_row (P := cx.P) w pt it ty E hp hc o.b (encs ys ++ o.sp).length hsh ys h0 (by rw [List.length_append, encs_length]; show ys.length ≤ ys.length * 1 + _; omega) h63 (fun i v hv => by
            rw [add_none]
            refine hcells i _ ?_
            rw [encs_bytes]; simp [hv])
          have hpos : ys.length ≠ 0 := by simpa using h0
          refine ⟨_, by rw [hadr]; exact hr, fun b hb hnb => ?_, ?_, ?_, ?_, ?_⟩
          · rw [hseg] at hnb
            simp only [List.map_cons, List.map_nil, List.mem_singleton] at hnb
            simp [World.freeze, hpos, Array.getElem?_modify, Ne.symm hnb]
          all_goals simp [World.freeze, hpos]
      obtain ⟨w', hr, hk, hsz, hos, htp, hout⟩ := hrun
      unfold Oper.wp
      rw [A_eval_fun]
      have hr' : (execOp (ev cx.n base L) ⟨some d, .call ⟨.builtin .unsafeString, #[x, y], #[pt, it]⟩, ty, pos, aft, none⟩).run cx.P w = .ok (.value (strV ys)) w' := by
        simp [execOp, resolve, hx, hy, invoke, builtin, hr]
      simp only [hr', Oper.upon]
      rw [A_put]
      exact hK _ _ _ _ ⟨rfl, rfl, rfl⟩ (hw.dropAdd hs (fun p hp => by cases hp) hk hsz hos htp hout (by simp) (by simp)))
    (by rintro L' own' ro' ⟨rfl, rfl, rfl⟩; exact h.1)
    (by rintro L' own' ro' ⟨rfl, rfl, rfl⟩; exact h.2)
end
end Go.PW
