/- The engine: elements of arrays, fields of values, segments parted anew. No condition. -/
import Derived.Test.YthpbiamicidakaaDoorEr
namespace Go.PW
open Enc (enc val)
open Go

theorem encs_set {α : Type} [Enc α] (xs : List α) (k : Nat) (h : k < xs.length) (v : α) : encs (xs.set k v) = encs (xs.take k) ++ (enc v ++ encs (xs.drop (k + 1))) := by
  rw [List.set_eq_take_append_cons_drop, if_pos h, encs_append]; rfl

section
variable {cx : Cx} {md : Md} {ops : Array Oper} {Q : Exit → Act → World → Prop} {rest : List (Oper × Nat)} {kq : Nat} {base : Nat → Value} {L : List (Nat × Value)} {own ro : List Seg}
variable {q : Nat} {d : Nat} {ty : TypeId} {pos : String} {aft : Array Edge} {x y z : Operand} {xt yt : TypeId}

/-- A store into an element of an array that is a part. -/
theorem sta {α : Type} [Enc α] {n t bk o E : Nat} (j i : Nat) (ps : List Pt) (a : Arr α n) (k : Nat) (v : α) (hx : ev cx.n base L x = .pointer (some ⟨bk, o, none⟩)) (hy : ev cx.n base L y = val v) (hs : own[j]? = some [(bk, .cells (cat ps) E)])
    (hp : ps[i]? = some (pt a)) (ho : o = psum ps i + k * Enc.n α) (hk : k < n) (ht : Ty cx.P t (Enc.n α) (Enc.ag α))
    (h : Keep md kq rest (own.set j [(bk, .cells (cat (ps.set i (pt (a.set k v)))) E)]) ro ∧ JG cx md ops Q rest base L (own.set j [(bk, .cells (cat (ps.set i (pt (a.set k v)))) E)]) ro) :
    JG cx md ops Q ((⟨none, .store t x y, ty, pos, aft, none⟩, kq + 1) :: rest) base L own ro := by
  obtain ⟨pre, post, h1, h2, h3⟩ := cat_split hp
  have hkl : k < a.l.length := by rw [a.h]; exact hk
  have e1 : cat ps = (pre ++ encs (a.l.take k)) ++ (enc a.l[k] ++ (encs (a.l.drop (k + 1)) ++ post)) := by
    rw [h1]; show pre ++ (encs a.l ++ post) = _
    rw [encs_split a.l k hkl]; simp
  have e2 : cat (ps.set i (pt (a.set k v))) = (pre ++ encs (a.l.take k)) ++ ((pt v).c ++ (encs (a.l.drop (k + 1)) ++ post)) := by
    rw [h3]; show pre ++ (encs (a.l.set k v) ++ post) = _
    rw [encs_set a.l k hkl]; simp [pt]
  rw [e2] at h
  exact stg (p := pt v) hx hy hs ht e1 (by rw [Enc.len]; rfl) (by rw [List.length_append, h2, encs_length, List.length_take, Nat.min_eq_left (by omega)]; exact ho.symm) h
/-- An element of an array that is a part. -/
theorem lda {α : Type} [Enc α] {n t bk o E : Nat} (j i : Nat) (ps : List Pt) (a : Arr α n) (k : Nat) (v : α) (hx : ev cx.n base L x = .pointer (some ⟨bk, o, none⟩)) (hs : (Src md q own ro)[j]? = some [(bk, .cells (cat ps) E)])
    (hp : ps[i]? = some (pt a)) (ho : o = psum ps i + k * Enc.n α) (hv : a.l[k]? = some v) (ht : Ty cx.P t (Enc.n α) (Enc.ag α))
    (h : JG cx md ops Q rest base ((d, val v) :: L) own ro) : JG cx md ops Q ((⟨some d, .load t x, ty, pos, aft, none⟩, q) :: rest) base L own ro := by
  obtain ⟨hkl, rfl⟩ := List.getElem?_eq_some_iff.1 hv
  refine ldg (p := pt a.l[k]) hx (List.mem_of_getElem? hs) ht (fun w hw => ?_) h
  obtain ⟨pre, post, h1, h2, _⟩ := cat_split hp
  refine cellsAt_cells hw (List.mem_singleton.2 rfl) (pre := pre ++ encs (a.l.take k)) (post := encs (a.l.drop (k + 1)) ++ post) ?_ (by rw [List.length_append, h2, encs_length, List.length_take, Nat.min_eq_left (by omega)]; exact ho.symm)
  rw [h1]; show pre ++ (encs a.l ++ post) = _
  rw [encs_split a.l k hkl]; simp [pt]
/-- A field of a value. -/
theorem fld {fs : Array Field} {f i : Nat} {fl : Field} {n : Nat} {c : List Value} {v : Value} {ag : Bool} {l1 l2 l3} (ps : List Pt) (hx : ev cx.n base L x = .agg ⟨cat ps⟩) (hu : cx.P.underlying xt = some (.struct fs)) (hf : fs[f]? = some fl)
    (hp : ps[i]? = some ⟨n, c, v, ag, l1, l2, l3⟩) (ho : psum ps i = fl.offset) (ht : Ty cx.P fl.type n ag)
    (h : JG cx md ops Q rest base ((d, v) :: L) own ro) : JG cx md ops Q ((⟨some d, .field xt x f, ty, pos, aft, none⟩, q) :: rest) base L own ro :=
  qt (fun w _ => by
    obtain ⟨pre, post, h1, h2, _⟩ := cat_split hp
    have hr := run_part (w := w) (p := ⟨n, c, v, ag, l1, l2, l3⟩) (pre := pre) (post := post) ht (h2.trans ho)
    simp only [execOp, hx, Instr.field, run_underlying hu, hf, asAgg, Sem.run_bind, Result.andThen_ok, Sem.run_pure, h1, hr]) h

/-! segments parted anew -/
theorem In.part {z : Zt0} {own own' ro : List Seg} {w : World} (h : In z own ro w) (hp : own'.flatten.Perm own.flatten) : In z own' ro w := by
  have hb : (blks own').Perm (blks own) := by unfold blks; exact hp.map _
  refine ⟨⟨fun s hs p hps => ?_, h.has.r, (hb.nodup_iff).2 h.has.nd, fun b h1 h2 => h.has.dj b ((hb.mem_iff).1 h1) h2⟩, h.ext, fun b hb' => h.fr b ((hb.mem_iff).1 hb'), h.rf⟩
  have hm : p ∈ own.flatten := (hp.mem_iff).1 (List.mem_flatten.2 ⟨s, hs, hps⟩)
  obtain ⟨s', hs', hp'⟩ := List.mem_flatten.1 hm
  exact h.has.o s' hs' p hp'
theorem c_part {Q0 : Exit → Act → World → Prop} {st : List Fr} {c : Code} {own' : List Seg} (hp : own'.flatten.Perm own.flatten) (h : JC cx c Q0 st base L own' ro) : JC cx c Q0 st base L own ro := JC.mk fun w hw => h.out w (hw.part hp)
theorem e_part {Q0 : Exit → Act → World → Prop} {st : List Fr} {e : Exit} {own' : List Seg} (hp : own'.flatten.Perm own.flatten) (h : JE cx e Q0 st base L own' ro) : JE cx e Q0 st base L own ro := JE.mk fun w hw => h.out w (hw.part hp)
end
theorem JG.mk {cx : Cx} {ops : Array Oper} {Q : Exit → Act → World → Prop} {l : List (Oper × Nat)} {base : Nat → Value} {L : List (Nat × Value)} {own own' ro : List Seg} (hp : own'.flatten.Perm own.flatten) (h : JG cx .pl ops Q l base L own' ro) : JG cx .pl ops Q l base L own ro := by
  unfold JG at *
  exact fun w hw => h w (hw.part hp)
/-- A part of a row of its own gives its elements. -/
theorem gives_sub {α : Type} [Enc α] {P : Program} {S : List Seg} {o : Ow} {xs : List α} {E len cap : Nat} {a : Option Addr} (j l m : Nat) (hok : o.ok xs) (hm : l + m ≤ xs.length) (hs : S[j]? = some (o.seg xs E)) (ha : a = (o.vs.sub l (Enc.n α)).adr) (hn : len = m) : Gives P S (.slice a len cap) ((xs.drop l).take m) := by
  subst hn
  by_cases h0 : len = 0
  · subst h0; rw [List.take_zero]; exact gives_none
  · have hnl : o.nl = false := Ow.ne hok (i := l) (by omega)
    have hle := hok.le
    have hc : ¬ o.cap = l := by omega
    have e : a = some ⟨o.b, 0 + l * Enc.n α, none⟩ := by
      subst ha; simp [Vs.adr, Vs.sub, Ow.vs, hnl, hc]
    subst e
    have hl2 : ((xs.drop l).take len).length = len := by simp; omega
    have hg := gives_own (P := P) (ys := (xs.drop l).take len) (cp := cap) (pre := encs (xs.take l)) (post := encs (xs.drop (l + len)) ++ o.sp) (o := 0 + l * Enc.n α) j (show S[j]? = some [(o.b, .cells (encs xs ++ o.sp) E)] by rw [hs]; simp [Ow.seg, hnl])
      (by
        have e1 : xs = xs.take l ++ ((xs.drop l).take len ++ xs.drop (l + len)) := by rw [← List.drop_drop, List.take_append_drop, List.take_append_drop]
        conv => lhs; rw [e1]
        rw [encs_append, encs_append]; simp) (by rw [encs_length, List.length_take, Nat.min_eq_left (by omega)]; omega)
    rw [hl2] at hg
    exact hg
theorem j_keep {cx : Cx} {ops : Array Oper} {Q : Exit → Act → World → Prop} {l : List (Oper × Nat)} {base : Nat → Value} {L : List (Nat × Value)} {own ro : List Seg} (io jo : List Nat) (ow : List Seg) (how : ow.map some = io.map fun i => own[i]?) (perm : (io ++ jo).isPerm (List.range own.length) = true) (h : JG cx .pl ops Q l base L ow ro) : JG cx .pl ops Q l base L own ro := by
  obtain rfl := pick_of how
  have hpm : (pick io own ++ pick jo own).Perm own := by
    have := pick_perm (own := own) perm
    simpa [pick] using this
  unfold JG at *
  exact fun w hw => h w (hw.drop hpm)
end Go.PW
