/- Contracts of the program's functions, walked. No condition. -/
import Derived.Test.YthpbiamicidakaaDoorA4
namespace Go.Proofs.YthpbiamicidakaaDoor
open Go Go.Proofs Go.PW
open Go.PW.Enc (enc val)
theorem eq3 : EqT Tryd.prog 3 1 Int := eqT_int Tryd.underlying3
theorem eq9 : EqT Tryd.prog 9 1 Str := eqT_str Tryd.underlying9
theorem eq23 : EqT Tryd.prog 23 1 UInt64 := eqT_u64 Tryd.underlying23
theorem eq5 : EqT Tryd.prog 5 1 UInt8 := eqT_u8 Tryd.underlying5
theorem eq25 : EqT Tryd.prog 25 2 (Arr UInt8 32) := eqT_arr Tryd.underlying25 ⟨by kernel_rfl, by kernel_rfl⟩ eq5
theorem eq71 : EqT Tryd.prog 71 3 Bare := eqT_struct (ps := [fun s => pt s.kind, fun s => pt s.text, fun s => pt s.lat, fun s => pt s.long, fun s => pt s.number, fun s => pt s.key]) (bs := [fun a b => decide (a.kind = b.kind), fun a b => decide (a.text = b.text), fun a b => decide (a.lat = b.lat), fun a b => decide (a.long = b.long), fun a b => decide (a.number = b.number), fun a b => decide (a.key = b.key)]) Tryd.underlying71 Tryd.stoodInHeld71 (fun _ => rfl)
  (.cons (by decide) rfl (fun _ => rfl) (fun _ => rfl) ⟨by kernel_rfl, by kernel_rfl⟩ (fun d x y w => eq3 (d + 1) x.kind y.kind w)
    (.cons (by decide) rfl (fun _ => rfl) (fun _ => rfl) ⟨by kernel_rfl, by kernel_rfl⟩ (fun d x y w => eq9 (d + 1) x.text y.text w)
    (.cons (by decide) rfl (fun _ => rfl) (fun _ => rfl) ⟨by kernel_rfl, by kernel_rfl⟩ (fun d x y w => eq23 (d + 1) x.lat y.lat w)
    (.cons (by decide) rfl (fun _ => rfl) (fun _ => rfl) ⟨by kernel_rfl, by kernel_rfl⟩ (fun d x y w => eq23 (d + 1) x.long y.long w)
    (.cons (by decide) rfl (fun _ => rfl) (fun _ => rfl) ⟨by kernel_rfl, by kernel_rfl⟩ (fun d x y w => eq23 (d + 1) x.number y.number w)
    (.cons (by decide) rfl (fun _ => rfl) (fun _ => rfl) ⟨by kernel_rfl, by kernel_rfl⟩ (fun d x y w => eq25 (d + 0) x.key y.key w)
    (.nil _)))))))
  (fun x y => by cases x; cases y; simp [Bool.and_assoc])
theorem ty22 : Ty Tryd.prog 22 1 false := ⟨by kernel_rfl, by kernel_rfl⟩
theorem lay30 : ∀ fs, Tryd.prog.underlying 30 = some (.struct fs) → Lay Tryd.prog fs [(0, 1), (1, 1), (2, 1), (3, 1), (4, 1), (5, 1), (6, 32)] := fun fs h => by rw [Tryd.underlying30] at h; cases h; unfold Lay; kernel_rfl
theorem z30 : Zt Tryd.prog 30 (.agg ⟨cat [pt (0 : Int), pt ([] : Str), p1 (.slice none 0 0), pt (⟨0⟩ : F64), pt (⟨0⟩ : F64), pt (0 : UInt64), pt (zarr : (Arr UInt8 32))]⟩) := by unfold Zt; kernel_rfl
theorem ty30 : Ty Tryd.prog 30 38 true := ⟨by kernel_rfl, by kernel_rfl⟩
def fitsSt (c : Con) (ms : List UInt32) : Bool × Int × Bare :=
  if c.kind = 1 then (saidB c.text 0 2000, 0, ⟨c.kind, c.text, 0, 0, 0, zarr⟩)
  else if c.kind = 2 then ((((decide (c.number = 1) || decide (c.number = 2)) && decide (1 ≤ (ms.length : Int))) && decide ((ms.length : Int) ≤ 100)) && risesB ms, ms.length, ⟨c.kind, [], 0, 0, c.number, zarr⟩)
  else if c.kind = 3 then (saidB c.text 0 200, 0, ⟨3, c.text, c.lat.b, c.long.b, 0, zarr⟩)
  else if c.kind = 4 then (saidB c.text 1 64 && decide ((c.number.toNat : Int) ≤ 4294967295), 0, ⟨c.kind, c.text, 0, 0, c.number, zarr⟩)
  else if c.kind = 5 then (decide ((c.number.toNat : Int) ≤ 31536000), 0, ⟨c.kind, [], 0, 0, c.number, zarr⟩)
  else if c.kind = 6 then (saidB c.text 1 255 && decide ((c.number.toNat : Int) ≤ 1099511627776), 0, ⟨c.kind, c.text, 0, 0, c.number, c.key⟩)
  else (false, 0, ⟨c.kind, [], 0, 0, 0, zarr⟩)
def fitsB (c : Con) (ms : List UInt32) : Bool := ((fitsSt c ms).1 && decide ((fitsSt c ms).2.1 = (ms.length : Int))) && decide ((fitsSt c ms).2.2 = c.bare)
def chkV (c : Con) (ms : List UInt32) : Int :=
  if c.kind = 3 ∧ (oddB c.lat ⟨4636033603912859648⟩ = true ∨ oddB c.long ⟨4640537203540230144⟩ = true) then 91 else if fitsB c ms = false then 90 else 0

set_option maxRecDepth 20000 in
set_option maxHeartbeats 4000000 in
theorem fits_ct (c : Con) (sm : Vs) (ms : List UInt32) (hm : sm.ok ms) (hb : ms.length ≤ 4611686018427387904) : Ct Tryd.prog 15 [.agg ⟨cat [pt c.kind, pt c.text, p1 (.slice sm.adr ms.length sm.cap), pt c.lat, pt c.long, pt c.number, pt c.key]⟩] [] [sm.seg ms, tFirst 1, tAcc 2] (fun v o r => v = .bool (fitsB c ms) ∧ o = [] ∧ r = []) := by
  refine ct_enter Tryd.func15 rfl Tryd.ntmps15 (by kernel_rfl) rfl fun w0 => ?_
  refine c_seq ?_
  refine c_reg ?_
  refine bxx [pt c.kind, pt c.text, p1 (.slice sm.adr ms.length sm.cap), pt c.lat, pt c.long, pt c.number, pt c.key] _ rfl rfl fun b1 => ⟨trivial, ?_⟩
  refine asg (.bool _) rfl ?_
  refine jt ?_
  refine c_seq ?_
  refine c_reg ?_
  refine fad rfl Tryd.underlying30 rfl ty3.sz ?_
  refine ldp 0 0 _ rfl rfl rfl rfl ty3 ?_
  refine bld [pt (0 : Int), pt ([] : Str), pt (0 : UInt64), pt (0 : UInt64), pt (0 : UInt64), pt (zarr : (Arr UInt8 32))] [(0, pt c.kind)] _ Tryd.underlying71 (lay71 _ Tryd.underlying71) z71 rfl rfl rfl ?_
  refine alo [pt (0 : Int), pt ([] : Str), pt (0 : UInt64), pt (0 : UInt64), pt (0 : UInt64), pt (zarr : (Arr UInt8 32))] _ z71 rfl fun b3 => ⟨trivial, ?_⟩
  refine stw 1 _ [pt c.kind, pt ([] : Str), pt (0 : UInt64), pt (0 : UInt64), pt (0 : UInt64), pt (zarr : (Arr UInt8 32))] rfl rfl rfl rfl ty71 ⟨trivial, ?_⟩
  refine jt ?_
  refine c_seq ?_
  refine c_reg ?_
  refine asg (.bool _) rfl ?_
  refine jt ?_
  refine c_seq ?_
  refine c_reg ?_
  refine asg (.int _ _) rfl ?_
  refine jt ?_
  refine c_cut (σ := Bool × Int × Bare) (fun ⟨ok, n, b⟩ => (ok, n, b) = fitsSt c ms) (fun ⟨ok, n, b⟩ => [(4, .bool ok), (5, .int .i64 n)]) (fun ⟨ok, n, b⟩ => [[(b1, .cells (cat [pt c.kind, pt c.text, p1 (.slice sm.adr ms.length sm.cap), pt c.lat, pt c.long, pt c.number, pt c.key]) 30)], [(b3, .cells (cat [pt b.kind, pt b.text, pt b.lat, pt b.long, pt b.number, pt b.key]) 71)]]) (fun ⟨ok, n, b⟩ => [sm.seg ms, tFirst 1, tAcc 2]) [4, 5, 9, 10, 11, 12, 13, 14, 15, 16, 17, 18, 19, 20, 21, 22, 23, 24, 25, 26, 27, 28, 29, 30, 31, 32, 33, 34, 35, 36, 37, 38, 39, 40, 41, 42, 43, 44, 45, 46, 47, 48, 49, 50, 51, 52, 53, 54, 55, 56, 57, 58, 59, 60, 61, 62, 63, 64, 65, 66, 67, 68, 69, 70, 71, 72, 73, 74, 75, 76, 77, 78, 79, 80, 81, 82, 83, 84, 85, 86, 87, 88, 89, 90, 91, 92, 93, 94, 95, 96, 97, 98, 99, 100, 101, 102, 103] ?_ ?_
  · refine c_seq ?_
    refine c_reg ?_
    refine fad rfl Tryd.underlying30 rfl ty3.sz ?_
    refine ldp 0 0 _ rfl rfl rfl rfl ty3 ?_
    refine jt ?_
    refine c_block ?_
    refine c_seq ?_
    refine c_reg ?_
    refine cmp _ rfl rfl rfl ?_
    refine asg (.bool _) rfl ?_
    refine jt ?_
    refine c_cond rfl (fun h1 => ?_) (fun h1 => ?_)
    · replace h1 := of_decide_eq_true h1
      refine c_dr [_, _, _, _] [] [(0, 0), (1, 0), (2, 0), (3, 0), (5, 0), (4, 1), (6, 1), (7, 0)] follows (by kernel_rfl) calm_body (keepS [0, 2, 3, 4] rfl) ?_
      refine fad rfl Tryd.underlying30 rfl ty9.sz ?_
      refine ldp 0 1 _ rfl rfl rfl rfl ty9 ?_
      refine fad rfl Tryd.underlying30 rfl ty9.sz ?_
      refine ldp 0 1 _ rfl rfl rfl rfl ty9 ?_
      refine fad rfl Tryd.underlying71 rfl ty9.sz ?_
      refine cal (said_ct c.text (0 : Int) (2000 : Int)) [] [0, 1] [_, _] rfl rfl rfl (by kernel_rfl) (impl_cons (impl_at 1 rfl) (impl_cons (impl_at 2 rfl) impl_nil)) rfl ?_; rintro _ _ _ ⟨rfl, rfl, rfl⟩; refine ⟨keepI [0, 2, 3, 4] rfl, ?_⟩
      refine stp 1 1 _ (pt c.text) rfl rfl rfl rfl rfl rfl ty9 ⟨keepI [0, 2, 3, 4] rfl, ?_⟩
      refine asg (.bool _) rfl ?_
      refine jn ?_
      refine e_in ?_
      exact e_lp (saidB c.text (0 : Int) (2000 : Int), 0, (⟨c.kind, c.text, (0 : UInt64), (0 : UInt64), (0 : UInt64), (zarr : (Arr UInt8 32))⟩ : Bare)) (by repeat (first | exact out_self | refine out_hav (by kernel_rfl) ?_ | refine out_look (by kernel_rfl) ?_)) (by simp [fitsSt, Con.bare, *]) trivial (⟨rfl, rfl, trivial⟩) rfl rfl rfl
    · replace h1 := of_decide_eq_false h1
      refine c_seq ?_
      refine c_reg ?_
      refine cmp _ rfl rfl rfl ?_
      refine asg (.bool _) rfl ?_
      refine jt ?_
      refine c_cond rfl (fun h2 => ?_) (fun h2 => ?_)
      · replace h2 := of_decide_eq_true h2
        refine c_seq ?_
        refine c_dr [_, _, _, _] [] [(0, 0), (1, 0), (2, 0), (3, 0), (4, 0), (5, 0), (6, 1), (7, 0)] follows (by kernel_rfl) calm_body (keepS [0, 2, 3, 4] rfl) ?_
        refine fad rfl Tryd.underlying30 rfl ty23.sz ?_
        refine ldp 0 5 _ rfl rfl rfl rfl ty23 ?_
        refine fad rfl Tryd.underlying30 rfl ty22.sz ?_
        refine ldp 0 2 _ rfl rfl rfl rfl ty22 ?_
        refine lenS rfl Tryd.underlying22 ?_
        refine fad rfl Tryd.underlying71 rfl ty23.sz ?_
        refine stp 1 4 _ (pt c.number) rfl rfl rfl rfl rfl rfl ty23 ⟨keepI [0, 2, 3, 4] rfl, ?_⟩
        refine asg (.int _ _) rfl ?_
        refine jt ?_
        refine c_reg ?_
        refine fad rfl Tryd.underlying30 rfl ty23.sz ?_
        refine ldp 0 5 _ rfl rfl rfl rfl ty23 ?_
        refine equ64 (a := c.number) (b := (1 : UInt64)) _ rfl rfl rfl ?_
        refine mv (.bool _) rfl ?_
        refine jsplit 30 rfl (fun h3 => ?_) (fun h3 => ?_)
        · replace h3 := of_decide_eq_true h3
          refine g_off rfl rfl rfl rfl ?_
          refine g_off rfl rfl rfl rfl ?_
          refine g_off rfl rfl rfl rfl ?_
          refine pkt (.bool _) rfl rfl ?_
          refine mv (.bool _) rfl ?_
          refine g_on rfl rfl rfl ?_
          refine mv (.int _ _) rfl ?_
          refine g_on rfl rfl rfl ?_
          refine cmp _ rfl rfl rfl ?_
          refine pkt (.bool _) rfl rfl ?_
          refine mv (.bool _) rfl ?_
          refine jsplit 39 rfl (fun h4 => ?_) (fun h4 => ?_)
          · replace h4 := of_decide_eq_true h4
            refine g_on rfl rfl rfl ?_
            refine mv (.int _ _) rfl ?_
            refine g_on rfl rfl rfl ?_
            refine cmp _ rfl rfl rfl ?_
            refine pkt (.bool _) rfl rfl ?_
            refine mv (.bool _) rfl ?_
            refine jsplit 43 rfl (fun h5 => ?_) (fun h5 => ?_)
            · replace h5 := of_decide_eq_true h5
              refine g_on rfl rfl rfl ?_
              refine fad rfl Tryd.underlying30 rfl ty22.sz ?_
              refine g_on rfl rfl rfl ?_
              refine ldp 0 2 _ rfl rfl rfl rfl ty22 ?_
              refine g_on rfl rfl rfl ?_
              refine cal (rises_ct sm ms hm hb) [] [0, 1] [_, _] rfl rfl rfl (by kernel_rfl) (impl_cons (impl_at 0 rfl) impl_nil) rfl ?_; rintro _ _ _ ⟨rfl, rfl, rfl⟩; refine ⟨trivial, ?_⟩
              refine pkt (.bool _) rfl rfl ?_
              refine asg (.bool _) rfl ?_
              refine jn ?_
              refine e_in ?_
              exact e_lp (risesB ms, (ms.length : Int), (⟨c.kind, ([] : Str), (0 : UInt64), (0 : UInt64), c.number, (zarr : (Arr UInt8 32))⟩ : Bare)) (by repeat (first | exact out_self | refine out_hav (by kernel_rfl) ?_ | refine out_look (by kernel_rfl) ?_)) (by simp [fitsSt, Con.bare, *]) trivial (⟨rfl, rfl, trivial⟩) rfl rfl rfl
            · replace h5 := of_decide_eq_false h5
              refine g_off rfl rfl rfl rfl ?_
              refine g_off rfl rfl rfl rfl ?_
              refine g_off rfl rfl rfl rfl ?_
              refine pkf (.bool _) rfl rfl ?_
              refine asg (.bool _) rfl ?_
              refine jn ?_
              refine e_in ?_
              exact e_lp (false, (ms.length : Int), (⟨c.kind, ([] : Str), (0 : UInt64), (0 : UInt64), c.number, (zarr : (Arr UInt8 32))⟩ : Bare)) (by repeat (first | exact out_self | refine out_hav (by kernel_rfl) ?_ | refine out_look (by kernel_rfl) ?_)) (by simp [fitsSt, Con.bare, *]) trivial (⟨rfl, rfl, trivial⟩) rfl rfl rfl
          · replace h4 := of_decide_eq_false h4
            refine g_off rfl rfl rfl rfl ?_
            refine g_off rfl rfl rfl rfl ?_
            refine pkf (.bool _) rfl rfl ?_
            refine mv (.bool _) rfl ?_
            refine g_off rfl rfl rfl rfl ?_
            refine g_off rfl rfl rfl rfl ?_
            refine g_off rfl rfl rfl rfl ?_
            refine pkf (.bool _) rfl rfl ?_
            refine asg (.bool _) rfl ?_
            refine jn ?_
            refine e_in ?_
            exact e_lp (false, (ms.length : Int), (⟨c.kind, ([] : Str), (0 : UInt64), (0 : UInt64), c.number, (zarr : (Arr UInt8 32))⟩ : Bare)) (by repeat (first | exact out_self | refine out_hav (by kernel_rfl) ?_ | refine out_look (by kernel_rfl) ?_)) (by simp [fitsSt, Con.bare, *]) trivial (⟨rfl, rfl, trivial⟩) rfl rfl rfl
        · replace h3 := of_decide_eq_false h3
          refine g_on rfl rfl rfl ?_
          refine fad rfl Tryd.underlying30 rfl ty23.sz ?_
          refine g_on rfl rfl rfl ?_
          refine ldp 0 5 _ rfl rfl rfl rfl ty23 ?_
          refine g_on rfl rfl rfl ?_
          refine equ64 (a := c.number) (b := (2 : UInt64)) _ rfl rfl rfl ?_
          refine pkf (.bool _) rfl rfl ?_
          refine mv (.bool _) rfl ?_
          refine jsplit 35 rfl (fun h6 => ?_) (fun h6 => ?_)
          · replace h6 := of_decide_eq_true h6
            refine g_on rfl rfl rfl ?_
            refine mv (.int _ _) rfl ?_
            refine g_on rfl rfl rfl ?_
            refine cmp _ rfl rfl rfl ?_
            refine pkt (.bool _) rfl rfl ?_
            refine mv (.bool _) rfl ?_
            refine jsplit 39 rfl (fun h7 => ?_) (fun h7 => ?_)
            · replace h7 := of_decide_eq_true h7
              refine g_on rfl rfl rfl ?_
              refine mv (.int _ _) rfl ?_
              refine g_on rfl rfl rfl ?_
              refine cmp _ rfl rfl rfl ?_
              refine pkt (.bool _) rfl rfl ?_
              refine mv (.bool _) rfl ?_
              refine jsplit 43 rfl (fun h8 => ?_) (fun h8 => ?_)
              · replace h8 := of_decide_eq_true h8
                refine g_on rfl rfl rfl ?_
                refine fad rfl Tryd.underlying30 rfl ty22.sz ?_
                refine g_on rfl rfl rfl ?_
                refine ldp 0 2 _ rfl rfl rfl rfl ty22 ?_
                refine g_on rfl rfl rfl ?_
                refine cal (rises_ct sm ms hm hb) [] [0, 1] [_, _] rfl rfl rfl (by kernel_rfl) (impl_cons (impl_at 0 rfl) impl_nil) rfl ?_; rintro _ _ _ ⟨rfl, rfl, rfl⟩; refine ⟨trivial, ?_⟩
                refine pkt (.bool _) rfl rfl ?_
                refine asg (.bool _) rfl ?_
                refine jn ?_
                refine e_in ?_
                exact e_lp (risesB ms, (ms.length : Int), (⟨c.kind, ([] : Str), (0 : UInt64), (0 : UInt64), c.number, (zarr : (Arr UInt8 32))⟩ : Bare)) (by repeat (first | exact out_self | refine out_hav (by kernel_rfl) ?_ | refine out_look (by kernel_rfl) ?_)) (by simp [fitsSt, Con.bare, *]) trivial (⟨rfl, rfl, trivial⟩) rfl rfl rfl
              · replace h8 := of_decide_eq_false h8
                refine g_off rfl rfl rfl rfl ?_
                refine g_off rfl rfl rfl rfl ?_
                refine g_off rfl rfl rfl rfl ?_
                refine pkf (.bool _) rfl rfl ?_
                refine asg (.bool _) rfl ?_
                refine jn ?_
                refine e_in ?_
                exact e_lp (false, (ms.length : Int), (⟨c.kind, ([] : Str), (0 : UInt64), (0 : UInt64), c.number, (zarr : (Arr UInt8 32))⟩ : Bare)) (by repeat (first | exact out_self | refine out_hav (by kernel_rfl) ?_ | refine out_look (by kernel_rfl) ?_)) (by simp [fitsSt, Con.bare, *]) trivial (⟨rfl, rfl, trivial⟩) rfl rfl rfl
            · replace h7 := of_decide_eq_false h7
              refine g_off rfl rfl rfl rfl ?_
              refine g_off rfl rfl rfl rfl ?_
              refine pkf (.bool _) rfl rfl ?_
              refine mv (.bool _) rfl ?_
              refine g_off rfl rfl rfl rfl ?_
              refine g_off rfl rfl rfl rfl ?_
              refine g_off rfl rfl rfl rfl ?_
              refine pkf (.bool _) rfl rfl ?_
              refine asg (.bool _) rfl ?_
              refine jn ?_
              refine e_in ?_
              exact e_lp (false, (ms.length : Int), (⟨c.kind, ([] : Str), (0 : UInt64), (0 : UInt64), c.number, (zarr : (Arr UInt8 32))⟩ : Bare)) (by repeat (first | exact out_self | refine out_hav (by kernel_rfl) ?_ | refine out_look (by kernel_rfl) ?_)) (by simp [fitsSt, Con.bare, *]) trivial (⟨rfl, rfl, trivial⟩) rfl rfl rfl
          · replace h6 := of_decide_eq_false h6
            refine g_off rfl rfl rfl rfl ?_
            refine g_off rfl rfl rfl rfl ?_
            refine pkf (.bool _) rfl rfl ?_
            refine mv (.bool _) rfl ?_
            refine g_off rfl rfl rfl rfl ?_
            refine g_off rfl rfl rfl rfl ?_
            refine pkf (.bool _) rfl rfl ?_
            refine mv (.bool _) rfl ?_
            refine g_off rfl rfl rfl rfl ?_
            refine g_off rfl rfl rfl rfl ?_
            refine g_off rfl rfl rfl rfl ?_
            refine pkf (.bool _) rfl rfl ?_
            refine asg (.bool _) rfl ?_
            refine jn ?_
            refine e_in ?_
            exact e_lp (false, (ms.length : Int), (⟨c.kind, ([] : Str), (0 : UInt64), (0 : UInt64), c.number, (zarr : (Arr UInt8 32))⟩ : Bare)) (by repeat (first | exact out_self | refine out_hav (by kernel_rfl) ?_ | refine out_look (by kernel_rfl) ?_)) (by simp [fitsSt, Con.bare, *]) trivial (⟨rfl, rfl, trivial⟩) rfl rfl rfl
      · replace h2 := of_decide_eq_false h2
        refine c_seq ?_
        refine c_reg ?_
        refine cmp _ rfl rfl rfl ?_
        refine asg (.bool _) rfl ?_
        refine jt ?_
        refine c_cond rfl (fun h9 => ?_) (fun h9 => ?_)
        · replace h9 := of_decide_eq_true h9
          refine c_seq ?_
          refine c_reg ?_
          refine fad rfl Tryd.underlying30 rfl ty9.sz ?_
          refine ldp 0 1 _ rfl rfl rfl rfl ty9 ?_
          refine fad rfl Tryd.underlying30 rfl ty28.sz ?_
          refine ldp 0 3 _ rfl rfl rfl rfl ty28 ?_
          refine fad rfl Tryd.underlying30 rfl ty28.sz ?_
          refine ldp 0 4 _ rfl rfl rfl rfl ty28 ?_
          refine bld [pt (0 : Int), pt ([] : Str), p1 (.slice none 0 0), pt (⟨0⟩ : F64), pt (⟨0⟩ : F64), pt (0 : UInt64), pt (zarr : (Arr UInt8 32))] [(0, pt (3 : Int)), (1, pt c.text), (3, pt c.lat), (4, pt c.long)] _ Tryd.underlying30 (lay30 _ Tryd.underlying30) z30 rfl rfl rfl ?_
          refine cal (bareOf_ct (⟨(3 : Int), c.text, c.lat, c.long, (0 : UInt64), (zarr : (Arr UInt8 32))⟩ : Con) none 0 0) [] [0, 1] [_, _] rfl rfl rfl (by kernel_rfl) impl_nil rfl ?_; rintro _ _ _ ⟨rfl, rfl, rfl⟩; refine ⟨trivial, ?_⟩
          refine stw 1 _ [pt ((Con.bare (⟨(3 : Int), c.text, c.lat, c.long, (0 : UInt64), (zarr : (Arr UInt8 32))⟩ : Con)).kind), pt ((Con.bare (⟨(3 : Int), c.text, c.lat, c.long, (0 : UInt64), (zarr : (Arr UInt8 32))⟩ : Con)).text), pt ((Con.bare (⟨(3 : Int), c.text, c.lat, c.long, (0 : UInt64), (zarr : (Arr UInt8 32))⟩ : Con)).lat), pt ((Con.bare (⟨(3 : Int), c.text, c.lat, c.long, (0 : UInt64), (zarr : (Arr UInt8 32))⟩ : Con)).long), pt ((Con.bare (⟨(3 : Int), c.text, c.lat, c.long, (0 : UInt64), (zarr : (Arr UInt8 32))⟩ : Con)).number), pt ((Con.bare (⟨(3 : Int), c.text, c.lat, c.long, (0 : UInt64), (zarr : (Arr UInt8 32))⟩ : Con)).key)] rfl rfl rfl rfl ty71 ⟨trivial, ?_⟩
          refine jt ?_
          refine c_reg ?_
          refine fad rfl Tryd.underlying30 rfl ty9.sz ?_
          refine ldp 0 1 _ rfl rfl rfl rfl ty9 ?_
          refine cal (said_ct c.text (0 : Int) (200 : Int)) [] [0, 1] [_, _] rfl rfl rfl (by kernel_rfl) (impl_cons (impl_at 1 rfl) (impl_cons (impl_at 2 rfl) impl_nil)) rfl ?_; rintro _ _ _ ⟨rfl, rfl, rfl⟩; refine ⟨trivial, ?_⟩
          refine asg (.bool _) rfl ?_
          refine jn ?_
          refine e_in ?_
          exact e_lp (saidB c.text (0 : Int) (200 : Int), 0, (⟨((Con.bare (⟨(3 : Int), c.text, c.lat, c.long, (0 : UInt64), (zarr : (Arr UInt8 32))⟩ : Con)).kind), ((Con.bare (⟨(3 : Int), c.text, c.lat, c.long, (0 : UInt64), (zarr : (Arr UInt8 32))⟩ : Con)).text), ((Con.bare (⟨(3 : Int), c.text, c.lat, c.long, (0 : UInt64), (zarr : (Arr UInt8 32))⟩ : Con)).lat), ((Con.bare (⟨(3 : Int), c.text, c.lat, c.long, (0 : UInt64), (zarr : (Arr UInt8 32))⟩ : Con)).long), ((Con.bare (⟨(3 : Int), c.text, c.lat, c.long, (0 : UInt64), (zarr : (Arr UInt8 32))⟩ : Con)).number), ((Con.bare (⟨(3 : Int), c.text, c.lat, c.long, (0 : UInt64), (zarr : (Arr UInt8 32))⟩ : Con)).key)⟩ : Bare)) (by repeat (first | exact out_self | refine out_hav (by kernel_rfl) ?_ | refine out_look (by kernel_rfl) ?_)) (by simp [fitsSt, Con.bare, *]) trivial (⟨rfl, rfl, trivial⟩) rfl rfl rfl
        · replace h9 := of_decide_eq_false h9
          refine c_seq ?_
          refine c_reg ?_
          refine cmp _ rfl rfl rfl ?_
          refine asg (.bool _) rfl ?_
          refine jt ?_
          refine c_cond rfl (fun h10 => ?_) (fun h10 => ?_)
          · replace h10 := of_decide_eq_true h10
            refine c_seq ?_
            refine c_dr [_, _, _, _] [] [(0, 0), (1, 0), (2, 0), (3, 0), (4, 0), (5, 1), (6, 0), (7, 1)] follows (by kernel_rfl) calm_body (keepS [0, 2, 3, 4] rfl) ?_
            refine fad rfl Tryd.underlying30 rfl ty9.sz ?_
            refine ldp 0 1 _ rfl rfl rfl rfl ty9 ?_
            refine fad rfl Tryd.underlying30 rfl ty23.sz ?_
            refine ldp 0 5 _ rfl rfl rfl rfl ty23 ?_
            refine fad rfl Tryd.underlying71 rfl ty9.sz ?_
            refine stp 1 1 _ (pt c.text) rfl rfl rfl rfl rfl rfl ty9 ⟨keepI [0, 2, 3, 4] rfl, ?_⟩
            refine fad rfl Tryd.underlying71 rfl ty23.sz ?_
            refine stp 1 4 _ (pt c.number) rfl rfl rfl rfl rfl rfl ty23 ⟨keepI [0, 2, 3, 4] rfl, ?_⟩
            refine jt ?_
            refine c_reg ?_
            refine fad rfl Tryd.underlying30 rfl ty9.sz ?_
            refine ldp 0 1 _ rfl rfl rfl rfl ty9 ?_
            refine cal (said_ct c.text (1 : Int) (64 : Int)) [] [0, 1] [_, _] rfl rfl rfl (by kernel_rfl) (impl_cons (impl_at 1 rfl) (impl_cons (impl_at 2 rfl) impl_nil)) rfl ?_; rintro _ _ _ ⟨rfl, rfl, rfl⟩; refine ⟨trivial, ?_⟩
            refine mv (.bool _) rfl ?_
            refine jsplit 72 rfl (fun h11 => ?_) (fun h11 => ?_)
            · refine g_on rfl rfl rfl ?_
              refine fad rfl Tryd.underlying30 rfl ty23.sz ?_
              refine g_on rfl rfl rfl ?_
              refine ldp 0 5 _ rfl rfl rfl rfl ty23 ?_
              refine g_on rfl rfl rfl ?_
              refine cmp _ rfl rfl rfl ?_
              refine pkt (.bool _) rfl rfl ?_
              refine asg (.bool _) rfl ?_
              refine jn ?_
              refine e_in ?_
              exact e_lp (decide ((c.number.toNat : Int) ≤ 4294967295), 0, (⟨c.kind, c.text, (0 : UInt64), (0 : UInt64), c.number, (zarr : (Arr UInt8 32))⟩ : Bare)) (by repeat (first | exact out_self | refine out_hav (by kernel_rfl) ?_ | refine out_look (by kernel_rfl) ?_)) (by simp [fitsSt, Con.bare, *]) trivial (⟨rfl, rfl, trivial⟩) rfl rfl rfl
            · refine g_off rfl rfl rfl rfl ?_
              refine g_off rfl rfl rfl rfl ?_
              refine g_off rfl rfl rfl rfl ?_
              refine pkf (.bool _) rfl rfl ?_
              refine asg (.bool _) rfl ?_
              refine jn ?_
              refine e_in ?_
              exact e_lp (false, 0, (⟨c.kind, c.text, (0 : UInt64), (0 : UInt64), c.number, (zarr : (Arr UInt8 32))⟩ : Bare)) (by repeat (first | exact out_self | refine out_hav (by kernel_rfl) ?_ | refine out_look (by kernel_rfl) ?_)) (by simp [fitsSt, Con.bare, *]) trivial (⟨rfl, rfl, trivial⟩) rfl rfl rfl
          · replace h10 := of_decide_eq_false h10
            refine c_seq ?_
            refine c_reg ?_
            refine cmp _ rfl rfl rfl ?_
            refine asg (.bool _) rfl ?_
            refine jt ?_
            refine c_cond rfl (fun h12 => ?_) (fun h12 => ?_)
            · replace h12 := of_decide_eq_true h12
              refine c_dr [_, _, _, _] [] [(0, 0), (1, 0), (2, 0), (3, 0), (4, 0), (5, 0), (6, 1), (7, 0)] follows (by kernel_rfl) calm_body (keepS [0, 2, 3, 4] rfl) ?_
              refine fad rfl Tryd.underlying30 rfl ty23.sz ?_
              refine ldp 0 5 _ rfl rfl rfl rfl ty23 ?_
              refine fad rfl Tryd.underlying30 rfl ty23.sz ?_
              refine ldp 0 5 _ rfl rfl rfl rfl ty23 ?_
              refine cmp _ rfl rfl rfl ?_
              refine fad rfl Tryd.underlying71 rfl ty23.sz ?_
              refine stp 1 4 _ (pt c.number) rfl rfl rfl rfl rfl rfl ty23 ⟨keepI [0, 2, 3, 4] rfl, ?_⟩
              refine asg (.bool _) rfl ?_
              refine jn ?_
              refine e_in ?_
              exact e_lp (decide ((c.number.toNat : Int) ≤ 31536000), 0, (⟨c.kind, ([] : Str), (0 : UInt64), (0 : UInt64), c.number, (zarr : (Arr UInt8 32))⟩ : Bare)) (by repeat (first | exact out_self | refine out_hav (by kernel_rfl) ?_ | refine out_look (by kernel_rfl) ?_)) (by simp [fitsSt, Con.bare, *]) trivial (⟨rfl, rfl, trivial⟩) rfl rfl rfl
            · replace h12 := of_decide_eq_false h12
              refine c_seq ?_
              refine c_reg ?_
              refine cmp _ rfl rfl rfl ?_
              refine asg (.bool _) rfl ?_
              refine jt ?_
              refine c_cond rfl (fun h13 => ?_) (fun h13 => ?_)
              · replace h13 := of_decide_eq_true h13
                refine c_seq ?_
                refine c_dr [_, _, _, _] [] [(0, 0), (1, 0), (2, 0), (3, 0), (4, 0), (5, 0), (6, 0), (7, 1), (8, 0), (9, 1), (10, 0), (11, 1)] follows (by kernel_rfl) calm_body (keepS [0, 2, 3, 4] rfl) ?_
                refine fad rfl Tryd.underlying30 rfl ty9.sz ?_
                refine ldp 0 1 _ rfl rfl rfl rfl ty9 ?_
                refine fad rfl Tryd.underlying30 rfl ty23.sz ?_
                refine ldp 0 5 _ rfl rfl rfl rfl ty23 ?_
                refine fad rfl Tryd.underlying30 rfl ty25.sz ?_
                refine ldp 0 6 _ rfl rfl rfl rfl ty25 ?_
                refine fad rfl Tryd.underlying71 rfl ty9.sz ?_
                refine stp 1 1 _ (pt c.text) rfl rfl rfl rfl rfl rfl ty9 ⟨keepI [0, 2, 3, 4] rfl, ?_⟩
                refine fad rfl Tryd.underlying71 rfl ty23.sz ?_
                refine stp 1 4 _ (pt c.number) rfl rfl rfl rfl rfl rfl ty23 ⟨keepI [0, 2, 3, 4] rfl, ?_⟩
                refine fad rfl Tryd.underlying71 rfl ty25.sz ?_
                refine stp 1 5 _ (pt c.key) rfl rfl rfl rfl rfl rfl ty25 ⟨keepI [0, 2, 3, 4] rfl, ?_⟩
                refine jt ?_
                refine c_reg ?_
                refine fad rfl Tryd.underlying30 rfl ty9.sz ?_
                refine ldp 0 1 _ rfl rfl rfl rfl ty9 ?_
                refine cal (said_ct c.text (1 : Int) (255 : Int)) [] [0, 1] [_, _] rfl rfl rfl (by kernel_rfl) (impl_cons (impl_at 1 rfl) (impl_cons (impl_at 2 rfl) impl_nil)) rfl ?_; rintro _ _ _ ⟨rfl, rfl, rfl⟩; refine ⟨trivial, ?_⟩
                refine mv (.bool _) rfl ?_
                refine jsplit 99 rfl (fun h14 => ?_) (fun h14 => ?_)
                · refine g_on rfl rfl rfl ?_
                  refine fad rfl Tryd.underlying30 rfl ty23.sz ?_
                  refine g_on rfl rfl rfl ?_
                  refine ldp 0 5 _ rfl rfl rfl rfl ty23 ?_
                  refine g_on rfl rfl rfl ?_
                  refine cmp _ rfl rfl rfl ?_
                  refine pkt (.bool _) rfl rfl ?_
                  refine asg (.bool _) rfl ?_
                  refine jn ?_
                  refine e_in ?_
                  exact e_lp (decide ((c.number.toNat : Int) ≤ 1099511627776), 0, (⟨c.kind, c.text, (0 : UInt64), (0 : UInt64), c.number, c.key⟩ : Bare)) (by repeat (first | exact out_self | refine out_hav (by kernel_rfl) ?_ | refine out_look (by kernel_rfl) ?_)) (by simp [fitsSt, Con.bare, *]) trivial (⟨rfl, rfl, trivial⟩) rfl rfl rfl
                · refine g_off rfl rfl rfl rfl ?_
                  refine g_off rfl rfl rfl rfl ?_
                  refine g_off rfl rfl rfl rfl ?_
                  refine pkf (.bool _) rfl rfl ?_
                  refine asg (.bool _) rfl ?_
                  refine jn ?_
                  refine e_in ?_
                  exact e_lp (false, 0, (⟨c.kind, c.text, (0 : UInt64), (0 : UInt64), c.number, c.key⟩ : Bare)) (by repeat (first | exact out_self | refine out_hav (by kernel_rfl) ?_ | refine out_look (by kernel_rfl) ?_)) (by simp [fitsSt, Con.bare, *]) trivial (⟨rfl, rfl, trivial⟩) rfl rfl rfl
              · replace h13 := of_decide_eq_false h13
                refine c_skip ?_
                refine e_in ?_
                exact e_lp (false, 0, (⟨c.kind, ([] : Str), (0 : UInt64), (0 : UInt64), (0 : UInt64), (zarr : (Arr UInt8 32))⟩ : Bare)) (by repeat (first | exact out_self | refine out_hav (by kernel_rfl) ?_ | refine out_look (by kernel_rfl) ?_)) (by simp [fitsSt, Con.bare, *]) trivial (⟨rfl, rfl, trivial⟩) rfl rfl rfl
  · rintro ⟨ok, n, b⟩ g hC1
    try dsimp only at hC1 ⊢
    refine c_seq ?_
    refine c_dr [_, _, _, _, _] [] [(0, 0), (1, 0), (2, 0), (3, 0), (4, 0), (5, 0), (6, 0), (7, 0), (8, 0), (9, 0), (10, 0), (11, 1), (12, 0), (13, 0), (14, 0)] follows (by kernel_rfl) calm_body (keepS [0, 1, 2, 3, 4] rfl) ?_
    refine mv (.bool _) rfl ?_
    refine mv (.bool _) rfl ?_
    refine jsplit 105 rfl (fun h15 => ?_) (fun h15 => ?_)
    · refine g_on rfl rfl rfl ?_
      refine mv (.int _ _) rfl ?_
      refine g_on rfl rfl rfl ?_
      refine fad rfl Tryd.underlying30 rfl ty22.sz ?_
      refine g_on rfl rfl rfl ?_
      refine ldp 0 2 _ rfl rfl rfl rfl ty22 ?_
      refine g_on rfl rfl rfl ?_
      refine lenS rfl Tryd.underlying22 ?_
      refine g_on rfl rfl rfl ?_
      refine cmp _ rfl rfl rfl ?_
      refine pkt (.bool _) rfl rfl ?_
      refine mv (.bool _) rfl ?_
      refine jsplit 112 rfl (fun h16 => ?_) (fun h16 => ?_)
      · replace h16 := of_decide_eq_true h16
        refine g_on rfl rfl rfl ?_
        refine ldw 1 _ rfl rfl ty71 ?_
        refine g_on rfl rfl rfl ?_
        refine ldw 0 _ rfl rfl ty30 ?_
        refine g_on rfl rfl rfl ?_
        refine cal (bareOf_ct c sm.adr ms.length sm.cap) [] [0, 1] [_, _] rfl rfl rfl (by kernel_rfl) impl_nil rfl ?_; rintro _ _ _ ⟨rfl, rfl, rfl⟩; refine ⟨keepI [0, 1, 2, 3, 4] rfl, ?_⟩
        refine g_on rfl rfl rfl ?_
        refine eqA b (Con.bare c) _ rfl rfl rfl rfl eq71 rfl Tryd.eqGuardType71 rfl ?_
        refine pkt (.bool _) rfl rfl ?_
        refine asg (.bool _) rfl ?_
        refine jt ?_
        refine c_ret ?_
        exact j_end (own0 := []) (ro0 := [sm.seg ms, tFirst 1, tAcc 2]) (.inl rfl) rfl (hr1 Tryd.results15 (rvt (v := (.bool _)) rfl)) [] [0, 1] [] [_, _] [] _ rfl rfl (by kernel_rfl) rfl impl_nil (⟨by simp [fitsB, ← hC1, *], rfl, rfl⟩)
      · replace h16 := of_decide_eq_false h16
        refine g_off rfl rfl rfl rfl ?_
        refine g_off rfl rfl rfl rfl ?_
        refine g_off rfl rfl rfl rfl ?_
        refine g_off rfl rfl rfl rfl ?_
        refine pkf (.bool _) rfl rfl ?_
        refine asg (.bool _) rfl ?_
        refine jt ?_
        refine c_ret ?_
        exact j_end (own0 := []) (ro0 := [sm.seg ms, tFirst 1, tAcc 2]) (.inl rfl) rfl (hr1 Tryd.results15 (rvt (v := (.bool _)) rfl)) [] [0, 1] [] [_, _] [] _ rfl rfl (by kernel_rfl) rfl impl_nil (⟨by simp [fitsB, ← hC1, *], rfl, rfl⟩)
    · refine g_off rfl rfl rfl rfl ?_
      refine g_off rfl rfl rfl rfl ?_
      refine g_off rfl rfl rfl rfl ?_
      refine g_off rfl rfl rfl rfl ?_
      refine g_off rfl rfl rfl rfl ?_
      refine pkf (.bool _) rfl rfl ?_
      refine mv (.bool _) rfl ?_
      refine g_off rfl rfl rfl rfl ?_
      refine g_off rfl rfl rfl rfl ?_
      refine g_off rfl rfl rfl rfl ?_
      refine g_off rfl rfl rfl rfl ?_
      refine pkf (.bool _) rfl rfl ?_
      refine asg (.bool _) rfl ?_
      refine jt ?_
      refine c_ret ?_
      exact j_end (own0 := []) (ro0 := [sm.seg ms, tFirst 1, tAcc 2]) (.inl rfl) rfl (hr1 Tryd.results15 (rvt (v := (.bool _)) rfl)) [] [0, 1] [] [_, _] [] _ rfl rfl (by kernel_rfl) rfl impl_nil (⟨by simp [fitsB, ← hC1, *], rfl, rfl⟩)

theorem Check_ct (c : Con) (sm : Vs) (ms : List UInt32) (hm : sm.ok ms) (hb : ms.length ≤ 4611686018427387904) : Ct Tryd.prog 6 [.agg ⟨cat [pt c.kind, pt c.text, p1 (.slice sm.adr ms.length sm.cap), pt c.lat, pt c.long, pt c.number, pt c.key]⟩] [] [sm.seg ms, tFirst 1, tAcc 2] (fun v o r => v = .int .i64 (chkV c ms) ∧ o = [] ∧ r = []) := by
  refine ct_enter Tryd.func6 rfl Tryd.ntmps6 (by kernel_rfl) rfl fun w0 => ?_
  refine c_seq ?_
  refine c_reg ?_
  refine bxx [pt c.kind, pt c.text, p1 (.slice sm.adr ms.length sm.cap), pt c.lat, pt c.long, pt c.number, pt c.key] _ rfl rfl fun b1 => ⟨trivial, ?_⟩
  refine asg (.int _ _) rfl ?_
  refine jt ?_
  refine c_seq ?_
  refine c_seq ?_
  refine c_reg ?_
  refine fad rfl Tryd.underlying30 rfl ty3.sz ?_
  refine ldp 0 0 _ rfl rfl rfl rfl ty3 ?_
  refine cmp _ rfl rfl rfl ?_
  refine mv (.bool _) rfl ?_
  refine jsplit 6 rfl (fun h1 => ?_) (fun h1 => ?_)
  · replace h1 := of_decide_eq_true h1
    refine g_on rfl rfl rfl ?_
    refine fad rfl Tryd.underlying30 rfl ty28.sz ?_
    refine g_on rfl rfl rfl ?_
    refine ldp 0 3 _ rfl rfl rfl rfl ty28 ?_
    refine g_on rfl rfl rfl ?_
    refine cal (odd_ct c.lat (⟨4636033603912859648⟩ : F64)) [] [0] [_] rfl rfl rfl (by kernel_rfl) impl_nil rfl ?_; rintro _ _ _ ⟨rfl, rfl, rfl⟩; refine ⟨trivial, ?_⟩
    refine g_on rfl rfl rfl ?_
    refine mv (.bool _) rfl ?_
    refine jsplit 10 rfl (fun h2 => ?_) (fun h2 => ?_)
    · refine g_off rfl rfl rfl rfl ?_
      refine g_off rfl rfl rfl rfl ?_
      refine g_off rfl rfl rfl rfl ?_
      refine g_on rfl rfl rfl ?_
      refine pkt (.bool _) rfl rfl ?_
      refine pkt (.bool _) rfl rfl ?_
      refine jt ?_
      refine c_true rfl ?_
      refine c_seq ?_
      refine c_reg ?_
      refine asg (.int _ _) rfl ?_
      refine jt ?_
      refine c_ret ?_
      exact j_end (own0 := []) (ro0 := [sm.seg ms, tFirst 1, tAcc 2]) (.inl rfl) rfl (hr1 Tryd.results6 (rvt (v := (.int _ _)) rfl)) [] [0] [] [_] [] _ rfl rfl (by kernel_rfl) rfl impl_nil (⟨by simp_all [chkV], rfl, rfl⟩)
    · refine g_on rfl rfl rfl ?_
      refine fad rfl Tryd.underlying30 rfl ty28.sz ?_
      refine g_on rfl rfl rfl ?_
      refine ldp 0 4 _ rfl rfl rfl rfl ty28 ?_
      refine g_on rfl rfl rfl ?_
      refine cal (odd_ct c.long (⟨4640537203540230144⟩ : F64)) [] [0] [_] rfl rfl rfl (by kernel_rfl) impl_nil rfl ?_; rintro _ _ _ ⟨rfl, rfl, rfl⟩; refine ⟨trivial, ?_⟩
      refine g_on rfl rfl rfl ?_
      refine pkf (.bool _) rfl rfl ?_
      refine pkt (.bool _) rfl rfl ?_
      refine jt ?_
      refine c_cond rfl (fun h3 => ?_) (fun h3 => ?_)
      · refine c_seq ?_
        refine c_reg ?_
        refine asg (.int _ _) rfl ?_
        refine jt ?_
        refine c_ret ?_
        exact j_end (own0 := []) (ro0 := [sm.seg ms, tFirst 1, tAcc 2]) (.inl rfl) rfl (hr1 Tryd.results6 (rvt (v := (.int _ _)) rfl)) [] [0] [] [_] [] _ rfl rfl (by kernel_rfl) rfl impl_nil (⟨by simp_all [chkV], rfl, rfl⟩)
      · refine c_skip ?_
        refine e_then ?_
        refine c_seq ?_
        refine c_seq ?_
        refine c_reg ?_
        refine ldw 0 _ rfl rfl ty30 ?_
        refine cal (fits_ct c sm ms hm hb) [] [0] [_] rfl rfl rfl (by kernel_rfl) (impl_cons (impl_at 0 rfl) (impl_cons (impl_at 1 rfl) (impl_cons (impl_at 2 rfl) impl_nil))) rfl ?_; rintro _ _ _ ⟨rfl, rfl, rfl⟩; refine ⟨trivial, ?_⟩
        refine not_ rfl ?_
        refine jt ?_
        refine c_cond rfl (fun h4 => ?_) (fun h4 => ?_)
        · refine c_seq ?_
          refine c_reg ?_
          refine asg (.int _ _) rfl ?_
          refine jt ?_
          refine c_ret ?_
          exact j_end (own0 := []) (ro0 := [sm.seg ms, tFirst 1, tAcc 2]) (.inl rfl) rfl (hr1 Tryd.results6 (rvt (v := (.int _ _)) rfl)) [] [0] [] [_] [] _ rfl rfl (by kernel_rfl) rfl impl_nil (⟨by simp_all [chkV], rfl, rfl⟩)
        · refine c_skip ?_
          refine e_then ?_
          refine c_seq ?_
          refine c_reg ?_
          refine asg (.int _ _) rfl ?_
          refine jt ?_
          refine c_ret ?_
          exact j_end (own0 := []) (ro0 := [sm.seg ms, tFirst 1, tAcc 2]) (.inl rfl) rfl (hr1 Tryd.results6 (rvt (v := (.int _ _)) rfl)) [] [0] [] [_] [] _ rfl rfl (by kernel_rfl) rfl impl_nil (⟨by simp_all [chkV], rfl, rfl⟩)
  · replace h1 := of_decide_eq_false h1
    refine g_off rfl rfl rfl rfl ?_
    refine g_off rfl rfl rfl rfl ?_
    refine g_off rfl rfl rfl rfl ?_
    refine g_off rfl rfl rfl rfl ?_
    refine g_und rfl rfl rfl ?_
    refine g_und rfl rfl rfl ?_
    refine g_und rfl rfl rfl ?_
    refine g_off rfl rfl rfl rfl ?_
    refine pkf (.bool _) rfl rfl ?_
    refine jt ?_
    refine c_false rfl ?_
    refine c_skip ?_
    refine e_then ?_
    refine c_seq ?_
    refine c_seq ?_
    refine c_reg ?_
    refine ldw 0 _ rfl rfl ty30 ?_
    refine cal (fits_ct c sm ms hm hb) [] [0] [_] rfl rfl rfl (by kernel_rfl) (impl_cons (impl_at 0 rfl) (impl_cons (impl_at 1 rfl) (impl_cons (impl_at 2 rfl) impl_nil))) rfl ?_; rintro _ _ _ ⟨rfl, rfl, rfl⟩; refine ⟨trivial, ?_⟩
    refine not_ rfl ?_
    refine jt ?_
    refine c_cond rfl (fun h5 => ?_) (fun h5 => ?_)
    · refine c_seq ?_
      refine c_reg ?_
      refine asg (.int _ _) rfl ?_
      refine jt ?_
      refine c_ret ?_
      exact j_end (own0 := []) (ro0 := [sm.seg ms, tFirst 1, tAcc 2]) (.inl rfl) rfl (hr1 Tryd.results6 (rvt (v := (.int _ _)) rfl)) [] [0] [] [_] [] _ rfl rfl (by kernel_rfl) rfl impl_nil (⟨by simp_all [chkV], rfl, rfl⟩)
    · refine c_skip ?_
      refine e_then ?_
      refine c_seq ?_
      refine c_reg ?_
      refine asg (.int _ _) rfl ?_
      refine jt ?_
      refine c_ret ?_
      exact j_end (own0 := []) (ro0 := [sm.seg ms, tFirst 1, tAcc 2]) (.inl rfl) rfl (hr1 Tryd.results6 (rvt (v := (.int _ _)) rfl)) [] [0] [] [_] [] _ rfl rfl (by kernel_rfl) rfl impl_nil (⟨by simp_all [chkV], rfl, rfl⟩)
end Go.Proofs.YthpbiamicidakaaDoor
