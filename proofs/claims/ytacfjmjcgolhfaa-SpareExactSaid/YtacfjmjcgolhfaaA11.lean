/- Contracts of the program's functions, walked. No condition. -/
import Derived.Test.YtacfjmjcgolhfaaA10
import Derived.Test.YtacfjmjcgolhfaaEo
namespace Go.Proofs.Ytacfjmjcgolhfaa
open Go Go.Proofs Go.PW
open Go.PW.Enc (enc val)
theorem zv3 : Zt Try.prog 3 (val (0 : Int)) := by unfold Zt; kernel_rfl
theorem by30 : (Try.prog.info? 30).map (·.bytes) = some 32 := by kernel_rfl
def hd1 (acc : List Key) (h : Key) : List Key := if h ∈ acc then acc else acc ++ [h]
def hdrs (l : List Spare) : List Key := (l.map (·.header)).foldl hd1 []
theorem hd1_mem {acc : List Key} {h x : Key} : x ∈ hd1 acc h ↔ x ∈ acc ∨ x = h := by
  unfold hd1; split
  · next e => exact ⟨.inl, fun h1 => h1.elim id fun h2 => h2 ▸ e⟩
  · simp
theorem hd1_len (acc : List Key) (h : Key) : (hd1 acc h).length ≤ acc.length + 1 := by unfold hd1; split <;> simp
theorem foldl_hd1_mem : ∀ (hs : List Key) (acc : List Key) (x : Key), x ∈ hs.foldl hd1 acc ↔ x ∈ acc ∨ x ∈ hs
  | [], acc, x => by simp
  | h :: t, acc, x => by rw [List.foldl_cons, foldl_hd1_mem t, hd1_mem]; simp [or_assoc]
theorem foldl_hd1_len : ∀ (hs : List Key) (acc : List Key), (hs.foldl hd1 acc).length ≤ acc.length + hs.length
  | [], acc => by simp
  | h :: t, acc => by
    have h1 := foldl_hd1_len t (hd1 acc h)
    have h2 := hd1_len acc h
    rw [List.foldl_cons, List.length_cons]; omega
theorem hdrs_mem {l : List Spare} {x : Key} : x ∈ hdrs l ↔ x ∈ l.map (·.header) := by unfold hdrs; rw [foldl_hd1_mem]; simp
theorem hdrs_le (l : List Spare) : (hdrs l).length ≤ l.length := by have := foldl_hd1_len (l.map (·.header)) []; simpa [hdrs] using this
theorem hdrs_step {l : List Spare} {k : Nat} (hk : k < l.length) : hdrs (l.take (k + 1)) = hd1 (hdrs (l.take k)) l[k].header := by
  unfold hdrs
  rw [List.take_succ_eq_append_getElem hk, List.map_append, List.foldl_append]; rfl
theorem hdrs_new {l : List Spare} {k : Nat} (hk : k < l.length) {p : Prop} (h : p ↔ (((List.map plc l)[k]'(by simpa)).header ∉ hdrs (l.take k))) (h2 : p) : hdrs (l.take (k + 1)) = hdrs (l.take k) ++ [((List.map plc l)[k]'(by simpa)).header] := by
  have h3 := h.1 h2
  rw [hdrs_step hk]; simp only [List.getElem_map, plc] at h3 ⊢
  unfold hd1; rw [if_neg h3]
theorem hdrs_old {l : List Spare} {k : Nat} (hk : k < l.length) {p : Prop} (h : p ↔ (((List.map plc l)[k]'(by simpa)).header ∉ hdrs (l.take k))) (h2 : ¬p) : hdrs (l.take (k + 1)) = hdrs (l.take k) := by
  have h3 := fun e => h2 (h.2 e)
  rw [hdrs_step hk]; simp only [List.getElem_map, plc] at h3
  unfold hd1; rw [if_pos (Classical.not_not.1 h3)]
theorem hdrs_bd {K : Key} {kv : List (Key × Int)} {k : Nat} (h : ∀ h, 0 ≤ (mget h kv).getD 0 ∧ (mget h kv).getD 0 ≤ (k : Int)) : ∀ h, 0 ≤ (mget h (mset K ((mget K kv).getD 0 + 1) (mput0 K 0 kv))).getD 0 ∧ (mget h (mset K ((mget K kv).getD 0 + 1) (mput0 K 0 kv))).getD 0 ≤ ((k + 1 : Nat) : Int) := fun x => by
  rw [mget_mset]
  have h1 := h x; have h2 := h K
  split
  · simp; omega
  · rw [mget_mput0]; omega
theorem hdrs_inv {l : List Spare} {kv : List (Key × Int)} {k : Nat} (hk : k < l.length) (h : ∀ h, (mget h kv).getD 0 = 0 ↔ h ∉ hdrs (l.take k)) (hb : ∀ h, 0 ≤ (mget h kv).getD 0 ∧ (mget h kv).getD 0 ≤ (k : Int)) :
    ∀ h, (mget h (mset ((List.map plc l)[k]'(by simpa)).header ((mget ((List.map plc l)[k]'(by simpa)).header kv).getD 0 + 1) (mput0 ((List.map plc l)[k]'(by simpa)).header 0 kv))).getD 0 = 0 ↔ h ∉ hdrs (l.take (k + 1)) := fun x => by
  rw [mget_mset, hdrs_step hk, hd1_mem]
  have e : ((List.map plc l)[k]'(by simpa)).header = l[k].header := by simp [plc]
  rw [e]
  have h2 := hb l[k].header
  by_cases hx : x = l[k].header
  · rw [if_pos hx]; simp [hx]; omega
  · rw [if_neg hx, mget_mput0, h x]; simp [hx]

theorem Headers_ct (bs m : Nat) (o : Ow) (most : Int) (l : List Spare) (ho : o.ok (List.map plc l)) (hl : l.length ≤ 2000) : Ct Try.prog 33 [.pointer (some ⟨bs, 0, none⟩)] [] [[(bs, .cells (cat [p1 (.int .i64 most), p1 (.map (some m)), p1 (.slice o.adr (List.map plc l).length o.cap)]) 76)], [(m, .pred (isMap (List.map skv l)))], o.seg (List.map plc l) 72] (fun v o r => ∃ o' : Ow, o'.ok (hdrs l) ∧ v = .slice o'.adr (hdrs l).length o'.cap ∧ o = [o'.seg (hdrs l) 30] ∧ r = []) := by
  have hl2 : (List.map plc l).length = l.length := by simp
  refine ct_enter Try.func33 rfl Try.ntmps33 (by kernel_rfl) rfl fun w0 => ?_
  refine c_seq ?_
  refine c_reg ?_
  refine asg (.slice _ _ _) rfl ?_
  refine jt ?_
  refine c_seq ?_
  refine c_reg ?_
  refine asg (.slice _ _ _) rfl ?_
  refine jt ?_
  refine c_seq ?_
  refine c_reg ?_
  refine mkm (α := Key) (β := Int) fun m7 => ⟨trivial, ?_⟩
  refine asg (.map _) rfl ?_
  refine jt ?_
  refine c_seq ?_
  refine c_seq ?_
  refine c_reg ?_
  refine mv (.pointer _) rfl ?_
  refine nlc rfl ?_
  refine fad rfl Try.underlying76 rfl ty74.sz ?_
  refine ldp 1 2 _ rfl rfl rfl rfl ty74 ?_
  refine lenS rfl Try.underlying74 ?_
  refine mv (.int _ _) rfl ?_
  refine jt ?_
  refine c_block ?_
  refine c_addE ?_
  refine c_loop (σ := Nat × Ow × List (Key × Int)) (fun ⟨k, o2, kv⟩ => k ≤ l.length ∧ o2.ok (hdrs (l.take k)) ∧ (∀ h, (mget h kv).getD 0 = 0 ↔ h ∉ hdrs (l.take k)) ∧ ∀ h, 0 ≤ (mget h kv).getD 0 ∧ (mget h kv).getD 0 ≤ (k : Int)) (fun ⟨k, o2, kv⟩ => l.length - k) (fun ⟨k, o2, kv⟩ => [(13, .int .i64 (k : Int)), (3, .slice o2.adr (hdrs (l.take k)).length o2.cap)]) (fun ⟨k, o2, kv⟩ => [[(m7, .pred (isMap kv))], o2.seg (hdrs (l.take k)) 30]) (fun ⟨k, o2, kv⟩ => [[(bs, .cells (cat [p1 (.int .i64 most), p1 (.map (some m)), p1 (.slice o.adr (List.map plc l).length o.cap)]) 76)], [(m, .pred (isMap (List.map skv l)))], o.seg (List.map plc l) 72]) [3, 6, 13, 14, 15, 16, 17, 18, 19, 20, 21, 22, 23, 24, 25, 26, 27, 28, 29, 30, 31, 32, 33, 34] (⟨0, Ow.nil, []⟩) (⟨by omega, by simpa [hdrs] using Ow.nil_ok, by simp [hdrs, mget, fnd], by simp [mget, fnd]⟩) ⟨rfl, rfl, trivial⟩ rfl rfl ?_
  rintro ⟨k, o2, kv⟩ g1 hI1
  try dsimp only at hI1 ⊢
  have hb := hI1.2.2.2
  refine c_seq ?_
  refine c_reg ?_
  refine cmp _ rfl rfl rfl ?_
  refine jt ?_
  refine c_seq ?_
  refine c_cond rfl (fun h1 => ?_) (fun h1 => ?_)
  · replace h1 := of_decide_eq_true h1
    refine c_skip ?_
    refine e_then ?_
    refine c_seq ?_
    refine c_block ?_
    refine c_seq ?_
    refine c_reg ?_
    refine ixs ((o).vs) (List.map plc l) k (Ow.vs_ok ho) rfl rfl rfl Try.underlying74 ty72.sz rfl (by first | omega | (simp; done) | (simp; omega) | (simp at *; omega)) ?_
    refine ldso 4 _ ho rfl rfl rfl rfl (by first | omega | (simp; done) | (simp; omega) | (simp at *; omega)) ty72 ?_
    refine alo [pt (zarr : Key), p1 (.int .u32 0)] _ z72 rfl fun b6 => ⟨trivial, ?_⟩
    refine stw 2 _ [pt ((List.map plc l)[k].header), pt ((List.map plc l)[k].n)] rfl rfl rfl rfl ty72 ⟨trivial, ?_⟩
    refine jt ?_
    refine c_seq ?_
    refine c_seq ?_
    refine c_reg ?_
    refine mv (.map _) rfl ?_
    refine fad rfl Try.underlying72 rfl ty30.sz ?_
    refine ldp 2 0 _ rfl rfl rfl rfl ty30 ?_
    have hbk := hb (List.map plc l)[k].header
    refine lk1 0 kv ((List.map plc l)[k].header) (0 : Int) rfl rfl rfl Try.underlying93 key30 zv3 rfl ?_
    refine cmp _ rfl rfl rfl ?_
    refine jt ?_
    refine c_cond rfl (fun h2 => ?_) (fun h2 => ?_)
    · replace h2 := of_decide_eq_true h2
      refine c_reg ?_
      refine mv (.slice _ _ _) rfl ?_
      refine fad rfl Try.underlying72 rfl ty30.sz ?_
      refine ldp 2 0 _ rfl rfl rfl rfl ty30 ?_
      refine bsl (α := Key) ([(List.map plc l)[k].header]) Try.underlying77 ty30.sz rfl (by decide) z30 rfl fun b25 => ⟨trivial, ?_⟩
      refine app 1 o2 (hdrs (l.take k)) ([(List.map plc l)[k].header] : List Key) hI1.2.1 rfl ⟨rfl, rfl, rfl⟩ rfl rfl (gives_own (ys := ([(List.map plc l)[k].header] : List Key)) (pre := []) (post := []) 3 rfl (by simp) rfl) Try.underlying77 Try.underlying77 (.inl ⟨_, rfl⟩) ty30.sz by30 z30 rfl (by have := hdrs_le (l.take k); simp at this ⊢; omega) rfl fun o26_1 hk26_1 => ⟨trivial, ?_⟩
      refine asg (.slice _ _ _) rfl ?_
      refine jt ?_
      refine c_drT [_, _, _, _, _, _] [] (PT.of [(0, 0), (1, 0), (2, 0)] (.alt (PT.of [(3, 1), (4, 0), (5, 1), (6, 0), (7, 1)] .leaf) (PT.of [(5, 1), (6, 0), (3, 1), (4, 0), (7, 1)] .leaf))) follows (by kernel_rfl) calm_body (keepS [1, 2, 3, 4, 5, 6] rfl) ?_
      refine jt_of [(0, 0), (1, 0), (2, 0)] ?_
      refine mv (.map _) rfl ?_
      refine fad rfl Try.underlying72 rfl ty30.sz ?_
      refine ldp 1 0 _ rfl rfl rfl rfl ty30 ?_
      refine j_alt (keepS [1, 2, 3, 4, 5, 6] rfl) ?_
      refine jt_alt ?_ ?_
      · refine jt_fin [(3, 1), (4, 0), (5, 1), (6, 0), (7, 1)] ?_
        refine lk1 0 kv ((List.map plc l)[k].header) (0 : Int) rfl rfl rfl Try.underlying93 key30 zv3 rfl ?_
        refine addi rfl rfl rfl (by omega) ?_
        refine men 0 kv ((List.map plc l)[k].header) (0 : Int) sbT_u8arr rfl rfl rfl Try.underlying93 key30 zv3 rfl fun s32 => ⟨keepI [1, 2, 3, 4, 5, 6] rfl, ?_⟩
        refine xtr (.int _ _) rfl rfl ?_
        refine ens 0 (mput0 ((List.map plc l)[k].header) (0 : Int) kv) ((List.map plc l)[k].header) (((mget ((List.map plc l)[k].header) kv).getD (0 : Int)) + 1) rfl rfl rfl rfl rfl ⟨keepI [1, 2, 3, 4, 5, 6] rfl, ?_⟩
        refine jn ?_
        refine e_in ?_
        refine e_then ?_
        refine c_reg ?_
        refine addi rfl rfl rfl (by omega) ?_
        refine mv (.int _ _) rfl ?_
        refine jn ?_
        refine e_keep [0, 1] [2, 3] [_, _] rfl (by kernel_rfl) ?_
        have hhn := hdrs_new (show k < l.length by omega) (hI1.2.2.1 _) h2
        rw [← hhn] at hk26_1
        exact e_loop (⟨k + 1, o26_1, mset ((List.map plc l)[k].header) (((mget ((List.map plc l)[k].header) kv).getD (0 : Int)) + 1) (mput0 ((List.map plc l)[k].header) (0 : Int) kv)⟩ : Nat × Ow × List (Key × Int)) (⟨by omega, hk26_1, hdrs_inv (show k < l.length by omega) hI1.2.2.1 hI1.2.2.2, hdrs_bd hI1.2.2.2⟩) (by (try dsimp only); omega) (by simp only [hhn]; exact ⟨rfl, rfl, trivial⟩) rfl (by simp only [hhn] <;> rfl) rfl
      · refine jt_fin [(5, 1), (6, 0), (3, 1), (4, 0), (7, 1)] ?_
        refine men 0 kv ((List.map plc l)[k].header) (0 : Int) sbT_u8arr rfl rfl rfl Try.underlying93 key30 zv3 rfl fun s32 => ⟨keepI [1, 2, 3, 4, 5, 6] rfl, ?_⟩
        refine xtr (.int _ _) rfl rfl ?_
        refine lk1S 0 (mput0 ((List.map plc l)[k].header) (0 : Int) kv) ((List.map plc l)[k].header) (0 : Int) rfl rfl rfl Try.underlying93 key30 zv3 rfl (by rw [mget_mput0]) ?_
        refine addi rfl rfl rfl (by omega) ?_
        refine ens 0 (mput0 ((List.map plc l)[k].header) (0 : Int) kv) ((List.map plc l)[k].header) (((mget ((List.map plc l)[k].header) kv).getD (0 : Int)) + 1) rfl rfl rfl rfl rfl ⟨keepI [1, 2, 3, 4, 5, 6] rfl, ?_⟩
        refine jn ?_
        refine e_in ?_
        refine e_then ?_
        refine c_reg ?_
        refine addi rfl rfl rfl (by omega) ?_
        refine mv (.int _ _) rfl ?_
        refine jn ?_
        refine e_keep [0, 1] [2, 3] [_, _] rfl (by kernel_rfl) ?_
        have hhn := hdrs_new (show k < l.length by omega) (hI1.2.2.1 _) h2
        rw [← hhn] at hk26_1
        exact e_loop (⟨k + 1, o26_1, mset ((List.map plc l)[k].header) (((mget ((List.map plc l)[k].header) kv).getD (0 : Int)) + 1) (mput0 ((List.map plc l)[k].header) (0 : Int) kv)⟩ : Nat × Ow × List (Key × Int)) (⟨by omega, hk26_1, hdrs_inv (show k < l.length by omega) hI1.2.2.1 hI1.2.2.2, hdrs_bd hI1.2.2.2⟩) (by (try dsimp only); omega) (by simp only [hhn]; exact ⟨rfl, rfl, trivial⟩) rfl (by simp only [hhn] <;> rfl) rfl
    · replace h2 := of_decide_eq_false h2
      refine c_skip ?_
      refine e_then ?_
      refine c_drT [_, _, _, _, _] [] (PT.of [(0, 0), (1, 0), (2, 0)] (.alt (PT.of [(3, 1), (4, 0), (5, 1), (6, 0), (7, 1)] .leaf) (PT.of [(5, 1), (6, 0), (3, 1), (4, 0), (7, 1)] .leaf))) follows (by kernel_rfl) calm_body (keepS [1, 2, 3, 4, 5] rfl) ?_
      refine jt_of [(0, 0), (1, 0), (2, 0)] ?_
      refine mv (.map _) rfl ?_
      refine fad rfl Try.underlying72 rfl ty30.sz ?_
      refine ldp 1 0 _ rfl rfl rfl rfl ty30 ?_
      refine j_alt (keepS [1, 2, 3, 4, 5] rfl) ?_
      refine jt_alt ?_ ?_
      · refine jt_fin [(3, 1), (4, 0), (5, 1), (6, 0), (7, 1)] ?_
        refine lk1 0 kv ((List.map plc l)[k].header) (0 : Int) rfl rfl rfl Try.underlying93 key30 zv3 rfl ?_
        refine addi rfl rfl rfl (by omega) ?_
        refine men 0 kv ((List.map plc l)[k].header) (0 : Int) sbT_u8arr rfl rfl rfl Try.underlying93 key30 zv3 rfl fun s32 => ⟨keepI [1, 2, 3, 4, 5] rfl, ?_⟩
        refine xtr (.int _ _) rfl rfl ?_
        refine ens 0 (mput0 ((List.map plc l)[k].header) (0 : Int) kv) ((List.map plc l)[k].header) (((mget ((List.map plc l)[k].header) kv).getD (0 : Int)) + 1) rfl rfl rfl rfl rfl ⟨keepI [1, 2, 3, 4, 5] rfl, ?_⟩
        refine jn ?_
        refine e_in ?_
        refine e_then ?_
        refine c_reg ?_
        refine addi rfl rfl rfl (by omega) ?_
        refine mv (.int _ _) rfl ?_
        refine jn ?_
        refine e_keep [0, 1] [2] [_, _] rfl (by kernel_rfl) ?_
        have hhn := hdrs_old (show k < l.length by omega) (hI1.2.2.1 _) h2
        have hok2 := hI1.2.1
        rw [← hhn] at hok2
        exact e_loop (⟨k + 1, o2, mset ((List.map plc l)[k].header) (((mget ((List.map plc l)[k].header) kv).getD (0 : Int)) + 1) (mput0 ((List.map plc l)[k].header) (0 : Int) kv)⟩ : Nat × Ow × List (Key × Int)) (⟨by omega, hok2, hdrs_inv (show k < l.length by omega) hI1.2.2.1 hI1.2.2.2, hdrs_bd hI1.2.2.2⟩) (by (try dsimp only); omega) (by simp only [hhn]; exact ⟨rfl, rfl, trivial⟩) rfl (by simp only [hhn] <;> rfl) rfl
      · refine jt_fin [(5, 1), (6, 0), (3, 1), (4, 0), (7, 1)] ?_
        refine men 0 kv ((List.map plc l)[k].header) (0 : Int) sbT_u8arr rfl rfl rfl Try.underlying93 key30 zv3 rfl fun s32 => ⟨keepI [1, 2, 3, 4, 5] rfl, ?_⟩
        refine xtr (.int _ _) rfl rfl ?_
        refine lk1S 0 (mput0 ((List.map plc l)[k].header) (0 : Int) kv) ((List.map plc l)[k].header) (0 : Int) rfl rfl rfl Try.underlying93 key30 zv3 rfl (by rw [mget_mput0]) ?_
        refine addi rfl rfl rfl (by omega) ?_
        refine ens 0 (mput0 ((List.map plc l)[k].header) (0 : Int) kv) ((List.map plc l)[k].header) (((mget ((List.map plc l)[k].header) kv).getD (0 : Int)) + 1) rfl rfl rfl rfl rfl ⟨keepI [1, 2, 3, 4, 5] rfl, ?_⟩
        refine jn ?_
        refine e_in ?_
        refine e_then ?_
        refine c_reg ?_
        refine addi rfl rfl rfl (by omega) ?_
        refine mv (.int _ _) rfl ?_
        refine jn ?_
        refine e_keep [0, 1] [2] [_, _] rfl (by kernel_rfl) ?_
        have hhn := hdrs_old (show k < l.length by omega) (hI1.2.2.1 _) h2
        have hok2 := hI1.2.1
        rw [← hhn] at hok2
        exact e_loop (⟨k + 1, o2, mset ((List.map plc l)[k].header) (((mget ((List.map plc l)[k].header) kv).getD (0 : Int)) + 1) (mput0 ((List.map plc l)[k].header) (0 : Int) kv)⟩ : Nat × Ow × List (Key × Int)) (⟨by omega, hok2, hdrs_inv (show k < l.length by omega) hI1.2.2.1 hI1.2.2.2, hdrs_bd hI1.2.2.2⟩) (by (try dsimp only); omega) (by simp only [hhn]; exact ⟨rfl, rfl, trivial⟩) rfl (by simp only [hhn] <;> rfl) rfl
  · replace h1 := of_decide_eq_false h1
    refine c_exit rfl ?_
    refine e_then ?_
    refine c_seq ?_
    refine c_reg ?_
    refine mv (.slice _ _ _) rfl ?_
    refine asg (.slice _ _ _) rfl ?_
    refine jt ?_
    refine c_ret ?_
    exact j_end (own0 := []) (ro0 := [[(bs, .cells (cat [p1 (.int .i64 most), p1 (.map (some m)), p1 (.slice o.adr (List.map plc l).length o.cap)]) 76)], [(m, .pred (isMap (List.map skv l)))], o.seg (List.map plc l) 72]) (.inl rfl) rfl (hr1 Try.results33 (rvt (v := (.slice _ _ _)) rfl)) [1] [0] [_] [_] [] _ rfl rfl (by kernel_rfl) rfl impl_nil (⟨o2, by simpa [show l.take k = l from List.take_of_length_le (by omega)] using hI1.2.1, by rw [show l.take k = l from List.take_of_length_le (by omega)], by rw [show l.take k = l from List.take_of_length_le (by omega)], rfl⟩)
end Go.Proofs.Ytacfjmjcgolhfaa
