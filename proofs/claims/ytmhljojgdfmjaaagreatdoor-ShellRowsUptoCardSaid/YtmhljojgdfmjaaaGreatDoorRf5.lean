/- walks -/
import Derived.Test.YtmhljojgdfmjaaaGreatDoorRf2
import Derived.Test.YtmhljojgdfmjaaaGreatDoorSh5
namespace Go.Proofs.YtmhljojgdfmjaaaGreatDoor
open Go.E
set_option linter.unusedVariables false
set_option linter.unusedSimpArgs false
set_option maxRecDepth 100000
set_option maxHeartbeats 1000000
open Go.Sh
theorem rwLine_2 (e : Rw) : (rwLine e).2 = !rwBad e := by unfold rwLine; cases rwBad e <;> rfl
theorem rwLine_1 {e : Rw} (h : (rwLine e).2 = true) : (rwLine e).1 = rwText e := by
  unfold rwLine at h ⊢
  cases hb : rwBad e with
  | true => rw [hb] at h; cases h
  | false => rfl
/-- ref31.RowLine -/
theorem rRowLine_calls (w : World) (ok : Nat → Prop) (cs : List Value) (e : Rw) (he : RwK ok w cs e) :
    Does Tryz.prog 19 #[.agg cs.toArray] w fun r w' => ∃ x b, r = .tuple #[.string ⟨x.toArray⟩, .bool b] ∧ b = (rwLine e).2 ∧ (b = true → x = (rwLine e).1) ∧ Fr [] w w' := by
  obtain ⟨A1, c1, rfl, hc1, hel1, hfit⟩ := he
  obtain ⟨⟨hk1, hk2⟩, ⟨hr1, hr2⟩, ⟨ho1, ho2⟩, ⟨hn1, hn2⟩, hdl⟩ := id hfit
  have hki : i64 e.kind := ⟨hk1, hk2⟩
  refine Does.of (fn_in (l := [.agg #[.int .i64 e.kind, .int .i64 e.err, .int .i64 e.conn, .int .i64 e.n, .slice A1 e.data.length c1, .bool e.ended]]) Tryz.func19 rfl Tryz.ntmps19 rfl ?_)
  have hl1 := nameL_len e.kind
  have hl2 := quoteL_len e.data
  have hl3 := itoa_len (n := e.conn) ⟨ho1, ho2⟩
  have hl4 := itoa_len (n := e.n) ⟨hn1, hn2⟩
  have hl5 := itoa_len (n := e.err) ⟨hr1, hr2⟩
  refine wp_seq ?_
  refine r_start ?_
  refine l_new (fun k_ => .pointer (some ⟨k_, 0, none⟩)) rfl rfl (by kernel_rfl) (ob := .cells #[.int .i64 e.kind, .int .i64 e.err, .int .i64 e.conn, .int .i64 e.n, .slice A1 e.data.length c1, .bool e.ended] 54) (fun k1 w2 n3 => ?_)
  have n3k := n3.hk; have n3z := n3.sz
  refine l_v (v := .string ⟨([] : List UInt8).toArray⟩) rfl rfl (by kernel_rfl) ?_
  refine l_v (v := .bool false) rfl rfl (by kernel_rfl) ?_
  refine l_nil ?_
  refine n_then ?_
  refine wp_seq ?_
  refine r_start ?_
  refine l_v (v := .pointer (some ⟨k1, 0, none⟩)) rfl rfl (r_field rfl rfl Tryz.underlying54 rfl (by kernel_rfl) rfl) ?_
  refine l_v (v := .int .i64 e.kind) rfl rfl (r_load rfl rfl Tryz.underlying3 rfl (cell_at n3.at_ rfl)) ?_
  refine l_call rfl rfl (r_call (args := #[.int .i64 e.kind]) rfl e36 (am rfl)) (rName_calls w2 e.kind (by unfold i64; omega)) (fun v5 w6 h4 => ?_)
  obtain ⟨rfl, h4f⟩ := h4
  have h4z := h4f.size
  refine l_v (v := .string ⟨(nameL e.kind).toArray⟩) rfl rfl (by kernel_rfl) ?_
  refine l_nil ?_
  refine n_then ?_
  refine wp_seq ?_
  refine r_start ?_
  refine l_v (v := .pointer (some ⟨k1, 2, none⟩)) rfl rfl (r_field rfl rfl Tryz.underlying54 rfl (by kernel_rfl) rfl) ?_
  have hb7 := (h4f.at0 n3.at_)
  refine l_v (v := .int .i64 e.conn) rfl rfl (r_load rfl rfl Tryz.underlying3 rfl (cell_at hb7 rfl)) ?_
  refine l_v (v := .bool (e.conn == (0 : Int))) rfl rfl (by kernel_rfl) ?_
  refine l_v (v := .bool (e.conn == (0 : Int))) rfl rfl (by kernel_rfl) ?_
  refine l_g (v := .pointer (some ⟨k1, 3, none⟩)) (want_1 rfl rfl rfl rfl) rfl (fun hW_ => (r_field rfl rfl Tryz.underlying54 rfl (by kernel_rfl) rfl)) ?_
  refine l_g (v := .int .i64 e.n) (want_1 rfl rfl rfl rfl) rfl (fun hW_ => (r_load rfl (gd_true hW_ _) Tryz.underlying3 rfl (cell_at hb7 rfl))) ?_
  refine l_g (v := .bool (e.n == (0 : Int))) (want_1 rfl rfl rfl rfl) rfl (fun hW_ => (r_cmp rfl (gd_true hW_ _) rfl rfl)) ?_
  refine l_v (v := .bool (((e.conn == (0 : Int)) && (e.n == (0 : Int))))) rfl rfl (r_pick rfl rfl (pick_and _ _)) ?_
  refine l_v (v := .bool (((e.conn == (0 : Int)) && (e.n == (0 : Int))))) rfl rfl (by kernel_rfl) ?_
  refine l_g (v := .pointer (some ⟨k1, 4, none⟩)) (want_1 rfl rfl rfl rfl) rfl (fun hW_ => (r_field rfl rfl Tryz.underlying54 rfl (by kernel_rfl) rfl)) ?_
  refine l_g (v := .slice A1 e.data.length c1) (want_1 rfl rfl rfl rfl) rfl (fun hW_ => (r_load rfl (gd_true hW_ _) Tryz.underlying47 rfl (cell_at hb7 rfl))) ?_
  refine l_g (v := .int .i64 ((e.data.length : Nat) : Int)) (want_1 rfl rfl rfl rfl) rfl (fun hW_ => (r_len rfl (gd_true hW_ _) Tryz.underlying47)) ?_
  refine l_g (v := .bool ((((e.data.length : Nat) : Int) == (0 : Int)))) (want_1 rfl rfl rfl rfl) rfl (fun hW_ => (r_cmp rfl (gd_true hW_ _) rfl rfl)) ?_
  refine l_v (v := .bool (((((e.conn == (0 : Int)) && (e.n == (0 : Int)))) && ((((e.data.length : Nat) : Int) == (0 : Int)))))) rfl rfl (r_pick rfl rfl (pick_and _ _)) ?_
  refine l_v (v := .bool (((((e.conn == (0 : Int)) && (e.n == (0 : Int)))) && ((((e.data.length : Nat) : Int) == (0 : Int)))))) rfl rfl (by kernel_rfl) ?_
  refine l_g (v := .pointer (some ⟨k1, 5, none⟩)) (want_1 rfl rfl rfl rfl) rfl (fun hW_ => (r_field rfl rfl Tryz.underlying54 rfl (by kernel_rfl) rfl)) ?_
  refine l_g (v := .bool e.ended) (want_1 rfl rfl rfl rfl) rfl (fun hW_ => (r_load rfl (gd_true hW_ _) Tryz.underlying4 rfl (cell_at hb7 rfl))) ?_
  refine l_g (v := .bool (!e.ended)) (want_1 rfl rfl rfl rfl) rfl (fun hW_ => (r_not rfl (gd_true hW_ _))) ?_
  refine l_v (v := .bool (((((((e.conn == (0 : Int)) && (e.n == (0 : Int)))) && ((((e.data.length : Nat) : Int) == (0 : Int))))) && (!e.ended)))) rfl rfl (r_pick rfl rfl (pick_and _ _)) ?_
  refine l_v (v := .bool (((((((e.conn == (0 : Int)) && (e.n == (0 : Int)))) && ((((e.data.length : Nat) : Int) == (0 : Int))))) && (!e.ended)))) rfl rfl (by kernel_rfl) ?_
  refine l_nil ?_
  refine n_then ?_
  refine wp_seq ?_
  refine wp_seq ?_
  refine r_start ?_
  refine l_v (v := .string ⟨(nameL e.kind).toArray⟩) rfl rfl (by kernel_rfl) ?_
  refine l_v (v := .bool (decide (nameL e.kind = ([] : List UInt8)))) rfl rfl (r_str_eql rfl rfl rfl) ?_
  refine l_nil ?_
  refine n_then ?_
  refine c_cond (e := decide (nameL e.kind = ([] : List UInt8))) rfl (fun hc8 => ?_) (fun hc8 => ?_)
  · try simp only [decide_eq_true_eq, decide_eq_false_iff_not, Bool.and_eq_true, Bool.or_eq_true, Bool.and_eq_false_iff, Bool.or_eq_false_iff, Bool.not_eq_true', Bool.not_eq_false', beq_iff_eq, bne_iff_ne, ne_eq, beq_eq_false_iff_ne, bne_eq_false_iff_eq, gt_iff_lt, ge_iff_le, Int.not_lt, Int.not_le] at hc8
    refine wp_seq ?_
    refine r_start ?_
    refine l_v (v := .string ⟨([] : List UInt8).toArray⟩) rfl rfl (by kernel_rfl) ?_
    refine l_v (v := .bool false) rfl rfl (by kernel_rfl) ?_
    refine l_nil ?_
    refine n_then ?_
    refine wp_ret ?_
    refine t_then ?_
    have hbad : (rwLine e).2 = false := by rw [rwLine_2]; simp [rwBad, hc8]
    have hE9 : Fr [] w w6 := (((Fr.refl [] w).trans n3.fr).trans h4f)
    have hE9z := hE9.size
    exact end_ret (v := .tuple #[.string ⟨([] : List UInt8).toArray⟩, .bool false]) (res2 rfl rfl rfl) ⟨_, rfl, ⟨[], false, rfl, hbad.symm, (fun h_ => (by cases h_)), hE9⟩⟩
  · try simp only [decide_eq_true_eq, decide_eq_false_iff_not, Bool.and_eq_true, Bool.or_eq_true, Bool.and_eq_false_iff, Bool.or_eq_false_iff, Bool.not_eq_true', Bool.not_eq_false', beq_iff_eq, bne_iff_ne, ne_eq, beq_eq_false_iff_ne, bne_eq_false_iff_eq, gt_iff_lt, ge_iff_le, Int.not_lt, Int.not_le] at hc8
    refine wp_skip ?_
    refine n_then ?_
    refine wp_seq ?_
    refine wp_seq ?_
    refine r_start ?_
    refine l_v (v := .pointer (some ⟨k1, 1, none⟩)) rfl rfl (r_field rfl rfl Tryz.underlying54 rfl (by kernel_rfl) rfl) ?_
    refine l_v (v := .int .i64 e.err) rfl rfl (r_load rfl rfl Tryz.underlying3 rfl (cell_at hb7 rfl)) ?_
    refine l_v (v := .bool (e.err != (0 : Int))) rfl rfl (by kernel_rfl) ?_
    refine l_nil ?_
    refine n_then ?_
    refine c_cond (e := (e.err != (0 : Int))) rfl (fun hc10 => ?_) (fun hc10 => ?_)
    · try simp only [decide_eq_true_eq, decide_eq_false_iff_not, Bool.and_eq_true, Bool.or_eq_true, Bool.and_eq_false_iff, Bool.or_eq_false_iff, Bool.not_eq_true', Bool.not_eq_false', beq_iff_eq, bne_iff_ne, ne_eq, beq_eq_false_iff_ne, bne_eq_false_iff_eq, gt_iff_lt, ge_iff_le, Int.not_lt, Int.not_le] at hc10
      refine wp_seq ?_
      refine r_start ?_
      refine l_v (v := .string ⟨(nameL e.kind).toArray⟩) rfl rfl (by kernel_rfl) ?_
      refine l_v (v := .string ⟨((nameL e.kind) ++ ([32, 101, 114, 114, 111, 114, 32] : List UInt8)).toArray⟩) rfl rfl (r_str_add rfl rfl rfl (by (try simp only [List.length_append, List.length_cons, List.length_nil]); omega)) ?_
      refine l_v (v := .pointer (some ⟨k1, 1, none⟩)) rfl rfl (r_field rfl rfl Tryz.underlying54 rfl (by kernel_rfl) rfl) ?_
      refine l_v (v := .int .i64 e.err) rfl rfl (r_load rfl rfl Tryz.underlying3 rfl (cell_at hb7 rfl)) ?_
      refine l_call rfl rfl (r_call (args := #[.int .i64 e.err]) rfl e37 (am rfl)) (rNumber_calls w6 e.err (by unfold i64; omega)) (fun v12 w13 h11 => ?_)
      obtain ⟨rfl, h11f⟩ := h11
      have h11z := h11f.size
      refine l_v (v := .string ⟨(((nameL e.kind) ++ ([32, 101, 114, 114, 111, 114, 32] : List UInt8)) ++ (Lib.itoa e.err)).toArray⟩) rfl rfl (r_str_add rfl rfl rfl (by (try simp only [List.length_append, List.length_cons, List.length_nil]); omega)) ?_
      refine l_v (v := .bool (((((((e.conn == (0 : Int)) && (e.n == (0 : Int)))) && ((((e.data.length : Nat) : Int) == (0 : Int))))) && (!e.ended)))) rfl rfl (by kernel_rfl) ?_
      refine l_v (v := .string ⟨(((nameL e.kind) ++ ([32, 101, 114, 114, 111, 114, 32] : List UInt8)) ++ (Lib.itoa e.err)).toArray⟩) rfl rfl (by kernel_rfl) ?_
      refine l_v (v := .bool (((((((e.conn == (0 : Int)) && (e.n == (0 : Int)))) && ((((e.data.length : Nat) : Int) == (0 : Int))))) && (!e.ended)))) rfl rfl (by kernel_rfl) ?_
      refine l_nil ?_
      refine n_then ?_
      refine wp_ret ?_
      refine t_then ?_
      have pf14 : (e.err == (0 : Int)) = false := by simpa using hc10
      have hdl0 : decide (e.data ≠ []) = !(((e.data.length : Nat) : Int) == (0 : Int)) := by cases e.data <;> simp <;> omega
      have hnm0 : decide (nameL e.kind = []) = false := by simpa using hc8
      have hfl : (((((((e.conn == (0 : Int)) && (e.n == (0 : Int)))) && ((((e.data.length : Nat) : Int) == (0 : Int))))) && (!e.ended))) = (rwLine e).2 := by
        rw [rwLine_2]
        unfold rwBad
        simp only [bne, hdl0, hnm0, pf14]
        cases q1_ : (e.conn == (0 : Int)) <;> cases q2_ : (e.n == (0 : Int)) <;> cases q3_ : (((e.data.length : Nat) : Int) == (0 : Int)) <;> cases q4_ : e.ended <;> simp <;> omega
      have htx : (((((((e.conn == (0 : Int)) && (e.n == (0 : Int)))) && ((((e.data.length : Nat) : Int) == (0 : Int))))) && (!e.ended))) = true → ((nameL e.kind) ++ ([32, 101, 114, 114, 111, 114, 32] : List UInt8)) ++ (Lib.itoa e.err) = (rwLine e).1 := by
        intro h_
        rw [rwLine_1 (hfl ▸ h_)]
        simp [rwText, sp, okW, errorW, openW, endedW, hc8, hc10]
      have hE15 : Fr [] w w13 := ((((Fr.refl [] w).trans n3.fr).trans h4f).trans h11f)
      have hE15z := hE15.size
      exact end_ret (v := .tuple #[.string ⟨(((nameL e.kind) ++ ([32, 101, 114, 114, 111, 114, 32] : List UInt8)) ++ (Lib.itoa e.err)).toArray⟩, .bool (((((((e.conn == (0 : Int)) && (e.n == (0 : Int)))) && ((((e.data.length : Nat) : Int) == (0 : Int))))) && (!e.ended)))]) (res2 rfl rfl rfl) ⟨_, rfl, ⟨_, _, rfl, hfl, htx, hE15⟩⟩
    · try simp only [decide_eq_true_eq, decide_eq_false_iff_not, Bool.and_eq_true, Bool.or_eq_true, Bool.and_eq_false_iff, Bool.or_eq_false_iff, Bool.not_eq_true', Bool.not_eq_false', beq_iff_eq, bne_iff_ne, ne_eq, beq_eq_false_iff_ne, bne_eq_false_iff_eq, gt_iff_lt, ge_iff_le, Int.not_lt, Int.not_le] at hc10
      refine wp_skip ?_
      refine n_then ?_
      refine wp_seq ?_
      refine wp_seq ?_
      refine r_start ?_
      refine l_v (v := .pointer (some ⟨k1, 0, none⟩)) rfl rfl (r_field rfl rfl Tryz.underlying54 rfl (by kernel_rfl) rfl) ?_
      refine l_v (v := .int .i64 e.kind) rfl rfl (r_load rfl rfl Tryz.underlying3 rfl (cell_at hb7 rfl)) ?_
      refine l_nil ?_
      refine n_then ?_
      refine wp_block ?_
      refine wp_seq ?_
      refine r_start ?_
      refine l_v (v := .bool (e.kind == (1 : Int))) rfl rfl (by kernel_rfl) ?_
      refine l_v (v := .bool (e.kind == (1 : Int))) rfl rfl (by kernel_rfl) ?_
      refine l_nil ?_
      refine n_then ?_
      refine c_cond (e := (e.kind == (1 : Int))) rfl (fun hc16 => ?_) (fun hc16 => ?_)
      · try simp only [decide_eq_true_eq, decide_eq_false_iff_not, Bool.and_eq_true, Bool.or_eq_true, Bool.and_eq_false_iff, Bool.or_eq_false_iff, Bool.not_eq_true', Bool.not_eq_false', beq_iff_eq, bne_iff_ne, ne_eq, beq_eq_false_iff_ne, bne_eq_false_iff_eq, gt_iff_lt, ge_iff_le, Int.not_lt, Int.not_le] at hc16
        refine wp_seq ?_
        have hE21 : Fr [] w w6 := (((Fr.refl [] w).trans n3.fr).trans h4f)
        have hE21z := hE21.size
        refine h_start' (fun w0_ w_ => Fr [] w0_ w_) hmix (fun _ _ _ _ _ h => h) (fun w17 f18 hQ20 => ?_)
        have f18z := f18.size
        have hb22 := (f18.at0 hb7)
        refine h_take (i := 0) (v := .string ⟨(nameL e.kind).toArray⟩) rfl (by kernel_rfl) (by kernel_rfl) (by kernel_rfl) hQ20 rfl rfl (fun w_ hS_ => (by kernel_rfl)) (Fr.refl [] w17) ?_
        refine h_take (i := 1) (v := .string ⟨((nameL e.kind) ++ ([32, 111, 107, 32] : List UInt8)).toArray⟩) rfl (by kernel_rfl) (by kernel_rfl) (by kernel_rfl) hQ20 rfl rfl (fun w_ hS_ => (r_str_add rfl rfl rfl (by (try simp only [List.length_append, List.length_cons, List.length_nil]); omega))) (Fr.refl [] w17) ?_
        refine h_take (i := 2) (v := .pointer (some ⟨k1, 2, none⟩)) rfl (by kernel_rfl) (by kernel_rfl) (by kernel_rfl) hQ20 rfl rfl (fun w_ hS_ => (r_field rfl rfl Tryz.underlying54 rfl (by kernel_rfl) rfl)) (Fr.refl [] w17) ?_
        refine h_take (i := 3) (v := .int .i64 e.conn) rfl (by kernel_rfl) (by kernel_rfl) (by kernel_rfl) hQ20 rfl rfl (fun w_ hS_ => (r_load rfl rfl Tryz.underlying3 rfl (cell_at (hS_.at hb22 (by simp)) rfl))) (Fr.refl [] w17) ?_
        refine h_take (i := 6) (v := .pointer (some ⟨k1, 3, none⟩)) rfl (by kernel_rfl) (by kernel_rfl) (by kernel_rfl) hQ20 rfl rfl (fun w_ hS_ => (r_field rfl rfl Tryz.underlying54 rfl (by kernel_rfl) rfl)) (Fr.refl [] w17) ?_
        refine h_take (i := 7) (v := .int .i64 e.n) rfl (by kernel_rfl) (by kernel_rfl) (by kernel_rfl) hQ20 rfl rfl (fun w_ hS_ => (r_load rfl rfl Tryz.underlying3 rfl (cell_at (hS_.at hb22 (by simp)) rfl))) (Fr.refl [] w17) ?_
        refine h_take (i := 8) (v := .bool (e.n == (0 : Int))) rfl (by kernel_rfl) (by kernel_rfl) (by kernel_rfl) hQ20 rfl rfl (fun w_ hS_ => (by kernel_rfl)) (Fr.refl [] w17) ?_
        refine h_call (i := 4) (by kernel_rfl) rfl rfl rfl (r_call (args := #[.int .i64 e.conn]) rfl e37 (am rfl)) (rNumber_calls w17 e.conn (by unfold i64; omega)) (fun v24 w25 h23 => ?_)
        obtain ⟨rfl, h23f⟩ := h23
        have h23z := h23f.size
        refine ⟨(Fr.refl [] w17).trans h23f.any, ?_⟩
        refine h_take (i := 5) (v := .string ⟨(((nameL e.kind) ++ ([32, 111, 107, 32] : List UInt8)) ++ (Lib.itoa e.conn)).toArray⟩) rfl (by kernel_rfl) (by kernel_rfl) (by kernel_rfl) hQ20 rfl rfl (fun w_ hS_ => (r_str_add rfl rfl rfl (by (try simp only [List.length_append, List.length_cons, List.length_nil]); omega))) ((Fr.refl [] w17).trans h23f.any) ?_
        refine h_take (i := 9) (v := .bool (e.n == (0 : Int))) rfl (by kernel_rfl) (by kernel_rfl) (by kernel_rfl) hQ20 rfl rfl (fun w_ hS_ => (by kernel_rfl)) ((Fr.refl [] w17).trans h23f.any) ?_
        refine h_takeg (i := 10) (v := .pointer (some ⟨k1, 4, none⟩)) rfl (by kernel_rfl) (by kernel_rfl) (by kernel_rfl) hQ20 (want_1 rfl rfl rfl rfl) rfl (fun hW_ w_ hS_ => (r_field rfl rfl Tryz.underlying54 rfl (by kernel_rfl) rfl)) ((Fr.refl [] w17).trans h23f.any) ?_
        have hb26 := (h23f.at0 hb22)
        refine h_takeg (i := 11) (v := .slice A1 e.data.length c1) rfl (by kernel_rfl) (by kernel_rfl) (by kernel_rfl) hQ20 (want_1 rfl rfl rfl rfl) rfl (fun hW_ w_ hS_ => (r_load rfl (gd_true hW_ _) Tryz.underlying47 rfl (cell_at (hS_.at hb22 (by simp)) rfl))) ((Fr.refl [] w17).trans h23f.any) ?_
        refine h_takeg (i := 12) (v := .int .i64 ((e.data.length : Nat) : Int)) rfl (by kernel_rfl) (by kernel_rfl) (by kernel_rfl) hQ20 (want_1 rfl rfl rfl rfl) rfl (fun hW_ w_ hS_ => (r_len rfl (gd_true hW_ _) Tryz.underlying47)) ((Fr.refl [] w17).trans h23f.any) ?_
        refine h_takeg (i := 13) (v := .bool ((((e.data.length : Nat) : Int) == (0 : Int)))) rfl (by kernel_rfl) (by kernel_rfl) (by kernel_rfl) hQ20 (want_1 rfl rfl rfl rfl) rfl (fun hW_ w_ hS_ => (r_cmp rfl (gd_true hW_ _) rfl rfl)) ((Fr.refl [] w17).trans h23f.any) ?_
        refine h_take (i := 14) (v := .bool (((e.n == (0 : Int)) && ((((e.data.length : Nat) : Int) == (0 : Int)))))) rfl (by kernel_rfl) (by kernel_rfl) (by kernel_rfl) hQ20 rfl rfl (fun w_ hS_ => (r_pick rfl rfl (pick_and _ _))) ((Fr.refl [] w17).trans h23f.any) ?_
        refine h_take (i := 15) (v := .bool (((e.n == (0 : Int)) && ((((e.data.length : Nat) : Int) == (0 : Int)))))) rfl (by kernel_rfl) (by kernel_rfl) (by kernel_rfl) hQ20 rfl rfl (fun w_ hS_ => (by kernel_rfl)) ((Fr.refl [] w17).trans h23f.any) ?_
        refine h_takeg (i := 16) (v := .pointer (some ⟨k1, 5, none⟩)) rfl (by kernel_rfl) (by kernel_rfl) (by kernel_rfl) hQ20 (want_1 rfl rfl rfl rfl) rfl (fun hW_ w_ hS_ => (r_field rfl rfl Tryz.underlying54 rfl (by kernel_rfl) rfl)) ((Fr.refl [] w17).trans h23f.any) ?_
        refine h_takeg (i := 17) (v := .bool e.ended) rfl (by kernel_rfl) (by kernel_rfl) (by kernel_rfl) hQ20 (want_1 rfl rfl rfl rfl) rfl (fun hW_ w_ hS_ => (r_load rfl (gd_true hW_ _) Tryz.underlying4 rfl (cell_at (hS_.at hb22 (by simp)) rfl))) ((Fr.refl [] w17).trans h23f.any) ?_
        refine h_takeg (i := 18) (v := .bool (!e.ended)) rfl (by kernel_rfl) (by kernel_rfl) (by kernel_rfl) hQ20 (want_1 rfl rfl rfl rfl) rfl (fun hW_ w_ hS_ => (r_not rfl (gd_true hW_ _))) ((Fr.refl [] w17).trans h23f.any) ?_
        refine h_take (i := 19) (v := .bool (((((e.n == (0 : Int)) && ((((e.data.length : Nat) : Int) == (0 : Int))))) && (!e.ended)))) rfl (by kernel_rfl) (by kernel_rfl) (by kernel_rfl) hQ20 rfl rfl (fun w_ hS_ => (r_pick rfl rfl (pick_and _ _))) ((Fr.refl [] w17).trans h23f.any) ?_
        refine h_take (i := 20) (v := .string ⟨(((nameL e.kind) ++ ([32, 111, 107, 32] : List UInt8)) ++ (Lib.itoa e.conn)).toArray⟩) rfl (by kernel_rfl) (by kernel_rfl) (by kernel_rfl) hQ20 rfl rfl (fun w_ hS_ => (by kernel_rfl)) ((Fr.refl [] w17).trans h23f.any) ?_
        refine h_take (i := 21) (v := .bool (((((e.n == (0 : Int)) && ((((e.data.length : Nat) : Int) == (0 : Int))))) && (!e.ended)))) rfl (by kernel_rfl) (by kernel_rfl) (by kernel_rfl) hQ20 rfl rfl (fun w_ hS_ => (by kernel_rfl)) ((Fr.refl [] w17).trans h23f.any) ?_
        refine wpAnyH_done (by kernel_rfl) ?_ _
        refine n_then ?_
        refine wp_ret ?_
        refine t_block ?_
        refine t_then ?_
        have pf27 : (e.err == (0 : Int)) = true := by simpa using hc10
        have pf28 : (e.kind == (1 : Int)) = true := by simpa using hc16
        have hdl0 : decide (e.data ≠ []) = !(((e.data.length : Nat) : Int) == (0 : Int)) := by cases e.data <;> simp <;> omega
        have hnm0 : decide (nameL e.kind = []) = false := by simpa using hc8
        have hfl : (((((e.n == (0 : Int)) && ((((e.data.length : Nat) : Int) == (0 : Int))))) && (!e.ended))) = (rwLine e).2 := by
          rw [rwLine_2]
          unfold rwBad
          simp only [bne, hdl0, hnm0, pf27, pf28]
          cases q1_ : (e.conn == (0 : Int)) <;> cases q2_ : (e.n == (0 : Int)) <;> cases q3_ : (((e.data.length : Nat) : Int) == (0 : Int)) <;> cases q4_ : e.ended <;> simp <;> omega
        have htx : (((((e.n == (0 : Int)) && ((((e.data.length : Nat) : Int) == (0 : Int))))) && (!e.ended))) = true → ((nameL e.kind) ++ ([32, 111, 107, 32] : List UInt8)) ++ (Lib.itoa e.conn) = (rwLine e).1 := by
          intro h_
          rw [rwLine_1 (hfl ▸ h_)]
          simp [rwText, sp, okW, errorW, openW, endedW, hc8, hc10, hc16]
        have hE29 : Fr [] w w25 := ((hE21.trans f18).trans h23f)
        have hE29z := hE29.size
        exact end_ret (v := .tuple #[.string ⟨(((nameL e.kind) ++ ([32, 111, 107, 32] : List UInt8)) ++ (Lib.itoa e.conn)).toArray⟩, .bool (((((e.n == (0 : Int)) && ((((e.data.length : Nat) : Int) == (0 : Int))))) && (!e.ended)))]) (res2 rfl rfl rfl) ⟨_, rfl, ⟨_, _, rfl, hfl, htx, hE29⟩⟩
      · try simp only [decide_eq_true_eq, decide_eq_false_iff_not, Bool.and_eq_true, Bool.or_eq_true, Bool.and_eq_false_iff, Bool.or_eq_false_iff, Bool.not_eq_true', Bool.not_eq_false', beq_iff_eq, bne_iff_ne, ne_eq, beq_eq_false_iff_ne, bne_eq_false_iff_eq, gt_iff_lt, ge_iff_le, Int.not_lt, Int.not_le] at hc16
        refine wp_seq ?_
        refine r_start ?_
        refine l_v (v := .bool (e.kind == (2 : Int))) rfl rfl (by kernel_rfl) ?_
        refine l_v (v := .bool (e.kind == (2 : Int))) rfl rfl (by kernel_rfl) ?_
        refine l_nil ?_
        refine n_then ?_
        refine c_cond (e := (e.kind == (2 : Int))) rfl (fun hc30 => ?_) (fun hc30 => ?_)
        · try simp only [decide_eq_true_eq, decide_eq_false_iff_not, Bool.and_eq_true, Bool.or_eq_true, Bool.and_eq_false_iff, Bool.or_eq_false_iff, Bool.not_eq_true', Bool.not_eq_false', beq_iff_eq, bne_iff_ne, ne_eq, beq_eq_false_iff_ne, bne_eq_false_iff_eq, gt_iff_lt, ge_iff_le, Int.not_lt, Int.not_le] at hc30
          refine wp_seq ?_
          refine r_start ?_
          refine l_v (v := .string ⟨([32, 111, 112, 101, 110] : List UInt8).toArray⟩) rfl rfl (by kernel_rfl) ?_
          refine l_nil ?_
          refine n_then ?_
          refine wp_seq ?_
          refine wp_seq ?_
          refine r_start ?_
          refine l_v (v := .pointer (some ⟨k1, 5, none⟩)) rfl rfl (r_field rfl rfl Tryz.underlying54 rfl (by kernel_rfl) rfl) ?_
          refine l_v (v := .bool e.ended) rfl rfl (r_load rfl rfl Tryz.underlying4 rfl (cell_at hb7 rfl)) ?_
          refine l_nil ?_
          refine n_then ?_
          refine c_cond (e := e.ended) rfl (fun hc31 => ?_) (fun hc31 => ?_)
          · try simp only [decide_eq_true_eq, decide_eq_false_iff_not, Bool.and_eq_true, Bool.or_eq_true, Bool.and_eq_false_iff, Bool.or_eq_false_iff, Bool.not_eq_true', Bool.not_eq_false', beq_iff_eq, bne_iff_ne, ne_eq, beq_eq_false_iff_ne, bne_eq_false_iff_eq, gt_iff_lt, ge_iff_le, Int.not_lt, Int.not_le] at hc31
            refine r_start ?_
            refine l_v (v := .string ⟨([32, 101, 110, 100, 101, 100] : List UInt8).toArray⟩) rfl rfl (by kernel_rfl) ?_
            refine l_nil ?_
            refine n_then ?_
            refine wp_seq ?_
            have hE36 : Fr [] w w6 := (((Fr.refl [] w).trans n3.fr).trans h4f)
            have hE36z := hE36.size
            refine h_start' (fun w0_ w_ => Fr [] w0_ w_) hmix (fun _ _ _ _ _ h => h) (fun w32 f33 hQ35 => ?_)
            have f33z := f33.size
            have hb37 := (f33.at0 hb7)
            refine h_take (i := 0) (v := .string ⟨(nameL e.kind).toArray⟩) rfl (by kernel_rfl) (by kernel_rfl) (by kernel_rfl) hQ35 rfl rfl (fun w_ hS_ => (by kernel_rfl)) (Fr.refl [] w32) ?_
            refine h_take (i := 1) (v := .string ⟨((nameL e.kind) ++ ([32, 111, 107, 32] : List UInt8)).toArray⟩) rfl (by kernel_rfl) (by kernel_rfl) (by kernel_rfl) hQ35 rfl rfl (fun w_ hS_ => (r_str_add rfl rfl rfl (by (try simp only [List.length_append, List.length_cons, List.length_nil]); omega))) (Fr.refl [] w32) ?_
            refine h_take (i := 2) (v := .pointer (some ⟨k1, 4, none⟩)) rfl (by kernel_rfl) (by kernel_rfl) (by kernel_rfl) hQ35 rfl rfl (fun w_ hS_ => (r_field rfl rfl Tryz.underlying54 rfl (by kernel_rfl) rfl)) (Fr.refl [] w32) ?_
            refine h_take (i := 3) (v := .slice A1 e.data.length c1) rfl (by kernel_rfl) (by kernel_rfl) (by kernel_rfl) hQ35 rfl rfl (fun w_ hS_ => (r_load rfl rfl Tryz.underlying47 rfl (cell_at (hS_.at hb37 (by simp)) rfl))) (Fr.refl [] w32) ?_
            refine h_take (i := 6) (v := .string ⟨([32, 101, 110, 100, 101, 100] : List UInt8).toArray⟩) rfl (by kernel_rfl) (by kernel_rfl) (by kernel_rfl) hQ35 rfl rfl (fun w_ hS_ => (by kernel_rfl)) (Fr.refl [] w32) ?_
            refine h_take (i := 8) (v := .pointer (some ⟨k1, 2, none⟩)) rfl (by kernel_rfl) (by kernel_rfl) (by kernel_rfl) hQ35 rfl rfl (fun w_ hS_ => (r_field rfl rfl Tryz.underlying54 rfl (by kernel_rfl) rfl)) (Fr.refl [] w32) ?_
            refine h_take (i := 9) (v := .int .i64 e.conn) rfl (by kernel_rfl) (by kernel_rfl) (by kernel_rfl) hQ35 rfl rfl (fun w_ hS_ => (r_load rfl rfl Tryz.underlying3 rfl (cell_at (hS_.at hb37 (by simp)) rfl))) (Fr.refl [] w32) ?_
            refine h_take (i := 10) (v := .bool (e.conn == (0 : Int))) rfl (by kernel_rfl) (by kernel_rfl) (by kernel_rfl) hQ35 rfl rfl (fun w_ hS_ => (by kernel_rfl)) (Fr.refl [] w32) ?_
            have hE38 : Fr [] w w32 := (hE36.trans f33)
            have hE38z := hE38.size
            have hd39 := hel1.fr0 hE38
            refine h_call (i := 4) (by kernel_rfl) rfl rfl rfl (r_call (args := #[.slice A1 e.data.length c1]) rfl e38 (am rfl)) (rQuote_calls w32 _ _ e.data ⟨_, _, rfl, hc1, hd39⟩ (by omega)) (fun v41 w42 h40 => ?_)
            obtain ⟨rfl, h40f⟩ := h40
            have h40z := h40f.size
            refine ⟨(Fr.refl [] w32).trans h40f.any, ?_⟩
            refine h_take (i := 5) (v := .string ⟨(((nameL e.kind) ++ ([32, 111, 107, 32] : List UInt8)) ++ (quoteL e.data)).toArray⟩) rfl (by kernel_rfl) (by kernel_rfl) (by kernel_rfl) hQ35 rfl rfl (fun w_ hS_ => (r_str_add rfl rfl rfl (by (try simp only [List.length_append, List.length_cons, List.length_nil]); omega))) ((Fr.refl [] w32).trans h40f.any) ?_
            refine h_take (i := 7) (v := .string ⟨((((nameL e.kind) ++ ([32, 111, 107, 32] : List UInt8)) ++ (quoteL e.data)) ++ ([32, 101, 110, 100, 101, 100] : List UInt8)).toArray⟩) rfl (by kernel_rfl) (by kernel_rfl) (by kernel_rfl) hQ35 rfl rfl (fun w_ hS_ => (r_str_add rfl rfl rfl (by (try simp only [List.length_append, List.length_cons, List.length_nil]); omega))) ((Fr.refl [] w32).trans h40f.any) ?_
            refine h_take (i := 11) (v := .bool (e.conn == (0 : Int))) rfl (by kernel_rfl) (by kernel_rfl) (by kernel_rfl) hQ35 rfl rfl (fun w_ hS_ => (by kernel_rfl)) ((Fr.refl [] w32).trans h40f.any) ?_
            refine h_takeg (i := 12) (v := .pointer (some ⟨k1, 3, none⟩)) rfl (by kernel_rfl) (by kernel_rfl) (by kernel_rfl) hQ35 (want_1 rfl rfl rfl rfl) rfl (fun hW_ w_ hS_ => (r_field rfl rfl Tryz.underlying54 rfl (by kernel_rfl) rfl)) ((Fr.refl [] w32).trans h40f.any) ?_
            have hb43 := (h40f.at0 hb37)
            refine h_takeg (i := 13) (v := .int .i64 e.n) rfl (by kernel_rfl) (by kernel_rfl) (by kernel_rfl) hQ35 (want_1 rfl rfl rfl rfl) rfl (fun hW_ w_ hS_ => (r_load rfl (gd_true hW_ _) Tryz.underlying3 rfl (cell_at (hS_.at hb37 (by simp)) rfl))) ((Fr.refl [] w32).trans h40f.any) ?_
            refine h_takeg (i := 14) (v := .bool (e.n == (0 : Int))) rfl (by kernel_rfl) (by kernel_rfl) (by kernel_rfl) hQ35 (want_1 rfl rfl rfl rfl) rfl (fun hW_ w_ hS_ => (r_cmp rfl (gd_true hW_ _) rfl rfl)) ((Fr.refl [] w32).trans h40f.any) ?_
            refine h_take (i := 15) (v := .bool (((e.conn == (0 : Int)) && (e.n == (0 : Int))))) rfl (by kernel_rfl) (by kernel_rfl) (by kernel_rfl) hQ35 rfl rfl (fun w_ hS_ => (r_pick rfl rfl (pick_and _ _))) ((Fr.refl [] w32).trans h40f.any) ?_
            refine h_take (i := 16) (v := .string ⟨((((nameL e.kind) ++ ([32, 111, 107, 32] : List UInt8)) ++ (quoteL e.data)) ++ ([32, 101, 110, 100, 101, 100] : List UInt8)).toArray⟩) rfl (by kernel_rfl) (by kernel_rfl) (by kernel_rfl) hQ35 rfl rfl (fun w_ hS_ => (by kernel_rfl)) ((Fr.refl [] w32).trans h40f.any) ?_
            refine h_take (i := 17) (v := .bool (((e.conn == (0 : Int)) && (e.n == (0 : Int))))) rfl (by kernel_rfl) (by kernel_rfl) (by kernel_rfl) hQ35 rfl rfl (fun w_ hS_ => (by kernel_rfl)) ((Fr.refl [] w32).trans h40f.any) ?_
            refine wpAnyH_done (by kernel_rfl) ?_ _
            refine n_then ?_
            refine wp_ret ?_
            refine t_block ?_
            refine t_then ?_
            have pf44 : (e.err == (0 : Int)) = true := by simpa using hc10
            have pf45 : (e.kind == (1 : Int)) = false := by simpa using hc16
            have pf46 : (e.kind == (2 : Int)) = true := by simpa using hc30
            have hdl0 : decide (e.data ≠ []) = !(((e.data.length : Nat) : Int) == (0 : Int)) := by cases e.data <;> simp <;> omega
            have hnm0 : decide (nameL e.kind = []) = false := by simpa using hc8
            have hfl : (((e.conn == (0 : Int)) && (e.n == (0 : Int)))) = (rwLine e).2 := by
              rw [rwLine_2]
              unfold rwBad
              simp only [bne, hdl0, hnm0, pf44, pf45, pf46]
              cases q1_ : (e.conn == (0 : Int)) <;> cases q2_ : (e.n == (0 : Int)) <;> cases q3_ : (((e.data.length : Nat) : Int) == (0 : Int)) <;> cases q4_ : e.ended <;> simp <;> omega
            have htx : (((e.conn == (0 : Int)) && (e.n == (0 : Int)))) = true → (((nameL e.kind) ++ ([32, 111, 107, 32] : List UInt8)) ++ (quoteL e.data)) ++ ([32, 101, 110, 100, 101, 100] : List UInt8) = (rwLine e).1 := by
              intro h_
              rw [rwLine_1 (hfl ▸ h_)]
              simp [rwText, sp, okW, errorW, openW, endedW, hc8, hc10, hc16, hc30, hc31]
            have hE47 : Fr [] w w42 := (hE38.trans h40f)
            have hE47z := hE47.size
            exact end_ret (v := .tuple #[.string ⟨((((nameL e.kind) ++ ([32, 111, 107, 32] : List UInt8)) ++ (quoteL e.data)) ++ ([32, 101, 110, 100, 101, 100] : List UInt8)).toArray⟩, .bool (((e.conn == (0 : Int)) && (e.n == (0 : Int))))]) (res2 rfl rfl rfl) ⟨_, rfl, ⟨_, _, rfl, hfl, htx, hE47⟩⟩
          · try simp only [decide_eq_true_eq, decide_eq_false_iff_not, Bool.and_eq_true, Bool.or_eq_true, Bool.and_eq_false_iff, Bool.or_eq_false_iff, Bool.not_eq_true', Bool.not_eq_false', beq_iff_eq, bne_iff_ne, ne_eq, beq_eq_false_iff_ne, bne_eq_false_iff_eq, gt_iff_lt, ge_iff_le, Int.not_lt, Int.not_le] at hc31
            refine wp_skip ?_
            refine n_then ?_
            refine wp_seq ?_
            have hE52 : Fr [] w w6 := (((Fr.refl [] w).trans n3.fr).trans h4f)
            have hE52z := hE52.size
            refine h_start' (fun w0_ w_ => Fr [] w0_ w_) hmix (fun _ _ _ _ _ h => h) (fun w48 f49 hQ51 => ?_)
            have f49z := f49.size
            have hb53 := (f49.at0 hb7)
            refine h_take (i := 0) (v := .string ⟨(nameL e.kind).toArray⟩) rfl (by kernel_rfl) (by kernel_rfl) (by kernel_rfl) hQ51 rfl rfl (fun w_ hS_ => (by kernel_rfl)) (Fr.refl [] w48) ?_
            refine h_take (i := 1) (v := .string ⟨((nameL e.kind) ++ ([32, 111, 107, 32] : List UInt8)).toArray⟩) rfl (by kernel_rfl) (by kernel_rfl) (by kernel_rfl) hQ51 rfl rfl (fun w_ hS_ => (r_str_add rfl rfl rfl (by (try simp only [List.length_append, List.length_cons, List.length_nil]); omega))) (Fr.refl [] w48) ?_
            refine h_take (i := 2) (v := .pointer (some ⟨k1, 4, none⟩)) rfl (by kernel_rfl) (by kernel_rfl) (by kernel_rfl) hQ51 rfl rfl (fun w_ hS_ => (r_field rfl rfl Tryz.underlying54 rfl (by kernel_rfl) rfl)) (Fr.refl [] w48) ?_
            refine h_take (i := 3) (v := .slice A1 e.data.length c1) rfl (by kernel_rfl) (by kernel_rfl) (by kernel_rfl) hQ51 rfl rfl (fun w_ hS_ => (r_load rfl rfl Tryz.underlying47 rfl (cell_at (hS_.at hb53 (by simp)) rfl))) (Fr.refl [] w48) ?_
            refine h_take (i := 6) (v := .string ⟨([32, 111, 112, 101, 110] : List UInt8).toArray⟩) rfl (by kernel_rfl) (by kernel_rfl) (by kernel_rfl) hQ51 rfl rfl (fun w_ hS_ => (by kernel_rfl)) (Fr.refl [] w48) ?_
            refine h_take (i := 8) (v := .pointer (some ⟨k1, 2, none⟩)) rfl (by kernel_rfl) (by kernel_rfl) (by kernel_rfl) hQ51 rfl rfl (fun w_ hS_ => (r_field rfl rfl Tryz.underlying54 rfl (by kernel_rfl) rfl)) (Fr.refl [] w48) ?_
            refine h_take (i := 9) (v := .int .i64 e.conn) rfl (by kernel_rfl) (by kernel_rfl) (by kernel_rfl) hQ51 rfl rfl (fun w_ hS_ => (r_load rfl rfl Tryz.underlying3 rfl (cell_at (hS_.at hb53 (by simp)) rfl))) (Fr.refl [] w48) ?_
            refine h_take (i := 10) (v := .bool (e.conn == (0 : Int))) rfl (by kernel_rfl) (by kernel_rfl) (by kernel_rfl) hQ51 rfl rfl (fun w_ hS_ => (by kernel_rfl)) (Fr.refl [] w48) ?_
            have hE54 : Fr [] w w48 := (hE52.trans f49)
            have hE54z := hE54.size
            have hd55 := hel1.fr0 hE54
            refine h_call (i := 4) (by kernel_rfl) rfl rfl rfl (r_call (args := #[.slice A1 e.data.length c1]) rfl e38 (am rfl)) (rQuote_calls w48 _ _ e.data ⟨_, _, rfl, hc1, hd55⟩ (by omega)) (fun v57 w58 h56 => ?_)
            obtain ⟨rfl, h56f⟩ := h56
            have h56z := h56f.size
            refine ⟨(Fr.refl [] w48).trans h56f.any, ?_⟩
            refine h_take (i := 5) (v := .string ⟨(((nameL e.kind) ++ ([32, 111, 107, 32] : List UInt8)) ++ (quoteL e.data)).toArray⟩) rfl (by kernel_rfl) (by kernel_rfl) (by kernel_rfl) hQ51 rfl rfl (fun w_ hS_ => (r_str_add rfl rfl rfl (by (try simp only [List.length_append, List.length_cons, List.length_nil]); omega))) ((Fr.refl [] w48).trans h56f.any) ?_
            refine h_take (i := 7) (v := .string ⟨((((nameL e.kind) ++ ([32, 111, 107, 32] : List UInt8)) ++ (quoteL e.data)) ++ ([32, 111, 112, 101, 110] : List UInt8)).toArray⟩) rfl (by kernel_rfl) (by kernel_rfl) (by kernel_rfl) hQ51 rfl rfl (fun w_ hS_ => (r_str_add rfl rfl rfl (by (try simp only [List.length_append, List.length_cons, List.length_nil]); omega))) ((Fr.refl [] w48).trans h56f.any) ?_
            refine h_take (i := 11) (v := .bool (e.conn == (0 : Int))) rfl (by kernel_rfl) (by kernel_rfl) (by kernel_rfl) hQ51 rfl rfl (fun w_ hS_ => (by kernel_rfl)) ((Fr.refl [] w48).trans h56f.any) ?_
            refine h_takeg (i := 12) (v := .pointer (some ⟨k1, 3, none⟩)) rfl (by kernel_rfl) (by kernel_rfl) (by kernel_rfl) hQ51 (want_1 rfl rfl rfl rfl) rfl (fun hW_ w_ hS_ => (r_field rfl rfl Tryz.underlying54 rfl (by kernel_rfl) rfl)) ((Fr.refl [] w48).trans h56f.any) ?_
            have hb59 := (h56f.at0 hb53)
            refine h_takeg (i := 13) (v := .int .i64 e.n) rfl (by kernel_rfl) (by kernel_rfl) (by kernel_rfl) hQ51 (want_1 rfl rfl rfl rfl) rfl (fun hW_ w_ hS_ => (r_load rfl (gd_true hW_ _) Tryz.underlying3 rfl (cell_at (hS_.at hb53 (by simp)) rfl))) ((Fr.refl [] w48).trans h56f.any) ?_
            refine h_takeg (i := 14) (v := .bool (e.n == (0 : Int))) rfl (by kernel_rfl) (by kernel_rfl) (by kernel_rfl) hQ51 (want_1 rfl rfl rfl rfl) rfl (fun hW_ w_ hS_ => (r_cmp rfl (gd_true hW_ _) rfl rfl)) ((Fr.refl [] w48).trans h56f.any) ?_
            refine h_take (i := 15) (v := .bool (((e.conn == (0 : Int)) && (e.n == (0 : Int))))) rfl (by kernel_rfl) (by kernel_rfl) (by kernel_rfl) hQ51 rfl rfl (fun w_ hS_ => (r_pick rfl rfl (pick_and _ _))) ((Fr.refl [] w48).trans h56f.any) ?_
            refine h_take (i := 16) (v := .string ⟨((((nameL e.kind) ++ ([32, 111, 107, 32] : List UInt8)) ++ (quoteL e.data)) ++ ([32, 111, 112, 101, 110] : List UInt8)).toArray⟩) rfl (by kernel_rfl) (by kernel_rfl) (by kernel_rfl) hQ51 rfl rfl (fun w_ hS_ => (by kernel_rfl)) ((Fr.refl [] w48).trans h56f.any) ?_
            refine h_take (i := 17) (v := .bool (((e.conn == (0 : Int)) && (e.n == (0 : Int))))) rfl (by kernel_rfl) (by kernel_rfl) (by kernel_rfl) hQ51 rfl rfl (fun w_ hS_ => (by kernel_rfl)) ((Fr.refl [] w48).trans h56f.any) ?_
            refine wpAnyH_done (by kernel_rfl) ?_ _
            refine n_then ?_
            refine wp_ret ?_
            refine t_block ?_
            refine t_then ?_
            have pf60 : (e.err == (0 : Int)) = true := by simpa using hc10
            have pf61 : (e.kind == (1 : Int)) = false := by simpa using hc16
            have pf62 : (e.kind == (2 : Int)) = true := by simpa using hc30
            have hdl0 : decide (e.data ≠ []) = !(((e.data.length : Nat) : Int) == (0 : Int)) := by cases e.data <;> simp <;> omega
            have hnm0 : decide (nameL e.kind = []) = false := by simpa using hc8
            have hfl : (((e.conn == (0 : Int)) && (e.n == (0 : Int)))) = (rwLine e).2 := by
              rw [rwLine_2]
              unfold rwBad
              simp only [bne, hdl0, hnm0, pf60, pf61, pf62]
              cases q1_ : (e.conn == (0 : Int)) <;> cases q2_ : (e.n == (0 : Int)) <;> cases q3_ : (((e.data.length : Nat) : Int) == (0 : Int)) <;> cases q4_ : e.ended <;> simp <;> omega
            have htx : (((e.conn == (0 : Int)) && (e.n == (0 : Int)))) = true → (((nameL e.kind) ++ ([32, 111, 107, 32] : List UInt8)) ++ (quoteL e.data)) ++ ([32, 111, 112, 101, 110] : List UInt8) = (rwLine e).1 := by
              intro h_
              rw [rwLine_1 (hfl ▸ h_)]
              simp [rwText, sp, okW, errorW, openW, endedW, hc8, hc10, hc16, hc30, hc31]
            have hE63 : Fr [] w w58 := (hE54.trans h56f)
            have hE63z := hE63.size
            exact end_ret (v := .tuple #[.string ⟨((((nameL e.kind) ++ ([32, 111, 107, 32] : List UInt8)) ++ (quoteL e.data)) ++ ([32, 111, 112, 101, 110] : List UInt8)).toArray⟩, .bool (((e.conn == (0 : Int)) && (e.n == (0 : Int))))]) (res2 rfl rfl rfl) ⟨_, rfl, ⟨_, _, rfl, hfl, htx, hE63⟩⟩
        · try simp only [decide_eq_true_eq, decide_eq_false_iff_not, Bool.and_eq_true, Bool.or_eq_true, Bool.and_eq_false_iff, Bool.or_eq_false_iff, Bool.not_eq_true', Bool.not_eq_false', beq_iff_eq, bne_iff_ne, ne_eq, beq_eq_false_iff_ne, bne_eq_false_iff_eq, gt_iff_lt, ge_iff_le, Int.not_lt, Int.not_le] at hc30
          refine wp_seq ?_
          refine r_start ?_
          refine l_v (v := .bool (e.kind == (5 : Int))) rfl rfl (by kernel_rfl) ?_
          refine l_v (v := .bool (e.kind == (5 : Int))) rfl rfl (by kernel_rfl) ?_
          refine l_nil ?_
          refine n_then ?_
          refine c_cond (e := (e.kind == (5 : Int))) rfl (fun hc64 => ?_) (fun hc64 => ?_)
          · try simp only [decide_eq_true_eq, decide_eq_false_iff_not, Bool.and_eq_true, Bool.or_eq_true, Bool.and_eq_false_iff, Bool.or_eq_false_iff, Bool.not_eq_true', Bool.not_eq_false', beq_iff_eq, bne_iff_ne, ne_eq, beq_eq_false_iff_ne, bne_eq_false_iff_eq, gt_iff_lt, ge_iff_le, Int.not_lt, Int.not_le] at hc64
            refine wp_seq ?_
            have hE69 : Fr [] w w6 := (((Fr.refl [] w).trans n3.fr).trans h4f)
            have hE69z := hE69.size
            refine h_start' (fun w0_ w_ => Fr [] w0_ w_) hmix (fun _ _ _ _ _ h => h) (fun w65 f66 hQ68 => ?_)
            have f66z := f66.size
            have hb70 := (f66.at0 hb7)
            refine h_take (i := 0) (v := .string ⟨(nameL e.kind).toArray⟩) rfl (by kernel_rfl) (by kernel_rfl) (by kernel_rfl) hQ68 rfl rfl (fun w_ hS_ => (by kernel_rfl)) (Fr.refl [] w65) ?_
            refine h_take (i := 1) (v := .string ⟨((nameL e.kind) ++ ([32, 111, 107, 32] : List UInt8)).toArray⟩) rfl (by kernel_rfl) (by kernel_rfl) (by kernel_rfl) hQ68 rfl rfl (fun w_ hS_ => (r_str_add rfl rfl rfl (by (try simp only [List.length_append, List.length_cons, List.length_nil]); omega))) (Fr.refl [] w65) ?_
            refine h_take (i := 2) (v := .pointer (some ⟨k1, 3, none⟩)) rfl (by kernel_rfl) (by kernel_rfl) (by kernel_rfl) hQ68 rfl rfl (fun w_ hS_ => (r_field rfl rfl Tryz.underlying54 rfl (by kernel_rfl) rfl)) (Fr.refl [] w65) ?_
            refine h_take (i := 3) (v := .int .i64 e.n) rfl (by kernel_rfl) (by kernel_rfl) (by kernel_rfl) hQ68 rfl rfl (fun w_ hS_ => (r_load rfl rfl Tryz.underlying3 rfl (cell_at (hS_.at hb70 (by simp)) rfl))) (Fr.refl [] w65) ?_
            refine h_take (i := 6) (v := .pointer (some ⟨k1, 2, none⟩)) rfl (by kernel_rfl) (by kernel_rfl) (by kernel_rfl) hQ68 rfl rfl (fun w_ hS_ => (r_field rfl rfl Tryz.underlying54 rfl (by kernel_rfl) rfl)) (Fr.refl [] w65) ?_
            refine h_take (i := 7) (v := .int .i64 e.conn) rfl (by kernel_rfl) (by kernel_rfl) (by kernel_rfl) hQ68 rfl rfl (fun w_ hS_ => (r_load rfl rfl Tryz.underlying3 rfl (cell_at (hS_.at hb70 (by simp)) rfl))) (Fr.refl [] w65) ?_
            refine h_take (i := 8) (v := .bool (e.conn == (0 : Int))) rfl (by kernel_rfl) (by kernel_rfl) (by kernel_rfl) hQ68 rfl rfl (fun w_ hS_ => (by kernel_rfl)) (Fr.refl [] w65) ?_
            refine h_call (i := 4) (by kernel_rfl) rfl rfl rfl (r_call (args := #[.int .i64 e.n]) rfl e37 (am rfl)) (rNumber_calls w65 e.n (by unfold i64; omega)) (fun v72 w73 h71 => ?_)
            obtain ⟨rfl, h71f⟩ := h71
            have h71z := h71f.size
            refine ⟨(Fr.refl [] w65).trans h71f.any, ?_⟩
            refine h_take (i := 5) (v := .string ⟨(((nameL e.kind) ++ ([32, 111, 107, 32] : List UInt8)) ++ (Lib.itoa e.n)).toArray⟩) rfl (by kernel_rfl) (by kernel_rfl) (by kernel_rfl) hQ68 rfl rfl (fun w_ hS_ => (r_str_add rfl rfl rfl (by (try simp only [List.length_append, List.length_cons, List.length_nil]); omega))) ((Fr.refl [] w65).trans h71f.any) ?_
            refine h_take (i := 9) (v := .bool (e.conn == (0 : Int))) rfl (by kernel_rfl) (by kernel_rfl) (by kernel_rfl) hQ68 rfl rfl (fun w_ hS_ => (by kernel_rfl)) ((Fr.refl [] w65).trans h71f.any) ?_
            refine h_takeg (i := 10) (v := .pointer (some ⟨k1, 4, none⟩)) rfl (by kernel_rfl) (by kernel_rfl) (by kernel_rfl) hQ68 (want_1 rfl rfl rfl rfl) rfl (fun hW_ w_ hS_ => (r_field rfl rfl Tryz.underlying54 rfl (by kernel_rfl) rfl)) ((Fr.refl [] w65).trans h71f.any) ?_
            have hb74 := (h71f.at0 hb70)
            refine h_takeg (i := 11) (v := .slice A1 e.data.length c1) rfl (by kernel_rfl) (by kernel_rfl) (by kernel_rfl) hQ68 (want_1 rfl rfl rfl rfl) rfl (fun hW_ w_ hS_ => (r_load rfl (gd_true hW_ _) Tryz.underlying47 rfl (cell_at (hS_.at hb70 (by simp)) rfl))) ((Fr.refl [] w65).trans h71f.any) ?_
            refine h_takeg (i := 12) (v := .int .i64 ((e.data.length : Nat) : Int)) rfl (by kernel_rfl) (by kernel_rfl) (by kernel_rfl) hQ68 (want_1 rfl rfl rfl rfl) rfl (fun hW_ w_ hS_ => (r_len rfl (gd_true hW_ _) Tryz.underlying47)) ((Fr.refl [] w65).trans h71f.any) ?_
            refine h_takeg (i := 13) (v := .bool ((((e.data.length : Nat) : Int) == (0 : Int)))) rfl (by kernel_rfl) (by kernel_rfl) (by kernel_rfl) hQ68 (want_1 rfl rfl rfl rfl) rfl (fun hW_ w_ hS_ => (r_cmp rfl (gd_true hW_ _) rfl rfl)) ((Fr.refl [] w65).trans h71f.any) ?_
            refine h_take (i := 14) (v := .bool (((e.conn == (0 : Int)) && ((((e.data.length : Nat) : Int) == (0 : Int)))))) rfl (by kernel_rfl) (by kernel_rfl) (by kernel_rfl) hQ68 rfl rfl (fun w_ hS_ => (r_pick rfl rfl (pick_and _ _))) ((Fr.refl [] w65).trans h71f.any) ?_
            refine h_take (i := 15) (v := .bool (((e.conn == (0 : Int)) && ((((e.data.length : Nat) : Int) == (0 : Int)))))) rfl (by kernel_rfl) (by kernel_rfl) (by kernel_rfl) hQ68 rfl rfl (fun w_ hS_ => (by kernel_rfl)) ((Fr.refl [] w65).trans h71f.any) ?_
            refine h_takeg (i := 16) (v := .pointer (some ⟨k1, 5, none⟩)) rfl (by kernel_rfl) (by kernel_rfl) (by kernel_rfl) hQ68 (want_1 rfl rfl rfl rfl) rfl (fun hW_ w_ hS_ => (r_field rfl rfl Tryz.underlying54 rfl (by kernel_rfl) rfl)) ((Fr.refl [] w65).trans h71f.any) ?_
            refine h_takeg (i := 17) (v := .bool e.ended) rfl (by kernel_rfl) (by kernel_rfl) (by kernel_rfl) hQ68 (want_1 rfl rfl rfl rfl) rfl (fun hW_ w_ hS_ => (r_load rfl (gd_true hW_ _) Tryz.underlying4 rfl (cell_at (hS_.at hb70 (by simp)) rfl))) ((Fr.refl [] w65).trans h71f.any) ?_
            refine h_takeg (i := 18) (v := .bool (!e.ended)) rfl (by kernel_rfl) (by kernel_rfl) (by kernel_rfl) hQ68 (want_1 rfl rfl rfl rfl) rfl (fun hW_ w_ hS_ => (r_not rfl (gd_true hW_ _))) ((Fr.refl [] w65).trans h71f.any) ?_
            refine h_take (i := 19) (v := .bool (((((e.conn == (0 : Int)) && ((((e.data.length : Nat) : Int) == (0 : Int))))) && (!e.ended)))) rfl (by kernel_rfl) (by kernel_rfl) (by kernel_rfl) hQ68 rfl rfl (fun w_ hS_ => (r_pick rfl rfl (pick_and _ _))) ((Fr.refl [] w65).trans h71f.any) ?_
            refine h_take (i := 20) (v := .string ⟨(((nameL e.kind) ++ ([32, 111, 107, 32] : List UInt8)) ++ (Lib.itoa e.n)).toArray⟩) rfl (by kernel_rfl) (by kernel_rfl) (by kernel_rfl) hQ68 rfl rfl (fun w_ hS_ => (by kernel_rfl)) ((Fr.refl [] w65).trans h71f.any) ?_
            refine h_take (i := 21) (v := .bool (((((e.conn == (0 : Int)) && ((((e.data.length : Nat) : Int) == (0 : Int))))) && (!e.ended)))) rfl (by kernel_rfl) (by kernel_rfl) (by kernel_rfl) hQ68 rfl rfl (fun w_ hS_ => (by kernel_rfl)) ((Fr.refl [] w65).trans h71f.any) ?_
            refine wpAnyH_done (by kernel_rfl) ?_ _
            refine n_then ?_
            refine wp_ret ?_
            refine t_block ?_
            refine t_then ?_
            have pf75 : (e.err == (0 : Int)) = true := by simpa using hc10
            have pf76 : (e.kind == (1 : Int)) = false := by simpa using hc16
            have pf77 : (e.kind == (2 : Int)) = false := by simpa using hc30
            have pf78 : (e.kind == (5 : Int)) = true := by simpa using hc64
            have hdl0 : decide (e.data ≠ []) = !(((e.data.length : Nat) : Int) == (0 : Int)) := by cases e.data <;> simp <;> omega
            have hnm0 : decide (nameL e.kind = []) = false := by simpa using hc8
            have hfl : (((((e.conn == (0 : Int)) && ((((e.data.length : Nat) : Int) == (0 : Int))))) && (!e.ended))) = (rwLine e).2 := by
              rw [rwLine_2]
              unfold rwBad
              simp only [bne, hdl0, hnm0, pf75, pf76, pf77, pf78]
              cases q1_ : (e.conn == (0 : Int)) <;> cases q2_ : (e.n == (0 : Int)) <;> cases q3_ : (((e.data.length : Nat) : Int) == (0 : Int)) <;> cases q4_ : e.ended <;> simp <;> omega
            have htx : (((((e.conn == (0 : Int)) && ((((e.data.length : Nat) : Int) == (0 : Int))))) && (!e.ended))) = true → ((nameL e.kind) ++ ([32, 111, 107, 32] : List UInt8)) ++ (Lib.itoa e.n) = (rwLine e).1 := by
              intro h_
              rw [rwLine_1 (hfl ▸ h_)]
              simp [rwText, sp, okW, errorW, openW, endedW, hc8, hc10, hc16, hc30, hc64]
            have hE79 : Fr [] w w73 := ((hE69.trans f66).trans h71f)
            have hE79z := hE79.size
            exact end_ret (v := .tuple #[.string ⟨(((nameL e.kind) ++ ([32, 111, 107, 32] : List UInt8)) ++ (Lib.itoa e.n)).toArray⟩, .bool (((((e.conn == (0 : Int)) && ((((e.data.length : Nat) : Int) == (0 : Int))))) && (!e.ended)))]) (res2 rfl rfl rfl) ⟨_, rfl, ⟨_, _, rfl, hfl, htx, hE79⟩⟩
          · try simp only [decide_eq_true_eq, decide_eq_false_iff_not, Bool.and_eq_true, Bool.or_eq_true, Bool.and_eq_false_iff, Bool.or_eq_false_iff, Bool.not_eq_true', Bool.not_eq_false', beq_iff_eq, bne_iff_ne, ne_eq, beq_eq_false_iff_ne, bne_eq_false_iff_eq, gt_iff_lt, ge_iff_le, Int.not_lt, Int.not_le] at hc64
            refine wp_skip ?_
            refine n_block ?_
            refine n_then ?_
            refine wp_seq ?_
            refine r_start ?_
            refine l_v (v := .string ⟨(nameL e.kind).toArray⟩) rfl rfl (by kernel_rfl) ?_
            refine l_v (v := .string ⟨((nameL e.kind) ++ ([32, 111, 107] : List UInt8)).toArray⟩) rfl rfl (r_str_add rfl rfl rfl (by (try simp only [List.length_append, List.length_cons, List.length_nil]); omega)) ?_
            refine l_v (v := .bool (((((((e.conn == (0 : Int)) && (e.n == (0 : Int)))) && ((((e.data.length : Nat) : Int) == (0 : Int))))) && (!e.ended)))) rfl rfl (by kernel_rfl) ?_
            refine l_v (v := .string ⟨((nameL e.kind) ++ ([32, 111, 107] : List UInt8)).toArray⟩) rfl rfl (by kernel_rfl) ?_
            refine l_v (v := .bool (((((((e.conn == (0 : Int)) && (e.n == (0 : Int)))) && ((((e.data.length : Nat) : Int) == (0 : Int))))) && (!e.ended)))) rfl rfl (by kernel_rfl) ?_
            refine l_nil ?_
            refine n_then ?_
            refine wp_ret ?_
            have pf80 : (e.err == (0 : Int)) = true := by simpa using hc10
            have pf81 : (e.kind == (1 : Int)) = false := by simpa using hc16
            have pf82 : (e.kind == (2 : Int)) = false := by simpa using hc30
            have pf83 : (e.kind == (5 : Int)) = false := by simpa using hc64
            have hdl0 : decide (e.data ≠ []) = !(((e.data.length : Nat) : Int) == (0 : Int)) := by cases e.data <;> simp <;> omega
            have hnm0 : decide (nameL e.kind = []) = false := by simpa using hc8
            have hfl : (((((((e.conn == (0 : Int)) && (e.n == (0 : Int)))) && ((((e.data.length : Nat) : Int) == (0 : Int))))) && (!e.ended))) = (rwLine e).2 := by
              rw [rwLine_2]
              unfold rwBad
              simp only [bne, hdl0, hnm0, pf80, pf81, pf82, pf83]
              cases q1_ : (e.conn == (0 : Int)) <;> cases q2_ : (e.n == (0 : Int)) <;> cases q3_ : (((e.data.length : Nat) : Int) == (0 : Int)) <;> cases q4_ : e.ended <;> simp <;> omega
            have htx : (((((((e.conn == (0 : Int)) && (e.n == (0 : Int)))) && ((((e.data.length : Nat) : Int) == (0 : Int))))) && (!e.ended))) = true → (nameL e.kind) ++ ([32, 111, 107] : List UInt8) = (rwLine e).1 := by
              intro h_
              rw [rwLine_1 (hfl ▸ h_)]
              simp [rwText, sp, okW, errorW, openW, endedW, hc8, hc10, hc16, hc30, hc64]
            have hE84 : Fr [] w w6 := (((Fr.refl [] w).trans n3.fr).trans h4f)
            have hE84z := hE84.size
            exact end_ret (v := .tuple #[.string ⟨((nameL e.kind) ++ ([32, 111, 107] : List UInt8)).toArray⟩, .bool (((((((e.conn == (0 : Int)) && (e.n == (0 : Int)))) && ((((e.data.length : Nat) : Int) == (0 : Int))))) && (!e.ended)))]) (res2 rfl rfl rfl) ⟨_, rfl, ⟨_, _, rfl, hfl, htx, hE84⟩⟩

/-- ref31.Rows -/
theorem rRows_calls (w : World) (ok : Nat → Prop) (v0 : Value) (l : List Rw) (hv : Sl Rp.rw ok w v0 l) (hl : l.length ≤ 1048576) (ht : total rwWt l ≤ 1048576) :
    Does Tryz.prog 7 #[v0] w fun r w' => r = .tuple #[.string ⟨(wr rwLine l).1.toArray⟩, .int .i64 (wr rwLine l).2] ∧ Fr [] w w' := by
  obtain ⟨A0, c0, rfl, helc, hel⟩ := hv
  refine Does.of (fn_in (l := [.slice A0 l.length c0]) Tryz.func7 rfl Tryz.ntmps7 rfl ?_)
  refine wp_seq ?_
  refine r_start ?_
  refine l_v (v := .string ⟨([] : List UInt8).toArray⟩) rfl rfl (by kernel_rfl) ?_
  refine l_v (v := .int .i64 0) rfl rfl (by kernel_rfl) ?_
  refine l_nil ?_
  refine n_then ?_
  refine wp_seq ?_
  refine r_start ?_
  refine l_v (v := .slice none 0 0) rfl rfl (by kernel_rfl) ?_
  refine l_nil ?_
  refine n_then ?_
  refine wp_seq ?_
  refine wp_seq ?_
  refine r_start ?_
  refine l_v (v := .int .i64 0) rfl rfl (by kernel_rfl) ?_
  refine l_nil ?_
  refine n_then ?_
  refine wp_block ?_
  refine c_loop (fun m_ a_ w_ => ∃ u_ : Nat → Value, ∃ k : Nat, ∃ v4 : Value, a_ = mk [] 35 u_ [(4, v4), (5, .int .i64 ((k : Nat) : Int)), (0, .slice A0 l.length c0)] ∧ m_ = l.length - k ∧ Fr [] w w_ ∧ (k ≤ l.length) ∧ ((l.take k).all (fun x => (rwLine x).2) = true) ∧ (OwnB w.heap.size 5 w_ v4 (joinW rwLine (l.take k)))) (l.length - 0) ⟨_, 0, .slice none 0 0, mk_eq (by kernel_rfl), rfl, (Fr.refl [] w), Nat.zero_le _, rfl, OwnB.nil _ _ _⟩ ?_
  rintro m3 _ wr1 ⟨u_, k, v4, rfl, hm4, hE5, hk, hall, ho⟩ K_ hK2
  have hE5z := hE5.size
  refine wp_seq ?_
  refine wp_seq ?_
  refine r_start ?_
  refine l_v (v := .int .i64 ((k : Nat) : Int)) rfl rfl (by kernel_rfl) ?_
  refine l_v (v := .slice A0 l.length c0) rfl rfl (by kernel_rfl) ?_
  refine l_v (v := .int .i64 ((l.length : Nat) : Int)) rfl rfl (r_len rfl rfl Tryz.underlying28) ?_
  refine l_v (v := .bool (decide (((k : Nat) : Int) < ((l.length : Nat) : Int)))) rfl rfl (by kernel_rfl) ?_
  refine l_nil ?_
  refine n_then ?_
  refine c_cond (e := decide (((k : Nat) : Int) < ((l.length : Nat) : Int))) rfl (fun hc6 => ?_) (fun hc6 => ?_)
  · try simp only [decide_eq_true_eq, decide_eq_false_iff_not, Bool.and_eq_true, Bool.or_eq_true, Bool.and_eq_false_iff, Bool.or_eq_false_iff, Bool.not_eq_true', Bool.not_eq_false', beq_iff_eq, bne_iff_ne, ne_eq, beq_eq_false_iff_ne, bne_eq_false_iff_eq, gt_iff_lt, ge_iff_le, Int.not_lt, Int.not_le] at hc6
    have hjl : (joinW rwLine (l.take k)).length ≤ 87031808 := by
      have h1 := total_take rwWt l k
      have h2 := joinW_len (wt := rwWt) (f := rwLine) (l.take k) (fun x hx => by
        obtain ⟨i, hi⟩ := List.getElem?_of_mem (List.mem_of_mem_take hx)
        obtain ⟨_, _, cs_, _, _, _, hK_, _⟩ := hel i x hi
        exact rwLine_len hK_.fits)
      have h3 : (l.take k).length ≤ l.length := by rw [List.length_take]; omega
      omega
    refine wp_skip ?_
    refine n_then ?_
    refine wp_seq ?_
    refine wp_block ?_
    refine wp_seq ?_
    refine r_start ?_
    refine l_v (v := .slice A0 l.length c0) rfl rfl (by kernel_rfl) ?_
    refine l_v (v := .int .i64 ((k : Nat) : Int)) rfl rfl (by kernel_rfl) ?_
    obtain ⟨x7, g8, off9, cs10, hx11, hA12, hg13, hl14, hK15, hr16⟩ := El.get hel (i := k) (by omega)
    obtain ⟨A17, c18, rfl, _⟩ := id hK15
    refine l_v (v := .pointer (some ⟨g8, off9 + k * 6, none⟩)) rfl rfl (r_elemn rfl rfl rfl hA12 Tryz.underlying28 (by kernel_rfl) (by omega)) ?_
    have hr19 := (range_fr hr16 hE5 (by simp))
    refine l_v (v := .agg #[.int .i64 x7.kind, .int .i64 x7.err, .int .i64 x7.conn, .int .i64 x7.n, .slice A17 x7.data.length c18, .bool x7.ended]) rfl rfl (r_loads (cs := [.int .i64 x7.kind, .int .i64 x7.err, .int .i64 x7.conn, .int .i64 x7.n, .slice A17 x7.data.length c18, .bool x7.ended]) rfl rfl Tryz.underlying54 rfl (by kernel_rfl) hr19) ?_
    have hd20 := hK15.fr0 hE5
    refine l_call rfl rfl (r_call (args := #[.agg #[.int .i64 x7.kind, .int .i64 x7.err, .int .i64 x7.conn, .int .i64 x7.n, .slice A17 x7.data.length c18, .bool x7.ended]]) rfl e19 (am rfl)) (rRowLine_calls wr1 _ _ x7 hd20) (fun v22 w23 h21 => ?_)
    obtain ⟨h21x, h21b, rfl, h21q, h21t, h21f⟩ := h21
    have h21z := h21f.size
    refine l_v (v := .tuple #[.string ⟨(h21x).toArray⟩, .bool h21b]) rfl rfl (by kernel_rfl) ?_
    refine l_v (v := .string ⟨(h21x).toArray⟩) rfl rfl (by kernel_rfl) ?_
    refine l_v (v := .bool h21b) rfl rfl (by kernel_rfl) ?_
    refine l_v (v := .string ⟨(h21x).toArray⟩) rfl rfl (by kernel_rfl) ?_
    refine l_v (v := .bool h21b) rfl rfl (by kernel_rfl) ?_
    refine l_nil ?_
    refine n_then ?_
    refine wp_seq ?_
    refine wp_seq ?_
    refine r_start ?_
    refine l_v (v := .bool h21b) rfl rfl (by kernel_rfl) ?_
    refine l_v (v := .bool (!h21b)) rfl rfl (by kernel_rfl) ?_
    refine l_nil ?_
    refine n_then ?_
    have hll := rwLine_len hK15.fits
    have hwl : rwWt x7 ≤ 1048576 := by
      have h1 := total_take rwWt l (k + 1)
      have h2 := total_snoc (wt := rwWt) hx11
      omega
    refine c_cond (e := (!h21b)) rfl (fun hc24 => ?_) (fun hc24 => ?_)
    · refine wp_seq ?_
      refine r_start ?_
      refine l_v (v := .string ⟨([] : List UInt8).toArray⟩) rfl rfl (by kernel_rfl) ?_
      refine l_v (v := .int .i64 1) rfl rfl (by kernel_rfl) ?_
      refine l_nil ?_
      refine n_then ?_
      refine wp_ret ?_
      refine t_then ?_
      refine t_block ?_
      refine t_then ?_
      refine t_then ?_
      refine t_block ?_
      refine t_then ?_
      have hE25 : Fr [] w w23 := (hE5.trans h21f)
      have hE25z := hE25.size
      exact end_ret (v := .tuple #[.string ⟨([] : List UInt8).toArray⟩, .int .i64 1]) (res2 rfl rfl rfl) ⟨_, rfl, ⟨by rw [wr_no hx11 (by rw [← h21q]; simpa using hc24)], hE25⟩⟩
    · have hbt : h21b = true := by simpa using hc24
      have hxt := h21t hbt
      have hxl : h21x.length ≤ 60 + 22 * rwWt x7 := by rw [hxt]; exact hll
      refine wp_skip ?_
      refine n_then ?_
      refine wp_seq ?_
      refine r_start ?_
      refine l_v (v := v4) rfl rfl (by kernel_rfl) ?_
      refine l_v (v := .string ⟨(h21x).toArray⟩) rfl rfl (by kernel_rfl) ?_
      have ho26 := (own_fr0 ho h21f)
      have hE32 : Fr [] w w23 := (hE5.trans h21f)
      have hE32z := hE32.size
      refine l_append_str (v := v4) (base := w.heap.size) (l := h21x) sl47 Tryz.underlying9 (by intro i_ hi_; obtain rfl := Option.some.inj (hi_.symm.trans (show Tryz.prog.info? 5 = some ((Tryz.prog.info? 5).get (by kernel_rfl)) from by kernel_rfl)); kernel_rfl) rfl rfl rfl rfl ho26 rfl (by omega) (by omega) (fun v29 w30 as31o as31f => ?_)
      have as31z := as31f.size
      have as31B : OwnB w.heap.size 5 w30 v29 (joinW rwLine (l.take k) ++ h21x) := own_b as31o (by rw [List.length_append]) (by rw [List.map_append])
      refine l_v (v := v29) rfl rfl (by kernel_rfl) ?_
      refine l_nil ?_
      refine n_then ?_
      refine r_start ?_
      refine l_v (v := v29) rfl rfl (by kernel_rfl) ?_
      refine l_new (fun k_ => .slice (some ⟨k_, 0, none⟩) 1 1) rfl rfl (by kernel_rfl) (ob := .cells #[.int .u8 10] 5) (fun k33 w34 n35 => ?_)
      have hE36 : Fr [] w w30 := (Fr.step hE32 as31f (own_ge ho26 (by omega)))
      have hE36z := hE36.size
      have n35k := n35.hk; have n35z := n35.sz
      have ho37 := (own_fr0 as31B n35.fr)
      have hE38 : Fr [] w w34 := (hE36.trans n35.fr)
      have hE38z := hE38.size
      refine l_append (v := v29) (base := w.heap.size) (news := [.int .u8 10]) sl47 rfl rfl rfl rfl ho37 rfl rfl (range_at n35.at_ rfl) (by simp [Value.oneCell']) (by simp only [List.length_append]; omega) (by decide) (by omega) (fun v39 w40 a41 => ?_)
      have a41z := a41.fr.size
      have ho42 : OwnB w.heap.size 5 w40 v39 (joinW rwLine (l.take (k + 1))) := own_b a41.own (by rw [joinW_take hx11, ← hxt]; simp only [List.length_append, List.length_cons, List.length_nil]; omega) (by rw [joinW_take hx11, ← hxt]; simp only [List.map_append, List.append_assoc]; rfl)
      refine l_v (v := v39) rfl rfl (by kernel_rfl) ?_
      refine l_nil ?_
      refine n_block ?_
      refine n_then ?_
      refine r_start ?_
      refine l_v (v := .int .i64 ((k : Nat) : Int)) rfl rfl (by kernel_rfl) ?_
      refine l_v (v := .int .i64 (((k : Nat) : Int) + 1)) rfl rfl (r_add (r := ((k : Nat) : Int) + 1) rfl rfl rfl (by omega) (by simp only [min_i64]; omega) (by simp only [max_i64]; omega)) ?_
      refine l_v (v := .int .i64 (((k : Nat) : Int) + 1)) rfl rfl (by kernel_rfl) ?_
      refine l_nil ?_
      refine n_then ?_
      have hE43 : Fr [] w w40 := (Fr.step hE38 a41.fr (own_ge ho37 (by omega)))
      have hE43z := hE43.size
      exact hK2 _ _ _ (by omega) ⟨_, (k + 1), v39, mk_eq (by kernel_rfl), rfl, hE43, (by omega), (all_take hx11 hall (by rw [← h21q]; exact hbt)), ho42⟩
  · try simp only [decide_eq_true_eq, decide_eq_false_iff_not, Bool.and_eq_true, Bool.or_eq_true, Bool.and_eq_false_iff, Bool.or_eq_false_iff, Bool.not_eq_true', Bool.not_eq_false', beq_iff_eq, bne_iff_ne, ne_eq, beq_eq_false_iff_ne, bne_eq_false_iff_eq, gt_iff_lt, ge_iff_le, Int.not_lt, Int.not_le] at hc6
    obtain rfl : k = l.length := by omega
    rw [List.take_length] at hall ho
    obtain ⟨A4, c4, hv4, _, hE4_⟩ := OwnB.by_ (ok := fun _ => True) ho (fun _ _ _ => trivial)
    subst hv4
    refine wp_exit ?_
    refine e_then ?_
    refine e_then ?_
    refine e_hit ?_
    refine n_then ?_
    refine wp_seq ?_
    refine wp_seq ?_
    refine r_start ?_
    refine l_v (v := .slice A4 ((joinW rwLine l).length) c4) rfl rfl (by kernel_rfl) ?_
    refine l_v (v := .int .i64 ((((joinW rwLine l).length : Nat) : Int))) rfl rfl (r_len rfl rfl Tryz.underlying47) ?_
    refine l_v (v := .bool (decide (((((joinW rwLine l).length : Nat) : Int)) > (65536 : Int)))) rfl rfl (by kernel_rfl) ?_
    refine l_nil ?_
    refine n_then ?_
    refine c_cond (e := decide (((((joinW rwLine l).length : Nat) : Int)) > (65536 : Int))) rfl (fun hc44 => ?_) (fun hc44 => ?_)
    · refine wp_seq ?_
      refine r_start ?_
      refine l_v (v := .string ⟨([] : List UInt8).toArray⟩) rfl rfl (by kernel_rfl) ?_
      refine l_v (v := .int .i64 3) rfl rfl (by kernel_rfl) ?_
      refine l_nil ?_
      refine n_then ?_
      refine wp_ret ?_
      refine t_then ?_
      exact end_ret (v := .tuple #[.string ⟨([] : List UInt8).toArray⟩, .int .i64 3]) (res2 rfl rfl rfl) ⟨_, rfl, ⟨by rw [wr_long hall (by have hq_ := hc44; simp only [decide_eq_true_eq, decide_eq_false_iff_not] at hq_; omega)], hE5⟩⟩
    · refine wp_skip ?_
      refine n_then ?_
      refine wp_seq ?_
      refine r_start ?_
      refine l_v (v := .slice A4 ((joinW rwLine l).length) c4) rfl rfl (by kernel_rfl) ?_
      refine l_v (v := .string ⟨(joinW rwLine l).toArray⟩) rfl rfl (r_conv_str rfl rfl (conv_bytes hE4_ Tryz.underlying47 Tryz.underlying5 Tryz.underlying9)) ?_
      refine l_v (v := .string ⟨(joinW rwLine l).toArray⟩) rfl rfl (by kernel_rfl) ?_
      refine l_v (v := .int .i64 0) rfl rfl (by kernel_rfl) ?_
      refine l_nil ?_
      refine n_then ?_
      refine wp_ret ?_
      exact end_ret (v := .tuple #[.string ⟨(joinW rwLine l).toArray⟩, .int .i64 0]) (res2 rfl rfl rfl) ⟨_, rfl, ⟨by rw [wr_ok hall (by have hq_ := hc44; simp only [decide_eq_true_eq, decide_eq_false_iff_not] at hq_; omega)], hE5⟩⟩

end Go.Proofs.YtmhljojgdfmjaaaGreatDoor
