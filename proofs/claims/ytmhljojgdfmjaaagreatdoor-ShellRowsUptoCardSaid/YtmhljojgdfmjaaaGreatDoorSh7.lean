/- walks -/
import Derived.Test.YtmhljojgdfmjaaaGreatDoorSh6
namespace Go.Proofs.YtmhljojgdfmjaaaGreatDoor
open Go.E
set_option linter.unusedVariables false
set_option linter.unusedSimpArgs false
set_option maxRecDepth 100000
set_option maxHeartbeats 1000000
open Go.Sh
/-- shell.Unquote -/
theorem Unquote_calls (w : World) (s : List UInt8) (hl : s.length ≤ 1048576) :
    Does Tryz.prog 24 #[.string ⟨(s).toArray⟩] w fun r w' => ∃ v, r = .tuple #[v, .string ⟨(unqR s).2.1.toArray⟩, .bool (unqR s).2.2] ∧ By (fun g => w.heap.size ≤ g) w' v (unqR s).1 ∧ Fr [] w w' := by
  refine Does.of (fn_in (l := [.string ⟨(s).toArray⟩]) Tryz.func24 rfl Tryz.ntmps24 rfl ?_)
  refine wp_seq ?_
  refine r_start ?_
  refine l_v (v := .slice none 0 0) rfl rfl (by kernel_rfl) ?_
  refine l_v (v := .string ⟨([] : List UInt8).toArray⟩) rfl rfl (by kernel_rfl) ?_
  refine l_v (v := .bool false) rfl rfl (by kernel_rfl) ?_
  refine l_nil ?_
  refine n_then ?_
  refine wp_seq ?_
  refine wp_seq ?_
  refine r_start ?_
  refine l_v (v := .string ⟨(s).toArray⟩) rfl rfl (by kernel_rfl) ?_
  refine l_call rfl rfl (r_call (args := #[.string ⟨(s).toArray⟩, .string ⟨([34] : List UInt8).toArray⟩]) rfl e50 (am rfl)) (HasPrefix_does s ([34] : List UInt8) w) (fun v2 w3 h1 => ?_)
  obtain ⟨rfl, h1f⟩ := h1
  have h1z := h1f.size
  refine l_v (v := .bool ((!(([34] : List UInt8).isPrefixOf s)))) rfl rfl (by kernel_rfl) ?_
  refine l_nil ?_
  refine n_then ?_
  refine c_cond (e := (!(([34] : List UInt8).isPrefixOf s))) rfl (fun hc4 => ?_) (fun hc4 => ?_)
  · refine wp_seq ?_
    refine r_start ?_
    refine l_v (v := .slice none 0 0) rfl rfl (by kernel_rfl) ?_
    refine l_v (v := .string ⟨([] : List UInt8).toArray⟩) rfl rfl (by kernel_rfl) ?_
    refine l_v (v := .bool false) rfl rfl (by kernel_rfl) ?_
    refine l_nil ?_
    refine n_then ?_
    refine wp_ret ?_
    refine t_then ?_
    have hE5 : Fr [] w w3 := ((Fr.refl [] w).trans h1f)
    have hE5z := hE5.size
    exact end_ret (v := .tuple #[.slice none 0 0, .string ⟨([] : List UInt8).toArray⟩, .bool false]) (res3 rfl rfl rfl rfl) ⟨_, rfl, ⟨.slice none 0 0, by rw [unq_no (by simpa using hc4)], by rw [unq_no (by simpa using hc4)]; exact Sl.nil _ _ _, hE5⟩⟩
  · obtain ⟨hs0, hsl⟩ := pfx34 (s := s) (by simpa using hc4)
    refine wp_skip ?_
    refine n_then ?_
    refine wp_seq ?_
    refine r_start ?_
    refine l_new (fun k_ => .slice (some ⟨k_, 0, none⟩) 0 0) rfl rfl (by kernel_rfl) (ob := .cells #[] 5) (fun k6 w7 n8 => ?_)
    have hE9 : Fr [] w w3 := ((Fr.refl [] w).trans h1f)
    have hE9z := hE9.size
    have n8k := n8.hk; have n8z := n8.sz
    refine l_v (v := .slice (some ⟨k6, 0, none⟩) 0 0) rfl rfl (by kernel_rfl) ?_
    refine l_nil ?_
    refine n_then ?_
    refine wp_seq ?_
    refine wp_seq ?_
    refine r_start ?_
    refine l_v (v := .int .i64 1) rfl rfl (by kernel_rfl) ?_
    refine l_nil ?_
    refine n_then ?_
    refine wp_block ?_
    have hE14 : Fr [] w w7 := (hE9.trans n8.fr)
    have hE14z := hE14.size
    refine c_loop (fun m_ a_ w_ => ∃ u_ : Nat → Value, ∃ at_ : Nat, ∃ v5 : Value, ∃ b : List UInt8, a_ = mk [] 107 u_ [(5, v5), (6, .int .i64 ((at_ : Nat) : Int)), (0, .string ⟨(s).toArray⟩), (9, .string ⟨(s).toArray⟩), (10, .bool (([34] : List UInt8).isPrefixOf s)), (11, .bool ((!(([34] : List UInt8).isPrefixOf s)))), (12, .slice (some ⟨k6, 0, none⟩) 0 0)] ∧ m_ = s.length - at_ ∧ Fr [] w w_ ∧ (1 ≤ at_ ∧ at_ ≤ s.length) ∧ (b.length ≤ at_) ∧ (OwnB w.heap.size 5 w_ v5 b) ∧ (dec (s.drop 1) = preO b (dec (s.drop at_)))) (s.length - 1) ⟨_, 1, .slice (some ⟨k6, 0, none⟩) 0 0, [], mk_eq (by kernel_rfl), rfl, hE14, ⟨Nat.le_refl _, hsl⟩, Nat.zero_le _, own_b (base := w.heap.size) (own_new n8 (by omega) rfl rfl rfl (by omega) (by omega)) rfl rfl, (preO_nil _).symm⟩ ?_
    rintro m12 _ wr10 ⟨u_, at_, v5, b, rfl, hm13, hE15, hat, hbl, ho, hd⟩ K_ hK11
    have hE15z := hE15.size
    refine wp_seq ?_
    refine wp_seq ?_
    refine r_start ?_
    refine l_v (v := .int .i64 ((at_ : Nat) : Int)) rfl rfl (by kernel_rfl) ?_
    refine l_v (v := .string ⟨(s).toArray⟩) rfl rfl (by kernel_rfl) ?_
    refine l_v (v := .int .i64 ((s).length : Int)) rfl rfl (r_lens rfl rfl Tryz.underlying9) ?_
    refine l_v (v := .bool (decide (((at_ : Nat) : Int) < ((s).length : Int)))) rfl rfl (by kernel_rfl) ?_
    refine l_nil ?_
    refine n_then ?_
    refine c_cond (e := decide (((at_ : Nat) : Int) < ((s).length : Int))) rfl (fun hc16 => ?_) (fun hc16 => ?_)
    · try simp only [decide_eq_true_eq, decide_eq_false_iff_not, Bool.and_eq_true, Bool.or_eq_true, Bool.and_eq_false_iff, Bool.or_eq_false_iff, Bool.not_eq_true', Bool.not_eq_false', beq_iff_eq, bne_iff_ne, ne_eq, beq_eq_false_iff_ne, bne_eq_false_iff_eq, gt_iff_lt, ge_iff_le, Int.not_lt, Int.not_le] at hc16
      refine wp_skip ?_
      refine n_then ?_
      refine wp_seq ?_
      refine wp_block ?_
      refine wp_block ?_
      refine wp_seq ?_
      refine r_start ?_
      refine l_v (v := .string ⟨(s).toArray⟩) rfl rfl (by kernel_rfl) ?_
      refine l_v (v := .int .i64 ((at_ : Nat) : Int)) rfl rfl (by kernel_rfl) ?_
      refine l_v (v := .int .u8 (((s.getD (at_) 0).toNat : Int))) rfl rfl (r_idx (j := at_) rfl rfl rfl Tryz.underlying9 (by omega) (getD_at (by omega))) ?_
      refine l_v (v := .bool (((((s.getD (at_) 0).toNat : Int)) == (34 : Int)))) rfl rfl (by kernel_rfl) ?_
      refine l_v (v := .bool (((((s.getD (at_) 0).toNat : Int)) == (34 : Int)))) rfl rfl (by kernel_rfl) ?_
      refine l_nil ?_
      refine n_then ?_
      refine c_cond (e := ((((s.getD (at_) 0).toNat : Int)) == (34 : Int))) rfl (fun hc17 => ?_) (fun hc17 => ?_)
      · try simp only [decide_eq_true_eq, decide_eq_false_iff_not, Bool.and_eq_true, Bool.or_eq_true, Bool.and_eq_false_iff, Bool.or_eq_false_iff, Bool.not_eq_true', Bool.not_eq_false', beq_iff_eq, bne_iff_ne, ne_eq, beq_eq_false_iff_ne, bne_eq_false_iff_eq, gt_iff_lt, ge_iff_le, Int.not_lt, Int.not_le] at hc17
        have hq34 : s.getD at_ 0 = 34 := (u8_eq (n := 34) (by omega)).1 hc17
        have hdq : dec (s.drop 1) = some (b, s.drop (at_ + 1)) := by rw [hd, dec_q (by omega) hq34]; simp [preO]
        refine wp_seq ?_
        refine wp_seq ?_
        refine h_start' (fun w0_ w_ => True) hmix (fun _ _ _ _ _ h => h) (fun w18 f19 hQ21 => ?_)
        have f19z := f19.size
        refine h_take (i := 0) (v := v5) rfl (by kernel_rfl) (by kernel_rfl) (by kernel_rfl) hQ21 rfl rfl (fun w_ hS_ => (by kernel_rfl)) trivial ?_
        refine h_take (i := 2) (v := .string ⟨(s).toArray⟩) rfl (by kernel_rfl) (by kernel_rfl) (by kernel_rfl) hQ21 rfl rfl (fun w_ hS_ => (by kernel_rfl)) trivial ?_
        refine h_take (i := 3) (v := .int .i64 ((at_ : Nat) : Int)) rfl (by kernel_rfl) (by kernel_rfl) (by kernel_rfl) hQ21 rfl rfl (fun w_ hS_ => (by kernel_rfl)) trivial ?_
        refine h_take (i := 4) (v := .int .i64 (((at_ : Nat) : Int) + 1)) rfl (by kernel_rfl) (by kernel_rfl) (by kernel_rfl) hQ21 rfl rfl (fun w_ hS_ => (r_add (r := ((at_ : Nat) : Int) + 1) rfl rfl rfl (by omega) (by simp only [min_i64]; omega) (by simp only [max_i64]; omega))) trivial ?_
        refine h_take (i := 5) (v := .string ⟨(s.take ((at_) + 1)).toArray⟩) rfl (by kernel_rfl) (by kernel_rfl) (by kernel_rfl) hQ21 rfl rfl (fun w_ hS_ => (r_shi (j := (at_) + 1) rfl rfl rfl Tryz.underlying9 (by omega) (by omega))) trivial ?_
        have ho22 := (own_fr0 ho f19)
        refine h_call (i := 1) (by kernel_rfl) rfl rfl rfl (r_call (args := #[v5]) rfl e25 (am rfl)) (Quote_calls w18 (fun _ => True) _ b (OwnB.by_ ho22 (fun _ _ _ => trivial)) (by omega)) (fun v24 w25 h23 => ?_)
        obtain ⟨rfl, h23f⟩ := h23
        have h23z := h23f.size
        refine ⟨trivial, ?_⟩
        refine h_take (i := 6) (v := .bool ((!decide (quoteL b = s.take ((at_) + 1))))) rfl (by kernel_rfl) (by kernel_rfl) (by kernel_rfl) hQ21 rfl rfl (fun w_ hS_ => (r_str_neq rfl rfl rfl)) trivial ?_
        refine wpAnyH_done (by kernel_rfl) ?_ _
        refine n_then ?_
        refine c_cond (e := (!decide (quoteL b = s.take ((at_) + 1)))) rfl (fun hc26 => ?_) (fun hc26 => ?_)
        · refine wp_seq ?_
          refine r_start ?_
          refine l_v (v := .slice none 0 0) rfl rfl (by kernel_rfl) ?_
          refine l_v (v := .string ⟨([] : List UInt8).toArray⟩) rfl rfl (by kernel_rfl) ?_
          refine l_v (v := .bool false) rfl rfl (by kernel_rfl) ?_
          refine l_nil ?_
          refine n_then ?_
          refine wp_ret ?_
          refine t_then ?_
          refine t_block ?_
          refine t_block ?_
          refine t_then ?_
          refine t_then ?_
          refine t_block ?_
          refine t_then ?_
          have hE27 : Fr [] w w25 := ((hE15.trans f19).trans h23f)
          have hE27z := hE27.size
          exact end_ret (v := .tuple #[.slice none 0 0, .string ⟨([] : List UInt8).toArray⟩, .bool false]) (res3 rfl rfl rfl rfl) ⟨_, rfl, ⟨.slice none 0 0, by rw [unqR_bad hs0 hsl hdq (by simpa using hc26)], by rw [unqR_bad hs0 hsl hdq (by simpa using hc26)]; exact Sl.nil _ _ _, hE27⟩⟩
        · refine wp_skip ?_
          refine n_then ?_
          refine wp_seq ?_
          have hE32 : Fr [] w w25 := ((hE15.trans f19).trans h23f)
          have hE32z := hE32.size
          refine h_start' (fun w0_ w_ => True) hmix (fun _ _ _ _ _ h => h) (fun w28 f29 hQ31 => ?_)
          have f29z := f29.size
          refine h_take (i := 0) (v := v5) rfl (by kernel_rfl) (by kernel_rfl) (by kernel_rfl) hQ31 rfl rfl (fun w_ hS_ => (by kernel_rfl)) trivial ?_
          refine h_take (i := 1) (v := .string ⟨(s).toArray⟩) rfl (by kernel_rfl) (by kernel_rfl) (by kernel_rfl) hQ31 rfl rfl (fun w_ hS_ => (by kernel_rfl)) trivial ?_
          refine h_take (i := 2) (v := .int .i64 ((at_ : Nat) : Int)) rfl (by kernel_rfl) (by kernel_rfl) (by kernel_rfl) hQ31 rfl rfl (fun w_ hS_ => (by kernel_rfl)) trivial ?_
          refine h_take (i := 3) (v := .int .i64 (((at_ : Nat) : Int) + 1)) rfl (by kernel_rfl) (by kernel_rfl) (by kernel_rfl) hQ31 rfl rfl (fun w_ hS_ => (r_add (r := ((at_ : Nat) : Int) + 1) rfl rfl rfl (by omega) (by simp only [min_i64]; omega) (by simp only [max_i64]; omega))) trivial ?_
          refine h_take (i := 4) (v := .string ⟨(s.drop ((at_) + 1)).toArray⟩) rfl (by kernel_rfl) (by kernel_rfl) (by kernel_rfl) hQ31 rfl rfl (fun w_ hS_ => (r_slo (j := (at_) + 1) rfl rfl rfl Tryz.underlying9 (by omega) (by omega))) trivial ?_
          refine h_take (i := 5) (v := v5) rfl (by kernel_rfl) (by kernel_rfl) (by kernel_rfl) hQ31 rfl rfl (fun w_ hS_ => (by kernel_rfl)) trivial ?_
          refine h_take (i := 6) (v := .string ⟨(s.drop ((at_) + 1)).toArray⟩) rfl (by kernel_rfl) (by kernel_rfl) (by kernel_rfl) hQ31 rfl rfl (fun w_ hS_ => (by kernel_rfl)) trivial ?_
          refine h_take (i := 7) (v := .bool true) rfl (by kernel_rfl) (by kernel_rfl) (by kernel_rfl) hQ31 rfl rfl (fun w_ hS_ => (by kernel_rfl)) trivial ?_
          refine wpAnyH_done (by kernel_rfl) ?_ _
          refine n_then ?_
          refine wp_ret ?_
          refine t_block ?_
          refine t_block ?_
          refine t_then ?_
          refine t_then ?_
          refine t_block ?_
          refine t_then ?_
          have hu := unqR_ok hs0 hsl hdq (by simpa using hc26)
          have hE33 : Fr [] w w28 := (hE32.trans f29)
          have hE33z := hE33.size
          have ho34 := (own_fr0 (own_fr0 ho22 h23f) f29)
          exact end_ret (v := .tuple #[v5, .string ⟨(s.drop ((at_) + 1)).toArray⟩, .bool true]) (res3 rfl rfl rfl rfl) ⟨_, rfl, ⟨_, by rw [hu], by rw [hu]; exact OwnB.by_ ho34 (fun g h _ => h), hE33⟩⟩
      · try simp only [decide_eq_true_eq, decide_eq_false_iff_not, Bool.and_eq_true, Bool.or_eq_true, Bool.and_eq_false_iff, Bool.or_eq_false_iff, Bool.not_eq_true', Bool.not_eq_false', beq_iff_eq, bne_iff_ne, ne_eq, beq_eq_false_iff_ne, bne_eq_false_iff_eq, gt_iff_lt, ge_iff_le, Int.not_lt, Int.not_le] at hc17
        refine wp_seq ?_
        refine r_start ?_
        refine l_v (v := .string ⟨(s).toArray⟩) rfl rfl (by kernel_rfl) ?_
        refine l_v (v := .int .i64 ((at_ : Nat) : Int)) rfl rfl (by kernel_rfl) ?_
        refine l_v (v := .int .u8 (((s.getD (at_) 0).toNat : Int))) rfl rfl (r_idx (j := at_) rfl rfl rfl Tryz.underlying9 (by omega) (getD_at (by omega))) ?_
        refine l_v (v := .bool (((((s.getD (at_) 0).toNat : Int)) == (92 : Int)))) rfl rfl (by kernel_rfl) ?_
        refine l_v (v := .bool (((((s.getD (at_) 0).toNat : Int)) == (92 : Int)))) rfl rfl (by kernel_rfl) ?_
        refine l_g (v := .int .i64 ((at_ : Nat) : Int)) (want_1 rfl rfl rfl rfl) rfl (fun hW_ => (by kernel_rfl)) ?_
        refine l_g (v := .int .i64 (((at_ : Nat) : Int) + 3)) (want_1 rfl rfl rfl rfl) rfl (fun hW_ => (r_add (r := ((at_ : Nat) : Int) + 3) rfl (gd_true hW_ _) rfl (by omega) (by simp only [min_i64]; omega) (by simp only [max_i64]; omega))) ?_
        refine l_g (v := .string ⟨(s).toArray⟩) (want_1 rfl rfl rfl rfl) rfl (fun hW_ => (by kernel_rfl)) ?_
        refine l_g (v := .int .i64 ((s).length : Int)) (want_1 rfl rfl rfl rfl) rfl (fun hW_ => (r_lens rfl (gd_true hW_ _) Tryz.underlying9)) ?_
        refine l_g (v := .bool (decide ((((at_ : Nat) : Int) + 3) < ((s).length : Int)))) (want_1 rfl rfl rfl rfl) rfl (fun hW_ => (r_cmp rfl (gd_true hW_ _) (gd_true hW_ _) rfl)) ?_
        refine l_v (v := .bool (((((((s.getD (at_) 0).toNat : Int)) == (92 : Int))) && (decide ((((at_ : Nat) : Int) + 3) < ((s).length : Int)))))) rfl rfl (r_pick rfl rfl (pick_and _ _)) ?_
        refine l_v (v := .bool (((((((s.getD (at_) 0).toNat : Int)) == (92 : Int))) && (decide ((((at_ : Nat) : Int) + 3) < ((s).length : Int)))))) rfl rfl (by kernel_rfl) ?_
        refine l_g (v := .string ⟨(s).toArray⟩) (want_1 rfl rfl rfl rfl) rfl (fun hW_ => (by kernel_rfl)) ?_
        refine l_g (v := .int .i64 ((at_ : Nat) : Int)) (want_1 rfl rfl rfl rfl) rfl (fun hW_ => (by kernel_rfl)) ?_
        refine l_g (v := .int .i64 (((at_ : Nat) : Int) + 1)) (want_1 rfl rfl rfl rfl) rfl (fun hW_ => (r_add (r := ((at_ : Nat) : Int) + 1) rfl (gd_true hW_ _) rfl (by omega) (by simp only [min_i64]; omega) (by simp only [max_i64]; omega))) ?_
        refine l_g (v := .int .u8 (((s.getD ((at_) + 1) 0).toNat : Int))) (want_1 rfl rfl rfl rfl) rfl (fun hW_ => (r_idx (j := (at_) + 1) rfl (gd_true hW_ _) (gd_true hW_ _) Tryz.underlying9 (by omega) (getD_at (by have hW2_ := hW_; try simp only [decide_eq_true_eq, decide_eq_false_iff_not, Bool.and_eq_true, Bool.or_eq_true, Bool.and_eq_false_iff, Bool.or_eq_false_iff, Bool.not_eq_true', Bool.not_eq_false', beq_iff_eq, bne_iff_ne, ne_eq, beq_eq_false_iff_ne, bne_eq_false_iff_eq, gt_iff_lt, ge_iff_le, Int.not_lt, Int.not_le] at hW2_; omega)))) ?_
        refine l_g (v := .bool (((((s.getD ((at_) + 1) 0).toNat : Int)) == (120 : Int)))) (want_1 rfl rfl rfl rfl) rfl (fun hW_ => (r_cmp rfl (gd_true hW_ _) rfl rfl)) ?_
        refine l_v (v := .bool (((((((((s.getD (at_) 0).toNat : Int)) == (92 : Int))) && (decide ((((at_ : Nat) : Int) + 3) < ((s).length : Int))))) && (((((s.getD ((at_) + 1) 0).toNat : Int)) == (120 : Int)))))) rfl rfl (r_pick rfl rfl (pick_and _ _)) ?_
        refine l_v (v := .bool (((((((((s.getD (at_) 0).toNat : Int)) == (92 : Int))) && (decide ((((at_ : Nat) : Int) + 3) < ((s).length : Int))))) && (((((s.getD ((at_) + 1) 0).toNat : Int)) == (120 : Int)))))) rfl rfl (by kernel_rfl) ?_
        refine l_nil ?_
        refine n_then ?_
        refine c_cond (e := ((((((((s.getD (at_) 0).toNat : Int)) == (92 : Int))) && (decide ((((at_ : Nat) : Int) + 3) < ((s).length : Int))))) && (((((s.getD ((at_) + 1) 0).toNat : Int)) == (120 : Int))))) rfl (fun hc35 => ?_) (fun hc35 => ?_)
        · try simp only [decide_eq_true_eq, decide_eq_false_iff_not, Bool.and_eq_true, Bool.or_eq_true, Bool.and_eq_false_iff, Bool.or_eq_false_iff, Bool.not_eq_true', Bool.not_eq_false', beq_iff_eq, bne_iff_ne, ne_eq, beq_eq_false_iff_ne, bne_eq_false_iff_eq, gt_iff_lt, ge_iff_le, Int.not_lt, Int.not_le] at hc35
          have hx92 : s.getD at_ 0 = 92 := (u8_eq (n := 92) (by omega)).1 hc35.1.1
          have hx120 : s.getD (at_ + 1) 0 = 120 := (u8_eq (n := 120) (by omega)).1 hc35.2
          have hb1 := hexv_b (s.getD (at_ + 2) 0)
          have hb2 := hexv_b (s.getD (at_ + 3) 0)
          refine wp_seq ?_
          refine h_start' (fun w0_ w_ => True) hmix (fun _ _ _ _ _ h => h) (fun w36 f37 hQ39 => ?_)
          have f37z := f37.size
          refine h_take (i := 0) (v := .string ⟨(s).toArray⟩) rfl (by kernel_rfl) (by kernel_rfl) (by kernel_rfl) hQ39 rfl rfl (fun w_ hS_ => (by kernel_rfl)) trivial ?_
          refine h_take (i := 1) (v := .int .i64 ((at_ : Nat) : Int)) rfl (by kernel_rfl) (by kernel_rfl) (by kernel_rfl) hQ39 rfl rfl (fun w_ hS_ => (by kernel_rfl)) trivial ?_
          refine h_take (i := 2) (v := .int .i64 (((at_ : Nat) : Int) + 2)) rfl (by kernel_rfl) (by kernel_rfl) (by kernel_rfl) hQ39 rfl rfl (fun w_ hS_ => (r_add (r := ((at_ : Nat) : Int) + 2) rfl rfl rfl (by omega) (by simp only [min_i64]; omega) (by simp only [max_i64]; omega))) trivial ?_
          refine h_take (i := 3) (v := .int .u8 (((s.getD ((at_) + 2) 0).toNat : Int))) rfl (by kernel_rfl) (by kernel_rfl) (by kernel_rfl) hQ39 rfl rfl (fun w_ hS_ => (r_idx (j := (at_) + 2) rfl rfl rfl Tryz.underlying9 (by omega) (getD_at (by omega)))) trivial ?_
          refine h_take (i := 5) (v := .string ⟨(s).toArray⟩) rfl (by kernel_rfl) (by kernel_rfl) (by kernel_rfl) hQ39 rfl rfl (fun w_ hS_ => (by kernel_rfl)) trivial ?_
          refine h_take (i := 6) (v := .int .i64 ((at_ : Nat) : Int)) rfl (by kernel_rfl) (by kernel_rfl) (by kernel_rfl) hQ39 rfl rfl (fun w_ hS_ => (by kernel_rfl)) trivial ?_
          refine h_take (i := 7) (v := .int .i64 (((at_ : Nat) : Int) + 3)) rfl (by kernel_rfl) (by kernel_rfl) (by kernel_rfl) hQ39 rfl rfl (fun w_ hS_ => (r_add (r := ((at_ : Nat) : Int) + 3) rfl rfl rfl (by omega) (by simp only [min_i64]; omega) (by simp only [max_i64]; omega))) trivial ?_
          refine h_take (i := 8) (v := .int .u8 (((s.getD ((at_) + 3) 0).toNat : Int))) rfl (by kernel_rfl) (by kernel_rfl) (by kernel_rfl) hQ39 rfl rfl (fun w_ hS_ => (r_idx (j := (at_) + 3) rfl rfl rfl Tryz.underlying9 (by omega) (getD_at (by omega)))) trivial ?_
          refine h_call (i := 4) (by kernel_rfl) rfl rfl rfl (r_call (args := #[.string ⟨([48, 49, 50, 51, 52, 53, 54, 55, 56, 57, 97, 98, 99, 100, 101, 102] : List UInt8).toArray⟩, .int .u8 (((s.getD ((at_) + 2) 0).toNat : Int))]) rfl e51 (am rfl)) (IndexByte_does digitsL (s.getD ((at_) + 2) 0) w36) (fun v41 w42 h40 => ?_)
          obtain ⟨rfl, h40f⟩ := h40
          have h40z := h40f.size
          refine ⟨trivial, ?_⟩
          refine h_call (i := 9) (by kernel_rfl) rfl rfl rfl (r_call (args := #[.string ⟨([48, 49, 50, 51, 52, 53, 54, 55, 56, 57, 97, 98, 99, 100, 101, 102] : List UInt8).toArray⟩, .int .u8 (((s.getD ((at_) + 3) 0).toNat : Int))]) rfl e51 (am rfl)) (IndexByte_does digitsL (s.getD ((at_) + 3) 0) w42) (fun v44 w45 h43 => ?_)
          obtain ⟨rfl, h43f⟩ := h43
          have h43z := h43f.size
          refine ⟨trivial, ?_⟩
          refine h_take (i := 10) (v := .int .i64 (hexv (s.getD ((at_) + 2) 0))) rfl (by kernel_rfl) (by kernel_rfl) (by kernel_rfl) hQ39 rfl rfl (fun w_ hS_ => (by kernel_rfl)) trivial ?_
          refine h_take (i := 11) (v := .int .i64 (hexv (s.getD ((at_) + 3) 0))) rfl (by kernel_rfl) (by kernel_rfl) (by kernel_rfl) hQ39 rfl rfl (fun w_ hS_ => (by kernel_rfl)) trivial ?_
          refine wpAnyH_done (by kernel_rfl) ?_ _
          refine n_then ?_
          refine wp_seq ?_
          refine wp_seq ?_
          refine r_start ?_
          refine l_v (v := .int .i64 (hexv (s.getD ((at_) + 2) 0))) rfl rfl (by kernel_rfl) ?_
          refine l_v (v := .bool (decide ((hexv (s.getD ((at_) + 2) 0)) < (0 : Int)))) rfl rfl (by kernel_rfl) ?_
          refine l_v (v := .bool (decide ((hexv (s.getD ((at_) + 2) 0)) < (0 : Int)))) rfl rfl (by kernel_rfl) ?_
          refine l_g (v := .int .i64 (hexv (s.getD ((at_) + 3) 0))) (want_1 rfl rfl rfl rfl) rfl (fun hW_ => (by kernel_rfl)) ?_
          refine l_g (v := .bool (decide ((hexv (s.getD ((at_) + 3) 0)) < (0 : Int)))) (want_1 rfl rfl rfl rfl) rfl (fun hW_ => (r_cmp rfl (gd_true hW_ _) rfl rfl)) ?_
          refine l_v (v := .bool (((decide ((hexv (s.getD ((at_) + 2) 0)) < (0 : Int))) || (decide ((hexv (s.getD ((at_) + 3) 0)) < (0 : Int)))))) rfl rfl (r_pick rfl rfl (pick_or _ _)) ?_
          refine l_nil ?_
          refine n_then ?_
          refine c_cond (e := ((decide ((hexv (s.getD ((at_) + 2) 0)) < (0 : Int))) || (decide ((hexv (s.getD ((at_) + 3) 0)) < (0 : Int))))) rfl (fun hc46 => ?_) (fun hc46 => ?_)
          · try simp only [decide_eq_true_eq, decide_eq_false_iff_not, Bool.and_eq_true, Bool.or_eq_true, Bool.and_eq_false_iff, Bool.or_eq_false_iff, Bool.not_eq_true', Bool.not_eq_false', beq_iff_eq, bne_iff_ne, ne_eq, beq_eq_false_iff_ne, bne_eq_false_iff_eq, gt_iff_lt, ge_iff_le, Int.not_lt, Int.not_le] at hc46
            refine wp_seq ?_
            refine r_start ?_
            refine l_v (v := .slice none 0 0) rfl rfl (by kernel_rfl) ?_
            refine l_v (v := .string ⟨([] : List UInt8).toArray⟩) rfl rfl (by kernel_rfl) ?_
            refine l_v (v := .bool false) rfl rfl (by kernel_rfl) ?_
            refine l_nil ?_
            refine n_then ?_
            refine wp_ret ?_
            refine t_then ?_
            refine t_block ?_
            refine t_block ?_
            refine t_then ?_
            refine t_then ?_
            refine t_block ?_
            refine t_then ?_
            have hE47 : Fr [] w w45 := (((hE15.trans f37).trans h40f).trans h43f)
            have hE47z := hE47.size
            exact end_ret (v := .tuple #[.slice none 0 0, .string ⟨([] : List UInt8).toArray⟩, .bool false]) (res3 rfl rfl rfl rfl) ⟨_, rfl, ⟨.slice none 0 0, by rw [unqR_none hs0 hsl (by rw [hd, dec_hexbad (by omega) hx92 hx120 (by omega)]; rfl)], by rw [unqR_none hs0 hsl (by rw [hd, dec_hexbad (by omega) hx92 hx120 (by omega)]; rfl)]; exact Sl.nil _ _ _, hE47⟩⟩
          · try simp only [decide_eq_true_eq, decide_eq_false_iff_not, Bool.and_eq_true, Bool.or_eq_true, Bool.and_eq_false_iff, Bool.or_eq_false_iff, Bool.not_eq_true', Bool.not_eq_false', beq_iff_eq, bne_iff_ne, ne_eq, beq_eq_false_iff_ne, bne_eq_false_iff_eq, gt_iff_lt, ge_iff_le, Int.not_lt, Int.not_le] at hc46
            have hbt := UInt8.toNat_lt (hexB (s.getD (at_ + 2) 0) (s.getD (at_ + 3) 0))
            refine wp_skip ?_
            refine n_then ?_
            refine wp_seq ?_
            refine r_start ?_
            refine l_v (v := v5) rfl rfl (by kernel_rfl) ?_
            refine l_v (v := .int .i64 (hexv (s.getD ((at_) + 2) 0))) rfl rfl (by kernel_rfl) ?_
            refine l_v (v := .int .i64 ((hexv (s.getD (at_ + 2) 0)) * 16)) rfl rfl (nib_shl rfl rfl rfl (by omega) (by omega)) ?_
            refine l_v (v := .int .i64 (hexv (s.getD ((at_) + 3) 0))) rfl rfl (by kernel_rfl) ?_
            refine l_v (v := .int .i64 ((hexv (s.getD (at_ + 2) 0)) * 16 + (hexv (s.getD (at_ + 3) 0)))) rfl rfl (nib_or rfl rfl rfl (by omega) (by omega) (by omega) (by omega)) ?_
            refine l_v (v := .int .u8 (((hexB (s.getD (at_ + 2) 0) (s.getD (at_ + 3) 0)).toNat : Int))) rfl rfl (r_conv (r := ((hexB (s.getD (at_ + 2) 0) (s.getD (at_ + 3) 0)).toNat : Int)) rfl rfl Tryz.underlying3 Tryz.underlying5 (u8_back (by omega) (by omega)) (by simp only [min_u8]; omega) (by simp only [max_u8]; omega)) ?_
            refine l_new (fun k_ => .slice (some ⟨k_, 0, none⟩) 1 1) rfl rfl (by kernel_rfl) (ob := .cells #[.int .u8 (((hexB (s.getD (at_ + 2) 0) (s.getD (at_ + 3) 0)).toNat : Int))] 5) (fun k48 w49 n50 => ?_)
            have hE51 : Fr [] w w45 := (((hE15.trans f37).trans h40f).trans h43f)
            have hE51z := hE51.size
            have n50k := n50.hk; have n50z := n50.sz
            have ho52 := (own_fr0 (own_fr0 (own_fr0 (own_fr0 ho f37) h40f) h43f) n50.fr)
            have hE53 : Fr [] w w49 := (hE51.trans n50.fr)
            have hE53z := hE53.size
            refine l_append (v := v5) (base := w.heap.size) (news := [.int .u8 (((hexB (s.getD (at_ + 2) 0) (s.getD (at_ + 3) 0)).toNat : Int))]) sl47 rfl rfl rfl rfl ho52 rfl rfl (range_at n50.at_ rfl) (by simp [Value.oneCell']) (by (try simp only [List.length_append, List.length_cons, List.length_nil]); omega) (by decide) (by omega) (fun v54 w55 a56 => ?_)
            have a56z := a56.fr.size
            have ho57 : OwnB w.heap.size 5 w55 v54 (b ++ [hexB (s.getD (at_ + 2) 0) (s.getD (at_ + 3) 0)]) := own_b a56.own (by rw [List.length_append]; rfl) (by rw [List.map_append]; rfl)
            refine l_v (v := v54) rfl rfl (by kernel_rfl) ?_
            refine l_nil ?_
            refine n_then ?_
            refine r_start ?_
            refine l_v (v := .int .i64 ((at_ : Nat) : Int)) rfl rfl (by kernel_rfl) ?_
            refine l_v (v := .int .i64 (((at_ : Nat) : Int) + 3)) rfl rfl (r_add (r := ((at_ : Nat) : Int) + 3) rfl rfl rfl (by omega) (by simp only [min_i64]; omega) (by simp only [max_i64]; omega)) ?_
            refine l_v (v := .int .i64 (((at_ : Nat) : Int) + 3)) rfl rfl (by kernel_rfl) ?_
            refine l_nil ?_
            refine n_block ?_
            refine n_block ?_
            refine n_then ?_
            refine r_start ?_
            refine l_v (v := .int .i64 (((at_ : Nat) : Int) + 3)) rfl rfl (by kernel_rfl) ?_
            refine l_v (v := .int .i64 ((((at_ : Nat) : Int) + 3) + 1)) rfl rfl (r_add (r := (((at_ : Nat) : Int) + 3) + 1) rfl rfl rfl (by omega) (by simp only [min_i64]; omega) (by simp only [max_i64]; omega)) ?_
            refine l_v (v := .int .i64 ((((at_ : Nat) : Int) + 3) + 1)) rfl rfl (by kernel_rfl) ?_
            refine l_nil ?_
            refine n_then ?_
            have hE58 : Fr [] w w55 := (Fr.step hE53 a56.fr (own_ge ho52 (by omega)))
            have hE58z := hE58.size
            exact hK11 _ _ _ (by omega) ⟨_, (at_ + 3 + 1), v54, (b ++ [hexB (s.getD (at_ + 2) 0) (s.getD (at_ + 3) 0)]), mk_eq (by kernel_rfl), rfl, hE58, (by omega), (by rw [List.length_append, List.length_singleton]; omega), ho57, (by rw [hd, dec_hex (by omega) hx92 hx120 (by omega), preO_cons])⟩
        · try simp only [decide_eq_true_eq, decide_eq_false_iff_not, Bool.and_eq_true, Bool.or_eq_true, Bool.and_eq_false_iff, Bool.or_eq_false_iff, Bool.not_eq_true', Bool.not_eq_false', beq_iff_eq, bne_iff_ne, ne_eq, beq_eq_false_iff_ne, bne_eq_false_iff_eq, gt_iff_lt, ge_iff_le, Int.not_lt, Int.not_le] at hc35
          refine wp_seq ?_
          refine r_start ?_
          refine l_v (v := .string ⟨(s).toArray⟩) rfl rfl (by kernel_rfl) ?_
          refine l_v (v := .int .i64 ((at_ : Nat) : Int)) rfl rfl (by kernel_rfl) ?_
          refine l_v (v := .int .u8 (((s.getD (at_) 0).toNat : Int))) rfl rfl (r_idx (j := at_) rfl rfl rfl Tryz.underlying9 (by omega) (getD_at (by omega))) ?_
          refine l_v (v := .bool (((((s.getD (at_) 0).toNat : Int)) == (92 : Int)))) rfl rfl (by kernel_rfl) ?_
          refine l_v (v := .bool (((((s.getD (at_) 0).toNat : Int)) == (92 : Int)))) rfl rfl (by kernel_rfl) ?_
          refine l_g (v := .int .i64 ((at_ : Nat) : Int)) (want_1 rfl rfl rfl rfl) rfl (fun hW_ => (by kernel_rfl)) ?_
          refine l_g (v := .int .i64 (((at_ : Nat) : Int) + 1)) (want_1 rfl rfl rfl rfl) rfl (fun hW_ => (r_add (r := ((at_ : Nat) : Int) + 1) rfl (gd_true hW_ _) rfl (by omega) (by simp only [min_i64]; omega) (by simp only [max_i64]; omega))) ?_
          refine l_g (v := .string ⟨(s).toArray⟩) (want_1 rfl rfl rfl rfl) rfl (fun hW_ => (by kernel_rfl)) ?_
          refine l_g (v := .int .i64 ((s).length : Int)) (want_1 rfl rfl rfl rfl) rfl (fun hW_ => (r_lens rfl (gd_true hW_ _) Tryz.underlying9)) ?_
          refine l_g (v := .bool (decide ((((at_ : Nat) : Int) + 1) < ((s).length : Int)))) (want_1 rfl rfl rfl rfl) rfl (fun hW_ => (r_cmp rfl (gd_true hW_ _) (gd_true hW_ _) rfl)) ?_
          refine l_v (v := .bool (((((((s.getD (at_) 0).toNat : Int)) == (92 : Int))) && (decide ((((at_ : Nat) : Int) + 1) < ((s).length : Int)))))) rfl rfl (r_pick rfl rfl (pick_and _ _)) ?_
          refine l_v (v := .bool (((((((s.getD (at_) 0).toNat : Int)) == (92 : Int))) && (decide ((((at_ : Nat) : Int) + 1) < ((s).length : Int)))))) rfl rfl (by kernel_rfl) ?_
          refine l_nil ?_
          refine n_then ?_
          refine c_cond (e := ((((((s.getD (at_) 0).toNat : Int)) == (92 : Int))) && (decide ((((at_ : Nat) : Int) + 1) < ((s).length : Int))))) rfl (fun hc59 => ?_) (fun hc59 => ?_)
          · try simp only [decide_eq_true_eq, decide_eq_false_iff_not, Bool.and_eq_true, Bool.or_eq_true, Bool.and_eq_false_iff, Bool.or_eq_false_iff, Bool.not_eq_true', Bool.not_eq_false', beq_iff_eq, bne_iff_ne, ne_eq, beq_eq_false_iff_ne, bne_eq_false_iff_eq, gt_iff_lt, ge_iff_le, Int.not_lt, Int.not_le] at hc59
            have hx92 : s.getD at_ 0 = 92 := (u8_eq (n := 92) (by omega)).1 hc59.1
            refine wp_seq ?_
            refine r_start ?_
            refine l_v (v := .int .i64 ((at_ : Nat) : Int)) rfl rfl (by kernel_rfl) ?_
            refine l_v (v := .int .i64 (((at_ : Nat) : Int) + 1)) rfl rfl (r_add (r := ((at_ : Nat) : Int) + 1) rfl rfl rfl (by omega) (by simp only [min_i64]; omega) (by simp only [max_i64]; omega)) ?_
            refine l_v (v := .int .i64 (((at_ : Nat) : Int) + 1)) rfl rfl (by kernel_rfl) ?_
            refine l_nil ?_
            refine n_then ?_
            refine r_start ?_
            refine l_v (v := v5) rfl rfl (by kernel_rfl) ?_
            refine l_v (v := .string ⟨(s).toArray⟩) rfl rfl (by kernel_rfl) ?_
            refine l_v (v := .int .i64 (((at_ : Nat) : Int) + 1)) rfl rfl (by kernel_rfl) ?_
            refine l_v (v := .int .u8 (((s.getD ((at_) + 1) 0).toNat : Int))) rfl rfl (r_idx (j := (at_) + 1) rfl rfl rfl Tryz.underlying9 (by omega) (getD_at (by omega))) ?_
            refine l_new (fun k_ => .slice (some ⟨k_, 0, none⟩) 1 1) rfl rfl (by kernel_rfl) (ob := .cells #[.int .u8 (((s.getD ((at_) + 1) 0).toNat : Int))] 5) (fun k60 w61 n62 => ?_)
            have n62k := n62.hk; have n62z := n62.sz
            have ho63 := (own_fr0 ho n62.fr)
            have hE64 : Fr [] w w61 := (hE15.trans n62.fr)
            have hE64z := hE64.size
            refine l_append (v := v5) (base := w.heap.size) (news := [.int .u8 (((s.getD ((at_) + 1) 0).toNat : Int))]) sl47 rfl rfl rfl rfl ho63 rfl rfl (range_at n62.at_ rfl) (by simp [Value.oneCell']) (by (try simp only [List.length_append, List.length_cons, List.length_nil]); omega) (by decide) (by omega) (fun v65 w66 a67 => ?_)
            have a67z := a67.fr.size
            have ho68 : OwnB w.heap.size 5 w66 v65 (b ++ [s.getD (at_ + 1) 0]) := own_b a67.own (by rw [List.length_append]; rfl) (by rw [List.map_append]; rfl)
            refine l_v (v := v65) rfl rfl (by kernel_rfl) ?_
            refine l_nil ?_
            refine n_block ?_
            refine n_block ?_
            refine n_then ?_
            refine r_start ?_
            refine l_v (v := .int .i64 (((at_ : Nat) : Int) + 1)) rfl rfl (by kernel_rfl) ?_
            refine l_v (v := .int .i64 ((((at_ : Nat) : Int) + 1) + 1)) rfl rfl (r_add (r := (((at_ : Nat) : Int) + 1) + 1) rfl rfl rfl (by omega) (by simp only [min_i64]; omega) (by simp only [max_i64]; omega)) ?_
            refine l_v (v := .int .i64 ((((at_ : Nat) : Int) + 1) + 1)) rfl rfl (by kernel_rfl) ?_
            refine l_nil ?_
            refine n_then ?_
            have hE69 : Fr [] w w66 := (Fr.step hE64 a67.fr (own_ge ho63 (by omega)))
            have hE69z := hE69.size
            exact hK11 _ _ _ (by omega) ⟨_, (at_ + 1 + 1), v65, (b ++ [s.getD (at_ + 1) 0]), mk_eq (by kernel_rfl), rfl, hE69, (by omega), (by rw [List.length_append, List.length_singleton]; omega), ho68, (by rw [hd, dec_esc (by omega) hx92 (fun hh_ => by have := hh_.1; have h120 := (u8_eq (n := 120) (by omega)).2 hh_.2; omega), preO_cons])⟩
          · try simp only [decide_eq_true_eq, decide_eq_false_iff_not, Bool.and_eq_true, Bool.or_eq_true, Bool.and_eq_false_iff, Bool.or_eq_false_iff, Bool.not_eq_true', Bool.not_eq_false', beq_iff_eq, bne_iff_ne, ne_eq, beq_eq_false_iff_ne, bne_eq_false_iff_eq, gt_iff_lt, ge_iff_le, Int.not_lt, Int.not_le] at hc59
            refine r_start ?_
            refine l_v (v := v5) rfl rfl (by kernel_rfl) ?_
            refine l_v (v := .string ⟨(s).toArray⟩) rfl rfl (by kernel_rfl) ?_
            refine l_v (v := .int .i64 ((at_ : Nat) : Int)) rfl rfl (by kernel_rfl) ?_
            refine l_v (v := .int .u8 (((s.getD (at_) 0).toNat : Int))) rfl rfl (r_idx (j := at_) rfl rfl rfl Tryz.underlying9 (by omega) (getD_at (by omega))) ?_
            refine l_new (fun k_ => .slice (some ⟨k_, 0, none⟩) 1 1) rfl rfl (by kernel_rfl) (ob := .cells #[.int .u8 (((s.getD (at_) 0).toNat : Int))] 5) (fun k70 w71 n72 => ?_)
            have n72k := n72.hk; have n72z := n72.sz
            have ho73 := (own_fr0 ho n72.fr)
            have hE74 : Fr [] w w71 := (hE15.trans n72.fr)
            have hE74z := hE74.size
            refine l_append (v := v5) (base := w.heap.size) (news := [.int .u8 (((s.getD (at_) 0).toNat : Int))]) sl47 rfl rfl rfl rfl ho73 rfl rfl (range_at n72.at_ rfl) (by simp [Value.oneCell']) (by (try simp only [List.length_append, List.length_cons, List.length_nil]); omega) (by decide) (by omega) (fun v75 w76 a77 => ?_)
            have a77z := a77.fr.size
            have ho78 : OwnB w.heap.size 5 w76 v75 (b ++ [s.getD at_ 0]) := own_b a77.own (by rw [List.length_append]; rfl) (by rw [List.map_append]; rfl)
            refine l_v (v := v75) rfl rfl (by kernel_rfl) ?_
            refine l_nil ?_
            refine n_block ?_
            refine n_block ?_
            refine n_then ?_
            refine r_start ?_
            refine l_v (v := .int .i64 ((at_ : Nat) : Int)) rfl rfl (by kernel_rfl) ?_
            refine l_v (v := .int .i64 (((at_ : Nat) : Int) + 1)) rfl rfl (r_add (r := ((at_ : Nat) : Int) + 1) rfl rfl rfl (by omega) (by simp only [min_i64]; omega) (by simp only [max_i64]; omega)) ?_
            refine l_v (v := .int .i64 (((at_ : Nat) : Int) + 1)) rfl rfl (by kernel_rfl) ?_
            refine l_nil ?_
            refine n_then ?_
            have hE79 : Fr [] w w76 := (Fr.step hE74 a77.fr (own_ge ho73 (by omega)))
            have hE79z := hE79.size
            exact hK11 _ _ _ (by omega) ⟨_, (at_ + 1), v75, (b ++ [s.getD at_ 0]), mk_eq (by kernel_rfl), rfl, hE79, (by omega), (by rw [List.length_append, List.length_singleton]; omega), ho78, (by rw [hd, dec_pl (by omega) (fun hh_ => hc17 ((u8_eq (n := 34) (by omega)).2 hh_)) (fun hh_ => by have h92 := (u8_eq (n := 92) (by omega)).2 hh_.1; omega), preO_cons])⟩
    · try simp only [decide_eq_true_eq, decide_eq_false_iff_not, Bool.and_eq_true, Bool.or_eq_true, Bool.and_eq_false_iff, Bool.or_eq_false_iff, Bool.not_eq_true', Bool.not_eq_false', beq_iff_eq, bne_iff_ne, ne_eq, beq_eq_false_iff_ne, bne_eq_false_iff_eq, gt_iff_lt, ge_iff_le, Int.not_lt, Int.not_le] at hc16
      refine wp_exit ?_
      refine e_then ?_
      refine e_then ?_
      refine e_hit ?_
      refine n_then ?_
      refine wp_seq ?_
      refine r_start ?_
      refine l_v (v := .slice none 0 0) rfl rfl (by kernel_rfl) ?_
      refine l_v (v := .string ⟨([] : List UInt8).toArray⟩) rfl rfl (by kernel_rfl) ?_
      refine l_v (v := .bool false) rfl rfl (by kernel_rfl) ?_
      refine l_nil ?_
      refine n_then ?_
      refine wp_ret ?_
      exact end_ret (v := .tuple #[.slice none 0 0, .string ⟨([] : List UInt8).toArray⟩, .bool false]) (res3 rfl rfl rfl rfl) ⟨_, rfl, ⟨.slice none 0 0, by rw [unqR_none hs0 hsl (by rw [hd, dec_end (by omega)]; rfl)], by rw [unqR_none hs0 hsl (by rw [hd, dec_end (by omega)]; rfl)]; exact Sl.nil _ _ _, hE15⟩⟩

end Go.Proofs.YtmhljojgdfmjaaaGreatDoor
