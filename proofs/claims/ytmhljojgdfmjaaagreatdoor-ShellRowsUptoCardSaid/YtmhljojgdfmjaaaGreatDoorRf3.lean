/- walks -/
import Derived.Test.YtmhljojgdfmjaaaGreatDoorRf2
namespace Go.Proofs.YtmhljojgdfmjaaaGreatDoor
open Go.E
set_option linter.unusedVariables false
set_option linter.unusedSimpArgs false
set_option maxRecDepth 100000
set_option maxHeartbeats 1000000
open Go.Sh
/-- ref31.Unquote -/
theorem rUnquote_calls (w : World) (s : List UInt8) (hl : s.length ≤ 1048576) :
    Does Tryz.prog 68 #[.string ⟨(s).toArray⟩] w fun r w' => ∃ v, r = .tuple #[v, .string ⟨(unqR s).2.1.toArray⟩, .bool (unqR s).2.2] ∧ By (fun g => w.heap.size ≤ g) w' v (unqR s).1 ∧ Fr [] w w' := by
  refine Does.of (fn_in (l := [.string ⟨(s).toArray⟩]) Tryz.func68 rfl Tryz.ntmps68 rfl ?_)
  refine wp_seq ?_
  refine r_start ?_
  refine l_v (v := .slice none 0 0) rfl rfl (by kernel_rfl) ?_
  refine l_v (v := .string ⟨([] : List UInt8).toArray⟩) rfl rfl (by kernel_rfl) ?_
  refine l_v (v := .bool false) rfl rfl (by kernel_rfl) ?_
  refine l_nil ?_
  refine n_then ?_
  refine wp_seq ?_
  refine wp_seq ?_
  refine r_start ?_
  refine l_v (v := .string ⟨(s).toArray⟩) rfl rfl (by kernel_rfl) ?_
  refine l_v (v := .int .i64 ((s).length : Int)) rfl rfl (r_lens rfl rfl Tryz.underlying9) ?_
  refine l_v (v := .bool ((((s).length : Int) == (0 : Int)))) rfl rfl (by kernel_rfl) ?_
  refine l_v (v := .bool ((((s).length : Int) == (0 : Int)))) rfl rfl (by kernel_rfl) ?_
  refine l_g (v := .string ⟨(s).toArray⟩) (want_1 rfl rfl rfl rfl) rfl (fun hW_ => (by kernel_rfl)) ?_
  refine l_g (v := .int .u8 (((s.getD (0) 0).toNat : Int))) (want_1 rfl rfl rfl rfl) rfl (fun hW_ => (r_idx (j := 0) rfl (gd_true hW_ _) rfl Tryz.underlying9 (by omega) (getD_at (by have hW2_ := hW_; try simp only [decide_eq_true_eq, decide_eq_false_iff_not, Bool.and_eq_true, Bool.or_eq_true, Bool.and_eq_false_iff, Bool.or_eq_false_iff, Bool.not_eq_true', Bool.not_eq_false', beq_iff_eq, bne_iff_ne, ne_eq, beq_eq_false_iff_ne, bne_eq_false_iff_eq, gt_iff_lt, ge_iff_le, Int.not_lt, Int.not_le] at hW2_; omega)))) ?_
  refine l_g (v := .bool (((((s.getD (0) 0).toNat : Int)) != (34 : Int)))) (want_1 rfl rfl rfl rfl) rfl (fun hW_ => (r_cmp rfl (gd_true hW_ _) rfl rfl)) ?_
  refine l_v (v := .bool ((((((s).length : Int) == (0 : Int))) || (((((s.getD (0) 0).toNat : Int)) != (34 : Int)))))) rfl rfl (r_pick rfl rfl (pick_or _ _)) ?_
  refine l_nil ?_
  refine n_then ?_
  refine c_cond (e := (((((s).length : Int) == (0 : Int))) || (((((s.getD (0) 0).toNat : Int)) != (34 : Int))))) rfl (fun hc1 => ?_) (fun hc1 => ?_)
  · try simp only [decide_eq_true_eq, decide_eq_false_iff_not, Bool.and_eq_true, Bool.or_eq_true, Bool.and_eq_false_iff, Bool.or_eq_false_iff, Bool.not_eq_true', Bool.not_eq_false', beq_iff_eq, bne_iff_ne, ne_eq, beq_eq_false_iff_ne, bne_eq_false_iff_eq, gt_iff_lt, ge_iff_le, Int.not_lt, Int.not_le] at hc1
    refine wp_seq ?_
    refine r_start ?_
    refine l_v (v := .slice none 0 0) rfl rfl (by kernel_rfl) ?_
    refine l_v (v := .string ⟨([] : List UInt8).toArray⟩) rfl rfl (by kernel_rfl) ?_
    refine l_v (v := .bool false) rfl rfl (by kernel_rfl) ?_
    refine l_nil ?_
    refine n_then ?_
    refine wp_ret ?_
    refine t_then ?_
    exact end_ret (v := .tuple #[.slice none 0 0, .string ⟨([] : List UInt8).toArray⟩, .bool false]) (res3 rfl rfl rfl rfl) ⟨_, rfl, ⟨.slice none 0 0, by rw [rUnq_no (by rcases hc1 with h_ | h_; exact .inl (by omega); exact .inr (fun hh_ => by have h_ := (u8_eq (x := s.getD 0 0) (n := 34) (by omega)).2 hh_; omega))], by rw [rUnq_no (by rcases hc1 with h_ | h_; exact .inl (by omega); exact .inr (fun hh_ => by have h_ := (u8_eq (x := s.getD 0 0) (n := 34) (by omega)).2 hh_; omega))]; exact Sl.nil _ _ _, (Fr.refl [] w)⟩⟩
  · try simp only [decide_eq_true_eq, decide_eq_false_iff_not, Bool.and_eq_true, Bool.or_eq_true, Bool.and_eq_false_iff, Bool.or_eq_false_iff, Bool.not_eq_true', Bool.not_eq_false', beq_iff_eq, bne_iff_ne, ne_eq, beq_eq_false_iff_ne, bne_eq_false_iff_eq, gt_iff_lt, ge_iff_le, Int.not_lt, Int.not_le] at hc1
    have hs0 : s.getD 0 0 = 34 := (u8_eq (n := 34) (by omega)).1 (by omega)
    have hsl : 0 < s.length := by omega
    refine wp_skip ?_
    refine n_then ?_
    refine wp_seq ?_
    refine r_start ?_
    refine l_v (v := .slice none 0 0) rfl rfl (by kernel_rfl) ?_
    refine l_nil ?_
    refine n_then ?_
    refine wp_seq ?_
    refine r_start ?_
    refine l_v (v := .int .i64 1) rfl rfl (by kernel_rfl) ?_
    refine l_nil ?_
    refine n_then ?_
    refine wp_seq ?_
    refine wp_block ?_
    refine c_loop (fun m_ a_ w_ => ∃ u_ : Nat → Value, ∃ at_ : Nat, ∃ v5 : Value, ∃ b : List UInt8, a_ = mk [] 113 u_ [(5, v5), (6, .int .i64 ((at_ : Nat) : Int)), (0, .string ⟨(s).toArray⟩), (7, .string ⟨(s).toArray⟩), (8, .int .i64 ((s).length : Int)), (9, .bool ((((s).length : Int) == (0 : Int)))), (10, .bool ((((s).length : Int) == (0 : Int)))), (14, .bool ((((((s).length : Int) == (0 : Int))) || (((((s.getD (0) 0).toNat : Int)) != (34 : Int))))))] ∧ m_ = s.length - at_ ∧ Fr [] w w_ ∧ (1 ≤ at_ ∧ at_ ≤ s.length) ∧ (b.length ≤ at_) ∧ (OwnB w.heap.size 5 w_ v5 b) ∧ (rdec (s.drop 1) = preO b (rdec (s.drop at_)))) (s.length - 1) ⟨_, 1, .slice none 0 0, [], mk_eq (by kernel_rfl), rfl, (Fr.refl [] w), ⟨Nat.le_refl _, hsl⟩, Nat.zero_le _, OwnB.nil _ _ _, (preO_nil _).symm⟩ ?_
    rintro m4 _ wr2 ⟨u_, at_, v5, b, rfl, hm5, hE6, hat, hbl, ho, hd⟩ K_ hK3
    have hE6z := hE6.size
    refine wp_seq ?_
    refine wp_seq ?_
    refine r_start ?_
    refine l_v (v := .int .i64 ((at_ : Nat) : Int)) rfl rfl (by kernel_rfl) ?_
    refine l_v (v := .string ⟨(s).toArray⟩) rfl rfl (by kernel_rfl) ?_
    refine l_v (v := .int .i64 ((s).length : Int)) rfl rfl (r_lens rfl rfl Tryz.underlying9) ?_
    refine l_v (v := .bool (decide (((at_ : Nat) : Int) < ((s).length : Int)))) rfl rfl (by kernel_rfl) ?_
    refine l_v (v := .bool (decide (((at_ : Nat) : Int) < ((s).length : Int)))) rfl rfl (by kernel_rfl) ?_
    refine l_g (v := .string ⟨(s).toArray⟩) (want_1 rfl rfl rfl rfl) rfl (fun hW_ => (by kernel_rfl)) ?_
    refine l_g (v := .int .i64 ((at_ : Nat) : Int)) (want_1 rfl rfl rfl rfl) rfl (fun hW_ => (by kernel_rfl)) ?_
    refine l_g (v := .int .u8 (((s.getD (at_) 0).toNat : Int))) (want_1 rfl rfl rfl rfl) rfl (fun hW_ => (r_idx (j := at_) rfl (gd_true hW_ _) (gd_true hW_ _) Tryz.underlying9 (by omega) (getD_at (by have hW2_ := hW_; try simp only [decide_eq_true_eq, decide_eq_false_iff_not, Bool.and_eq_true, Bool.or_eq_true, Bool.and_eq_false_iff, Bool.or_eq_false_iff, Bool.not_eq_true', Bool.not_eq_false', beq_iff_eq, bne_iff_ne, ne_eq, beq_eq_false_iff_ne, bne_eq_false_iff_eq, gt_iff_lt, ge_iff_le, Int.not_lt, Int.not_le] at hW2_; omega)))) ?_
    refine l_g (v := .bool (((((s.getD (at_) 0).toNat : Int)) != (34 : Int)))) (want_1 rfl rfl rfl rfl) rfl (fun hW_ => (r_cmp rfl (gd_true hW_ _) rfl rfl)) ?_
    refine l_v (v := .bool (((decide (((at_ : Nat) : Int) < ((s).length : Int))) && (((((s.getD (at_) 0).toNat : Int)) != (34 : Int)))))) rfl rfl (r_pick rfl rfl (pick_and _ _)) ?_
    refine l_nil ?_
    refine n_then ?_
    refine c_cond (e := ((decide (((at_ : Nat) : Int) < ((s).length : Int))) && (((((s.getD (at_) 0).toNat : Int)) != (34 : Int))))) rfl (fun hc7 => ?_) (fun hc7 => ?_)
    · try simp only [decide_eq_true_eq, decide_eq_false_iff_not, Bool.and_eq_true, Bool.or_eq_true, Bool.and_eq_false_iff, Bool.or_eq_false_iff, Bool.not_eq_true', Bool.not_eq_false', beq_iff_eq, bne_iff_ne, ne_eq, beq_eq_false_iff_ne, bne_eq_false_iff_eq, gt_iff_lt, ge_iff_le, Int.not_lt, Int.not_le] at hc7
      have hn34 : s.getD at_ 0 ≠ 34 := (fun hh_ => by have h_ := (u8_eq (x := s.getD at_ 0) (n := 34) (by omega)).2 hh_; omega)
      refine wp_skip ?_
      refine n_then ?_
      refine wp_block ?_
      refine wp_seq ?_
      refine wp_seq ?_
      refine r_start ?_
      refine l_v (v := .string ⟨(s).toArray⟩) rfl rfl (by kernel_rfl) ?_
      refine l_v (v := .int .i64 ((at_ : Nat) : Int)) rfl rfl (by kernel_rfl) ?_
      refine l_v (v := .int .u8 (((s.getD (at_) 0).toNat : Int))) rfl rfl (r_idx (j := at_) rfl rfl rfl Tryz.underlying9 (by omega) (getD_at (by omega))) ?_
      refine l_v (v := .bool (((((s.getD (at_) 0).toNat : Int)) != (92 : Int)))) rfl rfl (by kernel_rfl) ?_
      refine l_nil ?_
      refine n_then ?_
      refine c_cond (e := ((((s.getD (at_) 0).toNat : Int)) != (92 : Int))) rfl (fun hc8 => ?_) (fun hc8 => ?_)
      · try simp only [decide_eq_true_eq, decide_eq_false_iff_not, Bool.and_eq_true, Bool.or_eq_true, Bool.and_eq_false_iff, Bool.or_eq_false_iff, Bool.not_eq_true', Bool.not_eq_false', beq_iff_eq, bne_iff_ne, ne_eq, beq_eq_false_iff_ne, bne_eq_false_iff_eq, gt_iff_lt, ge_iff_le, Int.not_lt, Int.not_le] at hc8
        have hn92 : s.getD at_ 0 ≠ 92 := (fun hh_ => by have h_ := (u8_eq (x := s.getD at_ 0) (n := 92) (by omega)).2 hh_; omega)
        refine wp_seq ?_
        refine r_start ?_
        refine l_v (v := v5) rfl rfl (by kernel_rfl) ?_
        refine l_v (v := .string ⟨(s).toArray⟩) rfl rfl (by kernel_rfl) ?_
        refine l_v (v := .int .i64 ((at_ : Nat) : Int)) rfl rfl (by kernel_rfl) ?_
        refine l_v (v := .int .u8 (((s.getD (at_) 0).toNat : Int))) rfl rfl (r_idx (j := at_) rfl rfl rfl Tryz.underlying9 (by omega) (getD_at (by omega))) ?_
        refine l_new (fun k_ => .slice (some ⟨k_, 0, none⟩) 1 1) rfl rfl (by kernel_rfl) (ob := .cells #[.int .u8 (((s.getD (at_) 0).toNat : Int))] 5) (fun k9 w10 n11 => ?_)
        have n11k := n11.hk; have n11z := n11.sz
        have ho12 := (own_fr0 ho n11.fr)
        have hE13 : Fr [] w w10 := (hE6.trans n11.fr)
        have hE13z := hE13.size
        refine l_append (v := v5) (base := w.heap.size) (news := [.int .u8 (((s.getD (at_) 0).toNat : Int))]) sl47 rfl rfl rfl rfl ho12 rfl rfl (range_at n11.at_ rfl) (by simp [Value.oneCell']) (by (try simp only [List.length_append, List.length_cons, List.length_nil]); omega) (by decide) (by omega) (fun v14 w15 a16 => ?_)
        have a16z := a16.fr.size
        have ho17 : OwnB w.heap.size 5 w15 v14 (b ++ [s.getD at_ 0]) := own_b a16.own (by rw [List.length_append]; rfl) (by rw [List.map_append]; rfl)
        refine l_v (v := v14) rfl rfl (by kernel_rfl) ?_
        refine l_nil ?_
        refine n_then ?_
        refine wp_seq ?_
        refine r_start ?_
        refine l_v (v := .int .i64 ((at_ : Nat) : Int)) rfl rfl (by kernel_rfl) ?_
        refine l_v (v := .int .i64 (((at_ : Nat) : Int) + 1)) rfl rfl (r_add (r := ((at_ : Nat) : Int) + 1) rfl rfl rfl (by omega) (by simp only [min_i64]; omega) (by simp only [max_i64]; omega)) ?_
        refine l_v (v := .int .i64 (((at_ : Nat) : Int) + 1)) rfl rfl (by kernel_rfl) ?_
        refine l_nil ?_
        refine n_then ?_
        refine wp_exit ?_
        refine e_then ?_
        refine e_hit ?_
        refine n_then ?_
        have hE18 : Fr [] w w15 := (Fr.step hE13 a16.fr (own_ge ho12 (by omega)))
        have hE18z := hE18.size
        exact hK3 _ _ _ (by omega) ⟨_, (at_ + 1), v14, (b ++ [s.getD at_ 0]), mk_eq (by kernel_rfl), rfl, hE18, (by omega), (by rw [List.length_append, List.length_singleton]; omega), ho17, (by rw [hd, rdec_pl (by omega) hn34 hn92, preO_cons])⟩
      · try simp only [decide_eq_true_eq, decide_eq_false_iff_not, Bool.and_eq_true, Bool.or_eq_true, Bool.and_eq_false_iff, Bool.or_eq_false_iff, Bool.not_eq_true', Bool.not_eq_false', beq_iff_eq, bne_iff_ne, ne_eq, beq_eq_false_iff_ne, bne_eq_false_iff_eq, gt_iff_lt, ge_iff_le, Int.not_lt, Int.not_le] at hc8
        have h92 : s.getD at_ 0 = 92 := (u8_eq (n := 92) (by omega)).1 (by omega)
        refine wp_skip ?_
        refine n_then ?_
        refine wp_seq ?_
        refine wp_seq ?_
        refine r_start ?_
        refine l_v (v := .int .i64 ((at_ : Nat) : Int)) rfl rfl (by kernel_rfl) ?_
        refine l_v (v := .int .i64 (((at_ : Nat) : Int) + 1)) rfl rfl (r_add (r := ((at_ : Nat) : Int) + 1) rfl rfl rfl (by omega) (by simp only [min_i64]; omega) (by simp only [max_i64]; omega)) ?_
        refine l_v (v := .string ⟨(s).toArray⟩) rfl rfl (by kernel_rfl) ?_
        refine l_v (v := .int .i64 ((s).length : Int)) rfl rfl (r_lens rfl rfl Tryz.underlying9) ?_
        refine l_v (v := .bool (decide ((((at_ : Nat) : Int) + 1) ≥ ((s).length : Int)))) rfl rfl (by kernel_rfl) ?_
        refine l_nil ?_
        refine n_then ?_
        refine c_cond (e := decide ((((at_ : Nat) : Int) + 1) ≥ ((s).length : Int))) rfl (fun hc19 => ?_) (fun hc19 => ?_)
        · try simp only [decide_eq_true_eq, decide_eq_false_iff_not, Bool.and_eq_true, Bool.or_eq_true, Bool.and_eq_false_iff, Bool.or_eq_false_iff, Bool.not_eq_true', Bool.not_eq_false', beq_iff_eq, bne_iff_ne, ne_eq, beq_eq_false_iff_ne, bne_eq_false_iff_eq, gt_iff_lt, ge_iff_le, Int.not_lt, Int.not_le] at hc19
          refine wp_seq ?_
          refine r_start ?_
          refine l_v (v := .slice none 0 0) rfl rfl (by kernel_rfl) ?_
          refine l_v (v := .string ⟨([] : List UInt8).toArray⟩) rfl rfl (by kernel_rfl) ?_
          refine l_v (v := .bool false) rfl rfl (by kernel_rfl) ?_
          refine l_nil ?_
          refine n_then ?_
          refine wp_ret ?_
          refine t_then ?_
          refine t_block ?_
          refine t_then ?_
          refine t_block ?_
          refine t_then ?_
          exact end_ret (v := .tuple #[.slice none 0 0, .string ⟨([] : List UInt8).toArray⟩, .bool false]) (res3 rfl rfl rfl rfl) ⟨_, rfl, ⟨.slice none 0 0, by rw [rUnq_none hs0 hsl (by rw [hd, rdec_no1 (by omega) h92 (by omega)]; rfl)], by rw [rUnq_none hs0 hsl (by rw [hd, rdec_no1 (by omega) h92 (by omega)]; rfl)]; exact Sl.nil _ _ _, hE6⟩⟩
        · try simp only [decide_eq_true_eq, decide_eq_false_iff_not, Bool.and_eq_true, Bool.or_eq_true, Bool.and_eq_false_iff, Bool.or_eq_false_iff, Bool.not_eq_true', Bool.not_eq_false', beq_iff_eq, bne_iff_ne, ne_eq, beq_eq_false_iff_ne, bne_eq_false_iff_eq, gt_iff_lt, ge_iff_le, Int.not_lt, Int.not_le] at hc19
          refine wp_skip ?_
          refine n_then ?_
          refine wp_seq ?_
          refine wp_seq ?_
          refine r_start ?_
          refine l_v (v := .string ⟨(s).toArray⟩) rfl rfl (by kernel_rfl) ?_
          refine l_v (v := .int .i64 ((at_ : Nat) : Int)) rfl rfl (by kernel_rfl) ?_
          refine l_v (v := .int .i64 (((at_ : Nat) : Int) + 1)) rfl rfl (r_add (r := ((at_ : Nat) : Int) + 1) rfl rfl rfl (by omega) (by simp only [min_i64]; omega) (by simp only [max_i64]; omega)) ?_
          refine l_v (v := .int .u8 (((s.getD ((at_) + 1) 0).toNat : Int))) rfl rfl (r_idx (j := (at_) + 1) rfl rfl rfl Tryz.underlying9 (by omega) (getD_at (by omega))) ?_
          refine l_v (v := .bool (((((s.getD ((at_) + 1) 0).toNat : Int)) != (120 : Int)))) rfl rfl (by kernel_rfl) ?_
          refine l_nil ?_
          refine n_then ?_
          refine c_cond (e := ((((s.getD ((at_) + 1) 0).toNat : Int)) != (120 : Int))) rfl (fun hc20 => ?_) (fun hc20 => ?_)
          · try simp only [decide_eq_true_eq, decide_eq_false_iff_not, Bool.and_eq_true, Bool.or_eq_true, Bool.and_eq_false_iff, Bool.or_eq_false_iff, Bool.not_eq_true', Bool.not_eq_false', beq_iff_eq, bne_iff_ne, ne_eq, beq_eq_false_iff_ne, bne_eq_false_iff_eq, gt_iff_lt, ge_iff_le, Int.not_lt, Int.not_le] at hc20
            have hn120 : s.getD (at_ + 1) 0 ≠ 120 := (fun hh_ => by have h_ := (u8_eq (x := s.getD (at_ + 1) 0) (n := 120) (by omega)).2 hh_; omega)
            refine wp_seq ?_
            refine r_start ?_
            refine l_v (v := v5) rfl rfl (by kernel_rfl) ?_
            refine l_v (v := .string ⟨(s).toArray⟩) rfl rfl (by kernel_rfl) ?_
            refine l_v (v := .int .i64 ((at_ : Nat) : Int)) rfl rfl (by kernel_rfl) ?_
            refine l_v (v := .int .i64 (((at_ : Nat) : Int) + 1)) rfl rfl (r_add (r := ((at_ : Nat) : Int) + 1) rfl rfl rfl (by omega) (by simp only [min_i64]; omega) (by simp only [max_i64]; omega)) ?_
            refine l_v (v := .int .u8 (((s.getD ((at_) + 1) 0).toNat : Int))) rfl rfl (r_idx (j := (at_) + 1) rfl rfl rfl Tryz.underlying9 (by omega) (getD_at (by omega))) ?_
            refine l_new (fun k_ => .slice (some ⟨k_, 0, none⟩) 1 1) rfl rfl (by kernel_rfl) (ob := .cells #[.int .u8 (((s.getD ((at_) + 1) 0).toNat : Int))] 5) (fun k21 w22 n23 => ?_)
            have n23k := n23.hk; have n23z := n23.sz
            have ho24 := (own_fr0 ho n23.fr)
            have hE25 : Fr [] w w22 := (hE6.trans n23.fr)
            have hE25z := hE25.size
            refine l_append (v := v5) (base := w.heap.size) (news := [.int .u8 (((s.getD ((at_) + 1) 0).toNat : Int))]) sl47 rfl rfl rfl rfl ho24 rfl rfl (range_at n23.at_ rfl) (by simp [Value.oneCell']) (by (try simp only [List.length_append, List.length_cons, List.length_nil]); omega) (by decide) (by omega) (fun v26 w27 a28 => ?_)
            have a28z := a28.fr.size
            have ho29 : OwnB w.heap.size 5 w27 v26 (b ++ [s.getD (at_ + 1) 0]) := own_b a28.own (by rw [List.length_append]; rfl) (by rw [List.map_append]; rfl)
            refine l_v (v := v26) rfl rfl (by kernel_rfl) ?_
            refine l_nil ?_
            refine n_then ?_
            refine wp_seq ?_
            refine r_start ?_
            refine l_v (v := .int .i64 ((at_ : Nat) : Int)) rfl rfl (by kernel_rfl) ?_
            refine l_v (v := .int .i64 (((at_ : Nat) : Int) + 2)) rfl rfl (r_add (r := ((at_ : Nat) : Int) + 2) rfl rfl rfl (by omega) (by simp only [min_i64]; omega) (by simp only [max_i64]; omega)) ?_
            refine l_v (v := .int .i64 (((at_ : Nat) : Int) + 2)) rfl rfl (by kernel_rfl) ?_
            refine l_nil ?_
            refine n_then ?_
            refine wp_exit ?_
            refine e_then ?_
            refine e_hit ?_
            refine n_then ?_
            have hE30 : Fr [] w w27 := (Fr.step hE25 a28.fr (own_ge ho24 (by omega)))
            have hE30z := hE30.size
            exact hK3 _ _ _ (by omega) ⟨_, (at_ + 2), v26, (b ++ [s.getD (at_ + 1) 0]), mk_eq (by kernel_rfl), rfl, hE30, (by omega), (by rw [List.length_append, List.length_singleton]; omega), ho29, (by rw [hd, rdec_esc (by omega) h92 hn120, preO_cons])⟩
          · try simp only [decide_eq_true_eq, decide_eq_false_iff_not, Bool.and_eq_true, Bool.or_eq_true, Bool.and_eq_false_iff, Bool.or_eq_false_iff, Bool.not_eq_true', Bool.not_eq_false', beq_iff_eq, bne_iff_ne, ne_eq, beq_eq_false_iff_ne, bne_eq_false_iff_eq, gt_iff_lt, ge_iff_le, Int.not_lt, Int.not_le] at hc20
            have h120 : s.getD (at_ + 1) 0 = 120 := (u8_eq (n := 120) (by omega)).1 (by omega)
            have hb1 := hexv_b (s.getD (at_ + 2) 0)
            have hb2 := hexv_b (s.getD (at_ + 3) 0)
            refine wp_skip ?_
            refine n_then ?_
            refine wp_seq ?_
            refine wp_seq ?_
            refine r_start ?_
            refine l_v (v := .int .i64 ((at_ : Nat) : Int)) rfl rfl (by kernel_rfl) ?_
            refine l_v (v := .int .i64 (((at_ : Nat) : Int) + 3)) rfl rfl (r_add (r := ((at_ : Nat) : Int) + 3) rfl rfl rfl (by omega) (by simp only [min_i64]; omega) (by simp only [max_i64]; omega)) ?_
            refine l_v (v := .string ⟨(s).toArray⟩) rfl rfl (by kernel_rfl) ?_
            refine l_v (v := .int .i64 ((s).length : Int)) rfl rfl (r_lens rfl rfl Tryz.underlying9) ?_
            refine l_v (v := .bool (decide ((((at_ : Nat) : Int) + 3) ≥ ((s).length : Int)))) rfl rfl (by kernel_rfl) ?_
            refine l_v (v := .bool (decide ((((at_ : Nat) : Int) + 3) ≥ ((s).length : Int)))) rfl rfl (by kernel_rfl) ?_
            rcases Bool.eq_false_or_eq_true (decide ((((at_ : Nat) : Int) + 3) ≥ ((s).length : Int))) with hs31 | hs31
            · refine l_unwg (want_1 rfl rfl rfl rfl) ((known_eq hs31 false).trans rfl) rfl ?_
              refine l_unwg (want_1 rfl rfl rfl rfl) ((known_eq hs31 false).trans rfl) rfl ?_
              refine l_unwg (want_1 rfl rfl rfl rfl) ((known_eq hs31 false).trans rfl) rfl ?_
              refine l_unwg (want_1 rfl rfl rfl rfl) ((known_eq hs31 false).trans rfl) rfl ?_
              refine l_unwg (want_1 rfl rfl rfl rfl) ((known_eq hs31 false).trans rfl) rfl ?_
              refine l_unwg (want_1 rfl rfl rfl rfl) ((known_eq hs31 false).trans rfl) rfl ?_
              refine l_v (v := .bool true) rfl rfl (r_pickT rfl rfl hs31 rfl) ?_
              refine l_v (v := .bool true) rfl rfl (by kernel_rfl) ?_
              refine l_unwg (want_1 rfl rfl rfl rfl) ((known_eq rfl false).trans rfl) rfl ?_
              refine l_unwg (want_1 rfl rfl rfl rfl) ((known_eq rfl false).trans rfl) rfl ?_
              refine l_unwg (want_1 rfl rfl rfl rfl) ((known_eq rfl false).trans rfl) rfl ?_
              refine l_unwg (want_1 rfl rfl rfl rfl) ((known_eq rfl false).trans rfl) rfl ?_
              refine l_unwg (want_1 rfl rfl rfl rfl) ((known_eq rfl false).trans rfl) rfl ?_
              refine l_unwg (want_1 rfl rfl rfl rfl) ((known_eq rfl false).trans rfl) rfl ?_
              refine l_v (v := .bool true) rfl rfl (r_pickT rfl rfl rfl rfl) ?_
              refine l_nil ?_
              refine n_then ?_
              refine c_condT (e := true) rfl rfl ?_
              refine wp_seq ?_
              refine r_start ?_
              refine l_v (v := .slice none 0 0) rfl rfl (by kernel_rfl) ?_
              refine l_v (v := .string ⟨([] : List UInt8).toArray⟩) rfl rfl (by kernel_rfl) ?_
              refine l_v (v := .bool false) rfl rfl (by kernel_rfl) ?_
              refine l_nil ?_
              refine n_then ?_
              refine wp_ret ?_
              refine t_then ?_
              refine t_block ?_
              refine t_then ?_
              refine t_block ?_
              refine t_then ?_
              exact end_ret (v := .tuple #[.slice none 0 0, .string ⟨([] : List UInt8).toArray⟩, .bool false]) (res3 rfl rfl rfl rfl) ⟨_, rfl, ⟨.slice none 0 0, by rw [rUnq_none hs0 hsl (by rw [hd, rdec_short (by omega) h92 h120 (by simp only [decide_eq_true_eq] at hs31; omega)]; rfl)], by rw [rUnq_none hs0 hsl (by rw [hd, rdec_short (by omega) h92 h120 (by simp only [decide_eq_true_eq] at hs31; omega)]; rfl)]; exact Sl.nil _ _ _, hE6⟩⟩
            · have hl3 : at_ + 3 < s.length := by simp only [decide_eq_false_iff_not] at hs31; omega
              refine l_wanted (want_1 rfl rfl rfl rfl) ((known_eq hs31 false).trans rfl) ?_
              refine l_v (v := .string ⟨(s).toArray⟩) rfl rfl (by kernel_rfl) ?_
              refine l_wanted (want_1 rfl rfl rfl rfl) ((known_eq hs31 false).trans rfl) ?_
              refine l_v (v := .int .i64 ((at_ : Nat) : Int)) rfl rfl (by kernel_rfl) ?_
              refine l_wanted (want_1 rfl rfl rfl rfl) ((known_eq hs31 false).trans rfl) ?_
              refine l_v (v := .int .i64 (((at_ : Nat) : Int) + 2)) rfl rfl (r_add (r := ((at_ : Nat) : Int) + 2) rfl rfl rfl (by omega) (by simp only [min_i64]; omega) (by simp only [max_i64]; omega)) ?_
              refine l_wanted (want_1 rfl rfl rfl rfl) ((known_eq hs31 false).trans rfl) ?_
              refine l_v (v := .int .u8 (((s.getD ((at_) + 2) 0).toNat : Int))) rfl rfl (r_idx (j := (at_) + 2) rfl rfl rfl Tryz.underlying9 (by omega) (getD_at (by omega))) ?_
              refine l_wanted (want_1 rfl rfl rfl rfl) ((known_eq hs31 false).trans rfl) ?_
              refine l_call rfl rfl (r_call (args := #[.int .u8 (((s.getD ((at_) + 2) 0).toNat : Int))]) rfl e81 (am rfl)) (rDigit_calls wr2 (s.getD ((at_) + 2) 0)) (fun v33 w34 h32 => ?_)
              obtain ⟨rfl, h32f⟩ := h32
              have h32z := h32f.size
              refine l_wanted (want_1 rfl rfl rfl rfl) ((known_eq hs31 false).trans rfl) ?_
              refine l_v (v := .bool (decide ((hexv (s.getD ((at_) + 2) 0)) < (0 : Int)))) rfl rfl (by kernel_rfl) ?_
              refine l_v (v := .bool (decide ((hexv (s.getD ((at_) + 2) 0)) < (0 : Int)))) rfl rfl (r_pickF rfl rfl hs31 rfl) ?_
              refine l_v (v := .bool (decide ((hexv (s.getD ((at_) + 2) 0)) < (0 : Int)))) rfl rfl (by kernel_rfl) ?_
              rcases Bool.eq_false_or_eq_true (decide ((hexv (s.getD ((at_) + 2) 0)) < (0 : Int))) with hs35 | hs35
              · refine l_unwg (want_1 rfl rfl rfl rfl) ((known_eq hs35 false).trans rfl) rfl ?_
                refine l_unwg (want_1 rfl rfl rfl rfl) ((known_eq hs35 false).trans rfl) rfl ?_
                refine l_unwg (want_1 rfl rfl rfl rfl) ((known_eq hs35 false).trans rfl) rfl ?_
                refine l_unwg (want_1 rfl rfl rfl rfl) ((known_eq hs35 false).trans rfl) rfl ?_
                refine l_unwg (want_1 rfl rfl rfl rfl) ((known_eq hs35 false).trans rfl) rfl ?_
                refine l_unwg (want_1 rfl rfl rfl rfl) ((known_eq hs35 false).trans rfl) rfl ?_
                refine l_v (v := .bool true) rfl rfl (r_pickT rfl rfl hs35 rfl) ?_
                refine l_nil ?_
                refine n_then ?_
                refine c_condT (e := true) rfl rfl ?_
                refine wp_seq ?_
                refine r_start ?_
                refine l_v (v := .slice none 0 0) rfl rfl (by kernel_rfl) ?_
                refine l_v (v := .string ⟨([] : List UInt8).toArray⟩) rfl rfl (by kernel_rfl) ?_
                refine l_v (v := .bool false) rfl rfl (by kernel_rfl) ?_
                refine l_nil ?_
                refine n_then ?_
                refine wp_ret ?_
                refine t_then ?_
                refine t_block ?_
                refine t_then ?_
                refine t_block ?_
                refine t_then ?_
                have hE36 : Fr [] w w34 := (hE6.trans h32f)
                have hE36z := hE36.size
                exact end_ret (v := .tuple #[.slice none 0 0, .string ⟨([] : List UInt8).toArray⟩, .bool false]) (res3 rfl rfl rfl rfl) ⟨_, rfl, ⟨.slice none 0 0, by rw [rUnq_none hs0 hsl (by rw [hd, rdec_hexbad hl3 h92 h120 (.inl (by simpa using hs35))]; rfl)], by rw [rUnq_none hs0 hsl (by rw [hd, rdec_hexbad hl3 h92 h120 (.inl (by simpa using hs35))]; rfl)]; exact Sl.nil _ _ _, hE36⟩⟩
              · refine l_wanted (want_1 rfl rfl rfl rfl) ((known_eq hs35 false).trans rfl) ?_
                refine l_v (v := .string ⟨(s).toArray⟩) rfl rfl (by kernel_rfl) ?_
                refine l_wanted (want_1 rfl rfl rfl rfl) ((known_eq hs35 false).trans rfl) ?_
                refine l_v (v := .int .i64 ((at_ : Nat) : Int)) rfl rfl (by kernel_rfl) ?_
                refine l_wanted (want_1 rfl rfl rfl rfl) ((known_eq hs35 false).trans rfl) ?_
                refine l_v (v := .int .i64 (((at_ : Nat) : Int) + 3)) rfl rfl (r_add (r := ((at_ : Nat) : Int) + 3) rfl rfl rfl (by omega) (by simp only [min_i64]; omega) (by simp only [max_i64]; omega)) ?_
                refine l_wanted (want_1 rfl rfl rfl rfl) ((known_eq hs35 false).trans rfl) ?_
                refine l_v (v := .int .u8 (((s.getD ((at_) + 3) 0).toNat : Int))) rfl rfl (r_idx (j := (at_) + 3) rfl rfl rfl Tryz.underlying9 (by omega) (getD_at (by omega))) ?_
                refine l_wanted (want_1 rfl rfl rfl rfl) ((known_eq hs35 false).trans rfl) ?_
                refine l_call rfl rfl (r_call (args := #[.int .u8 (((s.getD ((at_) + 3) 0).toNat : Int))]) rfl e81 (am rfl)) (rDigit_calls w34 (s.getD ((at_) + 3) 0)) (fun v38 w39 h37 => ?_)
                obtain ⟨rfl, h37f⟩ := h37
                have h37z := h37f.size
                refine l_wanted (want_1 rfl rfl rfl rfl) ((known_eq hs35 false).trans rfl) ?_
                refine l_v (v := .bool (decide ((hexv (s.getD ((at_) + 3) 0)) < (0 : Int)))) rfl rfl (by kernel_rfl) ?_
                refine l_v (v := .bool (decide ((hexv (s.getD ((at_) + 3) 0)) < (0 : Int)))) rfl rfl (r_pickF rfl rfl hs35 rfl) ?_
                refine l_nil ?_
                refine n_then ?_
                refine c_cond (e := decide ((hexv (s.getD ((at_) + 3) 0)) < (0 : Int))) rfl (fun hc40 => ?_) (fun hc40 => ?_)
                · try simp only [decide_eq_true_eq, decide_eq_false_iff_not, Bool.and_eq_true, Bool.or_eq_true, Bool.and_eq_false_iff, Bool.or_eq_false_iff, Bool.not_eq_true', Bool.not_eq_false', beq_iff_eq, bne_iff_ne, ne_eq, beq_eq_false_iff_ne, bne_eq_false_iff_eq, gt_iff_lt, ge_iff_le, Int.not_lt, Int.not_le] at hc40
                  refine wp_seq ?_
                  refine r_start ?_
                  refine l_v (v := .slice none 0 0) rfl rfl (by kernel_rfl) ?_
                  refine l_v (v := .string ⟨([] : List UInt8).toArray⟩) rfl rfl (by kernel_rfl) ?_
                  refine l_v (v := .bool false) rfl rfl (by kernel_rfl) ?_
                  refine l_nil ?_
                  refine n_then ?_
                  refine wp_ret ?_
                  refine t_then ?_
                  refine t_block ?_
                  refine t_then ?_
                  refine t_block ?_
                  refine t_then ?_
                  have hE41 : Fr [] w w39 := ((hE6.trans h32f).trans h37f)
                  have hE41z := hE41.size
                  exact end_ret (v := .tuple #[.slice none 0 0, .string ⟨([] : List UInt8).toArray⟩, .bool false]) (res3 rfl rfl rfl rfl) ⟨_, rfl, ⟨.slice none 0 0, by rw [rUnq_none hs0 hsl (by rw [hd, rdec_hexbad hl3 h92 h120 (.inr (by omega))]; rfl)], by rw [rUnq_none hs0 hsl (by rw [hd, rdec_hexbad hl3 h92 h120 (.inr (by omega))]; rfl)]; exact Sl.nil _ _ _, hE41⟩⟩
                · try simp only [decide_eq_true_eq, decide_eq_false_iff_not, Bool.and_eq_true, Bool.or_eq_true, Bool.and_eq_false_iff, Bool.or_eq_false_iff, Bool.not_eq_true', Bool.not_eq_false', beq_iff_eq, bne_iff_ne, ne_eq, beq_eq_false_iff_ne, bne_eq_false_iff_eq, gt_iff_lt, ge_iff_le, Int.not_lt, Int.not_le] at hc40
                  have h1_ : 0 ≤ hexv (s.getD (at_ + 2) 0) := by have hq_ := hs35; simp only [decide_eq_false_iff_not] at hq_; omega
                  have hnn : ¬ (hexv (s.getD (at_ + 2) 0) < 0 ∨ hexv (s.getD (at_ + 3) 0) < 0) := by omega
                  have hbt := UInt8.toNat_lt (hexB (s.getD (at_ + 2) 0) (s.getD (at_ + 3) 0))
                  refine wp_skip ?_
                  refine n_then ?_
                  refine wp_seq ?_
                  have hE46 : Fr [] w w39 := ((hE6.trans h32f).trans h37f)
                  have hE46z := hE46.size
                  refine h_start' (fun w0_ w_ => True) hmix (fun _ _ _ _ _ h => h) (fun w42 f43 hQ45 => ?_)
                  have f43z := f43.size
                  refine h_take (i := 0) (v := v5) rfl (by kernel_rfl) (by kernel_rfl) (by kernel_rfl) hQ45 rfl rfl (fun w_ hS_ => (by kernel_rfl)) trivial ?_
                  refine h_take (i := 1) (v := .string ⟨(s).toArray⟩) rfl (by kernel_rfl) (by kernel_rfl) (by kernel_rfl) hQ45 rfl rfl (fun w_ hS_ => (by kernel_rfl)) trivial ?_
                  refine h_take (i := 2) (v := .int .i64 ((at_ : Nat) : Int)) rfl (by kernel_rfl) (by kernel_rfl) (by kernel_rfl) hQ45 rfl rfl (fun w_ hS_ => (by kernel_rfl)) trivial ?_
                  refine h_take (i := 3) (v := .int .i64 (((at_ : Nat) : Int) + 2)) rfl (by kernel_rfl) (by kernel_rfl) (by kernel_rfl) hQ45 rfl rfl (fun w_ hS_ => (r_add (r := ((at_ : Nat) : Int) + 2) rfl rfl rfl (by omega) (by simp only [min_i64]; omega) (by simp only [max_i64]; omega))) trivial ?_
                  refine h_take (i := 4) (v := .int .u8 (((s.getD ((at_) + 2) 0).toNat : Int))) rfl (by kernel_rfl) (by kernel_rfl) (by kernel_rfl) hQ45 rfl rfl (fun w_ hS_ => (r_idx (j := (at_) + 2) rfl rfl rfl Tryz.underlying9 (by omega) (getD_at (by omega)))) trivial ?_
                  refine h_take (i := 7) (v := .string ⟨(s).toArray⟩) rfl (by kernel_rfl) (by kernel_rfl) (by kernel_rfl) hQ45 rfl rfl (fun w_ hS_ => (by kernel_rfl)) trivial ?_
                  refine h_take (i := 8) (v := .int .i64 ((at_ : Nat) : Int)) rfl (by kernel_rfl) (by kernel_rfl) (by kernel_rfl) hQ45 rfl rfl (fun w_ hS_ => (by kernel_rfl)) trivial ?_
                  refine h_take (i := 9) (v := .int .i64 (((at_ : Nat) : Int) + 3)) rfl (by kernel_rfl) (by kernel_rfl) (by kernel_rfl) hQ45 rfl rfl (fun w_ hS_ => (r_add (r := ((at_ : Nat) : Int) + 3) rfl rfl rfl (by omega) (by simp only [min_i64]; omega) (by simp only [max_i64]; omega))) trivial ?_
                  refine h_take (i := 10) (v := .int .u8 (((s.getD ((at_) + 3) 0).toNat : Int))) rfl (by kernel_rfl) (by kernel_rfl) (by kernel_rfl) hQ45 rfl rfl (fun w_ hS_ => (r_idx (j := (at_) + 3) rfl rfl rfl Tryz.underlying9 (by omega) (getD_at (by omega)))) trivial ?_
                  refine h_call (i := 5) (by kernel_rfl) rfl rfl rfl (r_call (args := #[.int .u8 (((s.getD ((at_) + 2) 0).toNat : Int))]) rfl e81 (am rfl)) (rDigit_calls w42 (s.getD ((at_) + 2) 0)) (fun v48 w49 h47 => ?_)
                  obtain ⟨rfl, h47f⟩ := h47
                  have h47z := h47f.size
                  refine ⟨trivial, ?_⟩
                  refine h_take (i := 6) (v := .int .i64 (16 * (hexv (s.getD ((at_) + 2) 0)))) rfl (by kernel_rfl) (by kernel_rfl) (by kernel_rfl) hQ45 rfl rfl (fun w_ hS_ => (r_mul (r := 16 * (hexv (s.getD ((at_) + 2) 0))) rfl rfl rfl (by omega) (by simp only [min_i64]; omega) (by simp only [max_i64]; omega))) trivial ?_
                  refine h_call (i := 11) (by kernel_rfl) rfl rfl rfl (r_call (args := #[.int .u8 (((s.getD ((at_) + 3) 0).toNat : Int))]) rfl e81 (am rfl)) (rDigit_calls w49 (s.getD ((at_) + 3) 0)) (fun v51 w52 h50 => ?_)
                  obtain ⟨rfl, h50f⟩ := h50
                  have h50z := h50f.size
                  refine ⟨trivial, ?_⟩
                  refine h_take (i := 12) (v := .int .i64 ((16 * (hexv (s.getD ((at_) + 2) 0))) + (hexv (s.getD ((at_) + 3) 0)))) rfl (by kernel_rfl) (by kernel_rfl) (by kernel_rfl) hQ45 rfl rfl (fun w_ hS_ => (r_add (r := (16 * (hexv (s.getD ((at_) + 2) 0))) + (hexv (s.getD ((at_) + 3) 0))) rfl rfl rfl (by omega) (by simp only [min_i64]; omega) (by simp only [max_i64]; omega))) trivial ?_
                  refine h_take (i := 13) (v := .int .u8 (((hexB (s.getD (at_ + 2) 0) (s.getD (at_ + 3) 0)).toNat : Int))) rfl (by kernel_rfl) (by kernel_rfl) (by kernel_rfl) hQ45 rfl rfl (fun w_ hS_ => (r_conv (r := ((hexB (s.getD (at_ + 2) 0) (s.getD (at_ + 3) 0)).toNat : Int)) rfl rfl Tryz.underlying3 Tryz.underlying5 (by have h_ := u8_back (e := hexv (s.getD (at_ + 2) 0) * 16 + hexv (s.getD (at_ + 3) 0)) (by omega) (by omega); unfold hexB; omega) (by simp only [min_u8]; omega) (by simp only [max_u8]; omega))) trivial ?_
                  refine h_new (i := 14) (fun k_ => .slice (some ⟨k_, 0, none⟩) 1 1) (by kernel_rfl) rfl rfl rfl (by kernel_rfl) (ob := .cells #[.int .u8 (((hexB (s.getD (at_ + 2) 0) (s.getD (at_ + 3) 0)).toNat : Int))] 5) (fun k53 w54 n55 => ⟨trivial, ?_⟩)
                  have hE56 : Fr [] w w52 := (((hE46.trans f43).trans h47f).trans h50f)
                  have hE56z := hE56.size
                  have n55k := n55.hk; have n55z := n55.sz
                  have ho57 := (own_fr0 (own_fr0 (own_fr0 (own_fr0 (own_fr0 (own_fr0 ho h32f) h37f) f43) h47f) h50f) n55.fr)
                  have hE58 : Fr [] w w54 := (hE56.trans n55.fr)
                  have hE58z := hE58.size
                  refine h_append (i := 15) (base := w.heap.size) (news := [.int .u8 (((hexB (s.getD (at_ + 2) 0) (s.getD (at_ + 3) 0)).toNat : Int))]) sl47 (by kernel_rfl) rfl rfl rfl rfl rfl ho57 rfl rfl (range_at n55.at_ rfl) (by simp [Value.oneCell']) (by (try simp only [List.length_append, List.length_cons, List.length_nil]); omega) (by decide) (by omega) (fun v59 w60 a61 => ⟨?_, ?_⟩)
                  · exact trivial
                  have a61z := a61.fr.size
                  have ho62 : OwnB w.heap.size 5 w60 v59 (b ++ [hexB (s.getD (at_ + 2) 0) (s.getD (at_ + 3) 0)]) := own_b a61.own (by rw [List.length_append]; rfl) (by rw [List.map_append]; rfl)
                  refine h_take (i := 16) (v := v59) rfl (by kernel_rfl) (by kernel_rfl) (by kernel_rfl) hQ45 rfl rfl (fun w_ hS_ => (by kernel_rfl)) trivial ?_
                  refine wpAnyH_done (by kernel_rfl) ?_ _
                  refine n_then ?_
                  refine r_start ?_
                  refine l_v (v := .int .i64 ((at_ : Nat) : Int)) rfl rfl (by kernel_rfl) ?_
                  refine l_v (v := .int .i64 (((at_ : Nat) : Int) + 4)) rfl rfl (r_add (r := ((at_ : Nat) : Int) + 4) rfl rfl rfl (by omega) (by simp only [min_i64]; omega) (by simp only [max_i64]; omega)) ?_
                  refine l_v (v := .int .i64 (((at_ : Nat) : Int) + 4)) rfl rfl (by kernel_rfl) ?_
                  refine l_nil ?_
                  refine n_block ?_
                  refine n_then ?_
                  have hE63 : Fr [] w w60 := (Fr.step hE58 a61.fr (own_ge ho57 (by omega)))
                  have hE63z := hE63.size
                  exact hK3 _ _ _ (by omega) ⟨_, (at_ + 4), v59, (b ++ [hexB (s.getD (at_ + 2) 0) (s.getD (at_ + 3) 0)]), mk_eq (by kernel_rfl), rfl, hE63, (by omega), (by rw [List.length_append, List.length_singleton]; omega), ho62, (by rw [hd, rdec_hex hl3 h92 h120 hnn, preO_cons])⟩
    · try simp only [decide_eq_true_eq, decide_eq_false_iff_not, Bool.and_eq_true, Bool.or_eq_true, Bool.and_eq_false_iff, Bool.or_eq_false_iff, Bool.not_eq_true', Bool.not_eq_false', beq_iff_eq, bne_iff_ne, ne_eq, beq_eq_false_iff_ne, bne_eq_false_iff_eq, gt_iff_lt, ge_iff_le, Int.not_lt, Int.not_le] at hc7
      rcases Bool.eq_false_or_eq_true (decide (((at_ : Nat) : Int) ≥ ((s).length : Int))) with hge | hge
      · refine wp_exit ?_
        refine e_then ?_
        refine e_then ?_
        refine e_hit ?_
        refine n_then ?_
        refine wp_seq ?_
        refine wp_seq ?_
        refine h_start' (fun w0_ w_ => True) hmix (fun _ _ _ _ _ h => h) (fun w64 f65 hQ67 => ?_)
        have f65z := f65.size
        refine h_take (i := 0) (v := .int .i64 ((at_ : Nat) : Int)) rfl (by kernel_rfl) (by kernel_rfl) (by kernel_rfl) hQ67 rfl rfl (fun w_ hS_ => (by kernel_rfl)) trivial ?_
        refine h_take (i := 1) (v := .string ⟨(s).toArray⟩) rfl (by kernel_rfl) (by kernel_rfl) (by kernel_rfl) hQ67 rfl rfl (fun w_ hS_ => (by kernel_rfl)) trivial ?_
        refine h_take (i := 2) (v := .int .i64 ((s).length : Int)) rfl (by kernel_rfl) (by kernel_rfl) (by kernel_rfl) hQ67 rfl rfl (fun w_ hS_ => (r_lens rfl rfl Tryz.underlying9)) trivial ?_
        refine h_take (i := 3) (v := .bool (decide (((at_ : Nat) : Int) ≥ ((s).length : Int)))) rfl (by kernel_rfl) (by kernel_rfl) (by kernel_rfl) hQ67 rfl rfl (fun w_ hS_ => (by kernel_rfl)) trivial ?_
        refine h_take (i := 4) (v := .bool (decide (((at_ : Nat) : Int) ≥ ((s).length : Int)))) rfl (by kernel_rfl) (by kernel_rfl) (by kernel_rfl) hQ67 rfl rfl (fun w_ hS_ => (by kernel_rfl)) trivial ?_
        refine h_takeg (i := 5) (v := .bool true) rfl (by kernel_rfl) (by kernel_rfl) (by kernel_rfl) hQ67 (want_1 rfl rfl rfl rfl) rfl (fun hW_ => absurd (hW_.symm.trans ((known_eq hge false).trans rfl)) (by decide)) trivial ?_
        refine h_takeg (i := 7) (v := .bool true) rfl (by kernel_rfl) (by kernel_rfl) (by kernel_rfl) hQ67 (want_1 rfl rfl rfl rfl) rfl (fun hW_ => absurd (hW_.symm.trans ((known_eq hge false).trans rfl)) (by decide)) trivial ?_
        refine h_takeg (i := 8) (v := .bool true) rfl (by kernel_rfl) (by kernel_rfl) (by kernel_rfl) hQ67 (want_1 rfl rfl rfl rfl) rfl (fun hW_ => absurd (hW_.symm.trans ((known_eq hge false).trans rfl)) (by decide)) trivial ?_
        refine h_takeg (i := 9) (v := .bool true) rfl (by kernel_rfl) (by kernel_rfl) (by kernel_rfl) hQ67 (want_1 rfl rfl rfl rfl) rfl (fun hW_ => absurd (hW_.symm.trans ((known_eq hge false).trans rfl)) (by decide)) trivial ?_
        refine h_takeg (i := 10) (v := .bool true) rfl (by kernel_rfl) (by kernel_rfl) (by kernel_rfl) hQ67 (want_1 rfl rfl rfl rfl) rfl (fun hW_ => absurd (hW_.symm.trans ((known_eq hge false).trans rfl)) (by decide)) trivial ?_
        refine h_unw (i := 6) (by kernel_rfl) rfl (want_1 rfl rfl rfl rfl) ((known_eq hge false).trans rfl) rfl trivial ?_
        refine h_takeg (i := 11) (v := .bool true) rfl (by kernel_rfl) (by kernel_rfl) (by kernel_rfl) hQ67 (want_1 rfl rfl rfl rfl) rfl (fun hW_ => absurd (hW_.symm.trans ((known_eq hge false).trans rfl)) (by decide)) trivial ?_
        refine h_take (i := 12) (v := .bool true) rfl (by kernel_rfl) (by kernel_rfl) (by kernel_rfl) hQ67 rfl rfl (fun w_ hS_ => (r_pickT rfl rfl hge rfl)) trivial ?_
        refine wpAnyH_done (by kernel_rfl) ?_ _
        refine n_then ?_
        refine c_condT (e := true) rfl rfl ?_
        refine wp_seq ?_
        refine r_start ?_
        refine l_v (v := .slice none 0 0) rfl rfl (by kernel_rfl) ?_
        refine l_v (v := .string ⟨([] : List UInt8).toArray⟩) rfl rfl (by kernel_rfl) ?_
        refine l_v (v := .bool false) rfl rfl (by kernel_rfl) ?_
        refine l_nil ?_
        refine n_then ?_
        refine wp_ret ?_
        refine t_then ?_
        have hE68 : Fr [] w w64 := (hE6.trans f65)
        have hE68z := hE68.size
        exact end_ret (v := .tuple #[.slice none 0 0, .string ⟨([] : List UInt8).toArray⟩, .bool false]) (res3 rfl rfl rfl rfl) ⟨_, rfl, ⟨.slice none 0 0, by rw [rUnq_none hs0 hsl (by rw [hd, rdec_end (by simp only [decide_eq_true_eq] at hge; omega)]; rfl)], by rw [rUnq_none hs0 hsl (by rw [hd, rdec_end (by simp only [decide_eq_true_eq] at hge; omega)]; rfl)]; exact Sl.nil _ _ _, hE68⟩⟩
      · have hlt : at_ < s.length := by simp only [decide_eq_false_iff_not] at hge; omega
        have hq34 : s.getD at_ 0 = 34 := (u8_eq (n := 34) (by omega)).1 (by omega)
        have hdq : rdec (s.drop 1) = some (b, s.drop (at_ + 1)) := by rw [hd, rdec_q hlt hq34]; simp [preO]
        refine wp_exit ?_
        refine e_then ?_
        refine e_then ?_
        refine e_hit ?_
        refine n_then ?_
        refine wp_seq ?_
        refine wp_seq ?_
        refine h_start' (fun w0_ w_ => True) hmix (fun _ _ _ _ _ h => h) (fun w69 f70 hQ72 => ?_)
        have f70z := f70.size
        refine h_take (i := 0) (v := .int .i64 ((at_ : Nat) : Int)) rfl (by kernel_rfl) (by kernel_rfl) (by kernel_rfl) hQ72 rfl rfl (fun w_ hS_ => (by kernel_rfl)) trivial ?_
        refine h_take (i := 1) (v := .string ⟨(s).toArray⟩) rfl (by kernel_rfl) (by kernel_rfl) (by kernel_rfl) hQ72 rfl rfl (fun w_ hS_ => (by kernel_rfl)) trivial ?_
        refine h_take (i := 2) (v := .int .i64 ((s).length : Int)) rfl (by kernel_rfl) (by kernel_rfl) (by kernel_rfl) hQ72 rfl rfl (fun w_ hS_ => (r_lens rfl rfl Tryz.underlying9)) trivial ?_
        refine h_take (i := 3) (v := .bool (decide (((at_ : Nat) : Int) ≥ ((s).length : Int)))) rfl (by kernel_rfl) (by kernel_rfl) (by kernel_rfl) hQ72 rfl rfl (fun w_ hS_ => (by kernel_rfl)) trivial ?_
        refine h_take (i := 4) (v := .bool (decide (((at_ : Nat) : Int) ≥ ((s).length : Int)))) rfl (by kernel_rfl) (by kernel_rfl) (by kernel_rfl) hQ72 rfl rfl (fun w_ hS_ => (by kernel_rfl)) trivial ?_
        refine h_takeg (i := 5) (v := v5) rfl (by kernel_rfl) (by kernel_rfl) (by kernel_rfl) hQ72 (want_1 rfl rfl rfl rfl) rfl (fun hW_ w_ hS_ => (by kernel_rfl)) trivial ?_
        refine h_takeg (i := 7) (v := .string ⟨(s).toArray⟩) rfl (by kernel_rfl) (by kernel_rfl) (by kernel_rfl) hQ72 (want_1 rfl rfl rfl rfl) rfl (fun hW_ w_ hS_ => (by kernel_rfl)) trivial ?_
        refine h_takeg (i := 8) (v := .int .i64 ((at_ : Nat) : Int)) rfl (by kernel_rfl) (by kernel_rfl) (by kernel_rfl) hQ72 (want_1 rfl rfl rfl rfl) rfl (fun hW_ w_ hS_ => (by kernel_rfl)) trivial ?_
        refine h_takeg (i := 9) (v := .int .i64 (((at_ : Nat) : Int) + 1)) rfl (by kernel_rfl) (by kernel_rfl) (by kernel_rfl) hQ72 (want_1 rfl rfl rfl rfl) rfl (fun hW_ w_ hS_ => (r_add (r := ((at_ : Nat) : Int) + 1) rfl (gd_true ((known_eq hge false).trans rfl) _) rfl (by omega) (by simp only [min_i64]; omega) (by simp only [max_i64]; omega))) trivial ?_
        refine h_takeg (i := 10) (v := .string ⟨(s.take ((at_) + 1)).toArray⟩) rfl (by kernel_rfl) (by kernel_rfl) (by kernel_rfl) hQ72 (want_1 rfl rfl rfl rfl) rfl (fun hW_ w_ hS_ => (r_shi (j := (at_) + 1) rfl (gd_true ((known_eq hge false).trans rfl) _) (gd_true ((known_eq hge false).trans rfl) _) Tryz.underlying9 (by omega) (by omega))) trivial ?_
        have ho73 := (own_fr0 ho f70)
        refine h_callw (i := 6) (by kernel_rfl) rfl (want_1 rfl rfl rfl rfl) ((known_eq hge false).trans rfl) rfl (r_call (args := #[v5]) rfl e38 (am1 (gd_true ((known_eq hge false).trans rfl) _))) (rQuote_calls w69 (fun _ => True) _ b (OwnB.by_ ho73 (fun _ _ _ => trivial)) (by omega)) (fun v75 w76 h74 => ?_)
        obtain ⟨rfl, h74f⟩ := h74
        have h74z := h74f.size
        refine ⟨trivial, ?_⟩
        refine h_takeg (i := 11) (v := .bool ((!decide (quoteL b = s.take ((at_) + 1))))) rfl (by kernel_rfl) (by kernel_rfl) (by kernel_rfl) hQ72 (want_1 rfl rfl rfl rfl) rfl (fun hW_ w_ hS_ => (r_str_neq rfl rfl (gd_true ((known_eq hge false).trans rfl) _))) trivial ?_
        refine h_take (i := 12) (v := .bool ((!decide (quoteL b = s.take ((at_) + 1))))) rfl (by kernel_rfl) (by kernel_rfl) (by kernel_rfl) hQ72 rfl rfl (fun w_ hS_ => (r_pickF rfl rfl hge (gd_true ((known_eq hge false).trans rfl) _))) trivial ?_
        refine wpAnyH_done (by kernel_rfl) ?_ _
        refine n_then ?_
        refine c_cond (e := (!decide (quoteL b = s.take ((at_) + 1)))) rfl (fun hc77 => ?_) (fun hc77 => ?_)
        · refine wp_seq ?_
          refine r_start ?_
          refine l_v (v := .slice none 0 0) rfl rfl (by kernel_rfl) ?_
          refine l_v (v := .string ⟨([] : List UInt8).toArray⟩) rfl rfl (by kernel_rfl) ?_
          refine l_v (v := .bool false) rfl rfl (by kernel_rfl) ?_
          refine l_nil ?_
          refine n_then ?_
          refine wp_ret ?_
          refine t_then ?_
          have hE78 : Fr [] w w76 := ((hE6.trans f70).trans h74f)
          have hE78z := hE78.size
          exact end_ret (v := .tuple #[.slice none 0 0, .string ⟨([] : List UInt8).toArray⟩, .bool false]) (res3 rfl rfl rfl rfl) ⟨_, rfl, ⟨.slice none 0 0, by rw [rUnq_bad hs0 hsl hdq (by simpa using hc77)], by rw [rUnq_bad hs0 hsl hdq (by simpa using hc77)]; exact Sl.nil _ _ _, hE78⟩⟩
        · refine wp_skip ?_
          refine n_then ?_
          refine wp_seq ?_
          have hE83 : Fr [] w w76 := ((hE6.trans f70).trans h74f)
          have hE83z := hE83.size
          refine h_start' (fun w0_ w_ => True) hmix (fun _ _ _ _ _ h => h) (fun w79 f80 hQ82 => ?_)
          have f80z := f80.size
          refine h_take (i := 0) (v := v5) rfl (by kernel_rfl) (by kernel_rfl) (by kernel_rfl) hQ82 rfl rfl (fun w_ hS_ => (by kernel_rfl)) trivial ?_
          refine h_take (i := 1) (v := .string ⟨(s).toArray⟩) rfl (by kernel_rfl) (by kernel_rfl) (by kernel_rfl) hQ82 rfl rfl (fun w_ hS_ => (by kernel_rfl)) trivial ?_
          refine h_take (i := 2) (v := .int .i64 ((at_ : Nat) : Int)) rfl (by kernel_rfl) (by kernel_rfl) (by kernel_rfl) hQ82 rfl rfl (fun w_ hS_ => (by kernel_rfl)) trivial ?_
          refine h_take (i := 3) (v := .int .i64 (((at_ : Nat) : Int) + 1)) rfl (by kernel_rfl) (by kernel_rfl) (by kernel_rfl) hQ82 rfl rfl (fun w_ hS_ => (r_add (r := ((at_ : Nat) : Int) + 1) rfl rfl rfl (by omega) (by simp only [min_i64]; omega) (by simp only [max_i64]; omega))) trivial ?_
          refine h_take (i := 4) (v := .string ⟨(s.drop ((at_) + 1)).toArray⟩) rfl (by kernel_rfl) (by kernel_rfl) (by kernel_rfl) hQ82 rfl rfl (fun w_ hS_ => (r_slo (j := (at_) + 1) rfl rfl rfl Tryz.underlying9 (by omega) (by omega))) trivial ?_
          refine h_take (i := 5) (v := v5) rfl (by kernel_rfl) (by kernel_rfl) (by kernel_rfl) hQ82 rfl rfl (fun w_ hS_ => (by kernel_rfl)) trivial ?_
          refine h_take (i := 6) (v := .string ⟨(s.drop ((at_) + 1)).toArray⟩) rfl (by kernel_rfl) (by kernel_rfl) (by kernel_rfl) hQ82 rfl rfl (fun w_ hS_ => (by kernel_rfl)) trivial ?_
          refine h_take (i := 7) (v := .bool true) rfl (by kernel_rfl) (by kernel_rfl) (by kernel_rfl) hQ82 rfl rfl (fun w_ hS_ => (by kernel_rfl)) trivial ?_
          refine wpAnyH_done (by kernel_rfl) ?_ _
          refine n_then ?_
          refine wp_ret ?_
          have hu := rUnq_ok hs0 hsl hdq (by simpa using hc77)
          have hE84 : Fr [] w w79 := (hE83.trans f80)
          have hE84z := hE84.size
          have ho85 := (own_fr0 (own_fr0 ho73 h74f) f80)
          exact end_ret (v := .tuple #[v5, .string ⟨(s.drop ((at_) + 1)).toArray⟩, .bool true]) (res3 rfl rfl rfl rfl) ⟨_, rfl, ⟨_, by rw [hu], by rw [hu]; exact OwnB.by_ ho85 (fun g h _ => h), hE84⟩⟩

end Go.Proofs.YtmhljojgdfmjaaaGreatDoor
