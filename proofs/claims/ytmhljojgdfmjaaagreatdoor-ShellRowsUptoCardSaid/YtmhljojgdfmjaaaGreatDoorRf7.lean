/- walks -/
import Derived.Test.YtmhljojgdfmjaaaGreatDoorRf6
namespace Go.Proofs.YtmhljojgdfmjaaaGreatDoor
open Go.E
set_option linter.unusedVariables false
set_option linter.unusedSimpArgs false
set_option maxRecDepth 100000
set_option maxHeartbeats 1000000
open Go.Sh
theorem RwK_weak {ok ok' : Nat → Prop} {w : World} {cs : List Value} {e : Rw} (h : RwK ok w cs e) (hm : ∀ g, g < w.heap.size → ok g → ok' g) : RwK ok' w cs e := Rp.rw.weak h hm
/-- ref31.lines -/
theorem rLines_calls (w : World) (s : List UInt8) (hl : s.length ≤ 1048576) :
    Does Tryz.prog 22 #[.string ⟨(s).toArray⟩] w fun r w' => ∃ v, r = .tuple #[v, .bool (linesX s).2] ∧ Sl Rp.str (fun _ => True) w' v (linesX s).1 ∧ Fr [] w w' := by
  refine Does.of (fn_in (l := [.string ⟨(s).toArray⟩]) Tryz.func22 rfl Tryz.ntmps22 rfl ?_)
  refine wp_seq ?_
  refine r_start ?_
  refine l_v (v := .slice none 0 0) rfl rfl (by kernel_rfl) ?_
  refine l_v (v := .bool false) rfl rfl (by kernel_rfl) ?_
  refine l_nil ?_
  refine n_then ?_
  refine wp_seq ?_
  refine r_start ?_
  refine l_v (v := .slice none 0 0) rfl rfl (by kernel_rfl) ?_
  refine l_nil ?_
  refine n_then ?_
  refine wp_seq ?_
  refine r_start ?_
  refine l_v (v := .int .i64 0) rfl rfl (by kernel_rfl) ?_
  refine l_nil ?_
  refine n_then ?_
  refine wp_seq ?_
  refine wp_seq ?_
  refine r_start ?_
  refine l_v (v := .int .i64 0) rfl rfl (by kernel_rfl) ?_
  refine l_nil ?_
  refine n_then ?_
  refine wp_block ?_
  refine c_loop (fun m_ a_ w_ => ∃ u_ : Nat → Value, ∃ i : Nat, ∃ fr : Nat, ∃ v4 : Value, ∃ ls : List (List UInt8), a_ = mk [] 37 u_ [(4, v4), (5, .int .i64 ((fr : Nat) : Int)), (6, .int .i64 ((i : Nat) : Int)), (0, .string ⟨(s).toArray⟩), (2, .slice none 0 0), (3, .bool false)] ∧ m_ = s.length - i ∧ Fr [] w w_ ∧ (i ≤ s.length) ∧ (fr ≤ i) ∧ (ls.length ≤ i) ∧ (OwnK Rp.str (fun _ => False) w.heap.size 9 w_ v4 ls) ∧ (linesX s = (ls ++ (linesX (s.drop fr)).1, (linesX (s.drop fr)).2)) ∧ (∀ j, fr ≤ j → j < i → s.getD j 0 ≠ 10)) (s.length - 0) ⟨_, 0, 0, .slice none 0 0, [], mk_eq (by kernel_rfl), rfl, (Fr.refl [] w), Nat.zero_le _, Nat.le_refl _, Nat.le_refl _, OwnK.nil _ _ _ _ _, by simp, by intro j h1 h2; omega⟩ ?_
  rintro m3 _ wr1 ⟨u_, i, fr, v4, ls, rfl, hm4, hE5, hi, hfr, hlsl, ho, hln, hn10⟩ K_ hK2
  have hE5z := hE5.size
  refine wp_seq ?_
  refine wp_seq ?_
  refine r_start ?_
  refine l_v (v := .int .i64 ((i : Nat) : Int)) rfl rfl (by kernel_rfl) ?_
  refine l_v (v := .string ⟨(s).toArray⟩) rfl rfl (by kernel_rfl) ?_
  refine l_v (v := .int .i64 ((s).length : Int)) rfl rfl (r_lens rfl rfl Tryz.underlying9) ?_
  refine l_v (v := .bool (decide (((i : Nat) : Int) < ((s).length : Int)))) rfl rfl (by kernel_rfl) ?_
  refine l_nil ?_
  refine n_then ?_
  refine c_cond (e := decide (((i : Nat) : Int) < ((s).length : Int))) rfl (fun hc6 => ?_) (fun hc6 => ?_)
  · try simp only [decide_eq_true_eq, decide_eq_false_iff_not, Bool.and_eq_true, Bool.or_eq_true, Bool.and_eq_false_iff, Bool.or_eq_false_iff, Bool.not_eq_true', Bool.not_eq_false', beq_iff_eq, bne_iff_ne, ne_eq, beq_eq_false_iff_ne, bne_eq_false_iff_eq, gt_iff_lt, ge_iff_le, Int.not_lt, Int.not_le] at hc6
    refine wp_skip ?_
    refine n_then ?_
    refine wp_seq ?_
    refine wp_block ?_
    refine wp_seq ?_
    refine r_start ?_
    refine l_v (v := .string ⟨(s).toArray⟩) rfl rfl (by kernel_rfl) ?_
    refine l_v (v := .int .i64 ((i : Nat) : Int)) rfl rfl (by kernel_rfl) ?_
    refine l_v (v := .int .u8 (((s.getD (i) 0).toNat : Int))) rfl rfl (r_idx (j := i) rfl rfl rfl Tryz.underlying9 (by omega) (getD_at (by omega))) ?_
    refine l_v (v := .bool (((((s.getD (i) 0).toNat : Int)) == (10 : Int)))) rfl rfl (by kernel_rfl) ?_
    refine l_nil ?_
    refine n_then ?_
    refine c_cond (e := ((((s.getD (i) 0).toNat : Int)) == (10 : Int))) rfl (fun hc7 => ?_) (fun hc7 => ?_)
    · try simp only [decide_eq_true_eq, decide_eq_false_iff_not, Bool.and_eq_true, Bool.or_eq_true, Bool.and_eq_false_iff, Bool.or_eq_false_iff, Bool.not_eq_true', Bool.not_eq_false', beq_iff_eq, bne_iff_ne, ne_eq, beq_eq_false_iff_ne, bne_eq_false_iff_eq, gt_iff_lt, ge_iff_le, Int.not_lt, Int.not_le] at hc7
      have h10 : s.getD i 0 = 10 := (u8_eq (n := 10) (by omega)).1 (by omega)
      refine wp_seq ?_
      refine r_start ?_
      refine l_v (v := v4) rfl rfl (by kernel_rfl) ?_
      refine l_v (v := .string ⟨(s).toArray⟩) rfl rfl (by kernel_rfl) ?_
      refine l_v (v := .int .i64 ((fr : Nat) : Int)) rfl rfl (by kernel_rfl) ?_
      refine l_v (v := .int .i64 ((i : Nat) : Int)) rfl rfl (by kernel_rfl) ?_
      refine l_v (v := .string ⟨((s.drop (fr)).take (i - (fr))).toArray⟩) rfl rfl (r_slohi (j := fr) (j' := i) rfl rfl rfl rfl Tryz.underlying9 (by omega) (by omega) (by omega) (by omega)) ?_
      refine l_new (fun k_ => .slice (some ⟨k_, 0, none⟩) 1 1) rfl rfl (by kernel_rfl) (ob := .cells #[.string ⟨((s.drop (fr)).take (i - (fr))).toArray⟩] 9) (fun k8 w9 n10 => ?_)
      have n10k := n10.hk; have n10z := n10.sz
      have hd11 := ho.fr0 ((Fr.refl [] wr1).trans n10.fr)
      have hlt4 := OwnK.lt hd11
      obtain ⟨css, hown, hnext⟩ := OwnK.push hd11
      have hE12 : Fr [] w w9 := (hE5.trans n10.fr)
      have hE12z := hE12.size
      refine l_append (v := v4) (base := w.heap.size) (news := [.string ⟨((s.drop (fr)).take (i - (fr))).toArray⟩]) sl57 rfl rfl rfl rfl hown rfl rfl (range_at n10.at_ rfl) (by simp [Value.oneCell']) (by omega) (by decide) (by omega) (fun v13 w14 a15 => ?_)
      have a15z := a15.fr.size
      have ho2 := hnext _ ((s.drop fr).take (i - (fr))) _ _ a15 rfl (fun _ h_ => h_.elim)
      refine l_v (v := v13) rfl rfl (by kernel_rfl) ?_
      refine l_nil ?_
      refine n_then ?_
      refine r_start ?_
      refine l_v (v := .int .i64 ((i : Nat) : Int)) rfl rfl (by kernel_rfl) ?_
      refine l_v (v := .int .i64 (((i : Nat) : Int) + 1)) rfl rfl (r_add (r := ((i : Nat) : Int) + 1) rfl rfl rfl (by omega) (by simp only [min_i64]; omega) (by simp only [max_i64]; omega)) ?_
      refine l_v (v := .int .i64 (((i : Nat) : Int) + 1)) rfl rfl (by kernel_rfl) ?_
      refine l_nil ?_
      refine n_block ?_
      refine n_then ?_
      refine r_start ?_
      refine l_v (v := .int .i64 ((i : Nat) : Int)) rfl rfl (by kernel_rfl) ?_
      refine l_v (v := .int .i64 (((i : Nat) : Int) + 1)) rfl rfl (r_add (r := ((i : Nat) : Int) + 1) rfl rfl rfl (by omega) (by simp only [min_i64]; omega) (by simp only [max_i64]; omega)) ?_
      refine l_v (v := .int .i64 (((i : Nat) : Int) + 1)) rfl rfl (by kernel_rfl) ?_
      refine l_nil ?_
      refine n_then ?_
      have hE16 : Fr [] w w14 := (Fr.step hE12 a15.fr (own_ge hown (by omega)))
      have hE16z := hE16.size
      exact hK2 _ _ _ (by omega) ⟨_, (i + 1), (i + 1), v13, (ls ++ [(s.drop fr).take (i - fr)]), mk_eq (by kernel_rfl), rfl, hE16, (by omega), (by omega), (by simp only [List.length_append, List.length_cons, List.length_nil]; omega), ho2, (lines_step hln hfr (by omega) hn10 h10), (by intro j h1 h2; omega)⟩
    · try simp only [decide_eq_true_eq, decide_eq_false_iff_not, Bool.and_eq_true, Bool.or_eq_true, Bool.and_eq_false_iff, Bool.or_eq_false_iff, Bool.not_eq_true', Bool.not_eq_false', beq_iff_eq, bne_iff_ne, ne_eq, beq_eq_false_iff_ne, bne_eq_false_iff_eq, gt_iff_lt, ge_iff_le, Int.not_lt, Int.not_le] at hc7
      have hn2 : ∀ j, fr ≤ j → j < i + 1 → s.getD j 0 ≠ 10 := by
        intro j h1 h2
        by_cases hj : j = i
        · rw [hj]; exact fun hh_ => by have h2_ := (u8_eq (x := s.getD i 0) (n := 10) (by omega)).2 hh_; omega
        · exact hn10 j h1 (by omega)
      refine wp_skip ?_
      refine n_block ?_
      refine n_then ?_
      refine r_start ?_
      refine l_v (v := .int .i64 ((i : Nat) : Int)) rfl rfl (by kernel_rfl) ?_
      refine l_v (v := .int .i64 (((i : Nat) : Int) + 1)) rfl rfl (r_add (r := ((i : Nat) : Int) + 1) rfl rfl rfl (by omega) (by simp only [min_i64]; omega) (by simp only [max_i64]; omega)) ?_
      refine l_v (v := .int .i64 (((i : Nat) : Int) + 1)) rfl rfl (by kernel_rfl) ?_
      refine l_nil ?_
      refine n_then ?_
      exact hK2 _ _ _ (by omega) ⟨_, (i + 1), fr, v4, ls, mk_eq (by kernel_rfl), rfl, hE5, (by omega), (by omega), (by omega), ho, hln, hn2⟩
  · try simp only [decide_eq_true_eq, decide_eq_false_iff_not, Bool.and_eq_true, Bool.or_eq_true, Bool.and_eq_false_iff, Bool.or_eq_false_iff, Bool.not_eq_true', Bool.not_eq_false', beq_iff_eq, bne_iff_ne, ne_eq, beq_eq_false_iff_ne, bne_eq_false_iff_eq, gt_iff_lt, ge_iff_le, Int.not_lt, Int.not_le] at hc6
    have hil : i = s.length := by omega
    rw [hil] at hn10
    refine wp_exit ?_
    refine e_then ?_
    refine e_then ?_
    refine e_hit ?_
    refine n_then ?_
    refine wp_seq ?_
    refine wp_seq ?_
    refine r_start ?_
    refine l_v (v := .int .i64 ((fr : Nat) : Int)) rfl rfl (by kernel_rfl) ?_
    refine l_v (v := .string ⟨(s).toArray⟩) rfl rfl (by kernel_rfl) ?_
    refine l_v (v := .int .i64 ((s).length : Int)) rfl rfl (r_lens rfl rfl Tryz.underlying9) ?_
    refine l_v (v := .bool (decide (((fr : Nat) : Int) < ((s).length : Int)))) rfl rfl (by kernel_rfl) ?_
    refine l_nil ?_
    refine n_then ?_
    refine c_cond (e := decide (((fr : Nat) : Int) < ((s).length : Int))) rfl (fun hc17 => ?_) (fun hc17 => ?_)
    · try simp only [decide_eq_true_eq, decide_eq_false_iff_not, Bool.and_eq_true, Bool.or_eq_true, Bool.and_eq_false_iff, Bool.or_eq_false_iff, Bool.not_eq_true', Bool.not_eq_false', beq_iff_eq, bne_iff_ne, ne_eq, beq_eq_false_iff_ne, bne_eq_false_iff_eq, gt_iff_lt, ge_iff_le, Int.not_lt, Int.not_le] at hc17
      refine wp_seq ?_
      refine r_start ?_
      refine l_v (v := v4) rfl rfl (by kernel_rfl) ?_
      refine l_v (v := .string ⟨(s).toArray⟩) rfl rfl (by kernel_rfl) ?_
      refine l_v (v := .int .i64 ((fr : Nat) : Int)) rfl rfl (by kernel_rfl) ?_
      refine l_v (v := .string ⟨(s.drop (fr)).toArray⟩) rfl rfl (r_slo (j := fr) rfl rfl rfl Tryz.underlying9 (by omega) (by omega)) ?_
      refine l_new (fun k_ => .slice (some ⟨k_, 0, none⟩) 1 1) rfl rfl (by kernel_rfl) (ob := .cells #[.string ⟨(s.drop (fr)).toArray⟩] 9) (fun k18 w19 n20 => ?_)
      have n20k := n20.hk; have n20z := n20.sz
      have hd21 := ho.fr0 ((Fr.refl [] wr1).trans n20.fr)
      have hlt4 := OwnK.lt hd21
      obtain ⟨css, hown, hnext⟩ := OwnK.push hd21
      have hE22 : Fr [] w w19 := (hE5.trans n20.fr)
      have hE22z := hE22.size
      refine l_append (v := v4) (base := w.heap.size) (news := [.string ⟨(s.drop (fr)).toArray⟩]) sl57 rfl rfl rfl rfl hown rfl rfl (range_at n20.at_ rfl) (by simp [Value.oneCell']) (by omega) (by decide) (by omega) (fun v23 w24 a25 => ?_)
      have a25z := a25.fr.size
      have ho2 := hnext _ (s.drop (fr)) _ _ a25 rfl (fun _ h_ => h_.elim)
      have hend := lines_rest hln (by omega) hn10
      refine l_v (v := v23) rfl rfl (by kernel_rfl) ?_
      refine l_v (v := .bool false) rfl rfl (by kernel_rfl) ?_
      refine l_nil ?_
      refine n_then ?_
      refine wp_ret ?_
      refine t_then ?_
      have hE26 : Fr [] w w24 := (Fr.step hE22 a25.fr (own_ge hown (by omega)))
      have hE26z := hE26.size
      exact end_ret (v := .tuple #[v23, .bool false]) (res2 rfl rfl rfl) ⟨_, rfl, ⟨_, by rw [hend], by rw [hend]; exact OwnK.sl ho2, hE26⟩⟩
    · try simp only [decide_eq_true_eq, decide_eq_false_iff_not, Bool.and_eq_true, Bool.or_eq_true, Bool.and_eq_false_iff, Bool.or_eq_false_iff, Bool.not_eq_true', Bool.not_eq_false', beq_iff_eq, bne_iff_ne, ne_eq, beq_eq_false_iff_ne, bne_eq_false_iff_eq, gt_iff_lt, ge_iff_le, Int.not_lt, Int.not_le] at hc17
      have hend := lines_all hln (by omega)
      refine wp_skip ?_
      refine n_then ?_
      refine wp_seq ?_
      refine r_start ?_
      refine l_v (v := v4) rfl rfl (by kernel_rfl) ?_
      refine l_v (v := v4) rfl rfl (by kernel_rfl) ?_
      refine l_v (v := .bool true) rfl rfl (by kernel_rfl) ?_
      refine l_nil ?_
      refine n_then ?_
      refine wp_ret ?_
      exact end_ret (v := .tuple #[v4, .bool true]) (res2 rfl rfl rfl) ⟨_, rfl, ⟨_, by rw [hend], by rw [hend]; exact OwnK.sl ho, hE5⟩⟩

/-- ref31.ParseRows -/
theorem rParseRows_calls (w : World) (s : List UInt8) (hl : s.length ≤ 1048576) :
    Does Tryz.prog 10 #[.string ⟨(s).toArray⟩] w fun r w' => ∃ v, r = .tuple #[v, .int .i64 (parseT parseRw s).2.1, .int .i64 (parseT parseRw s).2.2] ∧ Sl Rp.rw (fun g => w.heap.size ≤ g) w' v (parseT parseRw s).1 ∧ Fr [] w w' := by
  refine Does.of (fn_in (l := [.string ⟨(s).toArray⟩]) Tryz.func10 rfl Tryz.ntmps10 rfl ?_)
  refine wp_seq ?_
  refine r_start ?_
  refine l_v (v := .slice none 0 0) rfl rfl (by kernel_rfl) ?_
  refine l_v (v := .int .i64 0) rfl rfl (by kernel_rfl) ?_
  refine l_v (v := .int .i64 0) rfl rfl (by kernel_rfl) ?_
  refine l_nil ?_
  refine n_then ?_
  refine wp_seq ?_
  refine wp_seq ?_
  refine r_start ?_
  refine l_v (v := .string ⟨(s).toArray⟩) rfl rfl (by kernel_rfl) ?_
  refine l_v (v := .int .i64 ((s).length : Int)) rfl rfl (r_lens rfl rfl Tryz.underlying9) ?_
  refine l_v (v := .bool (decide (((s).length : Int) > (65536 : Int)))) rfl rfl (by kernel_rfl) ?_
  refine l_nil ?_
  refine n_then ?_
  refine c_cond (e := decide (((s).length : Int) > (65536 : Int))) rfl (fun hc1 => ?_) (fun hc1 => ?_)
  · try simp only [decide_eq_true_eq, decide_eq_false_iff_not, Bool.and_eq_true, Bool.or_eq_true, Bool.and_eq_false_iff, Bool.or_eq_false_iff, Bool.not_eq_true', Bool.not_eq_false', beq_iff_eq, bne_iff_ne, ne_eq, beq_eq_false_iff_ne, bne_eq_false_iff_eq, gt_iff_lt, ge_iff_le, Int.not_lt, Int.not_le] at hc1
    refine wp_seq ?_
    refine r_start ?_
    refine l_v (v := .slice none 0 0) rfl rfl (by kernel_rfl) ?_
    refine l_v (v := .int .i64 0) rfl rfl (by kernel_rfl) ?_
    refine l_v (v := .int .i64 3) rfl rfl (by kernel_rfl) ?_
    refine l_nil ?_
    refine n_then ?_
    refine wp_ret ?_
    refine t_then ?_
    have hlong : parseT parseRw s = ([], 0, 3) := if_pos (by omega)
    exact end_ret (v := .tuple #[.slice none 0 0, .int .i64 0, .int .i64 3]) (res3 rfl rfl rfl rfl) ⟨_, rfl, ⟨_, by rw [hlong], by rw [hlong]; exact Sl.nil _ _ _, (Fr.refl [] w)⟩⟩
  · try simp only [decide_eq_true_eq, decide_eq_false_iff_not, Bool.and_eq_true, Bool.or_eq_true, Bool.and_eq_false_iff, Bool.or_eq_false_iff, Bool.not_eq_true', Bool.not_eq_false', beq_iff_eq, bne_iff_ne, ne_eq, beq_eq_false_iff_ne, bne_eq_false_iff_eq, gt_iff_lt, ge_iff_le, Int.not_lt, Int.not_le] at hc1
    have hshort : parseT parseRw s = prs parseRw s.length s [] := if_neg (by omega)
    refine wp_skip ?_
    refine n_then ?_
    refine wp_seq ?_
    refine r_start ?_
    refine l_v (v := .string ⟨(s).toArray⟩) rfl rfl (by kernel_rfl) ?_
    refine l_call rfl rfl (r_call (args := #[.string ⟨(s).toArray⟩]) rfl e22 (am rfl)) (rLines_calls w s (by omega)) (fun v3 w4 h2 => ?_)
    have hcnt := linesL_count s.length s (Nat.le_refl _)
    have hrp := rprs_eq parseRw s.length s [] (Nat.le_refl _)
    obtain ⟨X, hX⟩ : ∃ x_, linesX s = x_ := ⟨_, rfl⟩
    have hX2 : linesL s.length s = X := hX
    rw [hX2] at hcnt hrp
    rw [hX] at h2
    obtain ⟨h2v, rfl, ⟨h2A, h2c, rfl, h2l, h2E⟩, h2f⟩ := h2
    have h2z := h2f.size
    have h2E4 := El.weak (ok' := fun g => g < w4.heap.size) h2E (fun g hg_ _ => hg_)
    refine l_v (v := .tuple #[.slice h2A ((X.1).length) h2c, .bool X.2]) rfl rfl (by kernel_rfl) ?_
    refine l_v (v := .slice h2A ((X.1).length) h2c) rfl rfl (by kernel_rfl) ?_
    refine l_v (v := .bool X.2) rfl rfl (by kernel_rfl) ?_
    refine l_v (v := .slice h2A ((X.1).length) h2c) rfl rfl (by kernel_rfl) ?_
    refine l_v (v := .bool X.2) rfl rfl (by kernel_rfl) ?_
    refine l_nil ?_
    refine n_then ?_
    refine wp_seq ?_
    refine r_start ?_
    refine l_v (v := .slice none 0 0) rfl rfl (by kernel_rfl) ?_
    refine l_nil ?_
    refine n_then ?_
    refine wp_seq ?_
    refine wp_seq ?_
    refine r_start ?_
    refine l_v (v := .int .i64 0) rfl rfl (by kernel_rfl) ?_
    refine l_nil ?_
    refine n_then ?_
    refine wp_block ?_
    have hE9 : Fr [] w w4 := ((Fr.refl [] w).trans h2f)
    have hE9z := hE9.size
    refine c_loop (fun m_ a_ w_ => ∃ u_ : Nat → Value, ∃ i : Nat, ∃ v7 : Value, ∃ acc : List Rw, a_ = mk [] 53 u_ [(7, v7), (8, .int .i64 ((i : Nat) : Int)), (0, .string ⟨(s).toArray⟩), (5, .slice h2A ((X.1).length) h2c), (6, .bool X.2), (11, .string ⟨(s).toArray⟩), (12, .int .i64 ((s).length : Int)), (13, .bool (decide (((s).length : Int) > (65536 : Int)))), (14, .tuple #[.slice h2A ((X.1).length) h2c, .bool X.2]), (15, .string ⟨(s).toArray⟩), (16, .tuple #[.slice h2A ((X.1).length) h2c, .bool X.2]), (17, .slice h2A ((X.1).length) h2c), (18, .bool X.2)] ∧ m_ = (X.1).length - i ∧ Fr [] w w_ ∧ (i ≤ (X.1).length) ∧ (acc.length = i) ∧ (OwnL Rp.rw w4.heap.size 54 [] w_ v7 acc) ∧ (prs parseRw s.length s [] = rprs parseRw X.2 (X.1.drop i) acc) ∧ (El Rp.str (fun g => g < w4.heap.size) w_ h2A X.1) ∧ (w4.heap.size ≤ w_.heap.size)) ((X.1).length - 0) ⟨_, 0, .slice none 0 0, [], mk_eq (by kernel_rfl), rfl, hE9, Nat.zero_le _, rfl, OwnL.nil _ _ _ _ _, by rw [← hrp]; rfl, h2E4, (by omega)⟩ ?_
    rintro m7 _ wr5 ⟨u_, i, v7, acc, rfl, hm8, hE10, hi, hai, ho, hpr, hel_, hw4_⟩ K_ hK6
    have hE10z := hE10.size
    have hXl := hcnt.1
    refine wp_seq ?_
    refine wp_seq ?_
    refine r_start ?_
    refine l_v (v := .int .i64 ((i : Nat) : Int)) rfl rfl (by kernel_rfl) ?_
    refine l_v (v := .slice h2A ((X.1).length) h2c) rfl rfl (by kernel_rfl) ?_
    refine l_v (v := .int .i64 ((((X.1).length : Nat) : Int))) rfl rfl (r_len rfl rfl Tryz.underlying57) ?_
    refine l_v (v := .bool (decide (((i : Nat) : Int) < ((((X.1).length : Nat) : Int))))) rfl rfl (by kernel_rfl) ?_
    refine l_nil ?_
    refine n_then ?_
    refine c_cond (e := decide (((i : Nat) : Int) < ((((X.1).length : Nat) : Int)))) rfl (fun hc11 => ?_) (fun hc11 => ?_)
    · try simp only [decide_eq_true_eq, decide_eq_false_iff_not, Bool.and_eq_true, Bool.or_eq_true, Bool.and_eq_false_iff, Bool.or_eq_false_iff, Bool.not_eq_true', Bool.not_eq_false', beq_iff_eq, bne_iff_ne, ne_eq, beq_eq_false_iff_ne, bne_eq_false_iff_eq, gt_iff_lt, ge_iff_le, Int.not_lt, Int.not_le] at hc11
      refine wp_skip ?_
      refine n_then ?_
      refine wp_seq ?_
      refine wp_block ?_
      refine wp_seq ?_
      refine r_start ?_
      refine l_v (v := .slice h2A ((X.1).length) h2c) rfl rfl (by kernel_rfl) ?_
      refine l_v (v := .int .i64 ((i : Nat) : Int)) rfl rfl (by kernel_rfl) ?_
      obtain ⟨x12, g13, off14, cs15, hx16, hA17, hg18, hl19, hK20, hr21⟩ := El.get hel_ (i := i) (by omega)
      obtain rfl : cs15 = [.string ⟨x12.toArray⟩] := hK20
      refine l_v (v := .pointer (some ⟨g13, off14 + i * 1, none⟩)) rfl rfl (r_elemn rfl rfl rfl hA17 Tryz.underlying57 (by kernel_rfl) (by omega)) ?_
      refine l_v (v := .string ⟨(x12).toArray⟩) rfl rfl (r_load rfl rfl Tryz.underlying9 rfl (range_get (j := 0) hr21 rfl)) ?_
      have hxl_ : x12.length ≤ 1048576 := by have h_ := hcnt.2 x12 (List.mem_of_getElem? hx16); omega
      refine l_call rfl rfl (r_call (args := #[.string ⟨(x12).toArray⟩]) rfl e23 (am rfl)) (rRow_calls wr5 x12 (by omega)) (fun v23 w24 h22 => ?_)
      obtain ⟨h22c, h22x, h22K, rfl, h22v, h22f⟩ := h22
      have h22z := h22f.size
      obtain ⟨A25, c26, rfl, _⟩ := id h22K
      refine l_v (v := .tuple #[.agg #[.int .i64 h22x.kind, .int .i64 h22x.err, .int .i64 h22x.conn, .int .i64 h22x.n, .slice A25 h22x.data.length c26, .bool h22x.ended], .bool ((parseRw x12).isSome)]) rfl rfl (by kernel_rfl) ?_
      refine l_v (v := .agg #[.int .i64 h22x.kind, .int .i64 h22x.err, .int .i64 h22x.conn, .int .i64 h22x.n, .slice A25 h22x.data.length c26, .bool h22x.ended]) rfl rfl (by kernel_rfl) ?_
      refine l_v (v := .bool ((parseRw x12).isSome)) rfl rfl (by kernel_rfl) ?_
      refine l_new (fun k_ => .pointer (some ⟨k_, 0, none⟩)) rfl rfl (by kernel_rfl) (ob := .cells #[.int .i64 0, .int .i64 0, .int .i64 0, .int .i64 0, .slice none 0 0, .bool false] 54) (fun k27 w28 n29 => ?_)
      have hE30 : Fr [] w w24 := (hE10.trans h22f)
      have hE30z := hE30.size
      have n29k := n29.hk; have n29z := n29.sz
      refine l_store rfl rfl rfl (g := k27) (off := 0) (v := .agg #[.int .i64 h22x.kind, .int .i64 h22x.err, .int .i64 h22x.conn, .int .i64 h22x.n, .slice A25 h22x.data.length c26, .bool h22x.ended]) (arr := #[.int .i64 h22x.kind, .int .i64 h22x.err, .int .i64 h22x.conn, .int .i64 h22x.n, .slice A25 h22x.data.length c26, .bool h22x.ended]) rfl rfl (by kernel_rfl) n29.at_ rfl (by simp [Value.cells, Value.oneCell']) rfl (fun w31 p32 => ?_)
      have p32z := p32.sz
      refine l_v (v := .bool ((parseRw x12).isSome)) rfl rfl (by kernel_rfl) ?_
      refine l_nil ?_
      refine n_then ?_
      refine wp_seq ?_
      refine wp_seq ?_
      refine r_start ?_
      refine l_v (v := .bool ((parseRw x12).isSome)) rfl rfl (by kernel_rfl) ?_
      refine l_v (v := .bool ((!((parseRw x12).isSome)))) rfl rfl (by kernel_rfl) ?_
      refine l_v (v := .bool ((!((parseRw x12).isSome)))) rfl rfl (by kernel_rfl) ?_
      refine l_g (v := .bool X.2) (want_1 rfl rfl rfl rfl) rfl (fun hW_ => (by kernel_rfl)) ?_
      refine l_g (v := .bool (!X.2)) (want_1 rfl rfl rfl rfl) rfl (fun hW_ => (r_not rfl (gd_true hW_ _))) ?_
      refine l_g (v := .bool (!X.2)) (want_1 rfl rfl rfl rfl) rfl (fun hW_ => (r_mv rfl (gd_true hW_ _))) ?_
      refine l_g (v := .int .i64 ((i : Nat) : Int)) (want_of rfl rfl rfl rfl) rfl (fun hW_ => (by kernel_rfl)) ?_
      refine l_g (v := .slice h2A ((X.1).length) h2c) (want_of rfl rfl rfl rfl) rfl (fun hW_ => (by kernel_rfl)) ?_
      refine l_g (v := .int .i64 ((((X.1).length : Nat) : Int))) (want_of rfl rfl rfl rfl) rfl (fun hW_ => (r_len rfl (gd_true hW_ _) Tryz.underlying57)) ?_
      refine l_g (v := .int .i64 (((((X.1).length : Nat) : Int)) - 1)) (want_of rfl rfl rfl rfl) rfl (fun hW_ => (r_sub (r := ((((X.1).length : Nat) : Int)) - 1) rfl (gd_true hW_ _) rfl (by omega) (by simp only [min_i64]; omega) (by simp only [max_i64]; omega))) ?_
      refine l_g (v := .bool ((((i : Nat) : Int) == (((((X.1).length : Nat) : Int)) - 1)))) (want_of rfl rfl rfl rfl) rfl (fun hW_ => (r_cmp rfl (gd_true hW_ _) (gd_true hW_ _) rfl)) ?_
      refine l_g (v := .bool (((!X.2) && ((((i : Nat) : Int) == (((((X.1).length : Nat) : Int)) - 1)))))) (want_1 rfl rfl rfl rfl) rfl (fun hW_ => (r_pick rfl (gd_true hW_ _) (pick_and' hW_ _ _))) ?_
      refine l_v (v := .bool ((((!((parseRw x12).isSome))) || (((!X.2) && ((((i : Nat) : Int) == (((((X.1).length : Nat) : Int)) - 1)))))))) rfl rfl (r_pick rfl rfl (pick_or _ _)) ?_
      refine l_nil ?_
      refine n_then ?_
      refine c_cond (e := (((!((parseRw x12).isSome))) || (((!X.2) && ((((i : Nat) : Int) == (((((X.1).length : Nat) : Int)) - 1))))))) rfl (fun hc33 => ?_) (fun hc33 => ?_)
      · have hfin : prs parseRw s.length s [] = ([], (acc.length : Int) + 1, 5) := by
          rw [hpr]
          cases hq_ : parseRw x12 with
          | none => exact rprs_none hx16 hq_
          | some e_ =>
            rw [hq_] at hc33
            have hz_ : X.2 = false ∧ (i : Int) = ((X.1).length : Int) - 1 := by simpa using hc33
            rw [hz_.1]
            exact rprs_last hx16 hq_ (by omega)
        refine wp_seq ?_
        refine r_start ?_
        refine l_v (v := .int .i64 ((i : Nat) : Int)) rfl rfl (by kernel_rfl) ?_
        refine l_v (v := .int .i64 (((i : Nat) : Int) + 1)) rfl rfl (r_add (r := ((i : Nat) : Int) + 1) rfl rfl rfl (by omega) (by simp only [min_i64]; omega) (by simp only [max_i64]; omega)) ?_
        refine l_v (v := .slice none 0 0) rfl rfl (by kernel_rfl) ?_
        refine l_v (v := .int .i64 (((i : Nat) : Int) + 1)) rfl rfl (by kernel_rfl) ?_
        refine l_v (v := .int .i64 5) rfl rfl (by kernel_rfl) ?_
        refine l_nil ?_
        refine n_then ?_
        refine wp_ret ?_
        refine t_then ?_
        refine t_block ?_
        refine t_then ?_
        refine t_then ?_
        refine t_block ?_
        refine t_then ?_
        subst hai
        have hE34 : Fr [] w w31 := (Fr.step (hE30.trans n29.fr) p32.fr (by intro k_ hk_; simp only [List.mem_singleton] at hk_; omega))
        have hE34z := hE34.size
        exact end_ret (v := .tuple #[.slice none 0 0, .int .i64 (((acc.length : Nat) : Int) + 1), .int .i64 5]) (res3 rfl rfl rfl rfl) ⟨_, rfl, ⟨_, by rw [hshort, hfin], by rw [hshort, hfin]; exact Sl.nil _ _ _, hE34⟩⟩
      · have hsome_ : ∃ e_, parseRw x12 = some e_ := by
          cases hq_ : parseRw x12 with
          | none => rw [hq_] at hc33; simp at hc33
          | some e_ => exact ⟨e_, rfl⟩
        obtain ⟨e_, he_⟩ := hsome_
        have hxe_ := h22v e_ he_
        rw [← hxe_] at he_
        have hnl_ : ¬ (X.2 = false ∧ i + 1 = (X.1).length) := by
          rintro ⟨h1_, h2_⟩
          rw [he_, h1_] at hc33
          simp at hc33
          omega
        refine wp_skip ?_
        refine n_then ?_
        refine r_start ?_
        refine l_v (v := v7) rfl rfl (by kernel_rfl) ?_
        refine l_v (v := .agg #[.int .i64 h22x.kind, .int .i64 h22x.err, .int .i64 h22x.conn, .int .i64 h22x.n, .slice A25 h22x.data.length c26, .bool h22x.ended]) rfl rfl (r_loads (cs := [.int .i64 h22x.kind, .int .i64 h22x.err, .int .i64 h22x.conn, .int .i64 h22x.n, .slice A25 h22x.data.length c26, .bool h22x.ended]) rfl rfl Tryz.underlying54 rfl (by kernel_rfl) (range_at p32.at_ rfl)) ?_
        refine l_new (fun k_ => .slice (some ⟨k_, 0, none⟩) 1 1) rfl rfl (by kernel_rfl) (ob := .cells #[.int .i64 h22x.kind, .int .i64 h22x.err, .int .i64 h22x.conn, .int .i64 h22x.n, .slice A25 h22x.data.length c26, .bool h22x.ended] 54) (fun k35 w36 n37 => ?_)
        have hE38 : Fr [] w w31 := (Fr.step (hE30.trans n29.fr) p32.fr (by intro k_ hk_; simp only [List.mem_singleton] at hk_; omega))
        have hE38z := hE38.size
        have n37k := n37.hk; have n37z := n37.sz
        have hd39 := ho.fr0 ((Fr.step (((Fr.refl [] wr5).trans h22f).trans n29.fr) p32.fr (by intro k_ hk_; simp only [List.mem_singleton] at hk_; omega)).trans n37.fr)
        have hd40 := h22K.fr0 ((Fr.step ((Fr.refl [] w24).trans n29.fr) p32.fr (by intro k_ hk_; simp only [List.mem_singleton] at hk_; omega)).trans n37.fr)
        obtain ⟨css, hown, hnext⟩ := OwnL.own hd39
        have hE41 : Fr [] w w36 := (hE38.trans n37.fr)
        have hE41z := hE41.size
        refine l_append (v := v7) (base := w4.heap.size) (news := [.int .i64 h22x.kind, .int .i64 h22x.err, .int .i64 h22x.conn, .int .i64 h22x.n, .slice A25 h22x.data.length c26, .bool h22x.ended]) sl28 rfl rfl rfl rfl hown rfl rfl (range_at n37.at_ rfl) (by simp [Value.oneCell']) (by omega) (by decide) (by omega) (fun v42 w43 a44 => ?_)
        have a44z := a44.fr.size
        have ho2 := hnext _ h22x _ _ a44 (RwK_weak hd40 (fun g hg hgo => ⟨by have h_ : wr5.heap.size ≤ g := hgo; omega, by simp, fun hc_ => by have h_ := (ho.lt_own g hc_); have h2_ : wr5.heap.size ≤ g := hgo; omega⟩)) (by simp)
        refine l_v (v := v42) rfl rfl (by kernel_rfl) ?_
        refine l_nil ?_
        refine n_block ?_
        refine n_then ?_
        refine r_start ?_
        refine l_v (v := .int .i64 ((i : Nat) : Int)) rfl rfl (by kernel_rfl) ?_
        refine l_v (v := .int .i64 (((i : Nat) : Int) + 1)) rfl rfl (r_add (r := ((i : Nat) : Int) + 1) rfl rfl rfl (by omega) (by simp only [min_i64]; omega) (by simp only [max_i64]; omega)) ?_
        refine l_v (v := .int .i64 (((i : Nat) : Int) + 1)) rfl rfl (by kernel_rfl) ?_
        refine l_nil ?_
        refine n_then ?_
        have hd45 := (((((hel_.fr0 h22f).fr0 n29.fr).fr p32.fr (by intro g_ hg_; have h2_ : g_ < w4.heap.size := hg_; simp only [List.mem_singleton]; omega)).fr0 n37.fr).fr a44.fr (by intro g_ hg_ hm_; have h1_ := (hown.lt g_ (by simpa using hm_)).1; have h2_ : g_ < w4.heap.size := hg_; omega))
        have hE46 : Fr [] w w43 := (Fr.step hE41 a44.fr (own_ge hown (by omega)))
        have hE46z := hE46.size
        exact hK6 _ _ _ (by omega) ⟨_, (i + 1), v42, (acc ++ [h22x]), mk_eq (by kernel_rfl), rfl, hE46, (by omega), (by simp only [List.length_append, List.length_cons, List.length_nil]; omega), ho2, (by rw [hpr, rprs_some hx16 he_ hnl_]), hd45, (by omega)⟩
    · try simp only [decide_eq_true_eq, decide_eq_false_iff_not, Bool.and_eq_true, Bool.or_eq_true, Bool.and_eq_false_iff, Bool.or_eq_false_iff, Bool.not_eq_true', Bool.not_eq_false', beq_iff_eq, bne_iff_ne, ne_eq, beq_eq_false_iff_ne, bne_eq_false_iff_eq, gt_iff_lt, ge_iff_le, Int.not_lt, Int.not_le] at hc11
      have hil : i = (X.1).length := by omega
      have hfin : prs parseRw s.length s [] = (acc, 0, 0) := by rw [hpr, List.drop_eq_nil_of_le (by omega)]; rfl
      refine wp_exit ?_
      refine e_then ?_
      refine e_then ?_
      refine e_hit ?_
      refine n_then ?_
      refine wp_seq ?_
      refine r_start ?_
      refine l_v (v := v7) rfl rfl (by kernel_rfl) ?_
      refine l_v (v := v7) rfl rfl (by kernel_rfl) ?_
      refine l_v (v := .int .i64 0) rfl rfl (by kernel_rfl) ?_
      refine l_v (v := .int .i64 0) rfl rfl (by kernel_rfl) ?_
      refine l_nil ?_
      refine n_then ?_
      refine wp_ret ?_
      exact end_ret (v := .tuple #[v7, .int .i64 0, .int .i64 0]) (res3 rfl rfl rfl rfl) ⟨_, rfl, ⟨_, by rw [hshort, hfin], by rw [hshort, hfin]; exact Sl.weak (OwnL.sl ho) (fun g_ _ hg_ => by have h_ : w4.heap.size ≤ g_ := hg_; show w.heap.size ≤ g_; omega), hE10⟩⟩

end Go.Proofs.YtmhljojgdfmjaaaGreatDoor
