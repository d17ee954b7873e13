/- walks -/
import Derived.Test.YtmhljojgdfmjaaaGreatDoorMem
import Derived.Test.YtmhljojgdfmjaaaGreatDoorEngD
import Derived.Test.YtmhljojgdfmjaaaGreatDoorRef
namespace Go.Proofs.YtmhljojgdfmjaaaGreatDoor
open Go.E
set_option linter.unusedVariables false
set_option linter.unusedSimpArgs false
set_option maxRecDepth 100000
set_option maxHeartbeats 1000000
open Go.Sh
/-- the digits ahead of the last one -/
def preD (u : Nat) : List UInt8 := if u < 10 then [] else Lib.decDigits (u / 10)
theorem preD_eq (u : Nat) : Lib.decDigits u = preD u ++ [UInt8.ofNat (48 + u % 10)] := by
  unfold preD
  split
  · rename_i h; rw [Lib.decDigits, dif_pos h, Nat.mod_eq_of_lt h]; rfl
  · rename_i h; conv => lhs; rw [Lib.decDigits, dif_neg h]
theorem preD_big {u : Nat} (h : 9 < u) : preD u = Lib.decDigits (u / 10) := if_neg (by omega)
theorem preD_small {u : Nat} (h : u ≤ 9) : preD u = [] := if_pos (by omega)
theorem itoa_negS {m : Int} (h : m < 0) : Lib.itoa m = 45 :: Lib.decDigits m.natAbs := if_pos h
theorem itoa_posS {m : Int} (h : 0 ≤ m) : Lib.itoa m = Lib.decDigits m.natAbs := by
  unfold Lib.itoa; rw [if_neg (by omega), show m.toNat = m.natAbs by omega]
/-- ref31.Name -/
theorem rName_calls (w : World) (k : Int) (hk : i64 k) :
    Does Tryz.prog 36 #[.int .i64 k] w fun r w' => r = .string ⟨(nameL k).toArray⟩ ∧ Fr [] w w' := by
  unfold i64 at hk
  refine Does.of (fn_in (l := [.int .i64 k]) Tryz.func36 rfl Tryz.ntmps36 rfl ?_)
  refine wp_seq ?_
  refine r_start ?_
  refine l_v (v := .string ⟨([] : List UInt8).toArray⟩) rfl rfl (by kernel_rfl) ?_
  refine l_nil ?_
  refine n_then ?_
  refine wp_seq ?_
  refine r_start ?_
  refine l_v (v := .agg #[.string ⟨([] : List UInt8).toArray⟩, .string ⟨([99, 111, 110, 110, 101, 99, 116] : List UInt8).toArray⟩, .string ⟨([112, 117, 115, 104] : List UInt8).toArray⟩, .string ⟨([99, 108, 111, 115, 101] : List UInt8).toArray⟩, .string ⟨([116, 105, 99, 107] : List UInt8).toArray⟩, .string ⟨([115, 116, 101, 112] : List UInt8).toArray⟩, .string ⟨([113, 117, 111, 116, 97] : List UInt8).toArray⟩, .string ⟨([102, 117, 115, 101] : List UInt8).toArray⟩, .string ⟨([99, 114, 97, 115, 104] : List UInt8).toArray⟩, .string ⟨([111, 112, 101, 110] : List UInt8).toArray⟩]) rfl rfl (by kernel_rfl) ?_
  refine l_new (fun k_ => .pointer (some ⟨k_, 0, none⟩)) rfl rfl (by kernel_rfl) (ob := .cells #[.string ⟨([] : List UInt8).toArray⟩, .string ⟨([] : List UInt8).toArray⟩, .string ⟨([] : List UInt8).toArray⟩, .string ⟨([] : List UInt8).toArray⟩, .string ⟨([] : List UInt8).toArray⟩, .string ⟨([] : List UInt8).toArray⟩, .string ⟨([] : List UInt8).toArray⟩, .string ⟨([] : List UInt8).toArray⟩, .string ⟨([] : List UInt8).toArray⟩, .string ⟨([] : List UInt8).toArray⟩] 106) (fun k1 w2 n3 => ?_)
  have n3k := n3.hk; have n3z := n3.sz
  refine l_store rfl rfl rfl (g := k1) (off := 0) (v := .agg #[.string ⟨([] : List UInt8).toArray⟩, .string ⟨([99, 111, 110, 110, 101, 99, 116] : List UInt8).toArray⟩, .string ⟨([112, 117, 115, 104] : List UInt8).toArray⟩, .string ⟨([99, 108, 111, 115, 101] : List UInt8).toArray⟩, .string ⟨([116, 105, 99, 107] : List UInt8).toArray⟩, .string ⟨([115, 116, 101, 112] : List UInt8).toArray⟩, .string ⟨([113, 117, 111, 116, 97] : List UInt8).toArray⟩, .string ⟨([102, 117, 115, 101] : List UInt8).toArray⟩, .string ⟨([99, 114, 97, 115, 104] : List UInt8).toArray⟩, .string ⟨([111, 112, 101, 110] : List UInt8).toArray⟩]) (arr := #[.string ⟨([] : List UInt8).toArray⟩, .string ⟨([99, 111, 110, 110, 101, 99, 116] : List UInt8).toArray⟩, .string ⟨([112, 117, 115, 104] : List UInt8).toArray⟩, .string ⟨([99, 108, 111, 115, 101] : List UInt8).toArray⟩, .string ⟨([116, 105, 99, 107] : List UInt8).toArray⟩, .string ⟨([115, 116, 101, 112] : List UInt8).toArray⟩, .string ⟨([113, 117, 111, 116, 97] : List UInt8).toArray⟩, .string ⟨([102, 117, 115, 101] : List UInt8).toArray⟩, .string ⟨([99, 114, 97, 115, 104] : List UInt8).toArray⟩, .string ⟨([111, 112, 101, 110] : List UInt8).toArray⟩]) rfl rfl (by kernel_rfl) n3.at_ rfl (by simp [Value.cells, Value.oneCell']) rfl (fun w4 p5 => ?_)
  have p5z := p5.sz
  refine l_nil ?_
  refine n_then ?_
  refine wp_seq ?_
  refine wp_seq ?_
  refine r_start ?_
  refine l_v (v := .int .i64 k) rfl rfl (by kernel_rfl) ?_
  refine l_v (v := .bool (decide (k < (1 : Int)))) rfl rfl (by kernel_rfl) ?_
  refine l_v (v := .bool (decide (k < (1 : Int)))) rfl rfl (by kernel_rfl) ?_
  refine l_g (v := .int .i64 k) (want_1 rfl rfl rfl rfl) rfl (fun hW_ => (by kernel_rfl)) ?_
  refine l_g (v := .bool (decide (k > (9 : Int)))) (want_1 rfl rfl rfl rfl) rfl (fun hW_ => (r_cmp rfl (gd_true hW_ _) rfl rfl)) ?_
  refine l_v (v := .bool (((decide (k < (1 : Int))) || (decide (k > (9 : Int)))))) rfl rfl (r_pick rfl rfl (pick_or _ _)) ?_
  refine l_nil ?_
  refine n_then ?_
  refine c_cond (e := ((decide (k < (1 : Int))) || (decide (k > (9 : Int))))) rfl (fun hc6 => ?_) (fun hc6 => ?_)
  · try simp only [decide_eq_true_eq, decide_eq_false_iff_not, Bool.and_eq_true, Bool.or_eq_true, Bool.and_eq_false_iff, Bool.or_eq_false_iff, Bool.not_eq_true', Bool.not_eq_false', beq_iff_eq, bne_iff_ne, ne_eq, beq_eq_false_iff_ne, bne_eq_false_iff_eq, gt_iff_lt, ge_iff_le, Int.not_lt, Int.not_le] at hc6
    refine wp_seq ?_
    refine r_start ?_
    refine l_v (v := .string ⟨([] : List UInt8).toArray⟩) rfl rfl (by kernel_rfl) ?_
    refine l_nil ?_
    refine n_then ?_
    refine wp_ret ?_
    refine t_then ?_
    have hE7 : Fr [] w w4 := (Fr.step ((Fr.refl [] w).trans n3.fr) p5.fr (by intro k_ hk_; simp only [List.mem_singleton] at hk_; omega))
    have hE7z := hE7.size
    exact end_ret (v := .string ⟨([] : List UInt8).toArray⟩) (res1 rfl rfl) ⟨_, rfl, ⟨by rw [nameL_no (by omega)], hE7⟩⟩
  · try simp only [decide_eq_true_eq, decide_eq_false_iff_not, Bool.and_eq_true, Bool.or_eq_true, Bool.and_eq_false_iff, Bool.or_eq_false_iff, Bool.not_eq_true', Bool.not_eq_false', beq_iff_eq, bne_iff_ne, ne_eq, beq_eq_false_iff_ne, bne_eq_false_iff_eq, gt_iff_lt, ge_iff_le, Int.not_lt, Int.not_le] at hc6
    obtain ⟨j, rfl⟩ := Int.eq_ofNat_of_zero_le (show 0 ≤ k by omega)
    refine wp_skip ?_
    refine n_then ?_
    refine wp_seq ?_
    refine r_start ?_
    refine l_v (v := .int .i64 ((j : Nat) : Int)) rfl rfl (by kernel_rfl) ?_
    refine l_v (v := .pointer (some ⟨k1, 0 + (j : Int).toNat * 1, none⟩)) rfl rfl (r_elema rfl rfl rfl Tryz.underlying106 (by kernel_rfl) (by omega) (by omega)) ?_
    have hcell : w4.cell? ⟨k1, 0 + (j : Int).toNat * 1, none⟩ = some (.string ⟨(nameL (j : Int)).toArray⟩) := by
      have hj_ : j = 1 ∨ j = 2 ∨ j = 3 ∨ j = 4 ∨ j = 5 ∨ j = 6 ∨ j = 7 ∨ j = 8 ∨ j = 9 := by omega
      rcases hj_ with h_ | h_ | h_ | h_ | h_ | h_ | h_ | h_ | h_ <;> subst h_ <;> exact cell_at p5.at_ rfl
    refine l_v (v := .string ⟨(nameL (j : Int)).toArray⟩) rfl rfl (r_load rfl rfl Tryz.underlying9 rfl hcell) ?_
    refine l_v (v := .string ⟨(nameL (j : Int)).toArray⟩) rfl rfl (by kernel_rfl) ?_
    refine l_nil ?_
    refine n_then ?_
    refine wp_ret ?_
    have hE8 : Fr [] w w4 := (Fr.step ((Fr.refl [] w).trans n3.fr) p5.fr (by intro k_ hk_; simp only [List.mem_singleton] at hk_; omega))
    have hE8z := hE8.size
    exact end_ret (v := .string ⟨(nameL (j : Int)).toArray⟩) (res1 rfl rfl) ⟨_, rfl, ⟨rfl, hE8⟩⟩

/-- ref31.digit -/
theorem rDigit_calls (w : World) (c : UInt8) :
    Does Tryz.prog 81 #[.int .u8 ((c).toNat : Int)] w fun r w' => r = .int .i64 (hexv c) ∧ Fr [] w w' := by
  have hct := UInt8.toNat_lt c
  have hdv := digitV_eq c
  refine Does.of (fn_in (l := [.int .u8 ((c).toNat : Int)]) Tryz.func81 rfl Tryz.ntmps81 rfl ?_)
  refine wp_seq ?_
  refine r_start ?_
  refine l_v (v := .int .i64 0) rfl rfl (by kernel_rfl) ?_
  refine l_nil ?_
  refine n_then ?_
  refine wp_seq ?_
  refine wp_seq ?_
  refine r_start ?_
  refine l_v (v := .int .u8 ((c).toNat : Int)) rfl rfl (by kernel_rfl) ?_
  refine l_v (v := .bool (decide (((c).toNat : Int) ≥ (48 : Int)))) rfl rfl (by kernel_rfl) ?_
  refine l_v (v := .bool (decide (((c).toNat : Int) ≥ (48 : Int)))) rfl rfl (by kernel_rfl) ?_
  refine l_g (v := .int .u8 ((c).toNat : Int)) (want_1 rfl rfl rfl rfl) rfl (fun hW_ => (by kernel_rfl)) ?_
  refine l_g (v := .bool (decide (((c).toNat : Int) ≤ (57 : Int)))) (want_1 rfl rfl rfl rfl) rfl (fun hW_ => (r_cmp rfl (gd_true hW_ _) rfl rfl)) ?_
  refine l_v (v := .bool (((decide (((c).toNat : Int) ≥ (48 : Int))) && (decide (((c).toNat : Int) ≤ (57 : Int)))))) rfl rfl (r_pick rfl rfl (pick_and _ _)) ?_
  refine l_nil ?_
  refine n_then ?_
  refine c_cond (e := ((decide (((c).toNat : Int) ≥ (48 : Int))) && (decide (((c).toNat : Int) ≤ (57 : Int))))) rfl (fun hc1 => ?_) (fun hc1 => ?_)
  · try simp only [decide_eq_true_eq, decide_eq_false_iff_not, Bool.and_eq_true, Bool.or_eq_true, Bool.and_eq_false_iff, Bool.or_eq_false_iff, Bool.not_eq_true', Bool.not_eq_false', beq_iff_eq, bne_iff_ne, ne_eq, beq_eq_false_iff_ne, bne_eq_false_iff_eq, gt_iff_lt, ge_iff_le, Int.not_lt, Int.not_le] at hc1
    refine wp_seq ?_
    refine r_start ?_
    refine l_v (v := .int .u8 ((c).toNat : Int)) rfl rfl (by kernel_rfl) ?_
    refine l_v (v := .int .u8 (((c).toNat : Int) - 48)) rfl rfl (r_sub (r := ((c).toNat : Int) - 48) rfl rfl rfl (by omega) (by simp only [min_u8]; omega) (by simp only [max_u8]; omega)) ?_
    refine l_v (v := .int .i64 (((c).toNat : Int) - 48)) rfl rfl (r_conv (r := ((c).toNat : Int) - 48) rfl rfl Tryz.underlying5 Tryz.underlying3 rfl (by simp only [min_i64]; omega) (by simp only [max_i64]; omega)) ?_
    refine l_v (v := .int .i64 (((c).toNat : Int) - 48)) rfl rfl (by kernel_rfl) ?_
    refine l_nil ?_
    refine n_then ?_
    refine wp_ret ?_
    refine t_then ?_
    have hr_ : (((c).toNat : Int) - 48) = hexv c := by rw [← hdv]; unfold digitV; (try split) <;> (try split) <;> omega
    exact end_ret (v := .int .i64 (((c).toNat : Int) - 48)) (res1 rfl rfl) ⟨_, rfl, ⟨by rw [hr_], (Fr.refl [] w)⟩⟩
  · try simp only [decide_eq_true_eq, decide_eq_false_iff_not, Bool.and_eq_true, Bool.or_eq_true, Bool.and_eq_false_iff, Bool.or_eq_false_iff, Bool.not_eq_true', Bool.not_eq_false', beq_iff_eq, bne_iff_ne, ne_eq, beq_eq_false_iff_ne, bne_eq_false_iff_eq, gt_iff_lt, ge_iff_le, Int.not_lt, Int.not_le] at hc1
    refine wp_skip ?_
    refine n_then ?_
    refine wp_seq ?_
    refine wp_seq ?_
    refine r_start ?_
    refine l_v (v := .int .u8 ((c).toNat : Int)) rfl rfl (by kernel_rfl) ?_
    refine l_v (v := .bool (decide (((c).toNat : Int) ≥ (97 : Int)))) rfl rfl (by kernel_rfl) ?_
    refine l_v (v := .bool (decide (((c).toNat : Int) ≥ (97 : Int)))) rfl rfl (by kernel_rfl) ?_
    refine l_g (v := .int .u8 ((c).toNat : Int)) (want_1 rfl rfl rfl rfl) rfl (fun hW_ => (by kernel_rfl)) ?_
    refine l_g (v := .bool (decide (((c).toNat : Int) ≤ (102 : Int)))) (want_1 rfl rfl rfl rfl) rfl (fun hW_ => (r_cmp rfl (gd_true hW_ _) rfl rfl)) ?_
    refine l_v (v := .bool (((decide (((c).toNat : Int) ≥ (97 : Int))) && (decide (((c).toNat : Int) ≤ (102 : Int)))))) rfl rfl (r_pick rfl rfl (pick_and _ _)) ?_
    refine l_nil ?_
    refine n_then ?_
    refine c_cond (e := ((decide (((c).toNat : Int) ≥ (97 : Int))) && (decide (((c).toNat : Int) ≤ (102 : Int))))) rfl (fun hc2 => ?_) (fun hc2 => ?_)
    · try simp only [decide_eq_true_eq, decide_eq_false_iff_not, Bool.and_eq_true, Bool.or_eq_true, Bool.and_eq_false_iff, Bool.or_eq_false_iff, Bool.not_eq_true', Bool.not_eq_false', beq_iff_eq, bne_iff_ne, ne_eq, beq_eq_false_iff_ne, bne_eq_false_iff_eq, gt_iff_lt, ge_iff_le, Int.not_lt, Int.not_le] at hc2
      refine wp_seq ?_
      refine r_start ?_
      refine l_v (v := .int .u8 ((c).toNat : Int)) rfl rfl (by kernel_rfl) ?_
      refine l_v (v := .int .u8 (((c).toNat : Int) - 97)) rfl rfl (r_sub (r := ((c).toNat : Int) - 97) rfl rfl rfl (by omega) (by simp only [min_u8]; omega) (by simp only [max_u8]; omega)) ?_
      refine l_v (v := .int .i64 (((c).toNat : Int) - 97)) rfl rfl (r_conv (r := ((c).toNat : Int) - 97) rfl rfl Tryz.underlying5 Tryz.underlying3 rfl (by simp only [min_i64]; omega) (by simp only [max_i64]; omega)) ?_
      refine l_v (v := .int .i64 ((((c).toNat : Int) - 97) + 10)) rfl rfl (r_add (r := (((c).toNat : Int) - 97) + 10) rfl rfl rfl (by omega) (by simp only [min_i64]; omega) (by simp only [max_i64]; omega)) ?_
      refine l_v (v := .int .i64 ((((c).toNat : Int) - 97) + 10)) rfl rfl (by kernel_rfl) ?_
      refine l_nil ?_
      refine n_then ?_
      refine wp_ret ?_
      refine t_then ?_
      have hr_ : ((((c).toNat : Int) - 97) + 10) = hexv c := by rw [← hdv]; unfold digitV; (try split) <;> (try split) <;> omega
      exact end_ret (v := .int .i64 ((((c).toNat : Int) - 97) + 10)) (res1 rfl rfl) ⟨_, rfl, ⟨by rw [hr_], (Fr.refl [] w)⟩⟩
    · try simp only [decide_eq_true_eq, decide_eq_false_iff_not, Bool.and_eq_true, Bool.or_eq_true, Bool.and_eq_false_iff, Bool.or_eq_false_iff, Bool.not_eq_true', Bool.not_eq_false', beq_iff_eq, bne_iff_ne, ne_eq, beq_eq_false_iff_ne, bne_eq_false_iff_eq, gt_iff_lt, ge_iff_le, Int.not_lt, Int.not_le] at hc2
      refine wp_skip ?_
      refine n_then ?_
      refine wp_seq ?_
      refine r_start ?_
      refine l_v (v := .int .i64 (-1)) rfl rfl (by kernel_rfl) ?_
      refine l_nil ?_
      refine n_then ?_
      refine wp_ret ?_
      have hr_ : (-1 : Int) = hexv c := by rw [← hdv]; unfold digitV; (try split) <;> (try split) <;> omega
      exact end_ret (v := .int .i64 (-1)) (res1 rfl rfl) ⟨_, rfl, ⟨by rw [hr_], (Fr.refl [] w)⟩⟩

/-- ref31.Number -/
theorem rNumber_calls (w : World) (m : Int) (hm : i64 m) :
    Does Tryz.prog 37 #[.int .i64 m] w fun r w' => r = .string ⟨(Lib.itoa m).toArray⟩ ∧ Fr [] w w' := by
  have hil := itoa_len hm
  unfold i64 at hm
  refine Does.of (fn_in (l := [.int .i64 m]) Tryz.func37 rfl Tryz.ntmps37 rfl ?_)
  refine wp_seq ?_
  refine r_start ?_
  refine l_v (v := .string ⟨([] : List UInt8).toArray⟩) rfl rfl (by kernel_rfl) ?_
  refine l_nil ?_
  refine n_then ?_
  refine wp_seq ?_
  refine r_start ?_
  refine l_v (v := .int .i64 m) rfl rfl (by kernel_rfl) ?_
  refine l_v (v := .int .u64 (m % 18446744073709551616)) rfl rfl (r_convw rfl rfl Tryz.underlying3 Tryz.underlying107 (by rw [wrap_u64])) ?_
  refine l_v (v := .int .u64 (m % 18446744073709551616)) rfl rfl (by kernel_rfl) ?_
  refine l_nil ?_
  refine n_then ?_
  refine c_cut (fun a_ w_ => ∃ u_ : Nat → Value, ∃ u : Nat, a_ = mk [] 34 u_ [(3, .int .u64 ((u : Nat) : Int)), (0, .int .i64 m), (2, .string ⟨([] : List UInt8).toArray⟩), (5, .int .i64 m), (6, .int .u64 (m % 18446744073709551616))] ∧ Fr [] w w_ ∧ (u = m.natAbs)) ?_ ?_
  · refine wp_seq ?_
    refine r_start ?_
    refine l_v (v := .int .i64 m) rfl rfl (by kernel_rfl) ?_
    refine l_v (v := .bool (decide (m < (0 : Int)))) rfl rfl (by kernel_rfl) ?_
    refine l_nil ?_
    refine n_then ?_
    refine c_cond (e := decide (m < (0 : Int))) rfl (fun hc2 => ?_) (fun hc2 => ?_)
    · try simp only [decide_eq_true_eq, decide_eq_false_iff_not, Bool.and_eq_true, Bool.or_eq_true, Bool.and_eq_false_iff, Bool.or_eq_false_iff, Bool.not_eq_true', Bool.not_eq_false', beq_iff_eq, bne_iff_ne, ne_eq, beq_eq_false_iff_ne, bne_eq_false_iff_eq, gt_iff_lt, ge_iff_le, Int.not_lt, Int.not_le] at hc2
      refine r_start ?_
      refine l_v (v := .int .u64 (m % 18446744073709551616)) rfl rfl (by kernel_rfl) ?_
      refine l_v (v := .int .u64 ((m.natAbs : Nat) : Int)) rfl rfl (r_subw rfl rfl rfl (by rw [wrap_u64] <;> omega)) ?_
      refine l_v (v := .int .u64 ((m.natAbs : Nat) : Int)) rfl rfl (by kernel_rfl) ?_
      refine l_nil ?_
      refine n_then ?_
      exact ⟨_, m.natAbs, mk_eq (by kernel_rfl), (Fr.refl [] w), rfl⟩
    · try simp only [decide_eq_true_eq, decide_eq_false_iff_not, Bool.and_eq_true, Bool.or_eq_true, Bool.and_eq_false_iff, Bool.or_eq_false_iff, Bool.not_eq_true', Bool.not_eq_false', beq_iff_eq, bne_iff_ne, ne_eq, beq_eq_false_iff_ne, bne_eq_false_iff_eq, gt_iff_lt, ge_iff_le, Int.not_lt, Int.not_le] at hc2
      refine wp_skip ?_
      refine n_then ?_
      have hmm_ : m % 18446744073709551616 = ((m.natAbs : Nat) : Int) := by omega
      rw [hmm_]
      exact ⟨_, m.natAbs, mk_eq (by kernel_rfl), (Fr.refl [] w), rfl⟩
  rintro _ wj1 ⟨u_, u, rfl, hE3, hu⟩
  have hE3z := hE3.size
  subst hu
  refine wp_seq ?_
  refine r_start ?_
  refine l_v (v := .int .u64 ((m.natAbs : Nat) : Int)) rfl rfl (by kernel_rfl) ?_
  refine l_v (v := .int .u64 ((m.natAbs % 10 : Nat) : Int)) rfl rfl (r_remn (i := m.natAbs) (m := 10) rfl rfl rfl rfl (by omega)) ?_
  refine l_v (v := .int .u64 (48 + ((m.natAbs % 10 : Nat) : Int))) rfl rfl (r_add (r := 48 + ((m.natAbs % 10 : Nat) : Int)) rfl rfl rfl (by omega) (by simp only [min_u64]; omega) (by simp only [max_u64]; omega)) ?_
  refine l_v (v := .int .u8 (((UInt8.ofNat (48 + m.natAbs % 10)).toNat : Int))) rfl rfl (r_convw rfl rfl Tryz.underlying107 Tryz.underlying5 (by rw [wrap_u8, UInt8.toNat_ofNat'] <;> omega)) ?_
  refine l_new (fun k_ => .slice (some ⟨k_, 0, none⟩) 1 1) rfl rfl (by kernel_rfl) (ob := .cells #[.int .u8 (((UInt8.ofNat (48 + m.natAbs % 10)).toNat : Int))] 5) (fun k4 w5 n6 => ?_)
  have n6k := n6.hk; have n6z := n6.sz
  refine l_v (v := .string ⟨([(UInt8.ofNat (48 + m.natAbs % 10))] : List UInt8).toArray⟩) rfl rfl (r_conv_str rfl rfl (conv_blk (l := [(UInt8.ofNat (48 + m.natAbs % 10))]) n6.at_ rfl rfl Tryz.underlying47 Tryz.underlying5 Tryz.underlying9)) ?_
  refine l_v (v := .string ⟨([(UInt8.ofNat (48 + m.natAbs % 10))] : List UInt8).toArray⟩) rfl rfl (by kernel_rfl) ?_
  refine l_nil ?_
  refine n_then ?_
  refine wp_seq ?_
  refine wp_block ?_
  have hdg : Lib.decDigits m.natAbs = preD m.natAbs ++ [UInt8.ofNat (48 + m.natAbs % 10)] := preD_eq _
  have hE11 : Fr [] w w5 := (hE3.trans n6.fr)
  have hE11z := hE11.size
  refine c_loop (fun m_ a_ w_ => ∃ u_ : Nat → Value, ∃ u : Nat, ∃ st : List UInt8, a_ = mk [] 34 u_ [(3, .int .u64 ((u : Nat) : Int)), (4, .string ⟨(st).toArray⟩), (0, .int .i64 m), (2, .string ⟨([] : List UInt8).toArray⟩), (5, .int .i64 m), (6, .int .u64 (m % 18446744073709551616)), (11, .int .u64 ((m.natAbs : Nat) : Int)), (12, .int .u64 ((m.natAbs % 10 : Nat) : Int)), (13, .int .u64 (48 + ((m.natAbs % 10 : Nat) : Int))), (14, .int .u8 (((UInt8.ofNat (48 + m.natAbs % 10)).toNat : Int))), (15, .slice (some ⟨k4, 0, none⟩) 1 1), (16, .string ⟨([(UInt8.ofNat (48 + m.natAbs % 10))] : List UInt8).toArray⟩)] ∧ m_ = u ∧ Fr [] w w_ ∧ (u ≤ m.natAbs) ∧ (Lib.decDigits m.natAbs = preD u ++ st)) (m.natAbs) ⟨_, m.natAbs, [UInt8.ofNat (48 + m.natAbs % 10)], mk_eq (by kernel_rfl), rfl, hE11, Nat.le_refl _, hdg⟩ ?_
  rintro m9 _ wr7 ⟨u_, u, st, rfl, hm10, hE12, hu9, hst⟩ K_ hK8
  have hE12z := hE12.size
  have hsl_ : st.length ≤ 21 := by
    have h_ := congrArg List.length hst
    rw [List.length_append] at h_
    have h2_ : (Lib.decDigits m.natAbs).length ≤ (Lib.itoa m).length := by
      unfold Lib.itoa
      split
      · rw [List.length_cons]; omega
      · rw [show m.toNat = m.natAbs by omega]; omega
    omega
  refine wp_seq ?_
  refine wp_seq ?_
  refine r_start ?_
  refine l_v (v := .int .u64 ((u : Nat) : Int)) rfl rfl (by kernel_rfl) ?_
  refine l_v (v := .bool (decide (((u : Nat) : Int) > (9 : Int)))) rfl rfl (by kernel_rfl) ?_
  refine l_nil ?_
  refine n_then ?_
  refine c_cond (e := decide (((u : Nat) : Int) > (9 : Int))) rfl (fun hc13 => ?_) (fun hc13 => ?_)
  · try simp only [decide_eq_true_eq, decide_eq_false_iff_not, Bool.and_eq_true, Bool.or_eq_true, Bool.and_eq_false_iff, Bool.or_eq_false_iff, Bool.not_eq_true', Bool.not_eq_false', beq_iff_eq, bne_iff_ne, ne_eq, beq_eq_false_iff_ne, bne_eq_false_iff_eq, gt_iff_lt, ge_iff_le, Int.not_lt, Int.not_le] at hc13
    refine wp_skip ?_
    refine n_then ?_
    refine wp_block ?_
    refine wp_seq ?_
    refine r_start ?_
    refine l_v (v := .int .u64 ((u : Nat) : Int)) rfl rfl (by kernel_rfl) ?_
    refine l_v (v := .int .u64 ((u / 10 : Nat) : Int)) rfl rfl (r_quon (i := u) (m := 10) rfl rfl rfl rfl (by omega) (by simp only [max_u64]; omega)) ?_
    refine l_v (v := .int .u64 ((u / 10 : Nat) : Int)) rfl rfl (by kernel_rfl) ?_
    refine l_nil ?_
    refine n_then ?_
    refine r_start ?_
    refine l_v (v := .int .u64 ((u / 10 : Nat) : Int)) rfl rfl (by kernel_rfl) ?_
    refine l_v (v := .int .u64 ((((u / 10) % 10 : Nat) : Int))) rfl rfl (r_remn (i := u / 10) (m := 10) rfl rfl rfl rfl (by omega)) ?_
    refine l_v (v := .int .u64 (48 + ((((u / 10) % 10 : Nat) : Int)))) rfl rfl (r_add (r := 48 + ((((u / 10) % 10 : Nat) : Int))) rfl rfl rfl (by omega) (by simp only [min_u64]; omega) (by simp only [max_u64]; omega)) ?_
    refine l_v (v := .int .u8 (((UInt8.ofNat (48 + (u / 10) % 10)).toNat : Int))) rfl rfl (r_convw rfl rfl Tryz.underlying107 Tryz.underlying5 (by rw [wrap_u8, UInt8.toNat_ofNat'] <;> omega)) ?_
    refine l_new (fun k_ => .slice (some ⟨k_, 0, none⟩) 1 1) rfl rfl (by kernel_rfl) (ob := .cells #[.int .u8 (((UInt8.ofNat (48 + (u / 10) % 10)).toNat : Int))] 5) (fun k14 w15 n16 => ?_)
    have n16k := n16.hk; have n16z := n16.sz
    refine l_v (v := .string ⟨([(UInt8.ofNat (48 + (u / 10) % 10))] : List UInt8).toArray⟩) rfl rfl (r_conv_str rfl rfl (conv_blk (l := [(UInt8.ofNat (48 + (u / 10) % 10))]) n16.at_ rfl rfl Tryz.underlying47 Tryz.underlying5 Tryz.underlying9)) ?_
    refine l_v (v := .string ⟨(st).toArray⟩) rfl rfl (by kernel_rfl) ?_
    refine l_v (v := .string ⟨((([(UInt8.ofNat (48 + (u / 10) % 10))] : List UInt8)) ++ st).toArray⟩) rfl rfl (r_str_add rfl rfl rfl (by (try simp only [List.length_append, List.length_cons, List.length_nil]); omega)) ?_
    refine l_v (v := .string ⟨((([(UInt8.ofNat (48 + (u / 10) % 10))] : List UInt8)) ++ st).toArray⟩) rfl rfl (by kernel_rfl) ?_
    refine l_nil ?_
    refine n_block ?_
    refine n_then ?_
    have hE17 : Fr [] w w15 := (hE12.trans n16.fr)
    have hE17z := hE17.size
    exact hK8 _ _ _ (by omega) ⟨_, (u / 10), (([(UInt8.ofNat (48 + (u / 10) % 10))] : List UInt8)) ++ st, mk_eq (by kernel_rfl), rfl, hE17, (by omega), (by rw [hst, preD_big (by omega), preD_eq, List.append_assoc] <;> rfl)⟩
  · try simp only [decide_eq_true_eq, decide_eq_false_iff_not, Bool.and_eq_true, Bool.or_eq_true, Bool.and_eq_false_iff, Bool.or_eq_false_iff, Bool.not_eq_true', Bool.not_eq_false', beq_iff_eq, bne_iff_ne, ne_eq, beq_eq_false_iff_ne, bne_eq_false_iff_eq, gt_iff_lt, ge_iff_le, Int.not_lt, Int.not_le] at hc13
    have hst2 : Lib.decDigits m.natAbs = st := by rw [hst, preD_small (by omega)]; rfl
    refine wp_exit ?_
    refine e_then ?_
    refine e_then ?_
    refine e_hit ?_
    refine n_then ?_
    refine wp_seq ?_
    refine wp_seq ?_
    refine r_start ?_
    refine l_v (v := .int .i64 m) rfl rfl (by kernel_rfl) ?_
    refine l_v (v := .bool (decide (m < (0 : Int)))) rfl rfl (by kernel_rfl) ?_
    refine l_nil ?_
    refine n_then ?_
    refine c_cond (e := decide (m < (0 : Int))) rfl (fun hc18 => ?_) (fun hc18 => ?_)
    · try simp only [decide_eq_true_eq, decide_eq_false_iff_not, Bool.and_eq_true, Bool.or_eq_true, Bool.and_eq_false_iff, Bool.or_eq_false_iff, Bool.not_eq_true', Bool.not_eq_false', beq_iff_eq, bne_iff_ne, ne_eq, beq_eq_false_iff_ne, bne_eq_false_iff_eq, gt_iff_lt, ge_iff_le, Int.not_lt, Int.not_le] at hc18
      refine wp_seq ?_
      refine r_start ?_
      refine l_v (v := .string ⟨(st).toArray⟩) rfl rfl (by kernel_rfl) ?_
      refine l_v (v := .string ⟨(([45] : List UInt8) ++ st).toArray⟩) rfl rfl (r_str_add rfl rfl rfl (by (try simp only [List.length_append, List.length_cons, List.length_nil]); omega)) ?_
      refine l_v (v := .string ⟨(([45] : List UInt8) ++ st).toArray⟩) rfl rfl (by kernel_rfl) ?_
      refine l_nil ?_
      refine n_then ?_
      refine wp_ret ?_
      refine t_then ?_
      exact end_ret (v := .string ⟨(([45] : List UInt8) ++ st).toArray⟩) (res1 rfl rfl) ⟨_, rfl, ⟨by rw [itoa_negS hc18, hst2]; rfl, hE12⟩⟩
    · try simp only [decide_eq_true_eq, decide_eq_false_iff_not, Bool.and_eq_true, Bool.or_eq_true, Bool.and_eq_false_iff, Bool.or_eq_false_iff, Bool.not_eq_true', Bool.not_eq_false', beq_iff_eq, bne_iff_ne, ne_eq, beq_eq_false_iff_ne, bne_eq_false_iff_eq, gt_iff_lt, ge_iff_le, Int.not_lt, Int.not_le] at hc18
      refine wp_skip ?_
      refine n_then ?_
      refine wp_seq ?_
      refine r_start ?_
      refine l_v (v := .string ⟨(st).toArray⟩) rfl rfl (by kernel_rfl) ?_
      refine l_v (v := .string ⟨(st).toArray⟩) rfl rfl (by kernel_rfl) ?_
      refine l_nil ?_
      refine n_then ?_
      refine wp_ret ?_
      exact end_ret (v := .string ⟨(st).toArray⟩) (res1 rfl rfl) ⟨_, rfl, ⟨by rw [itoa_posS (by omega), hst2], hE12⟩⟩

end Go.Proofs.YtmhljojgdfmjaaaGreatDoor
