/- walks -/
import Derived.Test.YtmhljojgdfmjaaaGreatDoorEng
import Derived.Test.YtmhljojgdfmjaaaGreatDoorRep
import Derived.Test.YtmhljojgdfmjaaaGreatDoorFacts
import Derived.Test.YtmhljojgdfmjaaaGreatDoorMem
namespace Go.Proofs.YtmhljojgdfmjaaaGreatDoor
open Go.E
set_option linter.unusedVariables false
set_option linter.unusedSimpArgs false
set_option maxRecDepth 100000
set_option maxHeartbeats 1000000
open Go.Sh
/-- shell.name -/
theorem Name_calls (w : World) (hg : Glob w) (k : Int) (hk : i64 k) :
    Does Tryz.prog 33 #[.int .i64 k] w fun r w' => r = .string ⟨(nameL k).toArray⟩ ∧ Fr [] w w' := by
  have hgz := hg.sz
  unfold i64 at hk
  refine Does.of (fn_in (l := [.int .i64 k]) Tryz.func33 rfl Tryz.ntmps33 rfl ?_)
  refine wp_seq ?_
  refine r_start ?_
  refine l_v (v := .string ⟨([] : List UInt8).toArray⟩) rfl rfl (by kernel_rfl) ?_
  refine l_nil ?_
  refine n_then ?_
  refine wp_seq ?_
  refine r_start ?_
  refine l_call rfl rfl (r_call (args := #[.string ⟨([32, 99, 111, 110, 110, 101, 99, 116, 32, 112, 117, 115, 104, 32, 99, 108, 111, 115, 101, 32, 116, 105, 99, 107, 32, 115, 116, 101, 112, 32, 113, 117, 111, 116, 97, 32, 102, 117, 115, 101, 32, 99, 114, 97, 115, 104, 32, 111, 112, 101, 110] : List UInt8).toArray⟩, .string ⟨([32] : List UInt8).toArray⟩]) rfl e59 (am rfl)) (Kinds_does w hg) (fun v2 w3 h1 => ?_)
  obtain ⟨k4, rfl, h1k, h1f, h1b, h1e⟩ := h1
  have h1z := h1f.size
  refine l_v (v := .slice (some ⟨k4, 0, none⟩) 10 10) rfl rfl (by kernel_rfl) ?_
  refine l_nil ?_
  refine n_then ?_
  refine wp_seq ?_
  refine wp_seq ?_
  refine r_start ?_
  refine l_v (v := .int .i64 k) rfl rfl (by kernel_rfl) ?_
  refine l_v (v := .bool (decide (k < (1 : Int)))) rfl rfl (by kernel_rfl) ?_
  refine l_v (v := .bool (decide (k < (1 : Int)))) rfl rfl (by kernel_rfl) ?_
  refine l_g (v := .int .i64 k) (want_1 rfl rfl rfl rfl) rfl (fun hW_ => (by kernel_rfl)) ?_
  refine l_g (v := .slice (some ⟨k4, 0, none⟩) 10 10) (want_1 rfl rfl rfl rfl) rfl (fun hW_ => (by kernel_rfl)) ?_
  refine l_g (v := .int .i64 10) (want_1 rfl rfl rfl rfl) rfl (fun hW_ => (r_len rfl (gd_true hW_ _) Tryz.underlying57)) ?_
  refine l_g (v := .bool (decide (k ≥ (10 : Int)))) (want_1 rfl rfl rfl rfl) rfl (fun hW_ => (r_cmp rfl (gd_true hW_ _) (gd_true hW_ _) rfl)) ?_
  refine l_v (v := .bool (((decide (k < (1 : Int))) || (decide (k ≥ (10 : Int)))))) rfl rfl (r_pick rfl rfl (pick_or _ _)) ?_
  refine l_nil ?_
  refine n_then ?_
  refine c_cond (e := ((decide (k < (1 : Int))) || (decide (k ≥ (10 : Int))))) rfl (fun hc5 => ?_) (fun hc5 => ?_)
  · try simp only [decide_eq_true_eq, decide_eq_false_iff_not, Bool.and_eq_true, Bool.or_eq_true, Bool.and_eq_false_iff, Bool.or_eq_false_iff, Bool.not_eq_true', Bool.not_eq_false', beq_iff_eq, bne_iff_ne, ne_eq, beq_eq_false_iff_ne, bne_eq_false_iff_eq, gt_iff_lt, ge_iff_le, Int.not_lt, Int.not_le] at hc5
    refine wp_seq ?_
    refine r_start ?_
    refine l_v (v := .string ⟨([] : List UInt8).toArray⟩) rfl rfl (by kernel_rfl) ?_
    refine l_nil ?_
    refine n_then ?_
    refine wp_ret ?_
    refine t_then ?_
    have hE6 : Fr [] w w3 := ((Fr.refl [] w).trans h1f)
    have hE6z := hE6.size
    exact end_ret (v := .string ⟨([] : List UInt8).toArray⟩) (res1 rfl rfl) ⟨_, rfl, ⟨by rw [nameL_no hc5], hE6⟩⟩
  · try simp only [decide_eq_true_eq, decide_eq_false_iff_not, Bool.and_eq_true, Bool.or_eq_true, Bool.and_eq_false_iff, Bool.or_eq_false_iff, Bool.not_eq_true', Bool.not_eq_false', beq_iff_eq, bne_iff_ne, ne_eq, beq_eq_false_iff_ne, bne_eq_false_iff_eq, gt_iff_lt, ge_iff_le, Int.not_lt, Int.not_le] at hc5
    obtain ⟨j, rfl⟩ := Int.eq_ofNat_of_zero_le (show 0 ≤ k by omega)
    have hnl : names.length = 10 := rfl
    refine wp_skip ?_
    refine n_then ?_
    refine wp_seq ?_
    refine r_start ?_
    refine l_v (v := .slice (some ⟨k4, 0, none⟩) 10 10) rfl rfl (by kernel_rfl) ?_
    refine l_v (v := .int .i64 ((j : Nat) : Int)) rfl rfl (by kernel_rfl) ?_
    obtain ⟨x7, g8, off9, cs10, hx11, hA12, hg13, hl14, hK15, hr16⟩ := El.get h1e (i := j) (by omega)
    obtain rfl : cs10 = [.string ⟨x7.toArray⟩] := hK15
    refine l_v (v := .pointer (some ⟨g8, off9 + j * 1, none⟩)) rfl rfl (r_elemn rfl rfl rfl hA12 Tryz.underlying57 (by kernel_rfl) (by omega)) ?_
    refine l_v (v := .string ⟨(x7).toArray⟩) rfl rfl (r_load rfl rfl Tryz.underlying9 rfl (range_get (j := 0) hr16 rfl)) ?_
    refine l_v (v := .string ⟨(x7).toArray⟩) rfl rfl (by kernel_rfl) ?_
    refine l_nil ?_
    refine n_then ?_
    refine wp_ret ?_
    have hE17 : Fr [] w w3 := ((Fr.refl [] w).trans h1f)
    have hE17z := hE17.size
    exact end_ret (v := .string ⟨(x7).toArray⟩) (res1 rfl rfl) ⟨_, rfl, ⟨by rw [nameL_at hx11 (by omega)], hE17⟩⟩

/-- shell.line -/
theorem Line_calls (w : World) (k : Nat) (xs : List (List UInt8)) (hb : w.heap[k]? = some (.cells (xs.map fun x => Value.string ⟨x.toArray⟩).toArray 9 (0, 0))) (hn : xs.length ≤ 1048576) (hl : (Lib.join xs [32]).length ≤ 68719476736) :
    Does Tryz.prog 34 #[.slice (some ⟨k, 0, none⟩) xs.length xs.length] w fun r w' => r = .string ⟨(Lib.join xs [32]).toArray⟩ ∧ Fr [] w w' := by
  refine Does.of (fn_in (l := [.slice (some ⟨k, 0, none⟩) xs.length xs.length]) Tryz.func34 rfl Tryz.ntmps34 rfl ?_)
  refine wp_seq ?_
  refine r_start ?_
  refine l_v (v := .string ⟨([] : List UInt8).toArray⟩) rfl rfl (by kernel_rfl) ?_
  refine l_nil ?_
  refine n_then ?_
  refine wp_seq ?_
  refine r_start ?_
  refine l_v (v := .slice (some ⟨k, 0, none⟩) xs.length xs.length) rfl rfl (by kernel_rfl) ?_
  refine l_call rfl rfl (r_call (args := #[.slice (some ⟨k, 0, none⟩) xs.length xs.length, .string ⟨([32] : List UInt8).toArray⟩]) rfl e60 (am rfl)) (Join_block w k xs _ hb hn hl) (fun v2 w3 h1 => ?_)
  obtain ⟨rfl, h1f⟩ := h1
  have h1z := h1f.size
  refine l_v (v := .string ⟨(Lib.join xs [32]).toArray⟩) rfl rfl (by kernel_rfl) ?_
  refine l_nil ?_
  refine n_then ?_
  refine wp_ret ?_
  have hE4 : Fr [] w w3 := ((Fr.refl [] w).trans h1f)
  have hE4z := hE4.size
  exact end_ret (v := .string ⟨(Lib.join xs [32]).toArray⟩) (res1 rfl rfl) ⟨_, rfl, ⟨rfl, hE4⟩⟩
theorem Line2_calls (w : World) (k : Nat) (a b : List UInt8) (hb : w.heap[k]? = some (.cells #[.string ⟨a.toArray⟩, .string ⟨b.toArray⟩] 9 (0, 0))) (hl : a.length + b.length ≤ 68719476700) :
    Does Tryz.prog 34 #[.slice (some ⟨k, 0, none⟩) 2 2] w fun r w' => r = .string ⟨(sp a b).toArray⟩ ∧ Fr [] w w' := by
  have := Line_calls w k [a, b] hb (by simp) (by rw [join2, sp_len]; omega)
  rwa [join2] at this
theorem Line3_calls (w : World) (k : Nat) (a b c : List UInt8) (hb : w.heap[k]? = some (.cells #[.string ⟨a.toArray⟩, .string ⟨b.toArray⟩, .string ⟨c.toArray⟩] 9 (0, 0))) (hl : a.length + b.length + c.length ≤ 68719476700) :
    Does Tryz.prog 34 #[.slice (some ⟨k, 0, none⟩) 3 3] w fun r w' => r = .string ⟨(sp a (sp b c)).toArray⟩ ∧ Fr [] w w' := by
  have := Line_calls w k [a, b, c] hb (by simp) (by rw [join3, sp_len, sp_len]; omega)
  rwa [join3] at this

end Go.Proofs.YtmhljojgdfmjaaaGreatDoor
