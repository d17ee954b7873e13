/- walks -/
import Derived.Test.YtmhljojgdfmjaaaGreatDoorRf3
import Derived.Test.YtmhljojgdfmjaaaGreatDoorLa3
namespace Go.Proofs.YtmhljojgdfmjaaaGreatDoor
open Go.E
set_option linter.unusedVariables false
set_option linter.unusedSimpArgs false
set_option maxRecDepth 100000
set_option maxHeartbeats 1000000
open Go.Sh
abbrev Rr (w : World) (g : Nat) (s : List UInt8) (bad : Bool) : Prop := w.heap[g]? = some (.cells #[.string ⟨s.toArray⟩, .bool bad] 96 (0, 0))
/-- ref31.Reader.blank -/
theorem blank_calls (w : World) (g : Nat) (s : List UInt8) (bad : Bool) (hb : Rr w g s bad) (hl : s.length ≤ 1048576) :
    Does Tryz.prog 46 #[.pointer (some ⟨g, 0, none⟩)] w fun r w' => r = .tuple #[] ∧ Fr [g] w w' ∧ Rr w' g (bS s) (bad || bB s) := by
  have hgl : g < w.heap.size := (Array.getElem?_eq_some_iff.1 hb).1
  have hbs := bS_len s
  have hlw := lW_len s
  have hlr := lR_len s
  refine Does.of (fn_in (l := [.pointer (some ⟨g, 0, none⟩)]) Tryz.func46 rfl Tryz.ntmps46 rfl ?_)
  refine wp_seq ?_
  refine wp_seq ?_
  refine r_start ?_
  refine l_v (v := .pointer (some ⟨g, 0, none⟩)) rfl rfl (by kernel_rfl) ?_
  refine l_v (v := .pointer (some ⟨g, 0, none⟩)) rfl rfl (by kernel_rfl) ?_
  refine l_v (v := .pointer (some ⟨g, 0, none⟩)) rfl rfl (r_field rfl rfl Tryz.underlying96 rfl (by kernel_rfl) rfl) ?_
  refine l_v (v := .string ⟨(s).toArray⟩) rfl rfl (r_load rfl rfl Tryz.underlying9 rfl (cell_at hb rfl)) ?_
  refine l_v (v := .int .i64 ((s).length : Int)) rfl rfl (r_lens rfl rfl Tryz.underlying9) ?_
  refine l_v (v := .bool ((((s).length : Int) == (0 : Int)))) rfl rfl (by kernel_rfl) ?_
  refine l_v (v := .bool ((((s).length : Int) == (0 : Int)))) rfl rfl (by kernel_rfl) ?_
  refine l_g (v := .pointer (some ⟨g, 0, none⟩)) (want_1 rfl rfl rfl rfl) rfl (fun hW_ => (by kernel_rfl)) ?_
  refine l_g (v := .pointer (some ⟨g, 0, none⟩)) (want_1 rfl rfl rfl rfl) rfl (fun hW_ => (r_nil rfl (gd_true hW_ _))) ?_
  refine l_g (v := .pointer (some ⟨g, 0, none⟩)) (want_1 rfl rfl rfl rfl) rfl (fun hW_ => (r_field rfl (gd_true hW_ _) Tryz.underlying96 rfl (by kernel_rfl) rfl)) ?_
  refine l_g (v := .string ⟨(s).toArray⟩) (want_1 rfl rfl rfl rfl) rfl (fun hW_ => (r_load rfl (gd_true hW_ _) Tryz.underlying9 rfl (cell_at hb rfl))) ?_
  refine l_g (v := .int .u8 (((s.getD (0) 0).toNat : Int))) (want_1 rfl rfl rfl rfl) rfl (fun hW_ => (r_idx (j := 0) rfl (gd_true hW_ _) rfl Tryz.underlying9 (by omega) (getD_at (by have hW2_ := hW_; try simp only [decide_eq_true_eq, decide_eq_false_iff_not, Bool.and_eq_true, Bool.or_eq_true, Bool.and_eq_false_iff, Bool.or_eq_false_iff, Bool.not_eq_true', Bool.not_eq_false', beq_iff_eq, bne_iff_ne, ne_eq, beq_eq_false_iff_ne, bne_eq_false_iff_eq, gt_iff_lt, ge_iff_le, Int.not_lt, Int.not_le] at hW2_; omega)))) ?_
  refine l_g (v := .bool (((((s.getD (0) 0).toNat : Int)) != (32 : Int)))) (want_1 rfl rfl rfl rfl) rfl (fun hW_ => (r_cmp rfl (gd_true hW_ _) rfl rfl)) ?_
  refine l_v (v := .bool ((((((s).length : Int) == (0 : Int))) || (((((s.getD (0) 0).toNat : Int)) != (32 : Int)))))) rfl rfl (r_pick rfl rfl (pick_or _ _)) ?_
  refine l_nil ?_
  refine n_then ?_
  refine c_cond (e := (((((s).length : Int) == (0 : Int))) || (((((s.getD (0) 0).toNat : Int)) != (32 : Int))))) rfl (fun hc1 => ?_) (fun hc1 => ?_)
  · try simp only [decide_eq_true_eq, decide_eq_false_iff_not, Bool.and_eq_true, Bool.or_eq_true, Bool.and_eq_false_iff, Bool.or_eq_false_iff, Bool.not_eq_true', Bool.not_eq_false', beq_iff_eq, bne_iff_ne, ne_eq, beq_eq_false_iff_ne, bne_eq_false_iff_eq, gt_iff_lt, ge_iff_le, Int.not_lt, Int.not_le] at hc1
    obtain ⟨hq1, hq2⟩ := blank_no (s := s) (by rcases hc1 with h_ | h_; exact .inl (by omega); exact .inr (fun hh_ => by have h2_ := (u8_eq (x := s.getD 0 0) (n := 32) (by omega)).2 hh_; omega))
    refine wp_seq ?_
    refine r_start ?_
    refine l_v (v := .pointer (some ⟨g, 0, none⟩)) rfl rfl (by kernel_rfl) ?_
    refine l_v (v := .pointer (some ⟨g, 0, none⟩)) rfl rfl (by kernel_rfl) ?_
    refine l_v (v := .pointer (some ⟨g, 1, none⟩)) rfl rfl (r_field rfl rfl Tryz.underlying96 rfl (by kernel_rfl) rfl) ?_
    refine l_store rfl rfl rfl (g := g) (off := 1) (v := .bool true) (arr := #[.string ⟨(s).toArray⟩, .bool true]) rfl rfl (by kernel_rfl) hb rfl (by simp [Value.cells, Value.oneCell']) rfl (fun w2 p3 => ?_)
    have p3z := p3.sz
    refine l_nil ?_
    refine n_then ?_
    refine wp_ret ?_
    refine t_then ?_
    have hE4 : Fr [g] w w2 := ((Fr.refl [g] w).trans p3.fr)
    have hE4z := hE4.size
    exact end_ret (v := .tuple #[]) (res0 rfl) ⟨_, rfl, ⟨rfl, hE4, by rw [hq1, hq2, Bool.or_true]; exact p3.at_⟩⟩
  · try simp only [decide_eq_true_eq, decide_eq_false_iff_not, Bool.and_eq_true, Bool.or_eq_true, Bool.and_eq_false_iff, Bool.or_eq_false_iff, Bool.not_eq_true', Bool.not_eq_false', beq_iff_eq, bne_iff_ne, ne_eq, beq_eq_false_iff_ne, bne_eq_false_iff_eq, gt_iff_lt, ge_iff_le, Int.not_lt, Int.not_le] at hc1
    obtain ⟨hq1, hq2⟩ := blank_yes (s := s) (by omega) ((u8_eq (n := 32) (by omega)).1 (by omega))
    refine wp_skip ?_
    refine n_then ?_
    refine r_start ?_
    refine l_v (v := .pointer (some ⟨g, 0, none⟩)) rfl rfl (by kernel_rfl) ?_
    refine l_v (v := .pointer (some ⟨g, 0, none⟩)) rfl rfl (by kernel_rfl) ?_
    refine l_v (v := .pointer (some ⟨g, 0, none⟩)) rfl rfl (by kernel_rfl) ?_
    refine l_v (v := .pointer (some ⟨g, 0, none⟩)) rfl rfl (r_field rfl rfl Tryz.underlying96 rfl (by kernel_rfl) rfl) ?_
    refine l_v (v := .string ⟨(s).toArray⟩) rfl rfl (r_load rfl rfl Tryz.underlying9 rfl (cell_at hb rfl)) ?_
    refine l_v (v := .string ⟨(s.drop (1)).toArray⟩) rfl rfl (r_slo (j := 1) rfl rfl rfl Tryz.underlying9 (by omega) (by omega)) ?_
    refine l_v (v := .pointer (some ⟨g, 0, none⟩)) rfl rfl (by kernel_rfl) ?_
    refine l_v (v := .pointer (some ⟨g, 0, none⟩)) rfl rfl (r_field rfl rfl Tryz.underlying96 rfl (by kernel_rfl) rfl) ?_
    refine l_store rfl rfl rfl (g := g) (off := 0) (v := .string ⟨(s.drop (1)).toArray⟩) (arr := #[.string ⟨(s.drop (1)).toArray⟩, .bool bad]) rfl rfl (by kernel_rfl) hb rfl (by simp [Value.cells, Value.oneCell']) rfl (fun w5 p6 => ?_)
    have p6z := p6.sz
    refine l_nil ?_
    have hE7 : Fr [g] w w5 := ((Fr.refl [g] w).trans p6.fr)
    have hE7z := hE7.size
    exact end_norm (v := .tuple #[]) (res0 rfl) ⟨_, rfl, ⟨rfl, hE7, by rw [hq1, hq2, Bool.or_false]; exact p6.at_⟩⟩

/-- ref31.Reader.letters -/
theorem letters_calls (w : World) (g : Nat) (s : List UInt8) (bad : Bool) (hb : Rr w g s bad) (hl : s.length ≤ 1048576) :
    Does Tryz.prog 47 #[.pointer (some ⟨g, 0, none⟩)] w fun r w' => r = .string ⟨(lettersW s).toArray⟩ ∧ Fr [g] w w' ∧ Rr w' g (lettersR s) bad := by
  have hgl : g < w.heap.size := (Array.getElem?_eq_some_iff.1 hb).1
  have hbs := bS_len s
  have hlw := lW_len s
  have hlr := lR_len s
  refine Does.of (fn_in (l := [.pointer (some ⟨g, 0, none⟩)]) Tryz.func47 rfl Tryz.ntmps47 rfl ?_)
  refine wp_seq ?_
  refine r_start ?_
  refine l_v (v := .string ⟨([] : List UInt8).toArray⟩) rfl rfl (by kernel_rfl) ?_
  refine l_nil ?_
  refine n_then ?_
  refine wp_seq ?_
  refine r_start ?_
  refine l_v (v := .int .i64 0) rfl rfl (by kernel_rfl) ?_
  refine l_nil ?_
  refine n_then ?_
  refine wp_seq ?_
  refine wp_block ?_
  refine c_loop (fun m_ a_ w_ => ∃ u_ : Nat → Value, ∃ k : Nat, a_ = mk [] 39 u_ [(3, .int .i64 ((k : Nat) : Int)), (0, .pointer (some ⟨g, 0, none⟩)), (2, .string ⟨([] : List UInt8).toArray⟩)] ∧ m_ = s.length - k ∧ Fr [g] w w_ ∧ (k ≤ s.length) ∧ (∀ j, j < k → s.getD j 0 ≠ 32) ∧ (w_.heap[g]? = some (.cells #[.string ⟨(s).toArray⟩, .bool bad] 96 (0, 0)))) (s.length - 0) ⟨_, 0, mk_eq (by kernel_rfl), rfl, (Fr.refl [g] w), Nat.zero_le _, by intro j hj; omega, hb⟩ ?_
  rintro m3 _ wr1 ⟨u_, k, rfl, hm4, hE5, hk, hall, hkb_g⟩ K_ hK2
  have hE5z := hE5.size
  refine wp_seq ?_
  refine wp_seq ?_
  refine r_start ?_
  refine l_v (v := .int .i64 ((k : Nat) : Int)) rfl rfl (by kernel_rfl) ?_
  refine l_v (v := .pointer (some ⟨g, 0, none⟩)) rfl rfl (by kernel_rfl) ?_
  refine l_v (v := .pointer (some ⟨g, 0, none⟩)) rfl rfl (by kernel_rfl) ?_
  refine l_v (v := .pointer (some ⟨g, 0, none⟩)) rfl rfl (r_field rfl rfl Tryz.underlying96 rfl (by kernel_rfl) rfl) ?_
  refine l_v (v := .string ⟨(s).toArray⟩) rfl rfl (r_load rfl rfl Tryz.underlying9 rfl (cell_at hkb_g rfl)) ?_
  refine l_v (v := .int .i64 ((s).length : Int)) rfl rfl (r_lens rfl rfl Tryz.underlying9) ?_
  refine l_v (v := .bool (decide (((k : Nat) : Int) < ((s).length : Int)))) rfl rfl (by kernel_rfl) ?_
  refine l_v (v := .bool (decide (((k : Nat) : Int) < ((s).length : Int)))) rfl rfl (by kernel_rfl) ?_
  refine l_g (v := .pointer (some ⟨g, 0, none⟩)) (want_1 rfl rfl rfl rfl) rfl (fun hW_ => (by kernel_rfl)) ?_
  refine l_g (v := .pointer (some ⟨g, 0, none⟩)) (want_1 rfl rfl rfl rfl) rfl (fun hW_ => (r_nil rfl (gd_true hW_ _))) ?_
  refine l_g (v := .pointer (some ⟨g, 0, none⟩)) (want_1 rfl rfl rfl rfl) rfl (fun hW_ => (r_field rfl (gd_true hW_ _) Tryz.underlying96 rfl (by kernel_rfl) rfl)) ?_
  refine l_g (v := .string ⟨(s).toArray⟩) (want_1 rfl rfl rfl rfl) rfl (fun hW_ => (r_load rfl (gd_true hW_ _) Tryz.underlying9 rfl (cell_at hkb_g rfl))) ?_
  refine l_g (v := .int .i64 ((k : Nat) : Int)) (want_1 rfl rfl rfl rfl) rfl (fun hW_ => (by kernel_rfl)) ?_
  refine l_g (v := .int .u8 (((s.getD (k) 0).toNat : Int))) (want_1 rfl rfl rfl rfl) rfl (fun hW_ => (r_idx (j := k) rfl (gd_true hW_ _) (gd_true hW_ _) Tryz.underlying9 (by omega) (getD_at (by have hW2_ := hW_; try simp only [decide_eq_true_eq, decide_eq_false_iff_not, Bool.and_eq_true, Bool.or_eq_true, Bool.and_eq_false_iff, Bool.or_eq_false_iff, Bool.not_eq_true', Bool.not_eq_false', beq_iff_eq, bne_iff_ne, ne_eq, beq_eq_false_iff_ne, bne_eq_false_iff_eq, gt_iff_lt, ge_iff_le, Int.not_lt, Int.not_le] at hW2_; omega)))) ?_
  refine l_g (v := .bool (((((s.getD (k) 0).toNat : Int)) != (32 : Int)))) (want_1 rfl rfl rfl rfl) rfl (fun hW_ => (r_cmp rfl (gd_true hW_ _) rfl rfl)) ?_
  refine l_v (v := .bool (((decide (((k : Nat) : Int) < ((s).length : Int))) && (((((s.getD (k) 0).toNat : Int)) != (32 : Int)))))) rfl rfl (r_pick rfl rfl (pick_and _ _)) ?_
  refine l_nil ?_
  refine n_then ?_
  refine c_cond (e := ((decide (((k : Nat) : Int) < ((s).length : Int))) && (((((s.getD (k) 0).toNat : Int)) != (32 : Int))))) rfl (fun hc6 => ?_) (fun hc6 => ?_)
  · try simp only [decide_eq_true_eq, decide_eq_false_iff_not, Bool.and_eq_true, Bool.or_eq_true, Bool.and_eq_false_iff, Bool.or_eq_false_iff, Bool.not_eq_true', Bool.not_eq_false', beq_iff_eq, bne_iff_ne, ne_eq, beq_eq_false_iff_ne, bne_eq_false_iff_eq, gt_iff_lt, ge_iff_le, Int.not_lt, Int.not_le] at hc6
    have hall2 : ∀ j, j < k + 1 → s.getD j 0 ≠ 32 := by
      intro j hj
      by_cases hjk : j = k
      · rw [hjk]; exact fun hh_ => by have h2_ := (u8_eq (x := s.getD k 0) (n := 32) (by omega)).2 hh_; omega
      · exact hall j (by omega)
    refine wp_skip ?_
    refine n_then ?_
    refine wp_block ?_
    refine r_start ?_
    refine l_v (v := .int .i64 ((k : Nat) : Int)) rfl rfl (by kernel_rfl) ?_
    refine l_v (v := .int .i64 (((k : Nat) : Int) + 1)) rfl rfl (r_add (r := ((k : Nat) : Int) + 1) rfl rfl rfl (by omega) (by simp only [min_i64]; omega) (by simp only [max_i64]; omega)) ?_
    refine l_v (v := .int .i64 (((k : Nat) : Int) + 1)) rfl rfl (by kernel_rfl) ?_
    refine l_nil ?_
    refine n_block ?_
    refine n_then ?_
    exact hK2 _ _ _ (by omega) ⟨_, (k + 1), mk_eq (by kernel_rfl), rfl, hE5, (by omega), hall2, hkb_g⟩
  · try simp only [decide_eq_true_eq, decide_eq_false_iff_not, Bool.and_eq_true, Bool.or_eq_true, Bool.and_eq_false_iff, Bool.or_eq_false_iff, Bool.not_eq_true', Bool.not_eq_false', beq_iff_eq, bne_iff_ne, ne_eq, beq_eq_false_iff_ne, bne_eq_false_iff_eq, gt_iff_lt, ge_iff_le, Int.not_lt, Int.not_le] at hc6
    have hor_ : s.length ≤ k ∨ s.getD k 0 = 32 := by
      by_cases hq_ : s.length ≤ k
      · exact .inl hq_
      · exact .inr ((u8_eq (n := 32) (by omega)).1 (by omega))
    obtain ⟨hq1, hq2⟩ := letters_at (s := s) (k := k) hk hall hor_
    refine wp_exit ?_
    refine e_then ?_
    refine e_then ?_
    refine e_hit ?_
    refine n_then ?_
    refine wp_seq ?_
    refine r_start ?_
    refine l_v (v := .pointer (some ⟨g, 0, none⟩)) rfl rfl (by kernel_rfl) ?_
    refine l_v (v := .pointer (some ⟨g, 0, none⟩)) rfl rfl (by kernel_rfl) ?_
    refine l_v (v := .pointer (some ⟨g, 0, none⟩)) rfl rfl (r_field rfl rfl Tryz.underlying96 rfl (by kernel_rfl) rfl) ?_
    refine l_v (v := .string ⟨(s).toArray⟩) rfl rfl (r_load rfl rfl Tryz.underlying9 rfl (cell_at hkb_g rfl)) ?_
    refine l_v (v := .int .i64 ((k : Nat) : Int)) rfl rfl (by kernel_rfl) ?_
    refine l_v (v := .string ⟨(s.take (k)).toArray⟩) rfl rfl (r_shi (j := k) rfl rfl rfl Tryz.underlying9 (by omega) (by omega)) ?_
    refine l_v (v := .string ⟨(s.take (k)).toArray⟩) rfl rfl (by kernel_rfl) ?_
    refine l_nil ?_
    refine n_then ?_
    refine wp_seq ?_
    refine r_start ?_
    refine l_v (v := .pointer (some ⟨g, 0, none⟩)) rfl rfl (by kernel_rfl) ?_
    refine l_v (v := .pointer (some ⟨g, 0, none⟩)) rfl rfl (by kernel_rfl) ?_
    refine l_v (v := .pointer (some ⟨g, 0, none⟩)) rfl rfl (by kernel_rfl) ?_
    refine l_v (v := .pointer (some ⟨g, 0, none⟩)) rfl rfl (r_field rfl rfl Tryz.underlying96 rfl (by kernel_rfl) rfl) ?_
    refine l_v (v := .string ⟨(s).toArray⟩) rfl rfl (r_load rfl rfl Tryz.underlying9 rfl (cell_at hkb_g rfl)) ?_
    refine l_v (v := .int .i64 ((k : Nat) : Int)) rfl rfl (by kernel_rfl) ?_
    refine l_v (v := .string ⟨(s.drop (k)).toArray⟩) rfl rfl (r_slo (j := k) rfl rfl rfl Tryz.underlying9 (by omega) (by omega)) ?_
    refine l_v (v := .pointer (some ⟨g, 0, none⟩)) rfl rfl (by kernel_rfl) ?_
    refine l_v (v := .pointer (some ⟨g, 0, none⟩)) rfl rfl (r_field rfl rfl Tryz.underlying96 rfl (by kernel_rfl) rfl) ?_
    refine l_store rfl rfl rfl (g := g) (off := 0) (v := .string ⟨(s.drop (k)).toArray⟩) (arr := #[.string ⟨(s.drop (k)).toArray⟩, .bool bad]) rfl rfl (by kernel_rfl) hkb_g rfl (by simp [Value.cells, Value.oneCell']) rfl (fun w7 p8 => ?_)
    have p8z := p8.sz
    refine l_nil ?_
    refine n_then ?_
    refine wp_seq ?_
    refine r_start ?_
    refine l_v (v := .string ⟨(s.take (k)).toArray⟩) rfl rfl (by kernel_rfl) ?_
    refine l_v (v := .string ⟨(s.take (k)).toArray⟩) rfl rfl (by kernel_rfl) ?_
    refine l_nil ?_
    refine n_then ?_
    refine wp_ret ?_
    have hE9 : Fr [g] w w7 := (hE5.trans p8.fr)
    have hE9z := hE9.size
    exact end_ret (v := .string ⟨(s.take (k)).toArray⟩) (res1 rfl rfl) ⟨_, rfl, ⟨by rw [hq1], hE9, by rw [← hq2]; exact p8.at_⟩⟩

/-- ref31.Reader.word -/
theorem rword_calls (w : World) (g : Nat) (s : List UInt8) (bad : Bool) (hb : Rr w g s bad) (hl : s.length ≤ 1048576) :
    Does Tryz.prog 49 #[.pointer (some ⟨g, 0, none⟩)] w fun r w' => By (fun b => w.heap.size ≤ b) w' r (unqR (bS s)).1 ∧ Fr [g] w w' ∧ Rr w' g (unqR (bS s)).2.1 (bad || bB s || !(unqR (bS s)).2.2) := by
  have hgl : g < w.heap.size := (Array.getElem?_eq_some_iff.1 hb).1
  have hbs := bS_len s
  have hlw := lW_len s
  have hlr := lR_len s
  refine Does.of (fn_in (l := [.pointer (some ⟨g, 0, none⟩)]) Tryz.func49 rfl Tryz.ntmps49 rfl ?_)
  refine wp_seq ?_
  refine r_start ?_
  refine l_v (v := .slice none 0 0) rfl rfl (by kernel_rfl) ?_
  refine l_nil ?_
  refine n_then ?_
  refine wp_seq ?_
  refine r_start ?_
  refine l_v (v := .pointer (some ⟨g, 0, none⟩)) rfl rfl (by kernel_rfl) ?_
  have hl1 := bS_len s
  have hl2 := lW_len s
  have hl3 := lR_len s
  refine l_call rfl rfl (r_call (args := #[.pointer (some ⟨g, 0, none⟩)]) rfl e46 (am rfl)) (blank_calls w g s bad hb (by omega)) (fun v5 w6 h4 => ?_)
  obtain ⟨rfl, h4f, h4b⟩ := h4
  have h4z := h4f.size
  refine l_nil ?_
  refine n_then ?_
  refine wp_seq ?_
  refine r_start ?_
  refine l_v (v := .pointer (some ⟨g, 0, none⟩)) rfl rfl (by kernel_rfl) ?_
  refine l_v (v := .pointer (some ⟨g, 0, none⟩)) rfl rfl (by kernel_rfl) ?_
  refine l_v (v := .pointer (some ⟨g, 0, none⟩)) rfl rfl (r_field rfl rfl Tryz.underlying96 rfl (by kernel_rfl) rfl) ?_
  refine l_v (v := .string ⟨(bS s).toArray⟩) rfl rfl (r_load rfl rfl Tryz.underlying9 rfl (cell_at h4b rfl)) ?_
  refine l_call rfl rfl (r_call (args := #[.string ⟨(bS s).toArray⟩]) rfl e68 (am rfl)) (rUnquote_calls w6 (bS s) (by omega)) (fun v8 w9 h7 => ?_)
  obtain ⟨h7x, rfl, h7B, h7f⟩ := h7
  have h7z := h7f.size
  have h7l := unqR_len (bS s)
  refine l_v (v := .tuple #[h7x, .string ⟨((unqR (bS s)).2.1).toArray⟩, .bool ((unqR (bS s)).2.2)]) rfl rfl (by kernel_rfl) ?_
  refine l_v (v := h7x) rfl rfl (by kernel_rfl) ?_
  refine l_v (v := .string ⟨((unqR (bS s)).2.1).toArray⟩) rfl rfl (by kernel_rfl) ?_
  refine l_v (v := .bool ((unqR (bS s)).2.2)) rfl rfl (by kernel_rfl) ?_
  refine l_v (v := h7x) rfl rfl (by kernel_rfl) ?_
  refine l_v (v := .string ⟨((unqR (bS s)).2.1).toArray⟩) rfl rfl (by kernel_rfl) ?_
  refine l_v (v := .bool ((unqR (bS s)).2.2)) rfl rfl (by kernel_rfl) ?_
  refine l_nil ?_
  refine n_then ?_
  refine wp_seq ?_
  refine wp_seq ?_
  refine r_start ?_
  refine l_v (v := .bool ((unqR (bS s)).2.2)) rfl rfl (by kernel_rfl) ?_
  refine l_v (v := .bool ((!((unqR (bS s)).2.2)))) rfl rfl (by kernel_rfl) ?_
  refine l_nil ?_
  refine n_then ?_
  refine c_cond (e := (!((unqR (bS s)).2.2))) rfl (fun hc10 => ?_) (fun hc10 => ?_)
  · refine r_start ?_
    refine l_v (v := .pointer (some ⟨g, 0, none⟩)) rfl rfl (by kernel_rfl) ?_
    refine l_v (v := .pointer (some ⟨g, 0, none⟩)) rfl rfl (by kernel_rfl) ?_
    refine l_v (v := .pointer (some ⟨g, 1, none⟩)) rfl rfl (r_field rfl rfl Tryz.underlying96 rfl (by kernel_rfl) rfl) ?_
    have hb11 := (h7f.at0 h4b)
    refine l_store rfl rfl rfl (g := g) (off := 1) (v := .bool true) (arr := #[.string ⟨(bS s).toArray⟩, .bool true]) rfl rfl (by kernel_rfl) hb11 rfl (by simp [Value.cells, Value.oneCell']) rfl (fun w12 p13 => ?_)
    have p13z := p13.sz
    refine l_nil ?_
    refine n_then ?_
    refine wp_seq ?_
    refine r_start ?_
    refine l_v (v := .pointer (some ⟨g, 0, none⟩)) rfl rfl (by kernel_rfl) ?_
    refine l_v (v := .string ⟨((unqR (bS s)).2.1).toArray⟩) rfl rfl (by kernel_rfl) ?_
    refine l_v (v := .pointer (some ⟨g, 0, none⟩)) rfl rfl (by kernel_rfl) ?_
    refine l_v (v := .pointer (some ⟨g, 0, none⟩)) rfl rfl (r_field rfl rfl Tryz.underlying96 rfl (by kernel_rfl) rfl) ?_
    refine l_store rfl rfl rfl (g := g) (off := 0) (v := .string ⟨((unqR (bS s)).2.1).toArray⟩) (arr := #[.string ⟨((unqR (bS s)).2.1).toArray⟩, .bool true]) rfl rfl (by kernel_rfl) p13.at_ rfl (by simp [Value.cells, Value.oneCell']) rfl (fun w14 p15 => ?_)
    have p15z := p15.sz
    refine l_nil ?_
    refine n_then ?_
    refine wp_seq ?_
    refine r_start ?_
    refine l_v (v := h7x) rfl rfl (by kernel_rfl) ?_
    refine l_v (v := h7x) rfl rfl (by kernel_rfl) ?_
    refine l_nil ?_
    refine n_then ?_
    refine wp_ret ?_
    have hd16 := ((h7B.fr p13.fr (by intro g_ hg_; have hg2_ : w6.heap.size ≤ g_ := hg_; simp only [List.mem_singleton]; omega)).fr p15.fr (by intro g_ hg_; have hg2_ : w6.heap.size ≤ g_ := hg_; simp only [List.mem_singleton]; omega))
    have hE17 : Fr [g] w w14 := (((((Fr.refl [g] w).trans h4f).trans h7f.any).trans p13.fr).trans p15.fr)
    have hE17z := hE17.size
    exact end_ret (v := h7x) (res1 rfl rfl) ⟨_, rfl, ⟨Sl.weak hd16 (fun g_ _ hg_ => by have hg2_ : w6.heap.size ≤ g_ := hg_; show w.heap.size ≤ g_; omega), hE17, by have hq_ := hc10; first | (rw [Bool.not_eq_true'] at hq_; rw [hq_]; simpa using p15.at_) | (rw [Bool.not_eq_false'] at hq_; rw [hq_]; simpa using p15.at_)⟩⟩
  · refine wp_skip ?_
    refine n_then ?_
    refine wp_seq ?_
    refine r_start ?_
    refine l_v (v := .pointer (some ⟨g, 0, none⟩)) rfl rfl (by kernel_rfl) ?_
    refine l_v (v := .string ⟨((unqR (bS s)).2.1).toArray⟩) rfl rfl (by kernel_rfl) ?_
    refine l_v (v := .pointer (some ⟨g, 0, none⟩)) rfl rfl (by kernel_rfl) ?_
    refine l_v (v := .pointer (some ⟨g, 0, none⟩)) rfl rfl (r_field rfl rfl Tryz.underlying96 rfl (by kernel_rfl) rfl) ?_
    have hb18 := (h7f.at0 h4b)
    refine l_store rfl rfl rfl (g := g) (off := 0) (v := .string ⟨((unqR (bS s)).2.1).toArray⟩) (arr := #[.string ⟨((unqR (bS s)).2.1).toArray⟩, .bool (bad || bB s)]) rfl rfl (by kernel_rfl) hb18 rfl (by simp [Value.cells, Value.oneCell']) rfl (fun w19 p20 => ?_)
    have p20z := p20.sz
    refine l_nil ?_
    refine n_then ?_
    refine wp_seq ?_
    refine r_start ?_
    refine l_v (v := h7x) rfl rfl (by kernel_rfl) ?_
    refine l_v (v := h7x) rfl rfl (by kernel_rfl) ?_
    refine l_nil ?_
    refine n_then ?_
    refine wp_ret ?_
    have hd21 := (h7B.fr p20.fr (by intro g_ hg_; have hg2_ : w6.heap.size ≤ g_ := hg_; simp only [List.mem_singleton]; omega))
    have hE22 : Fr [g] w w19 := ((((Fr.refl [g] w).trans h4f).trans h7f.any).trans p20.fr)
    have hE22z := hE22.size
    exact end_ret (v := h7x) (res1 rfl rfl) ⟨_, rfl, ⟨Sl.weak hd21 (fun g_ _ hg_ => by have hg2_ : w6.heap.size ≤ g_ := hg_; show w.heap.size ≤ g_; omega), hE22, by have hq_ := hc10; first | (rw [Bool.not_eq_true'] at hq_; rw [hq_]; simpa using p20.at_) | (rw [Bool.not_eq_false'] at hq_; rw [hq_]; simpa using p20.at_)⟩⟩

/-- ref31.Reader.kind -/
theorem rkind_calls (w : World) (g : Nat) (s : List UInt8) (bad : Bool) (hb : Rr w g s bad) (hl : s.length ≤ 1048576) :
    Does Tryz.prog 45 #[.pointer (some ⟨g, 0, none⟩)] w fun r w' => r = .int .i64 (kindR (lettersW s)) ∧ Fr [g] w w' ∧ Rr w' g (lettersR s) (bad || decide (kindOf (lettersW s) < 1)) := by
  have hgl : g < w.heap.size := (Array.getElem?_eq_some_iff.1 hb).1
  have hbs := bS_len s
  have hlw := lW_len s
  have hlr := lR_len s
  refine Does.of (fn_in (l := [.pointer (some ⟨g, 0, none⟩)]) Tryz.func45 rfl Tryz.ntmps45 rfl ?_)
  refine wp_seq ?_
  refine r_start ?_
  refine l_v (v := .int .i64 0) rfl rfl (by kernel_rfl) ?_
  refine l_nil ?_
  refine n_then ?_
  refine wp_seq ?_
  refine r_start ?_
  refine l_v (v := .pointer (some ⟨g, 0, none⟩)) rfl rfl (by kernel_rfl) ?_
  have hl1 := bS_len s
  have hl2 := lW_len s
  have hl3 := lR_len s
  refine l_call rfl rfl (r_call (args := #[.pointer (some ⟨g, 0, none⟩)]) rfl e47 (am rfl)) (letters_calls w g s bad hb (by omega)) (fun v5 w6 h4 => ?_)
  obtain ⟨rfl, h4f, h4b⟩ := h4
  have h4z := h4f.size
  refine l_v (v := .string ⟨(lettersW s).toArray⟩) rfl rfl (by kernel_rfl) ?_
  refine l_nil ?_
  refine n_then ?_
  refine wp_seq ?_
  refine wp_seq ?_
  refine r_start ?_
  refine l_v (v := .int .i64 1) rfl rfl (by kernel_rfl) ?_
  refine l_nil ?_
  refine n_then ?_
  refine wp_block ?_
  have hE11 : Fr [g] w w6 := ((Fr.refl [g] w).trans h4f)
  have hE11z := hE11.size
  refine c_loop (fun m_ a_ w_ => ∃ u_ : Nat → Value, ∃ k : Nat, a_ = mk [] 19 u_ [(4, .int .i64 ((k : Nat) : Int)), (0, .pointer (some ⟨g, 0, none⟩)), (3, .string ⟨(lettersW s).toArray⟩), (5, .pointer (some ⟨g, 0, none⟩)), (6, .string ⟨(lettersW s).toArray⟩)] ∧ m_ = 10 - k ∧ Fr [g] w w_ ∧ (1 ≤ k ∧ k ≤ 10) ∧ (∀ j : Nat, 1 ≤ j → j < k → nameL (j : Int) ≠ lettersW s) ∧ (w_.heap[g]? = some (.cells #[.string ⟨(lettersR s).toArray⟩, .bool bad] 96 (0, 0)))) (10 - 1) ⟨_, 1, mk_eq (by kernel_rfl), rfl, hE11, ⟨Nat.le_refl _, by omega⟩, by intro j h1 h2; omega, h4b⟩ ?_
  rintro m9 _ wr7 ⟨u_, k, rfl, hm10, hE12, hk, hall, hkb_g⟩ K_ hK8
  have hE12z := hE12.size
  refine wp_seq ?_
  refine wp_seq ?_
  refine r_start ?_
  refine l_v (v := .int .i64 ((k : Nat) : Int)) rfl rfl (by kernel_rfl) ?_
  refine l_v (v := .bool (decide (((k : Nat) : Int) ≤ (9 : Int)))) rfl rfl (by kernel_rfl) ?_
  refine l_nil ?_
  refine n_then ?_
  refine c_cond (e := decide (((k : Nat) : Int) ≤ (9 : Int))) rfl (fun hc13 => ?_) (fun hc13 => ?_)
  · try simp only [decide_eq_true_eq, decide_eq_false_iff_not, Bool.and_eq_true, Bool.or_eq_true, Bool.and_eq_false_iff, Bool.or_eq_false_iff, Bool.not_eq_true', Bool.not_eq_false', beq_iff_eq, bne_iff_ne, ne_eq, beq_eq_false_iff_ne, bne_eq_false_iff_eq, gt_iff_lt, ge_iff_le, Int.not_lt, Int.not_le] at hc13
    refine wp_skip ?_
    refine n_then ?_
    refine wp_seq ?_
    refine wp_block ?_
    refine wp_seq ?_
    refine r_start ?_
    refine l_v (v := .int .i64 ((k : Nat) : Int)) rfl rfl (by kernel_rfl) ?_
    refine l_call rfl rfl (r_call (args := #[.int .i64 ((k : Nat) : Int)]) rfl e36 (am rfl)) (rName_calls wr7 ((k : Nat) : Int) (by unfold i64; omega)) (fun v15 w16 h14 => ?_)
    obtain ⟨rfl, h14f⟩ := h14
    have h14z := h14f.size
    refine l_v (v := .string ⟨(lettersW s).toArray⟩) rfl rfl (by kernel_rfl) ?_
    refine l_v (v := .bool (decide (nameL ((k : Nat) : Int) = lettersW s))) rfl rfl (r_str_eql rfl rfl rfl) ?_
    refine l_nil ?_
    refine n_then ?_
    refine c_cond (e := decide (nameL ((k : Nat) : Int) = lettersW s)) rfl (fun hc17 => ?_) (fun hc17 => ?_)
    · try simp only [decide_eq_true_eq, decide_eq_false_iff_not, Bool.and_eq_true, Bool.or_eq_true, Bool.and_eq_false_iff, Bool.or_eq_false_iff, Bool.not_eq_true', Bool.not_eq_false', beq_iff_eq, bne_iff_ne, ne_eq, beq_eq_false_iff_ne, bne_eq_false_iff_eq, gt_iff_lt, ge_iff_le, Int.not_lt, Int.not_le] at hc17
      have hkn : kindOf (lettersW s) = (k : Int) := by rw [← hc17]; exact kind_name (by omega)
      have hkr : kindR (lettersW s) = (k : Int) := by unfold kindR; rw [if_neg (by omega), hkn]
      have hkd : decide (kindOf (lettersW s) < 1) = false := by rw [decide_eq_false_iff_not]; omega
      refine wp_seq ?_
      refine r_start ?_
      refine l_v (v := .int .i64 ((k : Nat) : Int)) rfl rfl (by kernel_rfl) ?_
      refine l_v (v := .int .i64 ((k : Nat) : Int)) rfl rfl (by kernel_rfl) ?_
      refine l_nil ?_
      refine n_then ?_
      refine wp_ret ?_
      refine t_block ?_
      refine t_then ?_
      refine t_then ?_
      refine t_block ?_
      refine t_then ?_
      have hb18 := (h14f.at0 hkb_g)
      have hE19 : Fr [g] w w16 := (hE12.trans h14f.any)
      have hE19z := hE19.size
      exact end_ret (v := .int .i64 ((k : Nat) : Int)) (res1 rfl rfl) ⟨_, rfl, ⟨by rw [hkr], hE19, by rw [hkd, Bool.or_false]; exact hb18⟩⟩
    · try simp only [decide_eq_true_eq, decide_eq_false_iff_not, Bool.and_eq_true, Bool.or_eq_true, Bool.and_eq_false_iff, Bool.or_eq_false_iff, Bool.not_eq_true', Bool.not_eq_false', beq_iff_eq, bne_iff_ne, ne_eq, beq_eq_false_iff_ne, bne_eq_false_iff_eq, gt_iff_lt, ge_iff_le, Int.not_lt, Int.not_le] at hc17
      refine wp_skip ?_
      refine n_block ?_
      refine n_then ?_
      refine r_start ?_
      refine l_v (v := .int .i64 ((k : Nat) : Int)) rfl rfl (by kernel_rfl) ?_
      refine l_v (v := .int .i64 (((k : Nat) : Int) + 1)) rfl rfl (r_add (r := ((k : Nat) : Int) + 1) rfl rfl rfl (by omega) (by simp only [min_i64]; omega) (by simp only [max_i64]; omega)) ?_
      refine l_v (v := .int .i64 (((k : Nat) : Int) + 1)) rfl rfl (by kernel_rfl) ?_
      refine l_nil ?_
      refine n_then ?_
      have hE20 : Fr [g] w w16 := (hE12.trans h14f.any)
      have hE20z := hE20.size
      have hb21 := (h14f.at0 hkb_g)
      exact hK8 _ _ _ (by omega) ⟨_, (k + 1), mk_eq (by kernel_rfl), rfl, hE20, (by omega), (by intro j h1 h2; by_cases hjk : j = k; subst hjk; exact hc17; exact hall j h1 (by omega)), hb21⟩
  · try simp only [decide_eq_true_eq, decide_eq_false_iff_not, Bool.and_eq_true, Bool.or_eq_true, Bool.and_eq_false_iff, Bool.or_eq_false_iff, Bool.not_eq_true', Bool.not_eq_false', beq_iff_eq, bne_iff_ne, ne_eq, beq_eq_false_iff_ne, bne_eq_false_iff_eq, gt_iff_lt, ge_iff_le, Int.not_lt, Int.not_le] at hc13
    have hkn := kind_no (s := lettersW s) (fun j h1 h2 => hall j h1 (by omega))
    have hkr : kindR (lettersW s) = 0 := by unfold kindR; rw [if_pos hkn]
    have hkd : decide (kindOf (lettersW s) < 1) = true := by rw [decide_eq_true_eq]; exact hkn
    refine wp_exit ?_
    refine e_then ?_
    refine e_then ?_
    refine e_hit ?_
    refine n_then ?_
    refine wp_seq ?_
    refine r_start ?_
    refine l_v (v := .pointer (some ⟨g, 0, none⟩)) rfl rfl (by kernel_rfl) ?_
    refine l_v (v := .pointer (some ⟨g, 0, none⟩)) rfl rfl (by kernel_rfl) ?_
    refine l_v (v := .pointer (some ⟨g, 1, none⟩)) rfl rfl (r_field rfl rfl Tryz.underlying96 rfl (by kernel_rfl) rfl) ?_
    refine l_store rfl rfl rfl (g := g) (off := 1) (v := .bool true) (arr := #[.string ⟨(lettersR s).toArray⟩, .bool true]) rfl rfl (by kernel_rfl) hkb_g rfl (by simp [Value.cells, Value.oneCell']) rfl (fun w22 p23 => ?_)
    have p23z := p23.sz
    refine l_nil ?_
    refine n_then ?_
    refine wp_seq ?_
    refine r_start ?_
    refine l_v (v := .int .i64 0) rfl rfl (by kernel_rfl) ?_
    refine l_nil ?_
    refine n_then ?_
    refine wp_ret ?_
    have hE24 : Fr [g] w w22 := (hE12.trans p23.fr)
    have hE24z := hE24.size
    exact end_ret (v := .int .i64 0) (res1 rfl rfl) ⟨_, rfl, ⟨by rw [hkr], hE24, by rw [hkd, Bool.or_true]; exact p23.at_⟩⟩

/-- ref31.Reader.number -/
theorem rnumber_calls (w : World) (g : Nat) (s : List UInt8) (bad : Bool) (hb : Rr w g s bad) (hl : s.length ≤ 1048576) :
    Does Tryz.prog 48 #[.pointer (some ⟨g, 0, none⟩)] w fun r w' => ∃ x, r = .int .i64 x ∧ i64 x ∧ (∀ v, numOk (lettersW (bS s)) = some v → x = v) ∧ Fr [g] w w' ∧ Rr w' g (lettersR (bS s)) (bad || bB s || (numOk (lettersW (bS s))).isNone) := by
  have hgl : g < w.heap.size := (Array.getElem?_eq_some_iff.1 hb).1
  have hbs := bS_len s
  have hlw := lW_len s
  have hlr := lR_len s
  refine Does.of (fn_in (l := [.pointer (some ⟨g, 0, none⟩)]) Tryz.func48 rfl Tryz.ntmps48 rfl ?_)
  refine wp_seq ?_
  refine r_start ?_
  refine l_v (v := .int .i64 0) rfl rfl (by kernel_rfl) ?_
  refine l_nil ?_
  refine n_then ?_
  refine wp_seq ?_
  refine r_start ?_
  refine l_v (v := .pointer (some ⟨g, 0, none⟩)) rfl rfl (by kernel_rfl) ?_
  have hl1 := bS_len s
  have hl2 := lW_len s
  have hl3 := lR_len s
  refine l_call rfl rfl (r_call (args := #[.pointer (some ⟨g, 0, none⟩)]) rfl e46 (am rfl)) (blank_calls w g s bad hb (by omega)) (fun v5 w6 h4 => ?_)
  obtain ⟨rfl, h4f, h4b⟩ := h4
  have h4z := h4f.size
  refine l_nil ?_
  refine n_then ?_
  refine wp_seq ?_
  refine r_start ?_
  refine l_v (v := .pointer (some ⟨g, 0, none⟩)) rfl rfl (by kernel_rfl) ?_
  have hl7 := bS_len (bS s)
  have hl8 := lW_len (bS s)
  have hl9 := lR_len (bS s)
  refine l_call rfl rfl (r_call (args := #[.pointer (some ⟨g, 0, none⟩)]) rfl e47 (am rfl)) (letters_calls w6 g (bS s) (bad || bB s) h4b (by omega)) (fun v11 w12 h10 => ?_)
  obtain ⟨rfl, h10f, h10b⟩ := h10
  have h10z := h10f.size
  refine l_v (v := .string ⟨(lettersW (bS s)).toArray⟩) rfl rfl (by kernel_rfl) ?_
  refine l_nil ?_
  refine n_then ?_
  refine wp_seq ?_
  refine r_start ?_
  refine l_v (v := .string ⟨(lettersW (bS s)).toArray⟩) rfl rfl (by kernel_rfl) ?_
  refine l_v (v := .string ⟨(lettersW (bS s)).toArray⟩) rfl rfl (by kernel_rfl) ?_
  refine l_nil ?_
  refine n_then ?_
  refine c_cut (fun a_ w_ => ∃ u_ : Nat → Value, ∃ d : List UInt8, a_ = mk [] 79 u_ [(4, .string ⟨(d).toArray⟩), (0, .pointer (some ⟨g, 0, none⟩)), (2, .int .i64 0), (3, .string ⟨(lettersW (bS s)).toArray⟩), (8, .pointer (some ⟨g, 0, none⟩)), (9, .tuple #[]), (10, .pointer (some ⟨g, 0, none⟩)), (11, .string ⟨(lettersW (bS s)).toArray⟩), (12, .string ⟨(lettersW (bS s)).toArray⟩)] ∧ Fr [g] w w_ ∧ (d = magOf (lettersW (bS s))) ∧ (w_.heap[g]? = some (.cells #[.string ⟨(lettersR (bS s)).toArray⟩, .bool (bad || bB s)] 96 (0, 0)))) ?_ ?_
  · refine wp_seq ?_
    refine r_start ?_
    refine l_v (v := .string ⟨(lettersW (bS s)).toArray⟩) rfl rfl (by kernel_rfl) ?_
    refine l_v (v := .int .i64 (((lettersW (bS s)).length : Int))) rfl rfl (r_lens rfl rfl Tryz.underlying9) ?_
    refine l_v (v := .bool (decide ((((lettersW (bS s)).length : Int)) > (0 : Int)))) rfl rfl (by kernel_rfl) ?_
    refine l_v (v := .bool (decide ((((lettersW (bS s)).length : Int)) > (0 : Int)))) rfl rfl (by kernel_rfl) ?_
    refine l_g (v := .string ⟨(lettersW (bS s)).toArray⟩) (want_1 rfl rfl rfl rfl) rfl (fun hW_ => (by kernel_rfl)) ?_
    refine l_g (v := .int .u8 ((((lettersW (bS s)).getD (0) 0).toNat : Int))) (want_1 rfl rfl rfl rfl) rfl (fun hW_ => (r_idx (j := 0) rfl (gd_true hW_ _) rfl Tryz.underlying9 (by omega) (getD_at (by have hW2_ := hW_; try simp only [decide_eq_true_eq, decide_eq_false_iff_not, Bool.and_eq_true, Bool.or_eq_true, Bool.and_eq_false_iff, Bool.or_eq_false_iff, Bool.not_eq_true', Bool.not_eq_false', beq_iff_eq, bne_iff_ne, ne_eq, beq_eq_false_iff_ne, bne_eq_false_iff_eq, gt_iff_lt, ge_iff_le, Int.not_lt, Int.not_le] at hW2_; omega)))) ?_
    refine l_g (v := .bool ((((((lettersW (bS s)).getD (0) 0).toNat : Int)) == (45 : Int)))) (want_1 rfl rfl rfl rfl) rfl (fun hW_ => (r_cmp rfl (gd_true hW_ _) rfl rfl)) ?_
    refine l_v (v := .bool (((decide ((((lettersW (bS s)).length : Int)) > (0 : Int))) && ((((((lettersW (bS s)).getD (0) 0).toNat : Int)) == (45 : Int)))))) rfl rfl (r_pick rfl rfl (pick_and _ _)) ?_
    refine l_nil ?_
    refine n_then ?_
    have hww := lW_len (bS s)
    refine c_cond (e := ((decide ((((lettersW (bS s)).length : Int)) > (0 : Int))) && ((((((lettersW (bS s)).getD (0) 0).toNat : Int)) == (45 : Int))))) rfl (fun hc14 => ?_) (fun hc14 => ?_)
    · try simp only [decide_eq_true_eq, decide_eq_false_iff_not, Bool.and_eq_true, Bool.or_eq_true, Bool.and_eq_false_iff, Bool.or_eq_false_iff, Bool.not_eq_true', Bool.not_eq_false', beq_iff_eq, bne_iff_ne, ne_eq, beq_eq_false_iff_ne, bne_eq_false_iff_eq, gt_iff_lt, ge_iff_le, Int.not_lt, Int.not_le] at hc14
      refine r_start ?_
      refine l_v (v := .string ⟨(lettersW (bS s)).toArray⟩) rfl rfl (by kernel_rfl) ?_
      refine l_v (v := .string ⟨((lettersW (bS s)).drop (1)).toArray⟩) rfl rfl (r_slo (j := 1) rfl rfl rfl Tryz.underlying9 (by omega) (by omega)) ?_
      refine l_v (v := .string ⟨((lettersW (bS s)).drop (1)).toArray⟩) rfl rfl (by kernel_rfl) ?_
      refine l_nil ?_
      refine n_then ?_
      have hE15 : Fr [g] w w12 := (((Fr.refl [g] w).trans h4f).trans h10f)
      have hE15z := hE15.size
      exact ⟨_, ((lettersW (bS s)).drop (1)), mk_eq (by kernel_rfl), hE15, (mag_at ⟨by omega, (u8_eq (n := 45) (by omega)).1 (by omega)⟩).symm, h10b⟩
    · try simp only [decide_eq_true_eq, decide_eq_false_iff_not, Bool.and_eq_true, Bool.or_eq_true, Bool.and_eq_false_iff, Bool.or_eq_false_iff, Bool.not_eq_true', Bool.not_eq_false', beq_iff_eq, bne_iff_ne, ne_eq, beq_eq_false_iff_ne, bne_eq_false_iff_eq, gt_iff_lt, ge_iff_le, Int.not_lt, Int.not_le] at hc14
      refine wp_skip ?_
      refine n_then ?_
      have hE16 : Fr [g] w w12 := (((Fr.refl [g] w).trans h4f).trans h10f)
      have hE16z := hE16.size
      exact ⟨_, (lettersW (bS s)), mk_eq (by kernel_rfl), hE16, (mag_not (by by_cases hq_ : (lettersW (bS s)).length = 0; exact .inl hq_; exact .inr (fun hh_ => by have h2_ := (u8_eq (x := (lettersW (bS s)).getD 0 0) (n := 45) (by omega)).2 hh_; omega))).symm, h10b⟩
  rintro _ wj13 ⟨u_, d, rfl, hE17, hd, hkb_g⟩
  have hE17z := hE17.size
  subst hd
  have hbs := bS_len s
  have hww := lW_len (bS s)
  have hmg := mag_len (lettersW (bS s))
  refine wp_seq ?_
  refine wp_seq ?_
  refine r_start ?_
  refine l_v (v := .string ⟨((magOf (lettersW (bS s)))).toArray⟩) rfl rfl (by kernel_rfl) ?_
  refine l_v (v := .int .i64 ((((magOf (lettersW (bS s)))).length : Int))) rfl rfl (r_lens rfl rfl Tryz.underlying9) ?_
  refine l_v (v := .bool ((((((magOf (lettersW (bS s)))).length : Int)) == (0 : Int)))) rfl rfl (by kernel_rfl) ?_
  refine l_v (v := .bool ((((((magOf (lettersW (bS s)))).length : Int)) == (0 : Int)))) rfl rfl (by kernel_rfl) ?_
  refine l_g (v := .string ⟨((magOf (lettersW (bS s)))).toArray⟩) (want_1 rfl rfl rfl rfl) rfl (fun hW_ => (by kernel_rfl)) ?_
  refine l_g (v := .int .i64 ((((magOf (lettersW (bS s)))).length : Int))) (want_1 rfl rfl rfl rfl) rfl (fun hW_ => (r_lens rfl (gd_true hW_ _) Tryz.underlying9)) ?_
  refine l_g (v := .bool (decide (((((magOf (lettersW (bS s)))).length : Int)) > (19 : Int)))) (want_1 rfl rfl rfl rfl) rfl (fun hW_ => (r_cmp rfl (gd_true hW_ _) rfl rfl)) ?_
  refine l_v (v := .bool ((((((((magOf (lettersW (bS s)))).length : Int)) == (0 : Int))) || (decide (((((magOf (lettersW (bS s)))).length : Int)) > (19 : Int)))))) rfl rfl (r_pick rfl rfl (pick_or _ _)) ?_
  refine l_nil ?_
  refine n_then ?_
  refine c_cond (e := (((((((magOf (lettersW (bS s)))).length : Int)) == (0 : Int))) || (decide (((((magOf (lettersW (bS s)))).length : Int)) > (19 : Int))))) rfl (fun hc18 => ?_) (fun hc18 => ?_)
  · try simp only [decide_eq_true_eq, decide_eq_false_iff_not, Bool.and_eq_true, Bool.or_eq_true, Bool.and_eq_false_iff, Bool.or_eq_false_iff, Bool.not_eq_true', Bool.not_eq_false', beq_iff_eq, bne_iff_ne, ne_eq, beq_eq_false_iff_ne, bne_eq_false_iff_eq, gt_iff_lt, ge_iff_le, Int.not_lt, Int.not_le] at hc18
    have hno : numOk (lettersW (bS s)) = none := num_no (by rcases hc18 with h_ | h_; exact .inl (by omega); exact .inr (.inl (by omega)))
    refine wp_seq ?_
    refine r_start ?_
    refine l_v (v := .pointer (some ⟨g, 0, none⟩)) rfl rfl (by kernel_rfl) ?_
    refine l_v (v := .pointer (some ⟨g, 0, none⟩)) rfl rfl (by kernel_rfl) ?_
    refine l_v (v := .pointer (some ⟨g, 1, none⟩)) rfl rfl (r_field rfl rfl Tryz.underlying96 rfl (by kernel_rfl) rfl) ?_
    refine l_store rfl rfl rfl (g := g) (off := 1) (v := .bool true) (arr := #[.string ⟨(lettersR (bS s)).toArray⟩, .bool true]) rfl rfl (by kernel_rfl) hkb_g rfl (by simp [Value.cells, Value.oneCell']) rfl (fun w19 p20 => ?_)
    have p20z := p20.sz
    refine l_nil ?_
    refine n_then ?_
    refine wp_seq ?_
    refine r_start ?_
    refine l_v (v := .int .i64 0) rfl rfl (by kernel_rfl) ?_
    refine l_nil ?_
    refine n_then ?_
    refine wp_ret ?_
    refine t_then ?_
    have hE21 : Fr [g] w w19 := (hE17.trans p20.fr)
    have hE21z := hE21.size
    exact end_ret (v := .int .i64 0) (res1 rfl rfl) ⟨_, rfl, ⟨0, rfl, by unfold i64; omega, (by rw [hno]; intro v hv; cases hv), hE21, (by rw [hno]; simpa using p20.at_)⟩⟩
  · try simp only [decide_eq_true_eq, decide_eq_false_iff_not, Bool.and_eq_true, Bool.or_eq_true, Bool.and_eq_false_iff, Bool.or_eq_false_iff, Bool.not_eq_true', Bool.not_eq_false', beq_iff_eq, bne_iff_ne, ne_eq, beq_eq_false_iff_ne, bne_eq_false_iff_eq, gt_iff_lt, ge_iff_le, Int.not_lt, Int.not_le] at hc18
    have hl0 : 1 ≤ (magOf (lettersW (bS s))).length := by omega
    have hl19 : (magOf (lettersW (bS s))).length ≤ 19 := by omega
    refine wp_skip ?_
    refine n_then ?_
    refine wp_seq ?_
    refine r_start ?_
    refine l_v (v := .int .u64 0) rfl rfl (by kernel_rfl) ?_
    refine l_nil ?_
    refine n_then ?_
    refine wp_seq ?_
    refine wp_seq ?_
    refine r_start ?_
    refine l_v (v := .int .i64 0) rfl rfl (by kernel_rfl) ?_
    refine l_nil ?_
    refine n_then ?_
    refine wp_block ?_
    refine c_loop (fun m_ a_ w_ => ∃ u_ : Nat → Value, ∃ k : Nat, ∃ u : Nat, a_ = mk [] 79 u_ [(5, .int .u64 ((u : Nat) : Int)), (6, .int .i64 ((k : Nat) : Int)), (0, .pointer (some ⟨g, 0, none⟩)), (3, .string ⟨(lettersW (bS s)).toArray⟩), (4, .string ⟨((magOf (lettersW (bS s)))).toArray⟩), (8, .pointer (some ⟨g, 0, none⟩)), (9, .tuple #[]), (10, .pointer (some ⟨g, 0, none⟩)), (11, .string ⟨(lettersW (bS s)).toArray⟩), (12, .string ⟨(lettersW (bS s)).toArray⟩), (23, .string ⟨((magOf (lettersW (bS s)))).toArray⟩), (24, .int .i64 ((((magOf (lettersW (bS s)))).length : Int))), (25, .bool ((((((magOf (lettersW (bS s)))).length : Int)) == (0 : Int)))), (26, .bool ((((((magOf (lettersW (bS s)))).length : Int)) == (0 : Int)))), (30, .bool ((((((((magOf (lettersW (bS s)))).length : Int)) == (0 : Int))) || (decide (((((magOf (lettersW (bS s)))).length : Int)) > (19 : Int))))))] ∧ m_ = (magOf (lettersW (bS s))).length - k ∧ Fr [g] w w_ ∧ (k ≤ (magOf (lettersW (bS s))).length) ∧ (u = decV ((magOf (lettersW (bS s))).take k) 0) ∧ (∀ c ∈ (magOf (lettersW (bS s))).take k, 48 ≤ c.toNat ∧ c.toNat ≤ 57) ∧ (w_.heap[g]? = some (.cells #[.string ⟨(lettersR (bS s)).toArray⟩, .bool (bad || bB s)] 96 (0, 0)))) ((magOf (lettersW (bS s))).length - 0) ⟨_, 0, 0, mk_eq (by kernel_rfl), rfl, hE17, Nat.zero_le _, rfl, by intro c hc; simp at hc, hkb_g⟩ ?_
    rintro m24 _ wr22 ⟨u_, k, u, rfl, hm25, hE26, hk, hu, hdg, hkb_g⟩ K_ hK23
    have hE26z := hE26.size
    have hult : u < 10000000000000000000 := by
      have h_ := decV_lt ((magOf (lettersW (bS s))).take k) (fun c hc => (hdg c hc).2)
      rw [← hu] at h_
      have h2_ : (10 : Nat) ^ ((magOf (lettersW (bS s))).take k).length ≤ 10 ^ 19 := Nat.pow_le_pow_right (by decide) (by rw [List.length_take]; omega)
      have h3_ : (10 : Nat) ^ 19 = 10000000000000000000 := by decide
      omega
    refine wp_seq ?_
    refine wp_seq ?_
    refine r_start ?_
    refine l_v (v := .int .i64 ((k : Nat) : Int)) rfl rfl (by kernel_rfl) ?_
    refine l_v (v := .string ⟨((magOf (lettersW (bS s)))).toArray⟩) rfl rfl (by kernel_rfl) ?_
    refine l_v (v := .int .i64 ((((magOf (lettersW (bS s)))).length : Int))) rfl rfl (r_lens rfl rfl Tryz.underlying9) ?_
    refine l_v (v := .bool (decide (((k : Nat) : Int) < ((((magOf (lettersW (bS s)))).length : Int))))) rfl rfl (by kernel_rfl) ?_
    refine l_nil ?_
    refine n_then ?_
    refine c_cond (e := decide (((k : Nat) : Int) < ((((magOf (lettersW (bS s)))).length : Int)))) rfl (fun hc27 => ?_) (fun hc27 => ?_)
    · try simp only [decide_eq_true_eq, decide_eq_false_iff_not, Bool.and_eq_true, Bool.or_eq_true, Bool.and_eq_false_iff, Bool.or_eq_false_iff, Bool.not_eq_true', Bool.not_eq_false', beq_iff_eq, bne_iff_ne, ne_eq, beq_eq_false_iff_ne, bne_eq_false_iff_eq, gt_iff_lt, ge_iff_le, Int.not_lt, Int.not_le] at hc27
      have hget := getD_at (l := magOf (lettersW (bS s))) (j := k) (by omega)
      have hgm : (magOf (lettersW (bS s))).getD k 0 ∈ magOf (lettersW (bS s)) := List.mem_of_getElem? hget
      have hb8 := UInt8.toNat_lt ((magOf (lettersW (bS s))).getD k 0)
      refine wp_skip ?_
      refine n_then ?_
      refine wp_seq ?_
      refine wp_block ?_
      refine wp_seq ?_
      refine wp_seq ?_
      refine r_start ?_
      refine l_v (v := .string ⟨((magOf (lettersW (bS s)))).toArray⟩) rfl rfl (by kernel_rfl) ?_
      refine l_v (v := .int .i64 ((k : Nat) : Int)) rfl rfl (by kernel_rfl) ?_
      refine l_v (v := .int .u8 (((((magOf (lettersW (bS s)))).getD (k) 0).toNat : Int))) rfl rfl (r_idx (j := k) rfl rfl rfl Tryz.underlying9 (by omega) (getD_at (by omega))) ?_
      refine l_v (v := .bool (decide ((((((magOf (lettersW (bS s)))).getD (k) 0).toNat : Int)) < (48 : Int)))) rfl rfl (by kernel_rfl) ?_
      refine l_v (v := .bool (decide ((((((magOf (lettersW (bS s)))).getD (k) 0).toNat : Int)) < (48 : Int)))) rfl rfl (by kernel_rfl) ?_
      refine l_g (v := .string ⟨((magOf (lettersW (bS s)))).toArray⟩) (want_1 rfl rfl rfl rfl) rfl (fun hW_ => (by kernel_rfl)) ?_
      refine l_g (v := .int .i64 ((k : Nat) : Int)) (want_1 rfl rfl rfl rfl) rfl (fun hW_ => (by kernel_rfl)) ?_
      refine l_g (v := .int .u8 (((((magOf (lettersW (bS s)))).getD (k) 0).toNat : Int))) (want_1 rfl rfl rfl rfl) rfl (fun hW_ => (r_idx (j := k) rfl (gd_true hW_ _) (gd_true hW_ _) Tryz.underlying9 (by omega) (getD_at (by have hW2_ := hW_; try simp only [decide_eq_true_eq, decide_eq_false_iff_not, Bool.and_eq_true, Bool.or_eq_true, Bool.and_eq_false_iff, Bool.or_eq_false_iff, Bool.not_eq_true', Bool.not_eq_false', beq_iff_eq, bne_iff_ne, ne_eq, beq_eq_false_iff_ne, bne_eq_false_iff_eq, gt_iff_lt, ge_iff_le, Int.not_lt, Int.not_le] at hW2_; omega)))) ?_
      refine l_g (v := .bool (decide ((((((magOf (lettersW (bS s)))).getD (k) 0).toNat : Int)) > (57 : Int)))) (want_1 rfl rfl rfl rfl) rfl (fun hW_ => (r_cmp rfl (gd_true hW_ _) rfl rfl)) ?_
      refine l_v (v := .bool (((decide ((((((magOf (lettersW (bS s)))).getD (k) 0).toNat : Int)) < (48 : Int))) || (decide ((((((magOf (lettersW (bS s)))).getD (k) 0).toNat : Int)) > (57 : Int)))))) rfl rfl (r_pick rfl rfl (pick_or _ _)) ?_
      refine l_nil ?_
      refine n_then ?_
      refine c_cond (e := ((decide ((((((magOf (lettersW (bS s)))).getD (k) 0).toNat : Int)) < (48 : Int))) || (decide ((((((magOf (lettersW (bS s)))).getD (k) 0).toNat : Int)) > (57 : Int))))) rfl (fun hc28 => ?_) (fun hc28 => ?_)
      · try simp only [decide_eq_true_eq, decide_eq_false_iff_not, Bool.and_eq_true, Bool.or_eq_true, Bool.and_eq_false_iff, Bool.or_eq_false_iff, Bool.not_eq_true', Bool.not_eq_false', beq_iff_eq, bne_iff_ne, ne_eq, beq_eq_false_iff_ne, bne_eq_false_iff_eq, gt_iff_lt, ge_iff_le, Int.not_lt, Int.not_le] at hc28
        have hno : numOk (lettersW (bS s)) = none := num_no (.inr (.inr ⟨_, hgm, by omega⟩))
        refine wp_seq ?_
        refine r_start ?_
        refine l_v (v := .pointer (some ⟨g, 0, none⟩)) rfl rfl (by kernel_rfl) ?_
        refine l_v (v := .pointer (some ⟨g, 0, none⟩)) rfl rfl (by kernel_rfl) ?_
        refine l_v (v := .pointer (some ⟨g, 1, none⟩)) rfl rfl (r_field rfl rfl Tryz.underlying96 rfl (by kernel_rfl) rfl) ?_
        refine l_store rfl rfl rfl (g := g) (off := 1) (v := .bool true) (arr := #[.string ⟨(lettersR (bS s)).toArray⟩, .bool true]) rfl rfl (by kernel_rfl) hkb_g rfl (by simp [Value.cells, Value.oneCell']) rfl (fun w29 p30 => ?_)
        have p30z := p30.sz
        refine l_nil ?_
        refine n_then ?_
        refine wp_seq ?_
        refine r_start ?_
        refine l_v (v := .int .i64 0) rfl rfl (by kernel_rfl) ?_
        refine l_nil ?_
        refine n_then ?_
        refine wp_ret ?_
        refine t_then ?_
        refine t_block ?_
        refine t_then ?_
        refine t_then ?_
        refine t_block ?_
        refine t_then ?_
        have hE31 : Fr [g] w w29 := (hE26.trans p30.fr)
        have hE31z := hE31.size
        exact end_ret (v := .int .i64 0) (res1 rfl rfl) ⟨_, rfl, ⟨0, rfl, by unfold i64; omega, (by rw [hno]; intro v hv; cases hv), hE31, (by rw [hno]; simpa using p30.at_)⟩⟩
      · try simp only [decide_eq_true_eq, decide_eq_false_iff_not, Bool.and_eq_true, Bool.or_eq_true, Bool.and_eq_false_iff, Bool.or_eq_false_iff, Bool.not_eq_true', Bool.not_eq_false', beq_iff_eq, bne_iff_ne, ne_eq, beq_eq_false_iff_ne, bne_eq_false_iff_eq, gt_iff_lt, ge_iff_le, Int.not_lt, Int.not_le] at hc28
        have hlt18 : u < 1000000000000000000 := by
          have h_ := decV_lt ((magOf (lettersW (bS s))).take k) (fun c hc => (hdg c hc).2)
          rw [← hu] at h_
          have h2_ : (10 : Nat) ^ ((magOf (lettersW (bS s))).take k).length ≤ 10 ^ 18 := Nat.pow_le_pow_right (by decide) (by rw [List.length_take]; omega)
          have h3_ : (10 : Nat) ^ 18 = 1000000000000000000 := by decide
          omega
        refine wp_skip ?_
        refine n_then ?_
        refine r_start ?_
        refine l_v (v := .int .u64 ((u : Nat) : Int)) rfl rfl (by kernel_rfl) ?_
        refine l_v (v := .int .u64 (10 * ((u : Nat) : Int))) rfl rfl (r_mul (r := 10 * ((u : Nat) : Int)) rfl rfl rfl (by omega) (by simp only [min_u64]; omega) (by simp only [max_u64]; omega)) ?_
        refine l_v (v := .string ⟨((magOf (lettersW (bS s)))).toArray⟩) rfl rfl (by kernel_rfl) ?_
        refine l_v (v := .int .i64 ((k : Nat) : Int)) rfl rfl (by kernel_rfl) ?_
        refine l_v (v := .int .u8 (((((magOf (lettersW (bS s)))).getD (k) 0).toNat : Int))) rfl rfl (r_idx (j := k) rfl rfl rfl Tryz.underlying9 (by omega) (getD_at (by omega))) ?_
        refine l_v (v := .int .u8 ((((((magOf (lettersW (bS s)))).getD (k) 0).toNat : Int)) - 48)) rfl rfl (r_sub (r := (((((magOf (lettersW (bS s)))).getD (k) 0).toNat : Int)) - 48) rfl rfl rfl (by omega) (by simp only [min_u8]; omega) (by simp only [max_u8]; omega)) ?_
        refine l_v (v := .int .u64 ((((((magOf (lettersW (bS s)))).getD (k) 0).toNat : Int)) - 48)) rfl rfl (r_conv (r := (((((magOf (lettersW (bS s)))).getD (k) 0).toNat : Int)) - 48) rfl rfl Tryz.underlying5 Tryz.underlying107 rfl (by simp only [min_u64]; omega) (by simp only [max_u64]; omega)) ?_
        refine l_v (v := .int .u64 ((10 * ((u : Nat) : Int)) + ((((((magOf (lettersW (bS s)))).getD (k) 0).toNat : Int)) - 48))) rfl rfl (r_add (r := (10 * ((u : Nat) : Int)) + ((((((magOf (lettersW (bS s)))).getD (k) 0).toNat : Int)) - 48)) rfl rfl rfl (by omega) (by simp only [min_u64]; omega) (by simp only [max_u64]; omega)) ?_
        refine l_v (v := .int .u64 ((10 * ((u : Nat) : Int)) + ((((((magOf (lettersW (bS s)))).getD (k) 0).toNat : Int)) - 48))) rfl rfl (by kernel_rfl) ?_
        refine l_nil ?_
        refine n_block ?_
        refine n_then ?_
        refine r_start ?_
        refine l_v (v := .int .i64 ((k : Nat) : Int)) rfl rfl (by kernel_rfl) ?_
        refine l_v (v := .int .i64 (((k : Nat) : Int) + 1)) rfl rfl (r_add (r := ((k : Nat) : Int) + 1) rfl rfl rfl (by omega) (by simp only [min_i64]; omega) (by simp only [max_i64]; omega)) ?_
        refine l_v (v := .int .i64 (((k : Nat) : Int) + 1)) rfl rfl (by kernel_rfl) ?_
        refine l_nil ?_
        refine n_then ?_
        have hxv : (10 * ((u : Nat) : Int)) + ((((((magOf (lettersW (bS s)))).getD (k) 0).toNat : Int)) - 48) = (((10 * u + (((magOf (lettersW (bS s))).getD k 0).toNat - 48)) : Nat) : Int) := by omega
        rw [hxv]
        exact hK23 _ _ _ (by omega) ⟨_, (k + 1), (10 * u + (((magOf (lettersW (bS s))).getD k 0).toNat - 48)), mk_eq (by kernel_rfl), rfl, hE26, (by omega), (by rw [decV_snoc hget, ← hu]), (by intro c hc; rw [take_snoc hget] at hc; rcases List.mem_append.1 hc with h_ | h_; exact hdg c h_; rw [List.mem_singleton] at h_; subst h_; omega), hkb_g⟩
    · try simp only [decide_eq_true_eq, decide_eq_false_iff_not, Bool.and_eq_true, Bool.or_eq_true, Bool.and_eq_false_iff, Bool.or_eq_false_iff, Bool.not_eq_true', Bool.not_eq_false', beq_iff_eq, bne_iff_ne, ne_eq, beq_eq_false_iff_ne, bne_eq_false_iff_eq, gt_iff_lt, ge_iff_le, Int.not_lt, Int.not_le] at hc27
      have hkl : k = (magOf (lettersW (bS s))).length := by omega
      rw [hkl, List.take_length] at hu
      refine wp_exit ?_
      refine e_then ?_
      refine e_then ?_
      refine e_hit ?_
      refine n_then ?_
      refine wp_seq ?_
      refine r_start ?_
      refine l_v (v := .int .u64 ((u : Nat) : Int)) rfl rfl (by kernel_rfl) ?_
      refine l_v (v := .int .i64 (IntKind.i64.wrap ((u : Nat) : Int))) rfl rfl (r_convw rfl rfl Tryz.underlying107 Tryz.underlying3 rfl) ?_
      refine l_v (v := .int .i64 (IntKind.i64.wrap ((u : Nat) : Int))) rfl rfl (by kernel_rfl) ?_
      refine l_nil ?_
      refine n_then ?_
      refine c_cut (fun a_ w_ => ∃ u_ : Nat → Value, ∃ x : Int, a_ = mk [] 79 u_ [(7, .int .i64 x), (0, .pointer (some ⟨g, 0, none⟩)), (3, .string ⟨(lettersW (bS s)).toArray⟩), (4, .string ⟨((magOf (lettersW (bS s)))).toArray⟩), (5, .int .u64 ((u : Nat) : Int)), (6, .int .i64 ((k : Nat) : Int)), (8, .pointer (some ⟨g, 0, none⟩)), (9, .tuple #[]), (10, .pointer (some ⟨g, 0, none⟩)), (11, .string ⟨(lettersW (bS s)).toArray⟩), (12, .string ⟨(lettersW (bS s)).toArray⟩), (23, .string ⟨((magOf (lettersW (bS s)))).toArray⟩), (24, .int .i64 ((((magOf (lettersW (bS s)))).length : Int))), (25, .bool ((((((magOf (lettersW (bS s)))).length : Int)) == (0 : Int)))), (26, .bool ((((((magOf (lettersW (bS s)))).length : Int)) == (0 : Int)))), (30, .bool ((((((((magOf (lettersW (bS s)))).length : Int)) == (0 : Int))) || (decide (((((magOf (lettersW (bS s)))).length : Int)) > (19 : Int)))))), (34, .int .i64 ((k : Nat) : Int)), (35, .string ⟨((magOf (lettersW (bS s)))).toArray⟩), (36, .int .i64 ((((magOf (lettersW (bS s)))).length : Int))), (37, .bool (decide (((k : Nat) : Int) < ((((magOf (lettersW (bS s)))).length : Int))))), (61, .int .u64 ((u : Nat) : Int)), (62, .int .i64 (IntKind.i64.wrap ((u : Nat) : Int)))] ∧ Fr [g] w w_ ∧ (i64 x) ∧ (∀ v, numOk (lettersW (bS s)) = some v → x = v) ∧ (w_.heap[g]? = some (.cells #[.string ⟨(lettersR (bS s)).toArray⟩, .bool (bad || bB s)] 96 (0, 0)))) ?_ ?_
      · refine wp_seq ?_
        refine r_start ?_
        refine l_v (v := .string ⟨((magOf (lettersW (bS s)))).toArray⟩) rfl rfl (by kernel_rfl) ?_
        refine l_v (v := .int .i64 ((((magOf (lettersW (bS s)))).length : Int))) rfl rfl (r_lens rfl rfl Tryz.underlying9) ?_
        refine l_v (v := .string ⟨(lettersW (bS s)).toArray⟩) rfl rfl (by kernel_rfl) ?_
        refine l_v (v := .int .i64 (((lettersW (bS s)).length : Int))) rfl rfl (r_lens rfl rfl Tryz.underlying9) ?_
        refine l_v (v := .bool (decide (((((magOf (lettersW (bS s)))).length : Int)) < (((lettersW (bS s)).length : Int))))) rfl rfl (by kernel_rfl) ?_
        refine l_nil ?_
        refine n_then ?_
        refine c_cond (e := decide (((((magOf (lettersW (bS s)))).length : Int)) < (((lettersW (bS s)).length : Int)))) rfl (fun hc33 => ?_) (fun hc33 => ?_)
        · try simp only [decide_eq_true_eq, decide_eq_false_iff_not, Bool.and_eq_true, Bool.or_eq_true, Bool.and_eq_false_iff, Bool.or_eq_false_iff, Bool.not_eq_true', Bool.not_eq_false', beq_iff_eq, bne_iff_ne, ne_eq, beq_eq_false_iff_ne, bne_eq_false_iff_eq, gt_iff_lt, ge_iff_le, Int.not_lt, Int.not_le] at hc33
          refine r_start ?_
          refine l_v (v := .int .u64 ((u : Nat) : Int)) rfl rfl (by kernel_rfl) ?_
          refine l_v (v := .int .u64 (((0 - ((u : Nat) : Int)) % 18446744073709551616))) rfl rfl (r_subw rfl rfl rfl (by rw [wrap_u64])) ?_
          refine l_v (v := .int .i64 (IntKind.i64.wrap (((0 - ((u : Nat) : Int)) % 18446744073709551616)))) rfl rfl (r_convw rfl rfl Tryz.underlying107 Tryz.underlying3 rfl) ?_
          refine l_v (v := .int .i64 (IntKind.i64.wrap (((0 - ((u : Nat) : Int)) % 18446744073709551616)))) rfl rfl (by kernel_rfl) ?_
          refine l_nil ?_
          refine n_then ?_
          have hq1 : i64 (IntKind.i64.wrap (((0 - ((u : Nat) : Int)) % 18446744073709551616))) := by rw [wrap_i64]; unfold i64; omega
          have hq2 : ∀ v, numOk (lettersW (bS s)) = some v → IntKind.i64.wrap (((0 - ((u : Nat) : Int)) % 18446744073709551616)) = v := by
            intro v hv_
            obtain ⟨h1_, h2_, h3_, h4_⟩ := num_val hv_
            unfold i64 at h1_
            rw [← hu] at h3_
            rw [wrap_i64]
            omega
          exact ⟨_, (IntKind.i64.wrap (((0 - ((u : Nat) : Int)) % 18446744073709551616))), mk_eq (by kernel_rfl), hE26, hq1, hq2, hkb_g⟩
        · try simp only [decide_eq_true_eq, decide_eq_false_iff_not, Bool.and_eq_true, Bool.or_eq_true, Bool.and_eq_false_iff, Bool.or_eq_false_iff, Bool.not_eq_true', Bool.not_eq_false', beq_iff_eq, bne_iff_ne, ne_eq, beq_eq_false_iff_ne, bne_eq_false_iff_eq, gt_iff_lt, ge_iff_le, Int.not_lt, Int.not_le] at hc33
          refine wp_skip ?_
          refine n_then ?_
          have hq1 : i64 (IntKind.i64.wrap ((u : Nat) : Int)) := by rw [wrap_i64]; unfold i64; omega
          have hq2 : ∀ v, numOk (lettersW (bS s)) = some v → IntKind.i64.wrap ((u : Nat) : Int) = v := by
            intro v hv_
            obtain ⟨h1_, h2_, h3_, h4_⟩ := num_val hv_
            unfold i64 at h1_
            rw [← hu] at h3_
            rw [wrap_i64]
            omega
          exact ⟨_, (IntKind.i64.wrap ((u : Nat) : Int)), mk_eq (by kernel_rfl), hE26, hq1, hq2, hkb_g⟩
      rintro _ wj32 ⟨u_, x, rfl, hE34, hxi, hxv, hkb_g⟩
      have hE34z := hE34.size
      have hxi2 := hxi
      unfold i64 at hxi2
      refine wp_seq ?_
      refine wp_seq ?_
      refine r_start ?_
      refine l_v (v := .int .i64 x) rfl rfl (by kernel_rfl) ?_
      refine l_call rfl rfl (r_call (args := #[.int .i64 x]) rfl e37 (am rfl)) (rNumber_calls wj32 x (by unfold i64; omega)) (fun v36 w37 h35 => ?_)
      obtain ⟨rfl, h35f⟩ := h35
      have h35z := h35f.size
      refine l_v (v := .string ⟨(lettersW (bS s)).toArray⟩) rfl rfl (by kernel_rfl) ?_
      refine l_v (v := .bool ((!decide (Lib.itoa x = lettersW (bS s))))) rfl rfl (r_str_neq rfl rfl rfl) ?_
      refine l_nil ?_
      refine n_then ?_
      refine c_cond (e := (!decide (Lib.itoa x = lettersW (bS s)))) rfl (fun hc38 => ?_) (fun hc38 => ?_)
      · have hno : numOk (lettersW (bS s)) = none := by
          cases hq_ : numOk (lettersW (bS s)) with
          | none => rfl
          | some v => exfalso; have h1_ := hxv v hq_; subst h1_; have h2_ := (num_val hq_).2.1; rw [← h2_] at hc38; simp at hc38
        refine r_start ?_
        refine l_v (v := .pointer (some ⟨g, 0, none⟩)) rfl rfl (by kernel_rfl) ?_
        refine l_v (v := .pointer (some ⟨g, 0, none⟩)) rfl rfl (by kernel_rfl) ?_
        refine l_v (v := .pointer (some ⟨g, 1, none⟩)) rfl rfl (r_field rfl rfl Tryz.underlying96 rfl (by kernel_rfl) rfl) ?_
        have hb39 := (h35f.at0 hkb_g)
        refine l_store rfl rfl rfl (g := g) (off := 1) (v := .bool true) (arr := #[.string ⟨(lettersR (bS s)).toArray⟩, .bool true]) rfl rfl (by kernel_rfl) hb39 rfl (by simp [Value.cells, Value.oneCell']) rfl (fun w40 p41 => ?_)
        have p41z := p41.sz
        refine l_nil ?_
        refine n_then ?_
        refine wp_seq ?_
        refine r_start ?_
        refine l_v (v := .int .i64 x) rfl rfl (by kernel_rfl) ?_
        refine l_v (v := .int .i64 x) rfl rfl (by kernel_rfl) ?_
        refine l_nil ?_
        refine n_then ?_
        refine wp_ret ?_
        have hE42 : Fr [g] w w40 := ((hE34.trans h35f.any).trans p41.fr)
        have hE42z := hE42.size
        exact end_ret (v := .int .i64 x) (res1 rfl rfl) ⟨_, rfl, ⟨x, rfl, hxi, hxv, hE42, by rw [hno]; simpa using p41.at_⟩⟩
      · have hyes : numOk (lettersW (bS s)) = some x := num_is hxi (by simpa using hc38)
        refine wp_skip ?_
        refine n_then ?_
        refine wp_seq ?_
        refine r_start ?_
        refine l_v (v := .int .i64 x) rfl rfl (by kernel_rfl) ?_
        refine l_v (v := .int .i64 x) rfl rfl (by kernel_rfl) ?_
        refine l_nil ?_
        refine n_then ?_
        refine wp_ret ?_
        have hb43 := (h35f.at0 hkb_g)
        have hE44 : Fr [g] w w37 := (hE34.trans h35f.any)
        have hE44z := hE44.size
        exact end_ret (v := .int .i64 x) (res1 rfl rfl) ⟨_, rfl, ⟨x, rfl, hxi, hxv, hE44, by rw [hyes]; simpa using hb43⟩⟩

end Go.Proofs.YtmhljojgdfmjaaaGreatDoor
