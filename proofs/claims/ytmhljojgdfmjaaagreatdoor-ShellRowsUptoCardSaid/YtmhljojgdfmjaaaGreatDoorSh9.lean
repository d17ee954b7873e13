/- walks -/
import Derived.Test.YtmhljojgdfmjaaaGreatDoorSh8
namespace Go.Proofs.YtmhljojgdfmjaaaGreatDoor
open Go.E
set_option linter.unusedVariables false
set_option linter.unusedSimpArgs false
set_option maxRecDepth 100000
set_option maxHeartbeats 1000000
open Go.Sh
/-- shell.row -/
theorem row_calls (w : World) (hg : Glob w) (s : List UInt8) (hl : s.length ≤ 1048576) :
    Does Tryz.prog 21 #[.string ⟨(s).toArray⟩] w fun r w' => ∃ cs e, RwK (fun b => w.heap.size ≤ b) w' cs e ∧ r = .tuple #[.agg cs.toArray, .bool (parseRw s).isSome] ∧ (∀ x, parseRw s = some x → e = x) ∧ Fr [] w w' := by
  have hk0 := kindOf_b (plainW s)
  have hgz := hg.sz
  refine Does.of (fn_in (l := [.string ⟨(s).toArray⟩]) Tryz.func21 rfl Tryz.ntmps21 rfl ?_)
  refine wp_seq ?_
  refine r_start ?_
  refine l_new (fun k_ => .pointer (some ⟨k_, 0, none⟩)) rfl rfl (by kernel_rfl) (ob := .cells #[.int .i64 0, .int .i64 0, .int .i64 0, .int .i64 0, .slice none 0 0, .bool false] 49) (fun k1 w2 n3 => ?_)
  have n3k := n3.hk; have n3z := n3.sz
  refine l_v (v := .bool false) rfl rfl (by kernel_rfl) ?_
  refine l_nil ?_
  refine n_then ?_
  refine wp_seq ?_
  refine r_start ?_
  refine l_v (v := .string ⟨(s).toArray⟩) rfl rfl (by kernel_rfl) ?_
  refine l_v (v := .agg #[.string ⟨(s).toArray⟩, .bool false]) rfl rfl (by kernel_rfl) ?_
  refine l_new (fun k_ => .pointer (some ⟨k_, 0, none⟩)) rfl rfl (by kernel_rfl) (ob := .cells #[.string ⟨(s).toArray⟩, .bool false] 92) (fun k4 w5 n6 => ?_)
  have hE7 : Fr [] w w2 := ((Fr.refl [] w).trans n3.fr)
  have hE7z := hE7.size
  have n6k := n6.hk; have n6z := n6.sz
  refine l_v (v := .pointer (some ⟨k4, 0, none⟩)) rfl rfl (by kernel_rfl) ?_
  refine l_nil ?_
  refine n_then ?_
  refine wp_seq ?_
  refine r_start ?_
  refine l_v (v := .pointer (some ⟨k4, 0, none⟩)) rfl rfl (by kernel_rfl) ?_
  have hE8 : Fr [] w w5 := (hE7.trans n6.fr)
  have hE8z := hE8.size
  have hd9 := hg.fr0 hE8
  refine l_call rfl rfl (r_call (args := #[.pointer (some ⟨k4, 0, none⟩)]) rfl e41 (am rfl)) (kind_calls w5 hd9 k4 s false (by omega) n6.at_ (by omega)) (fun v11 w12 h10 => ?_)
  obtain ⟨rfl, h10f, h10b⟩ := h10
  have h10z := h10f.size
  have hl13 := plainW_len s
  have hl14 := plainR_len s
  refine l_v (v := .agg #[.int .i64 (kindOf (plainW s)), .int .i64 0, .int .i64 0, .int .i64 0, .slice none 0 0, .bool false]) rfl rfl (by kernel_rfl) ?_
  refine l_new (fun k_ => .pointer (some ⟨k_, 0, none⟩)) rfl rfl (by kernel_rfl) (ob := .cells #[.int .i64 0, .int .i64 0, .int .i64 0, .int .i64 0, .slice none 0 0, .bool false] 49) (fun k15 w16 n17 => ?_)
  have hE18 : Fr [] w w12 := (Fr.step hE8 h10f (by intro k_ hk_; simp only [List.mem_singleton] at hk_; omega))
  have hE18z := hE18.size
  have n17k := n17.hk; have n17z := n17.sz
  refine l_store rfl rfl rfl (g := k15) (off := 0) (v := .agg #[.int .i64 (kindOf (plainW s)), .int .i64 0, .int .i64 0, .int .i64 0, .slice none 0 0, .bool false]) (arr := #[.int .i64 (kindOf (plainW s)), .int .i64 0, .int .i64 0, .int .i64 0, .slice none 0 0, .bool false]) rfl rfl (by kernel_rfl) n17.at_ rfl (by simp [Value.cells, Value.oneCell']) rfl (fun w19 p20 => ?_)
  have p20z := p20.sz
  refine l_nil ?_
  refine n_then ?_
  refine wp_seq ?_
  refine wp_seq ?_
  refine r_start ?_
  refine l_v (v := .pointer (some ⟨k4, 0, none⟩)) rfl rfl (by kernel_rfl) ?_
  have hb21 := (p20.fr.at (n17.fr.at0 h10b) (by simp only [List.mem_singleton]; omega))
  have hE22 : Fr [] w w19 := (Fr.step (hE18.trans n17.fr) p20.fr (by intro k_ hk_; simp only [List.mem_singleton] at hk_; omega))
  have hE22z := hE22.size
  have hd23 := hg.fr0 hE22
  refine l_call rfl rfl (r_call (args := #[.pointer (some ⟨k4, 0, none⟩)]) rfl e42 (am rfl)) (plain_calls w19 hd23 k4 (plainR s) (decide (kindOf (plainW s) < 1)) (by omega) hb21 (by omega)) (fun v25 w26 h24 => ?_)
  obtain ⟨rfl, h24f, h24b⟩ := h24
  have h24z := h24f.size
  have hl27 := plainW_len (plainR s)
  have hl28 := plainR_len (plainR s)
  refine l_v (v := .string ⟨(plainW (plainR s)).toArray⟩) rfl rfl (by kernel_rfl) ?_
  refine l_nil ?_
  refine n_then ?_
  refine wp_block ?_
  refine wp_seq ?_
  refine r_start ?_
  refine l_v (v := .string ⟨(plainW (plainR s)).toArray⟩) rfl rfl (by kernel_rfl) ?_
  refine l_v (v := .bool (decide (plainW (plainR s) = ([101, 114, 114, 111, 114] : List UInt8)))) rfl rfl (r_str_eql rfl rfl rfl) ?_
  refine l_v (v := .bool (decide (plainW (plainR s) = ([101, 114, 114, 111, 114] : List UInt8)))) rfl rfl (by kernel_rfl) ?_
  refine l_nil ?_
  refine n_then ?_
  refine c_cond (e := decide (plainW (plainR s) = ([101, 114, 114, 111, 114] : List UInt8))) rfl (fun hc29 => ?_) (fun hc29 => ?_)
  · try simp only [decide_eq_true_eq, decide_eq_false_iff_not, Bool.and_eq_true, Bool.or_eq_true, Bool.and_eq_false_iff, Bool.or_eq_false_iff, Bool.not_eq_true', Bool.not_eq_false', beq_iff_eq, bne_iff_ne, ne_eq, beq_eq_false_iff_ne, bne_eq_false_iff_eq, gt_iff_lt, ge_iff_le, Int.not_lt, Int.not_le] at hc29
    refine r_start ?_
    refine l_v (v := .pointer (some ⟨k4, 0, none⟩)) rfl rfl (by kernel_rfl) ?_
    have hE30 : Fr [] w w26 := (Fr.step hE22 h24f (by intro k_ hk_; simp only [List.mem_singleton] at hk_; omega))
    have hE30z := hE30.size
    have hd31 := hg.fr0 hE30
    refine l_call rfl rfl (r_call (args := #[.pointer (some ⟨k4, 0, none⟩)]) rfl e43 (am rfl)) (number_calls w26 hd31 k4 (plainR (plainR s)) ((decide (kindOf (plainW s) < 1))) (by omega) h24b (by omega)) (fun v33 w34 h32 => ?_)
    obtain ⟨h32x, rfl, h32i, h32v, h32f, h32b⟩ := h32
    have h32z := h32f.size
    obtain ⟨h32i1, h32i2⟩ := id h32i
    have hl35 := plainW_len (plainR (plainR s))
    have hl36 := plainR_len (plainR (plainR s))
    refine l_v (v := .pointer (some ⟨k15, 1, none⟩)) rfl rfl (r_field rfl rfl Tryz.underlying49 rfl (by kernel_rfl) rfl) ?_
    have hb37 := (h32f.at (h24f.at p20.at_ (by simp only [List.mem_singleton]; omega)) (by simp only [List.mem_singleton]; omega))
    refine l_store rfl rfl rfl (g := k15) (off := 1) (v := .int .i64 h32x) (arr := #[.int .i64 (kindOf (plainW s)), .int .i64 h32x, .int .i64 0, .int .i64 0, .slice none 0 0, .bool false]) rfl rfl (by kernel_rfl) hb37 rfl (by simp [Value.cells, Value.oneCell']) rfl (fun w38 p39 => ?_)
    have p39z := p39.sz
    refine l_nil ?_
    refine n_block ?_
    refine n_then ?_
    refine wp_seq ?_
    refine r_start ?_
    refine l_v (v := .agg #[.int .i64 (kindOf (plainW s)), .int .i64 h32x, .int .i64 0, .int .i64 0, .slice none 0 0, .bool false]) rfl rfl (r_loads (cs := [.int .i64 (kindOf (plainW s)), .int .i64 h32x, .int .i64 0, .int .i64 0, .slice none 0 0, .bool false]) rfl rfl Tryz.underlying49 rfl (by kernel_rfl) (range_at p39.at_ rfl)) ?_
    have hK40 : RwK (fun b => w38.heap.size ≤ b) w38 [.int .i64 (kindOf (plainW s)), .int .i64 h32x, .int .i64 0, .int .i64 0, .slice none 0 0, .bool false] (⟨kindOf (plainW s), h32x, 0, 0, [], false⟩ : Rw) := rwK_mk (Sl.nil _ _ _) (by unfold i64; omega) (by unfold i64; omega) (by unfold i64; omega) (by unfold i64; omega) (by (try simp only [List.length_nil]); omega)
    have hE41 : Fr [] w w38 := (Fr.step (Fr.step hE30 h32f (by intro k_ hk_; simp only [List.mem_singleton] at hk_; omega)) p39.fr (by intro k_ hk_; simp only [List.mem_singleton] at hk_; omega))
    have hE41z := hE41.size
    have hd42 := hg.fr0 hE41
    refine l_call rfl rfl (r_call (args := #[.agg #[.int .i64 (kindOf (plainW s)), .int .i64 h32x, .int .i64 0, .int .i64 0, .slice none 0 0, .bool false]]) rfl e18 (am rfl)) (rowLine_calls w38 hd42 _ _ (⟨kindOf (plainW s), h32x, 0, 0, [], false⟩ : Rw) hK40) (fun v44 w45 h43 => ?_)
    obtain ⟨rfl, h43f⟩ := h43
    have h43z := h43f.size
    refine l_v (v := .tuple #[.string ⟨((rwLine (⟨kindOf (plainW s), h32x, 0, 0, [], false⟩ : Rw)).1).toArray⟩, .bool ((rwLine (⟨kindOf (plainW s), h32x, 0, 0, [], false⟩ : Rw)).2)]) rfl rfl (by kernel_rfl) ?_
    refine l_v (v := .string ⟨((rwLine (⟨kindOf (plainW s), h32x, 0, 0, [], false⟩ : Rw)).1).toArray⟩) rfl rfl (by kernel_rfl) ?_
    refine l_v (v := .bool ((rwLine (⟨kindOf (plainW s), h32x, 0, 0, [], false⟩ : Rw)).2)) rfl rfl (by kernel_rfl) ?_
    refine l_v (v := .string ⟨((rwLine (⟨kindOf (plainW s), h32x, 0, 0, [], false⟩ : Rw)).1).toArray⟩) rfl rfl (by kernel_rfl) ?_
    refine l_v (v := .bool ((rwLine (⟨kindOf (plainW s), h32x, 0, 0, [], false⟩ : Rw)).2)) rfl rfl (by kernel_rfl) ?_
    refine l_nil ?_
    refine n_then ?_
    refine wp_seq ?_
    have hE50 : Fr [] w w45 := (hE41.trans h43f)
    have hE50z := hE50.size
    refine h_start' (fun w0_ w_ => Fr [k1] w0_ w_) hmix (fun _ _ _ _ _ h => h) (fun w46 f47 hQ49 => ?_)
    have f47z := f47.size
    have hb51 := (f47.at0 (h43f.at0 p39.at_))
    refine h_take (i := 0) (v := .agg #[.int .i64 (kindOf (plainW s)), .int .i64 h32x, .int .i64 0, .int .i64 0, .slice none 0 0, .bool false]) rfl (by kernel_rfl) (by kernel_rfl) (by kernel_rfl) hQ49 rfl rfl (fun w_ hS_ => (r_loads (cs := [.int .i64 (kindOf (plainW s)), .int .i64 h32x, .int .i64 0, .int .i64 0, .slice none 0 0, .bool false]) rfl rfl Tryz.underlying49 rfl (by kernel_rfl) (range_at (hS_.at hb51 (by simp; omega)) rfl))) (Fr.refl [k1] w46) ?_
    refine h_take (i := 1) (v := .pointer (some ⟨k4, 0, none⟩)) rfl (by kernel_rfl) (by kernel_rfl) (by kernel_rfl) hQ49 rfl rfl (fun w_ hS_ => (by kernel_rfl)) (Fr.refl [k1] w46) ?_
    refine h_take (i := 2) (v := .pointer (some ⟨k4, 0, none⟩)) rfl (by kernel_rfl) (by kernel_rfl) (by kernel_rfl) hQ49 rfl rfl (fun w_ hS_ => (by kernel_rfl)) (Fr.refl [k1] w46) ?_
    refine h_take (i := 3) (v := .pointer (some ⟨k4, 1, none⟩)) rfl (by kernel_rfl) (by kernel_rfl) (by kernel_rfl) hQ49 rfl rfl (fun w_ hS_ => (r_field rfl rfl Tryz.underlying92 rfl (by kernel_rfl) rfl)) (Fr.refl [k1] w46) ?_
    have hb52 := (f47.at0 (h43f.at0 (p39.fr.at h32b (by simp only [List.mem_singleton]; omega))))
    refine h_take (i := 4) (v := .bool (((decide (kindOf (plainW s) < 1))) || (atoiOk (plainW (plainR (plainR s)))).isNone)) rfl (by kernel_rfl) (by kernel_rfl) (by kernel_rfl) hQ49 rfl rfl (fun w_ hS_ => (r_load rfl rfl Tryz.underlying4 rfl (cell_at (hS_.at hb52 (by simp; omega)) rfl))) (Fr.refl [k1] w46) ?_
    refine h_take (i := 5) (v := .bool ((!(((decide (kindOf (plainW s) < 1))) || (atoiOk (plainW (plainR (plainR s)))).isNone)))) rfl (by kernel_rfl) (by kernel_rfl) (by kernel_rfl) hQ49 rfl rfl (fun w_ hS_ => (by kernel_rfl)) (Fr.refl [k1] w46) ?_
    refine h_take (i := 6) (v := .bool ((!(((decide (kindOf (plainW s) < 1))) || (atoiOk (plainW (plainR (plainR s)))).isNone)))) rfl (by kernel_rfl) (by kernel_rfl) (by kernel_rfl) hQ49 rfl rfl (fun w_ hS_ => (by kernel_rfl)) (Fr.refl [k1] w46) ?_
    refine h_takeg (i := 7) (v := .bool ((rwLine (⟨kindOf (plainW s), h32x, 0, 0, [], false⟩ : Rw)).2)) rfl (by kernel_rfl) (by kernel_rfl) (by kernel_rfl) hQ49 (want_1 rfl rfl rfl rfl) rfl (fun hW_ w_ hS_ => (by kernel_rfl)) (Fr.refl [k1] w46) ?_
    refine h_take (i := 8) (v := .bool ((((!(((decide (kindOf (plainW s) < 1))) || (atoiOk (plainW (plainR (plainR s)))).isNone))) && ((rwLine (⟨kindOf (plainW s), h32x, 0, 0, [], false⟩ : Rw)).2)))) rfl (by kernel_rfl) (by kernel_rfl) (by kernel_rfl) hQ49 rfl rfl (fun w_ hS_ => (r_pick rfl rfl (pick_and _ _))) (Fr.refl [k1] w46) ?_
    refine h_take (i := 9) (v := .bool ((((!(((decide (kindOf (plainW s) < 1))) || (atoiOk (plainW (plainR (plainR s)))).isNone))) && ((rwLine (⟨kindOf (plainW s), h32x, 0, 0, [], false⟩ : Rw)).2)))) rfl (by kernel_rfl) (by kernel_rfl) (by kernel_rfl) hQ49 rfl rfl (fun w_ hS_ => (by kernel_rfl)) (Fr.refl [k1] w46) ?_
    refine h_takeg (i := 10) (v := .string ⟨((rwLine (⟨kindOf (plainW s), h32x, 0, 0, [], false⟩ : Rw)).1).toArray⟩) rfl (by kernel_rfl) (by kernel_rfl) (by kernel_rfl) hQ49 (want_1 rfl rfl rfl rfl) rfl (fun hW_ w_ hS_ => (by kernel_rfl)) (Fr.refl [k1] w46) ?_
    refine h_takeg (i := 11) (v := .string ⟨(s).toArray⟩) rfl (by kernel_rfl) (by kernel_rfl) (by kernel_rfl) hQ49 (want_1 rfl rfl rfl rfl) rfl (fun hW_ w_ hS_ => (by kernel_rfl)) (Fr.refl [k1] w46) ?_
    refine h_takeg (i := 12) (v := .bool (decide ((rwLine (⟨kindOf (plainW s), h32x, 0, 0, [], false⟩ : Rw)).1 = s))) rfl (by kernel_rfl) (by kernel_rfl) (by kernel_rfl) hQ49 (want_1 rfl rfl rfl rfl) rfl (fun hW_ w_ hS_ => (r_str_eql rfl (gd_true hW_ _) (gd_true hW_ _))) (Fr.refl [k1] w46) ?_
    refine h_take (i := 13) (v := .bool ((((((!(((decide (kindOf (plainW s) < 1))) || (atoiOk (plainW (plainR (plainR s)))).isNone))) && ((rwLine (⟨kindOf (plainW s), h32x, 0, 0, [], false⟩ : Rw)).2))) && (decide ((rwLine (⟨kindOf (plainW s), h32x, 0, 0, [], false⟩ : Rw)).1 = s))))) rfl (by kernel_rfl) (by kernel_rfl) (by kernel_rfl) hQ49 rfl rfl (fun w_ hS_ => (r_pick rfl rfl (pick_and _ _))) (Fr.refl [k1] w46) ?_
    have hb53 := (f47.at0 (h43f.at0 (p39.fr.at (h32f.at (h24f.at (p20.fr.at (n17.fr.at0 (h10f.at (n6.fr.at0 n3.at_) (by simp only [List.mem_singleton]; omega))) (by simp only [List.mem_singleton]; omega)) (by simp only [List.mem_singleton]; omega)) (by simp only [List.mem_singleton]; omega)) (by simp only [List.mem_singleton]; omega))))
    refine h_store (i := 14) (by kernel_rfl) rfl rfl rfl rfl (g := k1) (off := 0) (v := .agg #[.int .i64 (kindOf (plainW s)), .int .i64 h32x, .int .i64 0, .int .i64 0, .slice none 0 0, .bool false]) (arr := #[.int .i64 (kindOf (plainW s)), .int .i64 h32x, .int .i64 0, .int .i64 0, .slice none 0 0, .bool false]) rfl rfl (by kernel_rfl) hb53 rfl (by simp [Value.cells, Value.oneCell']) rfl (fun w54 p55 => ⟨(Fr.refl [k1] w46).trans (p55.fr.mono (by simp)), ?_⟩)
    have p55z := p55.sz
    refine h_take (i := 15) (v := .bool ((((((!(((decide (kindOf (plainW s) < 1))) || (atoiOk (plainW (plainR (plainR s)))).isNone))) && ((rwLine (⟨kindOf (plainW s), h32x, 0, 0, [], false⟩ : Rw)).2))) && (decide ((rwLine (⟨kindOf (plainW s), h32x, 0, 0, [], false⟩ : Rw)).1 = s))))) rfl (by kernel_rfl) (by kernel_rfl) (by kernel_rfl) hQ49 rfl rfl (fun w_ hS_ => (by kernel_rfl)) ((Fr.refl [k1] w46).trans (p55.fr.mono (by simp))) ?_
    refine wpAnyH_done (by kernel_rfl) ?_ _
    refine n_then ?_
    refine wp_ret ?_
    have hb56 := (p55.fr.at hb52 (by simp only [List.mem_singleton]; omega))
    have hfin := fin_rw (s := s) (bad := ((decide (kindOf (plainW s) < 1))) || (atoiOk (plainW (plainR (plainR s)))).isNone) (e := (⟨kindOf (plainW s), h32x, 0, 0, [], false⟩ : Rw)) (by intro hb_; rcases num_ok h32v with hn_ | hn_ <;> simp [hn_] at hb_ <;> first | (exfalso; omega) | simp [rdRw, okW, errorW, endedW, hn_, hb_, hc29] | simp [rdRw, okW, errorW, endedW, hn_, hc29]) (by intro hb_; rcases num_ok h32v with hn_ | hn_ <;> simp [hn_] at hb_ <;> first | (exfalso; omega) | simp [rdRw, okW, errorW, endedW, hn_, hb_, hc29] | simp [rdRw, okW, errorW, endedW, hn_, hc29])
    have hd57 := (((hK40.fr0 h43f).fr0 f47).fr p55.fr (by intro g_ hg_; have hg2_ : w38.heap.size ≤ g_ := hg_; simp only [List.mem_singleton]; omega))
    have hE58 : Fr [] w w54 := (Fr.step (hE50.trans f47) p55.fr (by intro k_ hk_; simp only [List.mem_singleton] at hk_; omega))
    have hE58z := hE58.size
    exact end_ret (v := .tuple #[.agg #[.int .i64 (kindOf (plainW s)), .int .i64 h32x, .int .i64 0, .int .i64 0, .slice none 0 0, .bool false], .bool ((((((!(((decide (kindOf (plainW s) < 1))) || (atoiOk (plainW (plainR (plainR s)))).isNone))) && ((rwLine (⟨kindOf (plainW s), h32x, 0, 0, [], false⟩ : Rw)).2))) && (decide ((rwLine (⟨kindOf (plainW s), h32x, 0, 0, [], false⟩ : Rw)).1 = s))))]) (resn2 rfl (rv_row rfl (cs := [.int .i64 (kindOf (plainW s)), .int .i64 h32x, .int .i64 0, .int .i64 0, .slice none 0 0, .bool false]) Tryz.underlying49 rfl (by kernel_rfl) (range_at p55.at_ rfl)) (rv_tmp rfl)) ⟨_, rfl, ⟨[.int .i64 (kindOf (plainW s)), .int .i64 h32x, .int .i64 0, .int .i64 0, .slice none 0 0, .bool false], _, Rp.rw.weak hd57 (fun g _ hg_ => by have hg2_ : w38.heap.size ≤ g := hg_; show w.heap.size ≤ g; omega), (by first | (rw [← hfin.1]; done) | (rw [← hfin.1]; rfl)), hfin.2, hE58⟩⟩
  · try simp only [decide_eq_true_eq, decide_eq_false_iff_not, Bool.and_eq_true, Bool.or_eq_true, Bool.and_eq_false_iff, Bool.or_eq_false_iff, Bool.not_eq_true', Bool.not_eq_false', beq_iff_eq, bne_iff_ne, ne_eq, beq_eq_false_iff_ne, bne_eq_false_iff_eq, gt_iff_lt, ge_iff_le, Int.not_lt, Int.not_le] at hc29
    refine wp_seq ?_
    refine r_start ?_
    refine l_v (v := .string ⟨(plainW (plainR s)).toArray⟩) rfl rfl (by kernel_rfl) ?_
    refine l_v (v := .bool ((!decide (plainW (plainR s) = ([111, 107] : List UInt8))))) rfl rfl (r_str_neq rfl rfl rfl) ?_
    refine l_v (v := .bool ((!decide (plainW (plainR s) = ([111, 107] : List UInt8))))) rfl rfl (by kernel_rfl) ?_
    refine l_nil ?_
    refine n_then ?_
    refine c_cond (e := (!decide (plainW (plainR s) = ([111, 107] : List UInt8)))) rfl (fun hc59 => ?_) (fun hc59 => ?_)
    · try simp only [decide_eq_true_eq, decide_eq_false_iff_not, Bool.and_eq_true, Bool.or_eq_true, Bool.and_eq_false_iff, Bool.or_eq_false_iff, Bool.not_eq_true', Bool.not_eq_false', beq_iff_eq, bne_iff_ne, ne_eq, beq_eq_false_iff_ne, bne_eq_false_iff_eq, gt_iff_lt, ge_iff_le, Int.not_lt, Int.not_le] at hc59
      refine r_start ?_
      refine l_v (v := .pointer (some ⟨k4, 0, none⟩)) rfl rfl (by kernel_rfl) ?_
      refine l_v (v := .pointer (some ⟨k4, 0, none⟩)) rfl rfl (by kernel_rfl) ?_
      refine l_v (v := .pointer (some ⟨k4, 1, none⟩)) rfl rfl (r_field rfl rfl Tryz.underlying92 rfl (by kernel_rfl) rfl) ?_
      refine l_store rfl rfl rfl (g := k4) (off := 1) (v := .bool true) (arr := #[.string ⟨(plainR (plainR s)).toArray⟩, .bool true]) rfl rfl (by kernel_rfl) h24b rfl (by simp [Value.cells, Value.oneCell']) rfl (fun w60 p61 => ?_)
      have p61z := p61.sz
      refine l_nil ?_
      refine n_block ?_
      refine n_then ?_
      refine wp_seq ?_
      refine r_start ?_
      have hb62 := (p61.fr.at (h24f.at p20.at_ (by simp only [List.mem_singleton]; omega)) (by simp only [List.mem_singleton]; omega))
      refine l_v (v := .agg #[.int .i64 (kindOf (plainW s)), .int .i64 0, .int .i64 0, .int .i64 0, .slice none 0 0, .bool false]) rfl rfl (r_loads (cs := [.int .i64 (kindOf (plainW s)), .int .i64 0, .int .i64 0, .int .i64 0, .slice none 0 0, .bool false]) rfl rfl Tryz.underlying49 rfl (by kernel_rfl) (range_at hb62 rfl)) ?_
      have hK63 : RwK (fun b => w60.heap.size ≤ b) w60 [.int .i64 (kindOf (plainW s)), .int .i64 0, .int .i64 0, .int .i64 0, .slice none 0 0, .bool false] (⟨kindOf (plainW s), 0, 0, 0, [], false⟩ : Rw) := rwK_mk (Sl.nil _ _ _) (by unfold i64; omega) (by unfold i64; omega) (by unfold i64; omega) (by unfold i64; omega) (by (try simp only [List.length_nil]); omega)
      have hE64 : Fr [] w w60 := (Fr.step (Fr.step hE22 h24f (by intro k_ hk_; simp only [List.mem_singleton] at hk_; omega)) p61.fr (by intro k_ hk_; simp only [List.mem_singleton] at hk_; omega))
      have hE64z := hE64.size
      have hd65 := hg.fr0 hE64
      refine l_call rfl rfl (r_call (args := #[.agg #[.int .i64 (kindOf (plainW s)), .int .i64 0, .int .i64 0, .int .i64 0, .slice none 0 0, .bool false]]) rfl e18 (am rfl)) (rowLine_calls w60 hd65 _ _ (⟨kindOf (plainW s), 0, 0, 0, [], false⟩ : Rw) hK63) (fun v67 w68 h66 => ?_)
      obtain ⟨rfl, h66f⟩ := h66
      have h66z := h66f.size
      refine l_v (v := .tuple #[.string ⟨((rwLine (⟨kindOf (plainW s), 0, 0, 0, [], false⟩ : Rw)).1).toArray⟩, .bool ((rwLine (⟨kindOf (plainW s), 0, 0, 0, [], false⟩ : Rw)).2)]) rfl rfl (by kernel_rfl) ?_
      refine l_v (v := .string ⟨((rwLine (⟨kindOf (plainW s), 0, 0, 0, [], false⟩ : Rw)).1).toArray⟩) rfl rfl (by kernel_rfl) ?_
      refine l_v (v := .bool ((rwLine (⟨kindOf (plainW s), 0, 0, 0, [], false⟩ : Rw)).2)) rfl rfl (by kernel_rfl) ?_
      refine l_v (v := .string ⟨((rwLine (⟨kindOf (plainW s), 0, 0, 0, [], false⟩ : Rw)).1).toArray⟩) rfl rfl (by kernel_rfl) ?_
      refine l_v (v := .bool ((rwLine (⟨kindOf (plainW s), 0, 0, 0, [], false⟩ : Rw)).2)) rfl rfl (by kernel_rfl) ?_
      refine l_nil ?_
      refine n_then ?_
      refine wp_seq ?_
      have hE73 : Fr [] w w68 := (hE64.trans h66f)
      have hE73z := hE73.size
      refine h_start' (fun w0_ w_ => Fr [k1] w0_ w_) hmix (fun _ _ _ _ _ h => h) (fun w69 f70 hQ72 => ?_)
      have f70z := f70.size
      have hb74 := (f70.at0 (h66f.at0 hb62))
      refine h_take (i := 0) (v := .agg #[.int .i64 (kindOf (plainW s)), .int .i64 0, .int .i64 0, .int .i64 0, .slice none 0 0, .bool false]) rfl (by kernel_rfl) (by kernel_rfl) (by kernel_rfl) hQ72 rfl rfl (fun w_ hS_ => (r_loads (cs := [.int .i64 (kindOf (plainW s)), .int .i64 0, .int .i64 0, .int .i64 0, .slice none 0 0, .bool false]) rfl rfl Tryz.underlying49 rfl (by kernel_rfl) (range_at (hS_.at hb74 (by simp; omega)) rfl))) (Fr.refl [k1] w69) ?_
      refine h_take (i := 1) (v := .pointer (some ⟨k4, 0, none⟩)) rfl (by kernel_rfl) (by kernel_rfl) (by kernel_rfl) hQ72 rfl rfl (fun w_ hS_ => (by kernel_rfl)) (Fr.refl [k1] w69) ?_
      refine h_take (i := 2) (v := .pointer (some ⟨k4, 0, none⟩)) rfl (by kernel_rfl) (by kernel_rfl) (by kernel_rfl) hQ72 rfl rfl (fun w_ hS_ => (by kernel_rfl)) (Fr.refl [k1] w69) ?_
      refine h_take (i := 3) (v := .pointer (some ⟨k4, 1, none⟩)) rfl (by kernel_rfl) (by kernel_rfl) (by kernel_rfl) hQ72 rfl rfl (fun w_ hS_ => (r_field rfl rfl Tryz.underlying92 rfl (by kernel_rfl) rfl)) (Fr.refl [k1] w69) ?_
      have hb75 := (f70.at0 (h66f.at0 p61.at_))
      refine h_take (i := 4) (v := .bool true) rfl (by kernel_rfl) (by kernel_rfl) (by kernel_rfl) hQ72 rfl rfl (fun w_ hS_ => (r_load rfl rfl Tryz.underlying4 rfl (cell_at (hS_.at hb75 (by simp; omega)) rfl))) (Fr.refl [k1] w69) ?_
      refine h_take (i := 5) (v := .bool (!true)) rfl (by kernel_rfl) (by kernel_rfl) (by kernel_rfl) hQ72 rfl rfl (fun w_ hS_ => (by kernel_rfl)) (Fr.refl [k1] w69) ?_
      refine h_take (i := 6) (v := .bool (!true)) rfl (by kernel_rfl) (by kernel_rfl) (by kernel_rfl) hQ72 rfl rfl (fun w_ hS_ => (by kernel_rfl)) (Fr.refl [k1] w69) ?_
      refine h_takeg (i := 7) (v := .bool ((rwLine (⟨kindOf (plainW s), 0, 0, 0, [], false⟩ : Rw)).2)) rfl (by kernel_rfl) (by kernel_rfl) (by kernel_rfl) hQ72 (want_1 rfl rfl rfl rfl) rfl (fun hW_ w_ hS_ => (by kernel_rfl)) (Fr.refl [k1] w69) ?_
      refine h_take (i := 8) (v := .bool (((!true) && ((rwLine (⟨kindOf (plainW s), 0, 0, 0, [], false⟩ : Rw)).2)))) rfl (by kernel_rfl) (by kernel_rfl) (by kernel_rfl) hQ72 rfl rfl (fun w_ hS_ => (r_pick rfl rfl (pick_and _ _))) (Fr.refl [k1] w69) ?_
      refine h_take (i := 9) (v := .bool (((!true) && ((rwLine (⟨kindOf (plainW s), 0, 0, 0, [], false⟩ : Rw)).2)))) rfl (by kernel_rfl) (by kernel_rfl) (by kernel_rfl) hQ72 rfl rfl (fun w_ hS_ => (by kernel_rfl)) (Fr.refl [k1] w69) ?_
      refine h_takeg (i := 10) (v := .string ⟨((rwLine (⟨kindOf (plainW s), 0, 0, 0, [], false⟩ : Rw)).1).toArray⟩) rfl (by kernel_rfl) (by kernel_rfl) (by kernel_rfl) hQ72 (want_1 rfl rfl rfl rfl) rfl (fun hW_ w_ hS_ => (by kernel_rfl)) (Fr.refl [k1] w69) ?_
      refine h_takeg (i := 11) (v := .string ⟨(s).toArray⟩) rfl (by kernel_rfl) (by kernel_rfl) (by kernel_rfl) hQ72 (want_1 rfl rfl rfl rfl) rfl (fun hW_ w_ hS_ => (by kernel_rfl)) (Fr.refl [k1] w69) ?_
      refine h_takeg (i := 12) (v := .bool (decide ((rwLine (⟨kindOf (plainW s), 0, 0, 0, [], false⟩ : Rw)).1 = s))) rfl (by kernel_rfl) (by kernel_rfl) (by kernel_rfl) hQ72 (want_1 rfl rfl rfl rfl) rfl (fun hW_ w_ hS_ => (r_str_eql rfl (gd_true hW_ _) (gd_true hW_ _))) (Fr.refl [k1] w69) ?_
      refine h_take (i := 13) (v := .bool (((((!true) && ((rwLine (⟨kindOf (plainW s), 0, 0, 0, [], false⟩ : Rw)).2))) && (decide ((rwLine (⟨kindOf (plainW s), 0, 0, 0, [], false⟩ : Rw)).1 = s))))) rfl (by kernel_rfl) (by kernel_rfl) (by kernel_rfl) hQ72 rfl rfl (fun w_ hS_ => (r_pick rfl rfl (pick_and _ _))) (Fr.refl [k1] w69) ?_
      have hb76 := (f70.at0 (h66f.at0 (p61.fr.at (h24f.at (p20.fr.at (n17.fr.at0 (h10f.at (n6.fr.at0 n3.at_) (by simp only [List.mem_singleton]; omega))) (by simp only [List.mem_singleton]; omega)) (by simp only [List.mem_singleton]; omega)) (by simp only [List.mem_singleton]; omega))))
      refine h_store (i := 14) (by kernel_rfl) rfl rfl rfl rfl (g := k1) (off := 0) (v := .agg #[.int .i64 (kindOf (plainW s)), .int .i64 0, .int .i64 0, .int .i64 0, .slice none 0 0, .bool false]) (arr := #[.int .i64 (kindOf (plainW s)), .int .i64 0, .int .i64 0, .int .i64 0, .slice none 0 0, .bool false]) rfl rfl (by kernel_rfl) hb76 rfl (by simp [Value.cells, Value.oneCell']) rfl (fun w77 p78 => ⟨(Fr.refl [k1] w69).trans (p78.fr.mono (by simp)), ?_⟩)
      have p78z := p78.sz
      refine h_take (i := 15) (v := .bool (((((!true) && ((rwLine (⟨kindOf (plainW s), 0, 0, 0, [], false⟩ : Rw)).2))) && (decide ((rwLine (⟨kindOf (plainW s), 0, 0, 0, [], false⟩ : Rw)).1 = s))))) rfl (by kernel_rfl) (by kernel_rfl) (by kernel_rfl) hQ72 rfl rfl (fun w_ hS_ => (by kernel_rfl)) ((Fr.refl [k1] w69).trans (p78.fr.mono (by simp))) ?_
      refine wpAnyH_done (by kernel_rfl) ?_ _
      refine n_then ?_
      refine wp_ret ?_
      have hb79 := (p78.fr.at hb75 (by simp only [List.mem_singleton]; omega))
      have hfin := fin_rw (s := s) (bad := true) (e := (⟨kindOf (plainW s), 0, 0, 0, [], false⟩ : Rw)) (by intro hb_; (try simp at hb_) <;> first | (exfalso; omega) | (rcases hb_ with hb2_ | hb2_ <;> first | (exfalso; omega) | (simp [rdRw, okW, errorW, endedW, hb2_, hc29, hc59]; done)) | (simp [rdRw, okW, errorW, endedW, hb_, hc29, hc59] <;> first | rfl | exact decide_eq_decide.2 Iff.rfl) | (simp [rdRw, okW, errorW, endedW, hc29, hc59] <;> first | rfl | exact decide_eq_decide.2 Iff.rfl)) (by intro hb_; (try simp at hb_) <;> first | (exfalso; omega) | (rcases hb_ with hb2_ | hb2_ <;> first | (exfalso; omega) | (simp [rdRw, okW, errorW, endedW, hb2_, hc29, hc59]; done)) | (simp [rdRw, okW, errorW, endedW, hb_, hc29, hc59] <;> first | rfl | exact decide_eq_decide.2 Iff.rfl) | (simp [rdRw, okW, errorW, endedW, hc29, hc59] <;> first | rfl | exact decide_eq_decide.2 Iff.rfl))
      have hd80 := (((hK63.fr0 h66f).fr0 f70).fr p78.fr (by intro g_ hg_; have hg2_ : w60.heap.size ≤ g_ := hg_; simp only [List.mem_singleton]; omega))
      have hE81 : Fr [] w w77 := (Fr.step (hE73.trans f70) p78.fr (by intro k_ hk_; simp only [List.mem_singleton] at hk_; omega))
      have hE81z := hE81.size
      exact end_ret (v := .tuple #[.agg #[.int .i64 (kindOf (plainW s)), .int .i64 0, .int .i64 0, .int .i64 0, .slice none 0 0, .bool false], .bool (((((!true) && ((rwLine (⟨kindOf (plainW s), 0, 0, 0, [], false⟩ : Rw)).2))) && (decide ((rwLine (⟨kindOf (plainW s), 0, 0, 0, [], false⟩ : Rw)).1 = s))))]) (resn2 rfl (rv_row rfl (cs := [.int .i64 (kindOf (plainW s)), .int .i64 0, .int .i64 0, .int .i64 0, .slice none 0 0, .bool false]) Tryz.underlying49 rfl (by kernel_rfl) (range_at p78.at_ rfl)) (rv_tmp rfl)) ⟨_, rfl, ⟨[.int .i64 (kindOf (plainW s)), .int .i64 0, .int .i64 0, .int .i64 0, .slice none 0 0, .bool false], _, Rp.rw.weak hd80 (fun g _ hg_ => by have hg2_ : w60.heap.size ≤ g := hg_; show w.heap.size ≤ g; omega), (by first | (rw [← hfin.1]; done) | (rw [← hfin.1]; rfl)), hfin.2, hE81⟩⟩
    · try simp only [decide_eq_true_eq, decide_eq_false_iff_not, Bool.and_eq_true, Bool.or_eq_true, Bool.and_eq_false_iff, Bool.or_eq_false_iff, Bool.not_eq_true', Bool.not_eq_false', beq_iff_eq, bne_iff_ne, ne_eq, beq_eq_false_iff_ne, bne_eq_false_iff_eq, gt_iff_lt, ge_iff_le, Int.not_lt, Int.not_le] at hc59
      refine wp_seq ?_
      refine r_start ?_
      refine l_v (v := .pointer (some ⟨k15, 0, none⟩)) rfl rfl (r_field rfl rfl Tryz.underlying49 rfl (by kernel_rfl) rfl) ?_
      have hb82 := (h24f.at p20.at_ (by simp only [List.mem_singleton]; omega))
      refine l_v (v := .int .i64 (kindOf (plainW s))) rfl rfl (r_load rfl rfl Tryz.underlying3 rfl (cell_at hb82 rfl)) ?_
      refine l_v (v := .bool (((kindOf (plainW s)) == (1 : Int)))) rfl rfl (by kernel_rfl) ?_
      refine l_v (v := .bool (((kindOf (plainW s)) == (1 : Int)))) rfl rfl (by kernel_rfl) ?_
      refine l_nil ?_
      refine n_then ?_
      refine c_cond (e := ((kindOf (plainW s)) == (1 : Int))) rfl (fun hc83 => ?_) (fun hc83 => ?_)
      · try simp only [decide_eq_true_eq, decide_eq_false_iff_not, Bool.and_eq_true, Bool.or_eq_true, Bool.and_eq_false_iff, Bool.or_eq_false_iff, Bool.not_eq_true', Bool.not_eq_false', beq_iff_eq, bne_iff_ne, ne_eq, beq_eq_false_iff_ne, bne_eq_false_iff_eq, gt_iff_lt, ge_iff_le, Int.not_lt, Int.not_le] at hc83
        refine r_start ?_
        refine l_v (v := .pointer (some ⟨k4, 0, none⟩)) rfl rfl (by kernel_rfl) ?_
        have hE84 : Fr [] w w26 := (Fr.step hE22 h24f (by intro k_ hk_; simp only [List.mem_singleton] at hk_; omega))
        have hE84z := hE84.size
        have hd85 := hg.fr0 hE84
        refine l_call rfl rfl (r_call (args := #[.pointer (some ⟨k4, 0, none⟩)]) rfl e43 (am rfl)) (number_calls w26 hd85 k4 (plainR (plainR s)) ((decide (kindOf (plainW s) < 1))) (by omega) h24b (by omega)) (fun v87 w88 h86 => ?_)
        obtain ⟨h86x, rfl, h86i, h86v, h86f, h86b⟩ := h86
        have h86z := h86f.size
        obtain ⟨h86i1, h86i2⟩ := id h86i
        have hl89 := plainW_len (plainR (plainR s))
        have hl90 := plainR_len (plainR (plainR s))
        refine l_v (v := .pointer (some ⟨k15, 2, none⟩)) rfl rfl (r_field rfl rfl Tryz.underlying49 rfl (by kernel_rfl) rfl) ?_
        have hb91 := (h86f.at hb82 (by simp only [List.mem_singleton]; omega))
        refine l_store rfl rfl rfl (g := k15) (off := 2) (v := .int .i64 h86x) (arr := #[.int .i64 (kindOf (plainW s)), .int .i64 0, .int .i64 h86x, .int .i64 0, .slice none 0 0, .bool false]) rfl rfl (by kernel_rfl) hb91 rfl (by simp [Value.cells, Value.oneCell']) rfl (fun w92 p93 => ?_)
        have p93z := p93.sz
        refine l_nil ?_
        refine n_block ?_
        refine n_then ?_
        refine wp_seq ?_
        refine r_start ?_
        refine l_v (v := .agg #[.int .i64 (kindOf (plainW s)), .int .i64 0, .int .i64 h86x, .int .i64 0, .slice none 0 0, .bool false]) rfl rfl (r_loads (cs := [.int .i64 (kindOf (plainW s)), .int .i64 0, .int .i64 h86x, .int .i64 0, .slice none 0 0, .bool false]) rfl rfl Tryz.underlying49 rfl (by kernel_rfl) (range_at p93.at_ rfl)) ?_
        have hK94 : RwK (fun b => w92.heap.size ≤ b) w92 [.int .i64 (kindOf (plainW s)), .int .i64 0, .int .i64 h86x, .int .i64 0, .slice none 0 0, .bool false] (⟨kindOf (plainW s), 0, h86x, 0, [], false⟩ : Rw) := rwK_mk (Sl.nil _ _ _) (by unfold i64; omega) (by unfold i64; omega) (by unfold i64; omega) (by unfold i64; omega) (by (try simp only [List.length_nil]); omega)
        have hE95 : Fr [] w w92 := (Fr.step (Fr.step hE84 h86f (by intro k_ hk_; simp only [List.mem_singleton] at hk_; omega)) p93.fr (by intro k_ hk_; simp only [List.mem_singleton] at hk_; omega))
        have hE95z := hE95.size
        have hd96 := hg.fr0 hE95
        refine l_call rfl rfl (r_call (args := #[.agg #[.int .i64 (kindOf (plainW s)), .int .i64 0, .int .i64 h86x, .int .i64 0, .slice none 0 0, .bool false]]) rfl e18 (am rfl)) (rowLine_calls w92 hd96 _ _ (⟨kindOf (plainW s), 0, h86x, 0, [], false⟩ : Rw) hK94) (fun v98 w99 h97 => ?_)
        obtain ⟨rfl, h97f⟩ := h97
        have h97z := h97f.size
        refine l_v (v := .tuple #[.string ⟨((rwLine (⟨kindOf (plainW s), 0, h86x, 0, [], false⟩ : Rw)).1).toArray⟩, .bool ((rwLine (⟨kindOf (plainW s), 0, h86x, 0, [], false⟩ : Rw)).2)]) rfl rfl (by kernel_rfl) ?_
        refine l_v (v := .string ⟨((rwLine (⟨kindOf (plainW s), 0, h86x, 0, [], false⟩ : Rw)).1).toArray⟩) rfl rfl (by kernel_rfl) ?_
        refine l_v (v := .bool ((rwLine (⟨kindOf (plainW s), 0, h86x, 0, [], false⟩ : Rw)).2)) rfl rfl (by kernel_rfl) ?_
        refine l_v (v := .string ⟨((rwLine (⟨kindOf (plainW s), 0, h86x, 0, [], false⟩ : Rw)).1).toArray⟩) rfl rfl (by kernel_rfl) ?_
        refine l_v (v := .bool ((rwLine (⟨kindOf (plainW s), 0, h86x, 0, [], false⟩ : Rw)).2)) rfl rfl (by kernel_rfl) ?_
        refine l_nil ?_
        refine n_then ?_
        refine wp_seq ?_
        have hE104 : Fr [] w w99 := (hE95.trans h97f)
        have hE104z := hE104.size
        refine h_start' (fun w0_ w_ => Fr [k1] w0_ w_) hmix (fun _ _ _ _ _ h => h) (fun w100 f101 hQ103 => ?_)
        have f101z := f101.size
        have hb105 := (f101.at0 (h97f.at0 p93.at_))
        refine h_take (i := 0) (v := .agg #[.int .i64 (kindOf (plainW s)), .int .i64 0, .int .i64 h86x, .int .i64 0, .slice none 0 0, .bool false]) rfl (by kernel_rfl) (by kernel_rfl) (by kernel_rfl) hQ103 rfl rfl (fun w_ hS_ => (r_loads (cs := [.int .i64 (kindOf (plainW s)), .int .i64 0, .int .i64 h86x, .int .i64 0, .slice none 0 0, .bool false]) rfl rfl Tryz.underlying49 rfl (by kernel_rfl) (range_at (hS_.at hb105 (by simp; omega)) rfl))) (Fr.refl [k1] w100) ?_
        refine h_take (i := 1) (v := .pointer (some ⟨k4, 0, none⟩)) rfl (by kernel_rfl) (by kernel_rfl) (by kernel_rfl) hQ103 rfl rfl (fun w_ hS_ => (by kernel_rfl)) (Fr.refl [k1] w100) ?_
        refine h_take (i := 2) (v := .pointer (some ⟨k4, 0, none⟩)) rfl (by kernel_rfl) (by kernel_rfl) (by kernel_rfl) hQ103 rfl rfl (fun w_ hS_ => (by kernel_rfl)) (Fr.refl [k1] w100) ?_
        refine h_take (i := 3) (v := .pointer (some ⟨k4, 1, none⟩)) rfl (by kernel_rfl) (by kernel_rfl) (by kernel_rfl) hQ103 rfl rfl (fun w_ hS_ => (r_field rfl rfl Tryz.underlying92 rfl (by kernel_rfl) rfl)) (Fr.refl [k1] w100) ?_
        have hb106 := (f101.at0 (h97f.at0 (p93.fr.at h86b (by simp only [List.mem_singleton]; omega))))
        refine h_take (i := 4) (v := .bool (((decide (kindOf (plainW s) < 1))) || (atoiOk (plainW (plainR (plainR s)))).isNone)) rfl (by kernel_rfl) (by kernel_rfl) (by kernel_rfl) hQ103 rfl rfl (fun w_ hS_ => (r_load rfl rfl Tryz.underlying4 rfl (cell_at (hS_.at hb106 (by simp; omega)) rfl))) (Fr.refl [k1] w100) ?_
        refine h_take (i := 5) (v := .bool ((!(((decide (kindOf (plainW s) < 1))) || (atoiOk (plainW (plainR (plainR s)))).isNone)))) rfl (by kernel_rfl) (by kernel_rfl) (by kernel_rfl) hQ103 rfl rfl (fun w_ hS_ => (by kernel_rfl)) (Fr.refl [k1] w100) ?_
        refine h_take (i := 6) (v := .bool ((!(((decide (kindOf (plainW s) < 1))) || (atoiOk (plainW (plainR (plainR s)))).isNone)))) rfl (by kernel_rfl) (by kernel_rfl) (by kernel_rfl) hQ103 rfl rfl (fun w_ hS_ => (by kernel_rfl)) (Fr.refl [k1] w100) ?_
        refine h_takeg (i := 7) (v := .bool ((rwLine (⟨kindOf (plainW s), 0, h86x, 0, [], false⟩ : Rw)).2)) rfl (by kernel_rfl) (by kernel_rfl) (by kernel_rfl) hQ103 (want_1 rfl rfl rfl rfl) rfl (fun hW_ w_ hS_ => (by kernel_rfl)) (Fr.refl [k1] w100) ?_
        refine h_take (i := 8) (v := .bool ((((!(((decide (kindOf (plainW s) < 1))) || (atoiOk (plainW (plainR (plainR s)))).isNone))) && ((rwLine (⟨kindOf (plainW s), 0, h86x, 0, [], false⟩ : Rw)).2)))) rfl (by kernel_rfl) (by kernel_rfl) (by kernel_rfl) hQ103 rfl rfl (fun w_ hS_ => (r_pick rfl rfl (pick_and _ _))) (Fr.refl [k1] w100) ?_
        refine h_take (i := 9) (v := .bool ((((!(((decide (kindOf (plainW s) < 1))) || (atoiOk (plainW (plainR (plainR s)))).isNone))) && ((rwLine (⟨kindOf (plainW s), 0, h86x, 0, [], false⟩ : Rw)).2)))) rfl (by kernel_rfl) (by kernel_rfl) (by kernel_rfl) hQ103 rfl rfl (fun w_ hS_ => (by kernel_rfl)) (Fr.refl [k1] w100) ?_
        refine h_takeg (i := 10) (v := .string ⟨((rwLine (⟨kindOf (plainW s), 0, h86x, 0, [], false⟩ : Rw)).1).toArray⟩) rfl (by kernel_rfl) (by kernel_rfl) (by kernel_rfl) hQ103 (want_1 rfl rfl rfl rfl) rfl (fun hW_ w_ hS_ => (by kernel_rfl)) (Fr.refl [k1] w100) ?_
        refine h_takeg (i := 11) (v := .string ⟨(s).toArray⟩) rfl (by kernel_rfl) (by kernel_rfl) (by kernel_rfl) hQ103 (want_1 rfl rfl rfl rfl) rfl (fun hW_ w_ hS_ => (by kernel_rfl)) (Fr.refl [k1] w100) ?_
        refine h_takeg (i := 12) (v := .bool (decide ((rwLine (⟨kindOf (plainW s), 0, h86x, 0, [], false⟩ : Rw)).1 = s))) rfl (by kernel_rfl) (by kernel_rfl) (by kernel_rfl) hQ103 (want_1 rfl rfl rfl rfl) rfl (fun hW_ w_ hS_ => (r_str_eql rfl (gd_true hW_ _) (gd_true hW_ _))) (Fr.refl [k1] w100) ?_
        refine h_take (i := 13) (v := .bool ((((((!(((decide (kindOf (plainW s) < 1))) || (atoiOk (plainW (plainR (plainR s)))).isNone))) && ((rwLine (⟨kindOf (plainW s), 0, h86x, 0, [], false⟩ : Rw)).2))) && (decide ((rwLine (⟨kindOf (plainW s), 0, h86x, 0, [], false⟩ : Rw)).1 = s))))) rfl (by kernel_rfl) (by kernel_rfl) (by kernel_rfl) hQ103 rfl rfl (fun w_ hS_ => (r_pick rfl rfl (pick_and _ _))) (Fr.refl [k1] w100) ?_
        have hb107 := (f101.at0 (h97f.at0 (p93.fr.at (h86f.at (h24f.at (p20.fr.at (n17.fr.at0 (h10f.at (n6.fr.at0 n3.at_) (by simp only [List.mem_singleton]; omega))) (by simp only [List.mem_singleton]; omega)) (by simp only [List.mem_singleton]; omega)) (by simp only [List.mem_singleton]; omega)) (by simp only [List.mem_singleton]; omega))))
        refine h_store (i := 14) (by kernel_rfl) rfl rfl rfl rfl (g := k1) (off := 0) (v := .agg #[.int .i64 (kindOf (plainW s)), .int .i64 0, .int .i64 h86x, .int .i64 0, .slice none 0 0, .bool false]) (arr := #[.int .i64 (kindOf (plainW s)), .int .i64 0, .int .i64 h86x, .int .i64 0, .slice none 0 0, .bool false]) rfl rfl (by kernel_rfl) hb107 rfl (by simp [Value.cells, Value.oneCell']) rfl (fun w108 p109 => ⟨(Fr.refl [k1] w100).trans (p109.fr.mono (by simp)), ?_⟩)
        have p109z := p109.sz
        refine h_take (i := 15) (v := .bool ((((((!(((decide (kindOf (plainW s) < 1))) || (atoiOk (plainW (plainR (plainR s)))).isNone))) && ((rwLine (⟨kindOf (plainW s), 0, h86x, 0, [], false⟩ : Rw)).2))) && (decide ((rwLine (⟨kindOf (plainW s), 0, h86x, 0, [], false⟩ : Rw)).1 = s))))) rfl (by kernel_rfl) (by kernel_rfl) (by kernel_rfl) hQ103 rfl rfl (fun w_ hS_ => (by kernel_rfl)) ((Fr.refl [k1] w100).trans (p109.fr.mono (by simp))) ?_
        refine wpAnyH_done (by kernel_rfl) ?_ _
        refine n_then ?_
        refine wp_ret ?_
        have hb110 := (p109.fr.at hb106 (by simp only [List.mem_singleton]; omega))
        have hfin := fin_rw (s := s) (bad := ((decide (kindOf (plainW s) < 1))) || (atoiOk (plainW (plainR (plainR s)))).isNone) (e := (⟨kindOf (plainW s), 0, h86x, 0, [], false⟩ : Rw)) (by intro hb_; rcases num_ok h86v with hn_ | hn_ <;> simp [hn_] at hb_ <;> first | (exfalso; omega) | simp [rdRw, okW, errorW, endedW, hn_, hb_, hc29, hc59, hc83] | simp [rdRw, okW, errorW, endedW, hn_, hc29, hc59, hc83]) (by intro hb_; rcases num_ok h86v with hn_ | hn_ <;> simp [hn_] at hb_ <;> first | (exfalso; omega) | simp [rdRw, okW, errorW, endedW, hn_, hb_, hc29, hc59, hc83] | simp [rdRw, okW, errorW, endedW, hn_, hc29, hc59, hc83])
        have hd111 := (((hK94.fr0 h97f).fr0 f101).fr p109.fr (by intro g_ hg_; have hg2_ : w92.heap.size ≤ g_ := hg_; simp only [List.mem_singleton]; omega))
        have hE112 : Fr [] w w108 := (Fr.step (hE104.trans f101) p109.fr (by intro k_ hk_; simp only [List.mem_singleton] at hk_; omega))
        have hE112z := hE112.size
        exact end_ret (v := .tuple #[.agg #[.int .i64 (kindOf (plainW s)), .int .i64 0, .int .i64 h86x, .int .i64 0, .slice none 0 0, .bool false], .bool ((((((!(((decide (kindOf (plainW s) < 1))) || (atoiOk (plainW (plainR (plainR s)))).isNone))) && ((rwLine (⟨kindOf (plainW s), 0, h86x, 0, [], false⟩ : Rw)).2))) && (decide ((rwLine (⟨kindOf (plainW s), 0, h86x, 0, [], false⟩ : Rw)).1 = s))))]) (resn2 rfl (rv_row rfl (cs := [.int .i64 (kindOf (plainW s)), .int .i64 0, .int .i64 h86x, .int .i64 0, .slice none 0 0, .bool false]) Tryz.underlying49 rfl (by kernel_rfl) (range_at p109.at_ rfl)) (rv_tmp rfl)) ⟨_, rfl, ⟨[.int .i64 (kindOf (plainW s)), .int .i64 0, .int .i64 h86x, .int .i64 0, .slice none 0 0, .bool false], _, Rp.rw.weak hd111 (fun g _ hg_ => by have hg2_ : w92.heap.size ≤ g := hg_; show w.heap.size ≤ g; omega), (by first | (rw [← hfin.1]; done) | (rw [← hfin.1]; rfl)), hfin.2, hE112⟩⟩
      · try simp only [decide_eq_true_eq, decide_eq_false_iff_not, Bool.and_eq_true, Bool.or_eq_true, Bool.and_eq_false_iff, Bool.or_eq_false_iff, Bool.not_eq_true', Bool.not_eq_false', beq_iff_eq, bne_iff_ne, ne_eq, beq_eq_false_iff_ne, bne_eq_false_iff_eq, gt_iff_lt, ge_iff_le, Int.not_lt, Int.not_le] at hc83
        refine wp_seq ?_
        refine r_start ?_
        refine l_v (v := .pointer (some ⟨k15, 0, none⟩)) rfl rfl (r_field rfl rfl Tryz.underlying49 rfl (by kernel_rfl) rfl) ?_
        refine l_v (v := .int .i64 (kindOf (plainW s))) rfl rfl (r_load rfl rfl Tryz.underlying3 rfl (cell_at hb82 rfl)) ?_
        refine l_v (v := .bool (((kindOf (plainW s)) == (5 : Int)))) rfl rfl (by kernel_rfl) ?_
        refine l_v (v := .bool (((kindOf (plainW s)) == (5 : Int)))) rfl rfl (by kernel_rfl) ?_
        refine l_nil ?_
        refine n_then ?_
        refine c_cond (e := ((kindOf (plainW s)) == (5 : Int))) rfl (fun hc113 => ?_) (fun hc113 => ?_)
        · try simp only [decide_eq_true_eq, decide_eq_false_iff_not, Bool.and_eq_true, Bool.or_eq_true, Bool.and_eq_false_iff, Bool.or_eq_false_iff, Bool.not_eq_true', Bool.not_eq_false', beq_iff_eq, bne_iff_ne, ne_eq, beq_eq_false_iff_ne, bne_eq_false_iff_eq, gt_iff_lt, ge_iff_le, Int.not_lt, Int.not_le] at hc113
          refine r_start ?_
          refine l_v (v := .pointer (some ⟨k4, 0, none⟩)) rfl rfl (by kernel_rfl) ?_
          have hE114 : Fr [] w w26 := (Fr.step hE22 h24f (by intro k_ hk_; simp only [List.mem_singleton] at hk_; omega))
          have hE114z := hE114.size
          have hd115 := hg.fr0 hE114
          refine l_call rfl rfl (r_call (args := #[.pointer (some ⟨k4, 0, none⟩)]) rfl e43 (am rfl)) (number_calls w26 hd115 k4 (plainR (plainR s)) ((decide (kindOf (plainW s) < 1))) (by omega) h24b (by omega)) (fun v117 w118 h116 => ?_)
          obtain ⟨h116x, rfl, h116i, h116v, h116f, h116b⟩ := h116
          have h116z := h116f.size
          obtain ⟨h116i1, h116i2⟩ := id h116i
          have hl119 := plainW_len (plainR (plainR s))
          have hl120 := plainR_len (plainR (plainR s))
          refine l_v (v := .pointer (some ⟨k15, 3, none⟩)) rfl rfl (r_field rfl rfl Tryz.underlying49 rfl (by kernel_rfl) rfl) ?_
          have hb121 := (h116f.at hb82 (by simp only [List.mem_singleton]; omega))
          refine l_store rfl rfl rfl (g := k15) (off := 3) (v := .int .i64 h116x) (arr := #[.int .i64 (kindOf (plainW s)), .int .i64 0, .int .i64 0, .int .i64 h116x, .slice none 0 0, .bool false]) rfl rfl (by kernel_rfl) hb121 rfl (by simp [Value.cells, Value.oneCell']) rfl (fun w122 p123 => ?_)
          have p123z := p123.sz
          refine l_nil ?_
          refine n_block ?_
          refine n_then ?_
          refine wp_seq ?_
          refine r_start ?_
          refine l_v (v := .agg #[.int .i64 (kindOf (plainW s)), .int .i64 0, .int .i64 0, .int .i64 h116x, .slice none 0 0, .bool false]) rfl rfl (r_loads (cs := [.int .i64 (kindOf (plainW s)), .int .i64 0, .int .i64 0, .int .i64 h116x, .slice none 0 0, .bool false]) rfl rfl Tryz.underlying49 rfl (by kernel_rfl) (range_at p123.at_ rfl)) ?_
          have hK124 : RwK (fun b => w122.heap.size ≤ b) w122 [.int .i64 (kindOf (plainW s)), .int .i64 0, .int .i64 0, .int .i64 h116x, .slice none 0 0, .bool false] (⟨kindOf (plainW s), 0, 0, h116x, [], false⟩ : Rw) := rwK_mk (Sl.nil _ _ _) (by unfold i64; omega) (by unfold i64; omega) (by unfold i64; omega) (by unfold i64; omega) (by (try simp only [List.length_nil]); omega)
          have hE125 : Fr [] w w122 := (Fr.step (Fr.step hE114 h116f (by intro k_ hk_; simp only [List.mem_singleton] at hk_; omega)) p123.fr (by intro k_ hk_; simp only [List.mem_singleton] at hk_; omega))
          have hE125z := hE125.size
          have hd126 := hg.fr0 hE125
          refine l_call rfl rfl (r_call (args := #[.agg #[.int .i64 (kindOf (plainW s)), .int .i64 0, .int .i64 0, .int .i64 h116x, .slice none 0 0, .bool false]]) rfl e18 (am rfl)) (rowLine_calls w122 hd126 _ _ (⟨kindOf (plainW s), 0, 0, h116x, [], false⟩ : Rw) hK124) (fun v128 w129 h127 => ?_)
          obtain ⟨rfl, h127f⟩ := h127
          have h127z := h127f.size
          refine l_v (v := .tuple #[.string ⟨((rwLine (⟨kindOf (plainW s), 0, 0, h116x, [], false⟩ : Rw)).1).toArray⟩, .bool ((rwLine (⟨kindOf (plainW s), 0, 0, h116x, [], false⟩ : Rw)).2)]) rfl rfl (by kernel_rfl) ?_
          refine l_v (v := .string ⟨((rwLine (⟨kindOf (plainW s), 0, 0, h116x, [], false⟩ : Rw)).1).toArray⟩) rfl rfl (by kernel_rfl) ?_
          refine l_v (v := .bool ((rwLine (⟨kindOf (plainW s), 0, 0, h116x, [], false⟩ : Rw)).2)) rfl rfl (by kernel_rfl) ?_
          refine l_v (v := .string ⟨((rwLine (⟨kindOf (plainW s), 0, 0, h116x, [], false⟩ : Rw)).1).toArray⟩) rfl rfl (by kernel_rfl) ?_
          refine l_v (v := .bool ((rwLine (⟨kindOf (plainW s), 0, 0, h116x, [], false⟩ : Rw)).2)) rfl rfl (by kernel_rfl) ?_
          refine l_nil ?_
          refine n_then ?_
          refine wp_seq ?_
          have hE134 : Fr [] w w129 := (hE125.trans h127f)
          have hE134z := hE134.size
          refine h_start' (fun w0_ w_ => Fr [k1] w0_ w_) hmix (fun _ _ _ _ _ h => h) (fun w130 f131 hQ133 => ?_)
          have f131z := f131.size
          have hb135 := (f131.at0 (h127f.at0 p123.at_))
          refine h_take (i := 0) (v := .agg #[.int .i64 (kindOf (plainW s)), .int .i64 0, .int .i64 0, .int .i64 h116x, .slice none 0 0, .bool false]) rfl (by kernel_rfl) (by kernel_rfl) (by kernel_rfl) hQ133 rfl rfl (fun w_ hS_ => (r_loads (cs := [.int .i64 (kindOf (plainW s)), .int .i64 0, .int .i64 0, .int .i64 h116x, .slice none 0 0, .bool false]) rfl rfl Tryz.underlying49 rfl (by kernel_rfl) (range_at (hS_.at hb135 (by simp; omega)) rfl))) (Fr.refl [k1] w130) ?_
          refine h_take (i := 1) (v := .pointer (some ⟨k4, 0, none⟩)) rfl (by kernel_rfl) (by kernel_rfl) (by kernel_rfl) hQ133 rfl rfl (fun w_ hS_ => (by kernel_rfl)) (Fr.refl [k1] w130) ?_
          refine h_take (i := 2) (v := .pointer (some ⟨k4, 0, none⟩)) rfl (by kernel_rfl) (by kernel_rfl) (by kernel_rfl) hQ133 rfl rfl (fun w_ hS_ => (by kernel_rfl)) (Fr.refl [k1] w130) ?_
          refine h_take (i := 3) (v := .pointer (some ⟨k4, 1, none⟩)) rfl (by kernel_rfl) (by kernel_rfl) (by kernel_rfl) hQ133 rfl rfl (fun w_ hS_ => (r_field rfl rfl Tryz.underlying92 rfl (by kernel_rfl) rfl)) (Fr.refl [k1] w130) ?_
          have hb136 := (f131.at0 (h127f.at0 (p123.fr.at h116b (by simp only [List.mem_singleton]; omega))))
          refine h_take (i := 4) (v := .bool (((decide (kindOf (plainW s) < 1))) || (atoiOk (plainW (plainR (plainR s)))).isNone)) rfl (by kernel_rfl) (by kernel_rfl) (by kernel_rfl) hQ133 rfl rfl (fun w_ hS_ => (r_load rfl rfl Tryz.underlying4 rfl (cell_at (hS_.at hb136 (by simp; omega)) rfl))) (Fr.refl [k1] w130) ?_
          refine h_take (i := 5) (v := .bool ((!(((decide (kindOf (plainW s) < 1))) || (atoiOk (plainW (plainR (plainR s)))).isNone)))) rfl (by kernel_rfl) (by kernel_rfl) (by kernel_rfl) hQ133 rfl rfl (fun w_ hS_ => (by kernel_rfl)) (Fr.refl [k1] w130) ?_
          refine h_take (i := 6) (v := .bool ((!(((decide (kindOf (plainW s) < 1))) || (atoiOk (plainW (plainR (plainR s)))).isNone)))) rfl (by kernel_rfl) (by kernel_rfl) (by kernel_rfl) hQ133 rfl rfl (fun w_ hS_ => (by kernel_rfl)) (Fr.refl [k1] w130) ?_
          refine h_takeg (i := 7) (v := .bool ((rwLine (⟨kindOf (plainW s), 0, 0, h116x, [], false⟩ : Rw)).2)) rfl (by kernel_rfl) (by kernel_rfl) (by kernel_rfl) hQ133 (want_1 rfl rfl rfl rfl) rfl (fun hW_ w_ hS_ => (by kernel_rfl)) (Fr.refl [k1] w130) ?_
          refine h_take (i := 8) (v := .bool ((((!(((decide (kindOf (plainW s) < 1))) || (atoiOk (plainW (plainR (plainR s)))).isNone))) && ((rwLine (⟨kindOf (plainW s), 0, 0, h116x, [], false⟩ : Rw)).2)))) rfl (by kernel_rfl) (by kernel_rfl) (by kernel_rfl) hQ133 rfl rfl (fun w_ hS_ => (r_pick rfl rfl (pick_and _ _))) (Fr.refl [k1] w130) ?_
          refine h_take (i := 9) (v := .bool ((((!(((decide (kindOf (plainW s) < 1))) || (atoiOk (plainW (plainR (plainR s)))).isNone))) && ((rwLine (⟨kindOf (plainW s), 0, 0, h116x, [], false⟩ : Rw)).2)))) rfl (by kernel_rfl) (by kernel_rfl) (by kernel_rfl) hQ133 rfl rfl (fun w_ hS_ => (by kernel_rfl)) (Fr.refl [k1] w130) ?_
          refine h_takeg (i := 10) (v := .string ⟨((rwLine (⟨kindOf (plainW s), 0, 0, h116x, [], false⟩ : Rw)).1).toArray⟩) rfl (by kernel_rfl) (by kernel_rfl) (by kernel_rfl) hQ133 (want_1 rfl rfl rfl rfl) rfl (fun hW_ w_ hS_ => (by kernel_rfl)) (Fr.refl [k1] w130) ?_
          refine h_takeg (i := 11) (v := .string ⟨(s).toArray⟩) rfl (by kernel_rfl) (by kernel_rfl) (by kernel_rfl) hQ133 (want_1 rfl rfl rfl rfl) rfl (fun hW_ w_ hS_ => (by kernel_rfl)) (Fr.refl [k1] w130) ?_
          refine h_takeg (i := 12) (v := .bool (decide ((rwLine (⟨kindOf (plainW s), 0, 0, h116x, [], false⟩ : Rw)).1 = s))) rfl (by kernel_rfl) (by kernel_rfl) (by kernel_rfl) hQ133 (want_1 rfl rfl rfl rfl) rfl (fun hW_ w_ hS_ => (r_str_eql rfl (gd_true hW_ _) (gd_true hW_ _))) (Fr.refl [k1] w130) ?_
          refine h_take (i := 13) (v := .bool ((((((!(((decide (kindOf (plainW s) < 1))) || (atoiOk (plainW (plainR (plainR s)))).isNone))) && ((rwLine (⟨kindOf (plainW s), 0, 0, h116x, [], false⟩ : Rw)).2))) && (decide ((rwLine (⟨kindOf (plainW s), 0, 0, h116x, [], false⟩ : Rw)).1 = s))))) rfl (by kernel_rfl) (by kernel_rfl) (by kernel_rfl) hQ133 rfl rfl (fun w_ hS_ => (r_pick rfl rfl (pick_and _ _))) (Fr.refl [k1] w130) ?_
          have hb137 := (f131.at0 (h127f.at0 (p123.fr.at (h116f.at (h24f.at (p20.fr.at (n17.fr.at0 (h10f.at (n6.fr.at0 n3.at_) (by simp only [List.mem_singleton]; omega))) (by simp only [List.mem_singleton]; omega)) (by simp only [List.mem_singleton]; omega)) (by simp only [List.mem_singleton]; omega)) (by simp only [List.mem_singleton]; omega))))
          refine h_store (i := 14) (by kernel_rfl) rfl rfl rfl rfl (g := k1) (off := 0) (v := .agg #[.int .i64 (kindOf (plainW s)), .int .i64 0, .int .i64 0, .int .i64 h116x, .slice none 0 0, .bool false]) (arr := #[.int .i64 (kindOf (plainW s)), .int .i64 0, .int .i64 0, .int .i64 h116x, .slice none 0 0, .bool false]) rfl rfl (by kernel_rfl) hb137 rfl (by simp [Value.cells, Value.oneCell']) rfl (fun w138 p139 => ⟨(Fr.refl [k1] w130).trans (p139.fr.mono (by simp)), ?_⟩)
          have p139z := p139.sz
          refine h_take (i := 15) (v := .bool ((((((!(((decide (kindOf (plainW s) < 1))) || (atoiOk (plainW (plainR (plainR s)))).isNone))) && ((rwLine (⟨kindOf (plainW s), 0, 0, h116x, [], false⟩ : Rw)).2))) && (decide ((rwLine (⟨kindOf (plainW s), 0, 0, h116x, [], false⟩ : Rw)).1 = s))))) rfl (by kernel_rfl) (by kernel_rfl) (by kernel_rfl) hQ133 rfl rfl (fun w_ hS_ => (by kernel_rfl)) ((Fr.refl [k1] w130).trans (p139.fr.mono (by simp))) ?_
          refine wpAnyH_done (by kernel_rfl) ?_ _
          refine n_then ?_
          refine wp_ret ?_
          have hb140 := (p139.fr.at hb136 (by simp only [List.mem_singleton]; omega))
          have hfin := fin_rw (s := s) (bad := ((decide (kindOf (plainW s) < 1))) || (atoiOk (plainW (plainR (plainR s)))).isNone) (e := (⟨kindOf (plainW s), 0, 0, h116x, [], false⟩ : Rw)) (by intro hb_; rcases num_ok h116v with hn_ | hn_ <;> simp [hn_] at hb_ <;> first | (exfalso; omega) | simp [rdRw, okW, errorW, endedW, hn_, hb_, hc29, hc59, hc83, hc113] | simp [rdRw, okW, errorW, endedW, hn_, hc29, hc59, hc83, hc113]) (by intro hb_; rcases num_ok h116v with hn_ | hn_ <;> simp [hn_] at hb_ <;> first | (exfalso; omega) | simp [rdRw, okW, errorW, endedW, hn_, hb_, hc29, hc59, hc83, hc113] | simp [rdRw, okW, errorW, endedW, hn_, hc29, hc59, hc83, hc113])
          have hd141 := (((hK124.fr0 h127f).fr0 f131).fr p139.fr (by intro g_ hg_; have hg2_ : w122.heap.size ≤ g_ := hg_; simp only [List.mem_singleton]; omega))
          have hE142 : Fr [] w w138 := (Fr.step (hE134.trans f131) p139.fr (by intro k_ hk_; simp only [List.mem_singleton] at hk_; omega))
          have hE142z := hE142.size
          exact end_ret (v := .tuple #[.agg #[.int .i64 (kindOf (plainW s)), .int .i64 0, .int .i64 0, .int .i64 h116x, .slice none 0 0, .bool false], .bool ((((((!(((decide (kindOf (plainW s) < 1))) || (atoiOk (plainW (plainR (plainR s)))).isNone))) && ((rwLine (⟨kindOf (plainW s), 0, 0, h116x, [], false⟩ : Rw)).2))) && (decide ((rwLine (⟨kindOf (plainW s), 0, 0, h116x, [], false⟩ : Rw)).1 = s))))]) (resn2 rfl (rv_row rfl (cs := [.int .i64 (kindOf (plainW s)), .int .i64 0, .int .i64 0, .int .i64 h116x, .slice none 0 0, .bool false]) Tryz.underlying49 rfl (by kernel_rfl) (range_at p139.at_ rfl)) (rv_tmp rfl)) ⟨_, rfl, ⟨[.int .i64 (kindOf (plainW s)), .int .i64 0, .int .i64 0, .int .i64 h116x, .slice none 0 0, .bool false], _, Rp.rw.weak hd141 (fun g _ hg_ => by have hg2_ : w122.heap.size ≤ g := hg_; show w.heap.size ≤ g; omega), (by first | (rw [← hfin.1]; done) | (rw [← hfin.1]; rfl)), hfin.2, hE142⟩⟩
        · try simp only [decide_eq_true_eq, decide_eq_false_iff_not, Bool.and_eq_true, Bool.or_eq_true, Bool.and_eq_false_iff, Bool.or_eq_false_iff, Bool.not_eq_true', Bool.not_eq_false', beq_iff_eq, bne_iff_ne, ne_eq, beq_eq_false_iff_ne, bne_eq_false_iff_eq, gt_iff_lt, ge_iff_le, Int.not_lt, Int.not_le] at hc113
          refine wp_seq ?_
          refine r_start ?_
          refine l_v (v := .pointer (some ⟨k15, 0, none⟩)) rfl rfl (r_field rfl rfl Tryz.underlying49 rfl (by kernel_rfl) rfl) ?_
          refine l_v (v := .int .i64 (kindOf (plainW s))) rfl rfl (r_load rfl rfl Tryz.underlying3 rfl (cell_at hb82 rfl)) ?_
          refine l_v (v := .bool (((kindOf (plainW s)) == (2 : Int)))) rfl rfl (by kernel_rfl) ?_
          refine l_v (v := .bool (((kindOf (plainW s)) == (2 : Int)))) rfl rfl (by kernel_rfl) ?_
          refine l_nil ?_
          refine n_then ?_
          refine c_cond (e := ((kindOf (plainW s)) == (2 : Int))) rfl (fun hc143 => ?_) (fun hc143 => ?_)
          · try simp only [decide_eq_true_eq, decide_eq_false_iff_not, Bool.and_eq_true, Bool.or_eq_true, Bool.and_eq_false_iff, Bool.or_eq_false_iff, Bool.not_eq_true', Bool.not_eq_false', beq_iff_eq, bne_iff_ne, ne_eq, beq_eq_false_iff_ne, bne_eq_false_iff_eq, gt_iff_lt, ge_iff_le, Int.not_lt, Int.not_le] at hc143
            refine wp_seq ?_
            refine r_start ?_
            refine l_v (v := .pointer (some ⟨k4, 0, none⟩)) rfl rfl (by kernel_rfl) ?_
            have hE144 : Fr [] w w26 := (Fr.step hE22 h24f (by intro k_ hk_; simp only [List.mem_singleton] at hk_; omega))
            have hE144z := hE144.size
            have hd145 := hg.fr0 hE144
            refine l_call rfl rfl (r_call (args := #[.pointer (some ⟨k4, 0, none⟩)]) rfl e44 (am rfl)) (word_calls w26 hd145 k4 (plainR (plainR s)) ((decide (kindOf (plainW s) < 1))) (by omega) h24b (by omega)) (fun v147 w148 h146 => ?_)
            obtain ⟨h146B, h146f, h146b⟩ := h146
            have h146z := h146f.size
            obtain ⟨h146A, h146c, rfl, h146l, h146E⟩ := id h146B
            have h146u := unqR_len (plainR (plainR s))
            have h146t := trim_len (unqR (plainR (plainR s))).2.1
            have hl149 := plainW_len (plainR (plainR s))
            have hl150 := plainR_len (plainR (plainR s))
            refine l_v (v := .pointer (some ⟨k15, 4, none⟩)) rfl rfl (r_field rfl rfl Tryz.underlying49 rfl (by kernel_rfl) rfl) ?_
            have hb151 := (h146f.at hb82 (by simp only [List.mem_singleton]; omega))
            refine l_store rfl rfl rfl (g := k15) (off := 4) (v := .slice h146A ((unqR (plainR (plainR s))).1.length) h146c) (arr := #[.int .i64 (kindOf (plainW s)), .int .i64 0, .int .i64 0, .int .i64 0, .slice h146A ((unqR (plainR (plainR s))).1.length) h146c, .bool false]) rfl rfl (by kernel_rfl) hb151 rfl (by simp [Value.cells, Value.oneCell']) rfl (fun w152 p153 => ?_)
            have p153z := p153.sz
            refine l_nil ?_
            refine n_then ?_
            refine r_start ?_
            refine l_v (v := .pointer (some ⟨k4, 0, none⟩)) rfl rfl (by kernel_rfl) ?_
            have hb154 := (p153.fr.at h146b (by simp only [List.mem_singleton]; omega))
            have hE155 : Fr [] w w152 := (Fr.step (Fr.step hE144 h146f (by intro k_ hk_; simp only [List.mem_singleton] at hk_; omega)) p153.fr (by intro k_ hk_; simp only [List.mem_singleton] at hk_; omega))
            have hE155z := hE155.size
            have hd156 := hg.fr0 hE155
            refine l_call rfl rfl (r_call (args := #[.pointer (some ⟨k4, 0, none⟩)]) rfl e42 (am rfl)) (plain_calls w152 hd156 k4 (Lib.trimPrefix (unqR (plainR (plainR s))).2.1 [32]) (((decide (kindOf (plainW s) < 1))) || !(unqR (plainR (plainR s))).2.2) (by omega) hb154 (by omega)) (fun v158 w159 h157 => ?_)
            obtain ⟨rfl, h157f, h157b⟩ := h157
            have h157z := h157f.size
            have hl160 := plainW_len (Lib.trimPrefix (unqR (plainR (plainR s))).2.1 [32])
            have hl161 := plainR_len (Lib.trimPrefix (unqR (plainR (plainR s))).2.1 [32])
            refine l_v (v := .bool (decide (plainW (Lib.trimPrefix (unqR (plainR (plainR s))).2.1 [32]) = ([101, 110, 100, 101, 100] : List UInt8)))) rfl rfl (r_str_eql rfl rfl rfl) ?_
            refine l_v (v := .pointer (some ⟨k15, 5, none⟩)) rfl rfl (r_field rfl rfl Tryz.underlying49 rfl (by kernel_rfl) rfl) ?_
            have hb162 := (h157f.at p153.at_ (by simp only [List.mem_singleton]; omega))
            refine l_store rfl rfl rfl (g := k15) (off := 5) (v := .bool (decide (plainW (Lib.trimPrefix (unqR (plainR (plainR s))).2.1 [32]) = ([101, 110, 100, 101, 100] : List UInt8)))) (arr := #[.int .i64 (kindOf (plainW s)), .int .i64 0, .int .i64 0, .int .i64 0, .slice h146A ((unqR (plainR (plainR s))).1.length) h146c, .bool (decide (plainW (Lib.trimPrefix (unqR (plainR (plainR s))).2.1 [32]) = ([101, 110, 100, 101, 100] : List UInt8)))]) rfl rfl (by kernel_rfl) hb162 rfl (by simp [Value.cells, Value.oneCell']) rfl (fun w163 p164 => ?_)
            have p164z := p164.sz
            refine l_nil ?_
            refine n_block ?_
            refine n_then ?_
            refine wp_seq ?_
            refine r_start ?_
            refine l_v (v := .agg #[.int .i64 (kindOf (plainW s)), .int .i64 0, .int .i64 0, .int .i64 0, .slice h146A ((unqR (plainR (plainR s))).1.length) h146c, .bool (decide (plainW (Lib.trimPrefix (unqR (plainR (plainR s))).2.1 [32]) = ([101, 110, 100, 101, 100] : List UInt8)))]) rfl rfl (r_loads (cs := [.int .i64 (kindOf (plainW s)), .int .i64 0, .int .i64 0, .int .i64 0, .slice h146A ((unqR (plainR (plainR s))).1.length) h146c, .bool (decide (plainW (Lib.trimPrefix (unqR (plainR (plainR s))).2.1 [32]) = ([101, 110, 100, 101, 100] : List UInt8)))]) rfl rfl Tryz.underlying49 rfl (by kernel_rfl) (range_at p164.at_ rfl)) ?_
            have hd165 := (((h146B.fr p153.fr (by intro g_ hg_; have hg2_ : w26.heap.size ≤ g_ := hg_; simp only [List.mem_singleton]; omega)).fr h157f (by intro g_ hg_; have hg2_ : w26.heap.size ≤ g_ := hg_; simp only [List.mem_singleton]; omega)).fr p164.fr (by intro g_ hg_; have hg2_ : w26.heap.size ≤ g_ := hg_; simp only [List.mem_singleton]; omega))
            have hK166 : RwK (fun b => w26.heap.size ≤ b) w163 [.int .i64 (kindOf (plainW s)), .int .i64 0, .int .i64 0, .int .i64 0, .slice h146A ((unqR (plainR (plainR s))).1.length) h146c, .bool (decide (plainW (Lib.trimPrefix (unqR (plainR (plainR s))).2.1 [32]) = ([101, 110, 100, 101, 100] : List UInt8)))] (⟨kindOf (plainW s), 0, 0, 0, (unqR (plainR (plainR s))).1, decide (plainW (Lib.trimPrefix (unqR (plainR (plainR s))).2.1 [32]) = ([101, 110, 100, 101, 100] : List UInt8))⟩ : Rw) := rwK_mk hd165 (by unfold i64; omega) (by unfold i64; omega) (by unfold i64; omega) (by unfold i64; omega) (by (try simp only [List.length_nil]); omega)
            have hE167 : Fr [] w w163 := (Fr.step (Fr.step hE155 h157f (by intro k_ hk_; simp only [List.mem_singleton] at hk_; omega)) p164.fr (by intro k_ hk_; simp only [List.mem_singleton] at hk_; omega))
            have hE167z := hE167.size
            have hd168 := hg.fr0 hE167
            refine l_call rfl rfl (r_call (args := #[.agg #[.int .i64 (kindOf (plainW s)), .int .i64 0, .int .i64 0, .int .i64 0, .slice h146A ((unqR (plainR (plainR s))).1.length) h146c, .bool (decide (plainW (Lib.trimPrefix (unqR (plainR (plainR s))).2.1 [32]) = ([101, 110, 100, 101, 100] : List UInt8)))]]) rfl e18 (am rfl)) (rowLine_calls w163 hd168 _ _ (⟨kindOf (plainW s), 0, 0, 0, (unqR (plainR (plainR s))).1, decide (plainW (Lib.trimPrefix (unqR (plainR (plainR s))).2.1 [32]) = ([101, 110, 100, 101, 100] : List UInt8))⟩ : Rw) hK166) (fun v170 w171 h169 => ?_)
            obtain ⟨rfl, h169f⟩ := h169
            have h169z := h169f.size
            refine l_v (v := .tuple #[.string ⟨((rwLine (⟨kindOf (plainW s), 0, 0, 0, (unqR (plainR (plainR s))).1, decide (plainW (Lib.trimPrefix (unqR (plainR (plainR s))).2.1 [32]) = ([101, 110, 100, 101, 100] : List UInt8))⟩ : Rw)).1).toArray⟩, .bool ((rwLine (⟨kindOf (plainW s), 0, 0, 0, (unqR (plainR (plainR s))).1, decide (plainW (Lib.trimPrefix (unqR (plainR (plainR s))).2.1 [32]) = ([101, 110, 100, 101, 100] : List UInt8))⟩ : Rw)).2)]) rfl rfl (by kernel_rfl) ?_
            refine l_v (v := .string ⟨((rwLine (⟨kindOf (plainW s), 0, 0, 0, (unqR (plainR (plainR s))).1, decide (plainW (Lib.trimPrefix (unqR (plainR (plainR s))).2.1 [32]) = ([101, 110, 100, 101, 100] : List UInt8))⟩ : Rw)).1).toArray⟩) rfl rfl (by kernel_rfl) ?_
            refine l_v (v := .bool ((rwLine (⟨kindOf (plainW s), 0, 0, 0, (unqR (plainR (plainR s))).1, decide (plainW (Lib.trimPrefix (unqR (plainR (plainR s))).2.1 [32]) = ([101, 110, 100, 101, 100] : List UInt8))⟩ : Rw)).2)) rfl rfl (by kernel_rfl) ?_
            refine l_v (v := .string ⟨((rwLine (⟨kindOf (plainW s), 0, 0, 0, (unqR (plainR (plainR s))).1, decide (plainW (Lib.trimPrefix (unqR (plainR (plainR s))).2.1 [32]) = ([101, 110, 100, 101, 100] : List UInt8))⟩ : Rw)).1).toArray⟩) rfl rfl (by kernel_rfl) ?_
            refine l_v (v := .bool ((rwLine (⟨kindOf (plainW s), 0, 0, 0, (unqR (plainR (plainR s))).1, decide (plainW (Lib.trimPrefix (unqR (plainR (plainR s))).2.1 [32]) = ([101, 110, 100, 101, 100] : List UInt8))⟩ : Rw)).2)) rfl rfl (by kernel_rfl) ?_
            refine l_nil ?_
            refine n_then ?_
            refine wp_seq ?_
            have hE176 : Fr [] w w171 := (hE167.trans h169f)
            have hE176z := hE176.size
            refine h_start' (fun w0_ w_ => Fr [k1] w0_ w_) hmix (fun _ _ _ _ _ h => h) (fun w172 f173 hQ175 => ?_)
            have f173z := f173.size
            have hb177 := (f173.at0 (h169f.at0 p164.at_))
            refine h_take (i := 0) (v := .agg #[.int .i64 (kindOf (plainW s)), .int .i64 0, .int .i64 0, .int .i64 0, .slice h146A ((unqR (plainR (plainR s))).1.length) h146c, .bool (decide (plainW (Lib.trimPrefix (unqR (plainR (plainR s))).2.1 [32]) = ([101, 110, 100, 101, 100] : List UInt8)))]) rfl (by kernel_rfl) (by kernel_rfl) (by kernel_rfl) hQ175 rfl rfl (fun w_ hS_ => (r_loads (cs := [.int .i64 (kindOf (plainW s)), .int .i64 0, .int .i64 0, .int .i64 0, .slice h146A ((unqR (plainR (plainR s))).1.length) h146c, .bool (decide (plainW (Lib.trimPrefix (unqR (plainR (plainR s))).2.1 [32]) = ([101, 110, 100, 101, 100] : List UInt8)))]) rfl rfl Tryz.underlying49 rfl (by kernel_rfl) (range_at (hS_.at hb177 (by simp; omega)) rfl))) (Fr.refl [k1] w172) ?_
            refine h_take (i := 1) (v := .pointer (some ⟨k4, 0, none⟩)) rfl (by kernel_rfl) (by kernel_rfl) (by kernel_rfl) hQ175 rfl rfl (fun w_ hS_ => (by kernel_rfl)) (Fr.refl [k1] w172) ?_
            refine h_take (i := 2) (v := .pointer (some ⟨k4, 0, none⟩)) rfl (by kernel_rfl) (by kernel_rfl) (by kernel_rfl) hQ175 rfl rfl (fun w_ hS_ => (by kernel_rfl)) (Fr.refl [k1] w172) ?_
            refine h_take (i := 3) (v := .pointer (some ⟨k4, 1, none⟩)) rfl (by kernel_rfl) (by kernel_rfl) (by kernel_rfl) hQ175 rfl rfl (fun w_ hS_ => (r_field rfl rfl Tryz.underlying92 rfl (by kernel_rfl) rfl)) (Fr.refl [k1] w172) ?_
            have hb178 := (f173.at0 (h169f.at0 (p164.fr.at h157b (by simp only [List.mem_singleton]; omega))))
            refine h_take (i := 4) (v := .bool ((((decide (kindOf (plainW s) < 1))) || !(unqR (plainR (plainR s))).2.2))) rfl (by kernel_rfl) (by kernel_rfl) (by kernel_rfl) hQ175 rfl rfl (fun w_ hS_ => (r_load rfl rfl Tryz.underlying4 rfl (cell_at (hS_.at hb178 (by simp; omega)) rfl))) (Fr.refl [k1] w172) ?_
            refine h_take (i := 5) (v := .bool ((!((((decide (kindOf (plainW s) < 1))) || !(unqR (plainR (plainR s))).2.2))))) rfl (by kernel_rfl) (by kernel_rfl) (by kernel_rfl) hQ175 rfl rfl (fun w_ hS_ => (by kernel_rfl)) (Fr.refl [k1] w172) ?_
            refine h_take (i := 6) (v := .bool ((!((((decide (kindOf (plainW s) < 1))) || !(unqR (plainR (plainR s))).2.2))))) rfl (by kernel_rfl) (by kernel_rfl) (by kernel_rfl) hQ175 rfl rfl (fun w_ hS_ => (by kernel_rfl)) (Fr.refl [k1] w172) ?_
            refine h_takeg (i := 7) (v := .bool ((rwLine (⟨kindOf (plainW s), 0, 0, 0, (unqR (plainR (plainR s))).1, decide (plainW (Lib.trimPrefix (unqR (plainR (plainR s))).2.1 [32]) = ([101, 110, 100, 101, 100] : List UInt8))⟩ : Rw)).2)) rfl (by kernel_rfl) (by kernel_rfl) (by kernel_rfl) hQ175 (want_1 rfl rfl rfl rfl) rfl (fun hW_ w_ hS_ => (by kernel_rfl)) (Fr.refl [k1] w172) ?_
            refine h_take (i := 8) (v := .bool ((((!((((decide (kindOf (plainW s) < 1))) || !(unqR (plainR (plainR s))).2.2)))) && ((rwLine (⟨kindOf (plainW s), 0, 0, 0, (unqR (plainR (plainR s))).1, decide (plainW (Lib.trimPrefix (unqR (plainR (plainR s))).2.1 [32]) = ([101, 110, 100, 101, 100] : List UInt8))⟩ : Rw)).2)))) rfl (by kernel_rfl) (by kernel_rfl) (by kernel_rfl) hQ175 rfl rfl (fun w_ hS_ => (r_pick rfl rfl (pick_and _ _))) (Fr.refl [k1] w172) ?_
            refine h_take (i := 9) (v := .bool ((((!((((decide (kindOf (plainW s) < 1))) || !(unqR (plainR (plainR s))).2.2)))) && ((rwLine (⟨kindOf (plainW s), 0, 0, 0, (unqR (plainR (plainR s))).1, decide (plainW (Lib.trimPrefix (unqR (plainR (plainR s))).2.1 [32]) = ([101, 110, 100, 101, 100] : List UInt8))⟩ : Rw)).2)))) rfl (by kernel_rfl) (by kernel_rfl) (by kernel_rfl) hQ175 rfl rfl (fun w_ hS_ => (by kernel_rfl)) (Fr.refl [k1] w172) ?_
            refine h_takeg (i := 10) (v := .string ⟨((rwLine (⟨kindOf (plainW s), 0, 0, 0, (unqR (plainR (plainR s))).1, decide (plainW (Lib.trimPrefix (unqR (plainR (plainR s))).2.1 [32]) = ([101, 110, 100, 101, 100] : List UInt8))⟩ : Rw)).1).toArray⟩) rfl (by kernel_rfl) (by kernel_rfl) (by kernel_rfl) hQ175 (want_1 rfl rfl rfl rfl) rfl (fun hW_ w_ hS_ => (by kernel_rfl)) (Fr.refl [k1] w172) ?_
            refine h_takeg (i := 11) (v := .string ⟨(s).toArray⟩) rfl (by kernel_rfl) (by kernel_rfl) (by kernel_rfl) hQ175 (want_1 rfl rfl rfl rfl) rfl (fun hW_ w_ hS_ => (by kernel_rfl)) (Fr.refl [k1] w172) ?_
            refine h_takeg (i := 12) (v := .bool (decide ((rwLine (⟨kindOf (plainW s), 0, 0, 0, (unqR (plainR (plainR s))).1, decide (plainW (Lib.trimPrefix (unqR (plainR (plainR s))).2.1 [32]) = ([101, 110, 100, 101, 100] : List UInt8))⟩ : Rw)).1 = s))) rfl (by kernel_rfl) (by kernel_rfl) (by kernel_rfl) hQ175 (want_1 rfl rfl rfl rfl) rfl (fun hW_ w_ hS_ => (r_str_eql rfl (gd_true hW_ _) (gd_true hW_ _))) (Fr.refl [k1] w172) ?_
            refine h_take (i := 13) (v := .bool ((((((!((((decide (kindOf (plainW s) < 1))) || !(unqR (plainR (plainR s))).2.2)))) && ((rwLine (⟨kindOf (plainW s), 0, 0, 0, (unqR (plainR (plainR s))).1, decide (plainW (Lib.trimPrefix (unqR (plainR (plainR s))).2.1 [32]) = ([101, 110, 100, 101, 100] : List UInt8))⟩ : Rw)).2))) && (decide ((rwLine (⟨kindOf (plainW s), 0, 0, 0, (unqR (plainR (plainR s))).1, decide (plainW (Lib.trimPrefix (unqR (plainR (plainR s))).2.1 [32]) = ([101, 110, 100, 101, 100] : List UInt8))⟩ : Rw)).1 = s))))) rfl (by kernel_rfl) (by kernel_rfl) (by kernel_rfl) hQ175 rfl rfl (fun w_ hS_ => (r_pick rfl rfl (pick_and _ _))) (Fr.refl [k1] w172) ?_
            have hb179 := (f173.at0 (h169f.at0 (p164.fr.at (h157f.at (p153.fr.at (h146f.at (h24f.at (p20.fr.at (n17.fr.at0 (h10f.at (n6.fr.at0 n3.at_) (by simp only [List.mem_singleton]; omega))) (by simp only [List.mem_singleton]; omega)) (by simp only [List.mem_singleton]; omega)) (by simp only [List.mem_singleton]; omega)) (by simp only [List.mem_singleton]; omega)) (by simp only [List.mem_singleton]; omega)) (by simp only [List.mem_singleton]; omega))))
            refine h_store (i := 14) (by kernel_rfl) rfl rfl rfl rfl (g := k1) (off := 0) (v := .agg #[.int .i64 (kindOf (plainW s)), .int .i64 0, .int .i64 0, .int .i64 0, .slice h146A ((unqR (plainR (plainR s))).1.length) h146c, .bool (decide (plainW (Lib.trimPrefix (unqR (plainR (plainR s))).2.1 [32]) = ([101, 110, 100, 101, 100] : List UInt8)))]) (arr := #[.int .i64 (kindOf (plainW s)), .int .i64 0, .int .i64 0, .int .i64 0, .slice h146A ((unqR (plainR (plainR s))).1.length) h146c, .bool (decide (plainW (Lib.trimPrefix (unqR (plainR (plainR s))).2.1 [32]) = ([101, 110, 100, 101, 100] : List UInt8)))]) rfl rfl (by kernel_rfl) hb179 rfl (by simp [Value.cells, Value.oneCell']) rfl (fun w180 p181 => ⟨(Fr.refl [k1] w172).trans (p181.fr.mono (by simp)), ?_⟩)
            have p181z := p181.sz
            refine h_take (i := 15) (v := .bool ((((((!((((decide (kindOf (plainW s) < 1))) || !(unqR (plainR (plainR s))).2.2)))) && ((rwLine (⟨kindOf (plainW s), 0, 0, 0, (unqR (plainR (plainR s))).1, decide (plainW (Lib.trimPrefix (unqR (plainR (plainR s))).2.1 [32]) = ([101, 110, 100, 101, 100] : List UInt8))⟩ : Rw)).2))) && (decide ((rwLine (⟨kindOf (plainW s), 0, 0, 0, (unqR (plainR (plainR s))).1, decide (plainW (Lib.trimPrefix (unqR (plainR (plainR s))).2.1 [32]) = ([101, 110, 100, 101, 100] : List UInt8))⟩ : Rw)).1 = s))))) rfl (by kernel_rfl) (by kernel_rfl) (by kernel_rfl) hQ175 rfl rfl (fun w_ hS_ => (by kernel_rfl)) ((Fr.refl [k1] w172).trans (p181.fr.mono (by simp))) ?_
            refine wpAnyH_done (by kernel_rfl) ?_ _
            refine n_then ?_
            refine wp_ret ?_
            have hb182 := (p181.fr.at hb178 (by simp only [List.mem_singleton]; omega))
            have hfin := fin_rw (s := s) (bad := (((decide (kindOf (plainW s) < 1))) || !(unqR (plainR (plainR s))).2.2)) (e := (⟨kindOf (plainW s), 0, 0, 0, (unqR (plainR (plainR s))).1, decide (plainW (Lib.trimPrefix (unqR (plainR (plainR s))).2.1 [32]) = ([101, 110, 100, 101, 100] : List UInt8))⟩ : Rw)) (by intro hb_; (try simp at hb_) <;> first | (exfalso; omega) | (rcases hb_ with hb2_ | hb2_ <;> first | (exfalso; omega) | (simp [rdRw, okW, errorW, endedW, hb2_, hc29, hc59, hc83, hc113, hc143]; done)) | (simp [rdRw, okW, errorW, endedW, hb_, hc29, hc59, hc83, hc113, hc143] <;> first | rfl | exact decide_eq_decide.2 Iff.rfl) | (simp [rdRw, okW, errorW, endedW, hc29, hc59, hc83, hc113, hc143] <;> first | rfl | exact decide_eq_decide.2 Iff.rfl)) (by intro hb_; (try simp at hb_) <;> first | (exfalso; omega) | (rcases hb_ with hb2_ | hb2_ <;> first | (exfalso; omega) | (simp [rdRw, okW, errorW, endedW, hb2_, hc29, hc59, hc83, hc113, hc143]; done)) | (simp [rdRw, okW, errorW, endedW, hb_, hc29, hc59, hc83, hc113, hc143] <;> first | rfl | exact decide_eq_decide.2 Iff.rfl) | (simp [rdRw, okW, errorW, endedW, hc29, hc59, hc83, hc113, hc143] <;> first | rfl | exact decide_eq_decide.2 Iff.rfl))
            have hd183 := (((hK166.fr0 h169f).fr0 f173).fr p181.fr (by intro g_ hg_; have hg2_ : w26.heap.size ≤ g_ := hg_; simp only [List.mem_singleton]; omega))
            have hE184 : Fr [] w w180 := (Fr.step (hE176.trans f173) p181.fr (by intro k_ hk_; simp only [List.mem_singleton] at hk_; omega))
            have hE184z := hE184.size
            exact end_ret (v := .tuple #[.agg #[.int .i64 (kindOf (plainW s)), .int .i64 0, .int .i64 0, .int .i64 0, .slice h146A ((unqR (plainR (plainR s))).1.length) h146c, .bool (decide (plainW (Lib.trimPrefix (unqR (plainR (plainR s))).2.1 [32]) = ([101, 110, 100, 101, 100] : List UInt8)))], .bool ((((((!((((decide (kindOf (plainW s) < 1))) || !(unqR (plainR (plainR s))).2.2)))) && ((rwLine (⟨kindOf (plainW s), 0, 0, 0, (unqR (plainR (plainR s))).1, decide (plainW (Lib.trimPrefix (unqR (plainR (plainR s))).2.1 [32]) = ([101, 110, 100, 101, 100] : List UInt8))⟩ : Rw)).2))) && (decide ((rwLine (⟨kindOf (plainW s), 0, 0, 0, (unqR (plainR (plainR s))).1, decide (plainW (Lib.trimPrefix (unqR (plainR (plainR s))).2.1 [32]) = ([101, 110, 100, 101, 100] : List UInt8))⟩ : Rw)).1 = s))))]) (resn2 rfl (rv_row rfl (cs := [.int .i64 (kindOf (plainW s)), .int .i64 0, .int .i64 0, .int .i64 0, .slice h146A ((unqR (plainR (plainR s))).1.length) h146c, .bool (decide (plainW (Lib.trimPrefix (unqR (plainR (plainR s))).2.1 [32]) = ([101, 110, 100, 101, 100] : List UInt8)))]) Tryz.underlying49 rfl (by kernel_rfl) (range_at p181.at_ rfl)) (rv_tmp rfl)) ⟨_, rfl, ⟨[.int .i64 (kindOf (plainW s)), .int .i64 0, .int .i64 0, .int .i64 0, .slice h146A ((unqR (plainR (plainR s))).1.length) h146c, .bool (decide (plainW (Lib.trimPrefix (unqR (plainR (plainR s))).2.1 [32]) = ([101, 110, 100, 101, 100] : List UInt8)))], _, Rp.rw.weak hd183 (fun g _ hg_ => by have hg2_ : w26.heap.size ≤ g := hg_; show w.heap.size ≤ g; omega), (by first | (rw [← hfin.1]; done) | (rw [← hfin.1]; rfl)), hfin.2, hE184⟩⟩
          · try simp only [decide_eq_true_eq, decide_eq_false_iff_not, Bool.and_eq_true, Bool.or_eq_true, Bool.and_eq_false_iff, Bool.or_eq_false_iff, Bool.not_eq_true', Bool.not_eq_false', beq_iff_eq, bne_iff_ne, ne_eq, beq_eq_false_iff_ne, bne_eq_false_iff_eq, gt_iff_lt, ge_iff_le, Int.not_lt, Int.not_le] at hc143
            refine wp_skip ?_
            refine n_block ?_
            refine n_then ?_
            refine wp_seq ?_
            refine r_start ?_
            refine l_v (v := .agg #[.int .i64 (kindOf (plainW s)), .int .i64 0, .int .i64 0, .int .i64 0, .slice none 0 0, .bool false]) rfl rfl (r_loads (cs := [.int .i64 (kindOf (plainW s)), .int .i64 0, .int .i64 0, .int .i64 0, .slice none 0 0, .bool false]) rfl rfl Tryz.underlying49 rfl (by kernel_rfl) (range_at hb82 rfl)) ?_
            have hK185 : RwK (fun b => w26.heap.size ≤ b) w26 [.int .i64 (kindOf (plainW s)), .int .i64 0, .int .i64 0, .int .i64 0, .slice none 0 0, .bool false] (⟨kindOf (plainW s), 0, 0, 0, [], false⟩ : Rw) := rwK_mk (Sl.nil _ _ _) (by unfold i64; omega) (by unfold i64; omega) (by unfold i64; omega) (by unfold i64; omega) (by (try simp only [List.length_nil]); omega)
            have hE186 : Fr [] w w26 := (Fr.step hE22 h24f (by intro k_ hk_; simp only [List.mem_singleton] at hk_; omega))
            have hE186z := hE186.size
            have hd187 := hg.fr0 hE186
            refine l_call rfl rfl (r_call (args := #[.agg #[.int .i64 (kindOf (plainW s)), .int .i64 0, .int .i64 0, .int .i64 0, .slice none 0 0, .bool false]]) rfl e18 (am rfl)) (rowLine_calls w26 hd187 _ _ (⟨kindOf (plainW s), 0, 0, 0, [], false⟩ : Rw) hK185) (fun v189 w190 h188 => ?_)
            obtain ⟨rfl, h188f⟩ := h188
            have h188z := h188f.size
            refine l_v (v := .tuple #[.string ⟨((rwLine (⟨kindOf (plainW s), 0, 0, 0, [], false⟩ : Rw)).1).toArray⟩, .bool ((rwLine (⟨kindOf (plainW s), 0, 0, 0, [], false⟩ : Rw)).2)]) rfl rfl (by kernel_rfl) ?_
            refine l_v (v := .string ⟨((rwLine (⟨kindOf (plainW s), 0, 0, 0, [], false⟩ : Rw)).1).toArray⟩) rfl rfl (by kernel_rfl) ?_
            refine l_v (v := .bool ((rwLine (⟨kindOf (plainW s), 0, 0, 0, [], false⟩ : Rw)).2)) rfl rfl (by kernel_rfl) ?_
            refine l_v (v := .string ⟨((rwLine (⟨kindOf (plainW s), 0, 0, 0, [], false⟩ : Rw)).1).toArray⟩) rfl rfl (by kernel_rfl) ?_
            refine l_v (v := .bool ((rwLine (⟨kindOf (plainW s), 0, 0, 0, [], false⟩ : Rw)).2)) rfl rfl (by kernel_rfl) ?_
            refine l_nil ?_
            refine n_then ?_
            refine wp_seq ?_
            have hE195 : Fr [] w w190 := (hE186.trans h188f)
            have hE195z := hE195.size
            refine h_start' (fun w0_ w_ => Fr [k1] w0_ w_) hmix (fun _ _ _ _ _ h => h) (fun w191 f192 hQ194 => ?_)
            have f192z := f192.size
            have hb196 := (f192.at0 (h188f.at0 hb82))
            refine h_take (i := 0) (v := .agg #[.int .i64 (kindOf (plainW s)), .int .i64 0, .int .i64 0, .int .i64 0, .slice none 0 0, .bool false]) rfl (by kernel_rfl) (by kernel_rfl) (by kernel_rfl) hQ194 rfl rfl (fun w_ hS_ => (r_loads (cs := [.int .i64 (kindOf (plainW s)), .int .i64 0, .int .i64 0, .int .i64 0, .slice none 0 0, .bool false]) rfl rfl Tryz.underlying49 rfl (by kernel_rfl) (range_at (hS_.at hb196 (by simp; omega)) rfl))) (Fr.refl [k1] w191) ?_
            refine h_take (i := 1) (v := .pointer (some ⟨k4, 0, none⟩)) rfl (by kernel_rfl) (by kernel_rfl) (by kernel_rfl) hQ194 rfl rfl (fun w_ hS_ => (by kernel_rfl)) (Fr.refl [k1] w191) ?_
            refine h_take (i := 2) (v := .pointer (some ⟨k4, 0, none⟩)) rfl (by kernel_rfl) (by kernel_rfl) (by kernel_rfl) hQ194 rfl rfl (fun w_ hS_ => (by kernel_rfl)) (Fr.refl [k1] w191) ?_
            refine h_take (i := 3) (v := .pointer (some ⟨k4, 1, none⟩)) rfl (by kernel_rfl) (by kernel_rfl) (by kernel_rfl) hQ194 rfl rfl (fun w_ hS_ => (r_field rfl rfl Tryz.underlying92 rfl (by kernel_rfl) rfl)) (Fr.refl [k1] w191) ?_
            have hb197 := (f192.at0 (h188f.at0 h24b))
            refine h_take (i := 4) (v := .bool ((decide (kindOf (plainW s) < 1)))) rfl (by kernel_rfl) (by kernel_rfl) (by kernel_rfl) hQ194 rfl rfl (fun w_ hS_ => (r_load rfl rfl Tryz.underlying4 rfl (cell_at (hS_.at hb197 (by simp; omega)) rfl))) (Fr.refl [k1] w191) ?_
            refine h_take (i := 5) (v := .bool ((!((decide (kindOf (plainW s) < 1)))))) rfl (by kernel_rfl) (by kernel_rfl) (by kernel_rfl) hQ194 rfl rfl (fun w_ hS_ => (by kernel_rfl)) (Fr.refl [k1] w191) ?_
            refine h_take (i := 6) (v := .bool ((!((decide (kindOf (plainW s) < 1)))))) rfl (by kernel_rfl) (by kernel_rfl) (by kernel_rfl) hQ194 rfl rfl (fun w_ hS_ => (by kernel_rfl)) (Fr.refl [k1] w191) ?_
            refine h_takeg (i := 7) (v := .bool ((rwLine (⟨kindOf (plainW s), 0, 0, 0, [], false⟩ : Rw)).2)) rfl (by kernel_rfl) (by kernel_rfl) (by kernel_rfl) hQ194 (want_1 rfl rfl rfl rfl) rfl (fun hW_ w_ hS_ => (by kernel_rfl)) (Fr.refl [k1] w191) ?_
            refine h_take (i := 8) (v := .bool ((((!((decide (kindOf (plainW s) < 1))))) && ((rwLine (⟨kindOf (plainW s), 0, 0, 0, [], false⟩ : Rw)).2)))) rfl (by kernel_rfl) (by kernel_rfl) (by kernel_rfl) hQ194 rfl rfl (fun w_ hS_ => (r_pick rfl rfl (pick_and _ _))) (Fr.refl [k1] w191) ?_
            refine h_take (i := 9) (v := .bool ((((!((decide (kindOf (plainW s) < 1))))) && ((rwLine (⟨kindOf (plainW s), 0, 0, 0, [], false⟩ : Rw)).2)))) rfl (by kernel_rfl) (by kernel_rfl) (by kernel_rfl) hQ194 rfl rfl (fun w_ hS_ => (by kernel_rfl)) (Fr.refl [k1] w191) ?_
            refine h_takeg (i := 10) (v := .string ⟨((rwLine (⟨kindOf (plainW s), 0, 0, 0, [], false⟩ : Rw)).1).toArray⟩) rfl (by kernel_rfl) (by kernel_rfl) (by kernel_rfl) hQ194 (want_1 rfl rfl rfl rfl) rfl (fun hW_ w_ hS_ => (by kernel_rfl)) (Fr.refl [k1] w191) ?_
            refine h_takeg (i := 11) (v := .string ⟨(s).toArray⟩) rfl (by kernel_rfl) (by kernel_rfl) (by kernel_rfl) hQ194 (want_1 rfl rfl rfl rfl) rfl (fun hW_ w_ hS_ => (by kernel_rfl)) (Fr.refl [k1] w191) ?_
            refine h_takeg (i := 12) (v := .bool (decide ((rwLine (⟨kindOf (plainW s), 0, 0, 0, [], false⟩ : Rw)).1 = s))) rfl (by kernel_rfl) (by kernel_rfl) (by kernel_rfl) hQ194 (want_1 rfl rfl rfl rfl) rfl (fun hW_ w_ hS_ => (r_str_eql rfl (gd_true hW_ _) (gd_true hW_ _))) (Fr.refl [k1] w191) ?_
            refine h_take (i := 13) (v := .bool ((((((!((decide (kindOf (plainW s) < 1))))) && ((rwLine (⟨kindOf (plainW s), 0, 0, 0, [], false⟩ : Rw)).2))) && (decide ((rwLine (⟨kindOf (plainW s), 0, 0, 0, [], false⟩ : Rw)).1 = s))))) rfl (by kernel_rfl) (by kernel_rfl) (by kernel_rfl) hQ194 rfl rfl (fun w_ hS_ => (r_pick rfl rfl (pick_and _ _))) (Fr.refl [k1] w191) ?_
            have hb198 := (f192.at0 (h188f.at0 (h24f.at (p20.fr.at (n17.fr.at0 (h10f.at (n6.fr.at0 n3.at_) (by simp only [List.mem_singleton]; omega))) (by simp only [List.mem_singleton]; omega)) (by simp only [List.mem_singleton]; omega))))
            refine h_store (i := 14) (by kernel_rfl) rfl rfl rfl rfl (g := k1) (off := 0) (v := .agg #[.int .i64 (kindOf (plainW s)), .int .i64 0, .int .i64 0, .int .i64 0, .slice none 0 0, .bool false]) (arr := #[.int .i64 (kindOf (plainW s)), .int .i64 0, .int .i64 0, .int .i64 0, .slice none 0 0, .bool false]) rfl rfl (by kernel_rfl) hb198 rfl (by simp [Value.cells, Value.oneCell']) rfl (fun w199 p200 => ⟨(Fr.refl [k1] w191).trans (p200.fr.mono (by simp)), ?_⟩)
            have p200z := p200.sz
            refine h_take (i := 15) (v := .bool ((((((!((decide (kindOf (plainW s) < 1))))) && ((rwLine (⟨kindOf (plainW s), 0, 0, 0, [], false⟩ : Rw)).2))) && (decide ((rwLine (⟨kindOf (plainW s), 0, 0, 0, [], false⟩ : Rw)).1 = s))))) rfl (by kernel_rfl) (by kernel_rfl) (by kernel_rfl) hQ194 rfl rfl (fun w_ hS_ => (by kernel_rfl)) ((Fr.refl [k1] w191).trans (p200.fr.mono (by simp))) ?_
            refine wpAnyH_done (by kernel_rfl) ?_ _
            refine n_then ?_
            refine wp_ret ?_
            have hb201 := (p200.fr.at hb197 (by simp only [List.mem_singleton]; omega))
            have hfin := fin_rw (s := s) (bad := (decide (kindOf (plainW s) < 1))) (e := (⟨kindOf (plainW s), 0, 0, 0, [], false⟩ : Rw)) (by intro hb_; (try simp at hb_) <;> first | (exfalso; omega) | (rcases hb_ with hb2_ | hb2_ <;> first | (exfalso; omega) | (simp [rdRw, okW, errorW, endedW, hb2_, hc29, hc59, hc83, hc113, hc143]; done)) | (simp [rdRw, okW, errorW, endedW, hb_, hc29, hc59, hc83, hc113, hc143] <;> first | rfl | exact decide_eq_decide.2 Iff.rfl) | (simp [rdRw, okW, errorW, endedW, hc29, hc59, hc83, hc113, hc143] <;> first | rfl | exact decide_eq_decide.2 Iff.rfl)) (by intro hb_; (try simp at hb_) <;> first | (exfalso; omega) | (rcases hb_ with hb2_ | hb2_ <;> first | (exfalso; omega) | (simp [rdRw, okW, errorW, endedW, hb2_, hc29, hc59, hc83, hc113, hc143]; done)) | (simp [rdRw, okW, errorW, endedW, hb_, hc29, hc59, hc83, hc113, hc143] <;> first | rfl | exact decide_eq_decide.2 Iff.rfl) | (simp [rdRw, okW, errorW, endedW, hc29, hc59, hc83, hc113, hc143] <;> first | rfl | exact decide_eq_decide.2 Iff.rfl))
            have hd202 := (((hK185.fr0 h188f).fr0 f192).fr p200.fr (by intro g_ hg_; have hg2_ : w26.heap.size ≤ g_ := hg_; simp only [List.mem_singleton]; omega))
            have hE203 : Fr [] w w199 := (Fr.step (hE195.trans f192) p200.fr (by intro k_ hk_; simp only [List.mem_singleton] at hk_; omega))
            have hE203z := hE203.size
            exact end_ret (v := .tuple #[.agg #[.int .i64 (kindOf (plainW s)), .int .i64 0, .int .i64 0, .int .i64 0, .slice none 0 0, .bool false], .bool ((((((!((decide (kindOf (plainW s) < 1))))) && ((rwLine (⟨kindOf (plainW s), 0, 0, 0, [], false⟩ : Rw)).2))) && (decide ((rwLine (⟨kindOf (plainW s), 0, 0, 0, [], false⟩ : Rw)).1 = s))))]) (resn2 rfl (rv_row rfl (cs := [.int .i64 (kindOf (plainW s)), .int .i64 0, .int .i64 0, .int .i64 0, .slice none 0 0, .bool false]) Tryz.underlying49 rfl (by kernel_rfl) (range_at p200.at_ rfl)) (rv_tmp rfl)) ⟨_, rfl, ⟨[.int .i64 (kindOf (plainW s)), .int .i64 0, .int .i64 0, .int .i64 0, .slice none 0 0, .bool false], _, Rp.rw.weak hd202 (fun g _ hg_ => by have hg2_ : w26.heap.size ≤ g := hg_; show w.heap.size ≤ g; omega), (by first | (rw [← hfin.1]; done) | (rw [← hfin.1]; rfl)), hfin.2, hE203⟩⟩

end Go.Proofs.YtmhljojgdfmjaaaGreatDoor
