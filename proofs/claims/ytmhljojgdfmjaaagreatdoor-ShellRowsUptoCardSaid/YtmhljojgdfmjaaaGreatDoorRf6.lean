/- walks -/
import Derived.Test.YtmhljojgdfmjaaaGreatDoorRf4
import Derived.Test.YtmhljojgdfmjaaaGreatDoorRf5
import Derived.Test.YtmhljojgdfmjaaaGreatDoorRef2
namespace Go.Proofs.YtmhljojgdfmjaaaGreatDoor
open Go.E
set_option linter.unusedVariables false
set_option linter.unusedSimpArgs false
set_option maxRecDepth 100000
set_option maxHeartbeats 1000000
open Go.Sh
/-- ref31.Row -/
theorem rRow_calls (w : World) (s : List UInt8) (hl : s.length ≤ 1048576) :
    Does Tryz.prog 23 #[.string ⟨(s).toArray⟩] w fun r w' => ∃ cs e, RwK (fun b => w.heap.size ≤ b) w' cs e ∧ r = .tuple #[.agg cs.toArray, .bool (parseRw s).isSome] ∧ (∀ x, parseRw s = some x → e = x) ∧ Fr [] w w' := by
  have hk0 := kindR_b (lettersW s)
  have hkb0 := kindOf_b (lettersW s)
  refine Does.of (fn_in (l := [.string ⟨(s).toArray⟩]) Tryz.func23 rfl Tryz.ntmps23 rfl ?_)
  refine wp_seq ?_
  refine r_start ?_
  refine l_new (fun k_ => .pointer (some ⟨k_, 0, none⟩)) rfl rfl (by kernel_rfl) (ob := .cells #[.int .i64 0, .int .i64 0, .int .i64 0, .int .i64 0, .slice none 0 0, .bool false] 54) (fun k1 w2 n3 => ?_)
  have n3k := n3.hk; have n3z := n3.sz
  refine l_v (v := .bool false) rfl rfl (by kernel_rfl) ?_
  refine l_nil ?_
  refine n_then ?_
  refine wp_seq ?_
  refine r_start ?_
  refine l_v (v := .string ⟨(s).toArray⟩) rfl rfl (by kernel_rfl) ?_
  refine l_v (v := .agg #[.string ⟨(s).toArray⟩, .bool false]) rfl rfl (by kernel_rfl) ?_
  refine l_new (fun k_ => .pointer (some ⟨k_, 0, none⟩)) rfl rfl (by kernel_rfl) (ob := .cells #[.string ⟨(s).toArray⟩, .bool false] 96) (fun k4 w5 n6 => ?_)
  have hE7 : Fr [] w w2 := ((Fr.refl [] w).trans n3.fr)
  have hE7z := hE7.size
  have n6k := n6.hk; have n6z := n6.sz
  refine l_v (v := .pointer (some ⟨k4, 0, none⟩)) rfl rfl (by kernel_rfl) ?_
  refine l_nil ?_
  refine n_then ?_
  refine wp_seq ?_
  refine r_start ?_
  refine l_v (v := .pointer (some ⟨k4, 0, none⟩)) rfl rfl (by kernel_rfl) ?_
  have hl8 := bS_len s
  have hl9 := lW_len s
  have hl10 := lR_len s
  refine l_call rfl rfl (r_call (args := #[.pointer (some ⟨k4, 0, none⟩)]) rfl e45 (am rfl)) (rkind_calls w5 k4 s false n6.at_ (by omega)) (fun v12 w13 h11 => ?_)
  obtain ⟨rfl, h11f, h11b⟩ := h11
  have h11z := h11f.size
  refine l_v (v := .agg #[.int .i64 (kindR (lettersW s)), .int .i64 0, .int .i64 0, .int .i64 0, .slice none 0 0, .bool false]) rfl rfl (by kernel_rfl) ?_
  refine l_new (fun k_ => .pointer (some ⟨k_, 0, none⟩)) rfl rfl (by kernel_rfl) (ob := .cells #[.int .i64 0, .int .i64 0, .int .i64 0, .int .i64 0, .slice none 0 0, .bool false] 54) (fun k14 w15 n16 => ?_)
  have hE17 : Fr [] w w13 := (Fr.step (hE7.trans n6.fr) h11f (by intro k_ hk_; simp only [List.mem_singleton] at hk_; omega))
  have hE17z := hE17.size
  have n16k := n16.hk; have n16z := n16.sz
  refine l_store rfl rfl rfl (g := k14) (off := 0) (v := .agg #[.int .i64 (kindR (lettersW s)), .int .i64 0, .int .i64 0, .int .i64 0, .slice none 0 0, .bool false]) (arr := #[.int .i64 (kindR (lettersW s)), .int .i64 0, .int .i64 0, .int .i64 0, .slice none 0 0, .bool false]) rfl rfl (by kernel_rfl) n16.at_ rfl (by simp [Value.cells, Value.oneCell']) rfl (fun w18 p19 => ?_)
  have p19z := p19.sz
  refine l_nil ?_
  refine n_then ?_
  refine wp_seq ?_
  refine r_start ?_
  refine l_v (v := .pointer (some ⟨k4, 0, none⟩)) rfl rfl (by kernel_rfl) ?_
  have hb20 := (p19.fr.at (n16.fr.at0 h11b) (by simp only [List.mem_singleton]; omega))
  have hl21 := bS_len (lettersR s)
  have hl22 := lW_len (lettersR s)
  have hl23 := lR_len (lettersR s)
  refine l_call rfl rfl (r_call (args := #[.pointer (some ⟨k4, 0, none⟩)]) rfl e46 (am rfl)) (blank_calls w18 k4 (lettersR s) ((false || decide (kindOf (lettersW s) < 1))) hb20 (by omega)) (fun v25 w26 h24 => ?_)
  obtain ⟨rfl, h24f, h24b⟩ := h24
  have h24z := h24f.size
  refine l_nil ?_
  refine n_then ?_
  refine wp_seq ?_
  refine r_start ?_
  refine l_v (v := .pointer (some ⟨k4, 0, none⟩)) rfl rfl (by kernel_rfl) ?_
  have hl27 := bS_len (bS (lettersR s))
  have hl28 := lW_len (bS (lettersR s))
  have hl29 := lR_len (bS (lettersR s))
  refine l_call rfl rfl (r_call (args := #[.pointer (some ⟨k4, 0, none⟩)]) rfl e47 (am rfl)) (letters_calls w26 k4 (bS (lettersR s)) ((((false || decide (kindOf (lettersW s) < 1))) || bB (lettersR s))) h24b (by omega)) (fun v31 w32 h30 => ?_)
  obtain ⟨rfl, h30f, h30b⟩ := h30
  have h30z := h30f.size
  refine l_v (v := .string ⟨(lettersW (bS (lettersR s))).toArray⟩) rfl rfl (by kernel_rfl) ?_
  refine l_nil ?_
  refine n_then ?_
  refine wp_seq ?_
  refine wp_seq ?_
  refine r_start ?_
  refine l_v (v := .string ⟨(lettersW (bS (lettersR s))).toArray⟩) rfl rfl (by kernel_rfl) ?_
  refine l_v (v := .bool (decide (lettersW (bS (lettersR s)) = ([101, 114, 114, 111, 114] : List UInt8)))) rfl rfl (r_str_eql rfl rfl rfl) ?_
  refine l_nil ?_
  refine n_then ?_
  refine c_cond (e := decide (lettersW (bS (lettersR s)) = ([101, 114, 114, 111, 114] : List UInt8))) rfl (fun hc33 => ?_) (fun hc33 => ?_)
  · try simp only [decide_eq_true_eq, decide_eq_false_iff_not, Bool.and_eq_true, Bool.or_eq_true, Bool.and_eq_false_iff, Bool.or_eq_false_iff, Bool.not_eq_true', Bool.not_eq_false', beq_iff_eq, bne_iff_ne, ne_eq, beq_eq_false_iff_ne, bne_eq_false_iff_eq, gt_iff_lt, ge_iff_le, Int.not_lt, Int.not_le] at hc33
    refine wp_seq ?_
    refine r_start ?_
    refine l_v (v := .pointer (some ⟨k4, 0, none⟩)) rfl rfl (by kernel_rfl) ?_
    have hl34 := bS_len (lettersR (bS (lettersR s)))
    have hl35 := lW_len (lettersR (bS (lettersR s)))
    have hl36 := lR_len (lettersR (bS (lettersR s)))
    refine l_call rfl rfl (r_call (args := #[.pointer (some ⟨k4, 0, none⟩)]) rfl e48 (am rfl)) (rnumber_calls w32 k4 (lettersR (bS (lettersR s))) (((((false || decide (kindOf (lettersW s) < 1))) || bB (lettersR s)))) h30b (by omega)) (fun v38 w39 h37 => ?_)
    obtain ⟨h37x, rfl, h37i, h37v, h37f, h37b⟩ := h37
    have h37z := h37f.size
    obtain ⟨h37i1, h37i2⟩ := id h37i
    refine l_v (v := .pointer (some ⟨k14, 1, none⟩)) rfl rfl (r_field rfl rfl Tryz.underlying54 rfl (by kernel_rfl) rfl) ?_
    have hb40 := (h37f.at (h30f.at (h24f.at p19.at_ (by simp only [List.mem_singleton]; omega)) (by simp only [List.mem_singleton]; omega)) (by simp only [List.mem_singleton]; omega))
    refine l_store rfl rfl rfl (g := k14) (off := 1) (v := .int .i64 h37x) (arr := #[.int .i64 (kindR (lettersW s)), .int .i64 h37x, .int .i64 0, .int .i64 0, .slice none 0 0, .bool false]) rfl rfl (by kernel_rfl) hb40 rfl (by simp [Value.cells, Value.oneCell']) rfl (fun w41 p42 => ?_)
    have p42z := p42.sz
    refine l_nil ?_
    refine n_then ?_
    refine wp_seq ?_
    have hE47 : Fr [] w w41 := (Fr.step (Fr.step (Fr.step (Fr.step (Fr.step (hE17.trans n16.fr) p19.fr (by intro k_ hk_; simp only [List.mem_singleton] at hk_; omega)) h24f (by intro k_ hk_; simp only [List.mem_singleton] at hk_; omega)) h30f (by intro k_ hk_; simp only [List.mem_singleton] at hk_; omega)) h37f (by intro k_ hk_; simp only [List.mem_singleton] at hk_; omega)) p42.fr (by intro k_ hk_; simp only [List.mem_singleton] at hk_; omega))
    have hE47z := hE47.size
    refine h_start' (fun w0_ w_ => Fr [k1] w0_ w_) hmix (fun _ _ _ _ _ h => h) (fun w43 f44 hQ46 => ?_)
    have f44z := f44.size
    have hb48 := (f44.at0 p42.at_)
    refine h_take (i := 0) (v := .agg #[.int .i64 (kindR (lettersW s)), .int .i64 h37x, .int .i64 0, .int .i64 0, .slice none 0 0, .bool false]) rfl (by kernel_rfl) (by kernel_rfl) (by kernel_rfl) hQ46 rfl rfl (fun w_ hS_ => (r_loads (cs := [.int .i64 (kindR (lettersW s)), .int .i64 h37x, .int .i64 0, .int .i64 0, .slice none 0 0, .bool false]) rfl rfl Tryz.underlying54 rfl (by kernel_rfl) (range_at (hS_.at hb48 (by simp; omega)) rfl))) (Fr.refl [k1] w43) ?_
    refine h_take (i := 1) (v := .pointer (some ⟨k4, 0, none⟩)) rfl (by kernel_rfl) (by kernel_rfl) (by kernel_rfl) hQ46 rfl rfl (fun w_ hS_ => (by kernel_rfl)) (Fr.refl [k1] w43) ?_
    refine h_take (i := 2) (v := .pointer (some ⟨k4, 0, none⟩)) rfl (by kernel_rfl) (by kernel_rfl) (by kernel_rfl) hQ46 rfl rfl (fun w_ hS_ => (by kernel_rfl)) (Fr.refl [k1] w43) ?_
    refine h_take (i := 3) (v := .pointer (some ⟨k4, 1, none⟩)) rfl (by kernel_rfl) (by kernel_rfl) (by kernel_rfl) hQ46 rfl rfl (fun w_ hS_ => (r_field rfl rfl Tryz.underlying96 rfl (by kernel_rfl) rfl)) (Fr.refl [k1] w43) ?_
    have hb49 := (f44.at0 (p42.fr.at h37b (by simp only [List.mem_singleton]; omega)))
    refine h_take (i := 4) (v := .bool (((((((false || decide (kindOf (lettersW s) < 1))) || bB (lettersR s)))) || bB (lettersR (bS (lettersR s))) || (numOk (lettersW (bS (lettersR (bS (lettersR s)))))).isNone))) rfl (by kernel_rfl) (by kernel_rfl) (by kernel_rfl) hQ46 rfl rfl (fun w_ hS_ => (r_load rfl rfl Tryz.underlying4 rfl (cell_at (hS_.at hb49 (by simp; omega)) rfl))) (Fr.refl [k1] w43) ?_
    refine h_take (i := 5) (v := .bool ((!(((((((false || decide (kindOf (lettersW s) < 1))) || bB (lettersR s)))) || bB (lettersR (bS (lettersR s))) || (numOk (lettersW (bS (lettersR (bS (lettersR s)))))).isNone))))) rfl (by kernel_rfl) (by kernel_rfl) (by kernel_rfl) hQ46 rfl rfl (fun w_ hS_ => (by kernel_rfl)) (Fr.refl [k1] w43) ?_
    refine h_take (i := 6) (v := .bool ((!(((((((false || decide (kindOf (lettersW s) < 1))) || bB (lettersR s)))) || bB (lettersR (bS (lettersR s))) || (numOk (lettersW (bS (lettersR (bS (lettersR s)))))).isNone))))) rfl (by kernel_rfl) (by kernel_rfl) (by kernel_rfl) hQ46 rfl rfl (fun w_ hS_ => (by kernel_rfl)) (Fr.refl [k1] w43) ?_
    refine h_takeg (i := 7) (v := .pointer (some ⟨k4, 0, none⟩)) rfl (by kernel_rfl) (by kernel_rfl) (by kernel_rfl) hQ46 (want_1 rfl rfl rfl rfl) rfl (fun hW_ w_ hS_ => (by kernel_rfl)) (Fr.refl [k1] w43) ?_
    refine h_takeg (i := 8) (v := .pointer (some ⟨k4, 0, none⟩)) rfl (by kernel_rfl) (by kernel_rfl) (by kernel_rfl) hQ46 (want_1 rfl rfl rfl rfl) rfl (fun hW_ w_ hS_ => (r_nil rfl (gd_true hW_ _))) (Fr.refl [k1] w43) ?_
    refine h_takeg (i := 9) (v := .pointer (some ⟨k4, 0, none⟩)) rfl (by kernel_rfl) (by kernel_rfl) (by kernel_rfl) hQ46 (want_1 rfl rfl rfl rfl) rfl (fun hW_ w_ hS_ => (r_field rfl (gd_true hW_ _) Tryz.underlying96 rfl (by kernel_rfl) rfl)) (Fr.refl [k1] w43) ?_
    refine h_takeg (i := 10) (v := .string ⟨(lettersR (bS (lettersR (bS (lettersR s))))).toArray⟩) rfl (by kernel_rfl) (by kernel_rfl) (by kernel_rfl) hQ46 (want_1 rfl rfl rfl rfl) rfl (fun hW_ w_ hS_ => (r_load rfl (gd_true hW_ _) Tryz.underlying9 rfl (cell_at (hS_.at hb49 (by simp; omega)) rfl))) (Fr.refl [k1] w43) ?_
    refine h_takeg (i := 11) (v := .bool (decide (lettersR (bS (lettersR (bS (lettersR s)))) = ([] : List UInt8)))) rfl (by kernel_rfl) (by kernel_rfl) (by kernel_rfl) hQ46 (want_1 rfl rfl rfl rfl) rfl (fun hW_ w_ hS_ => (r_str_eql rfl (gd_true hW_ _) rfl)) (Fr.refl [k1] w43) ?_
    refine h_take (i := 12) (v := .bool ((((!(((((((false || decide (kindOf (lettersW s) < 1))) || bB (lettersR s)))) || bB (lettersR (bS (lettersR s))) || (numOk (lettersW (bS (lettersR (bS (lettersR s)))))).isNone)))) && (decide (lettersR (bS (lettersR (bS (lettersR s)))) = ([] : List UInt8)))))) rfl (by kernel_rfl) (by kernel_rfl) (by kernel_rfl) hQ46 rfl rfl (fun w_ hS_ => (r_pick rfl rfl (pick_and _ _))) (Fr.refl [k1] w43) ?_
    refine h_take (i := 13) (v := .bool ((((!(((((((false || decide (kindOf (lettersW s) < 1))) || bB (lettersR s)))) || bB (lettersR (bS (lettersR s))) || (numOk (lettersW (bS (lettersR (bS (lettersR s)))))).isNone)))) && (decide (lettersR (bS (lettersR (bS (lettersR s)))) = ([] : List UInt8)))))) rfl (by kernel_rfl) (by kernel_rfl) (by kernel_rfl) hQ46 rfl rfl (fun w_ hS_ => (by kernel_rfl)) (Fr.refl [k1] w43) ?_
    refine h_takeg (i := 14) (v := .pointer (some ⟨k14, 1, none⟩)) rfl (by kernel_rfl) (by kernel_rfl) (by kernel_rfl) hQ46 (want_1 rfl rfl rfl rfl) rfl (fun hW_ w_ hS_ => (r_field rfl rfl Tryz.underlying54 rfl (by kernel_rfl) rfl)) (Fr.refl [k1] w43) ?_
    refine h_takeg (i := 15) (v := .int .i64 h37x) rfl (by kernel_rfl) (by kernel_rfl) (by kernel_rfl) hQ46 (want_1 rfl rfl rfl rfl) rfl (fun hW_ w_ hS_ => (r_load rfl (gd_true hW_ _) Tryz.underlying3 rfl (cell_at (hS_.at hb48 (by simp; omega)) rfl))) (Fr.refl [k1] w43) ?_
    refine h_takeg (i := 16) (v := .bool (h37x != (0 : Int))) rfl (by kernel_rfl) (by kernel_rfl) (by kernel_rfl) hQ46 (want_1 rfl rfl rfl rfl) rfl (fun hW_ w_ hS_ => (r_cmp rfl (gd_true hW_ _) rfl rfl)) (Fr.refl [k1] w43) ?_
    refine h_take (i := 17) (v := .bool ((((((!(((((((false || decide (kindOf (lettersW s) < 1))) || bB (lettersR s)))) || bB (lettersR (bS (lettersR s))) || (numOk (lettersW (bS (lettersR (bS (lettersR s)))))).isNone)))) && (decide (lettersR (bS (lettersR (bS (lettersR s)))) = ([] : List UInt8))))) && (h37x != (0 : Int))))) rfl (by kernel_rfl) (by kernel_rfl) (by kernel_rfl) hQ46 rfl rfl (fun w_ hS_ => (r_pick rfl rfl (pick_and _ _))) (Fr.refl [k1] w43) ?_
    have hb50 := (f44.at0 (p42.fr.at (h37f.at (h30f.at (h24f.at (p19.fr.at (n16.fr.at0 (h11f.at (n6.fr.at0 n3.at_) (by simp only [List.mem_singleton]; omega))) (by simp only [List.mem_singleton]; omega)) (by simp only [List.mem_singleton]; omega)) (by simp only [List.mem_singleton]; omega)) (by simp only [List.mem_singleton]; omega)) (by simp only [List.mem_singleton]; omega)))
    refine h_store (i := 18) (by kernel_rfl) rfl rfl rfl rfl (g := k1) (off := 0) (v := .agg #[.int .i64 (kindR (lettersW s)), .int .i64 h37x, .int .i64 0, .int .i64 0, .slice none 0 0, .bool false]) (arr := #[.int .i64 (kindR (lettersW s)), .int .i64 h37x, .int .i64 0, .int .i64 0, .slice none 0 0, .bool false]) rfl rfl (by kernel_rfl) hb50 rfl (by simp [Value.cells, Value.oneCell']) rfl (fun w51 p52 => ⟨(Fr.refl [k1] w43).trans (p52.fr.mono (by simp)), ?_⟩)
    have p52z := p52.sz
    refine h_take (i := 19) (v := .bool ((((((!(((((((false || decide (kindOf (lettersW s) < 1))) || bB (lettersR s)))) || bB (lettersR (bS (lettersR s))) || (numOk (lettersW (bS (lettersR (bS (lettersR s)))))).isNone)))) && (decide (lettersR (bS (lettersR (bS (lettersR s)))) = ([] : List UInt8))))) && (h37x != (0 : Int))))) rfl (by kernel_rfl) (by kernel_rfl) (by kernel_rfl) hQ46 rfl rfl (fun w_ hS_ => (by kernel_rfl)) ((Fr.refl [k1] w43).trans (p52.fr.mono (by simp))) ?_
    refine wpAnyH_done (by kernel_rfl) ?_ _
    refine n_then ?_
    refine wp_ret ?_
    refine t_then ?_
    have hb53 := (p52.fr.at hb48 (by simp only [List.mem_singleton]; omega))
    have hb54 := (p52.fr.at hb49 (by simp only [List.mem_singleton]; omega))
    have hK55 : RwK (fun b => w51.heap.size ≤ b) w51 [.int .i64 (kindR (lettersW s)), .int .i64 h37x, .int .i64 0, .int .i64 0, .slice none 0 0, .bool false] (⟨kindR (lettersW s), h37x, 0, 0, [], false⟩ : Rw) := rwK_mk (Sl.nil _ _ _) (by unfold i64; omega) (by unfold i64; omega) (by unfold i64; omega) (by unfold i64; omega) (by (try simp only [List.length_nil]); omega)
    have hfin : Fin s ((((((!(((((((false || decide (kindOf (lettersW s) < 1))) || bB (lettersR s)))) || bB (lettersR (bS (lettersR s))) || (numOk (lettersW (bS (lettersR (bS (lettersR s)))))).isNone)))) && (decide (lettersR (bS (lettersR (bS (lettersR s)))) = ([] : List UInt8))))) && (h37x != (0 : Int)))) (⟨kindR (lettersW s), h37x, 0, 0, [], false⟩ : Rw) := by
      have h_ := fin_err (s := s) rfl (show lettersW (bS (lettersR s)) = errorW from hc33) h37v
      simpa [Bool.or_assoc] using h_
    have hfp := hfin.parse hl
    have hE56 : Fr [] w w51 := (Fr.step (hE47.trans f44) p52.fr (by intro k_ hk_; simp only [List.mem_singleton] at hk_; omega))
    have hE56z := hE56.size
    exact end_ret (v := .tuple #[.agg #[.int .i64 (kindR (lettersW s)), .int .i64 h37x, .int .i64 0, .int .i64 0, .slice none 0 0, .bool false], .bool ((((((!(((((((false || decide (kindOf (lettersW s) < 1))) || bB (lettersR s)))) || bB (lettersR (bS (lettersR s))) || (numOk (lettersW (bS (lettersR (bS (lettersR s)))))).isNone)))) && (decide (lettersR (bS (lettersR (bS (lettersR s)))) = ([] : List UInt8))))) && (h37x != (0 : Int))))]) (resn2 rfl (rv_row rfl (cs := [.int .i64 (kindR (lettersW s)), .int .i64 h37x, .int .i64 0, .int .i64 0, .slice none 0 0, .bool false]) Tryz.underlying54 rfl (by kernel_rfl) (range_at p52.at_ rfl)) (rv_tmp rfl)) ⟨_, rfl, ⟨[.int .i64 (kindR (lettersW s)), .int .i64 h37x, .int .i64 0, .int .i64 0, .slice none 0 0, .bool false], (⟨kindR (lettersW s), h37x, 0, 0, [], false⟩ : Rw), Rp.rw.weak hK55 (fun g_ _ hg_ => by have hg2_ : w51.heap.size ≤ g_ := hg_; show w.heap.size ≤ g_; omega), (by first | (rw [← hfp.1]; done) | (rw [← hfp.1]; rfl)), hfp.2, hE56⟩⟩
  · try simp only [decide_eq_true_eq, decide_eq_false_iff_not, Bool.and_eq_true, Bool.or_eq_true, Bool.and_eq_false_iff, Bool.or_eq_false_iff, Bool.not_eq_true', Bool.not_eq_false', beq_iff_eq, bne_iff_ne, ne_eq, beq_eq_false_iff_ne, bne_eq_false_iff_eq, gt_iff_lt, ge_iff_le, Int.not_lt, Int.not_le] at hc33
    refine wp_skip ?_
    refine n_then ?_
    refine wp_seq ?_
    refine wp_seq ?_
    refine r_start ?_
    refine l_v (v := .string ⟨(lettersW (bS (lettersR s))).toArray⟩) rfl rfl (by kernel_rfl) ?_
    refine l_v (v := .bool ((!decide (lettersW (bS (lettersR s)) = ([111, 107] : List UInt8))))) rfl rfl (r_str_neq rfl rfl rfl) ?_
    refine l_v (v := .bool ((!decide (lettersW (bS (lettersR s)) = ([111, 107] : List UInt8))))) rfl rfl (by kernel_rfl) ?_
    refine l_g (v := .pointer (some ⟨k4, 0, none⟩)) (want_1 rfl rfl rfl rfl) rfl (fun hW_ => (by kernel_rfl)) ?_
    refine l_g (v := .pointer (some ⟨k4, 0, none⟩)) (want_1 rfl rfl rfl rfl) rfl (fun hW_ => (r_nil rfl (gd_true hW_ _))) ?_
    refine l_g (v := .pointer (some ⟨k4, 1, none⟩)) (want_1 rfl rfl rfl rfl) rfl (fun hW_ => (r_field rfl (gd_true hW_ _) Tryz.underlying96 rfl (by kernel_rfl) rfl)) ?_
    refine l_g (v := .bool (((((false || decide (kindOf (lettersW s) < 1))) || bB (lettersR s))))) (want_1 rfl rfl rfl rfl) rfl (fun hW_ => (r_load rfl (gd_true hW_ _) Tryz.underlying4 rfl (cell_at h30b rfl))) ?_
    refine l_v (v := .bool ((((!decide (lettersW (bS (lettersR s)) = ([111, 107] : List UInt8)))) || (((((false || decide (kindOf (lettersW s) < 1))) || bB (lettersR s))))))) rfl rfl (r_pick rfl rfl (pick_or _ _)) ?_
    refine l_nil ?_
    refine n_then ?_
    refine c_cond (e := (((!decide (lettersW (bS (lettersR s)) = ([111, 107] : List UInt8)))) || (((((false || decide (kindOf (lettersW s) < 1))) || bB (lettersR s)))))) rfl (fun hc57 => ?_) (fun hc57 => ?_)
    · try simp only [decide_eq_true_eq, decide_eq_false_iff_not, Bool.and_eq_true, Bool.or_eq_true, Bool.and_eq_false_iff, Bool.or_eq_false_iff, Bool.not_eq_true', Bool.not_eq_false', beq_iff_eq, bne_iff_ne, ne_eq, beq_eq_false_iff_ne, bne_eq_false_iff_eq, gt_iff_lt, ge_iff_le, Int.not_lt, Int.not_le] at hc57
      refine wp_seq ?_
      refine r_start ?_
      have hb58 := (h30f.at (h24f.at p19.at_ (by simp only [List.mem_singleton]; omega)) (by simp only [List.mem_singleton]; omega))
      refine l_v (v := .agg #[.int .i64 (kindR (lettersW s)), .int .i64 0, .int .i64 0, .int .i64 0, .slice none 0 0, .bool false]) rfl rfl (r_loads (cs := [.int .i64 (kindR (lettersW s)), .int .i64 0, .int .i64 0, .int .i64 0, .slice none 0 0, .bool false]) rfl rfl Tryz.underlying54 rfl (by kernel_rfl) (range_at hb58 rfl)) ?_
      have hb59 := (h30f.at (h24f.at (p19.fr.at (n16.fr.at0 (h11f.at (n6.fr.at0 n3.at_) (by simp only [List.mem_singleton]; omega))) (by simp only [List.mem_singleton]; omega)) (by simp only [List.mem_singleton]; omega)) (by simp only [List.mem_singleton]; omega))
      refine l_store rfl rfl rfl (g := k1) (off := 0) (v := .agg #[.int .i64 (kindR (lettersW s)), .int .i64 0, .int .i64 0, .int .i64 0, .slice none 0 0, .bool false]) (arr := #[.int .i64 (kindR (lettersW s)), .int .i64 0, .int .i64 0, .int .i64 0, .slice none 0 0, .bool false]) rfl rfl (by kernel_rfl) hb59 rfl (by simp [Value.cells, Value.oneCell']) rfl (fun w60 p61 => ?_)
      have p61z := p61.sz
      refine l_v (v := .bool false) rfl rfl (by kernel_rfl) ?_
      refine l_nil ?_
      refine n_then ?_
      refine wp_ret ?_
      refine t_then ?_
      have hb62 := (p61.fr.at hb58 (by simp only [List.mem_singleton]; omega))
      have hb63 := (p61.fr.at h30b (by simp only [List.mem_singleton]; omega))
      have hK64 : RwK (fun b => w60.heap.size ≤ b) w60 [.int .i64 (kindR (lettersW s)), .int .i64 0, .int .i64 0, .int .i64 0, .slice none 0 0, .bool false] (⟨kindR (lettersW s), 0, 0, 0, [], false⟩ : Rw) := rwK_mk (Sl.nil _ _ _) (by unfold i64; omega) (by unfold i64; omega) (by unfold i64; omega) (by unfold i64; omega) (by (try simp only [List.length_nil]); omega)
      have hfin : Fin s false (⟨kindR (lettersW s), 0, 0, 0, [], false⟩ : Rw) := by
        exact fin_no (show ¬ _ = errorW from hc33) (by rcases hc57 with h_ | h_; exact .inl h_; (first | (rcases h_ with h_ | h_; exact .inr (.inl h_); exact .inr (.inr h_)) | simp_all)) _
      have hfp := hfin.parse hl
      have hE65 : Fr [] w w60 := (Fr.step (Fr.step (Fr.step (Fr.step (hE17.trans n16.fr) p19.fr (by intro k_ hk_; simp only [List.mem_singleton] at hk_; omega)) h24f (by intro k_ hk_; simp only [List.mem_singleton] at hk_; omega)) h30f (by intro k_ hk_; simp only [List.mem_singleton] at hk_; omega)) p61.fr (by intro k_ hk_; simp only [List.mem_singleton] at hk_; omega))
      have hE65z := hE65.size
      exact end_ret (v := .tuple #[.agg #[.int .i64 (kindR (lettersW s)), .int .i64 0, .int .i64 0, .int .i64 0, .slice none 0 0, .bool false], .bool false]) (resn2 rfl (rv_row rfl (cs := [.int .i64 (kindR (lettersW s)), .int .i64 0, .int .i64 0, .int .i64 0, .slice none 0 0, .bool false]) Tryz.underlying54 rfl (by kernel_rfl) (range_at p61.at_ rfl)) (rv_tmp rfl)) ⟨_, rfl, ⟨[.int .i64 (kindR (lettersW s)), .int .i64 0, .int .i64 0, .int .i64 0, .slice none 0 0, .bool false], (⟨kindR (lettersW s), 0, 0, 0, [], false⟩ : Rw), Rp.rw.weak hK64 (fun g_ _ hg_ => by have hg2_ : w60.heap.size ≤ g_ := hg_; show w.heap.size ≤ g_; omega), (by first | (rw [← hfp.1]; done) | (rw [← hfp.1]; rfl)), hfp.2, hE65⟩⟩
    · try simp only [decide_eq_true_eq, decide_eq_false_iff_not, Bool.and_eq_true, Bool.or_eq_true, Bool.and_eq_false_iff, Bool.or_eq_false_iff, Bool.not_eq_true', Bool.not_eq_false', beq_iff_eq, bne_iff_ne, ne_eq, beq_eq_false_iff_ne, bne_eq_false_iff_eq, gt_iff_lt, ge_iff_le, Int.not_lt, Int.not_le] at hc57
      refine wp_skip ?_
      refine n_then ?_
      refine wp_seq ?_
      refine wp_seq ?_
      refine r_start ?_
      refine l_v (v := .pointer (some ⟨k14, 0, none⟩)) rfl rfl (r_field rfl rfl Tryz.underlying54 rfl (by kernel_rfl) rfl) ?_
      have hb66 := (h30f.at (h24f.at p19.at_ (by simp only [List.mem_singleton]; omega)) (by simp only [List.mem_singleton]; omega))
      refine l_v (v := .int .i64 (kindR (lettersW s))) rfl rfl (r_load rfl rfl Tryz.underlying3 rfl (cell_at hb66 rfl)) ?_
      refine l_nil ?_
      refine n_then ?_
      refine wp_block ?_
      refine wp_seq ?_
      refine r_start ?_
      refine l_v (v := .bool (((kindR (lettersW s)) == (1 : Int)))) rfl rfl (by kernel_rfl) ?_
      refine l_v (v := .bool (((kindR (lettersW s)) == (1 : Int)))) rfl rfl (by kernel_rfl) ?_
      refine l_nil ?_
      refine n_then ?_
      refine c_cond (e := ((kindR (lettersW s)) == (1 : Int))) rfl (fun hc67 => ?_) (fun hc67 => ?_)
      · try simp only [decide_eq_true_eq, decide_eq_false_iff_not, Bool.and_eq_true, Bool.or_eq_true, Bool.and_eq_false_iff, Bool.or_eq_false_iff, Bool.not_eq_true', Bool.not_eq_false', beq_iff_eq, bne_iff_ne, ne_eq, beq_eq_false_iff_ne, bne_eq_false_iff_eq, gt_iff_lt, ge_iff_le, Int.not_lt, Int.not_le] at hc67
        refine r_start ?_
        refine l_v (v := .pointer (some ⟨k4, 0, none⟩)) rfl rfl (by kernel_rfl) ?_
        have hl68 := bS_len (lettersR (bS (lettersR s)))
        have hl69 := lW_len (lettersR (bS (lettersR s)))
        have hl70 := lR_len (lettersR (bS (lettersR s)))
        refine l_call rfl rfl (r_call (args := #[.pointer (some ⟨k4, 0, none⟩)]) rfl e48 (am rfl)) (rnumber_calls w32 k4 (lettersR (bS (lettersR s))) (((((false || decide (kindOf (lettersW s) < 1))) || bB (lettersR s)))) h30b (by omega)) (fun v72 w73 h71 => ?_)
        obtain ⟨h71x, rfl, h71i, h71v, h71f, h71b⟩ := h71
        have h71z := h71f.size
        obtain ⟨h71i1, h71i2⟩ := id h71i
        refine l_v (v := .pointer (some ⟨k14, 2, none⟩)) rfl rfl (r_field rfl rfl Tryz.underlying54 rfl (by kernel_rfl) rfl) ?_
        have hb74 := (h71f.at hb66 (by simp only [List.mem_singleton]; omega))
        refine l_store rfl rfl rfl (g := k14) (off := 2) (v := .int .i64 h71x) (arr := #[.int .i64 (kindR (lettersW s)), .int .i64 0, .int .i64 h71x, .int .i64 0, .slice none 0 0, .bool false]) rfl rfl (by kernel_rfl) hb74 rfl (by simp [Value.cells, Value.oneCell']) rfl (fun w75 p76 => ?_)
        have p76z := p76.sz
        refine l_nil ?_
        refine n_block ?_
        refine n_then ?_
        refine wp_seq ?_
        have hE81 : Fr [] w w75 := (Fr.step (Fr.step (Fr.step (Fr.step (Fr.step (hE17.trans n16.fr) p19.fr (by intro k_ hk_; simp only [List.mem_singleton] at hk_; omega)) h24f (by intro k_ hk_; simp only [List.mem_singleton] at hk_; omega)) h30f (by intro k_ hk_; simp only [List.mem_singleton] at hk_; omega)) h71f (by intro k_ hk_; simp only [List.mem_singleton] at hk_; omega)) p76.fr (by intro k_ hk_; simp only [List.mem_singleton] at hk_; omega))
        have hE81z := hE81.size
        refine h_start' (fun w0_ w_ => Fr [k1] w0_ w_) hmix (fun _ _ _ _ _ h => h) (fun w77 f78 hQ80 => ?_)
        have f78z := f78.size
        have hb82 := (f78.at0 p76.at_)
        refine h_take (i := 0) (v := .agg #[.int .i64 (kindR (lettersW s)), .int .i64 0, .int .i64 h71x, .int .i64 0, .slice none 0 0, .bool false]) rfl (by kernel_rfl) (by kernel_rfl) (by kernel_rfl) hQ80 rfl rfl (fun w_ hS_ => (r_loads (cs := [.int .i64 (kindR (lettersW s)), .int .i64 0, .int .i64 h71x, .int .i64 0, .slice none 0 0, .bool false]) rfl rfl Tryz.underlying54 rfl (by kernel_rfl) (range_at (hS_.at hb82 (by simp; omega)) rfl))) (Fr.refl [k1] w77) ?_
        refine h_take (i := 1) (v := .pointer (some ⟨k4, 0, none⟩)) rfl (by kernel_rfl) (by kernel_rfl) (by kernel_rfl) hQ80 rfl rfl (fun w_ hS_ => (by kernel_rfl)) (Fr.refl [k1] w77) ?_
        refine h_take (i := 2) (v := .pointer (some ⟨k4, 0, none⟩)) rfl (by kernel_rfl) (by kernel_rfl) (by kernel_rfl) hQ80 rfl rfl (fun w_ hS_ => (by kernel_rfl)) (Fr.refl [k1] w77) ?_
        refine h_take (i := 3) (v := .pointer (some ⟨k4, 1, none⟩)) rfl (by kernel_rfl) (by kernel_rfl) (by kernel_rfl) hQ80 rfl rfl (fun w_ hS_ => (r_field rfl rfl Tryz.underlying96 rfl (by kernel_rfl) rfl)) (Fr.refl [k1] w77) ?_
        have hb83 := (f78.at0 (p76.fr.at h71b (by simp only [List.mem_singleton]; omega)))
        refine h_take (i := 4) (v := .bool (((((((false || decide (kindOf (lettersW s) < 1))) || bB (lettersR s)))) || bB (lettersR (bS (lettersR s))) || (numOk (lettersW (bS (lettersR (bS (lettersR s)))))).isNone))) rfl (by kernel_rfl) (by kernel_rfl) (by kernel_rfl) hQ80 rfl rfl (fun w_ hS_ => (r_load rfl rfl Tryz.underlying4 rfl (cell_at (hS_.at hb83 (by simp; omega)) rfl))) (Fr.refl [k1] w77) ?_
        refine h_take (i := 5) (v := .bool ((!(((((((false || decide (kindOf (lettersW s) < 1))) || bB (lettersR s)))) || bB (lettersR (bS (lettersR s))) || (numOk (lettersW (bS (lettersR (bS (lettersR s)))))).isNone))))) rfl (by kernel_rfl) (by kernel_rfl) (by kernel_rfl) hQ80 rfl rfl (fun w_ hS_ => (by kernel_rfl)) (Fr.refl [k1] w77) ?_
        refine h_take (i := 6) (v := .bool ((!(((((((false || decide (kindOf (lettersW s) < 1))) || bB (lettersR s)))) || bB (lettersR (bS (lettersR s))) || (numOk (lettersW (bS (lettersR (bS (lettersR s)))))).isNone))))) rfl (by kernel_rfl) (by kernel_rfl) (by kernel_rfl) hQ80 rfl rfl (fun w_ hS_ => (by kernel_rfl)) (Fr.refl [k1] w77) ?_
        refine h_takeg (i := 7) (v := .pointer (some ⟨k4, 0, none⟩)) rfl (by kernel_rfl) (by kernel_rfl) (by kernel_rfl) hQ80 (want_1 rfl rfl rfl rfl) rfl (fun hW_ w_ hS_ => (by kernel_rfl)) (Fr.refl [k1] w77) ?_
        refine h_takeg (i := 8) (v := .pointer (some ⟨k4, 0, none⟩)) rfl (by kernel_rfl) (by kernel_rfl) (by kernel_rfl) hQ80 (want_1 rfl rfl rfl rfl) rfl (fun hW_ w_ hS_ => (r_nil rfl (gd_true hW_ _))) (Fr.refl [k1] w77) ?_
        refine h_takeg (i := 9) (v := .pointer (some ⟨k4, 0, none⟩)) rfl (by kernel_rfl) (by kernel_rfl) (by kernel_rfl) hQ80 (want_1 rfl rfl rfl rfl) rfl (fun hW_ w_ hS_ => (r_field rfl (gd_true hW_ _) Tryz.underlying96 rfl (by kernel_rfl) rfl)) (Fr.refl [k1] w77) ?_
        refine h_takeg (i := 10) (v := .string ⟨(lettersR (bS (lettersR (bS (lettersR s))))).toArray⟩) rfl (by kernel_rfl) (by kernel_rfl) (by kernel_rfl) hQ80 (want_1 rfl rfl rfl rfl) rfl (fun hW_ w_ hS_ => (r_load rfl (gd_true hW_ _) Tryz.underlying9 rfl (cell_at (hS_.at hb83 (by simp; omega)) rfl))) (Fr.refl [k1] w77) ?_
        refine h_takeg (i := 11) (v := .bool (decide (lettersR (bS (lettersR (bS (lettersR s)))) = ([] : List UInt8)))) rfl (by kernel_rfl) (by kernel_rfl) (by kernel_rfl) hQ80 (want_1 rfl rfl rfl rfl) rfl (fun hW_ w_ hS_ => (r_str_eql rfl (gd_true hW_ _) rfl)) (Fr.refl [k1] w77) ?_
        refine h_take (i := 12) (v := .bool ((((!(((((((false || decide (kindOf (lettersW s) < 1))) || bB (lettersR s)))) || bB (lettersR (bS (lettersR s))) || (numOk (lettersW (bS (lettersR (bS (lettersR s)))))).isNone)))) && (decide (lettersR (bS (lettersR (bS (lettersR s)))) = ([] : List UInt8)))))) rfl (by kernel_rfl) (by kernel_rfl) (by kernel_rfl) hQ80 rfl rfl (fun w_ hS_ => (r_pick rfl rfl (pick_and _ _))) (Fr.refl [k1] w77) ?_
        have hb84 := (f78.at0 (p76.fr.at (h71f.at (h30f.at (h24f.at (p19.fr.at (n16.fr.at0 (h11f.at (n6.fr.at0 n3.at_) (by simp only [List.mem_singleton]; omega))) (by simp only [List.mem_singleton]; omega)) (by simp only [List.mem_singleton]; omega)) (by simp only [List.mem_singleton]; omega)) (by simp only [List.mem_singleton]; omega)) (by simp only [List.mem_singleton]; omega)))
        refine h_store (i := 13) (by kernel_rfl) rfl rfl rfl rfl (g := k1) (off := 0) (v := .agg #[.int .i64 (kindR (lettersW s)), .int .i64 0, .int .i64 h71x, .int .i64 0, .slice none 0 0, .bool false]) (arr := #[.int .i64 (kindR (lettersW s)), .int .i64 0, .int .i64 h71x, .int .i64 0, .slice none 0 0, .bool false]) rfl rfl (by kernel_rfl) hb84 rfl (by simp [Value.cells, Value.oneCell']) rfl (fun w85 p86 => ⟨(Fr.refl [k1] w77).trans (p86.fr.mono (by simp)), ?_⟩)
        have p86z := p86.sz
        refine h_take (i := 14) (v := .bool ((((!(((((((false || decide (kindOf (lettersW s) < 1))) || bB (lettersR s)))) || bB (lettersR (bS (lettersR s))) || (numOk (lettersW (bS (lettersR (bS (lettersR s)))))).isNone)))) && (decide (lettersR (bS (lettersR (bS (lettersR s)))) = ([] : List UInt8)))))) rfl (by kernel_rfl) (by kernel_rfl) (by kernel_rfl) hQ80 rfl rfl (fun w_ hS_ => (by kernel_rfl)) ((Fr.refl [k1] w77).trans (p86.fr.mono (by simp))) ?_
        refine wpAnyH_done (by kernel_rfl) ?_ _
        refine n_then ?_
        refine wp_ret ?_
        have hb87 := (p86.fr.at hb82 (by simp only [List.mem_singleton]; omega))
        have hb88 := (p86.fr.at hb83 (by simp only [List.mem_singleton]; omega))
        have hK89 : RwK (fun b => w85.heap.size ≤ b) w85 [.int .i64 (kindR (lettersW s)), .int .i64 0, .int .i64 h71x, .int .i64 0, .slice none 0 0, .bool false] (⟨kindR (lettersW s), 0, h71x, 0, [], false⟩ : Rw) := rwK_mk (Sl.nil _ _ _) (by unfold i64; omega) (by unfold i64; omega) (by unfold i64; omega) (by unfold i64; omega) (by (try simp only [List.length_nil]); omega)
        have hfin : Fin s ((((!(((((((false || decide (kindOf (lettersW s) < 1))) || bB (lettersR s)))) || bB (lettersR (bS (lettersR s))) || (numOk (lettersW (bS (lettersR (bS (lettersR s)))))).isNone)))) && (decide (lettersR (bS (lettersR (bS (lettersR s)))) = ([] : List UInt8))))) (⟨kindR (lettersW s), 0, h71x, 0, [], false⟩ : Rw) := by
          obtain ⟨ho_, hbad_⟩ := hc57
          have h1_ : ¬ kindOf (lettersW s) < 1 := by first | exact hbad_.1 | (simp at hbad_; omega)
          have h2_ : bB (lettersR s) = false := by first | exact hbad_.2 | (simp at hbad_; exact hbad_.2)
          have h_ := fin_k1 (s := s) rfl h1_ h2_ (show lettersW (bS (lettersR s)) = okW from ho_) hc67 h71v
          have e1_ := h_.1
          have e2_ := h_.2
          refine ⟨?_, e2_⟩
          rw [← e1_]
          simp [h1_, h2_, Bool.or_assoc]
        have hfp := hfin.parse hl
        have hE90 : Fr [] w w85 := (Fr.step (hE81.trans f78) p86.fr (by intro k_ hk_; simp only [List.mem_singleton] at hk_; omega))
        have hE90z := hE90.size
        exact end_ret (v := .tuple #[.agg #[.int .i64 (kindR (lettersW s)), .int .i64 0, .int .i64 h71x, .int .i64 0, .slice none 0 0, .bool false], .bool ((((!(((((((false || decide (kindOf (lettersW s) < 1))) || bB (lettersR s)))) || bB (lettersR (bS (lettersR s))) || (numOk (lettersW (bS (lettersR (bS (lettersR s)))))).isNone)))) && (decide (lettersR (bS (lettersR (bS (lettersR s)))) = ([] : List UInt8)))))]) (resn2 rfl (rv_row rfl (cs := [.int .i64 (kindR (lettersW s)), .int .i64 0, .int .i64 h71x, .int .i64 0, .slice none 0 0, .bool false]) Tryz.underlying54 rfl (by kernel_rfl) (range_at p86.at_ rfl)) (rv_tmp rfl)) ⟨_, rfl, ⟨[.int .i64 (kindR (lettersW s)), .int .i64 0, .int .i64 h71x, .int .i64 0, .slice none 0 0, .bool false], (⟨kindR (lettersW s), 0, h71x, 0, [], false⟩ : Rw), Rp.rw.weak hK89 (fun g_ _ hg_ => by have hg2_ : w85.heap.size ≤ g_ := hg_; show w.heap.size ≤ g_; omega), (by first | (rw [← hfp.1]; done) | (rw [← hfp.1]; rfl)), hfp.2, hE90⟩⟩
      · try simp only [decide_eq_true_eq, decide_eq_false_iff_not, Bool.and_eq_true, Bool.or_eq_true, Bool.and_eq_false_iff, Bool.or_eq_false_iff, Bool.not_eq_true', Bool.not_eq_false', beq_iff_eq, bne_iff_ne, ne_eq, beq_eq_false_iff_ne, bne_eq_false_iff_eq, gt_iff_lt, ge_iff_le, Int.not_lt, Int.not_le] at hc67
        refine wp_seq ?_
        refine r_start ?_
        refine l_v (v := .bool (((kindR (lettersW s)) == (5 : Int)))) rfl rfl (by kernel_rfl) ?_
        refine l_v (v := .bool (((kindR (lettersW s)) == (5 : Int)))) rfl rfl (by kernel_rfl) ?_
        refine l_nil ?_
        refine n_then ?_
        refine c_cond (e := ((kindR (lettersW s)) == (5 : Int))) rfl (fun hc91 => ?_) (fun hc91 => ?_)
        · try simp only [decide_eq_true_eq, decide_eq_false_iff_not, Bool.and_eq_true, Bool.or_eq_true, Bool.and_eq_false_iff, Bool.or_eq_false_iff, Bool.not_eq_true', Bool.not_eq_false', beq_iff_eq, bne_iff_ne, ne_eq, beq_eq_false_iff_ne, bne_eq_false_iff_eq, gt_iff_lt, ge_iff_le, Int.not_lt, Int.not_le] at hc91
          refine r_start ?_
          refine l_v (v := .pointer (some ⟨k4, 0, none⟩)) rfl rfl (by kernel_rfl) ?_
          have hl92 := bS_len (lettersR (bS (lettersR s)))
          have hl93 := lW_len (lettersR (bS (lettersR s)))
          have hl94 := lR_len (lettersR (bS (lettersR s)))
          refine l_call rfl rfl (r_call (args := #[.pointer (some ⟨k4, 0, none⟩)]) rfl e48 (am rfl)) (rnumber_calls w32 k4 (lettersR (bS (lettersR s))) (((((false || decide (kindOf (lettersW s) < 1))) || bB (lettersR s)))) h30b (by omega)) (fun v96 w97 h95 => ?_)
          obtain ⟨h95x, rfl, h95i, h95v, h95f, h95b⟩ := h95
          have h95z := h95f.size
          obtain ⟨h95i1, h95i2⟩ := id h95i
          refine l_v (v := .pointer (some ⟨k14, 3, none⟩)) rfl rfl (r_field rfl rfl Tryz.underlying54 rfl (by kernel_rfl) rfl) ?_
          have hb98 := (h95f.at hb66 (by simp only [List.mem_singleton]; omega))
          refine l_store rfl rfl rfl (g := k14) (off := 3) (v := .int .i64 h95x) (arr := #[.int .i64 (kindR (lettersW s)), .int .i64 0, .int .i64 0, .int .i64 h95x, .slice none 0 0, .bool false]) rfl rfl (by kernel_rfl) hb98 rfl (by simp [Value.cells, Value.oneCell']) rfl (fun w99 p100 => ?_)
          have p100z := p100.sz
          refine l_nil ?_
          refine n_block ?_
          refine n_then ?_
          refine wp_seq ?_
          have hE105 : Fr [] w w99 := (Fr.step (Fr.step (Fr.step (Fr.step (Fr.step (hE17.trans n16.fr) p19.fr (by intro k_ hk_; simp only [List.mem_singleton] at hk_; omega)) h24f (by intro k_ hk_; simp only [List.mem_singleton] at hk_; omega)) h30f (by intro k_ hk_; simp only [List.mem_singleton] at hk_; omega)) h95f (by intro k_ hk_; simp only [List.mem_singleton] at hk_; omega)) p100.fr (by intro k_ hk_; simp only [List.mem_singleton] at hk_; omega))
          have hE105z := hE105.size
          refine h_start' (fun w0_ w_ => Fr [k1] w0_ w_) hmix (fun _ _ _ _ _ h => h) (fun w101 f102 hQ104 => ?_)
          have f102z := f102.size
          have hb106 := (f102.at0 p100.at_)
          refine h_take (i := 0) (v := .agg #[.int .i64 (kindR (lettersW s)), .int .i64 0, .int .i64 0, .int .i64 h95x, .slice none 0 0, .bool false]) rfl (by kernel_rfl) (by kernel_rfl) (by kernel_rfl) hQ104 rfl rfl (fun w_ hS_ => (r_loads (cs := [.int .i64 (kindR (lettersW s)), .int .i64 0, .int .i64 0, .int .i64 h95x, .slice none 0 0, .bool false]) rfl rfl Tryz.underlying54 rfl (by kernel_rfl) (range_at (hS_.at hb106 (by simp; omega)) rfl))) (Fr.refl [k1] w101) ?_
          refine h_take (i := 1) (v := .pointer (some ⟨k4, 0, none⟩)) rfl (by kernel_rfl) (by kernel_rfl) (by kernel_rfl) hQ104 rfl rfl (fun w_ hS_ => (by kernel_rfl)) (Fr.refl [k1] w101) ?_
          refine h_take (i := 2) (v := .pointer (some ⟨k4, 0, none⟩)) rfl (by kernel_rfl) (by kernel_rfl) (by kernel_rfl) hQ104 rfl rfl (fun w_ hS_ => (by kernel_rfl)) (Fr.refl [k1] w101) ?_
          refine h_take (i := 3) (v := .pointer (some ⟨k4, 1, none⟩)) rfl (by kernel_rfl) (by kernel_rfl) (by kernel_rfl) hQ104 rfl rfl (fun w_ hS_ => (r_field rfl rfl Tryz.underlying96 rfl (by kernel_rfl) rfl)) (Fr.refl [k1] w101) ?_
          have hb107 := (f102.at0 (p100.fr.at h95b (by simp only [List.mem_singleton]; omega)))
          refine h_take (i := 4) (v := .bool (((((((false || decide (kindOf (lettersW s) < 1))) || bB (lettersR s)))) || bB (lettersR (bS (lettersR s))) || (numOk (lettersW (bS (lettersR (bS (lettersR s)))))).isNone))) rfl (by kernel_rfl) (by kernel_rfl) (by kernel_rfl) hQ104 rfl rfl (fun w_ hS_ => (r_load rfl rfl Tryz.underlying4 rfl (cell_at (hS_.at hb107 (by simp; omega)) rfl))) (Fr.refl [k1] w101) ?_
          refine h_take (i := 5) (v := .bool ((!(((((((false || decide (kindOf (lettersW s) < 1))) || bB (lettersR s)))) || bB (lettersR (bS (lettersR s))) || (numOk (lettersW (bS (lettersR (bS (lettersR s)))))).isNone))))) rfl (by kernel_rfl) (by kernel_rfl) (by kernel_rfl) hQ104 rfl rfl (fun w_ hS_ => (by kernel_rfl)) (Fr.refl [k1] w101) ?_
          refine h_take (i := 6) (v := .bool ((!(((((((false || decide (kindOf (lettersW s) < 1))) || bB (lettersR s)))) || bB (lettersR (bS (lettersR s))) || (numOk (lettersW (bS (lettersR (bS (lettersR s)))))).isNone))))) rfl (by kernel_rfl) (by kernel_rfl) (by kernel_rfl) hQ104 rfl rfl (fun w_ hS_ => (by kernel_rfl)) (Fr.refl [k1] w101) ?_
          refine h_takeg (i := 7) (v := .pointer (some ⟨k4, 0, none⟩)) rfl (by kernel_rfl) (by kernel_rfl) (by kernel_rfl) hQ104 (want_1 rfl rfl rfl rfl) rfl (fun hW_ w_ hS_ => (by kernel_rfl)) (Fr.refl [k1] w101) ?_
          refine h_takeg (i := 8) (v := .pointer (some ⟨k4, 0, none⟩)) rfl (by kernel_rfl) (by kernel_rfl) (by kernel_rfl) hQ104 (want_1 rfl rfl rfl rfl) rfl (fun hW_ w_ hS_ => (r_nil rfl (gd_true hW_ _))) (Fr.refl [k1] w101) ?_
          refine h_takeg (i := 9) (v := .pointer (some ⟨k4, 0, none⟩)) rfl (by kernel_rfl) (by kernel_rfl) (by kernel_rfl) hQ104 (want_1 rfl rfl rfl rfl) rfl (fun hW_ w_ hS_ => (r_field rfl (gd_true hW_ _) Tryz.underlying96 rfl (by kernel_rfl) rfl)) (Fr.refl [k1] w101) ?_
          refine h_takeg (i := 10) (v := .string ⟨(lettersR (bS (lettersR (bS (lettersR s))))).toArray⟩) rfl (by kernel_rfl) (by kernel_rfl) (by kernel_rfl) hQ104 (want_1 rfl rfl rfl rfl) rfl (fun hW_ w_ hS_ => (r_load rfl (gd_true hW_ _) Tryz.underlying9 rfl (cell_at (hS_.at hb107 (by simp; omega)) rfl))) (Fr.refl [k1] w101) ?_
          refine h_takeg (i := 11) (v := .bool (decide (lettersR (bS (lettersR (bS (lettersR s)))) = ([] : List UInt8)))) rfl (by kernel_rfl) (by kernel_rfl) (by kernel_rfl) hQ104 (want_1 rfl rfl rfl rfl) rfl (fun hW_ w_ hS_ => (r_str_eql rfl (gd_true hW_ _) rfl)) (Fr.refl [k1] w101) ?_
          refine h_take (i := 12) (v := .bool ((((!(((((((false || decide (kindOf (lettersW s) < 1))) || bB (lettersR s)))) || bB (lettersR (bS (lettersR s))) || (numOk (lettersW (bS (lettersR (bS (lettersR s)))))).isNone)))) && (decide (lettersR (bS (lettersR (bS (lettersR s)))) = ([] : List UInt8)))))) rfl (by kernel_rfl) (by kernel_rfl) (by kernel_rfl) hQ104 rfl rfl (fun w_ hS_ => (r_pick rfl rfl (pick_and _ _))) (Fr.refl [k1] w101) ?_
          have hb108 := (f102.at0 (p100.fr.at (h95f.at (h30f.at (h24f.at (p19.fr.at (n16.fr.at0 (h11f.at (n6.fr.at0 n3.at_) (by simp only [List.mem_singleton]; omega))) (by simp only [List.mem_singleton]; omega)) (by simp only [List.mem_singleton]; omega)) (by simp only [List.mem_singleton]; omega)) (by simp only [List.mem_singleton]; omega)) (by simp only [List.mem_singleton]; omega)))
          refine h_store (i := 13) (by kernel_rfl) rfl rfl rfl rfl (g := k1) (off := 0) (v := .agg #[.int .i64 (kindR (lettersW s)), .int .i64 0, .int .i64 0, .int .i64 h95x, .slice none 0 0, .bool false]) (arr := #[.int .i64 (kindR (lettersW s)), .int .i64 0, .int .i64 0, .int .i64 h95x, .slice none 0 0, .bool false]) rfl rfl (by kernel_rfl) hb108 rfl (by simp [Value.cells, Value.oneCell']) rfl (fun w109 p110 => ⟨(Fr.refl [k1] w101).trans (p110.fr.mono (by simp)), ?_⟩)
          have p110z := p110.sz
          refine h_take (i := 14) (v := .bool ((((!(((((((false || decide (kindOf (lettersW s) < 1))) || bB (lettersR s)))) || bB (lettersR (bS (lettersR s))) || (numOk (lettersW (bS (lettersR (bS (lettersR s)))))).isNone)))) && (decide (lettersR (bS (lettersR (bS (lettersR s)))) = ([] : List UInt8)))))) rfl (by kernel_rfl) (by kernel_rfl) (by kernel_rfl) hQ104 rfl rfl (fun w_ hS_ => (by kernel_rfl)) ((Fr.refl [k1] w101).trans (p110.fr.mono (by simp))) ?_
          refine wpAnyH_done (by kernel_rfl) ?_ _
          refine n_then ?_
          refine wp_ret ?_
          have hb111 := (p110.fr.at hb106 (by simp only [List.mem_singleton]; omega))
          have hb112 := (p110.fr.at hb107 (by simp only [List.mem_singleton]; omega))
          have hK113 : RwK (fun b => w109.heap.size ≤ b) w109 [.int .i64 (kindR (lettersW s)), .int .i64 0, .int .i64 0, .int .i64 h95x, .slice none 0 0, .bool false] (⟨kindR (lettersW s), 0, 0, h95x, [], false⟩ : Rw) := rwK_mk (Sl.nil _ _ _) (by unfold i64; omega) (by unfold i64; omega) (by unfold i64; omega) (by unfold i64; omega) (by (try simp only [List.length_nil]); omega)
          have hfin : Fin s ((((!(((((((false || decide (kindOf (lettersW s) < 1))) || bB (lettersR s)))) || bB (lettersR (bS (lettersR s))) || (numOk (lettersW (bS (lettersR (bS (lettersR s)))))).isNone)))) && (decide (lettersR (bS (lettersR (bS (lettersR s)))) = ([] : List UInt8))))) (⟨kindR (lettersW s), 0, 0, h95x, [], false⟩ : Rw) := by
            obtain ⟨ho_, hbad_⟩ := hc57
            have h1_ : ¬ kindOf (lettersW s) < 1 := by first | exact hbad_.1 | (simp at hbad_; omega)
            have h2_ : bB (lettersR s) = false := by first | exact hbad_.2 | (simp at hbad_; exact hbad_.2)
            have h_ := fin_k5 (s := s) rfl h1_ h2_ (show lettersW (bS (lettersR s)) = okW from ho_) hc91 h95v
            have e1_ := h_.1
            have e2_ := h_.2
            refine ⟨?_, e2_⟩
            rw [← e1_]
            simp [h1_, h2_, Bool.or_assoc]
          have hfp := hfin.parse hl
          have hE114 : Fr [] w w109 := (Fr.step (hE105.trans f102) p110.fr (by intro k_ hk_; simp only [List.mem_singleton] at hk_; omega))
          have hE114z := hE114.size
          exact end_ret (v := .tuple #[.agg #[.int .i64 (kindR (lettersW s)), .int .i64 0, .int .i64 0, .int .i64 h95x, .slice none 0 0, .bool false], .bool ((((!(((((((false || decide (kindOf (lettersW s) < 1))) || bB (lettersR s)))) || bB (lettersR (bS (lettersR s))) || (numOk (lettersW (bS (lettersR (bS (lettersR s)))))).isNone)))) && (decide (lettersR (bS (lettersR (bS (lettersR s)))) = ([] : List UInt8)))))]) (resn2 rfl (rv_row rfl (cs := [.int .i64 (kindR (lettersW s)), .int .i64 0, .int .i64 0, .int .i64 h95x, .slice none 0 0, .bool false]) Tryz.underlying54 rfl (by kernel_rfl) (range_at p110.at_ rfl)) (rv_tmp rfl)) ⟨_, rfl, ⟨[.int .i64 (kindR (lettersW s)), .int .i64 0, .int .i64 0, .int .i64 h95x, .slice none 0 0, .bool false], (⟨kindR (lettersW s), 0, 0, h95x, [], false⟩ : Rw), Rp.rw.weak hK113 (fun g_ _ hg_ => by have hg2_ : w109.heap.size ≤ g_ := hg_; show w.heap.size ≤ g_; omega), (by first | (rw [← hfp.1]; done) | (rw [← hfp.1]; rfl)), hfp.2, hE114⟩⟩
        · try simp only [decide_eq_true_eq, decide_eq_false_iff_not, Bool.and_eq_true, Bool.or_eq_true, Bool.and_eq_false_iff, Bool.or_eq_false_iff, Bool.not_eq_true', Bool.not_eq_false', beq_iff_eq, bne_iff_ne, ne_eq, beq_eq_false_iff_ne, bne_eq_false_iff_eq, gt_iff_lt, ge_iff_le, Int.not_lt, Int.not_le] at hc91
          refine wp_seq ?_
          refine r_start ?_
          refine l_v (v := .bool (((kindR (lettersW s)) == (2 : Int)))) rfl rfl (by kernel_rfl) ?_
          refine l_v (v := .bool (((kindR (lettersW s)) == (2 : Int)))) rfl rfl (by kernel_rfl) ?_
          refine l_nil ?_
          refine n_then ?_
          refine c_cond (e := ((kindR (lettersW s)) == (2 : Int))) rfl (fun hc115 => ?_) (fun hc115 => ?_)
          · try simp only [decide_eq_true_eq, decide_eq_false_iff_not, Bool.and_eq_true, Bool.or_eq_true, Bool.and_eq_false_iff, Bool.or_eq_false_iff, Bool.not_eq_true', Bool.not_eq_false', beq_iff_eq, bne_iff_ne, ne_eq, beq_eq_false_iff_ne, bne_eq_false_iff_eq, gt_iff_lt, ge_iff_le, Int.not_lt, Int.not_le] at hc115
            refine wp_seq ?_
            refine r_start ?_
            refine l_v (v := .pointer (some ⟨k4, 0, none⟩)) rfl rfl (by kernel_rfl) ?_
            have hl116 := bS_len (lettersR (bS (lettersR s)))
            have hl117 := lW_len (lettersR (bS (lettersR s)))
            have hl118 := lR_len (lettersR (bS (lettersR s)))
            refine l_call rfl rfl (r_call (args := #[.pointer (some ⟨k4, 0, none⟩)]) rfl e49 (am rfl)) (rword_calls w32 k4 (lettersR (bS (lettersR s))) (((((false || decide (kindOf (lettersW s) < 1))) || bB (lettersR s)))) h30b (by omega)) (fun v120 w121 h119 => ?_)
            obtain ⟨h119B, h119f, h119b⟩ := h119
            have h119z := h119f.size
            obtain ⟨h119A, h119c, rfl, h119l, h119E⟩ := id h119B
            have h119u := unqR_len (bS (lettersR (bS (lettersR s))))
            refine l_v (v := .pointer (some ⟨k14, 4, none⟩)) rfl rfl (r_field rfl rfl Tryz.underlying54 rfl (by kernel_rfl) rfl) ?_
            have hb122 := (h119f.at hb66 (by simp only [List.mem_singleton]; omega))
            refine l_store rfl rfl rfl (g := k14) (off := 4) (v := .slice h119A ((unqR (bS (lettersR (bS (lettersR s))))).1.length) h119c) (arr := #[.int .i64 (kindR (lettersW s)), .int .i64 0, .int .i64 0, .int .i64 0, .slice h119A ((unqR (bS (lettersR (bS (lettersR s))))).1.length) h119c, .bool false]) rfl rfl (by kernel_rfl) hb122 rfl (by simp [Value.cells, Value.oneCell']) rfl (fun w123 p124 => ?_)
            have p124z := p124.sz
            refine l_nil ?_
            refine n_then ?_
            refine wp_seq ?_
            refine r_start ?_
            refine l_v (v := .pointer (some ⟨k4, 0, none⟩)) rfl rfl (by kernel_rfl) ?_
            have hb125 := (p124.fr.at h119b (by simp only [List.mem_singleton]; omega))
            have hl126 := bS_len ((unqR (bS (lettersR (bS (lettersR s))))).2.1)
            have hl127 := lW_len ((unqR (bS (lettersR (bS (lettersR s))))).2.1)
            have hl128 := lR_len ((unqR (bS (lettersR (bS (lettersR s))))).2.1)
            refine l_call rfl rfl (r_call (args := #[.pointer (some ⟨k4, 0, none⟩)]) rfl e46 (am rfl)) (blank_calls w123 k4 ((unqR (bS (lettersR (bS (lettersR s))))).2.1) (((((((false || decide (kindOf (lettersW s) < 1))) || bB (lettersR s)))) || bB (lettersR (bS (lettersR s))) || !(unqR (bS (lettersR (bS (lettersR s))))).2.2)) hb125 (by omega)) (fun v130 w131 h129 => ?_)
            obtain ⟨rfl, h129f, h129b⟩ := h129
            have h129z := h129f.size
            refine l_nil ?_
            refine n_then ?_
            refine wp_seq ?_
            refine r_start ?_
            refine l_v (v := .pointer (some ⟨k4, 0, none⟩)) rfl rfl (by kernel_rfl) ?_
            have hl132 := bS_len (bS ((unqR (bS (lettersR (bS (lettersR s))))).2.1))
            have hl133 := lW_len (bS ((unqR (bS (lettersR (bS (lettersR s))))).2.1))
            have hl134 := lR_len (bS ((unqR (bS (lettersR (bS (lettersR s))))).2.1))
            refine l_call rfl rfl (r_call (args := #[.pointer (some ⟨k4, 0, none⟩)]) rfl e47 (am rfl)) (letters_calls w131 k4 (bS ((unqR (bS (lettersR (bS (lettersR s))))).2.1)) (((((((((false || decide (kindOf (lettersW s) < 1))) || bB (lettersR s)))) || bB (lettersR (bS (lettersR s))) || !(unqR (bS (lettersR (bS (lettersR s))))).2.2)) || bB ((unqR (bS (lettersR (bS (lettersR s))))).2.1))) h129b (by omega)) (fun v136 w137 h135 => ?_)
            obtain ⟨rfl, h135f, h135b⟩ := h135
            have h135z := h135f.size
            refine l_v (v := .string ⟨(lettersW (bS ((unqR (bS (lettersR (bS (lettersR s))))).2.1))).toArray⟩) rfl rfl (by kernel_rfl) ?_
            refine l_nil ?_
            refine n_then ?_
            refine wp_seq ?_
            refine r_start ?_
            refine l_v (v := .string ⟨(lettersW (bS ((unqR (bS (lettersR (bS (lettersR s))))).2.1))).toArray⟩) rfl rfl (by kernel_rfl) ?_
            refine l_v (v := .bool (decide (lettersW (bS ((unqR (bS (lettersR (bS (lettersR s))))).2.1)) = ([101, 110, 100, 101, 100] : List UInt8)))) rfl rfl (r_str_eql rfl rfl rfl) ?_
            refine l_v (v := .pointer (some ⟨k14, 5, none⟩)) rfl rfl (r_field rfl rfl Tryz.underlying54 rfl (by kernel_rfl) rfl) ?_
            have hb138 := (h135f.at (h129f.at p124.at_ (by simp only [List.mem_singleton]; omega)) (by simp only [List.mem_singleton]; omega))
            refine l_store rfl rfl rfl (g := k14) (off := 5) (v := .bool (decide (lettersW (bS ((unqR (bS (lettersR (bS (lettersR s))))).2.1)) = ([101, 110, 100, 101, 100] : List UInt8)))) (arr := #[.int .i64 (kindR (lettersW s)), .int .i64 0, .int .i64 0, .int .i64 0, .slice h119A ((unqR (bS (lettersR (bS (lettersR s))))).1.length) h119c, .bool (decide (lettersW (bS ((unqR (bS (lettersR (bS (lettersR s))))).2.1)) = ([101, 110, 100, 101, 100] : List UInt8)))]) rfl rfl (by kernel_rfl) hb138 rfl (by simp [Value.cells, Value.oneCell']) rfl (fun w139 p140 => ?_)
            have p140z := p140.sz
            refine l_nil ?_
            refine n_then ?_
            refine wp_seq ?_
            refine r_start ?_
            refine l_v (v := .pointer (some ⟨k14, 5, none⟩)) rfl rfl (r_field rfl rfl Tryz.underlying54 rfl (by kernel_rfl) rfl) ?_
            refine l_v (v := .bool (decide (lettersW (bS ((unqR (bS (lettersR (bS (lettersR s))))).2.1)) = ([101, 110, 100, 101, 100] : List UInt8)))) rfl rfl (r_load rfl rfl Tryz.underlying4 rfl (cell_at p140.at_ rfl)) ?_
            refine l_v (v := .bool ((!(decide (lettersW (bS ((unqR (bS (lettersR (bS (lettersR s))))).2.1)) = ([101, 110, 100, 101, 100] : List UInt8)))))) rfl rfl (by kernel_rfl) ?_
            refine l_v (v := .bool ((!(decide (lettersW (bS ((unqR (bS (lettersR (bS (lettersR s))))).2.1)) = ([101, 110, 100, 101, 100] : List UInt8)))))) rfl rfl (by kernel_rfl) ?_
            refine l_g (v := .string ⟨(lettersW (bS ((unqR (bS (lettersR (bS (lettersR s))))).2.1))).toArray⟩) (want_1 rfl rfl rfl rfl) rfl (fun hW_ => (by kernel_rfl)) ?_
            refine l_g (v := .bool ((!decide (lettersW (bS ((unqR (bS (lettersR (bS (lettersR s))))).2.1)) = ([111, 112, 101, 110] : List UInt8))))) (want_1 rfl rfl rfl rfl) rfl (fun hW_ => (r_str_neq rfl (gd_true hW_ _) rfl)) ?_
            refine l_v (v := .bool ((((!(decide (lettersW (bS ((unqR (bS (lettersR (bS (lettersR s))))).2.1)) = ([101, 110, 100, 101, 100] : List UInt8))))) && ((!decide (lettersW (bS ((unqR (bS (lettersR (bS (lettersR s))))).2.1)) = ([111, 112, 101, 110] : List UInt8))))))) rfl rfl (r_pick rfl rfl (pick_and _ _)) ?_
            refine l_nil ?_
            refine n_then ?_
            refine c_cond (e := (((!(decide (lettersW (bS ((unqR (bS (lettersR (bS (lettersR s))))).2.1)) = ([101, 110, 100, 101, 100] : List UInt8))))) && ((!decide (lettersW (bS ((unqR (bS (lettersR (bS (lettersR s))))).2.1)) = ([111, 112, 101, 110] : List UInt8)))))) rfl (fun hc141 => ?_) (fun hc141 => ?_)
            · try simp only [decide_eq_true_eq, decide_eq_false_iff_not, Bool.and_eq_true, Bool.or_eq_true, Bool.and_eq_false_iff, Bool.or_eq_false_iff, Bool.not_eq_true', Bool.not_eq_false', beq_iff_eq, bne_iff_ne, ne_eq, beq_eq_false_iff_ne, bne_eq_false_iff_eq, gt_iff_lt, ge_iff_le, Int.not_lt, Int.not_le] at hc141
              refine r_start ?_
              refine l_v (v := .pointer (some ⟨k4, 0, none⟩)) rfl rfl (by kernel_rfl) ?_
              refine l_v (v := .pointer (some ⟨k4, 0, none⟩)) rfl rfl (by kernel_rfl) ?_
              refine l_v (v := .pointer (some ⟨k4, 1, none⟩)) rfl rfl (r_field rfl rfl Tryz.underlying96 rfl (by kernel_rfl) rfl) ?_
              have hb142 := (p140.fr.at h135b (by simp only [List.mem_singleton]; omega))
              refine l_store rfl rfl rfl (g := k4) (off := 1) (v := .bool true) (arr := #[.string ⟨(lettersR (bS ((unqR (bS (lettersR (bS (lettersR s))))).2.1))).toArray⟩, .bool true]) rfl rfl (by kernel_rfl) hb142 rfl (by simp [Value.cells, Value.oneCell']) rfl (fun w143 p144 => ?_)
              have p144z := p144.sz
              refine l_nil ?_
              refine n_block ?_
              refine n_then ?_
              refine wp_seq ?_
              have hE149 : Fr [] w w143 := (Fr.step (Fr.step (Fr.step (Fr.step (Fr.step (Fr.step (Fr.step (Fr.step (Fr.step (hE17.trans n16.fr) p19.fr (by intro k_ hk_; simp only [List.mem_singleton] at hk_; omega)) h24f (by intro k_ hk_; simp only [List.mem_singleton] at hk_; omega)) h30f (by intro k_ hk_; simp only [List.mem_singleton] at hk_; omega)) h119f (by intro k_ hk_; simp only [List.mem_singleton] at hk_; omega)) p124.fr (by intro k_ hk_; simp only [List.mem_singleton] at hk_; omega)) h129f (by intro k_ hk_; simp only [List.mem_singleton] at hk_; omega)) h135f (by intro k_ hk_; simp only [List.mem_singleton] at hk_; omega)) p140.fr (by intro k_ hk_; simp only [List.mem_singleton] at hk_; omega)) p144.fr (by intro k_ hk_; simp only [List.mem_singleton] at hk_; omega))
              have hE149z := hE149.size
              refine h_start' (fun w0_ w_ => Fr [k1] w0_ w_) hmix (fun _ _ _ _ _ h => h) (fun w145 f146 hQ148 => ?_)
              have f146z := f146.size
              have hb150 := (f146.at0 (p144.fr.at p140.at_ (by simp only [List.mem_singleton]; omega)))
              refine h_take (i := 0) (v := .agg #[.int .i64 (kindR (lettersW s)), .int .i64 0, .int .i64 0, .int .i64 0, .slice h119A ((unqR (bS (lettersR (bS (lettersR s))))).1.length) h119c, .bool (decide (lettersW (bS ((unqR (bS (lettersR (bS (lettersR s))))).2.1)) = ([101, 110, 100, 101, 100] : List UInt8)))]) rfl (by kernel_rfl) (by kernel_rfl) (by kernel_rfl) hQ148 rfl rfl (fun w_ hS_ => (r_loads (cs := [.int .i64 (kindR (lettersW s)), .int .i64 0, .int .i64 0, .int .i64 0, .slice h119A ((unqR (bS (lettersR (bS (lettersR s))))).1.length) h119c, .bool (decide (lettersW (bS ((unqR (bS (lettersR (bS (lettersR s))))).2.1)) = ([101, 110, 100, 101, 100] : List UInt8)))]) rfl rfl Tryz.underlying54 rfl (by kernel_rfl) (range_at (hS_.at hb150 (by simp; omega)) rfl))) (Fr.refl [k1] w145) ?_
              refine h_take (i := 1) (v := .pointer (some ⟨k4, 0, none⟩)) rfl (by kernel_rfl) (by kernel_rfl) (by kernel_rfl) hQ148 rfl rfl (fun w_ hS_ => (by kernel_rfl)) (Fr.refl [k1] w145) ?_
              refine h_take (i := 2) (v := .pointer (some ⟨k4, 0, none⟩)) rfl (by kernel_rfl) (by kernel_rfl) (by kernel_rfl) hQ148 rfl rfl (fun w_ hS_ => (by kernel_rfl)) (Fr.refl [k1] w145) ?_
              refine h_take (i := 3) (v := .pointer (some ⟨k4, 1, none⟩)) rfl (by kernel_rfl) (by kernel_rfl) (by kernel_rfl) hQ148 rfl rfl (fun w_ hS_ => (r_field rfl rfl Tryz.underlying96 rfl (by kernel_rfl) rfl)) (Fr.refl [k1] w145) ?_
              have hb151 := (f146.at0 p144.at_)
              refine h_take (i := 4) (v := .bool true) rfl (by kernel_rfl) (by kernel_rfl) (by kernel_rfl) hQ148 rfl rfl (fun w_ hS_ => (r_load rfl rfl Tryz.underlying4 rfl (cell_at (hS_.at hb151 (by simp; omega)) rfl))) (Fr.refl [k1] w145) ?_
              refine h_take (i := 5) (v := .bool false) rfl (by kernel_rfl) (by kernel_rfl) (by kernel_rfl) hQ148 rfl rfl (fun w_ hS_ => (by kernel_rfl)) (Fr.refl [k1] w145) ?_
              refine h_take (i := 6) (v := .bool false) rfl (by kernel_rfl) (by kernel_rfl) (by kernel_rfl) hQ148 rfl rfl (fun w_ hS_ => (by kernel_rfl)) (Fr.refl [k1] w145) ?_
              refine h_takeg (i := 7) (v := .bool true) rfl (by kernel_rfl) (by kernel_rfl) (by kernel_rfl) hQ148 (want_1 rfl rfl rfl rfl) rfl (fun hW_ => absurd (hW_.symm.trans ((known_eq rfl true).trans rfl)) (by decide)) (Fr.refl [k1] w145) ?_
              refine h_takeg (i := 8) (v := .bool true) rfl (by kernel_rfl) (by kernel_rfl) (by kernel_rfl) hQ148 (want_1 rfl rfl rfl rfl) rfl (fun hW_ => absurd (hW_.symm.trans ((known_eq rfl true).trans rfl)) (by decide)) (Fr.refl [k1] w145) ?_
              refine h_takeg (i := 9) (v := .bool true) rfl (by kernel_rfl) (by kernel_rfl) (by kernel_rfl) hQ148 (want_1 rfl rfl rfl rfl) rfl (fun hW_ => absurd (hW_.symm.trans ((known_eq rfl true).trans rfl)) (by decide)) (Fr.refl [k1] w145) ?_
              refine h_takeg (i := 10) (v := .bool true) rfl (by kernel_rfl) (by kernel_rfl) (by kernel_rfl) hQ148 (want_1 rfl rfl rfl rfl) rfl (fun hW_ => absurd (hW_.symm.trans ((known_eq rfl true).trans rfl)) (by decide)) (Fr.refl [k1] w145) ?_
              refine h_takeg (i := 11) (v := .bool true) rfl (by kernel_rfl) (by kernel_rfl) (by kernel_rfl) hQ148 (want_1 rfl rfl rfl rfl) rfl (fun hW_ => absurd (hW_.symm.trans ((known_eq rfl true).trans rfl)) (by decide)) (Fr.refl [k1] w145) ?_
              refine h_take (i := 12) (v := .bool false) rfl (by kernel_rfl) (by kernel_rfl) (by kernel_rfl) hQ148 rfl rfl (fun w_ hS_ => (r_pickF rfl rfl rfl rfl)) (Fr.refl [k1] w145) ?_
              have hb152 := (f146.at0 (p144.fr.at (p140.fr.at (h135f.at (h129f.at (p124.fr.at (h119f.at (h30f.at (h24f.at (p19.fr.at (n16.fr.at0 (h11f.at (n6.fr.at0 n3.at_) (by simp only [List.mem_singleton]; omega))) (by simp only [List.mem_singleton]; omega)) (by simp only [List.mem_singleton]; omega)) (by simp only [List.mem_singleton]; omega)) (by simp only [List.mem_singleton]; omega)) (by simp only [List.mem_singleton]; omega)) (by simp only [List.mem_singleton]; omega)) (by simp only [List.mem_singleton]; omega)) (by simp only [List.mem_singleton]; omega)) (by simp only [List.mem_singleton]; omega)))
              refine h_store (i := 13) (by kernel_rfl) rfl rfl rfl rfl (g := k1) (off := 0) (v := .agg #[.int .i64 (kindR (lettersW s)), .int .i64 0, .int .i64 0, .int .i64 0, .slice h119A ((unqR (bS (lettersR (bS (lettersR s))))).1.length) h119c, .bool (decide (lettersW (bS ((unqR (bS (lettersR (bS (lettersR s))))).2.1)) = ([101, 110, 100, 101, 100] : List UInt8)))]) (arr := #[.int .i64 (kindR (lettersW s)), .int .i64 0, .int .i64 0, .int .i64 0, .slice h119A ((unqR (bS (lettersR (bS (lettersR s))))).1.length) h119c, .bool (decide (lettersW (bS ((unqR (bS (lettersR (bS (lettersR s))))).2.1)) = ([101, 110, 100, 101, 100] : List UInt8)))]) rfl rfl (by kernel_rfl) hb152 rfl (by simp [Value.cells, Value.oneCell']) rfl (fun w153 p154 => ⟨(Fr.refl [k1] w145).trans (p154.fr.mono (by simp)), ?_⟩)
              have p154z := p154.sz
              refine h_take (i := 14) (v := .bool false) rfl (by kernel_rfl) (by kernel_rfl) (by kernel_rfl) hQ148 rfl rfl (fun w_ hS_ => (by kernel_rfl)) ((Fr.refl [k1] w145).trans (p154.fr.mono (by simp))) ?_
              refine wpAnyH_done (by kernel_rfl) ?_ _
              refine n_then ?_
              refine wp_ret ?_
              have hb155 := (p154.fr.at hb150 (by simp only [List.mem_singleton]; omega))
              have hb156 := (p154.fr.at hb151 (by simp only [List.mem_singleton]; omega))
              have hd157 := (((((((h119B.fr p124.fr (by intro g_ hg_; have hg2_ : w32.heap.size ≤ g_ := hg_; simp only [List.mem_singleton]; omega)).fr h129f (by intro g_ hg_; have hg2_ : w32.heap.size ≤ g_ := hg_; simp only [List.mem_singleton]; omega)).fr h135f (by intro g_ hg_; have hg2_ : w32.heap.size ≤ g_ := hg_; simp only [List.mem_singleton]; omega)).fr p140.fr (by intro g_ hg_; have hg2_ : w32.heap.size ≤ g_ := hg_; simp only [List.mem_singleton]; omega)).fr p144.fr (by intro g_ hg_; have hg2_ : w32.heap.size ≤ g_ := hg_; simp only [List.mem_singleton]; omega)).fr0 f146).fr p154.fr (by intro g_ hg_; have hg2_ : w32.heap.size ≤ g_ := hg_; simp only [List.mem_singleton]; omega))
              have hK158 : RwK (fun b => w32.heap.size ≤ b) w153 [.int .i64 (kindR (lettersW s)), .int .i64 0, .int .i64 0, .int .i64 0, .slice h119A ((unqR (bS (lettersR (bS (lettersR s))))).1.length) h119c, .bool (decide (lettersW (bS ((unqR (bS (lettersR (bS (lettersR s))))).2.1)) = ([101, 110, 100, 101, 100] : List UInt8)))] (⟨kindR (lettersW s), 0, 0, 0, (unqR (bS (lettersR (bS (lettersR s))))).1, decide (lettersW (bS ((unqR (bS (lettersR (bS (lettersR s))))).2.1)) = ([101, 110, 100, 101, 100] : List UInt8))⟩ : Rw) := rwK_mk hd157 (by unfold i64; omega) (by unfold i64; omega) (by unfold i64; omega) (by unfold i64; omega) (by (try simp only [List.length_nil]); omega)
              have hfin : Fin s false (⟨kindR (lettersW s), 0, 0, 0, (unqR (bS (lettersR (bS (lettersR s))))).1, decide (lettersW (bS ((unqR (bS (lettersR (bS (lettersR s))))).2.1)) = ([101, 110, 100, 101, 100] : List UInt8))⟩ : Rw) := by
                obtain ⟨ho_, hbad_⟩ := hc57
                have h1_ : ¬ kindOf (lettersW s) < 1 := by first | exact hbad_.1 | (simp at hbad_; omega)
                have h2_ : bB (lettersR s) = false := by first | exact hbad_.2 | (simp at hbad_; exact hbad_.2)
                have h_ := fin_k2no (s := s) (s4 := ((unqR (bS (lettersR (bS (lettersR s))))).2.1)) rfl rfl h1_ h2_ (show lettersW (bS (lettersR s)) = okW from ho_) hc115 (by intro hc_; rcases hc_ with hc_ | hc_; exact hc141.1 hc_; exact hc141.2 hc_) (⟨kindR (lettersW s), 0, 0, 0, (unqR (bS (lettersR (bS (lettersR s))))).1, decide (lettersW (bS ((unqR (bS (lettersR (bS (lettersR s))))).2.1)) = ([101, 110, 100, 101, 100] : List UInt8))⟩ : Rw)
                simpa using h_
              have hfp := hfin.parse hl
              have hE159 : Fr [] w w153 := (Fr.step (hE149.trans f146) p154.fr (by intro k_ hk_; simp only [List.mem_singleton] at hk_; omega))
              have hE159z := hE159.size
              exact end_ret (v := .tuple #[.agg #[.int .i64 (kindR (lettersW s)), .int .i64 0, .int .i64 0, .int .i64 0, .slice h119A ((unqR (bS (lettersR (bS (lettersR s))))).1.length) h119c, .bool (decide (lettersW (bS ((unqR (bS (lettersR (bS (lettersR s))))).2.1)) = ([101, 110, 100, 101, 100] : List UInt8)))], .bool false]) (resn2 rfl (rv_row rfl (cs := [.int .i64 (kindR (lettersW s)), .int .i64 0, .int .i64 0, .int .i64 0, .slice h119A ((unqR (bS (lettersR (bS (lettersR s))))).1.length) h119c, .bool (decide (lettersW (bS ((unqR (bS (lettersR (bS (lettersR s))))).2.1)) = ([101, 110, 100, 101, 100] : List UInt8)))]) Tryz.underlying54 rfl (by kernel_rfl) (range_at p154.at_ rfl)) (rv_tmp rfl)) ⟨_, rfl, ⟨[.int .i64 (kindR (lettersW s)), .int .i64 0, .int .i64 0, .int .i64 0, .slice h119A ((unqR (bS (lettersR (bS (lettersR s))))).1.length) h119c, .bool (decide (lettersW (bS ((unqR (bS (lettersR (bS (lettersR s))))).2.1)) = ([101, 110, 100, 101, 100] : List UInt8)))], (⟨kindR (lettersW s), 0, 0, 0, (unqR (bS (lettersR (bS (lettersR s))))).1, decide (lettersW (bS ((unqR (bS (lettersR (bS (lettersR s))))).2.1)) = ([101, 110, 100, 101, 100] : List UInt8))⟩ : Rw), Rp.rw.weak hK158 (fun g_ _ hg_ => by have hg2_ : w32.heap.size ≤ g_ := hg_; show w.heap.size ≤ g_; omega), (by first | (rw [← hfp.1]; done) | (rw [← hfp.1]; rfl)), hfp.2, hE159⟩⟩
            · try simp only [decide_eq_true_eq, decide_eq_false_iff_not, Bool.and_eq_true, Bool.or_eq_true, Bool.and_eq_false_iff, Bool.or_eq_false_iff, Bool.not_eq_true', Bool.not_eq_false', beq_iff_eq, bne_iff_ne, ne_eq, beq_eq_false_iff_ne, bne_eq_false_iff_eq, gt_iff_lt, ge_iff_le, Int.not_lt, Int.not_le] at hc141
              refine wp_skip ?_
              refine n_block ?_
              refine n_then ?_
              refine wp_seq ?_
              have hE164 : Fr [] w w139 := (Fr.step (Fr.step (Fr.step (Fr.step (Fr.step (Fr.step (Fr.step (Fr.step (hE17.trans n16.fr) p19.fr (by intro k_ hk_; simp only [List.mem_singleton] at hk_; omega)) h24f (by intro k_ hk_; simp only [List.mem_singleton] at hk_; omega)) h30f (by intro k_ hk_; simp only [List.mem_singleton] at hk_; omega)) h119f (by intro k_ hk_; simp only [List.mem_singleton] at hk_; omega)) p124.fr (by intro k_ hk_; simp only [List.mem_singleton] at hk_; omega)) h129f (by intro k_ hk_; simp only [List.mem_singleton] at hk_; omega)) h135f (by intro k_ hk_; simp only [List.mem_singleton] at hk_; omega)) p140.fr (by intro k_ hk_; simp only [List.mem_singleton] at hk_; omega))
              have hE164z := hE164.size
              refine h_start' (fun w0_ w_ => Fr [k1] w0_ w_) hmix (fun _ _ _ _ _ h => h) (fun w160 f161 hQ163 => ?_)
              have f161z := f161.size
              have hb165 := (f161.at0 p140.at_)
              refine h_take (i := 0) (v := .agg #[.int .i64 (kindR (lettersW s)), .int .i64 0, .int .i64 0, .int .i64 0, .slice h119A ((unqR (bS (lettersR (bS (lettersR s))))).1.length) h119c, .bool (decide (lettersW (bS ((unqR (bS (lettersR (bS (lettersR s))))).2.1)) = ([101, 110, 100, 101, 100] : List UInt8)))]) rfl (by kernel_rfl) (by kernel_rfl) (by kernel_rfl) hQ163 rfl rfl (fun w_ hS_ => (r_loads (cs := [.int .i64 (kindR (lettersW s)), .int .i64 0, .int .i64 0, .int .i64 0, .slice h119A ((unqR (bS (lettersR (bS (lettersR s))))).1.length) h119c, .bool (decide (lettersW (bS ((unqR (bS (lettersR (bS (lettersR s))))).2.1)) = ([101, 110, 100, 101, 100] : List UInt8)))]) rfl rfl Tryz.underlying54 rfl (by kernel_rfl) (range_at (hS_.at hb165 (by simp; omega)) rfl))) (Fr.refl [k1] w160) ?_
              refine h_take (i := 1) (v := .pointer (some ⟨k4, 0, none⟩)) rfl (by kernel_rfl) (by kernel_rfl) (by kernel_rfl) hQ163 rfl rfl (fun w_ hS_ => (by kernel_rfl)) (Fr.refl [k1] w160) ?_
              refine h_take (i := 2) (v := .pointer (some ⟨k4, 0, none⟩)) rfl (by kernel_rfl) (by kernel_rfl) (by kernel_rfl) hQ163 rfl rfl (fun w_ hS_ => (by kernel_rfl)) (Fr.refl [k1] w160) ?_
              refine h_take (i := 3) (v := .pointer (some ⟨k4, 1, none⟩)) rfl (by kernel_rfl) (by kernel_rfl) (by kernel_rfl) hQ163 rfl rfl (fun w_ hS_ => (r_field rfl rfl Tryz.underlying96 rfl (by kernel_rfl) rfl)) (Fr.refl [k1] w160) ?_
              have hb166 := (f161.at0 (p140.fr.at h135b (by simp only [List.mem_singleton]; omega)))
              refine h_take (i := 4) (v := .bool ((((((((((false || decide (kindOf (lettersW s) < 1))) || bB (lettersR s)))) || bB (lettersR (bS (lettersR s))) || !(unqR (bS (lettersR (bS (lettersR s))))).2.2)) || bB ((unqR (bS (lettersR (bS (lettersR s))))).2.1))))) rfl (by kernel_rfl) (by kernel_rfl) (by kernel_rfl) hQ163 rfl rfl (fun w_ hS_ => (r_load rfl rfl Tryz.underlying4 rfl (cell_at (hS_.at hb166 (by simp; omega)) rfl))) (Fr.refl [k1] w160) ?_
              refine h_take (i := 5) (v := .bool ((!((((((((((false || decide (kindOf (lettersW s) < 1))) || bB (lettersR s)))) || bB (lettersR (bS (lettersR s))) || !(unqR (bS (lettersR (bS (lettersR s))))).2.2)) || bB ((unqR (bS (lettersR (bS (lettersR s))))).2.1))))))) rfl (by kernel_rfl) (by kernel_rfl) (by kernel_rfl) hQ163 rfl rfl (fun w_ hS_ => (by kernel_rfl)) (Fr.refl [k1] w160) ?_
              refine h_take (i := 6) (v := .bool ((!((((((((((false || decide (kindOf (lettersW s) < 1))) || bB (lettersR s)))) || bB (lettersR (bS (lettersR s))) || !(unqR (bS (lettersR (bS (lettersR s))))).2.2)) || bB ((unqR (bS (lettersR (bS (lettersR s))))).2.1))))))) rfl (by kernel_rfl) (by kernel_rfl) (by kernel_rfl) hQ163 rfl rfl (fun w_ hS_ => (by kernel_rfl)) (Fr.refl [k1] w160) ?_
              refine h_takeg (i := 7) (v := .pointer (some ⟨k4, 0, none⟩)) rfl (by kernel_rfl) (by kernel_rfl) (by kernel_rfl) hQ163 (want_1 rfl rfl rfl rfl) rfl (fun hW_ w_ hS_ => (by kernel_rfl)) (Fr.refl [k1] w160) ?_
              refine h_takeg (i := 8) (v := .pointer (some ⟨k4, 0, none⟩)) rfl (by kernel_rfl) (by kernel_rfl) (by kernel_rfl) hQ163 (want_1 rfl rfl rfl rfl) rfl (fun hW_ w_ hS_ => (r_nil rfl (gd_true hW_ _))) (Fr.refl [k1] w160) ?_
              refine h_takeg (i := 9) (v := .pointer (some ⟨k4, 0, none⟩)) rfl (by kernel_rfl) (by kernel_rfl) (by kernel_rfl) hQ163 (want_1 rfl rfl rfl rfl) rfl (fun hW_ w_ hS_ => (r_field rfl (gd_true hW_ _) Tryz.underlying96 rfl (by kernel_rfl) rfl)) (Fr.refl [k1] w160) ?_
              refine h_takeg (i := 10) (v := .string ⟨(lettersR (bS ((unqR (bS (lettersR (bS (lettersR s))))).2.1))).toArray⟩) rfl (by kernel_rfl) (by kernel_rfl) (by kernel_rfl) hQ163 (want_1 rfl rfl rfl rfl) rfl (fun hW_ w_ hS_ => (r_load rfl (gd_true hW_ _) Tryz.underlying9 rfl (cell_at (hS_.at hb166 (by simp; omega)) rfl))) (Fr.refl [k1] w160) ?_
              refine h_takeg (i := 11) (v := .bool (decide (lettersR (bS ((unqR (bS (lettersR (bS (lettersR s))))).2.1)) = ([] : List UInt8)))) rfl (by kernel_rfl) (by kernel_rfl) (by kernel_rfl) hQ163 (want_1 rfl rfl rfl rfl) rfl (fun hW_ w_ hS_ => (r_str_eql rfl (gd_true hW_ _) rfl)) (Fr.refl [k1] w160) ?_
              refine h_take (i := 12) (v := .bool ((((!((((((((((false || decide (kindOf (lettersW s) < 1))) || bB (lettersR s)))) || bB (lettersR (bS (lettersR s))) || !(unqR (bS (lettersR (bS (lettersR s))))).2.2)) || bB ((unqR (bS (lettersR (bS (lettersR s))))).2.1)))))) && (decide (lettersR (bS ((unqR (bS (lettersR (bS (lettersR s))))).2.1)) = ([] : List UInt8)))))) rfl (by kernel_rfl) (by kernel_rfl) (by kernel_rfl) hQ163 rfl rfl (fun w_ hS_ => (r_pick rfl rfl (pick_and _ _))) (Fr.refl [k1] w160) ?_
              have hb167 := (f161.at0 (p140.fr.at (h135f.at (h129f.at (p124.fr.at (h119f.at (h30f.at (h24f.at (p19.fr.at (n16.fr.at0 (h11f.at (n6.fr.at0 n3.at_) (by simp only [List.mem_singleton]; omega))) (by simp only [List.mem_singleton]; omega)) (by simp only [List.mem_singleton]; omega)) (by simp only [List.mem_singleton]; omega)) (by simp only [List.mem_singleton]; omega)) (by simp only [List.mem_singleton]; omega)) (by simp only [List.mem_singleton]; omega)) (by simp only [List.mem_singleton]; omega)) (by simp only [List.mem_singleton]; omega)))
              refine h_store (i := 13) (by kernel_rfl) rfl rfl rfl rfl (g := k1) (off := 0) (v := .agg #[.int .i64 (kindR (lettersW s)), .int .i64 0, .int .i64 0, .int .i64 0, .slice h119A ((unqR (bS (lettersR (bS (lettersR s))))).1.length) h119c, .bool (decide (lettersW (bS ((unqR (bS (lettersR (bS (lettersR s))))).2.1)) = ([101, 110, 100, 101, 100] : List UInt8)))]) (arr := #[.int .i64 (kindR (lettersW s)), .int .i64 0, .int .i64 0, .int .i64 0, .slice h119A ((unqR (bS (lettersR (bS (lettersR s))))).1.length) h119c, .bool (decide (lettersW (bS ((unqR (bS (lettersR (bS (lettersR s))))).2.1)) = ([101, 110, 100, 101, 100] : List UInt8)))]) rfl rfl (by kernel_rfl) hb167 rfl (by simp [Value.cells, Value.oneCell']) rfl (fun w168 p169 => ⟨(Fr.refl [k1] w160).trans (p169.fr.mono (by simp)), ?_⟩)
              have p169z := p169.sz
              refine h_take (i := 14) (v := .bool ((((!((((((((((false || decide (kindOf (lettersW s) < 1))) || bB (lettersR s)))) || bB (lettersR (bS (lettersR s))) || !(unqR (bS (lettersR (bS (lettersR s))))).2.2)) || bB ((unqR (bS (lettersR (bS (lettersR s))))).2.1)))))) && (decide (lettersR (bS ((unqR (bS (lettersR (bS (lettersR s))))).2.1)) = ([] : List UInt8)))))) rfl (by kernel_rfl) (by kernel_rfl) (by kernel_rfl) hQ163 rfl rfl (fun w_ hS_ => (by kernel_rfl)) ((Fr.refl [k1] w160).trans (p169.fr.mono (by simp))) ?_
              refine wpAnyH_done (by kernel_rfl) ?_ _
              refine n_then ?_
              refine wp_ret ?_
              have hb170 := (p169.fr.at hb165 (by simp only [List.mem_singleton]; omega))
              have hb171 := (p169.fr.at hb166 (by simp only [List.mem_singleton]; omega))
              have hd172 := ((((((h119B.fr p124.fr (by intro g_ hg_; have hg2_ : w32.heap.size ≤ g_ := hg_; simp only [List.mem_singleton]; omega)).fr h129f (by intro g_ hg_; have hg2_ : w32.heap.size ≤ g_ := hg_; simp only [List.mem_singleton]; omega)).fr h135f (by intro g_ hg_; have hg2_ : w32.heap.size ≤ g_ := hg_; simp only [List.mem_singleton]; omega)).fr p140.fr (by intro g_ hg_; have hg2_ : w32.heap.size ≤ g_ := hg_; simp only [List.mem_singleton]; omega)).fr0 f161).fr p169.fr (by intro g_ hg_; have hg2_ : w32.heap.size ≤ g_ := hg_; simp only [List.mem_singleton]; omega))
              have hK173 : RwK (fun b => w32.heap.size ≤ b) w168 [.int .i64 (kindR (lettersW s)), .int .i64 0, .int .i64 0, .int .i64 0, .slice h119A ((unqR (bS (lettersR (bS (lettersR s))))).1.length) h119c, .bool (decide (lettersW (bS ((unqR (bS (lettersR (bS (lettersR s))))).2.1)) = ([101, 110, 100, 101, 100] : List UInt8)))] (⟨kindR (lettersW s), 0, 0, 0, (unqR (bS (lettersR (bS (lettersR s))))).1, decide (lettersW (bS ((unqR (bS (lettersR (bS (lettersR s))))).2.1)) = ([101, 110, 100, 101, 100] : List UInt8))⟩ : Rw) := rwK_mk hd172 (by unfold i64; omega) (by unfold i64; omega) (by unfold i64; omega) (by unfold i64; omega) (by (try simp only [List.length_nil]); omega)
              have hfin : Fin s ((((!((((((((((false || decide (kindOf (lettersW s) < 1))) || bB (lettersR s)))) || bB (lettersR (bS (lettersR s))) || !(unqR (bS (lettersR (bS (lettersR s))))).2.2)) || bB ((unqR (bS (lettersR (bS (lettersR s))))).2.1)))))) && (decide (lettersR (bS ((unqR (bS (lettersR (bS (lettersR s))))).2.1)) = ([] : List UInt8))))) (⟨kindR (lettersW s), 0, 0, 0, (unqR (bS (lettersR (bS (lettersR s))))).1, decide (lettersW (bS ((unqR (bS (lettersR (bS (lettersR s))))).2.1)) = ([101, 110, 100, 101, 100] : List UInt8))⟩ : Rw) := by
                obtain ⟨ho_, hbad_⟩ := hc57
                have h1_ : ¬ kindOf (lettersW s) < 1 := by first | exact hbad_.1 | (simp at hbad_; omega)
                have h2_ : bB (lettersR s) = false := by first | exact hbad_.2 | (simp at hbad_; exact hbad_.2)
                have h_ := fin_k2 (s := s) (s4 := ((unqR (bS (lettersR (bS (lettersR s))))).2.1)) rfl rfl h1_ h2_ (show lettersW (bS (lettersR s)) = okW from ho_) hc115 (by have hq_ := hc141; by_cases he_ : lettersW (bS ((unqR (bS (lettersR (bS (lettersR s))))).2.1)) = endedW; exact .inl he_; right; rcases hq_ with hq_ | hq_; exact absurd hq_ he_; exact hq_)
                have e1_ := h_.1
                have e2_ := h_.2
                refine ⟨?_, e2_⟩
                rw [← e1_]
                simp [h1_, h2_, Bool.or_assoc]
              have hfp := hfin.parse hl
              have hE174 : Fr [] w w168 := (Fr.step (hE164.trans f161) p169.fr (by intro k_ hk_; simp only [List.mem_singleton] at hk_; omega))
              have hE174z := hE174.size
              exact end_ret (v := .tuple #[.agg #[.int .i64 (kindR (lettersW s)), .int .i64 0, .int .i64 0, .int .i64 0, .slice h119A ((unqR (bS (lettersR (bS (lettersR s))))).1.length) h119c, .bool (decide (lettersW (bS ((unqR (bS (lettersR (bS (lettersR s))))).2.1)) = ([101, 110, 100, 101, 100] : List UInt8)))], .bool ((((!((((((((((false || decide (kindOf (lettersW s) < 1))) || bB (lettersR s)))) || bB (lettersR (bS (lettersR s))) || !(unqR (bS (lettersR (bS (lettersR s))))).2.2)) || bB ((unqR (bS (lettersR (bS (lettersR s))))).2.1)))))) && (decide (lettersR (bS ((unqR (bS (lettersR (bS (lettersR s))))).2.1)) = ([] : List UInt8)))))]) (resn2 rfl (rv_row rfl (cs := [.int .i64 (kindR (lettersW s)), .int .i64 0, .int .i64 0, .int .i64 0, .slice h119A ((unqR (bS (lettersR (bS (lettersR s))))).1.length) h119c, .bool (decide (lettersW (bS ((unqR (bS (lettersR (bS (lettersR s))))).2.1)) = ([101, 110, 100, 101, 100] : List UInt8)))]) Tryz.underlying54 rfl (by kernel_rfl) (range_at p169.at_ rfl)) (rv_tmp rfl)) ⟨_, rfl, ⟨[.int .i64 (kindR (lettersW s)), .int .i64 0, .int .i64 0, .int .i64 0, .slice h119A ((unqR (bS (lettersR (bS (lettersR s))))).1.length) h119c, .bool (decide (lettersW (bS ((unqR (bS (lettersR (bS (lettersR s))))).2.1)) = ([101, 110, 100, 101, 100] : List UInt8)))], (⟨kindR (lettersW s), 0, 0, 0, (unqR (bS (lettersR (bS (lettersR s))))).1, decide (lettersW (bS ((unqR (bS (lettersR (bS (lettersR s))))).2.1)) = ([101, 110, 100, 101, 100] : List UInt8))⟩ : Rw), Rp.rw.weak hK173 (fun g_ _ hg_ => by have hg2_ : w32.heap.size ≤ g_ := hg_; show w.heap.size ≤ g_; omega), (by first | (rw [← hfp.1]; done) | (rw [← hfp.1]; rfl)), hfp.2, hE174⟩⟩
          · try simp only [decide_eq_true_eq, decide_eq_false_iff_not, Bool.and_eq_true, Bool.or_eq_true, Bool.and_eq_false_iff, Bool.or_eq_false_iff, Bool.not_eq_true', Bool.not_eq_false', beq_iff_eq, bne_iff_ne, ne_eq, beq_eq_false_iff_ne, bne_eq_false_iff_eq, gt_iff_lt, ge_iff_le, Int.not_lt, Int.not_le] at hc115
            refine wp_skip ?_
            refine n_block ?_
            refine n_then ?_
            refine wp_seq ?_
            have hE179 : Fr [] w w32 := (Fr.step (Fr.step (Fr.step (hE17.trans n16.fr) p19.fr (by intro k_ hk_; simp only [List.mem_singleton] at hk_; omega)) h24f (by intro k_ hk_; simp only [List.mem_singleton] at hk_; omega)) h30f (by intro k_ hk_; simp only [List.mem_singleton] at hk_; omega))
            have hE179z := hE179.size
            refine h_start' (fun w0_ w_ => Fr [k1] w0_ w_) hmix (fun _ _ _ _ _ h => h) (fun w175 f176 hQ178 => ?_)
            have f176z := f176.size
            have hb180 := (f176.at0 hb66)
            refine h_take (i := 0) (v := .agg #[.int .i64 (kindR (lettersW s)), .int .i64 0, .int .i64 0, .int .i64 0, .slice none 0 0, .bool false]) rfl (by kernel_rfl) (by kernel_rfl) (by kernel_rfl) hQ178 rfl rfl (fun w_ hS_ => (r_loads (cs := [.int .i64 (kindR (lettersW s)), .int .i64 0, .int .i64 0, .int .i64 0, .slice none 0 0, .bool false]) rfl rfl Tryz.underlying54 rfl (by kernel_rfl) (range_at (hS_.at hb180 (by simp; omega)) rfl))) (Fr.refl [k1] w175) ?_
            refine h_take (i := 1) (v := .pointer (some ⟨k4, 0, none⟩)) rfl (by kernel_rfl) (by kernel_rfl) (by kernel_rfl) hQ178 rfl rfl (fun w_ hS_ => (by kernel_rfl)) (Fr.refl [k1] w175) ?_
            refine h_take (i := 2) (v := .pointer (some ⟨k4, 0, none⟩)) rfl (by kernel_rfl) (by kernel_rfl) (by kernel_rfl) hQ178 rfl rfl (fun w_ hS_ => (by kernel_rfl)) (Fr.refl [k1] w175) ?_
            refine h_take (i := 3) (v := .pointer (some ⟨k4, 1, none⟩)) rfl (by kernel_rfl) (by kernel_rfl) (by kernel_rfl) hQ178 rfl rfl (fun w_ hS_ => (r_field rfl rfl Tryz.underlying96 rfl (by kernel_rfl) rfl)) (Fr.refl [k1] w175) ?_
            have hb181 := (f176.at0 h30b)
            refine h_take (i := 4) (v := .bool (((((false || decide (kindOf (lettersW s) < 1))) || bB (lettersR s))))) rfl (by kernel_rfl) (by kernel_rfl) (by kernel_rfl) hQ178 rfl rfl (fun w_ hS_ => (r_load rfl rfl Tryz.underlying4 rfl (cell_at (hS_.at hb181 (by simp; omega)) rfl))) (Fr.refl [k1] w175) ?_
            refine h_take (i := 5) (v := .bool ((!(((((false || decide (kindOf (lettersW s) < 1))) || bB (lettersR s))))))) rfl (by kernel_rfl) (by kernel_rfl) (by kernel_rfl) hQ178 rfl rfl (fun w_ hS_ => (by kernel_rfl)) (Fr.refl [k1] w175) ?_
            refine h_take (i := 6) (v := .bool ((!(((((false || decide (kindOf (lettersW s) < 1))) || bB (lettersR s))))))) rfl (by kernel_rfl) (by kernel_rfl) (by kernel_rfl) hQ178 rfl rfl (fun w_ hS_ => (by kernel_rfl)) (Fr.refl [k1] w175) ?_
            refine h_takeg (i := 7) (v := .pointer (some ⟨k4, 0, none⟩)) rfl (by kernel_rfl) (by kernel_rfl) (by kernel_rfl) hQ178 (want_1 rfl rfl rfl rfl) rfl (fun hW_ w_ hS_ => (by kernel_rfl)) (Fr.refl [k1] w175) ?_
            refine h_takeg (i := 8) (v := .pointer (some ⟨k4, 0, none⟩)) rfl (by kernel_rfl) (by kernel_rfl) (by kernel_rfl) hQ178 (want_1 rfl rfl rfl rfl) rfl (fun hW_ w_ hS_ => (r_nil rfl (gd_true hW_ _))) (Fr.refl [k1] w175) ?_
            refine h_takeg (i := 9) (v := .pointer (some ⟨k4, 0, none⟩)) rfl (by kernel_rfl) (by kernel_rfl) (by kernel_rfl) hQ178 (want_1 rfl rfl rfl rfl) rfl (fun hW_ w_ hS_ => (r_field rfl (gd_true hW_ _) Tryz.underlying96 rfl (by kernel_rfl) rfl)) (Fr.refl [k1] w175) ?_
            refine h_takeg (i := 10) (v := .string ⟨(lettersR (bS (lettersR s))).toArray⟩) rfl (by kernel_rfl) (by kernel_rfl) (by kernel_rfl) hQ178 (want_1 rfl rfl rfl rfl) rfl (fun hW_ w_ hS_ => (r_load rfl (gd_true hW_ _) Tryz.underlying9 rfl (cell_at (hS_.at hb181 (by simp; omega)) rfl))) (Fr.refl [k1] w175) ?_
            refine h_takeg (i := 11) (v := .bool (decide (lettersR (bS (lettersR s)) = ([] : List UInt8)))) rfl (by kernel_rfl) (by kernel_rfl) (by kernel_rfl) hQ178 (want_1 rfl rfl rfl rfl) rfl (fun hW_ w_ hS_ => (r_str_eql rfl (gd_true hW_ _) rfl)) (Fr.refl [k1] w175) ?_
            refine h_take (i := 12) (v := .bool ((((!(((((false || decide (kindOf (lettersW s) < 1))) || bB (lettersR s)))))) && (decide (lettersR (bS (lettersR s)) = ([] : List UInt8)))))) rfl (by kernel_rfl) (by kernel_rfl) (by kernel_rfl) hQ178 rfl rfl (fun w_ hS_ => (r_pick rfl rfl (pick_and _ _))) (Fr.refl [k1] w175) ?_
            have hb182 := (f176.at0 (h30f.at (h24f.at (p19.fr.at (n16.fr.at0 (h11f.at (n6.fr.at0 n3.at_) (by simp only [List.mem_singleton]; omega))) (by simp only [List.mem_singleton]; omega)) (by simp only [List.mem_singleton]; omega)) (by simp only [List.mem_singleton]; omega)))
            refine h_store (i := 13) (by kernel_rfl) rfl rfl rfl rfl (g := k1) (off := 0) (v := .agg #[.int .i64 (kindR (lettersW s)), .int .i64 0, .int .i64 0, .int .i64 0, .slice none 0 0, .bool false]) (arr := #[.int .i64 (kindR (lettersW s)), .int .i64 0, .int .i64 0, .int .i64 0, .slice none 0 0, .bool false]) rfl rfl (by kernel_rfl) hb182 rfl (by simp [Value.cells, Value.oneCell']) rfl (fun w183 p184 => ⟨(Fr.refl [k1] w175).trans (p184.fr.mono (by simp)), ?_⟩)
            have p184z := p184.sz
            refine h_take (i := 14) (v := .bool ((((!(((((false || decide (kindOf (lettersW s) < 1))) || bB (lettersR s)))))) && (decide (lettersR (bS (lettersR s)) = ([] : List UInt8)))))) rfl (by kernel_rfl) (by kernel_rfl) (by kernel_rfl) hQ178 rfl rfl (fun w_ hS_ => (by kernel_rfl)) ((Fr.refl [k1] w175).trans (p184.fr.mono (by simp))) ?_
            refine wpAnyH_done (by kernel_rfl) ?_ _
            refine n_then ?_
            refine wp_ret ?_
            have hb185 := (p184.fr.at hb180 (by simp only [List.mem_singleton]; omega))
            have hb186 := (p184.fr.at hb181 (by simp only [List.mem_singleton]; omega))
            have hK187 : RwK (fun b => w183.heap.size ≤ b) w183 [.int .i64 (kindR (lettersW s)), .int .i64 0, .int .i64 0, .int .i64 0, .slice none 0 0, .bool false] (⟨kindR (lettersW s), 0, 0, 0, [], false⟩ : Rw) := rwK_mk (Sl.nil _ _ _) (by unfold i64; omega) (by unfold i64; omega) (by unfold i64; omega) (by unfold i64; omega) (by (try simp only [List.length_nil]); omega)
            have hfin : Fin s ((((!(((((false || decide (kindOf (lettersW s) < 1))) || bB (lettersR s)))))) && (decide (lettersR (bS (lettersR s)) = ([] : List UInt8))))) (⟨kindR (lettersW s), 0, 0, 0, [], false⟩ : Rw) := by
              obtain ⟨ho_, hbad_⟩ := hc57
              have h1_ : ¬ kindOf (lettersW s) < 1 := by first | exact hbad_.1 | (simp at hbad_; omega)
              have h2_ : bB (lettersR s) = false := by first | exact hbad_.2 | (simp at hbad_; exact hbad_.2)
              have h_ := fin_bare (s := s) rfl h1_ h2_ (show lettersW (bS (lettersR s)) = okW from ho_) ⟨hc67, hc91, hc115⟩
              have e1_ := h_.1
              have e2_ := h_.2
              refine ⟨?_, e2_⟩
              rw [← e1_]
              simp [h1_, h2_, Bool.or_assoc]
            have hfp := hfin.parse hl
            have hE188 : Fr [] w w183 := (Fr.step (hE179.trans f176) p184.fr (by intro k_ hk_; simp only [List.mem_singleton] at hk_; omega))
            have hE188z := hE188.size
            exact end_ret (v := .tuple #[.agg #[.int .i64 (kindR (lettersW s)), .int .i64 0, .int .i64 0, .int .i64 0, .slice none 0 0, .bool false], .bool ((((!(((((false || decide (kindOf (lettersW s) < 1))) || bB (lettersR s)))))) && (decide (lettersR (bS (lettersR s)) = ([] : List UInt8)))))]) (resn2 rfl (rv_row rfl (cs := [.int .i64 (kindR (lettersW s)), .int .i64 0, .int .i64 0, .int .i64 0, .slice none 0 0, .bool false]) Tryz.underlying54 rfl (by kernel_rfl) (range_at p184.at_ rfl)) (rv_tmp rfl)) ⟨_, rfl, ⟨[.int .i64 (kindR (lettersW s)), .int .i64 0, .int .i64 0, .int .i64 0, .slice none 0 0, .bool false], (⟨kindR (lettersW s), 0, 0, 0, [], false⟩ : Rw), Rp.rw.weak hK187 (fun g_ _ hg_ => by have hg2_ : w183.heap.size ≤ g_ := hg_; show w.heap.size ≤ g_; omega), (by first | (rw [← hfp.1]; done) | (rw [← hfp.1]; rfl)), hfp.2, hE188⟩⟩

end Go.Proofs.YtmhljojgdfmjaaaGreatDoor
