/- walks -/
import Derived.Test.YtmhljojgdfmjaaaGreatDoorLa3
import Derived.Test.YtmhljojgdfmjaaaGreatDoorLa4
import Derived.Test.YtmhljojgdfmjaaaGreatDoorPlain
namespace Go.Proofs.YtmhljojgdfmjaaaGreatDoor
open Go.E
set_option linter.unusedVariables false
set_option linter.unusedSimpArgs false
set_option maxRecDepth 100000
set_option maxHeartbeats 1000000
open Go.Sh
set_option maxHeartbeats 8000000
/-- law31.ShellJoins -/
theorem joins_calls (w : World) (hg : Glob w) (s t : List UInt8) (hl : s.length + t.length ≤ 1048576) :
    Does Tryz.prog 5 #[.string ⟨(s).toArray⟩, .string ⟨(t).toArray⟩] w fun r w' => r = .bool true ∧ Fr [] w w' := by
  have hgz := hg.sz
  refine Does.of (fn_in (l := [.string ⟨(s).toArray⟩, .string ⟨(t).toArray⟩]) Tryz.func5 rfl Tryz.ntmps5 rfl ?_)
  refine wp_seq ?_
  refine r_start ?_
  refine l_v (v := .bool false) rfl rfl (by kernel_rfl) ?_
  refine l_nil ?_
  refine n_then ?_
  refine wp_seq ?_
  refine r_start ?_
  refine l_v (v := .string ⟨(s).toArray⟩) rfl rfl (by kernel_rfl) ?_
  refine l_call rfl rfl (r_call (args := #[.string ⟨(s).toArray⟩]) rfl e14 (am rfl)) (Parse_calls w hg s (by first | omega | (rw [List.length_append]; omega))) (fun v2 w3 h1 => ?_)
  have h1len := parse_len (f := parseEv) s
  have h1num := parse_num (f := parseEv) s
  obtain ⟨X4, hX4⟩ : ∃ x_, parseT parseEv s = x_ := ⟨_, rfl⟩
  rw [hX4] at h1 h1len h1num
  obtain ⟨h1v, rfl, h1s, h1f⟩ := h1
  have h1z := h1f.size
  obtain ⟨h1sA, h1sc, rfl, h1sl, h1sE⟩ := id h1s
  refine l_v (v := .tuple #[.slice h1sA ((X4.1).length) h1sc, .int .i64 X4.2.1, .int .i64 X4.2.2]) rfl rfl (by kernel_rfl) ?_
  refine l_v (v := .slice h1sA ((X4.1).length) h1sc) rfl rfl (by kernel_rfl) ?_
  refine l_v (v := .int .i64 X4.2.1) rfl rfl (by kernel_rfl) ?_
  refine l_v (v := .int .i64 X4.2.2) rfl rfl (by kernel_rfl) ?_
  refine l_v (v := .slice h1sA ((X4.1).length) h1sc) rfl rfl (by kernel_rfl) ?_
  refine l_v (v := .int .i64 X4.2.1) rfl rfl (by kernel_rfl) ?_
  refine l_v (v := .int .i64 X4.2.2) rfl rfl (by kernel_rfl) ?_
  refine l_nil ?_
  refine n_then ?_
  refine wp_seq ?_
  refine r_start ?_
  refine l_v (v := .string ⟨(t).toArray⟩) rfl rfl (by kernel_rfl) ?_
  have hE5 : Fr [] w w3 := ((Fr.refl [] w).trans h1f)
  have hE5z := hE5.size
  have hd6 := hg.fr0 hE5
  refine l_call rfl rfl (r_call (args := #[.string ⟨(t).toArray⟩]) rfl e14 (am rfl)) (Parse_calls w3 hd6 t (by first | omega | (rw [List.length_append]; omega))) (fun v8 w9 h7 => ?_)
  have h7len := parse_len (f := parseEv) t
  have h7num := parse_num (f := parseEv) t
  obtain ⟨X10, hX10⟩ : ∃ x_, parseT parseEv t = x_ := ⟨_, rfl⟩
  rw [hX10] at h7 h7len h7num
  obtain ⟨h7v, rfl, h7s, h7f⟩ := h7
  have h7z := h7f.size
  obtain ⟨h7sA, h7sc, rfl, h7sl, h7sE⟩ := id h7s
  refine l_v (v := .tuple #[.slice h7sA ((X10.1).length) h7sc, .int .i64 X10.2.1, .int .i64 X10.2.2]) rfl rfl (by kernel_rfl) ?_
  refine l_v (v := .slice h7sA ((X10.1).length) h7sc) rfl rfl (by kernel_rfl) ?_
  refine l_v (v := .int .i64 X10.2.1) rfl rfl (by kernel_rfl) ?_
  refine l_v (v := .int .i64 X10.2.2) rfl rfl (by kernel_rfl) ?_
  refine l_v (v := .slice h7sA ((X10.1).length) h7sc) rfl rfl (by kernel_rfl) ?_
  refine l_v (v := .int .i64 X10.2.1) rfl rfl (by kernel_rfl) ?_
  refine l_v (v := .int .i64 X10.2.2) rfl rfl (by kernel_rfl) ?_
  refine l_nil ?_
  refine n_then ?_
  refine wp_seq ?_
  refine r_start ?_
  refine l_v (v := .string ⟨(s).toArray⟩) rfl rfl (by kernel_rfl) ?_
  refine l_v (v := .string ⟨(t).toArray⟩) rfl rfl (by kernel_rfl) ?_
  refine l_v (v := .string ⟨(s ++ t).toArray⟩) rfl rfl (r_str_add rfl rfl rfl (by (try simp only [List.length_append, List.length_cons, List.length_nil]); omega)) ?_
  have hE11 : Fr [] w w9 := (hE5.trans h7f)
  have hE11z := hE11.size
  have hd12 := hg.fr0 hE11
  refine l_call rfl rfl (r_call (args := #[.string ⟨(s ++ t).toArray⟩]) rfl e14 (am rfl)) (Parse_calls w9 hd12 (s ++ t) (by first | omega | (rw [List.length_append]; omega))) (fun v14 w15 h13 => ?_)
  have h13len := parse_len (f := parseEv) (s ++ t)
  have h13num := parse_num (f := parseEv) (s ++ t)
  simp only [List.length_append] at h13len h13num
  obtain ⟨X16, hX16⟩ : ∃ x_, parseT parseEv (s ++ t) = x_ := ⟨_, rfl⟩
  rw [hX16] at h13 h13len h13num
  obtain ⟨h13v, rfl, h13s, h13f⟩ := h13
  have h13z := h13f.size
  obtain ⟨h13sA, h13sc, rfl, h13sl, h13sE⟩ := id h13s
  refine l_v (v := .tuple #[.slice h13sA ((X16.1).length) h13sc, .int .i64 X16.2.1, .int .i64 X16.2.2]) rfl rfl (by kernel_rfl) ?_
  refine l_v (v := .slice h13sA ((X16.1).length) h13sc) rfl rfl (by kernel_rfl) ?_
  refine l_v (v := .int .i64 X16.2.1) rfl rfl (by kernel_rfl) ?_
  refine l_v (v := .int .i64 X16.2.2) rfl rfl (by kernel_rfl) ?_
  refine l_v (v := .slice h13sA ((X16.1).length) h13sc) rfl rfl (by kernel_rfl) ?_
  refine l_v (v := .int .i64 X16.2.1) rfl rfl (by kernel_rfl) ?_
  refine l_v (v := .int .i64 X16.2.2) rfl rfl (by kernel_rfl) ?_
  refine l_nil ?_
  refine n_then ?_
  refine c_cut (fun a_ w_ => ∃ u_ : Nat → Value, a_ = mk [] 141 u_ [(0, .string ⟨(s).toArray⟩), (1, .string ⟨(t).toArray⟩), (5, .slice h1sA ((X4.1).length) h1sc), (6, .int .i64 X4.2.1), (7, .int .i64 X4.2.2), (8, .slice h7sA ((X10.1).length) h7sc), (9, .int .i64 X10.2.1), (10, .int .i64 X10.2.2), (11, .slice h13sA ((X16.1).length) h13sc), (12, .int .i64 X16.2.1), (13, .int .i64 X16.2.2), (18, .tuple #[.slice h1sA ((X4.1).length) h1sc, .int .i64 X4.2.1, .int .i64 X4.2.2]), (19, .string ⟨(s).toArray⟩), (20, .tuple #[.slice h1sA ((X4.1).length) h1sc, .int .i64 X4.2.1, .int .i64 X4.2.2]), (21, .slice h1sA ((X4.1).length) h1sc), (22, .int .i64 X4.2.1), (23, .int .i64 X4.2.2), (24, .tuple #[.slice h7sA ((X10.1).length) h7sc, .int .i64 X10.2.1, .int .i64 X10.2.2]), (25, .string ⟨(t).toArray⟩), (26, .tuple #[.slice h7sA ((X10.1).length) h7sc, .int .i64 X10.2.1, .int .i64 X10.2.2]), (27, .slice h7sA ((X10.1).length) h7sc), (28, .int .i64 X10.2.1), (29, .int .i64 X10.2.2), (30, .tuple #[.slice h13sA ((X16.1).length) h13sc, .int .i64 X16.2.1, .int .i64 X16.2.2]), (31, .string ⟨(s).toArray⟩), (32, .string ⟨(t).toArray⟩), (33, .string ⟨(s ++ t).toArray⟩), (34, .tuple #[.slice h13sA ((X16.1).length) h13sc, .int .i64 X16.2.1, .int .i64 X16.2.2]), (35, .slice h13sA ((X16.1).length) h13sc), (36, .int .i64 X16.2.1), (37, .int .i64 X16.2.2)] ∧ Fr [] w w_) ?_ ?_
  · refine wp_seq ?_
    refine r_start ?_
    refine l_v (v := .int .i64 X4.2.2) rfl rfl (by kernel_rfl) ?_
    refine l_v (v := .bool (X4.2.2 == (0 : Int))) rfl rfl (by kernel_rfl) ?_
    refine l_v (v := .bool (X4.2.2 == (0 : Int))) rfl rfl (by kernel_rfl) ?_
    refine l_g (v := .string ⟨(s).toArray⟩) (want_1 rfl rfl rfl rfl) rfl (fun hW_ => (by kernel_rfl)) ?_
    refine l_g (v := .int .i64 ((s).length : Int)) (want_1 rfl rfl rfl rfl) rfl (fun hW_ => (r_lens rfl (gd_true hW_ _) Tryz.underlying9)) ?_
    refine l_g (v := .string ⟨(t).toArray⟩) (want_1 rfl rfl rfl rfl) rfl (fun hW_ => (by kernel_rfl)) ?_
    refine l_g (v := .int .i64 ((t).length : Int)) (want_1 rfl rfl rfl rfl) rfl (fun hW_ => (r_lens rfl (gd_true hW_ _) Tryz.underlying9)) ?_
    refine l_g (v := .int .i64 (((s).length : Int) + ((t).length : Int))) (want_1 rfl rfl rfl rfl) rfl (fun hW_ => (r_add (r := ((s).length : Int) + ((t).length : Int)) rfl (gd_true hW_ _) (gd_true hW_ _) (by omega) (by simp only [min_i64]; omega) (by simp only [max_i64]; omega))) ?_
    refine l_g (v := .bool (decide ((((s).length : Int) + ((t).length : Int)) ≤ (65536 : Int)))) (want_1 rfl rfl rfl rfl) rfl (fun hW_ => (r_cmp rfl (gd_true hW_ _) rfl rfl)) ?_
    refine l_v (v := .bool (((X4.2.2 == (0 : Int)) && (decide ((((s).length : Int) + ((t).length : Int)) ≤ (65536 : Int)))))) rfl rfl (r_pick rfl rfl (pick_and _ _)) ?_
    refine l_nil ?_
    refine n_then ?_
    refine c_cond (e := ((X4.2.2 == (0 : Int)) && (decide ((((s).length : Int) + ((t).length : Int)) ≤ (65536 : Int))))) rfl (fun hc18 => ?_) (fun hc18 => ?_)
    · simp only [decide_eq_true_eq, Bool.and_eq_true, beq_iff_eq] at hc18
      have hlen_ : s.length + t.length ≤ 65536 := by omega
      replace hc18 := And.intro hc18.1 hlen_
      refine wp_seq ?_
      refine wp_seq ?_
      refine r_start ?_
      refine l_v (v := .int .i64 X10.2.2) rfl rfl (by kernel_rfl) ?_
      refine l_v (v := .bool (X10.2.2 == (0 : Int))) rfl rfl (by kernel_rfl) ?_
      refine l_v (v := .bool (X10.2.2 == (0 : Int))) rfl rfl (by kernel_rfl) ?_
      rcases Bool.eq_false_or_eq_true (X10.2.2 == (0 : Int)) with hs19 | hs19
      · refine l_wanted (want_1 rfl rfl rfl rfl) ((known_eq hs19 true).trans rfl) ?_
        refine l_v (v := .int .i64 X16.2.2) rfl rfl (by kernel_rfl) ?_
        refine l_wanted (want_1 rfl rfl rfl rfl) ((known_eq hs19 true).trans rfl) ?_
        refine l_v (v := .bool (X16.2.2 != (0 : Int))) rfl rfl (by kernel_rfl) ?_
        refine l_wanted (want_1 rfl rfl rfl rfl) ((known_eq hs19 true).trans rfl) ?_
        refine l_v (v := .bool (X16.2.2 != (0 : Int))) rfl rfl (by kernel_rfl) ?_
        rcases Bool.eq_false_or_eq_true (X16.2.2 != (0 : Int)) with hs20 | hs20
        · refine l_unwg (want_1 rfl rfl rfl rfl) ((known_eq hs20 false).trans rfl) rfl ?_
          refine l_unwg (want_1 rfl rfl rfl rfl) ((known_eq hs20 false).trans rfl) rfl ?_
          refine l_unwg (want_1 rfl rfl rfl rfl) ((known_eq hs20 false).trans rfl) rfl ?_
          refine l_unwg (want_1 rfl rfl rfl rfl) ((known_eq hs20 false).trans rfl) rfl ?_
          refine l_unwg (want_1 rfl rfl rfl rfl) ((known_eq hs20 false).trans rfl) rfl ?_
          refine l_unwg (want_1 rfl rfl rfl rfl) ((known_eq hs20 false).trans rfl) rfl ?_
          refine l_unwg (want_1 rfl rfl rfl rfl) ((known_eq hs20 false).trans rfl) rfl ?_
          refine l_unwg (want_1 rfl rfl rfl rfl) ((known_eq hs20 false).trans rfl) rfl ?_
          refine l_unwg (want_1 rfl rfl rfl rfl) ((known_eq hs20 false).trans rfl) rfl ?_
          refine l_wanted (want_1 rfl rfl rfl rfl) ((known_eq hs19 true).trans rfl) ?_
          refine l_v (v := .bool true) rfl rfl (r_pickT rfl rfl hs20 rfl) ?_
          refine l_v (v := .bool true) rfl rfl (r_pickT rfl rfl hs19 rfl) ?_
          refine l_nil ?_
          refine n_then ?_
          refine c_condT (e := true) rfl rfl ?_
          refine wp_seq ?_
          refine r_start ?_
          refine l_v (v := .bool false) rfl rfl (by kernel_rfl) ?_
          refine l_nil ?_
          refine n_then ?_
          refine wp_ret ?_
          refine t_then ?_
          refine t_then ?_
          exfalso
          have j0_ : X10.2.2 = 0 := by simpa using hs19
          have j1_ := join_ok (f := parseEv) (s := s) (t := t) hc18.2 (by rw [hX4]; exact hc18.1) (by rw [hX10]; exact j0_)
          rw [hX4, hX10, hX16] at j1_
          have j2_ := hs20
          rw [j1_.1] at j2_
          cases j2_
        · refine l_wanted (want_1 rfl rfl rfl rfl) ((known_eq hs20 false).trans rfl) ?_
          refine l_v (v := .slice h13sA ((X16.1).length) h13sc) rfl rfl (by kernel_rfl) ?_
          refine l_wanted (want_1 rfl rfl rfl rfl) ((known_eq hs20 false).trans rfl) ?_
          have hd22 := h1sE.fr0 (((Fr.refl [] w3).trans h7f).trans h13f)
          have hq21E : El Rp.ev (fun g => g < w15.heap.size) w15 h1sA X4.1 := El.weak hd22 (fun g hg_ _ => hg_)
          have hd24 := h7sE.fr0 ((Fr.refl [] w9).trans h13f)
          have hq23E : El Rp.ev (fun g => g < w15.heap.size) w15 h7sA X10.1 := El.weak hd24 (fun g hg_ _ => hg_)
          have hq25E : El Rp.ev (fun g => g < w15.heap.size) w15 h13sA X16.1 := El.weak h13sE (fun g hg_ _ => hg_)
          refine l_call rfl rfl (r_call (args := #[.slice h13sA ((X16.1).length) h13sc]) rfl e16 (am rfl)) (theirs_calls w15 _ _ X16.1 ⟨_, _, rfl, h13sl, hq25E⟩ (by omega)) (fun v27 w28 h26 => ?_)
          obtain ⟨h26o, h26f⟩ := h26
          have h26z := h26f.size
          have h26lt := OwnK.lt h26o
          refine l_wanted (want_1 rfl rfl rfl rfl) ((known_eq hs20 false).trans rfl) ?_
          refine l_v (v := .slice h1sA ((X4.1).length) h1sc) rfl rfl (by kernel_rfl) ?_
          refine l_wanted (want_1 rfl rfl rfl rfl) ((known_eq hs20 false).trans rfl) ?_
          have hd29 := hq21E.fr0 ((Fr.refl [] w15).trans h26f)
          refine l_call rfl rfl (r_call (args := #[.slice h1sA ((X4.1).length) h1sc]) rfl e16 (am rfl)) (theirs_calls w28 _ _ X4.1 ⟨_, _, rfl, h1sl, hd29⟩ (by omega)) (fun v31 w32 h30 => ?_)
          obtain ⟨h30o, h30f⟩ := h30
          have h30z := h30f.size
          have h30lt := OwnK.lt h30o
          refine l_wanted (want_1 rfl rfl rfl rfl) ((known_eq hs20 false).trans rfl) ?_
          refine l_v (v := .slice h7sA ((X10.1).length) h7sc) rfl rfl (by kernel_rfl) ?_
          refine l_wanted (want_1 rfl rfl rfl rfl) ((known_eq hs20 false).trans rfl) ?_
          have hd33 := hq23E.fr0 (((Fr.refl [] w15).trans h26f).trans h30f)
          refine l_call rfl rfl (r_call (args := #[.slice h7sA ((X10.1).length) h7sc]) rfl e16 (am rfl)) (theirs_calls w32 _ _ X10.1 ⟨_, _, rfl, h7sl, hd33⟩ (by omega)) (fun v35 w36 h34 => ?_)
          obtain ⟨h34o, h34f⟩ := h34
          have h34z := h34f.size
          have h34lt := OwnK.lt h34o
          refine l_wanted (want_1 rfl rfl rfl rfl) ((known_eq hs20 false).trans rfl) ?_
          have hd37 := h30o.fr0 ((Fr.refl [] w32).trans h34f)
          have hE43 : Fr [] w w36 := ((((hE11.trans h13f).trans h26f).trans h30f).trans h34f)
          have hE43z := hE43.size
          obtain ⟨css38, css381, css382, css383⟩ := OwnK.weak (ok' := fun g => g < w15.heap.size) hd37 (fun g _ h_ => h_.1)
          obtain ⟨dss39, dss391, dss392, dss393⟩ := OwnK.weak (ok' := fun g => g < w15.heap.size) h34o (fun g _ h_ => h_.1)
          refine l_append_row sl42 rfl rfl rfl rfl css382 rfl dss392 (OwnK.one dss391 dss393) (by omega) (by decide) (by omega) (fun v40 w41 a42 => ?_)
          have a42o := OwnK.join css381 css383 dss391 dss393 a42 (fun g hg_ hc_ => by have h1_ := (h30lt g hc_).1; have h2_ : g < w15.heap.size := hg_; omega)
          have a42z := a42.fr.size
          refine l_wanted (want_1 rfl rfl rfl rfl) ((known_eq hs20 false).trans rfl) ?_
          have hd44 := h26o.fr0 (Fr.step (((Fr.refl [] w28).trans h30f).trans h34f) a42.fr (own_ge css382 (by omega)))
          refine l_call rfl rfl (r_call (args := #[v27, v40]) rfl e15 (am rfl)) (events_calls w41 _ _ _ _ X16.1 (X4.1 ++ X10.1) (OwnK.sl hd44) (OwnK.sl a42o) (by omega) (by first | omega | (rw [List.length_append]; omega))) (fun v46 w47 h45 => ?_)
          obtain ⟨h45b, rfl, h45iff, h45f⟩ := h45
          have h45z := h45f.size
          refine l_wanted (want_1 rfl rfl rfl rfl) ((known_eq hs20 false).trans rfl) ?_
          refine l_v (v := .bool (!h45b)) rfl rfl (by kernel_rfl) ?_
          refine l_wanted (want_1 rfl rfl rfl rfl) ((known_eq hs19 true).trans rfl) ?_
          refine l_v (v := .bool (!h45b)) rfl rfl (r_pickF rfl rfl hs20 rfl) ?_
          refine l_v (v := .bool (!h45b)) rfl rfl (r_pickT rfl rfl hs19 rfl) ?_
          refine l_nil ?_
          refine n_then ?_
          refine c_cond (e := (!h45b)) rfl (fun hc48 => ?_) (fun hc48 => ?_)
          · try simp only [decide_eq_true_eq, decide_eq_false_iff_not, Bool.and_eq_true, Bool.or_eq_true, Bool.and_eq_false_iff, Bool.or_eq_false_iff, Bool.not_eq_true', Bool.not_eq_false', beq_iff_eq, bne_iff_ne, ne_eq, beq_eq_false_iff_ne, bne_eq_false_iff_eq, gt_iff_lt, ge_iff_le, Int.not_lt, Int.not_le] at hc48
            refine wp_seq ?_
            refine r_start ?_
            refine l_v (v := .bool false) rfl rfl (by kernel_rfl) ?_
            refine l_nil ?_
            refine n_then ?_
            refine wp_ret ?_
            refine t_then ?_
            refine t_then ?_
            exfalso
            have j0_ : X10.2.2 = 0 := by simpa using hs19
            have j1_ := join_ok (f := parseEv) (s := s) (t := t) hc18.2 (by rw [hX4]; exact hc18.1) (by rw [hX10]; exact j0_)
            rw [hX4, hX10, hX16] at j1_
            have j2_ := hc48
            have j3_ := h45iff.2 j1_.2
            rw [j3_] at j2_
            cases j2_
          · try simp only [decide_eq_true_eq, decide_eq_false_iff_not, Bool.and_eq_true, Bool.or_eq_true, Bool.and_eq_false_iff, Bool.or_eq_false_iff, Bool.not_eq_true', Bool.not_eq_false', beq_iff_eq, bne_iff_ne, ne_eq, beq_eq_false_iff_ne, bne_eq_false_iff_eq, gt_iff_lt, ge_iff_le, Int.not_lt, Int.not_le] at hc48
            refine wp_skip ?_
            refine n_then ?_
            refine wp_seq ?_
            refine r_start ?_
            refine l_v (v := .int .i64 X10.2.2) rfl rfl (by kernel_rfl) ?_
            refine l_v (v := .bool (X10.2.2 == (5 : Int))) rfl rfl (by kernel_rfl) ?_
            refine l_v (v := .bool (X10.2.2 == (5 : Int))) rfl rfl (by kernel_rfl) ?_
            refine l_g (v := .int .i64 X16.2.2) (want_1 rfl rfl rfl rfl) rfl (fun hW_ => (by kernel_rfl)) ?_
            refine l_g (v := .bool (X16.2.2 != (5 : Int))) (want_1 rfl rfl rfl rfl) rfl (fun hW_ => (r_cmp rfl (gd_true hW_ _) rfl rfl)) ?_
            refine l_g (v := .bool (X16.2.2 != (5 : Int))) (want_1 rfl rfl rfl rfl) rfl (fun hW_ => (r_mv rfl (gd_true hW_ _))) ?_
            refine l_g (v := .int .i64 X16.2.1) (want_of rfl rfl rfl rfl) rfl (fun hW_ => (by kernel_rfl)) ?_
            refine l_g (v := .slice h1sA ((X4.1).length) h1sc) (want_of rfl rfl rfl rfl) rfl (fun hW_ => (by kernel_rfl)) ?_
            refine l_g (v := .int .i64 ((((X4.1).length : Nat) : Int))) (want_of rfl rfl rfl rfl) rfl (fun hW_ => (r_len rfl (gd_true hW_ _) Tryz.underlying37)) ?_
            refine l_g (v := .int .i64 X10.2.1) (want_of rfl rfl rfl rfl) rfl (fun hW_ => (by kernel_rfl)) ?_
            refine l_g (v := .int .i64 (((((X4.1).length : Nat) : Int)) + X10.2.1)) (want_of rfl rfl rfl rfl) rfl (fun hW_ => (r_add (r := ((((X4.1).length : Nat) : Int)) + X10.2.1) rfl (gd_true hW_ _) (gd_true hW_ _) (by omega) (by simp only [min_i64]; omega) (by simp only [max_i64]; omega))) ?_
            refine l_g (v := .bool ((X16.2.1 != (((((X4.1).length : Nat) : Int)) + X10.2.1)))) (want_of rfl rfl rfl rfl) rfl (fun hW_ => (r_cmp rfl (gd_true hW_ _) (gd_true hW_ _) rfl)) ?_
            refine l_g (v := .bool (((X16.2.2 != (5 : Int)) || ((X16.2.1 != (((((X4.1).length : Nat) : Int)) + X10.2.1)))))) (want_1 rfl rfl rfl rfl) rfl (fun hW_ => (r_pick rfl (gd_true hW_ _) (pick_or' hW_ _ _))) ?_
            refine l_v (v := .bool (((X10.2.2 == (5 : Int)) && (((X16.2.2 != (5 : Int)) || ((X16.2.1 != (((((X4.1).length : Nat) : Int)) + X10.2.1)))))))) rfl rfl (r_pick rfl rfl (pick_and _ _)) ?_
            refine l_nil ?_
            refine n_then ?_
            refine c_cond (e := ((X10.2.2 == (5 : Int)) && (((X16.2.2 != (5 : Int)) || ((X16.2.1 != (((((X4.1).length : Nat) : Int)) + X10.2.1))))))) rfl (fun hc49 => ?_) (fun hc49 => ?_)
            · try simp only [decide_eq_true_eq, decide_eq_false_iff_not, Bool.and_eq_true, Bool.or_eq_true, Bool.and_eq_false_iff, Bool.or_eq_false_iff, Bool.not_eq_true', Bool.not_eq_false', beq_iff_eq, bne_iff_ne, ne_eq, beq_eq_false_iff_ne, bne_eq_false_iff_eq, gt_iff_lt, ge_iff_le, Int.not_lt, Int.not_le] at hc49
              refine wp_seq ?_
              refine r_start ?_
              refine l_v (v := .bool false) rfl rfl (by kernel_rfl) ?_
              refine l_nil ?_
              refine n_then ?_
              refine wp_ret ?_
              refine t_then ?_
              exfalso
              have j0_ : X10.2.2 = 0 := by simpa using hs19
              have j1_ := join_ok (f := parseEv) (s := s) (t := t) hc18.2 (by rw [hX4]; exact hc18.1) (by rw [hX10]; exact j0_)
              rw [hX4, hX10, hX16] at j1_
              have j2_ := hc49
              rw [j0_] at j2_
              simp at j2_
            · try simp only [decide_eq_true_eq, decide_eq_false_iff_not, Bool.and_eq_true, Bool.or_eq_true, Bool.and_eq_false_iff, Bool.or_eq_false_iff, Bool.not_eq_true', Bool.not_eq_false', beq_iff_eq, bne_iff_ne, ne_eq, beq_eq_false_iff_ne, bne_eq_false_iff_eq, gt_iff_lt, ge_iff_le, Int.not_lt, Int.not_le] at hc49
              refine wp_skip ?_
              refine n_then ?_
              have hE50 : Fr [] w w47 := ((Fr.step hE43 a42.fr (own_ge css382 (by omega))).trans h45f)
              have hE50z := hE50.size
              exact ⟨_, mk_eq (by kernel_rfl), hE50⟩
      · refine l_unwg (want_1 rfl rfl rfl rfl) ((known_eq hs19 true).trans rfl) rfl ?_
        refine l_unwg (want_1 rfl rfl rfl rfl) ((known_eq hs19 true).trans rfl) rfl ?_
        refine l_unwg (want_1 rfl rfl rfl rfl) ((known_eq hs19 true).trans rfl) rfl ?_
        refine l_unwg (want_of rfl rfl rfl rfl) (ga ((known_eq hs19 true).trans rfl)) rfl ?_
        refine l_unwg (want_of rfl rfl rfl rfl) (ga ((known_eq hs19 true).trans rfl)) rfl ?_
        refine l_unwg (want_of rfl rfl rfl rfl) (ga ((known_eq hs19 true).trans rfl)) rfl ?_
        refine l_unwg (want_of rfl rfl rfl rfl) (ga ((known_eq hs19 true).trans rfl)) rfl ?_
        refine l_unwg (want_of rfl rfl rfl rfl) (ga ((known_eq hs19 true).trans rfl)) rfl ?_
        refine l_unwg (want_of rfl rfl rfl rfl) (ga ((known_eq hs19 true).trans rfl)) rfl ?_
        refine l_unwg (want_of rfl rfl rfl rfl) (ga ((known_eq hs19 true).trans rfl)) rfl ?_
        refine l_unwg (want_of rfl rfl rfl rfl) (ga ((known_eq hs19 true).trans rfl)) rfl ?_
        refine l_unwg (want_of rfl rfl rfl rfl) (ga ((known_eq hs19 true).trans rfl)) rfl ?_
        refine l_unwg (want_1 rfl rfl rfl rfl) ((known_eq hs19 true).trans rfl) rfl ?_
        refine l_v (v := .bool false) rfl rfl (r_pickF rfl rfl hs19 rfl) ?_
        refine l_nil ?_
        refine n_then ?_
        refine c_condF (e := false) rfl rfl ?_
        refine wp_skip ?_
        refine n_then ?_
        refine wp_seq ?_
        refine r_start ?_
        refine l_v (v := .int .i64 X10.2.2) rfl rfl (by kernel_rfl) ?_
        refine l_v (v := .bool (X10.2.2 == (5 : Int))) rfl rfl (by kernel_rfl) ?_
        refine l_v (v := .bool (X10.2.2 == (5 : Int))) rfl rfl (by kernel_rfl) ?_
        refine l_g (v := .int .i64 X16.2.2) (want_1 rfl rfl rfl rfl) rfl (fun hW_ => (by kernel_rfl)) ?_
        refine l_g (v := .bool (X16.2.2 != (5 : Int))) (want_1 rfl rfl rfl rfl) rfl (fun hW_ => (r_cmp rfl (gd_true hW_ _) rfl rfl)) ?_
        refine l_g (v := .bool (X16.2.2 != (5 : Int))) (want_1 rfl rfl rfl rfl) rfl (fun hW_ => (r_mv rfl (gd_true hW_ _))) ?_
        refine l_g (v := .int .i64 X16.2.1) (want_of rfl rfl rfl rfl) rfl (fun hW_ => (by kernel_rfl)) ?_
        refine l_g (v := .slice h1sA ((X4.1).length) h1sc) (want_of rfl rfl rfl rfl) rfl (fun hW_ => (by kernel_rfl)) ?_
        refine l_g (v := .int .i64 ((((X4.1).length : Nat) : Int))) (want_of rfl rfl rfl rfl) rfl (fun hW_ => (r_len rfl (gd_true hW_ _) Tryz.underlying37)) ?_
        refine l_g (v := .int .i64 X10.2.1) (want_of rfl rfl rfl rfl) rfl (fun hW_ => (by kernel_rfl)) ?_
        refine l_g (v := .int .i64 (((((X4.1).length : Nat) : Int)) + X10.2.1)) (want_of rfl rfl rfl rfl) rfl (fun hW_ => (r_add (r := ((((X4.1).length : Nat) : Int)) + X10.2.1) rfl (gd_true hW_ _) (gd_true hW_ _) (by omega) (by simp only [min_i64]; omega) (by simp only [max_i64]; omega))) ?_
        refine l_g (v := .bool ((X16.2.1 != (((((X4.1).length : Nat) : Int)) + X10.2.1)))) (want_of rfl rfl rfl rfl) rfl (fun hW_ => (r_cmp rfl (gd_true hW_ _) (gd_true hW_ _) rfl)) ?_
        refine l_g (v := .bool (((X16.2.2 != (5 : Int)) || ((X16.2.1 != (((((X4.1).length : Nat) : Int)) + X10.2.1)))))) (want_1 rfl rfl rfl rfl) rfl (fun hW_ => (r_pick rfl (gd_true hW_ _) (pick_or' hW_ _ _))) ?_
        refine l_v (v := .bool (((X10.2.2 == (5 : Int)) && (((X16.2.2 != (5 : Int)) || ((X16.2.1 != (((((X4.1).length : Nat) : Int)) + X10.2.1)))))))) rfl rfl (r_pick rfl rfl (pick_and _ _)) ?_
        refine l_nil ?_
        refine n_then ?_
        refine c_cond (e := ((X10.2.2 == (5 : Int)) && (((X16.2.2 != (5 : Int)) || ((X16.2.1 != (((((X4.1).length : Nat) : Int)) + X10.2.1))))))) rfl (fun hc51 => ?_) (fun hc51 => ?_)
        · try simp only [decide_eq_true_eq, decide_eq_false_iff_not, Bool.and_eq_true, Bool.or_eq_true, Bool.and_eq_false_iff, Bool.or_eq_false_iff, Bool.not_eq_true', Bool.not_eq_false', beq_iff_eq, bne_iff_ne, ne_eq, beq_eq_false_iff_ne, bne_eq_false_iff_eq, gt_iff_lt, ge_iff_le, Int.not_lt, Int.not_le] at hc51
          refine wp_seq ?_
          refine r_start ?_
          refine l_v (v := .bool false) rfl rfl (by kernel_rfl) ?_
          refine l_nil ?_
          refine n_then ?_
          refine wp_ret ?_
          refine t_then ?_
          exfalso
          have j2_ := hc51
          try simp only [Bool.and_eq_true, beq_iff_eq] at j2_
          have j1_ := join_form (f := parseEv) (s := s) (t := t) hc18.2 (by rw [hX4]; exact hc18.1) (by rw [hX10]; exact j2_.1)
          rw [hX4, hX10, hX16] at j1_
          have j4_ := j2_.2
          simp [j1_.1, j1_.2] at j4_
        · try simp only [decide_eq_true_eq, decide_eq_false_iff_not, Bool.and_eq_true, Bool.or_eq_true, Bool.and_eq_false_iff, Bool.or_eq_false_iff, Bool.not_eq_true', Bool.not_eq_false', beq_iff_eq, bne_iff_ne, ne_eq, beq_eq_false_iff_ne, bne_eq_false_iff_eq, gt_iff_lt, ge_iff_le, Int.not_lt, Int.not_le] at hc51
          refine wp_skip ?_
          refine n_then ?_
          have hE52 : Fr [] w w15 := (hE11.trans h13f)
          have hE52z := hE52.size
          exact ⟨_, mk_eq (by kernel_rfl), hE52⟩
    · refine wp_skip ?_
      refine n_then ?_
      have hE53 : Fr [] w w15 := (hE11.trans h13f)
      have hE53z := hE53.size
      exact ⟨_, mk_eq (by kernel_rfl), hE53⟩
  rintro _ wj17 ⟨u_, rfl, hE54⟩
  have hE54z := hE54.size
  refine wp_seq ?_
  refine r_start ?_
  refine l_v (v := .string ⟨(s).toArray⟩) rfl rfl (by kernel_rfl) ?_
  have hd55 := hg.fr0 hE54
  refine l_call rfl rfl (r_call (args := #[.string ⟨(s).toArray⟩]) rfl e9 (am rfl)) (ParseRows_calls wj17 hd55 s (by first | omega | (rw [List.length_append]; omega))) (fun v57 w58 h56 => ?_)
  have h56len := parse_len (f := parseRw) s
  have h56num := parse_num (f := parseRw) s
  obtain ⟨X59, hX59⟩ : ∃ x_, parseT parseRw s = x_ := ⟨_, rfl⟩
  rw [hX59] at h56 h56len h56num
  obtain ⟨h56v, rfl, h56s, h56f⟩ := h56
  have h56z := h56f.size
  obtain ⟨h56sA, h56sc, rfl, h56sl, h56sE⟩ := id h56s
  refine l_v (v := .tuple #[.slice h56sA ((X59.1).length) h56sc, .int .i64 X59.2.1, .int .i64 X59.2.2]) rfl rfl (by kernel_rfl) ?_
  refine l_v (v := .slice h56sA ((X59.1).length) h56sc) rfl rfl (by kernel_rfl) ?_
  refine l_v (v := .int .i64 X59.2.1) rfl rfl (by kernel_rfl) ?_
  refine l_v (v := .int .i64 X59.2.2) rfl rfl (by kernel_rfl) ?_
  refine l_v (v := .slice h56sA ((X59.1).length) h56sc) rfl rfl (by kernel_rfl) ?_
  refine l_v (v := .int .i64 X59.2.1) rfl rfl (by kernel_rfl) ?_
  refine l_v (v := .int .i64 X59.2.2) rfl rfl (by kernel_rfl) ?_
  refine l_nil ?_
  refine n_then ?_
  refine wp_seq ?_
  refine r_start ?_
  refine l_v (v := .string ⟨(t).toArray⟩) rfl rfl (by kernel_rfl) ?_
  have hE60 : Fr [] w w58 := (hE54.trans h56f)
  have hE60z := hE60.size
  have hd61 := hg.fr0 hE60
  refine l_call rfl rfl (r_call (args := #[.string ⟨(t).toArray⟩]) rfl e9 (am rfl)) (ParseRows_calls w58 hd61 t (by first | omega | (rw [List.length_append]; omega))) (fun v63 w64 h62 => ?_)
  have h62len := parse_len (f := parseRw) t
  have h62num := parse_num (f := parseRw) t
  obtain ⟨X65, hX65⟩ : ∃ x_, parseT parseRw t = x_ := ⟨_, rfl⟩
  rw [hX65] at h62 h62len h62num
  obtain ⟨h62v, rfl, h62s, h62f⟩ := h62
  have h62z := h62f.size
  obtain ⟨h62sA, h62sc, rfl, h62sl, h62sE⟩ := id h62s
  refine l_v (v := .tuple #[.slice h62sA ((X65.1).length) h62sc, .int .i64 X65.2.1, .int .i64 X65.2.2]) rfl rfl (by kernel_rfl) ?_
  refine l_v (v := .slice h62sA ((X65.1).length) h62sc) rfl rfl (by kernel_rfl) ?_
  refine l_v (v := .int .i64 X65.2.1) rfl rfl (by kernel_rfl) ?_
  refine l_v (v := .int .i64 X65.2.2) rfl rfl (by kernel_rfl) ?_
  refine l_v (v := .slice h62sA ((X65.1).length) h62sc) rfl rfl (by kernel_rfl) ?_
  refine l_v (v := .int .i64 X65.2.1) rfl rfl (by kernel_rfl) ?_
  refine l_v (v := .int .i64 X65.2.2) rfl rfl (by kernel_rfl) ?_
  refine l_nil ?_
  refine n_then ?_
  refine wp_seq ?_
  refine r_start ?_
  refine l_v (v := .string ⟨(s).toArray⟩) rfl rfl (by kernel_rfl) ?_
  refine l_v (v := .string ⟨(t).toArray⟩) rfl rfl (by kernel_rfl) ?_
  refine l_v (v := .string ⟨(s ++ t).toArray⟩) rfl rfl (r_str_add rfl rfl rfl (by (try simp only [List.length_append, List.length_cons, List.length_nil]); omega)) ?_
  have hE66 : Fr [] w w64 := (hE60.trans h62f)
  have hE66z := hE66.size
  have hd67 := hg.fr0 hE66
  refine l_call rfl rfl (r_call (args := #[.string ⟨(s ++ t).toArray⟩]) rfl e9 (am rfl)) (ParseRows_calls w64 hd67 (s ++ t) (by first | omega | (rw [List.length_append]; omega))) (fun v69 w70 h68 => ?_)
  have h68len := parse_len (f := parseRw) (s ++ t)
  have h68num := parse_num (f := parseRw) (s ++ t)
  simp only [List.length_append] at h68len h68num
  obtain ⟨X71, hX71⟩ : ∃ x_, parseT parseRw (s ++ t) = x_ := ⟨_, rfl⟩
  rw [hX71] at h68 h68len h68num
  obtain ⟨h68v, rfl, h68s, h68f⟩ := h68
  have h68z := h68f.size
  obtain ⟨h68sA, h68sc, rfl, h68sl, h68sE⟩ := id h68s
  refine l_v (v := .tuple #[.slice h68sA ((X71.1).length) h68sc, .int .i64 X71.2.1, .int .i64 X71.2.2]) rfl rfl (by kernel_rfl) ?_
  refine l_v (v := .slice h68sA ((X71.1).length) h68sc) rfl rfl (by kernel_rfl) ?_
  refine l_v (v := .int .i64 X71.2.1) rfl rfl (by kernel_rfl) ?_
  refine l_v (v := .int .i64 X71.2.2) rfl rfl (by kernel_rfl) ?_
  refine l_v (v := .slice h68sA ((X71.1).length) h68sc) rfl rfl (by kernel_rfl) ?_
  refine l_v (v := .int .i64 X71.2.1) rfl rfl (by kernel_rfl) ?_
  refine l_v (v := .int .i64 X71.2.2) rfl rfl (by kernel_rfl) ?_
  refine l_nil ?_
  refine n_then ?_
  refine c_cut (fun a_ w_ => ∃ u_ : Nat → Value, a_ = mk [] 141 u_ [(0, .string ⟨(s).toArray⟩), (1, .string ⟨(t).toArray⟩), (5, .slice h1sA ((X4.1).length) h1sc), (6, .int .i64 X4.2.1), (7, .int .i64 X59.2.2), (8, .slice h7sA ((X10.1).length) h7sc), (9, .int .i64 X65.2.1), (10, .int .i64 X65.2.2), (11, .slice h13sA ((X16.1).length) h13sc), (12, .int .i64 X71.2.1), (13, .int .i64 X71.2.2), (14, .slice h56sA ((X59.1).length) h56sc), (15, .int .i64 X59.2.1), (16, .slice h62sA ((X65.1).length) h62sc), (17, .slice h68sA ((X71.1).length) h68sc), (18, .tuple #[.slice h1sA ((X4.1).length) h1sc, .int .i64 X4.2.1, .int .i64 X4.2.2]), (19, .string ⟨(s).toArray⟩), (20, .tuple #[.slice h1sA ((X4.1).length) h1sc, .int .i64 X4.2.1, .int .i64 X4.2.2]), (21, .slice h1sA ((X4.1).length) h1sc), (22, .int .i64 X4.2.1), (23, .int .i64 X4.2.2), (24, .tuple #[.slice h7sA ((X10.1).length) h7sc, .int .i64 X10.2.1, .int .i64 X10.2.2]), (25, .string ⟨(t).toArray⟩), (26, .tuple #[.slice h7sA ((X10.1).length) h7sc, .int .i64 X10.2.1, .int .i64 X10.2.2]), (27, .slice h7sA ((X10.1).length) h7sc), (28, .int .i64 X10.2.1), (29, .int .i64 X10.2.2), (30, .tuple #[.slice h13sA ((X16.1).length) h13sc, .int .i64 X16.2.1, .int .i64 X16.2.2]), (31, .string ⟨(s).toArray⟩), (32, .string ⟨(t).toArray⟩), (33, .string ⟨(s ++ t).toArray⟩), (34, .tuple #[.slice h13sA ((X16.1).length) h13sc, .int .i64 X16.2.1, .int .i64 X16.2.2]), (35, .slice h13sA ((X16.1).length) h13sc), (36, .int .i64 X16.2.1), (37, .int .i64 X16.2.2), (79, .tuple #[.slice h56sA ((X59.1).length) h56sc, .int .i64 X59.2.1, .int .i64 X59.2.2]), (80, .string ⟨(s).toArray⟩), (81, .tuple #[.slice h56sA ((X59.1).length) h56sc, .int .i64 X59.2.1, .int .i64 X59.2.2]), (82, .slice h56sA ((X59.1).length) h56sc), (83, .int .i64 X59.2.1), (84, .int .i64 X59.2.2), (85, .tuple #[.slice h62sA ((X65.1).length) h62sc, .int .i64 X65.2.1, .int .i64 X65.2.2]), (86, .string ⟨(t).toArray⟩), (87, .tuple #[.slice h62sA ((X65.1).length) h62sc, .int .i64 X65.2.1, .int .i64 X65.2.2]), (88, .slice h62sA ((X65.1).length) h62sc), (89, .int .i64 X65.2.1), (90, .int .i64 X65.2.2), (91, .tuple #[.slice h68sA ((X71.1).length) h68sc, .int .i64 X71.2.1, .int .i64 X71.2.2]), (92, .string ⟨(s).toArray⟩), (93, .string ⟨(t).toArray⟩), (94, .string ⟨(s ++ t).toArray⟩), (95, .tuple #[.slice h68sA ((X71.1).length) h68sc, .int .i64 X71.2.1, .int .i64 X71.2.2]), (96, .slice h68sA ((X71.1).length) h68sc), (97, .int .i64 X71.2.1), (98, .int .i64 X71.2.2)] ∧ Fr [] w w_) ?_ ?_
  · refine wp_seq ?_
    refine r_start ?_
    refine l_v (v := .int .i64 X59.2.2) rfl rfl (by kernel_rfl) ?_
    refine l_v (v := .bool (X59.2.2 == (0 : Int))) rfl rfl (by kernel_rfl) ?_
    refine l_v (v := .bool (X59.2.2 == (0 : Int))) rfl rfl (by kernel_rfl) ?_
    refine l_g (v := .string ⟨(s).toArray⟩) (want_1 rfl rfl rfl rfl) rfl (fun hW_ => (by kernel_rfl)) ?_
    refine l_g (v := .int .i64 ((s).length : Int)) (want_1 rfl rfl rfl rfl) rfl (fun hW_ => (r_lens rfl (gd_true hW_ _) Tryz.underlying9)) ?_
    refine l_g (v := .string ⟨(t).toArray⟩) (want_1 rfl rfl rfl rfl) rfl (fun hW_ => (by kernel_rfl)) ?_
    refine l_g (v := .int .i64 ((t).length : Int)) (want_1 rfl rfl rfl rfl) rfl (fun hW_ => (r_lens rfl (gd_true hW_ _) Tryz.underlying9)) ?_
    refine l_g (v := .int .i64 (((s).length : Int) + ((t).length : Int))) (want_1 rfl rfl rfl rfl) rfl (fun hW_ => (r_add (r := ((s).length : Int) + ((t).length : Int)) rfl (gd_true hW_ _) (gd_true hW_ _) (by omega) (by simp only [min_i64]; omega) (by simp only [max_i64]; omega))) ?_
    refine l_g (v := .bool (decide ((((s).length : Int) + ((t).length : Int)) ≤ (65536 : Int)))) (want_1 rfl rfl rfl rfl) rfl (fun hW_ => (r_cmp rfl (gd_true hW_ _) rfl rfl)) ?_
    refine l_v (v := .bool (((X59.2.2 == (0 : Int)) && (decide ((((s).length : Int) + ((t).length : Int)) ≤ (65536 : Int)))))) rfl rfl (r_pick rfl rfl (pick_and _ _)) ?_
    refine l_nil ?_
    refine n_then ?_
    refine c_cond (e := ((X59.2.2 == (0 : Int)) && (decide ((((s).length : Int) + ((t).length : Int)) ≤ (65536 : Int))))) rfl (fun hc73 => ?_) (fun hc73 => ?_)
    · simp only [decide_eq_true_eq, Bool.and_eq_true, beq_iff_eq] at hc73
      have hlen_ : s.length + t.length ≤ 65536 := by omega
      replace hc73 := And.intro hc73.1 hlen_
      refine wp_seq ?_
      refine wp_seq ?_
      refine r_start ?_
      refine l_v (v := .int .i64 X65.2.2) rfl rfl (by kernel_rfl) ?_
      refine l_v (v := .bool (X65.2.2 == (0 : Int))) rfl rfl (by kernel_rfl) ?_
      refine l_v (v := .bool (X65.2.2 == (0 : Int))) rfl rfl (by kernel_rfl) ?_
      rcases Bool.eq_false_or_eq_true (X65.2.2 == (0 : Int)) with hs74 | hs74
      · refine l_wanted (want_1 rfl rfl rfl rfl) ((known_eq hs74 true).trans rfl) ?_
        refine l_v (v := .int .i64 X71.2.2) rfl rfl (by kernel_rfl) ?_
        refine l_wanted (want_1 rfl rfl rfl rfl) ((known_eq hs74 true).trans rfl) ?_
        refine l_v (v := .bool (X71.2.2 != (0 : Int))) rfl rfl (by kernel_rfl) ?_
        refine l_wanted (want_1 rfl rfl rfl rfl) ((known_eq hs74 true).trans rfl) ?_
        refine l_v (v := .bool (X71.2.2 != (0 : Int))) rfl rfl (by kernel_rfl) ?_
        rcases Bool.eq_false_or_eq_true (X71.2.2 != (0 : Int)) with hs75 | hs75
        · refine l_unwg (want_1 rfl rfl rfl rfl) ((known_eq hs75 false).trans rfl) rfl ?_
          refine l_unwg (want_1 rfl rfl rfl rfl) ((known_eq hs75 false).trans rfl) rfl ?_
          refine l_unwg (want_1 rfl rfl rfl rfl) ((known_eq hs75 false).trans rfl) rfl ?_
          refine l_unwg (want_1 rfl rfl rfl rfl) ((known_eq hs75 false).trans rfl) rfl ?_
          refine l_unwg (want_1 rfl rfl rfl rfl) ((known_eq hs75 false).trans rfl) rfl ?_
          refine l_unwg (want_1 rfl rfl rfl rfl) ((known_eq hs75 false).trans rfl) rfl ?_
          refine l_unwg (want_1 rfl rfl rfl rfl) ((known_eq hs75 false).trans rfl) rfl ?_
          refine l_unwg (want_1 rfl rfl rfl rfl) ((known_eq hs75 false).trans rfl) rfl ?_
          refine l_unwg (want_1 rfl rfl rfl rfl) ((known_eq hs75 false).trans rfl) rfl ?_
          refine l_wanted (want_1 rfl rfl rfl rfl) ((known_eq hs74 true).trans rfl) ?_
          refine l_v (v := .bool true) rfl rfl (r_pickT rfl rfl hs75 rfl) ?_
          refine l_v (v := .bool true) rfl rfl (r_pickT rfl rfl hs74 rfl) ?_
          refine l_nil ?_
          refine n_then ?_
          refine c_condT (e := true) rfl rfl ?_
          refine wp_seq ?_
          refine r_start ?_
          refine l_v (v := .bool false) rfl rfl (by kernel_rfl) ?_
          refine l_nil ?_
          refine n_then ?_
          refine wp_ret ?_
          refine t_then ?_
          refine t_then ?_
          exfalso
          have j0_ : X65.2.2 = 0 := by simpa using hs74
          have j1_ := join_ok (f := parseRw) (s := s) (t := t) hc73.2 (by rw [hX59]; exact hc73.1) (by rw [hX65]; exact j0_)
          rw [hX59, hX65, hX71] at j1_
          have j2_ := hs75
          rw [j1_.1] at j2_
          cases j2_
        · refine l_wanted (want_1 rfl rfl rfl rfl) ((known_eq hs75 false).trans rfl) ?_
          refine l_v (v := .slice h68sA ((X71.1).length) h68sc) rfl rfl (by kernel_rfl) ?_
          refine l_wanted (want_1 rfl rfl rfl rfl) ((known_eq hs75 false).trans rfl) ?_
          have hd77 := h56sE.fr0 (((Fr.refl [] w58).trans h62f).trans h68f)
          have hq76E : El Rp.rw (fun g => g < w70.heap.size) w70 h56sA X59.1 := El.weak hd77 (fun g hg_ _ => hg_)
          have hd79 := h62sE.fr0 ((Fr.refl [] w64).trans h68f)
          have hq78E : El Rp.rw (fun g => g < w70.heap.size) w70 h62sA X65.1 := El.weak hd79 (fun g hg_ _ => hg_)
          have hq80E : El Rp.rw (fun g => g < w70.heap.size) w70 h68sA X71.1 := El.weak h68sE (fun g hg_ _ => hg_)
          refine l_call rfl rfl (r_call (args := #[.slice h68sA ((X71.1).length) h68sc]) rfl e8 (am rfl)) (told_calls w70 _ _ X71.1 ⟨_, _, rfl, h68sl, hq80E⟩ (by omega)) (fun v82 w83 h81 => ?_)
          obtain ⟨h81o, h81f⟩ := h81
          have h81z := h81f.size
          have h81lt := OwnK.lt h81o
          refine l_wanted (want_1 rfl rfl rfl rfl) ((known_eq hs75 false).trans rfl) ?_
          refine l_v (v := .slice h56sA ((X59.1).length) h56sc) rfl rfl (by kernel_rfl) ?_
          refine l_wanted (want_1 rfl rfl rfl rfl) ((known_eq hs75 false).trans rfl) ?_
          have hd84 := hq76E.fr0 ((Fr.refl [] w70).trans h81f)
          refine l_call rfl rfl (r_call (args := #[.slice h56sA ((X59.1).length) h56sc]) rfl e8 (am rfl)) (told_calls w83 _ _ X59.1 ⟨_, _, rfl, h56sl, hd84⟩ (by omega)) (fun v86 w87 h85 => ?_)
          obtain ⟨h85o, h85f⟩ := h85
          have h85z := h85f.size
          have h85lt := OwnK.lt h85o
          refine l_wanted (want_1 rfl rfl rfl rfl) ((known_eq hs75 false).trans rfl) ?_
          refine l_v (v := .slice h62sA ((X65.1).length) h62sc) rfl rfl (by kernel_rfl) ?_
          refine l_wanted (want_1 rfl rfl rfl rfl) ((known_eq hs75 false).trans rfl) ?_
          have hd88 := hq78E.fr0 (((Fr.refl [] w70).trans h81f).trans h85f)
          refine l_call rfl rfl (r_call (args := #[.slice h62sA ((X65.1).length) h62sc]) rfl e8 (am rfl)) (told_calls w87 _ _ X65.1 ⟨_, _, rfl, h62sl, hd88⟩ (by omega)) (fun v90 w91 h89 => ?_)
          obtain ⟨h89o, h89f⟩ := h89
          have h89z := h89f.size
          have h89lt := OwnK.lt h89o
          refine l_wanted (want_1 rfl rfl rfl rfl) ((known_eq hs75 false).trans rfl) ?_
          have hd92 := h85o.fr0 ((Fr.refl [] w87).trans h89f)
          have hE98 : Fr [] w w91 := ((((hE66.trans h68f).trans h81f).trans h85f).trans h89f)
          have hE98z := hE98.size
          obtain ⟨css93, css931, css932, css933⟩ := OwnK.weak (ok' := fun g => g < w70.heap.size) hd92 (fun g _ h_ => h_.1)
          obtain ⟨dss94, dss941, dss942, dss943⟩ := OwnK.weak (ok' := fun g => g < w70.heap.size) h89o (fun g _ h_ => h_.1)
          refine l_append_row sl28 rfl rfl rfl rfl css932 rfl dss942 (OwnK.one dss941 dss943) (by omega) (by decide) (by omega) (fun v95 w96 a97 => ?_)
          have a97o := OwnK.join css931 css933 dss941 dss943 a97 (fun g hg_ hc_ => by have h1_ := (h85lt g hc_).1; have h2_ : g < w70.heap.size := hg_; omega)
          have a97z := a97.fr.size
          refine l_wanted (want_1 rfl rfl rfl rfl) ((known_eq hs75 false).trans rfl) ?_
          have hd99 := h81o.fr0 (Fr.step (((Fr.refl [] w83).trans h85f).trans h89f) a97.fr (own_ge css932 (by omega)))
          refine l_call rfl rfl (r_call (args := #[v82, v95]) rfl e11 (am rfl)) (rows_calls w96 _ _ _ _ X71.1 (X59.1 ++ X65.1) (OwnK.sl hd99) (OwnK.sl a97o) (by omega) (by first | omega | (rw [List.length_append]; omega))) (fun v101 w102 h100 => ?_)
          obtain ⟨h100b, rfl, h100iff, h100f⟩ := h100
          have h100z := h100f.size
          refine l_wanted (want_1 rfl rfl rfl rfl) ((known_eq hs75 false).trans rfl) ?_
          refine l_v (v := .bool (!h100b)) rfl rfl (by kernel_rfl) ?_
          refine l_wanted (want_1 rfl rfl rfl rfl) ((known_eq hs74 true).trans rfl) ?_
          refine l_v (v := .bool (!h100b)) rfl rfl (r_pickF rfl rfl hs75 rfl) ?_
          refine l_v (v := .bool (!h100b)) rfl rfl (r_pickT rfl rfl hs74 rfl) ?_
          refine l_nil ?_
          refine n_then ?_
          refine c_cond (e := (!h100b)) rfl (fun hc103 => ?_) (fun hc103 => ?_)
          · try simp only [decide_eq_true_eq, decide_eq_false_iff_not, Bool.and_eq_true, Bool.or_eq_true, Bool.and_eq_false_iff, Bool.or_eq_false_iff, Bool.not_eq_true', Bool.not_eq_false', beq_iff_eq, bne_iff_ne, ne_eq, beq_eq_false_iff_ne, bne_eq_false_iff_eq, gt_iff_lt, ge_iff_le, Int.not_lt, Int.not_le] at hc103
            refine wp_seq ?_
            refine r_start ?_
            refine l_v (v := .bool false) rfl rfl (by kernel_rfl) ?_
            refine l_nil ?_
            refine n_then ?_
            refine wp_ret ?_
            refine t_then ?_
            refine t_then ?_
            exfalso
            have j0_ : X65.2.2 = 0 := by simpa using hs74
            have j1_ := join_ok (f := parseRw) (s := s) (t := t) hc73.2 (by rw [hX59]; exact hc73.1) (by rw [hX65]; exact j0_)
            rw [hX59, hX65, hX71] at j1_
            have j2_ := hc103
            have j3_ := h100iff.2 j1_.2
            rw [j3_] at j2_
            cases j2_
          · try simp only [decide_eq_true_eq, decide_eq_false_iff_not, Bool.and_eq_true, Bool.or_eq_true, Bool.and_eq_false_iff, Bool.or_eq_false_iff, Bool.not_eq_true', Bool.not_eq_false', beq_iff_eq, bne_iff_ne, ne_eq, beq_eq_false_iff_ne, bne_eq_false_iff_eq, gt_iff_lt, ge_iff_le, Int.not_lt, Int.not_le] at hc103
            refine wp_skip ?_
            refine n_then ?_
            refine wp_seq ?_
            refine r_start ?_
            refine l_v (v := .int .i64 X65.2.2) rfl rfl (by kernel_rfl) ?_
            refine l_v (v := .bool (X65.2.2 == (5 : Int))) rfl rfl (by kernel_rfl) ?_
            refine l_v (v := .bool (X65.2.2 == (5 : Int))) rfl rfl (by kernel_rfl) ?_
            refine l_g (v := .int .i64 X71.2.2) (want_1 rfl rfl rfl rfl) rfl (fun hW_ => (by kernel_rfl)) ?_
            refine l_g (v := .bool (X71.2.2 != (5 : Int))) (want_1 rfl rfl rfl rfl) rfl (fun hW_ => (r_cmp rfl (gd_true hW_ _) rfl rfl)) ?_
            refine l_g (v := .bool (X71.2.2 != (5 : Int))) (want_1 rfl rfl rfl rfl) rfl (fun hW_ => (r_mv rfl (gd_true hW_ _))) ?_
            refine l_g (v := .int .i64 X71.2.1) (want_of rfl rfl rfl rfl) rfl (fun hW_ => (by kernel_rfl)) ?_
            refine l_g (v := .slice h56sA ((X59.1).length) h56sc) (want_of rfl rfl rfl rfl) rfl (fun hW_ => (by kernel_rfl)) ?_
            refine l_g (v := .int .i64 ((((X59.1).length : Nat) : Int))) (want_of rfl rfl rfl rfl) rfl (fun hW_ => (r_len rfl (gd_true hW_ _) Tryz.underlying22)) ?_
            refine l_g (v := .int .i64 X65.2.1) (want_of rfl rfl rfl rfl) rfl (fun hW_ => (by kernel_rfl)) ?_
            refine l_g (v := .int .i64 (((((X59.1).length : Nat) : Int)) + X65.2.1)) (want_of rfl rfl rfl rfl) rfl (fun hW_ => (r_add (r := ((((X59.1).length : Nat) : Int)) + X65.2.1) rfl (gd_true hW_ _) (gd_true hW_ _) (by omega) (by simp only [min_i64]; omega) (by simp only [max_i64]; omega))) ?_
            refine l_g (v := .bool ((X71.2.1 != (((((X59.1).length : Nat) : Int)) + X65.2.1)))) (want_of rfl rfl rfl rfl) rfl (fun hW_ => (r_cmp rfl (gd_true hW_ _) (gd_true hW_ _) rfl)) ?_
            refine l_g (v := .bool (((X71.2.2 != (5 : Int)) || ((X71.2.1 != (((((X59.1).length : Nat) : Int)) + X65.2.1)))))) (want_1 rfl rfl rfl rfl) rfl (fun hW_ => (r_pick rfl (gd_true hW_ _) (pick_or' hW_ _ _))) ?_
            refine l_v (v := .bool (((X65.2.2 == (5 : Int)) && (((X71.2.2 != (5 : Int)) || ((X71.2.1 != (((((X59.1).length : Nat) : Int)) + X65.2.1)))))))) rfl rfl (r_pick rfl rfl (pick_and _ _)) ?_
            refine l_nil ?_
            refine n_then ?_
            refine c_cond (e := ((X65.2.2 == (5 : Int)) && (((X71.2.2 != (5 : Int)) || ((X71.2.1 != (((((X59.1).length : Nat) : Int)) + X65.2.1))))))) rfl (fun hc104 => ?_) (fun hc104 => ?_)
            · try simp only [decide_eq_true_eq, decide_eq_false_iff_not, Bool.and_eq_true, Bool.or_eq_true, Bool.and_eq_false_iff, Bool.or_eq_false_iff, Bool.not_eq_true', Bool.not_eq_false', beq_iff_eq, bne_iff_ne, ne_eq, beq_eq_false_iff_ne, bne_eq_false_iff_eq, gt_iff_lt, ge_iff_le, Int.not_lt, Int.not_le] at hc104
              refine wp_seq ?_
              refine r_start ?_
              refine l_v (v := .bool false) rfl rfl (by kernel_rfl) ?_
              refine l_nil ?_
              refine n_then ?_
              refine wp_ret ?_
              refine t_then ?_
              exfalso
              have j0_ : X65.2.2 = 0 := by simpa using hs74
              have j1_ := join_ok (f := parseRw) (s := s) (t := t) hc73.2 (by rw [hX59]; exact hc73.1) (by rw [hX65]; exact j0_)
              rw [hX59, hX65, hX71] at j1_
              have j2_ := hc104
              rw [j0_] at j2_
              simp at j2_
            · try simp only [decide_eq_true_eq, decide_eq_false_iff_not, Bool.and_eq_true, Bool.or_eq_true, Bool.and_eq_false_iff, Bool.or_eq_false_iff, Bool.not_eq_true', Bool.not_eq_false', beq_iff_eq, bne_iff_ne, ne_eq, beq_eq_false_iff_ne, bne_eq_false_iff_eq, gt_iff_lt, ge_iff_le, Int.not_lt, Int.not_le] at hc104
              refine wp_skip ?_
              refine n_then ?_
              have hE105 : Fr [] w w102 := ((Fr.step hE98 a97.fr (own_ge css932 (by omega))).trans h100f)
              have hE105z := hE105.size
              exact ⟨_, mk_eq (by kernel_rfl), hE105⟩
      · refine l_unwg (want_1 rfl rfl rfl rfl) ((known_eq hs74 true).trans rfl) rfl ?_
        refine l_unwg (want_1 rfl rfl rfl rfl) ((known_eq hs74 true).trans rfl) rfl ?_
        refine l_unwg (want_1 rfl rfl rfl rfl) ((known_eq hs74 true).trans rfl) rfl ?_
        refine l_unwg (want_of rfl rfl rfl rfl) (ga ((known_eq hs74 true).trans rfl)) rfl ?_
        refine l_unwg (want_of rfl rfl rfl rfl) (ga ((known_eq hs74 true).trans rfl)) rfl ?_
        refine l_unwg (want_of rfl rfl rfl rfl) (ga ((known_eq hs74 true).trans rfl)) rfl ?_
        refine l_unwg (want_of rfl rfl rfl rfl) (ga ((known_eq hs74 true).trans rfl)) rfl ?_
        refine l_unwg (want_of rfl rfl rfl rfl) (ga ((known_eq hs74 true).trans rfl)) rfl ?_
        refine l_unwg (want_of rfl rfl rfl rfl) (ga ((known_eq hs74 true).trans rfl)) rfl ?_
        refine l_unwg (want_of rfl rfl rfl rfl) (ga ((known_eq hs74 true).trans rfl)) rfl ?_
        refine l_unwg (want_of rfl rfl rfl rfl) (ga ((known_eq hs74 true).trans rfl)) rfl ?_
        refine l_unwg (want_of rfl rfl rfl rfl) (ga ((known_eq hs74 true).trans rfl)) rfl ?_
        refine l_unwg (want_1 rfl rfl rfl rfl) ((known_eq hs74 true).trans rfl) rfl ?_
        refine l_v (v := .bool false) rfl rfl (r_pickF rfl rfl hs74 rfl) ?_
        refine l_nil ?_
        refine n_then ?_
        refine c_condF (e := false) rfl rfl ?_
        refine wp_skip ?_
        refine n_then ?_
        refine wp_seq ?_
        refine r_start ?_
        refine l_v (v := .int .i64 X65.2.2) rfl rfl (by kernel_rfl) ?_
        refine l_v (v := .bool (X65.2.2 == (5 : Int))) rfl rfl (by kernel_rfl) ?_
        refine l_v (v := .bool (X65.2.2 == (5 : Int))) rfl rfl (by kernel_rfl) ?_
        refine l_g (v := .int .i64 X71.2.2) (want_1 rfl rfl rfl rfl) rfl (fun hW_ => (by kernel_rfl)) ?_
        refine l_g (v := .bool (X71.2.2 != (5 : Int))) (want_1 rfl rfl rfl rfl) rfl (fun hW_ => (r_cmp rfl (gd_true hW_ _) rfl rfl)) ?_
        refine l_g (v := .bool (X71.2.2 != (5 : Int))) (want_1 rfl rfl rfl rfl) rfl (fun hW_ => (r_mv rfl (gd_true hW_ _))) ?_
        refine l_g (v := .int .i64 X71.2.1) (want_of rfl rfl rfl rfl) rfl (fun hW_ => (by kernel_rfl)) ?_
        refine l_g (v := .slice h56sA ((X59.1).length) h56sc) (want_of rfl rfl rfl rfl) rfl (fun hW_ => (by kernel_rfl)) ?_
        refine l_g (v := .int .i64 ((((X59.1).length : Nat) : Int))) (want_of rfl rfl rfl rfl) rfl (fun hW_ => (r_len rfl (gd_true hW_ _) Tryz.underlying22)) ?_
        refine l_g (v := .int .i64 X65.2.1) (want_of rfl rfl rfl rfl) rfl (fun hW_ => (by kernel_rfl)) ?_
        refine l_g (v := .int .i64 (((((X59.1).length : Nat) : Int)) + X65.2.1)) (want_of rfl rfl rfl rfl) rfl (fun hW_ => (r_add (r := ((((X59.1).length : Nat) : Int)) + X65.2.1) rfl (gd_true hW_ _) (gd_true hW_ _) (by omega) (by simp only [min_i64]; omega) (by simp only [max_i64]; omega))) ?_
        refine l_g (v := .bool ((X71.2.1 != (((((X59.1).length : Nat) : Int)) + X65.2.1)))) (want_of rfl rfl rfl rfl) rfl (fun hW_ => (r_cmp rfl (gd_true hW_ _) (gd_true hW_ _) rfl)) ?_
        refine l_g (v := .bool (((X71.2.2 != (5 : Int)) || ((X71.2.1 != (((((X59.1).length : Nat) : Int)) + X65.2.1)))))) (want_1 rfl rfl rfl rfl) rfl (fun hW_ => (r_pick rfl (gd_true hW_ _) (pick_or' hW_ _ _))) ?_
        refine l_v (v := .bool (((X65.2.2 == (5 : Int)) && (((X71.2.2 != (5 : Int)) || ((X71.2.1 != (((((X59.1).length : Nat) : Int)) + X65.2.1)))))))) rfl rfl (r_pick rfl rfl (pick_and _ _)) ?_
        refine l_nil ?_
        refine n_then ?_
        refine c_cond (e := ((X65.2.2 == (5 : Int)) && (((X71.2.2 != (5 : Int)) || ((X71.2.1 != (((((X59.1).length : Nat) : Int)) + X65.2.1))))))) rfl (fun hc106 => ?_) (fun hc106 => ?_)
        · try simp only [decide_eq_true_eq, decide_eq_false_iff_not, Bool.and_eq_true, Bool.or_eq_true, Bool.and_eq_false_iff, Bool.or_eq_false_iff, Bool.not_eq_true', Bool.not_eq_false', beq_iff_eq, bne_iff_ne, ne_eq, beq_eq_false_iff_ne, bne_eq_false_iff_eq, gt_iff_lt, ge_iff_le, Int.not_lt, Int.not_le] at hc106
          refine wp_seq ?_
          refine r_start ?_
          refine l_v (v := .bool false) rfl rfl (by kernel_rfl) ?_
          refine l_nil ?_
          refine n_then ?_
          refine wp_ret ?_
          refine t_then ?_
          exfalso
          have j2_ := hc106
          try simp only [Bool.and_eq_true, beq_iff_eq] at j2_
          have j1_ := join_form (f := parseRw) (s := s) (t := t) hc73.2 (by rw [hX59]; exact hc73.1) (by rw [hX65]; exact j2_.1)
          rw [hX59, hX65, hX71] at j1_
          have j4_ := j2_.2
          simp [j1_.1, j1_.2] at j4_
        · try simp only [decide_eq_true_eq, decide_eq_false_iff_not, Bool.and_eq_true, Bool.or_eq_true, Bool.and_eq_false_iff, Bool.or_eq_false_iff, Bool.not_eq_true', Bool.not_eq_false', beq_iff_eq, bne_iff_ne, ne_eq, beq_eq_false_iff_ne, bne_eq_false_iff_eq, gt_iff_lt, ge_iff_le, Int.not_lt, Int.not_le] at hc106
          refine wp_skip ?_
          refine n_then ?_
          have hE107 : Fr [] w w70 := (hE66.trans h68f)
          have hE107z := hE107.size
          exact ⟨_, mk_eq (by kernel_rfl), hE107⟩
    · refine wp_skip ?_
      refine n_then ?_
      have hE108 : Fr [] w w70 := (hE66.trans h68f)
      have hE108z := hE108.size
      exact ⟨_, mk_eq (by kernel_rfl), hE108⟩
  rintro _ wj72 ⟨u_, rfl, hE109⟩
  have hE109z := hE109.size
  refine wp_seq ?_
  refine r_start ?_
  have hd110 := hg.fr0 hE109
  refine l_call rfl rfl (r_call (args := #[]) rfl e12 (am rfl)) (wakes_calls wj72 hd110) (fun v112 w113 h111 => ?_)
  obtain ⟨rfl, h111f⟩ := h111
  have h111z := h111f.size
  refine l_v (v := .bool true) rfl rfl (by kernel_rfl) ?_
  refine l_nil ?_
  refine n_then ?_
  refine wp_ret ?_
  have hE114 : Fr [] w w113 := (hE109.trans h111f)
  have hE114z := hE114.size
  exact end_ret (v := .bool true) (res1 rfl rfl) ⟨_, rfl, ⟨rfl, hE114⟩⟩

end Go.Proofs.YtmhljojgdfmjaaaGreatDoor
