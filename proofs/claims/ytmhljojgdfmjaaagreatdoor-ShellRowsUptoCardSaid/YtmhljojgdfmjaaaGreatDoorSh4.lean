/- walks -/
import Derived.Test.YtmhljojgdfmjaaaGreatDoorSh1
import Derived.Test.YtmhljojgdfmjaaaGreatDoorSh2
namespace Go.Proofs.YtmhljojgdfmjaaaGreatDoor
open Go.E
set_option linter.unusedVariables false
set_option linter.unusedSimpArgs false
set_option maxRecDepth 100000
set_option maxHeartbeats 1000000
open Go.Sh
theorem Bool.not_beq_eq {a b : Int} : (!(a == b)) = (a != b) := rfl
/-- shell.rowLine -/
theorem rowLine_calls (w : World) (hg : Glob w) (ok : Nat → Prop) (cs : List Value) (e : Rw) (he : RwK ok w cs e) :
    Does Tryz.prog 18 #[.agg cs.toArray] w fun r w' => r = .tuple #[.string ⟨(rwLine e).1.toArray⟩, .bool (rwLine e).2] ∧ Fr [] w w' := by
  obtain ⟨A1, c1, rfl, hc1, hel1, hfit⟩ := he
  obtain ⟨⟨hk1, hk2⟩, ⟨hr1, hr2⟩, ⟨ho1, ho2⟩, ⟨hn1, hn2⟩, hdl⟩ := id hfit
  have hki : i64 e.kind := ⟨hk1, hk2⟩
  have hgz := hg.sz
  refine Does.of (fn_in (l := [.agg #[.int .i64 e.kind, .int .i64 e.err, .int .i64 e.conn, .int .i64 e.n, .slice A1 e.data.length c1, .bool e.ended]]) Tryz.func18 rfl Tryz.ntmps18 rfl ?_)
  refine wp_seq ?_
  refine r_start ?_
  refine l_new (fun k_ => .pointer (some ⟨k_, 0, none⟩)) rfl rfl (by kernel_rfl) (ob := .cells #[.int .i64 e.kind, .int .i64 e.err, .int .i64 e.conn, .int .i64 e.n, .slice A1 e.data.length c1, .bool e.ended] 49) (fun k1 w2 n3 => ?_)
  have n3k := n3.hk; have n3z := n3.sz
  refine l_v (v := .string ⟨([] : List UInt8).toArray⟩) rfl rfl (by kernel_rfl) ?_
  refine l_v (v := .bool false) rfl rfl (by kernel_rfl) ?_
  refine l_nil ?_
  refine n_then ?_
  refine wp_seq ?_
  have hE8 : Fr [] w w2 := ((Fr.refl [] w).trans n3.fr)
  have hE8z := hE8.size
  refine h_start' (fun w0_ w_ => Fr [] w0_ w_) hmix (fun _ _ _ _ _ h => h) (fun w4 f5 hQ7 => ?_)
  have f5z := f5.size
  refine h_take (i := 0) (v := .pointer (some ⟨k1, 0, none⟩)) rfl (by kernel_rfl) (by kernel_rfl) (by kernel_rfl) hQ7 rfl rfl (fun w_ hS_ => (r_field rfl rfl Tryz.underlying49 rfl (by kernel_rfl) rfl)) (Fr.refl [] w4) ?_
  have hb9 := (f5.at0 n3.at_)
  refine h_take (i := 1) (v := .int .i64 e.kind) rfl (by kernel_rfl) (by kernel_rfl) (by kernel_rfl) hQ7 rfl rfl (fun w_ hS_ => (r_load rfl rfl Tryz.underlying3 rfl (cell_at (hS_.at hb9 (by simp)) rfl))) (Fr.refl [] w4) ?_
  refine h_take (i := 3) (v := .pointer (some ⟨k1, 1, none⟩)) rfl (by kernel_rfl) (by kernel_rfl) (by kernel_rfl) hQ7 rfl rfl (fun w_ hS_ => (r_field rfl rfl Tryz.underlying49 rfl (by kernel_rfl) rfl)) (Fr.refl [] w4) ?_
  refine h_take (i := 4) (v := .int .i64 e.err) rfl (by kernel_rfl) (by kernel_rfl) (by kernel_rfl) hQ7 rfl rfl (fun w_ hS_ => (r_load rfl rfl Tryz.underlying23 rfl (cell_at (hS_.at hb9 (by simp)) rfl))) (Fr.refl [] w4) ?_
  refine h_take (i := 5) (v := .bool (e.err == (0 : Int))) rfl (by kernel_rfl) (by kernel_rfl) (by kernel_rfl) hQ7 rfl rfl (fun w_ hS_ => (by kernel_rfl)) (Fr.refl [] w4) ?_
  have hE10 : Fr [] w w4 := (hE8.trans f5)
  have hE10z := hE10.size
  have hd11 := hg.fr0 hE10
  refine h_call (i := 2) (by kernel_rfl) rfl rfl rfl (r_call (args := #[.int .i64 e.kind]) rfl e33 (am rfl)) (Name_calls w4 hd11 e.kind (by assumption)) (fun v13 w14 h12 => ?_)
  obtain ⟨rfl, h12f⟩ := h12
  have h12z := h12f.size
  refine ⟨(Fr.refl [] w4).trans h12f.any, ?_⟩
  refine h_take (i := 6) (v := .string ⟨(nameL e.kind).toArray⟩) rfl (by kernel_rfl) (by kernel_rfl) (by kernel_rfl) hQ7 rfl rfl (fun w_ hS_ => (by kernel_rfl)) ((Fr.refl [] w4).trans h12f.any) ?_
  refine h_take (i := 7) (v := .bool (e.err == (0 : Int))) rfl (by kernel_rfl) (by kernel_rfl) (by kernel_rfl) hQ7 rfl rfl (fun w_ hS_ => (by kernel_rfl)) ((Fr.refl [] w4).trans h12f.any) ?_
  refine wpAnyH_done (by kernel_rfl) ?_ _
  refine n_then ?_
  refine wp_seq ?_
  refine wp_seq ?_
  refine r_start ?_
  refine l_v (v := .string ⟨(nameL e.kind).toArray⟩) rfl rfl (by kernel_rfl) ?_
  refine l_v (v := .bool (decide (nameL e.kind = ([] : List UInt8)))) rfl rfl (r_str_eql rfl rfl rfl) ?_
  refine l_v (v := .bool (decide (nameL e.kind = ([] : List UInt8)))) rfl rfl (by kernel_rfl) ?_
  refine l_g (v := .bool (e.err == (0 : Int))) (want_1 rfl rfl rfl rfl) rfl (fun hW_ => (by kernel_rfl)) ?_
  refine l_g (v := .bool ((!(e.err == (0 : Int))))) (want_1 rfl rfl rfl rfl) rfl (fun hW_ => (r_not rfl (gd_true hW_ _))) ?_
  refine l_g (v := .bool ((!(e.err == (0 : Int))))) (want_1 rfl rfl rfl rfl) rfl (fun hW_ => (r_mv rfl (gd_true hW_ _))) ?_
  refine l_g (v := .pointer (some ⟨k1, 0, none⟩)) (want_of rfl rfl rfl rfl) rfl (fun hW_ => (r_field rfl rfl Tryz.underlying49 rfl (by kernel_rfl) rfl)) ?_
  have hb15 := (h12f.at0 hb9)
  refine l_g (v := .int .i64 e.kind) (want_of rfl rfl rfl rfl) rfl (fun hW_ => (r_load rfl (gd_true hW_ _) Tryz.underlying3 rfl (cell_at hb15 rfl))) ?_
  refine l_g (v := .bool (e.kind != (1 : Int))) (want_of rfl rfl rfl rfl) rfl (fun hW_ => (r_cmp rfl (gd_true hW_ _) rfl rfl)) ?_
  refine l_g (v := .bool ((((!(e.err == (0 : Int)))) || (e.kind != (1 : Int))))) (want_1 rfl rfl rfl rfl) rfl (fun hW_ => (r_pick rfl (gd_true hW_ _) (pick_or' hW_ _ _))) ?_
  refine l_g (v := .bool ((((!(e.err == (0 : Int)))) || (e.kind != (1 : Int))))) (want_1 rfl rfl rfl rfl) rfl (fun hW_ => (r_mv rfl (gd_true hW_ _))) ?_
  refine l_g (v := .pointer (some ⟨k1, 2, none⟩)) (want_of rfl rfl rfl rfl) rfl (fun hW_ => (r_field rfl rfl Tryz.underlying49 rfl (by kernel_rfl) rfl)) ?_
  refine l_g (v := .int .i64 e.conn) (want_of rfl rfl rfl rfl) rfl (fun hW_ => (r_load rfl (gd_true hW_ _) Tryz.underlying3 rfl (cell_at hb15 rfl))) ?_
  refine l_g (v := .bool (e.conn != (0 : Int))) (want_of rfl rfl rfl rfl) rfl (fun hW_ => (r_cmp rfl (gd_true hW_ _) rfl rfl)) ?_
  refine l_g (v := .bool ((((((!(e.err == (0 : Int)))) || (e.kind != (1 : Int)))) && (e.conn != (0 : Int))))) (want_1 rfl rfl rfl rfl) rfl (fun hW_ => (r_pick rfl (gd_true hW_ _) (pick_and' hW_ _ _))) ?_
  refine l_v (v := .bool (((decide (nameL e.kind = ([] : List UInt8))) || ((((((!(e.err == (0 : Int)))) || (e.kind != (1 : Int)))) && (e.conn != (0 : Int))))))) rfl rfl (r_pick rfl rfl (pick_or _ _)) ?_
  refine l_v (v := .bool (((decide (nameL e.kind = ([] : List UInt8))) || ((((((!(e.err == (0 : Int)))) || (e.kind != (1 : Int)))) && (e.conn != (0 : Int))))))) rfl rfl (by kernel_rfl) ?_
  refine l_g (v := .bool (e.err == (0 : Int))) (want_1 rfl rfl rfl rfl) rfl (fun hW_ => (by kernel_rfl)) ?_
  refine l_g (v := .bool ((!(e.err == (0 : Int))))) (want_1 rfl rfl rfl rfl) rfl (fun hW_ => (r_not rfl (gd_true hW_ _))) ?_
  refine l_g (v := .bool ((!(e.err == (0 : Int))))) (want_1 rfl rfl rfl rfl) rfl (fun hW_ => (r_mv rfl (gd_true hW_ _))) ?_
  refine l_g (v := .pointer (some ⟨k1, 0, none⟩)) (want_of rfl rfl rfl rfl) rfl (fun hW_ => (r_field rfl rfl Tryz.underlying49 rfl (by kernel_rfl) rfl)) ?_
  refine l_g (v := .int .i64 e.kind) (want_of rfl rfl rfl rfl) rfl (fun hW_ => (r_load rfl (gd_true hW_ _) Tryz.underlying3 rfl (cell_at hb15 rfl))) ?_
  refine l_g (v := .bool (e.kind != (5 : Int))) (want_of rfl rfl rfl rfl) rfl (fun hW_ => (r_cmp rfl (gd_true hW_ _) rfl rfl)) ?_
  refine l_g (v := .bool ((((!(e.err == (0 : Int)))) || (e.kind != (5 : Int))))) (want_1 rfl rfl rfl rfl) rfl (fun hW_ => (r_pick rfl (gd_true hW_ _) (pick_or' hW_ _ _))) ?_
  refine l_g (v := .bool ((((!(e.err == (0 : Int)))) || (e.kind != (5 : Int))))) (want_1 rfl rfl rfl rfl) rfl (fun hW_ => (r_mv rfl (gd_true hW_ _))) ?_
  refine l_g (v := .pointer (some ⟨k1, 3, none⟩)) (want_of rfl rfl rfl rfl) rfl (fun hW_ => (r_field rfl rfl Tryz.underlying49 rfl (by kernel_rfl) rfl)) ?_
  refine l_g (v := .int .i64 e.n) (want_of rfl rfl rfl rfl) rfl (fun hW_ => (r_load rfl (gd_true hW_ _) Tryz.underlying3 rfl (cell_at hb15 rfl))) ?_
  refine l_g (v := .bool (e.n != (0 : Int))) (want_of rfl rfl rfl rfl) rfl (fun hW_ => (r_cmp rfl (gd_true hW_ _) rfl rfl)) ?_
  refine l_g (v := .bool ((((((!(e.err == (0 : Int)))) || (e.kind != (5 : Int)))) && (e.n != (0 : Int))))) (want_1 rfl rfl rfl rfl) rfl (fun hW_ => (r_pick rfl (gd_true hW_ _) (pick_and' hW_ _ _))) ?_
  refine l_v (v := .bool (((((decide (nameL e.kind = ([] : List UInt8))) || ((((((!(e.err == (0 : Int)))) || (e.kind != (1 : Int)))) && (e.conn != (0 : Int)))))) || ((((((!(e.err == (0 : Int)))) || (e.kind != (5 : Int)))) && (e.n != (0 : Int))))))) rfl rfl (r_pick rfl rfl (pick_or _ _)) ?_
  refine l_v (v := .bool (((((decide (nameL e.kind = ([] : List UInt8))) || ((((((!(e.err == (0 : Int)))) || (e.kind != (1 : Int)))) && (e.conn != (0 : Int)))))) || ((((((!(e.err == (0 : Int)))) || (e.kind != (5 : Int)))) && (e.n != (0 : Int))))))) rfl rfl (by kernel_rfl) ?_
  refine l_g (v := .bool (e.err == (0 : Int))) (want_1 rfl rfl rfl rfl) rfl (fun hW_ => (by kernel_rfl)) ?_
  refine l_g (v := .bool ((!(e.err == (0 : Int))))) (want_1 rfl rfl rfl rfl) rfl (fun hW_ => (r_not rfl (gd_true hW_ _))) ?_
  refine l_g (v := .bool ((!(e.err == (0 : Int))))) (want_1 rfl rfl rfl rfl) rfl (fun hW_ => (r_mv rfl (gd_true hW_ _))) ?_
  refine l_g (v := .pointer (some ⟨k1, 0, none⟩)) (want_of rfl rfl rfl rfl) rfl (fun hW_ => (r_field rfl rfl Tryz.underlying49 rfl (by kernel_rfl) rfl)) ?_
  refine l_g (v := .int .i64 e.kind) (want_of rfl rfl rfl rfl) rfl (fun hW_ => (r_load rfl (gd_true hW_ _) Tryz.underlying3 rfl (cell_at hb15 rfl))) ?_
  refine l_g (v := .bool (e.kind != (2 : Int))) (want_of rfl rfl rfl rfl) rfl (fun hW_ => (r_cmp rfl (gd_true hW_ _) rfl rfl)) ?_
  refine l_g (v := .bool ((((!(e.err == (0 : Int)))) || (e.kind != (2 : Int))))) (want_1 rfl rfl rfl rfl) rfl (fun hW_ => (r_pick rfl (gd_true hW_ _) (pick_or' hW_ _ _))) ?_
  refine l_g (v := .bool ((((!(e.err == (0 : Int)))) || (e.kind != (2 : Int))))) (want_1 rfl rfl rfl rfl) rfl (fun hW_ => (r_mv rfl (gd_true hW_ _))) ?_
  refine l_g (v := .pointer (some ⟨k1, 4, none⟩)) (want_of rfl rfl rfl rfl) rfl (fun hW_ => (r_field rfl rfl Tryz.underlying49 rfl (by kernel_rfl) rfl)) ?_
  refine l_g (v := .slice A1 e.data.length c1) (want_of rfl rfl rfl rfl) rfl (fun hW_ => (r_load rfl (gd_true hW_ _) Tryz.underlying47 rfl (cell_at hb15 rfl))) ?_
  refine l_g (v := .int .i64 ((e.data.length : Nat) : Int)) (want_of rfl rfl rfl rfl) rfl (fun hW_ => (r_len rfl (gd_true hW_ _) Tryz.underlying47)) ?_
  refine l_g (v := .bool (decide (((e.data.length : Nat) : Int) > (0 : Int)))) (want_of rfl rfl rfl rfl) rfl (fun hW_ => (r_cmp rfl (gd_true hW_ _) rfl rfl)) ?_
  refine l_g (v := .bool (decide (((e.data.length : Nat) : Int) > (0 : Int)))) (want_of rfl rfl rfl rfl) rfl (fun hW_ => (r_mv rfl (gd_true hW_ _))) ?_
  refine l_g (v := .pointer (some ⟨k1, 5, none⟩)) (want_of rfl rfl rfl rfl) rfl (fun hW_ => (r_field rfl rfl Tryz.underlying49 rfl (by kernel_rfl) rfl)) ?_
  refine l_g (v := .bool e.ended) (want_of rfl rfl rfl rfl) rfl (fun hW_ => (r_load rfl (gd_true hW_ _) Tryz.underlying4 rfl (cell_at hb15 rfl))) ?_
  refine l_g (v := .bool (((decide (((e.data.length : Nat) : Int) > (0 : Int))) || e.ended))) (want_of rfl rfl rfl rfl) rfl (fun hW_ => (r_pick rfl (gd_true hW_ _) (pick_or' hW_ _ _))) ?_
  refine l_g (v := .bool ((((((!(e.err == (0 : Int)))) || (e.kind != (2 : Int)))) && (((decide (((e.data.length : Nat) : Int) > (0 : Int))) || e.ended))))) (want_1 rfl rfl rfl rfl) rfl (fun hW_ => (r_pick rfl (gd_true hW_ _) (pick_and' hW_ _ _))) ?_
  refine l_v (v := .bool (((((((decide (nameL e.kind = ([] : List UInt8))) || ((((((!(e.err == (0 : Int)))) || (e.kind != (1 : Int)))) && (e.conn != (0 : Int)))))) || ((((((!(e.err == (0 : Int)))) || (e.kind != (5 : Int)))) && (e.n != (0 : Int)))))) || ((((((!(e.err == (0 : Int)))) || (e.kind != (2 : Int)))) && (((decide (((e.data.length : Nat) : Int) > (0 : Int))) || e.ended))))))) rfl rfl (r_pick rfl rfl (pick_or _ _)) ?_
  refine l_nil ?_
  refine n_then ?_
  have hl1 := nameL_len e.kind
  have hl2 := quoteL_len e.data
  have hl3 := itoa_len (n := e.conn) ⟨ho1, ho2⟩
  have hl4 := itoa_len (n := e.n) ⟨hn1, hn2⟩
  have hl5 := itoa_len (n := e.err) ⟨hr1, hr2⟩
  have hl6 : ([111, 107] : List UInt8).length = 2 := rfl
  have hl7 : ([101, 114, 114, 111, 114] : List UInt8).length = 5 := rfl
  have hl8 : ([111, 112, 101, 110] : List UInt8).length = 4 := rfl
  have hl9 : ([101, 110, 100, 101, 100] : List UInt8).length = 5 := rfl
  refine c_cond (e := ((((((decide (nameL e.kind = ([] : List UInt8))) || ((((((!(e.err == (0 : Int)))) || (e.kind != (1 : Int)))) && (e.conn != (0 : Int)))))) || ((((((!(e.err == (0 : Int)))) || (e.kind != (5 : Int)))) && (e.n != (0 : Int)))))) || ((((((!(e.err == (0 : Int)))) || (e.kind != (2 : Int)))) && (((decide (((e.data.length : Nat) : Int) > (0 : Int))) || e.ended)))))) rfl (fun hc16 => ?_) (fun hc16 => ?_)
  · refine wp_seq ?_
    refine r_start ?_
    refine l_v (v := .string ⟨([] : List UInt8).toArray⟩) rfl rfl (by kernel_rfl) ?_
    refine l_v (v := .bool false) rfl rfl (by kernel_rfl) ?_
    refine l_nil ?_
    refine n_then ?_
    refine wp_ret ?_
    refine t_then ?_
    have hbad : rwBad e = true := by unfold rwBad; simp only [len_pos, Bool.not_beq_eq] at hc16; exact hc16
    have hE17 : Fr [] w w14 := (hE10.trans h12f)
    have hE17z := hE17.size
    exact end_ret (v := .tuple #[.string ⟨([] : List UInt8).toArray⟩, .bool false]) (res2 rfl rfl rfl) ⟨_, rfl, ⟨by rw [show rwLine e = ([], false) from if_pos hbad], hE17⟩⟩
  · have hbad : ¬ rwBad e = true := by rw [Bool.not_eq_true]; unfold rwBad; simp only [len_pos, Bool.not_beq_eq] at hc16; exact hc16
    refine wp_skip ?_
    refine n_then ?_
    refine wp_seq ?_
    refine wp_seq ?_
    refine r_start ?_
    refine l_v (v := .bool (e.err == (0 : Int))) rfl rfl (by kernel_rfl) ?_
    refine l_v (v := .bool ((!(e.err == (0 : Int))))) rfl rfl (by kernel_rfl) ?_
    refine l_nil ?_
    refine n_then ?_
    refine c_cond (e := (!(e.err == (0 : Int)))) rfl (fun hc18 => ?_) (fun hc18 => ?_)
    · try simp only [decide_eq_true_eq, decide_eq_false_iff_not, Bool.and_eq_true, Bool.or_eq_true, Bool.and_eq_false_iff, Bool.or_eq_false_iff, Bool.not_eq_true', Bool.not_eq_false', beq_iff_eq, bne_iff_ne, ne_eq, beq_eq_false_iff_ne, bne_eq_false_iff_eq, gt_iff_lt, ge_iff_le, Int.not_lt, Int.not_le] at hc18
      refine wp_seq ?_
      refine r_start ?_
      refine l_v (v := .string ⟨(nameL e.kind).toArray⟩) rfl rfl (by kernel_rfl) ?_
      refine l_v (v := .pointer (some ⟨k1, 1, none⟩)) rfl rfl (r_field rfl rfl Tryz.underlying49 rfl (by kernel_rfl) rfl) ?_
      refine l_v (v := .int .i64 e.err) rfl rfl (r_load rfl rfl Tryz.underlying23 rfl (cell_at hb15 rfl)) ?_
      have hE19 : Fr [] w w14 := (hE10.trans h12f)
      have hE19z := hE19.size
      have hd20 := hg.fr0 hE19
      refine l_call rfl rfl (r_call (args := #[.int .i64 e.err]) rfl e35 (am rfl)) (Itoa_does e.err w14 hd20 (by omega) (by omega)) (fun v22 w23 h21 => ?_)
      obtain ⟨rfl, h21f⟩ := h21
      have h21z := h21f.size
      refine l_new (fun k_ => .slice (some ⟨k_, 0, none⟩) 3 3) rfl rfl (by kernel_rfl) (ob := .cells #[.string ⟨(nameL e.kind).toArray⟩, .string ⟨([101, 114, 114, 111, 114] : List UInt8).toArray⟩, .string ⟨(Lib.itoa e.err).toArray⟩] 9) (fun k24 w25 n26 => ?_)
      have hE27 : Fr [] w w23 := (hE19.trans h21f)
      have hE27z := hE27.size
      have n26k := n26.hk; have n26z := n26.sz
      refine l_call rfl rfl (r_call (args := #[.slice (some ⟨k24, 0, none⟩) 3 3]) rfl e34 (am rfl)) (Line3_calls w25 k24 (nameL e.kind) ([101, 114, 114, 111, 114] : List UInt8) (Lib.itoa e.err) n26.at_ (by (try simp only [sp_len]); omega)) (fun v29 w30 h28 => ?_)
      obtain ⟨rfl, h28f⟩ := h28
      have h28z := h28f.size
      refine l_v (v := .string ⟨(sp (nameL e.kind) (sp ([101, 114, 114, 111, 114] : List UInt8) (Lib.itoa e.err))).toArray⟩) rfl rfl (by kernel_rfl) ?_
      refine l_v (v := .bool true) rfl rfl (by kernel_rfl) ?_
      refine l_nil ?_
      refine n_then ?_
      refine wp_ret ?_
      refine t_then ?_
      have hend : rwLine e = (sp (nameL e.kind) (sp ([101, 114, 114, 111, 114] : List UInt8) (Lib.itoa e.err)), true) := by rw [show rwLine e = (rwText e, true) from if_neg hbad]; simp [rwText, okW, errorW, openW, endedW, hc18]
      have hE31 : Fr [] w w30 := ((hE27.trans n26.fr).trans h28f)
      have hE31z := hE31.size
      exact end_ret (v := .tuple #[.string ⟨(sp (nameL e.kind) (sp ([101, 114, 114, 111, 114] : List UInt8) (Lib.itoa e.err))).toArray⟩, .bool true]) (res2 rfl rfl rfl) ⟨_, rfl, ⟨by rw [hend], hE31⟩⟩
    · try simp only [decide_eq_true_eq, decide_eq_false_iff_not, Bool.and_eq_true, Bool.or_eq_true, Bool.and_eq_false_iff, Bool.or_eq_false_iff, Bool.not_eq_true', Bool.not_eq_false', beq_iff_eq, bne_iff_ne, ne_eq, beq_eq_false_iff_ne, bne_eq_false_iff_eq, gt_iff_lt, ge_iff_le, Int.not_lt, Int.not_le] at hc18
      refine wp_skip ?_
      refine n_then ?_
      refine wp_seq ?_
      refine r_start ?_
      refine l_v (v := .string ⟨(nameL e.kind).toArray⟩) rfl rfl (by kernel_rfl) ?_
      refine l_new (fun k_ => .slice (some ⟨k_, 0, none⟩) 2 2) rfl rfl (by kernel_rfl) (ob := .cells #[.string ⟨(nameL e.kind).toArray⟩, .string ⟨([111, 107] : List UInt8).toArray⟩] 9) (fun k32 w33 n34 => ?_)
      have hE35 : Fr [] w w14 := (hE10.trans h12f)
      have hE35z := hE35.size
      have n34k := n34.hk; have n34z := n34.sz
      refine l_call rfl rfl (r_call (args := #[.slice (some ⟨k32, 0, none⟩) 2 2]) rfl e34 (am rfl)) (Line2_calls w33 k32 (nameL e.kind) ([111, 107] : List UInt8) n34.at_ (by (try simp only [sp_len]); omega)) (fun v37 w38 h36 => ?_)
      obtain ⟨rfl, h36f⟩ := h36
      have h36z := h36f.size
      refine l_v (v := .string ⟨(sp (nameL e.kind) ([111, 107] : List UInt8)).toArray⟩) rfl rfl (by kernel_rfl) ?_
      refine l_nil ?_
      refine n_then ?_
      refine wp_seq ?_
      refine wp_seq ?_
      refine r_start ?_
      refine l_v (v := .pointer (some ⟨k1, 0, none⟩)) rfl rfl (r_field rfl rfl Tryz.underlying49 rfl (by kernel_rfl) rfl) ?_
      have hb39 := (h36f.at0 (n34.fr.at0 hb15))
      refine l_v (v := .int .i64 e.kind) rfl rfl (r_load rfl rfl Tryz.underlying3 rfl (cell_at hb39 rfl)) ?_
      refine l_nil ?_
      refine n_then ?_
      refine wp_block ?_
      refine wp_seq ?_
      refine r_start ?_
      refine l_v (v := .bool (e.kind == (1 : Int))) rfl rfl (by kernel_rfl) ?_
      refine l_v (v := .bool (e.kind == (1 : Int))) rfl rfl (by kernel_rfl) ?_
      refine l_nil ?_
      refine n_then ?_
      refine c_cond (e := (e.kind == (1 : Int))) rfl (fun hc40 => ?_) (fun hc40 => ?_)
      · try simp only [decide_eq_true_eq, decide_eq_false_iff_not, Bool.and_eq_true, Bool.or_eq_true, Bool.and_eq_false_iff, Bool.or_eq_false_iff, Bool.not_eq_true', Bool.not_eq_false', beq_iff_eq, bne_iff_ne, ne_eq, beq_eq_false_iff_ne, bne_eq_false_iff_eq, gt_iff_lt, ge_iff_le, Int.not_lt, Int.not_le] at hc40
        refine r_start ?_
        refine l_v (v := .string ⟨(sp (nameL e.kind) ([111, 107] : List UInt8)).toArray⟩) rfl rfl (by kernel_rfl) ?_
        refine l_v (v := .pointer (some ⟨k1, 2, none⟩)) rfl rfl (r_field rfl rfl Tryz.underlying49 rfl (by kernel_rfl) rfl) ?_
        refine l_v (v := .int .i64 e.conn) rfl rfl (r_load rfl rfl Tryz.underlying3 rfl (cell_at hb39 rfl)) ?_
        have hE41 : Fr [] w w38 := ((hE35.trans n34.fr).trans h36f)
        have hE41z := hE41.size
        have hd42 := hg.fr0 hE41
        refine l_call rfl rfl (r_call (args := #[.int .i64 e.conn]) rfl e35 (am rfl)) (Itoa_does e.conn w38 hd42 (by omega) (by omega)) (fun v44 w45 h43 => ?_)
        obtain ⟨rfl, h43f⟩ := h43
        have h43z := h43f.size
        refine l_new (fun k_ => .slice (some ⟨k_, 0, none⟩) 2 2) rfl rfl (by kernel_rfl) (ob := .cells #[.string ⟨(sp (nameL e.kind) ([111, 107] : List UInt8)).toArray⟩, .string ⟨(Lib.itoa e.conn).toArray⟩] 9) (fun k46 w47 n48 => ?_)
        have hE49 : Fr [] w w45 := (hE41.trans h43f)
        have hE49z := hE49.size
        have n48k := n48.hk; have n48z := n48.sz
        refine l_call rfl rfl (r_call (args := #[.slice (some ⟨k46, 0, none⟩) 2 2]) rfl e34 (am rfl)) (Line2_calls w47 k46 (sp (nameL e.kind) ([111, 107] : List UInt8)) (Lib.itoa e.conn) n48.at_ (by (try simp only [sp_len]); omega)) (fun v51 w52 h50 => ?_)
        obtain ⟨rfl, h50f⟩ := h50
        have h50z := h50f.size
        refine l_v (v := .string ⟨(sp (sp (nameL e.kind) ([111, 107] : List UInt8)) (Lib.itoa e.conn)).toArray⟩) rfl rfl (by kernel_rfl) ?_
        refine l_nil ?_
        refine n_block ?_
        refine n_then ?_
        refine wp_seq ?_
        refine r_start ?_
        refine l_v (v := .string ⟨(sp (sp (nameL e.kind) ([111, 107] : List UInt8)) (Lib.itoa e.conn)).toArray⟩) rfl rfl (by kernel_rfl) ?_
        refine l_v (v := .string ⟨(sp (sp (nameL e.kind) ([111, 107] : List UInt8)) (Lib.itoa e.conn)).toArray⟩) rfl rfl (by kernel_rfl) ?_
        refine l_v (v := .bool true) rfl rfl (by kernel_rfl) ?_
        refine l_nil ?_
        refine n_then ?_
        refine wp_ret ?_
        have hend : rwLine e = (sp (sp (nameL e.kind) ([111, 107] : List UInt8)) (Lib.itoa e.conn), true) := by rw [show rwLine e = (rwText e, true) from if_neg hbad]; simp [rwText, okW, errorW, openW, endedW, hc18, hc40]
        have hE53 : Fr [] w w52 := ((hE49.trans n48.fr).trans h50f)
        have hE53z := hE53.size
        exact end_ret (v := .tuple #[.string ⟨(sp (sp (nameL e.kind) ([111, 107] : List UInt8)) (Lib.itoa e.conn)).toArray⟩, .bool true]) (res2 rfl rfl rfl) ⟨_, rfl, ⟨by rw [hend], hE53⟩⟩
      · try simp only [decide_eq_true_eq, decide_eq_false_iff_not, Bool.and_eq_true, Bool.or_eq_true, Bool.and_eq_false_iff, Bool.or_eq_false_iff, Bool.not_eq_true', Bool.not_eq_false', beq_iff_eq, bne_iff_ne, ne_eq, beq_eq_false_iff_ne, bne_eq_false_iff_eq, gt_iff_lt, ge_iff_le, Int.not_lt, Int.not_le] at hc40
        refine wp_seq ?_
        refine r_start ?_
        refine l_v (v := .bool (e.kind == (5 : Int))) rfl rfl (by kernel_rfl) ?_
        refine l_v (v := .bool (e.kind == (5 : Int))) rfl rfl (by kernel_rfl) ?_
        refine l_nil ?_
        refine n_then ?_
        refine c_cond (e := (e.kind == (5 : Int))) rfl (fun hc54 => ?_) (fun hc54 => ?_)
        · try simp only [decide_eq_true_eq, decide_eq_false_iff_not, Bool.and_eq_true, Bool.or_eq_true, Bool.and_eq_false_iff, Bool.or_eq_false_iff, Bool.not_eq_true', Bool.not_eq_false', beq_iff_eq, bne_iff_ne, ne_eq, beq_eq_false_iff_ne, bne_eq_false_iff_eq, gt_iff_lt, ge_iff_le, Int.not_lt, Int.not_le] at hc54
          refine r_start ?_
          refine l_v (v := .string ⟨(sp (nameL e.kind) ([111, 107] : List UInt8)).toArray⟩) rfl rfl (by kernel_rfl) ?_
          refine l_v (v := .pointer (some ⟨k1, 3, none⟩)) rfl rfl (r_field rfl rfl Tryz.underlying49 rfl (by kernel_rfl) rfl) ?_
          refine l_v (v := .int .i64 e.n) rfl rfl (r_load rfl rfl Tryz.underlying3 rfl (cell_at hb39 rfl)) ?_
          have hE55 : Fr [] w w38 := ((hE35.trans n34.fr).trans h36f)
          have hE55z := hE55.size
          have hd56 := hg.fr0 hE55
          refine l_call rfl rfl (r_call (args := #[.int .i64 e.n]) rfl e35 (am rfl)) (Itoa_does e.n w38 hd56 (by omega) (by omega)) (fun v58 w59 h57 => ?_)
          obtain ⟨rfl, h57f⟩ := h57
          have h57z := h57f.size
          refine l_new (fun k_ => .slice (some ⟨k_, 0, none⟩) 2 2) rfl rfl (by kernel_rfl) (ob := .cells #[.string ⟨(sp (nameL e.kind) ([111, 107] : List UInt8)).toArray⟩, .string ⟨(Lib.itoa e.n).toArray⟩] 9) (fun k60 w61 n62 => ?_)
          have hE63 : Fr [] w w59 := (hE55.trans h57f)
          have hE63z := hE63.size
          have n62k := n62.hk; have n62z := n62.sz
          refine l_call rfl rfl (r_call (args := #[.slice (some ⟨k60, 0, none⟩) 2 2]) rfl e34 (am rfl)) (Line2_calls w61 k60 (sp (nameL e.kind) ([111, 107] : List UInt8)) (Lib.itoa e.n) n62.at_ (by (try simp only [sp_len]); omega)) (fun v65 w66 h64 => ?_)
          obtain ⟨rfl, h64f⟩ := h64
          have h64z := h64f.size
          refine l_v (v := .string ⟨(sp (sp (nameL e.kind) ([111, 107] : List UInt8)) (Lib.itoa e.n)).toArray⟩) rfl rfl (by kernel_rfl) ?_
          refine l_nil ?_
          refine n_block ?_
          refine n_then ?_
          refine wp_seq ?_
          refine r_start ?_
          refine l_v (v := .string ⟨(sp (sp (nameL e.kind) ([111, 107] : List UInt8)) (Lib.itoa e.n)).toArray⟩) rfl rfl (by kernel_rfl) ?_
          refine l_v (v := .string ⟨(sp (sp (nameL e.kind) ([111, 107] : List UInt8)) (Lib.itoa e.n)).toArray⟩) rfl rfl (by kernel_rfl) ?_
          refine l_v (v := .bool true) rfl rfl (by kernel_rfl) ?_
          refine l_nil ?_
          refine n_then ?_
          refine wp_ret ?_
          have hend : rwLine e = (sp (sp (nameL e.kind) ([111, 107] : List UInt8)) (Lib.itoa e.n), true) := by rw [show rwLine e = (rwText e, true) from if_neg hbad]; simp [rwText, okW, errorW, openW, endedW, hc18, hc40, hc54]
          have hE67 : Fr [] w w66 := ((hE63.trans n62.fr).trans h64f)
          have hE67z := hE67.size
          exact end_ret (v := .tuple #[.string ⟨(sp (sp (nameL e.kind) ([111, 107] : List UInt8)) (Lib.itoa e.n)).toArray⟩, .bool true]) (res2 rfl rfl rfl) ⟨_, rfl, ⟨by rw [hend], hE67⟩⟩
        · try simp only [decide_eq_true_eq, decide_eq_false_iff_not, Bool.and_eq_true, Bool.or_eq_true, Bool.and_eq_false_iff, Bool.or_eq_false_iff, Bool.not_eq_true', Bool.not_eq_false', beq_iff_eq, bne_iff_ne, ne_eq, beq_eq_false_iff_ne, bne_eq_false_iff_eq, gt_iff_lt, ge_iff_le, Int.not_lt, Int.not_le] at hc54
          refine wp_seq ?_
          refine r_start ?_
          refine l_v (v := .bool (e.kind == (2 : Int))) rfl rfl (by kernel_rfl) ?_
          refine l_v (v := .bool (e.kind == (2 : Int))) rfl rfl (by kernel_rfl) ?_
          refine l_nil ?_
          refine n_then ?_
          refine c_cond (e := (e.kind == (2 : Int))) rfl (fun hc68 => ?_) (fun hc68 => ?_)
          · try simp only [decide_eq_true_eq, decide_eq_false_iff_not, Bool.and_eq_true, Bool.or_eq_true, Bool.and_eq_false_iff, Bool.or_eq_false_iff, Bool.not_eq_true', Bool.not_eq_false', beq_iff_eq, bne_iff_ne, ne_eq, beq_eq_false_iff_ne, bne_eq_false_iff_eq, gt_iff_lt, ge_iff_le, Int.not_lt, Int.not_le] at hc68
            refine wp_seq ?_
            refine r_start ?_
            refine l_v (v := .string ⟨([111, 112, 101, 110] : List UInt8).toArray⟩) rfl rfl (by kernel_rfl) ?_
            refine l_nil ?_
            refine n_then ?_
            refine wp_seq ?_
            refine wp_seq ?_
            refine r_start ?_
            refine l_v (v := .pointer (some ⟨k1, 5, none⟩)) rfl rfl (r_field rfl rfl Tryz.underlying49 rfl (by kernel_rfl) rfl) ?_
            refine l_v (v := .bool e.ended) rfl rfl (r_load rfl rfl Tryz.underlying4 rfl (cell_at hb39 rfl)) ?_
            refine l_nil ?_
            refine n_then ?_
            refine c_cond (e := e.ended) rfl (fun hc69 => ?_) (fun hc69 => ?_)
            · try simp only [decide_eq_true_eq, decide_eq_false_iff_not, Bool.and_eq_true, Bool.or_eq_true, Bool.and_eq_false_iff, Bool.or_eq_false_iff, Bool.not_eq_true', Bool.not_eq_false', beq_iff_eq, bne_iff_ne, ne_eq, beq_eq_false_iff_ne, bne_eq_false_iff_eq, gt_iff_lt, ge_iff_le, Int.not_lt, Int.not_le] at hc69
              refine r_start ?_
              refine l_v (v := .string ⟨([101, 110, 100, 101, 100] : List UInt8).toArray⟩) rfl rfl (by kernel_rfl) ?_
              refine l_nil ?_
              refine n_then ?_
              refine r_start ?_
              refine l_v (v := .string ⟨(sp (nameL e.kind) ([111, 107] : List UInt8)).toArray⟩) rfl rfl (by kernel_rfl) ?_
              refine l_v (v := .pointer (some ⟨k1, 4, none⟩)) rfl rfl (r_field rfl rfl Tryz.underlying49 rfl (by kernel_rfl) rfl) ?_
              refine l_v (v := .slice A1 e.data.length c1) rfl rfl (r_load rfl rfl Tryz.underlying47 rfl (cell_at hb39 rfl)) ?_
              have hE70 : Fr [] w w38 := ((hE35.trans n34.fr).trans h36f)
              have hE70z := hE70.size
              have hd71 := hel1.fr0 hE70
              refine l_call rfl rfl (r_call (args := #[.slice A1 e.data.length c1]) rfl e25 (am rfl)) (Quote_calls w38 _ _ e.data ⟨_, _, rfl, hc1, hd71⟩ (by omega)) (fun v73 w74 h72 => ?_)
              obtain ⟨rfl, h72f⟩ := h72
              have h72z := h72f.size
              refine l_v (v := .string ⟨([101, 110, 100, 101, 100] : List UInt8).toArray⟩) rfl rfl (by kernel_rfl) ?_
              refine l_new (fun k_ => .slice (some ⟨k_, 0, none⟩) 3 3) rfl rfl (by kernel_rfl) (ob := .cells #[.string ⟨(sp (nameL e.kind) ([111, 107] : List UInt8)).toArray⟩, .string ⟨(quoteL e.data).toArray⟩, .string ⟨([101, 110, 100, 101, 100] : List UInt8).toArray⟩] 9) (fun k75 w76 n77 => ?_)
              have hE78 : Fr [] w w74 := (hE70.trans h72f)
              have hE78z := hE78.size
              have n77k := n77.hk; have n77z := n77.sz
              refine l_call rfl rfl (r_call (args := #[.slice (some ⟨k75, 0, none⟩) 3 3]) rfl e34 (am rfl)) (Line3_calls w76 k75 (sp (nameL e.kind) ([111, 107] : List UInt8)) (quoteL e.data) ([101, 110, 100, 101, 100] : List UInt8) n77.at_ (by (try simp only [sp_len]); omega)) (fun v80 w81 h79 => ?_)
              obtain ⟨rfl, h79f⟩ := h79
              have h79z := h79f.size
              refine l_v (v := .string ⟨(sp (sp (nameL e.kind) ([111, 107] : List UInt8)) (sp (quoteL e.data) ([101, 110, 100, 101, 100] : List UInt8))).toArray⟩) rfl rfl (by kernel_rfl) ?_
              refine l_nil ?_
              refine n_block ?_
              refine n_then ?_
              refine wp_seq ?_
              refine r_start ?_
              refine l_v (v := .string ⟨(sp (sp (nameL e.kind) ([111, 107] : List UInt8)) (sp (quoteL e.data) ([101, 110, 100, 101, 100] : List UInt8))).toArray⟩) rfl rfl (by kernel_rfl) ?_
              refine l_v (v := .string ⟨(sp (sp (nameL e.kind) ([111, 107] : List UInt8)) (sp (quoteL e.data) ([101, 110, 100, 101, 100] : List UInt8))).toArray⟩) rfl rfl (by kernel_rfl) ?_
              refine l_v (v := .bool true) rfl rfl (by kernel_rfl) ?_
              refine l_nil ?_
              refine n_then ?_
              refine wp_ret ?_
              have hend : rwLine e = (sp (sp (nameL e.kind) ([111, 107] : List UInt8)) (sp (quoteL e.data) ([101, 110, 100, 101, 100] : List UInt8)), true) := by rw [show rwLine e = (rwText e, true) from if_neg hbad]; simp [rwText, okW, errorW, openW, endedW, hc18, hc40, hc54, hc68, hc69]
              have hE82 : Fr [] w w81 := ((hE78.trans n77.fr).trans h79f)
              have hE82z := hE82.size
              exact end_ret (v := .tuple #[.string ⟨(sp (sp (nameL e.kind) ([111, 107] : List UInt8)) (sp (quoteL e.data) ([101, 110, 100, 101, 100] : List UInt8))).toArray⟩, .bool true]) (res2 rfl rfl rfl) ⟨_, rfl, ⟨by rw [hend], hE82⟩⟩
            · try simp only [decide_eq_true_eq, decide_eq_false_iff_not, Bool.and_eq_true, Bool.or_eq_true, Bool.and_eq_false_iff, Bool.or_eq_false_iff, Bool.not_eq_true', Bool.not_eq_false', beq_iff_eq, bne_iff_ne, ne_eq, beq_eq_false_iff_ne, bne_eq_false_iff_eq, gt_iff_lt, ge_iff_le, Int.not_lt, Int.not_le] at hc69
              refine wp_skip ?_
              refine n_then ?_
              refine r_start ?_
              refine l_v (v := .string ⟨(sp (nameL e.kind) ([111, 107] : List UInt8)).toArray⟩) rfl rfl (by kernel_rfl) ?_
              refine l_v (v := .pointer (some ⟨k1, 4, none⟩)) rfl rfl (r_field rfl rfl Tryz.underlying49 rfl (by kernel_rfl) rfl) ?_
              refine l_v (v := .slice A1 e.data.length c1) rfl rfl (r_load rfl rfl Tryz.underlying47 rfl (cell_at hb39 rfl)) ?_
              have hE83 : Fr [] w w38 := ((hE35.trans n34.fr).trans h36f)
              have hE83z := hE83.size
              have hd84 := hel1.fr0 hE83
              refine l_call rfl rfl (r_call (args := #[.slice A1 e.data.length c1]) rfl e25 (am rfl)) (Quote_calls w38 _ _ e.data ⟨_, _, rfl, hc1, hd84⟩ (by omega)) (fun v86 w87 h85 => ?_)
              obtain ⟨rfl, h85f⟩ := h85
              have h85z := h85f.size
              refine l_v (v := .string ⟨([111, 112, 101, 110] : List UInt8).toArray⟩) rfl rfl (by kernel_rfl) ?_
              refine l_new (fun k_ => .slice (some ⟨k_, 0, none⟩) 3 3) rfl rfl (by kernel_rfl) (ob := .cells #[.string ⟨(sp (nameL e.kind) ([111, 107] : List UInt8)).toArray⟩, .string ⟨(quoteL e.data).toArray⟩, .string ⟨([111, 112, 101, 110] : List UInt8).toArray⟩] 9) (fun k88 w89 n90 => ?_)
              have hE91 : Fr [] w w87 := (hE83.trans h85f)
              have hE91z := hE91.size
              have n90k := n90.hk; have n90z := n90.sz
              refine l_call rfl rfl (r_call (args := #[.slice (some ⟨k88, 0, none⟩) 3 3]) rfl e34 (am rfl)) (Line3_calls w89 k88 (sp (nameL e.kind) ([111, 107] : List UInt8)) (quoteL e.data) ([111, 112, 101, 110] : List UInt8) n90.at_ (by (try simp only [sp_len]); omega)) (fun v93 w94 h92 => ?_)
              obtain ⟨rfl, h92f⟩ := h92
              have h92z := h92f.size
              refine l_v (v := .string ⟨(sp (sp (nameL e.kind) ([111, 107] : List UInt8)) (sp (quoteL e.data) ([111, 112, 101, 110] : List UInt8))).toArray⟩) rfl rfl (by kernel_rfl) ?_
              refine l_nil ?_
              refine n_block ?_
              refine n_then ?_
              refine wp_seq ?_
              refine r_start ?_
              refine l_v (v := .string ⟨(sp (sp (nameL e.kind) ([111, 107] : List UInt8)) (sp (quoteL e.data) ([111, 112, 101, 110] : List UInt8))).toArray⟩) rfl rfl (by kernel_rfl) ?_
              refine l_v (v := .string ⟨(sp (sp (nameL e.kind) ([111, 107] : List UInt8)) (sp (quoteL e.data) ([111, 112, 101, 110] : List UInt8))).toArray⟩) rfl rfl (by kernel_rfl) ?_
              refine l_v (v := .bool true) rfl rfl (by kernel_rfl) ?_
              refine l_nil ?_
              refine n_then ?_
              refine wp_ret ?_
              have hend : rwLine e = (sp (sp (nameL e.kind) ([111, 107] : List UInt8)) (sp (quoteL e.data) ([111, 112, 101, 110] : List UInt8)), true) := by rw [show rwLine e = (rwText e, true) from if_neg hbad]; simp [rwText, okW, errorW, openW, endedW, hc18, hc40, hc54, hc68, hc69]
              have hE95 : Fr [] w w94 := ((hE91.trans n90.fr).trans h92f)
              have hE95z := hE95.size
              exact end_ret (v := .tuple #[.string ⟨(sp (sp (nameL e.kind) ([111, 107] : List UInt8)) (sp (quoteL e.data) ([111, 112, 101, 110] : List UInt8))).toArray⟩, .bool true]) (res2 rfl rfl rfl) ⟨_, rfl, ⟨by rw [hend], hE95⟩⟩
          · try simp only [decide_eq_true_eq, decide_eq_false_iff_not, Bool.and_eq_true, Bool.or_eq_true, Bool.and_eq_false_iff, Bool.or_eq_false_iff, Bool.not_eq_true', Bool.not_eq_false', beq_iff_eq, bne_iff_ne, ne_eq, beq_eq_false_iff_ne, bne_eq_false_iff_eq, gt_iff_lt, ge_iff_le, Int.not_lt, Int.not_le] at hc68
            refine wp_skip ?_
            refine n_block ?_
            refine n_then ?_
            refine wp_seq ?_
            refine r_start ?_
            refine l_v (v := .string ⟨(sp (nameL e.kind) ([111, 107] : List UInt8)).toArray⟩) rfl rfl (by kernel_rfl) ?_
            refine l_v (v := .string ⟨(sp (nameL e.kind) ([111, 107] : List UInt8)).toArray⟩) rfl rfl (by kernel_rfl) ?_
            refine l_v (v := .bool true) rfl rfl (by kernel_rfl) ?_
            refine l_nil ?_
            refine n_then ?_
            refine wp_ret ?_
            have hend : rwLine e = (sp (nameL e.kind) ([111, 107] : List UInt8), true) := by rw [show rwLine e = (rwText e, true) from if_neg hbad]; simp [rwText, okW, errorW, openW, endedW, hc18, hc40, hc54, hc68]
            have hE96 : Fr [] w w38 := ((hE35.trans n34.fr).trans h36f)
            have hE96z := hE96.size
            exact end_ret (v := .tuple #[.string ⟨(sp (nameL e.kind) ([111, 107] : List UInt8)).toArray⟩, .bool true]) (res2 rfl rfl rfl) ⟨_, rfl, ⟨by rw [hend], hE96⟩⟩

end Go.Proofs.YtmhljojgdfmjaaaGreatDoor
