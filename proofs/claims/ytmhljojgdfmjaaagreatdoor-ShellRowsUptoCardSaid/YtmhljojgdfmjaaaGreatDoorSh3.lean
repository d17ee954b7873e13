/- walks -/
import Derived.Test.YtmhljojgdfmjaaaGreatDoorSh1
import Derived.Test.YtmhljojgdfmjaaaGreatDoorSh2
namespace Go.Proofs.YtmhljojgdfmjaaaGreatDoor
open Go.E
set_option linter.unusedVariables false
set_option linter.unusedSimpArgs false
set_option maxRecDepth 100000
set_option maxHeartbeats 1000000
open Go.Sh
/-- shell.eventLine -/
theorem eventLine_calls (w : World) (hg : Glob w) (ok : Nat → Prop) (cs : List Value) (e : Ev) (he : EvK ok w cs e) :
    Does Tryz.prog 27 #[.agg cs.toArray] w fun r w' => r = .tuple #[.string ⟨(evLine e).1.toArray⟩, .bool (evLine e).2] ∧ Fr [] w w' := by
  obtain ⟨A1, c1, A2, c2, rfl, hc1, hel1, hc2, hel2, hfit⟩ := he
  obtain ⟨⟨hk1, hk2⟩, ⟨ho1, ho2⟩, ⟨hn1, hn2⟩, hdl, hpl, hps⟩ := id hfit
  have hki : i64 e.kind := ⟨hk1, hk2⟩
  have hgz := hg.sz
  refine Does.of (fn_in (l := [.agg #[.int .i64 e.kind, .int .i64 e.conn, .int .i64 e.n, .slice A1 e.data.length c1, .slice A2 e.picks.length c2]]) Tryz.func27 rfl Tryz.ntmps27 rfl ?_)
  refine wp_seq ?_
  refine r_start ?_
  refine l_new (fun k_ => .pointer (some ⟨k_, 0, none⟩)) rfl rfl (by kernel_rfl) (ob := .cells #[.int .i64 e.kind, .int .i64 e.conn, .int .i64 e.n, .slice A1 e.data.length c1, .slice A2 e.picks.length c2] 66) (fun k1 w2 n3 => ?_)
  have n3k := n3.hk; have n3z := n3.sz
  refine l_v (v := .string ⟨([] : List UInt8).toArray⟩) rfl rfl (by kernel_rfl) ?_
  refine l_v (v := .bool false) rfl rfl (by kernel_rfl) ?_
  refine l_nil ?_
  refine n_then ?_
  refine wp_seq ?_
  refine r_start ?_
  refine l_v (v := .pointer (some ⟨k1, 0, none⟩)) rfl rfl (r_field rfl rfl Tryz.underlying66 rfl (by kernel_rfl) rfl) ?_
  refine l_v (v := .int .i64 e.kind) rfl rfl (r_load rfl rfl Tryz.underlying3 rfl (cell_at n3.at_ rfl)) ?_
  have hE4 : Fr [] w w2 := ((Fr.refl [] w).trans n3.fr)
  have hE4z := hE4.size
  have hd5 := hg.fr0 hE4
  refine l_call rfl rfl (r_call (args := #[.int .i64 e.kind]) rfl e33 (am rfl)) (Name_calls w2 hd5 e.kind (by assumption)) (fun v7 w8 h6 => ?_)
  obtain ⟨rfl, h6f⟩ := h6
  have h6z := h6f.size
  refine l_v (v := .string ⟨(nameL e.kind).toArray⟩) rfl rfl (by kernel_rfl) ?_
  refine l_nil ?_
  refine n_then ?_
  refine wp_seq ?_
  refine r_start ?_
  refine l_v (v := .pointer (some ⟨k1, 0, none⟩)) rfl rfl (r_field rfl rfl Tryz.underlying66 rfl (by kernel_rfl) rfl) ?_
  have hb9 := (h6f.at0 n3.at_)
  refine l_v (v := .int .i64 e.kind) rfl rfl (r_load rfl rfl Tryz.underlying3 rfl (cell_at hb9 rfl)) ?_
  refine l_v (v := .bool (e.kind == (2 : Int))) rfl rfl (by kernel_rfl) ?_
  refine l_v (v := .bool (e.kind == (2 : Int))) rfl rfl (by kernel_rfl) ?_
  refine l_g (v := .pointer (some ⟨k1, 0, none⟩)) (want_1 rfl rfl rfl rfl) rfl (fun hW_ => (r_field rfl rfl Tryz.underlying66 rfl (by kernel_rfl) rfl)) ?_
  refine l_g (v := .int .i64 e.kind) (want_1 rfl rfl rfl rfl) rfl (fun hW_ => (r_load rfl (gd_true hW_ _) Tryz.underlying3 rfl (cell_at hb9 rfl))) ?_
  refine l_g (v := .bool (e.kind == (3 : Int))) (want_1 rfl rfl rfl rfl) rfl (fun hW_ => (r_cmp rfl (gd_true hW_ _) rfl rfl)) ?_
  refine l_v (v := .bool (((e.kind == (2 : Int)) || (e.kind == (3 : Int))))) rfl rfl (r_pick rfl rfl (pick_or _ _)) ?_
  refine l_v (v := .bool (((e.kind == (2 : Int)) || (e.kind == (3 : Int))))) rfl rfl (by kernel_rfl) ?_
  refine l_nil ?_
  refine n_then ?_
  refine wp_seq ?_
  refine r_start ?_
  refine l_v (v := .pointer (some ⟨k1, 0, none⟩)) rfl rfl (r_field rfl rfl Tryz.underlying66 rfl (by kernel_rfl) rfl) ?_
  refine l_v (v := .int .i64 e.kind) rfl rfl (r_load rfl rfl Tryz.underlying3 rfl (cell_at hb9 rfl)) ?_
  refine l_v (v := .bool (e.kind == (4 : Int))) rfl rfl (by kernel_rfl) ?_
  refine l_v (v := .bool (e.kind == (4 : Int))) rfl rfl (by kernel_rfl) ?_
  refine l_g (v := .pointer (some ⟨k1, 0, none⟩)) (want_1 rfl rfl rfl rfl) rfl (fun hW_ => (r_field rfl rfl Tryz.underlying66 rfl (by kernel_rfl) rfl)) ?_
  refine l_g (v := .int .i64 e.kind) (want_1 rfl rfl rfl rfl) rfl (fun hW_ => (r_load rfl (gd_true hW_ _) Tryz.underlying3 rfl (cell_at hb9 rfl))) ?_
  refine l_g (v := .bool (e.kind == (6 : Int))) (want_1 rfl rfl rfl rfl) rfl (fun hW_ => (r_cmp rfl (gd_true hW_ _) rfl rfl)) ?_
  refine l_v (v := .bool (((e.kind == (4 : Int)) || (e.kind == (6 : Int))))) rfl rfl (r_pick rfl rfl (pick_or _ _)) ?_
  refine l_v (v := .bool (((e.kind == (4 : Int)) || (e.kind == (6 : Int))))) rfl rfl (by kernel_rfl) ?_
  refine l_g (v := .pointer (some ⟨k1, 0, none⟩)) (want_1 rfl rfl rfl rfl) rfl (fun hW_ => (r_field rfl rfl Tryz.underlying66 rfl (by kernel_rfl) rfl)) ?_
  refine l_g (v := .int .i64 e.kind) (want_1 rfl rfl rfl rfl) rfl (fun hW_ => (r_load rfl (gd_true hW_ _) Tryz.underlying3 rfl (cell_at hb9 rfl))) ?_
  refine l_g (v := .bool (e.kind == (7 : Int))) (want_1 rfl rfl rfl rfl) rfl (fun hW_ => (r_cmp rfl (gd_true hW_ _) rfl rfl)) ?_
  refine l_v (v := .bool (((((e.kind == (4 : Int)) || (e.kind == (6 : Int)))) || (e.kind == (7 : Int))))) rfl rfl (r_pick rfl rfl (pick_or _ _)) ?_
  refine l_v (v := .bool (((((e.kind == (4 : Int)) || (e.kind == (6 : Int)))) || (e.kind == (7 : Int))))) rfl rfl (by kernel_rfl) ?_
  refine l_g (v := .pointer (some ⟨k1, 0, none⟩)) (want_1 rfl rfl rfl rfl) rfl (fun hW_ => (r_field rfl rfl Tryz.underlying66 rfl (by kernel_rfl) rfl)) ?_
  refine l_g (v := .int .i64 e.kind) (want_1 rfl rfl rfl rfl) rfl (fun hW_ => (r_load rfl (gd_true hW_ _) Tryz.underlying3 rfl (cell_at hb9 rfl))) ?_
  refine l_g (v := .bool (e.kind == (8 : Int))) (want_1 rfl rfl rfl rfl) rfl (fun hW_ => (r_cmp rfl (gd_true hW_ _) rfl rfl)) ?_
  refine l_v (v := .bool (((((((e.kind == (4 : Int)) || (e.kind == (6 : Int)))) || (e.kind == (7 : Int)))) || (e.kind == (8 : Int))))) rfl rfl (r_pick rfl rfl (pick_or _ _)) ?_
  refine l_v (v := .bool (((((((e.kind == (4 : Int)) || (e.kind == (6 : Int)))) || (e.kind == (7 : Int)))) || (e.kind == (8 : Int))))) rfl rfl (by kernel_rfl) ?_
  refine l_nil ?_
  refine n_then ?_
  refine wp_seq ?_
  refine wp_seq ?_
  refine r_start ?_
  refine l_v (v := .string ⟨(nameL e.kind).toArray⟩) rfl rfl (by kernel_rfl) ?_
  refine l_v (v := .bool (decide (nameL e.kind = ([] : List UInt8)))) rfl rfl (r_str_eql rfl rfl rfl) ?_
  refine l_v (v := .bool (decide (nameL e.kind = ([] : List UInt8)))) rfl rfl (by kernel_rfl) ?_
  refine l_g (v := .bool (((e.kind == (2 : Int)) || (e.kind == (3 : Int))))) (want_1 rfl rfl rfl rfl) rfl (fun hW_ => (by kernel_rfl)) ?_
  refine l_g (v := .bool ((!(((e.kind == (2 : Int)) || (e.kind == (3 : Int))))))) (want_1 rfl rfl rfl rfl) rfl (fun hW_ => (r_not rfl (gd_true hW_ _))) ?_
  refine l_g (v := .bool ((!(((e.kind == (2 : Int)) || (e.kind == (3 : Int))))))) (want_1 rfl rfl rfl rfl) rfl (fun hW_ => (r_mv rfl (gd_true hW_ _))) ?_
  refine l_g (v := .pointer (some ⟨k1, 1, none⟩)) (want_of rfl rfl rfl rfl) rfl (fun hW_ => (r_field rfl rfl Tryz.underlying66 rfl (by kernel_rfl) rfl)) ?_
  refine l_g (v := .int .i64 e.conn) (want_of rfl rfl rfl rfl) rfl (fun hW_ => (r_load rfl (gd_true hW_ _) Tryz.underlying3 rfl (cell_at hb9 rfl))) ?_
  refine l_g (v := .bool (e.conn != (0 : Int))) (want_of rfl rfl rfl rfl) rfl (fun hW_ => (r_cmp rfl (gd_true hW_ _) rfl rfl)) ?_
  refine l_g (v := .bool ((((!(((e.kind == (2 : Int)) || (e.kind == (3 : Int)))))) && (e.conn != (0 : Int))))) (want_1 rfl rfl rfl rfl) rfl (fun hW_ => (r_pick rfl (gd_true hW_ _) (pick_and' hW_ _ _))) ?_
  refine l_v (v := .bool (((decide (nameL e.kind = ([] : List UInt8))) || ((((!(((e.kind == (2 : Int)) || (e.kind == (3 : Int)))))) && (e.conn != (0 : Int))))))) rfl rfl (r_pick rfl rfl (pick_or _ _)) ?_
  refine l_v (v := .bool (((decide (nameL e.kind = ([] : List UInt8))) || ((((!(((e.kind == (2 : Int)) || (e.kind == (3 : Int)))))) && (e.conn != (0 : Int))))))) rfl rfl (by kernel_rfl) ?_
  refine l_g (v := .bool (((((((e.kind == (4 : Int)) || (e.kind == (6 : Int)))) || (e.kind == (7 : Int)))) || (e.kind == (8 : Int))))) (want_1 rfl rfl rfl rfl) rfl (fun hW_ => (by kernel_rfl)) ?_
  refine l_g (v := .bool ((!(((((((e.kind == (4 : Int)) || (e.kind == (6 : Int)))) || (e.kind == (7 : Int)))) || (e.kind == (8 : Int))))))) (want_1 rfl rfl rfl rfl) rfl (fun hW_ => (r_not rfl (gd_true hW_ _))) ?_
  refine l_g (v := .bool ((!(((((((e.kind == (4 : Int)) || (e.kind == (6 : Int)))) || (e.kind == (7 : Int)))) || (e.kind == (8 : Int))))))) (want_1 rfl rfl rfl rfl) rfl (fun hW_ => (r_mv rfl (gd_true hW_ _))) ?_
  refine l_g (v := .pointer (some ⟨k1, 2, none⟩)) (want_of rfl rfl rfl rfl) rfl (fun hW_ => (r_field rfl rfl Tryz.underlying66 rfl (by kernel_rfl) rfl)) ?_
  refine l_g (v := .int .i64 e.n) (want_of rfl rfl rfl rfl) rfl (fun hW_ => (r_load rfl (gd_true hW_ _) Tryz.underlying3 rfl (cell_at hb9 rfl))) ?_
  refine l_g (v := .bool (e.n != (0 : Int))) (want_of rfl rfl rfl rfl) rfl (fun hW_ => (r_cmp rfl (gd_true hW_ _) rfl rfl)) ?_
  refine l_g (v := .bool ((((!(((((((e.kind == (4 : Int)) || (e.kind == (6 : Int)))) || (e.kind == (7 : Int)))) || (e.kind == (8 : Int)))))) && (e.n != (0 : Int))))) (want_1 rfl rfl rfl rfl) rfl (fun hW_ => (r_pick rfl (gd_true hW_ _) (pick_and' hW_ _ _))) ?_
  refine l_v (v := .bool (((((decide (nameL e.kind = ([] : List UInt8))) || ((((!(((e.kind == (2 : Int)) || (e.kind == (3 : Int)))))) && (e.conn != (0 : Int)))))) || ((((!(((((((e.kind == (4 : Int)) || (e.kind == (6 : Int)))) || (e.kind == (7 : Int)))) || (e.kind == (8 : Int)))))) && (e.n != (0 : Int))))))) rfl rfl (r_pick rfl rfl (pick_or _ _)) ?_
  refine l_v (v := .bool (((((decide (nameL e.kind = ([] : List UInt8))) || ((((!(((e.kind == (2 : Int)) || (e.kind == (3 : Int)))))) && (e.conn != (0 : Int)))))) || ((((!(((((((e.kind == (4 : Int)) || (e.kind == (6 : Int)))) || (e.kind == (7 : Int)))) || (e.kind == (8 : Int)))))) && (e.n != (0 : Int))))))) rfl rfl (by kernel_rfl) ?_
  refine l_g (v := .pointer (some ⟨k1, 0, none⟩)) (want_1 rfl rfl rfl rfl) rfl (fun hW_ => (r_field rfl rfl Tryz.underlying66 rfl (by kernel_rfl) rfl)) ?_
  refine l_g (v := .int .i64 e.kind) (want_1 rfl rfl rfl rfl) rfl (fun hW_ => (r_load rfl (gd_true hW_ _) Tryz.underlying3 rfl (cell_at hb9 rfl))) ?_
  refine l_g (v := .bool (e.kind != (2 : Int))) (want_1 rfl rfl rfl rfl) rfl (fun hW_ => (r_cmp rfl (gd_true hW_ _) rfl rfl)) ?_
  refine l_g (v := .bool (e.kind != (2 : Int))) (want_1 rfl rfl rfl rfl) rfl (fun hW_ => (r_mv rfl (gd_true hW_ _))) ?_
  refine l_g (v := .pointer (some ⟨k1, 3, none⟩)) (want_of rfl rfl rfl rfl) rfl (fun hW_ => (r_field rfl rfl Tryz.underlying66 rfl (by kernel_rfl) rfl)) ?_
  refine l_g (v := .slice A1 e.data.length c1) (want_of rfl rfl rfl rfl) rfl (fun hW_ => (r_load rfl (gd_true hW_ _) Tryz.underlying47 rfl (cell_at hb9 rfl))) ?_
  refine l_g (v := .int .i64 ((e.data.length : Nat) : Int)) (want_of rfl rfl rfl rfl) rfl (fun hW_ => (r_len rfl (gd_true hW_ _) Tryz.underlying47)) ?_
  refine l_g (v := .bool (decide (((e.data.length : Nat) : Int) > (0 : Int)))) (want_of rfl rfl rfl rfl) rfl (fun hW_ => (r_cmp rfl (gd_true hW_ _) rfl rfl)) ?_
  refine l_g (v := .bool (((e.kind != (2 : Int)) && (decide (((e.data.length : Nat) : Int) > (0 : Int)))))) (want_1 rfl rfl rfl rfl) rfl (fun hW_ => (r_pick rfl (gd_true hW_ _) (pick_and' hW_ _ _))) ?_
  refine l_v (v := .bool (((((((decide (nameL e.kind = ([] : List UInt8))) || ((((!(((e.kind == (2 : Int)) || (e.kind == (3 : Int)))))) && (e.conn != (0 : Int)))))) || ((((!(((((((e.kind == (4 : Int)) || (e.kind == (6 : Int)))) || (e.kind == (7 : Int)))) || (e.kind == (8 : Int)))))) && (e.n != (0 : Int)))))) || (((e.kind != (2 : Int)) && (decide (((e.data.length : Nat) : Int) > (0 : Int)))))))) rfl rfl (r_pick rfl rfl (pick_or _ _)) ?_
  refine l_v (v := .bool (((((((decide (nameL e.kind = ([] : List UInt8))) || ((((!(((e.kind == (2 : Int)) || (e.kind == (3 : Int)))))) && (e.conn != (0 : Int)))))) || ((((!(((((((e.kind == (4 : Int)) || (e.kind == (6 : Int)))) || (e.kind == (7 : Int)))) || (e.kind == (8 : Int)))))) && (e.n != (0 : Int)))))) || (((e.kind != (2 : Int)) && (decide (((e.data.length : Nat) : Int) > (0 : Int)))))))) rfl rfl (by kernel_rfl) ?_
  refine l_g (v := .pointer (some ⟨k1, 0, none⟩)) (want_1 rfl rfl rfl rfl) rfl (fun hW_ => (r_field rfl rfl Tryz.underlying66 rfl (by kernel_rfl) rfl)) ?_
  refine l_g (v := .int .i64 e.kind) (want_1 rfl rfl rfl rfl) rfl (fun hW_ => (r_load rfl (gd_true hW_ _) Tryz.underlying3 rfl (cell_at hb9 rfl))) ?_
  refine l_g (v := .bool (e.kind != (8 : Int))) (want_1 rfl rfl rfl rfl) rfl (fun hW_ => (r_cmp rfl (gd_true hW_ _) rfl rfl)) ?_
  refine l_g (v := .bool (e.kind != (8 : Int))) (want_1 rfl rfl rfl rfl) rfl (fun hW_ => (r_mv rfl (gd_true hW_ _))) ?_
  refine l_g (v := .pointer (some ⟨k1, 4, none⟩)) (want_of rfl rfl rfl rfl) rfl (fun hW_ => (r_field rfl rfl Tryz.underlying66 rfl (by kernel_rfl) rfl)) ?_
  refine l_g (v := .slice A2 e.picks.length c2) (want_of rfl rfl rfl rfl) rfl (fun hW_ => (r_load rfl (gd_true hW_ _) Tryz.underlying64 rfl (cell_at hb9 rfl))) ?_
  refine l_g (v := .int .i64 ((e.picks.length : Nat) : Int)) (want_of rfl rfl rfl rfl) rfl (fun hW_ => (r_len rfl (gd_true hW_ _) Tryz.underlying64)) ?_
  refine l_g (v := .bool (decide (((e.picks.length : Nat) : Int) > (0 : Int)))) (want_of rfl rfl rfl rfl) rfl (fun hW_ => (r_cmp rfl (gd_true hW_ _) rfl rfl)) ?_
  refine l_g (v := .bool (((e.kind != (8 : Int)) && (decide (((e.picks.length : Nat) : Int) > (0 : Int)))))) (want_1 rfl rfl rfl rfl) rfl (fun hW_ => (r_pick rfl (gd_true hW_ _) (pick_and' hW_ _ _))) ?_
  refine l_v (v := .bool (((((((((decide (nameL e.kind = ([] : List UInt8))) || ((((!(((e.kind == (2 : Int)) || (e.kind == (3 : Int)))))) && (e.conn != (0 : Int)))))) || ((((!(((((((e.kind == (4 : Int)) || (e.kind == (6 : Int)))) || (e.kind == (7 : Int)))) || (e.kind == (8 : Int)))))) && (e.n != (0 : Int)))))) || (((e.kind != (2 : Int)) && (decide (((e.data.length : Nat) : Int) > (0 : Int))))))) || (((e.kind != (8 : Int)) && (decide (((e.picks.length : Nat) : Int) > (0 : Int)))))))) rfl rfl (r_pick rfl rfl (pick_or _ _)) ?_
  refine l_nil ?_
  refine n_then ?_
  have hl1 := nameL_len e.kind
  have hl2 := quoteL_len e.data
  have hl3 := itoa_len (n := e.conn) ⟨ho1, ho2⟩
  have hl4 := itoa_len (n := e.n) ⟨hn1, hn2⟩
  have hl5 := text3_len hfit
  refine c_cond (e := ((((((((decide (nameL e.kind = ([] : List UInt8))) || ((((!(((e.kind == (2 : Int)) || (e.kind == (3 : Int)))))) && (e.conn != (0 : Int)))))) || ((((!(((((((e.kind == (4 : Int)) || (e.kind == (6 : Int)))) || (e.kind == (7 : Int)))) || (e.kind == (8 : Int)))))) && (e.n != (0 : Int)))))) || (((e.kind != (2 : Int)) && (decide (((e.data.length : Nat) : Int) > (0 : Int))))))) || (((e.kind != (8 : Int)) && (decide (((e.picks.length : Nat) : Int) > (0 : Int))))))) rfl (fun hc10 => ?_) (fun hc10 => ?_)
  · refine wp_seq ?_
    refine r_start ?_
    refine l_v (v := .string ⟨([] : List UInt8).toArray⟩) rfl rfl (by kernel_rfl) ?_
    refine l_v (v := .bool false) rfl rfl (by kernel_rfl) ?_
    refine l_nil ?_
    refine n_then ?_
    refine wp_ret ?_
    refine t_then ?_
    have hbad : evBad e = true := by unfold evBad isConn isNum; simp only [len_pos] at hc10; exact hc10
    have hE11 : Fr [] w w8 := (hE4.trans h6f)
    have hE11z := hE11.size
    exact end_ret (v := .tuple #[.string ⟨([] : List UInt8).toArray⟩, .bool false]) (res2 rfl rfl rfl) ⟨_, rfl, ⟨by rw [show evLine e = ([], false) from if_pos hbad], hE11⟩⟩
  · have hbad : ¬ evBad e = true := by rw [Bool.not_eq_true]; unfold evBad isConn isNum; simp only [len_pos] at hc10; exact hc10
    refine wp_skip ?_
    refine n_then ?_
    refine c_cut (fun a_ w_ => ∃ u_ : Nat → Value, ∃ s1 : List UInt8, a_ = mk [] 118 u_ [(4, .string ⟨(s1).toArray⟩), (0, .agg #[.int .i64 e.kind, .int .i64 e.conn, .int .i64 e.n, .slice A1 e.data.length c1, .slice A2 e.picks.length c2]), (1, .pointer (some ⟨k1, 0, none⟩)), (2, .string ⟨([] : List UInt8).toArray⟩), (3, .bool false), (5, .bool (((e.kind == (2 : Int)) || (e.kind == (3 : Int))))), (6, .bool (((((((e.kind == (4 : Int)) || (e.kind == (6 : Int)))) || (e.kind == (7 : Int)))) || (e.kind == (8 : Int))))), (9, .pointer (some ⟨k1, 0, none⟩)), (10, .int .i64 e.kind), (11, .string ⟨(nameL e.kind).toArray⟩), (12, .pointer (some ⟨k1, 0, none⟩)), (13, .int .i64 e.kind), (14, .bool (e.kind == (2 : Int))), (15, .bool (e.kind == (2 : Int))), (19, .bool (((e.kind == (2 : Int)) || (e.kind == (3 : Int))))), (20, .pointer (some ⟨k1, 0, none⟩)), (21, .int .i64 e.kind), (22, .bool (e.kind == (4 : Int))), (23, .bool (e.kind == (4 : Int))), (27, .bool (((e.kind == (4 : Int)) || (e.kind == (6 : Int))))), (28, .bool (((e.kind == (4 : Int)) || (e.kind == (6 : Int))))), (32, .bool (((((e.kind == (4 : Int)) || (e.kind == (6 : Int)))) || (e.kind == (7 : Int))))), (33, .bool (((((e.kind == (4 : Int)) || (e.kind == (6 : Int)))) || (e.kind == (7 : Int))))), (37, .bool (((((((e.kind == (4 : Int)) || (e.kind == (6 : Int)))) || (e.kind == (7 : Int)))) || (e.kind == (8 : Int))))), (38, .string ⟨(nameL e.kind).toArray⟩), (39, .bool (decide (nameL e.kind = ([] : List UInt8)))), (40, .bool (decide (nameL e.kind = ([] : List UInt8)))), (48, .bool (((decide (nameL e.kind = ([] : List UInt8))) || ((((!(((e.kind == (2 : Int)) || (e.kind == (3 : Int)))))) && (e.conn != (0 : Int))))))), (49, .bool (((decide (nameL e.kind = ([] : List UInt8))) || ((((!(((e.kind == (2 : Int)) || (e.kind == (3 : Int)))))) && (e.conn != (0 : Int))))))), (57, .bool (((((decide (nameL e.kind = ([] : List UInt8))) || ((((!(((e.kind == (2 : Int)) || (e.kind == (3 : Int)))))) && (e.conn != (0 : Int)))))) || ((((!(((((((e.kind == (4 : Int)) || (e.kind == (6 : Int)))) || (e.kind == (7 : Int)))) || (e.kind == (8 : Int)))))) && (e.n != (0 : Int))))))), (58, .bool (((((decide (nameL e.kind = ([] : List UInt8))) || ((((!(((e.kind == (2 : Int)) || (e.kind == (3 : Int)))))) && (e.conn != (0 : Int)))))) || ((((!(((((((e.kind == (4 : Int)) || (e.kind == (6 : Int)))) || (e.kind == (7 : Int)))) || (e.kind == (8 : Int)))))) && (e.n != (0 : Int))))))), (68, .bool (((((((decide (nameL e.kind = ([] : List UInt8))) || ((((!(((e.kind == (2 : Int)) || (e.kind == (3 : Int)))))) && (e.conn != (0 : Int)))))) || ((((!(((((((e.kind == (4 : Int)) || (e.kind == (6 : Int)))) || (e.kind == (7 : Int)))) || (e.kind == (8 : Int)))))) && (e.n != (0 : Int)))))) || (((e.kind != (2 : Int)) && (decide (((e.data.length : Nat) : Int) > (0 : Int)))))))), (69, .bool (((((((decide (nameL e.kind = ([] : List UInt8))) || ((((!(((e.kind == (2 : Int)) || (e.kind == (3 : Int)))))) && (e.conn != (0 : Int)))))) || ((((!(((((((e.kind == (4 : Int)) || (e.kind == (6 : Int)))) || (e.kind == (7 : Int)))) || (e.kind == (8 : Int)))))) && (e.n != (0 : Int)))))) || (((e.kind != (2 : Int)) && (decide (((e.data.length : Nat) : Int) > (0 : Int)))))))), (79, .bool (((((((((decide (nameL e.kind = ([] : List UInt8))) || ((((!(((e.kind == (2 : Int)) || (e.kind == (3 : Int)))))) && (e.conn != (0 : Int)))))) || ((((!(((((((e.kind == (4 : Int)) || (e.kind == (6 : Int)))) || (e.kind == (7 : Int)))) || (e.kind == (8 : Int)))))) && (e.n != (0 : Int)))))) || (((e.kind != (2 : Int)) && (decide (((e.data.length : Nat) : Int) > (0 : Int))))))) || (((e.kind != (8 : Int)) && (decide (((e.picks.length : Nat) : Int) > (0 : Int))))))))] ∧ Fr [] w w_ ∧ (s1 = evText1 e ∧ s1.length ≤ 40) ∧ (w_.heap[k1]? = some (.cells #[.int .i64 e.kind, .int .i64 e.conn, .int .i64 e.n, .slice A1 e.data.length c1, .slice A2 e.picks.length c2] 66 (0, 0)))) ?_ ?_
    · refine wp_seq ?_
      refine r_start ?_
      refine l_v (v := .bool (((e.kind == (2 : Int)) || (e.kind == (3 : Int))))) rfl rfl (by kernel_rfl) ?_
      refine l_nil ?_
      refine n_then ?_
      refine c_cond (e := ((e.kind == (2 : Int)) || (e.kind == (3 : Int)))) rfl (fun hc13 => ?_) (fun hc13 => ?_)
      · refine r_start ?_
        refine l_v (v := .string ⟨(nameL e.kind).toArray⟩) rfl rfl (by kernel_rfl) ?_
        refine l_v (v := .pointer (some ⟨k1, 1, none⟩)) rfl rfl (r_field rfl rfl Tryz.underlying66 rfl (by kernel_rfl) rfl) ?_
        refine l_v (v := .int .i64 e.conn) rfl rfl (r_load rfl rfl Tryz.underlying3 rfl (cell_at hb9 rfl)) ?_
        have hE14 : Fr [] w w8 := (hE4.trans h6f)
        have hE14z := hE14.size
        have hd15 := hg.fr0 hE14
        refine l_call rfl rfl (r_call (args := #[.int .i64 e.conn]) rfl e35 (am rfl)) (Itoa_does e.conn w8 hd15 (by omega) (by omega)) (fun v17 w18 h16 => ?_)
        obtain ⟨rfl, h16f⟩ := h16
        have h16z := h16f.size
        refine l_new (fun k_ => .slice (some ⟨k_, 0, none⟩) 2 2) rfl rfl (by kernel_rfl) (ob := .cells #[.string ⟨(nameL e.kind).toArray⟩, .string ⟨(Lib.itoa e.conn).toArray⟩] 9) (fun k19 w20 n21 => ?_)
        have hE22 : Fr [] w w18 := (hE14.trans h16f)
        have hE22z := hE22.size
        have n21k := n21.hk; have n21z := n21.sz
        refine l_call rfl rfl (r_call (args := #[.slice (some ⟨k19, 0, none⟩) 2 2]) rfl e34 (am rfl)) (Line2_calls w20 k19 (nameL e.kind) (Lib.itoa e.conn) n21.at_ (by (try simp only [sp_len]); omega)) (fun v24 w25 h23 => ?_)
        obtain ⟨rfl, h23f⟩ := h23
        have h23z := h23f.size
        refine l_v (v := .string ⟨(sp (nameL e.kind) (Lib.itoa e.conn)).toArray⟩) rfl rfl (by kernel_rfl) ?_
        refine l_nil ?_
        refine n_then ?_
        have hE26 : Fr [] w w25 := ((hE22.trans n21.fr).trans h23f)
        have hE26z := hE26.size
        have hb27 := (h23f.at0 (n21.fr.at0 (h16f.at0 hb9)))
        exact ⟨_, sp (nameL e.kind) (Lib.itoa e.conn), mk_eq (by kernel_rfl), hE26, ⟨by unfold evText1; rw [if_pos (show isConn e.kind = true from hc13)], by (try simp only [sp_len]); omega⟩, hb27⟩
      · refine wp_skip ?_
        refine n_then ?_
        have hE28 : Fr [] w w8 := (hE4.trans h6f)
        have hE28z := hE28.size
        exact ⟨_, nameL e.kind, mk_eq (by kernel_rfl), hE28, ⟨by unfold evText1; rw [if_neg (show ¬ isConn e.kind = true from by rw [Bool.not_eq_true]; exact hc13)], by (try simp only [sp_len]); omega⟩, hb9⟩
    rintro _ wj12 ⟨u_, s1, rfl, hE29, hs1, hkb_k1⟩
    have hE29z := hE29.size
    refine c_cut (fun a_ w_ => ∃ u_ : Nat → Value, ∃ s2 : List UInt8, a_ = mk [] 118 u_ [(4, .string ⟨(s2).toArray⟩), (0, .agg #[.int .i64 e.kind, .int .i64 e.conn, .int .i64 e.n, .slice A1 e.data.length c1, .slice A2 e.picks.length c2]), (1, .pointer (some ⟨k1, 0, none⟩)), (2, .string ⟨([] : List UInt8).toArray⟩), (3, .bool false), (5, .bool (((e.kind == (2 : Int)) || (e.kind == (3 : Int))))), (6, .bool (((((((e.kind == (4 : Int)) || (e.kind == (6 : Int)))) || (e.kind == (7 : Int)))) || (e.kind == (8 : Int))))), (9, .pointer (some ⟨k1, 0, none⟩)), (10, .int .i64 e.kind), (11, .string ⟨(nameL e.kind).toArray⟩), (12, .pointer (some ⟨k1, 0, none⟩)), (13, .int .i64 e.kind), (14, .bool (e.kind == (2 : Int))), (15, .bool (e.kind == (2 : Int))), (19, .bool (((e.kind == (2 : Int)) || (e.kind == (3 : Int))))), (20, .pointer (some ⟨k1, 0, none⟩)), (21, .int .i64 e.kind), (22, .bool (e.kind == (4 : Int))), (23, .bool (e.kind == (4 : Int))), (27, .bool (((e.kind == (4 : Int)) || (e.kind == (6 : Int))))), (28, .bool (((e.kind == (4 : Int)) || (e.kind == (6 : Int))))), (32, .bool (((((e.kind == (4 : Int)) || (e.kind == (6 : Int)))) || (e.kind == (7 : Int))))), (33, .bool (((((e.kind == (4 : Int)) || (e.kind == (6 : Int)))) || (e.kind == (7 : Int))))), (37, .bool (((((((e.kind == (4 : Int)) || (e.kind == (6 : Int)))) || (e.kind == (7 : Int)))) || (e.kind == (8 : Int))))), (38, .string ⟨(nameL e.kind).toArray⟩), (39, .bool (decide (nameL e.kind = ([] : List UInt8)))), (40, .bool (decide (nameL e.kind = ([] : List UInt8)))), (48, .bool (((decide (nameL e.kind = ([] : List UInt8))) || ((((!(((e.kind == (2 : Int)) || (e.kind == (3 : Int)))))) && (e.conn != (0 : Int))))))), (49, .bool (((decide (nameL e.kind = ([] : List UInt8))) || ((((!(((e.kind == (2 : Int)) || (e.kind == (3 : Int)))))) && (e.conn != (0 : Int))))))), (57, .bool (((((decide (nameL e.kind = ([] : List UInt8))) || ((((!(((e.kind == (2 : Int)) || (e.kind == (3 : Int)))))) && (e.conn != (0 : Int)))))) || ((((!(((((((e.kind == (4 : Int)) || (e.kind == (6 : Int)))) || (e.kind == (7 : Int)))) || (e.kind == (8 : Int)))))) && (e.n != (0 : Int))))))), (58, .bool (((((decide (nameL e.kind = ([] : List UInt8))) || ((((!(((e.kind == (2 : Int)) || (e.kind == (3 : Int)))))) && (e.conn != (0 : Int)))))) || ((((!(((((((e.kind == (4 : Int)) || (e.kind == (6 : Int)))) || (e.kind == (7 : Int)))) || (e.kind == (8 : Int)))))) && (e.n != (0 : Int))))))), (68, .bool (((((((decide (nameL e.kind = ([] : List UInt8))) || ((((!(((e.kind == (2 : Int)) || (e.kind == (3 : Int)))))) && (e.conn != (0 : Int)))))) || ((((!(((((((e.kind == (4 : Int)) || (e.kind == (6 : Int)))) || (e.kind == (7 : Int)))) || (e.kind == (8 : Int)))))) && (e.n != (0 : Int)))))) || (((e.kind != (2 : Int)) && (decide (((e.data.length : Nat) : Int) > (0 : Int)))))))), (69, .bool (((((((decide (nameL e.kind = ([] : List UInt8))) || ((((!(((e.kind == (2 : Int)) || (e.kind == (3 : Int)))))) && (e.conn != (0 : Int)))))) || ((((!(((((((e.kind == (4 : Int)) || (e.kind == (6 : Int)))) || (e.kind == (7 : Int)))) || (e.kind == (8 : Int)))))) && (e.n != (0 : Int)))))) || (((e.kind != (2 : Int)) && (decide (((e.data.length : Nat) : Int) > (0 : Int)))))))), (79, .bool (((((((((decide (nameL e.kind = ([] : List UInt8))) || ((((!(((e.kind == (2 : Int)) || (e.kind == (3 : Int)))))) && (e.conn != (0 : Int)))))) || ((((!(((((((e.kind == (4 : Int)) || (e.kind == (6 : Int)))) || (e.kind == (7 : Int)))) || (e.kind == (8 : Int)))))) && (e.n != (0 : Int)))))) || (((e.kind != (2 : Int)) && (decide (((e.data.length : Nat) : Int) > (0 : Int))))))) || (((e.kind != (8 : Int)) && (decide (((e.picks.length : Nat) : Int) > (0 : Int))))))))] ∧ Fr [] w w_ ∧ (s2 = evText2 e ∧ s2.length ≤ 80) ∧ (w_.heap[k1]? = some (.cells #[.int .i64 e.kind, .int .i64 e.conn, .int .i64 e.n, .slice A1 e.data.length c1, .slice A2 e.picks.length c2] 66 (0, 0)))) ?_ ?_
    · refine wp_seq ?_
      refine r_start ?_
      refine l_v (v := .bool (((((((e.kind == (4 : Int)) || (e.kind == (6 : Int)))) || (e.kind == (7 : Int)))) || (e.kind == (8 : Int))))) rfl rfl (by kernel_rfl) ?_
      refine l_nil ?_
      refine n_then ?_
      refine c_cond (e := ((((((e.kind == (4 : Int)) || (e.kind == (6 : Int)))) || (e.kind == (7 : Int)))) || (e.kind == (8 : Int)))) rfl (fun hc31 => ?_) (fun hc31 => ?_)
      · obtain ⟨hs1a, hs1l⟩ := hs1
        refine r_start ?_
        refine l_v (v := .string ⟨(s1).toArray⟩) rfl rfl (by kernel_rfl) ?_
        refine l_v (v := .pointer (some ⟨k1, 2, none⟩)) rfl rfl (r_field rfl rfl Tryz.underlying66 rfl (by kernel_rfl) rfl) ?_
        refine l_v (v := .int .i64 e.n) rfl rfl (r_load rfl rfl Tryz.underlying3 rfl (cell_at hkb_k1 rfl)) ?_
        have hd32 := hg.fr0 hE29
        refine l_call rfl rfl (r_call (args := #[.int .i64 e.n]) rfl e35 (am rfl)) (Itoa_does e.n wj12 hd32 (by omega) (by omega)) (fun v34 w35 h33 => ?_)
        obtain ⟨rfl, h33f⟩ := h33
        have h33z := h33f.size
        refine l_new (fun k_ => .slice (some ⟨k_, 0, none⟩) 2 2) rfl rfl (by kernel_rfl) (ob := .cells #[.string ⟨(s1).toArray⟩, .string ⟨(Lib.itoa e.n).toArray⟩] 9) (fun k36 w37 n38 => ?_)
        have hE39 : Fr [] w w35 := (hE29.trans h33f)
        have hE39z := hE39.size
        have n38k := n38.hk; have n38z := n38.sz
        refine l_call rfl rfl (r_call (args := #[.slice (some ⟨k36, 0, none⟩) 2 2]) rfl e34 (am rfl)) (Line2_calls w37 k36 s1 (Lib.itoa e.n) n38.at_ (by (try simp only [sp_len]); omega)) (fun v41 w42 h40 => ?_)
        obtain ⟨rfl, h40f⟩ := h40
        have h40z := h40f.size
        refine l_v (v := .string ⟨(sp s1 (Lib.itoa e.n)).toArray⟩) rfl rfl (by kernel_rfl) ?_
        refine l_nil ?_
        refine n_then ?_
        have hE43 : Fr [] w w42 := ((hE39.trans n38.fr).trans h40f)
        have hE43z := hE43.size
        have hb44 := (h40f.at0 (n38.fr.at0 (h33f.at0 hkb_k1)))
        exact ⟨_, sp s1 (Lib.itoa e.n), mk_eq (by kernel_rfl), hE43, ⟨by unfold evText2; rw [if_pos (show isNum e.kind = true from hc31)]; try rw [hs1a], by (try simp only [sp_len]); omega⟩, hb44⟩
      · obtain ⟨hs1a, hs1l⟩ := hs1
        refine wp_skip ?_
        refine n_then ?_
        exact ⟨_, s1, mk_eq (by kernel_rfl), hE29, ⟨by unfold evText2; rw [if_neg (show ¬ isNum e.kind = true from by rw [Bool.not_eq_true]; exact hc31)]; try rw [hs1a], by (try simp only [sp_len]); omega⟩, hkb_k1⟩
    rintro _ wj30 ⟨u_, s2, rfl, hE45, hs2, hkb_k1⟩
    have hE45z := hE45.size
    refine c_cut (fun a_ w_ => ∃ u_ : Nat → Value, ∃ s3 : List UInt8, a_ = mk [] 118 u_ [(4, .string ⟨(s3).toArray⟩), (0, .agg #[.int .i64 e.kind, .int .i64 e.conn, .int .i64 e.n, .slice A1 e.data.length c1, .slice A2 e.picks.length c2]), (1, .pointer (some ⟨k1, 0, none⟩)), (2, .string ⟨([] : List UInt8).toArray⟩), (3, .bool false), (5, .bool (((e.kind == (2 : Int)) || (e.kind == (3 : Int))))), (6, .bool (((((((e.kind == (4 : Int)) || (e.kind == (6 : Int)))) || (e.kind == (7 : Int)))) || (e.kind == (8 : Int))))), (9, .pointer (some ⟨k1, 0, none⟩)), (10, .int .i64 e.kind), (11, .string ⟨(nameL e.kind).toArray⟩), (12, .pointer (some ⟨k1, 0, none⟩)), (13, .int .i64 e.kind), (14, .bool (e.kind == (2 : Int))), (15, .bool (e.kind == (2 : Int))), (19, .bool (((e.kind == (2 : Int)) || (e.kind == (3 : Int))))), (20, .pointer (some ⟨k1, 0, none⟩)), (21, .int .i64 e.kind), (22, .bool (e.kind == (4 : Int))), (23, .bool (e.kind == (4 : Int))), (27, .bool (((e.kind == (4 : Int)) || (e.kind == (6 : Int))))), (28, .bool (((e.kind == (4 : Int)) || (e.kind == (6 : Int))))), (32, .bool (((((e.kind == (4 : Int)) || (e.kind == (6 : Int)))) || (e.kind == (7 : Int))))), (33, .bool (((((e.kind == (4 : Int)) || (e.kind == (6 : Int)))) || (e.kind == (7 : Int))))), (37, .bool (((((((e.kind == (4 : Int)) || (e.kind == (6 : Int)))) || (e.kind == (7 : Int)))) || (e.kind == (8 : Int))))), (38, .string ⟨(nameL e.kind).toArray⟩), (39, .bool (decide (nameL e.kind = ([] : List UInt8)))), (40, .bool (decide (nameL e.kind = ([] : List UInt8)))), (48, .bool (((decide (nameL e.kind = ([] : List UInt8))) || ((((!(((e.kind == (2 : Int)) || (e.kind == (3 : Int)))))) && (e.conn != (0 : Int))))))), (49, .bool (((decide (nameL e.kind = ([] : List UInt8))) || ((((!(((e.kind == (2 : Int)) || (e.kind == (3 : Int)))))) && (e.conn != (0 : Int))))))), (57, .bool (((((decide (nameL e.kind = ([] : List UInt8))) || ((((!(((e.kind == (2 : Int)) || (e.kind == (3 : Int)))))) && (e.conn != (0 : Int)))))) || ((((!(((((((e.kind == (4 : Int)) || (e.kind == (6 : Int)))) || (e.kind == (7 : Int)))) || (e.kind == (8 : Int)))))) && (e.n != (0 : Int))))))), (58, .bool (((((decide (nameL e.kind = ([] : List UInt8))) || ((((!(((e.kind == (2 : Int)) || (e.kind == (3 : Int)))))) && (e.conn != (0 : Int)))))) || ((((!(((((((e.kind == (4 : Int)) || (e.kind == (6 : Int)))) || (e.kind == (7 : Int)))) || (e.kind == (8 : Int)))))) && (e.n != (0 : Int))))))), (68, .bool (((((((decide (nameL e.kind = ([] : List UInt8))) || ((((!(((e.kind == (2 : Int)) || (e.kind == (3 : Int)))))) && (e.conn != (0 : Int)))))) || ((((!(((((((e.kind == (4 : Int)) || (e.kind == (6 : Int)))) || (e.kind == (7 : Int)))) || (e.kind == (8 : Int)))))) && (e.n != (0 : Int)))))) || (((e.kind != (2 : Int)) && (decide (((e.data.length : Nat) : Int) > (0 : Int)))))))), (69, .bool (((((((decide (nameL e.kind = ([] : List UInt8))) || ((((!(((e.kind == (2 : Int)) || (e.kind == (3 : Int)))))) && (e.conn != (0 : Int)))))) || ((((!(((((((e.kind == (4 : Int)) || (e.kind == (6 : Int)))) || (e.kind == (7 : Int)))) || (e.kind == (8 : Int)))))) && (e.n != (0 : Int)))))) || (((e.kind != (2 : Int)) && (decide (((e.data.length : Nat) : Int) > (0 : Int)))))))), (79, .bool (((((((((decide (nameL e.kind = ([] : List UInt8))) || ((((!(((e.kind == (2 : Int)) || (e.kind == (3 : Int)))))) && (e.conn != (0 : Int)))))) || ((((!(((((((e.kind == (4 : Int)) || (e.kind == (6 : Int)))) || (e.kind == (7 : Int)))) || (e.kind == (8 : Int)))))) && (e.n != (0 : Int)))))) || (((e.kind != (2 : Int)) && (decide (((e.data.length : Nat) : Int) > (0 : Int))))))) || (((e.kind != (8 : Int)) && (decide (((e.picks.length : Nat) : Int) > (0 : Int))))))))] ∧ Fr [] w w_ ∧ (s3 = evText3 e ∧ s3.length ≤ 4194400) ∧ (w_.heap[k1]? = some (.cells #[.int .i64 e.kind, .int .i64 e.conn, .int .i64 e.n, .slice A1 e.data.length c1, .slice A2 e.picks.length c2] 66 (0, 0)))) ?_ ?_
    · refine wp_seq ?_
      refine r_start ?_
      refine l_v (v := .pointer (some ⟨k1, 0, none⟩)) rfl rfl (r_field rfl rfl Tryz.underlying66 rfl (by kernel_rfl) rfl) ?_
      refine l_v (v := .int .i64 e.kind) rfl rfl (r_load rfl rfl Tryz.underlying3 rfl (cell_at hkb_k1 rfl)) ?_
      refine l_v (v := .bool (e.kind == (2 : Int))) rfl rfl (by kernel_rfl) ?_
      refine l_nil ?_
      refine n_then ?_
      refine c_cond (e := (e.kind == (2 : Int))) rfl (fun hc47 => ?_) (fun hc47 => ?_)
      · obtain ⟨hs2a, hs2l⟩ := hs2
        refine r_start ?_
        refine l_v (v := .string ⟨(s2).toArray⟩) rfl rfl (by kernel_rfl) ?_
        refine l_v (v := .pointer (some ⟨k1, 3, none⟩)) rfl rfl (r_field rfl rfl Tryz.underlying66 rfl (by kernel_rfl) rfl) ?_
        refine l_v (v := .slice A1 e.data.length c1) rfl rfl (r_load rfl rfl Tryz.underlying47 rfl (cell_at hkb_k1 rfl)) ?_
        have hd48 := hel1.fr0 hE45
        refine l_call rfl rfl (r_call (args := #[.slice A1 e.data.length c1]) rfl e25 (am rfl)) (Quote_calls wj30 _ _ e.data ⟨_, _, rfl, hc1, hd48⟩ (by omega)) (fun v50 w51 h49 => ?_)
        obtain ⟨rfl, h49f⟩ := h49
        have h49z := h49f.size
        refine l_new (fun k_ => .slice (some ⟨k_, 0, none⟩) 2 2) rfl rfl (by kernel_rfl) (ob := .cells #[.string ⟨(s2).toArray⟩, .string ⟨(quoteL e.data).toArray⟩] 9) (fun k52 w53 n54 => ?_)
        have hE55 : Fr [] w w51 := (hE45.trans h49f)
        have hE55z := hE55.size
        have n54k := n54.hk; have n54z := n54.sz
        refine l_call rfl rfl (r_call (args := #[.slice (some ⟨k52, 0, none⟩) 2 2]) rfl e34 (am rfl)) (Line2_calls w53 k52 s2 (quoteL e.data) n54.at_ (by (try simp only [sp_len]); omega)) (fun v57 w58 h56 => ?_)
        obtain ⟨rfl, h56f⟩ := h56
        have h56z := h56f.size
        refine l_v (v := .string ⟨(sp s2 (quoteL e.data)).toArray⟩) rfl rfl (by kernel_rfl) ?_
        refine l_nil ?_
        refine n_then ?_
        have hE59 : Fr [] w w58 := ((hE55.trans n54.fr).trans h56f)
        have hE59z := hE59.size
        have hb60 := (h56f.at0 (n54.fr.at0 (h49f.at0 hkb_k1)))
        exact ⟨_, sp s2 (quoteL e.data), mk_eq (by kernel_rfl), hE59, ⟨by unfold evText3; rw [if_pos (show (e.kind == 2) = true from hc47)]; try rw [hs2a], by (try simp only [sp_len]); omega⟩, hb60⟩
      · obtain ⟨hs2a, hs2l⟩ := hs2
        refine wp_skip ?_
        refine n_then ?_
        exact ⟨_, s2, mk_eq (by kernel_rfl), hE45, ⟨by unfold evText3; rw [if_neg (show ¬ (e.kind == 2) = true from by rw [Bool.not_eq_true]; exact hc47)]; try rw [hs2a], by (try simp only [sp_len]); omega⟩, hkb_k1⟩
    rintro _ wj46 ⟨u_, s3, rfl, hE61, hs3, hkb_k1⟩
    have hE61z := hE61.size
    obtain ⟨hs3a, hs3l⟩ := hs3
    subst hs3a
    refine wp_seq ?_
    refine wp_seq ?_
    refine r_start ?_
    refine l_v (v := .pointer (some ⟨k1, 4, none⟩)) rfl rfl (r_field rfl rfl Tryz.underlying66 rfl (by kernel_rfl) rfl) ?_
    refine l_v (v := .slice A2 e.picks.length c2) rfl rfl (r_load rfl rfl Tryz.underlying64 rfl (cell_at hkb_k1 rfl)) ?_
    refine l_v (v := .int .i64 ((e.picks.length : Nat) : Int)) rfl rfl (r_len rfl rfl Tryz.underlying64) ?_
    refine l_v (v := .int .i64 0) rfl rfl (by kernel_rfl) ?_
    refine l_nil ?_
    refine n_then ?_
    refine wp_block ?_
    refine c_loop (fun m_ a_ w_ => ∃ u_ : Nat → Value, ∃ k : Nat, ∃ s4 : List UInt8, a_ = mk [] 118 u_ [(4, .string ⟨(s4).toArray⟩), (106, .int .i64 ((k : Nat) : Int)), (0, .agg #[.int .i64 e.kind, .int .i64 e.conn, .int .i64 e.n, .slice A1 e.data.length c1, .slice A2 e.picks.length c2]), (1, .pointer (some ⟨k1, 0, none⟩)), (2, .string ⟨([] : List UInt8).toArray⟩), (3, .bool false), (5, .bool (((e.kind == (2 : Int)) || (e.kind == (3 : Int))))), (6, .bool (((((((e.kind == (4 : Int)) || (e.kind == (6 : Int)))) || (e.kind == (7 : Int)))) || (e.kind == (8 : Int))))), (9, .pointer (some ⟨k1, 0, none⟩)), (10, .int .i64 e.kind), (11, .string ⟨(nameL e.kind).toArray⟩), (12, .pointer (some ⟨k1, 0, none⟩)), (13, .int .i64 e.kind), (14, .bool (e.kind == (2 : Int))), (15, .bool (e.kind == (2 : Int))), (19, .bool (((e.kind == (2 : Int)) || (e.kind == (3 : Int))))), (20, .pointer (some ⟨k1, 0, none⟩)), (21, .int .i64 e.kind), (22, .bool (e.kind == (4 : Int))), (23, .bool (e.kind == (4 : Int))), (27, .bool (((e.kind == (4 : Int)) || (e.kind == (6 : Int))))), (28, .bool (((e.kind == (4 : Int)) || (e.kind == (6 : Int))))), (32, .bool (((((e.kind == (4 : Int)) || (e.kind == (6 : Int)))) || (e.kind == (7 : Int))))), (33, .bool (((((e.kind == (4 : Int)) || (e.kind == (6 : Int)))) || (e.kind == (7 : Int))))), (37, .bool (((((((e.kind == (4 : Int)) || (e.kind == (6 : Int)))) || (e.kind == (7 : Int)))) || (e.kind == (8 : Int))))), (38, .string ⟨(nameL e.kind).toArray⟩), (39, .bool (decide (nameL e.kind = ([] : List UInt8)))), (40, .bool (decide (nameL e.kind = ([] : List UInt8)))), (48, .bool (((decide (nameL e.kind = ([] : List UInt8))) || ((((!(((e.kind == (2 : Int)) || (e.kind == (3 : Int)))))) && (e.conn != (0 : Int))))))), (49, .bool (((decide (nameL e.kind = ([] : List UInt8))) || ((((!(((e.kind == (2 : Int)) || (e.kind == (3 : Int)))))) && (e.conn != (0 : Int))))))), (57, .bool (((((decide (nameL e.kind = ([] : List UInt8))) || ((((!(((e.kind == (2 : Int)) || (e.kind == (3 : Int)))))) && (e.conn != (0 : Int)))))) || ((((!(((((((e.kind == (4 : Int)) || (e.kind == (6 : Int)))) || (e.kind == (7 : Int)))) || (e.kind == (8 : Int)))))) && (e.n != (0 : Int))))))), (58, .bool (((((decide (nameL e.kind = ([] : List UInt8))) || ((((!(((e.kind == (2 : Int)) || (e.kind == (3 : Int)))))) && (e.conn != (0 : Int)))))) || ((((!(((((((e.kind == (4 : Int)) || (e.kind == (6 : Int)))) || (e.kind == (7 : Int)))) || (e.kind == (8 : Int)))))) && (e.n != (0 : Int))))))), (68, .bool (((((((decide (nameL e.kind = ([] : List UInt8))) || ((((!(((e.kind == (2 : Int)) || (e.kind == (3 : Int)))))) && (e.conn != (0 : Int)))))) || ((((!(((((((e.kind == (4 : Int)) || (e.kind == (6 : Int)))) || (e.kind == (7 : Int)))) || (e.kind == (8 : Int)))))) && (e.n != (0 : Int)))))) || (((e.kind != (2 : Int)) && (decide (((e.data.length : Nat) : Int) > (0 : Int)))))))), (69, .bool (((((((decide (nameL e.kind = ([] : List UInt8))) || ((((!(((e.kind == (2 : Int)) || (e.kind == (3 : Int)))))) && (e.conn != (0 : Int)))))) || ((((!(((((((e.kind == (4 : Int)) || (e.kind == (6 : Int)))) || (e.kind == (7 : Int)))) || (e.kind == (8 : Int)))))) && (e.n != (0 : Int)))))) || (((e.kind != (2 : Int)) && (decide (((e.data.length : Nat) : Int) > (0 : Int)))))))), (79, .bool (((((((((decide (nameL e.kind = ([] : List UInt8))) || ((((!(((e.kind == (2 : Int)) || (e.kind == (3 : Int)))))) && (e.conn != (0 : Int)))))) || ((((!(((((((e.kind == (4 : Int)) || (e.kind == (6 : Int)))) || (e.kind == (7 : Int)))) || (e.kind == (8 : Int)))))) && (e.n != (0 : Int)))))) || (((e.kind != (2 : Int)) && (decide (((e.data.length : Nat) : Int) > (0 : Int))))))) || (((e.kind != (8 : Int)) && (decide (((e.picks.length : Nat) : Int) > (0 : Int)))))))), (103, .pointer (some ⟨k1, 4, none⟩)), (104, .slice A2 e.picks.length c2), (105, .int .i64 ((e.picks.length : Nat) : Int))] ∧ m_ = e.picks.length - k ∧ Fr [] w w_ ∧ (k ≤ e.picks.length) ∧ (s4 = (e.picks.take k).foldl addN (evText3 e))) (e.picks.length - 0) ⟨_, 0, (evText3 e), mk_eq (by kernel_rfl), rfl, hE61, Nat.zero_le _, rfl⟩ ?_
    rintro m64 _ wr62 ⟨u_, k, s4, rfl, hm65, hE66, hk, hs4⟩ K_ hK63
    have hE66z := hE66.size
    refine wp_seq ?_
    refine r_start ?_
    refine l_v (v := .bool (decide (((k : Nat) : Int) < ((e.picks.length : Nat) : Int)))) rfl rfl (by kernel_rfl) ?_
    refine l_nil ?_
    refine n_then ?_
    refine wp_seq ?_
    refine c_cond (e := decide (((k : Nat) : Int) < ((e.picks.length : Nat) : Int))) rfl (fun hc67 => ?_) (fun hc67 => ?_)
    · try simp only [decide_eq_true_eq, decide_eq_false_iff_not, Bool.and_eq_true, Bool.or_eq_true, Bool.and_eq_false_iff, Bool.or_eq_false_iff, Bool.not_eq_true', Bool.not_eq_false', beq_iff_eq, bne_iff_ne, ne_eq, beq_eq_false_iff_ne, bne_eq_false_iff_eq, gt_iff_lt, ge_iff_le, Int.not_lt, Int.not_le] at hc67
      have hl6 := pick_len hfit k
      rw [← hs4] at hl6
      refine wp_skip ?_
      refine n_then ?_
      refine wp_seq ?_
      refine wp_block ?_
      refine wp_seq ?_
      refine r_start ?_
      have hd68 := hel2.fr0 hE66
      obtain ⟨x69, g70, off71, cs72, hx73, hA74, hg75, hl76, hK77, hr78⟩ := El.get hd68 (i := k) (by omega)
      obtain ⟨rfl, x69a, x69b⟩ := hK77
      have x69a : 0 ≤ x69 := x69a
      have x69b : x69 ≤ 65535 := x69b
      refine l_v (v := .pointer (some ⟨g70, off71 + k * 1, none⟩)) rfl rfl (r_elemn rfl rfl rfl hA74 Tryz.underlying64 (by kernel_rfl) (by omega)) ?_
      refine l_v (v := .int .u16 x69) rfl rfl (r_load rfl rfl Tryz.underlying67 rfl (range_get (j := 0) hr78 rfl)) ?_
      refine l_v (v := .int .u16 x69) rfl rfl (by kernel_rfl) ?_
      refine l_nil ?_
      refine n_then ?_
      refine r_start ?_
      refine l_v (v := .string ⟨(s4).toArray⟩) rfl rfl (by kernel_rfl) ?_
      refine l_v (v := .int .u16 x69) rfl rfl (by kernel_rfl) ?_
      refine l_v (v := .int .i64 x69) rfl rfl (r_conv (r := x69) rfl rfl Tryz.underlying67 Tryz.underlying3 rfl (by simp only [min_i64]; omega) (by simp only [max_i64]; omega)) ?_
      have hl7 := itoa_len (n := x69) (by unfold i64; omega)
      have hd79 := hg.fr0 hE66
      refine l_call rfl rfl (r_call (args := #[.int .i64 x69]) rfl e35 (am rfl)) (Itoa_does x69 wr62 hd79 (by omega) (by omega)) (fun v81 w82 h80 => ?_)
      obtain ⟨rfl, h80f⟩ := h80
      have h80z := h80f.size
      refine l_new (fun k_ => .slice (some ⟨k_, 0, none⟩) 2 2) rfl rfl (by kernel_rfl) (ob := .cells #[.string ⟨(s4).toArray⟩, .string ⟨(Lib.itoa x69).toArray⟩] 9) (fun k83 w84 n85 => ?_)
      have hE86 : Fr [] w w82 := (hE66.trans h80f)
      have hE86z := hE86.size
      have n85k := n85.hk; have n85z := n85.sz
      refine l_call rfl rfl (r_call (args := #[.slice (some ⟨k83, 0, none⟩) 2 2]) rfl e34 (am rfl)) (Line2_calls w84 k83 s4 (Lib.itoa x69) n85.at_ (by (try simp only [sp_len]); omega)) (fun v88 w89 h87 => ?_)
      obtain ⟨rfl, h87f⟩ := h87
      have h87z := h87f.size
      refine l_v (v := .string ⟨(sp s4 (Lib.itoa x69)).toArray⟩) rfl rfl (by kernel_rfl) ?_
      refine l_nil ?_
      refine n_block ?_
      refine n_then ?_
      refine r_start ?_
      refine l_v (v := .int .i64 (((k : Nat) : Int) + 1)) rfl rfl (r_add (r := ((k : Nat) : Int) + 1) rfl rfl rfl (by omega) (by simp only [min_i64]; omega) (by simp only [max_i64]; omega)) ?_
      refine l_v (v := .int .i64 (((k : Nat) : Int) + 1)) rfl rfl (by kernel_rfl) ?_
      refine l_nil ?_
      refine n_then ?_
      have hE90 : Fr [] w w89 := ((hE86.trans n85.fr).trans h87f)
      have hE90z := hE90.size
      exact hK63 _ _ _ (by omega) ⟨_, (k + 1), (sp s4 (Lib.itoa x69)), mk_eq (by kernel_rfl), rfl, hE90, (by omega), (by rw [foldl_take hx73, ← hs4]; rfl)⟩
    · try simp only [decide_eq_true_eq, decide_eq_false_iff_not, Bool.and_eq_true, Bool.or_eq_true, Bool.and_eq_false_iff, Bool.or_eq_false_iff, Bool.not_eq_true', Bool.not_eq_false', beq_iff_eq, bne_iff_ne, ne_eq, beq_eq_false_iff_ne, bne_eq_false_iff_eq, gt_iff_lt, ge_iff_le, Int.not_lt, Int.not_le] at hc67
      obtain rfl : k = e.picks.length := by omega
      refine wp_exit ?_
      refine e_then ?_
      refine e_then ?_
      refine e_hit ?_
      refine n_then ?_
      refine wp_seq ?_
      refine r_start ?_
      refine l_v (v := .string ⟨(s4).toArray⟩) rfl rfl (by kernel_rfl) ?_
      refine l_v (v := .string ⟨(s4).toArray⟩) rfl rfl (by kernel_rfl) ?_
      refine l_v (v := .bool true) rfl rfl (by kernel_rfl) ?_
      refine l_nil ?_
      refine n_then ?_
      refine wp_ret ?_
      exact end_ret (v := .tuple #[.string ⟨(s4).toArray⟩, .bool true]) (res2 rfl rfl rfl) ⟨_, rfl, ⟨by rw [show evLine e = (evText e, true) from if_neg hbad, hs4, List.take_length]; rfl, hE66⟩⟩

end Go.Proofs.YtmhljojgdfmjaaaGreatDoor
