/- walks -/
import Derived.Test.YtmhljojgdfmjaaaGreatDoorSh9
import Derived.Test.YtmhljojgdfmjaaaGreatDoorSe3
namespace Go.Proofs.YtmhljojgdfmjaaaGreatDoor
open Go.E
set_option linter.unusedVariables false
set_option linter.unusedSimpArgs false
set_option maxRecDepth 100000
set_option maxHeartbeats 1000000
open Go.Sh
/-- shell.event -/
theorem event_calls (w : World) (hg : Glob w) (s : List UInt8) (hl : s.length ≤ 1048576) :
    Does Tryz.prog 29 #[.string ⟨(s).toArray⟩] w fun r w' => ∃ cs e, EvK (fun b => w.heap.size ≤ b) w' cs e ∧ r = .tuple #[.agg cs.toArray, .bool (parseEv s).isSome] ∧ (∀ x, parseEv s = some x → e = x) ∧ Fr [] w w' := by
  have hk0 := kindOf_b (plainW s)
  have hgz := hg.sz
  refine Does.of (fn_in (l := [.string ⟨(s).toArray⟩]) Tryz.func29 rfl Tryz.ntmps29 rfl ?_)
  refine wp_seq ?_
  refine r_start ?_
  refine l_new (fun k_ => .pointer (some ⟨k_, 0, none⟩)) rfl rfl (by kernel_rfl) (ob := .cells #[.int .i64 0, .int .i64 0, .int .i64 0, .slice none 0 0, .slice none 0 0] 66) (fun k1 w2 n3 => ?_)
  have n3k := n3.hk; have n3z := n3.sz
  refine l_v (v := .bool false) rfl rfl (by kernel_rfl) ?_
  refine l_nil ?_
  refine n_then ?_
  refine wp_seq ?_
  refine r_start ?_
  refine l_v (v := .string ⟨(s).toArray⟩) rfl rfl (by kernel_rfl) ?_
  refine l_v (v := .agg #[.string ⟨(s).toArray⟩, .bool false]) rfl rfl (by kernel_rfl) ?_
  refine l_new (fun k_ => .pointer (some ⟨k_, 0, none⟩)) rfl rfl (by kernel_rfl) (ob := .cells #[.string ⟨(s).toArray⟩, .bool false] 92) (fun k4 w5 n6 => ?_)
  have hE7 : Fr [] w w2 := ((Fr.refl [] w).trans n3.fr)
  have hE7z := hE7.size
  have n6k := n6.hk; have n6z := n6.sz
  refine l_new (fun k_ => .pointer (some ⟨k_, 0, none⟩)) rfl rfl (by kernel_rfl) (ob := .cells #[.pointer none] 90) (fun k8 w9 n10 => ?_)
  have hE11 : Fr [] w w5 := (hE7.trans n6.fr)
  have hE11z := hE11.size
  have n10k := n10.hk; have n10z := n10.sz
  refine l_store rfl rfl rfl (g := k8) (off := 0) (v := .pointer (some ⟨k4, 0, none⟩)) (arr := #[.pointer (some ⟨k4, 0, none⟩)]) rfl rfl (by kernel_rfl) n10.at_ rfl (by simp [Value.cells, Value.oneCell']) rfl (fun w12 p13 => ?_)
  have p13z := p13.sz
  refine l_nil ?_
  refine n_then ?_
  refine wp_seq ?_
  refine r_start ?_
  refine l_v (v := .pointer (some ⟨k4, 0, none⟩)) rfl rfl (r_load rfl rfl Tryz.underlying90 rfl (cell_at p13.at_ rfl)) ?_
  have hb14 := (p13.fr.at (n10.fr.at0 n6.at_) (by simp only [List.mem_singleton]; omega))
  have hE15 : Fr [] w w12 := (Fr.step (hE11.trans n10.fr) p13.fr (by intro k_ hk_; simp only [List.mem_singleton] at hk_; omega))
  have hE15z := hE15.size
  have hd16 := hg.fr0 hE15
  refine l_call rfl rfl (r_call (args := #[.pointer (some ⟨k4, 0, none⟩)]) rfl e41 (am rfl)) (kind_calls w12 hd16 k4 s false (by omega) hb14 (by omega)) (fun v18 w19 h17 => ?_)
  obtain ⟨rfl, h17f, h17b⟩ := h17
  have h17z := h17f.size
  have hl20 := plainW_len s
  have hl21 := plainR_len s
  refine l_v (v := .agg #[.int .i64 (kindOf (plainW s)), .int .i64 0, .int .i64 0, .slice none 0 0, .slice none 0 0]) rfl rfl (by kernel_rfl) ?_
  refine l_new (fun k_ => .pointer (some ⟨k_, 0, none⟩)) rfl rfl (by kernel_rfl) (ob := .cells #[.int .i64 0, .int .i64 0, .int .i64 0, .slice none 0 0, .slice none 0 0] 66) (fun k22 w23 n24 => ?_)
  have hE25 : Fr [] w w19 := (Fr.step hE15 h17f (by intro k_ hk_; simp only [List.mem_singleton] at hk_; omega))
  have hE25z := hE25.size
  have n24k := n24.hk; have n24z := n24.sz
  refine l_store rfl rfl rfl (g := k22) (off := 0) (v := .agg #[.int .i64 (kindOf (plainW s)), .int .i64 0, .int .i64 0, .slice none 0 0, .slice none 0 0]) (arr := #[.int .i64 (kindOf (plainW s)), .int .i64 0, .int .i64 0, .slice none 0 0, .slice none 0 0]) rfl rfl (by kernel_rfl) n24.at_ rfl (by simp [Value.cells, Value.oneCell']) rfl (fun w26 p27 => ?_)
  have p27z := p27.sz
  refine l_nil ?_
  refine n_then ?_
  refine wp_seq ?_
  refine r_start ?_
  refine l_v (v := .func (.func 52) #[] #[.pointer (some ⟨k8, 0, none⟩), .pointer (some ⟨k22, 0, none⟩)]) rfl rfl (by kernel_rfl) ?_
  refine l_v (v := .func (.func 52) #[] #[.pointer (some ⟨k8, 0, none⟩), .pointer (some ⟨k22, 0, none⟩)]) rfl rfl (by kernel_rfl) ?_
  refine l_nil ?_
  refine n_then ?_
  refine wp_seq ?_
  refine r_start ?_
  refine l_v (v := .func (.func 52) #[] #[.pointer (some ⟨k8, 0, none⟩), .pointer (some ⟨k22, 0, none⟩)]) rfl rfl (by kernel_rfl) ?_
  refine l_v (v := .func (.func 54) #[] #[.pointer (some ⟨k8, 0, none⟩), .pointer (some ⟨k22, 0, none⟩)]) rfl rfl (by kernel_rfl) ?_
  refine l_new (fun k_ => .slice (some ⟨k_, 0, none⟩) 2 2) rfl rfl (by kernel_rfl) (ob := .cells #[.int .i64 2, .int .i64 3] 3) (fun k28 w29 n30 => ?_)
  have hE31 : Fr [] w w26 := (Fr.step (hE25.trans n24.fr) p27.fr (by intro k_ hk_; simp only [List.mem_singleton] at hk_; omega))
  have hE31z := hE31.size
  have n30k := n30.hk; have n30z := n30.sz
  have hb32 := (n30.fr.at0 (p27.fr.at (n24.fr.at0 (h17f.at p13.at_ (by simp only [List.mem_singleton]; omega))) (by simp only [List.mem_singleton]; omega)))
  have hb33 := (n30.fr.at0 (p27.fr.at (n24.fr.at0 h17b) (by simp only [List.mem_singleton]; omega)))
  have hb34 := (n30.fr.at0 p27.at_)
  have hS0 : SInv w29.heap.size k8 k4 k22 (evS0 s) w29 := by
    refine ⟨⟨kindOf (plainW s), 0, 0, [], []⟩, _, _, none, 0, _, hb32, hb33, hb34, Sl.nil _ _ _, OwnL.nil _ _ _ _ _, fun _ => rfl, fits0 hk0, by omega, ?_⟩
    unfold evS0
    by_cases hk_ : kindOf (plainW s) < 1 <;> simp [hk_, Said]
  have hE35 : Fr [] w w29 := (hE31.trans n30.fr)
  have hE35z := hE35.size
  have hd36 := hg.fr0 hE35
  refine l_call rfl rfl (r_callv (args' := #[.func (.func 54) #[] #[.pointer (some ⟨k8, 0, none⟩), .pointer (some ⟨k22, 0, none⟩)], .slice (some ⟨k28, 0, none⟩) 2 2, .pointer (some ⟨k8, 0, none⟩), .pointer (some ⟨k22, 0, none⟩)]) rfl rfl e52 (am rfl) rfl) (evReads_calls w29 w29.heap.size k8 k4 k22 _ hS0 doConn 54 k28 [2, 3] e54 (by decide) (by intro i_ hi_; exact zcell (zs := [2, 3]) n30.at_ hi_) (fun pp hpp _ => evConn_calls w29 hd36 w29.heap.size k8 k4 k22 pp (by rw [← hpp]; exact hS0) (by omega) (by omega))) (fun v38 w39 h37 => ?_)
  obtain ⟨rfl, h37f, h37S⟩ := h37
  have h37z := h37f.size
  refine l_nil ?_
  refine n_then ?_
  refine wp_seq ?_
  refine r_start ?_
  refine l_v (v := .func (.func 52) #[] #[.pointer (some ⟨k8, 0, none⟩), .pointer (some ⟨k22, 0, none⟩)]) rfl rfl (by kernel_rfl) ?_
  refine l_v (v := .func (.func 55) #[] #[.pointer (some ⟨k8, 0, none⟩), .pointer (some ⟨k22, 0, none⟩)]) rfl rfl (by kernel_rfl) ?_
  refine l_new (fun k_ => .slice (some ⟨k_, 0, none⟩) 4 4) rfl rfl (by kernel_rfl) (ob := .cells #[.int .i64 4, .int .i64 6, .int .i64 7, .int .i64 8] 3) (fun k40 w41 n42 => ?_)
  have hE43 : Fr [] w w39 := (Fr.step hE35 h37f (by intro k_ hk_; simp only [List.mem_cons, List.not_mem_nil, or_false] at hk_; omega))
  have hE43z := hE43.size
  have n42k := n42.hk; have n42z := n42.sz
  have hd44 := h37S.fr0 ((Fr.refl [] w39).trans n42.fr)
  have hE45 : Fr [] w w41 := (hE43.trans n42.fr)
  have hE45z := hE45.size
  have hd46 := hg.fr0 hE45
  refine l_call rfl rfl (r_callv (args' := #[.func (.func 55) #[] #[.pointer (some ⟨k8, 0, none⟩), .pointer (some ⟨k22, 0, none⟩)], .slice (some ⟨k40, 0, none⟩) 4 4, .pointer (some ⟨k8, 0, none⟩), .pointer (some ⟨k22, 0, none⟩)]) rfl rfl e52 (am rfl) rfl) (evReads_calls w41 w29.heap.size k8 k4 k22 _ hd44 doNum 55 k40 [4, 6, 7, 8] e55 (by decide) (by intro i_ hi_; exact zcell (zs := [4, 6, 7, 8]) n42.at_ hi_) (fun pp hpp _ => evNum_calls w41 hd46 w29.heap.size k8 k4 k22 pp (by rw [← hpp]; exact hd44) (by omega) (by omega))) (fun v48 w49 h47 => ?_)
  obtain ⟨rfl, h47f, h47S⟩ := h47
  have h47z := h47f.size
  refine l_nil ?_
  refine n_then ?_
  refine wp_seq ?_
  refine r_start ?_
  refine l_v (v := .func (.func 52) #[] #[.pointer (some ⟨k8, 0, none⟩), .pointer (some ⟨k22, 0, none⟩)]) rfl rfl (by kernel_rfl) ?_
  refine l_v (v := .func (.func 56) #[] #[.pointer (some ⟨k8, 0, none⟩), .pointer (some ⟨k22, 0, none⟩)]) rfl rfl (by kernel_rfl) ?_
  refine l_new (fun k_ => .slice (some ⟨k_, 0, none⟩) 1 1) rfl rfl (by kernel_rfl) (ob := .cells #[.int .i64 2] 3) (fun k50 w51 n52 => ?_)
  have hE53 : Fr [] w w49 := (Fr.step hE45 h47f (by intro k_ hk_; simp only [List.mem_cons, List.not_mem_nil, or_false] at hk_; omega))
  have hE53z := hE53.size
  have n52k := n52.hk; have n52z := n52.sz
  have hd54 := h47S.fr0 ((Fr.refl [] w49).trans n52.fr)
  have hE55 : Fr [] w w51 := (hE53.trans n52.fr)
  have hE55z := hE55.size
  have hd56 := hg.fr0 hE55
  refine l_call rfl rfl (r_callv (args' := #[.func (.func 56) #[] #[.pointer (some ⟨k8, 0, none⟩), .pointer (some ⟨k22, 0, none⟩)], .slice (some ⟨k50, 0, none⟩) 1 1, .pointer (some ⟨k8, 0, none⟩), .pointer (some ⟨k22, 0, none⟩)]) rfl rfl e52 (am rfl) rfl) (evReads_calls w51 w29.heap.size k8 k4 k22 _ hd54 doData 56 k50 [2] e56 (by decide) (by intro i_ hi_; exact zcell (zs := [2]) n52.at_ hi_) (fun pp hpp _ => evData_calls w51 hd56 w29.heap.size k8 k4 k22 pp (by rw [← hpp]; exact hd54) (by omega) (by omega))) (fun v58 w59 h57 => ?_)
  obtain ⟨rfl, h57f, h57S⟩ := h57
  have h57z := h57f.size
  refine l_nil ?_
  refine n_then ?_
  refine wp_seq ?_
  refine r_start ?_
  refine l_v (v := .func (.func 52) #[] #[.pointer (some ⟨k8, 0, none⟩), .pointer (some ⟨k22, 0, none⟩)]) rfl rfl (by kernel_rfl) ?_
  refine l_v (v := .func (.func 57) #[] #[.pointer (some ⟨k8, 0, none⟩), .pointer (some ⟨k22, 0, none⟩)]) rfl rfl (by kernel_rfl) ?_
  refine l_new (fun k_ => .slice (some ⟨k_, 0, none⟩) 1 1) rfl rfl (by kernel_rfl) (ob := .cells #[.int .i64 8] 3) (fun k60 w61 n62 => ?_)
  have hE63 : Fr [] w w59 := (Fr.step hE55 h57f (by intro k_ hk_; simp only [List.mem_cons, List.not_mem_nil, or_false] at hk_; omega))
  have hE63z := hE63.size
  have n62k := n62.hk; have n62z := n62.sz
  have hd64 := h57S.fr0 ((Fr.refl [] w59).trans n62.fr)
  have hE65 : Fr [] w w61 := (hE63.trans n62.fr)
  have hE65z := hE65.size
  have hd66 := hg.fr0 hE65
  refine l_call rfl rfl (r_callv (args' := #[.func (.func 57) #[] #[.pointer (some ⟨k8, 0, none⟩), .pointer (some ⟨k22, 0, none⟩)], .slice (some ⟨k60, 0, none⟩) 1 1, .pointer (some ⟨k8, 0, none⟩), .pointer (some ⟨k22, 0, none⟩)]) rfl rfl e52 (am rfl) rfl) (evReads_calls w61 w29.heap.size k8 k4 k22 _ hd64 doPicks 57 k60 [8] e57 (by decide) (by intro i_ hi_; exact zcell (zs := [8]) n62.at_ hi_) (fun pp hpp _ => evPicks_calls w61 hd66 w29.heap.size k8 k4 k22 pp (by rw [← hpp]; exact hd64) (by omega) (by omega) (reads_nil hpp))) (fun v68 w69 h67 => ?_)
  obtain ⟨rfl, h67f, h67S⟩ := h67
  have h67z := h67f.size
  obtain ⟨ev, s9, bad9, A9, c9, P9, hq9, hb9, he9, hB9, hO9, hnil9, hfit9, hsl9, hsaid9⟩ := h67S
  have hP9 := OwnL.sl hO9
  obtain ⟨A8, c8, rfl⟩ := OwnL.form hO9
  have hK9 : EvK (fun b => w29.heap.size ≤ b) w69 _ ev := evK_mk (Sl.weak hB9 fun _ _ h_ => h_.1) hP9 hfit9
  refine l_nil ?_
  refine n_then ?_
  refine wp_seq ?_
  refine r_start ?_
  refine l_v (v := .agg #[.int .i64 ev.kind, .int .i64 ev.conn, .int .i64 ev.n, .slice A9 ev.data.length c9, .slice A8 ev.picks.length c8]) rfl rfl (r_loads (cs := [.int .i64 ev.kind, .int .i64 ev.conn, .int .i64 ev.n, .slice A9 ev.data.length c9, .slice A8 ev.picks.length c8]) rfl rfl Tryz.underlying66 rfl (by kernel_rfl) (range_at he9 rfl)) ?_
  have hE70 : Fr [] w w69 := (Fr.step hE65 h67f (by intro k_ hk_; simp only [List.mem_cons, List.not_mem_nil, or_false] at hk_; omega))
  have hE70z := hE70.size
  have hd71 := hg.fr0 hE70
  refine l_call rfl rfl (r_call (args := #[.agg #[.int .i64 ev.kind, .int .i64 ev.conn, .int .i64 ev.n, .slice A9 ev.data.length c9, .slice A8 ev.picks.length c8]]) rfl e27 (am rfl)) (eventLine_calls w69 hd71 _ _ _ hK9) (fun v73 w74 h72 => ?_)
  obtain ⟨rfl, h72f⟩ := h72
  have h72z := h72f.size
  refine l_v (v := .tuple #[.string ⟨((evLine ev).1).toArray⟩, .bool ((evLine ev).2)]) rfl rfl (by kernel_rfl) ?_
  refine l_v (v := .string ⟨((evLine ev).1).toArray⟩) rfl rfl (by kernel_rfl) ?_
  refine l_v (v := .bool ((evLine ev).2)) rfl rfl (by kernel_rfl) ?_
  refine l_v (v := .string ⟨((evLine ev).1).toArray⟩) rfl rfl (by kernel_rfl) ?_
  refine l_v (v := .bool ((evLine ev).2)) rfl rfl (by kernel_rfl) ?_
  refine l_nil ?_
  refine n_then ?_
  refine wp_seq ?_
  have hE79 : Fr [] w w74 := (hE70.trans h72f)
  have hE79z := hE79.size
  refine h_start' (fun w0_ w_ => Fr [k1] w0_ w_) hmix (fun _ _ _ _ _ h => h) (fun w75 f76 hQ78 => ?_)
  have f76z := f76.size
  have hb80 := (f76.at0 (h72f.at0 he9))
  refine h_take (i := 0) (v := .agg #[.int .i64 ev.kind, .int .i64 ev.conn, .int .i64 ev.n, .slice A9 ev.data.length c9, .slice A8 ev.picks.length c8]) rfl (by kernel_rfl) (by kernel_rfl) (by kernel_rfl) hQ78 rfl rfl (fun w_ hS_ => (r_loads (cs := [.int .i64 ev.kind, .int .i64 ev.conn, .int .i64 ev.n, .slice A9 ev.data.length c9, .slice A8 ev.picks.length c8]) rfl rfl Tryz.underlying66 rfl (by kernel_rfl) (range_at (hS_.at hb80 (by simp; omega)) rfl))) (Fr.refl [k1] w75) ?_
  have hb81 := (f76.at0 (h72f.at0 hq9))
  refine h_take (i := 1) (v := .pointer (some ⟨k4, 0, none⟩)) rfl (by kernel_rfl) (by kernel_rfl) (by kernel_rfl) hQ78 rfl rfl (fun w_ hS_ => (r_load rfl rfl Tryz.underlying90 rfl (cell_at (hS_.at hb81 (by simp; omega)) rfl))) (Fr.refl [k1] w75) ?_
  refine h_take (i := 2) (v := .pointer (some ⟨k4, 0, none⟩)) rfl (by kernel_rfl) (by kernel_rfl) (by kernel_rfl) hQ78 rfl rfl (fun w_ hS_ => (by kernel_rfl)) (Fr.refl [k1] w75) ?_
  refine h_take (i := 3) (v := .pointer (some ⟨k4, 1, none⟩)) rfl (by kernel_rfl) (by kernel_rfl) (by kernel_rfl) hQ78 rfl rfl (fun w_ hS_ => (r_field rfl rfl Tryz.underlying92 rfl (by kernel_rfl) rfl)) (Fr.refl [k1] w75) ?_
  have hb82 := (f76.at0 (h72f.at0 hb9))
  refine h_take (i := 4) (v := .bool bad9) rfl (by kernel_rfl) (by kernel_rfl) (by kernel_rfl) hQ78 rfl rfl (fun w_ hS_ => (r_load rfl rfl Tryz.underlying4 rfl (cell_at (hS_.at hb82 (by simp; omega)) rfl))) (Fr.refl [k1] w75) ?_
  refine h_take (i := 5) (v := .bool (!bad9)) rfl (by kernel_rfl) (by kernel_rfl) (by kernel_rfl) hQ78 rfl rfl (fun w_ hS_ => (by kernel_rfl)) (Fr.refl [k1] w75) ?_
  refine h_take (i := 6) (v := .bool (!bad9)) rfl (by kernel_rfl) (by kernel_rfl) (by kernel_rfl) hQ78 rfl rfl (fun w_ hS_ => (by kernel_rfl)) (Fr.refl [k1] w75) ?_
  refine h_takeg (i := 7) (v := .bool ((evLine ev).2)) rfl (by kernel_rfl) (by kernel_rfl) (by kernel_rfl) hQ78 (want_1 rfl rfl rfl rfl) rfl (fun hW_ w_ hS_ => (by kernel_rfl)) (Fr.refl [k1] w75) ?_
  refine h_take (i := 8) (v := .bool (((!bad9) && ((evLine ev).2)))) rfl (by kernel_rfl) (by kernel_rfl) (by kernel_rfl) hQ78 rfl rfl (fun w_ hS_ => (r_pick rfl rfl (pick_and _ _))) (Fr.refl [k1] w75) ?_
  refine h_take (i := 9) (v := .bool (((!bad9) && ((evLine ev).2)))) rfl (by kernel_rfl) (by kernel_rfl) (by kernel_rfl) hQ78 rfl rfl (fun w_ hS_ => (by kernel_rfl)) (Fr.refl [k1] w75) ?_
  refine h_takeg (i := 10) (v := .string ⟨((evLine ev).1).toArray⟩) rfl (by kernel_rfl) (by kernel_rfl) (by kernel_rfl) hQ78 (want_1 rfl rfl rfl rfl) rfl (fun hW_ w_ hS_ => (by kernel_rfl)) (Fr.refl [k1] w75) ?_
  refine h_takeg (i := 11) (v := .string ⟨(s).toArray⟩) rfl (by kernel_rfl) (by kernel_rfl) (by kernel_rfl) hQ78 (want_1 rfl rfl rfl rfl) rfl (fun hW_ w_ hS_ => (by kernel_rfl)) (Fr.refl [k1] w75) ?_
  refine h_takeg (i := 12) (v := .bool (decide ((evLine ev).1 = s))) rfl (by kernel_rfl) (by kernel_rfl) (by kernel_rfl) hQ78 (want_1 rfl rfl rfl rfl) rfl (fun hW_ w_ hS_ => (r_str_eql rfl (gd_true hW_ _) (gd_true hW_ _))) (Fr.refl [k1] w75) ?_
  refine h_take (i := 13) (v := .bool (((((!bad9) && ((evLine ev).2))) && (decide ((evLine ev).1 = s))))) rfl (by kernel_rfl) (by kernel_rfl) (by kernel_rfl) hQ78 rfl rfl (fun w_ hS_ => (r_pick rfl rfl (pick_and _ _))) (Fr.refl [k1] w75) ?_
  have hb83 := (f76.at0 (h72f.at0 (h67f.at (n62.fr.at0 (h57f.at (n52.fr.at0 (h47f.at (n42.fr.at0 (h37f.at (n30.fr.at0 (p27.fr.at (n24.fr.at0 (h17f.at (p13.fr.at (n10.fr.at0 (n6.fr.at0 n3.at_)) (by simp only [List.mem_singleton]; omega)) (by simp only [List.mem_singleton]; omega))) (by simp only [List.mem_singleton]; omega))) (by simp; omega))) (by simp; omega))) (by simp; omega))) (by simp; omega))))
  refine h_store (i := 14) (by kernel_rfl) rfl rfl rfl rfl (g := k1) (off := 0) (v := .agg #[.int .i64 ev.kind, .int .i64 ev.conn, .int .i64 ev.n, .slice A9 ev.data.length c9, .slice A8 ev.picks.length c8]) (arr := #[.int .i64 ev.kind, .int .i64 ev.conn, .int .i64 ev.n, .slice A9 ev.data.length c9, .slice A8 ev.picks.length c8]) rfl rfl (by kernel_rfl) hb83 rfl (by simp [Value.cells, Value.oneCell']) rfl (fun w84 p85 => ⟨(Fr.refl [k1] w75).trans (p85.fr.mono (by simp)), ?_⟩)
  have p85z := p85.sz
  refine h_take (i := 15) (v := .bool (((((!bad9) && ((evLine ev).2))) && (decide ((evLine ev).1 = s))))) rfl (by kernel_rfl) (by kernel_rfl) (by kernel_rfl) hQ78 rfl rfl (fun w_ hS_ => (by kernel_rfl)) ((Fr.refl [k1] w75).trans (p85.fr.mono (by simp))) ?_
  refine wpAnyH_done (by kernel_rfl) ?_ _
  refine n_then ?_
  refine wp_ret ?_
  have hfin := fin_ev (s := s) (bad := bad9) (e := ev) (by intro hb_; rw [hb_] at hsaid9; exact rd_said hsaid9) (by intro hb_; rw [hb_] at hsaid9; exact rd_none hsaid9)
  have hd86 := (((hK9.fr0 h72f).fr0 f76).fr p85.fr (by intro g_ hg_; have hg2_ : w29.heap.size ≤ g_ := hg_; simp only [List.mem_singleton]; omega))
  have hE87 : Fr [] w w84 := (Fr.step (hE79.trans f76) p85.fr (by intro k_ hk_; simp only [List.mem_singleton] at hk_; omega))
  have hE87z := hE87.size
  exact end_ret (v := .tuple #[.agg #[.int .i64 ev.kind, .int .i64 ev.conn, .int .i64 ev.n, .slice A9 ev.data.length c9, .slice A8 ev.picks.length c8], .bool (((((!bad9) && ((evLine ev).2))) && (decide ((evLine ev).1 = s))))]) (resn2 rfl (rv_row rfl (cs := [.int .i64 ev.kind, .int .i64 ev.conn, .int .i64 ev.n, .slice A9 ev.data.length c9, .slice A8 ev.picks.length c8]) Tryz.underlying66 rfl (by kernel_rfl) (range_at p85.at_ rfl)) (rv_tmp rfl)) ⟨_, rfl, ⟨[.int .i64 ev.kind, .int .i64 ev.conn, .int .i64 ev.n, .slice A9 ev.data.length c9, .slice A8 ev.picks.length c8], ev, Rp.ev.weak hd86 (fun g_ _ hg_ => by have hg2_ : w29.heap.size ≤ g_ := hg_; show w.heap.size ≤ g_; omega), (by first | (rw [← hfin.1]; done) | (rw [← hfin.1]; rfl)), hfin.2, hE87⟩⟩

end Go.Proofs.YtmhljojgdfmjaaaGreatDoor
