/- walks -/
import Derived.Test.YtmhljojgdfmjaaaGreatDoorMem
import Derived.Test.YtmhljojgdfmjaaaGreatDoorEngC
namespace Go.Proofs.YtmhljojgdfmjaaaGreatDoor
open Go.E
set_option linter.unusedVariables false
set_option linter.unusedSimpArgs false
set_option maxRecDepth 100000
set_option maxHeartbeats 1000000
open Go.Sh
theorem take_snoc {α : Type} {l : List α} {k : Nat} {x : α} (h : l[k]? = some x) : l.take (k + 1) = l.take k ++ [x] := by
  obtain ⟨hk, rfl⟩ := List.getElem?_eq_some_iff.1 h
  exact List.take_succ_eq_append_getElem hk
/-- law31.told -/
theorem told_calls (w : World) (ok : Nat → Prop) (v0 : Value) (l : List Rw) (hv : Sl Rp.rw ok w v0 l) (hl : l.length ≤ 1048576) :
    Does Tryz.prog 8 #[v0] w fun r w' => OwnK Rp.rw (fun g => ok g ∧ g < w.heap.size) w.heap.size 54 w' r l ∧ Fr [] w w' := by
  obtain ⟨A0, c0, rfl, helc, hel⟩ := hv
  have hel2 : El Rp.rw (fun g => ok g ∧ g < w.heap.size) w A0 l := hel.weak fun g hg ho => ⟨ho, hg⟩
  refine Does.of (fn_in (l := [.slice A0 l.length c0]) Tryz.func8 rfl Tryz.ntmps8 rfl ?_)
  refine wp_seq ?_
  refine r_start ?_
  refine l_v (v := .slice none 0 0) rfl rfl (by kernel_rfl) ?_
  refine l_nil ?_
  refine n_then ?_
  refine wp_seq ?_
  refine r_start ?_
  refine l_v (v := .slice none 0 0) rfl rfl (by kernel_rfl) ?_
  refine l_nil ?_
  refine n_then ?_
  refine wp_seq ?_
  refine wp_seq ?_
  refine r_start ?_
  refine l_v (v := .int .i64 0) rfl rfl (by kernel_rfl) ?_
  refine l_nil ?_
  refine n_then ?_
  refine wp_block ?_
  refine c_loop (fun m_ a_ w_ => ∃ u_ : Nat → Value, ∃ k : Nat, ∃ v3 : Value, a_ = mk [] 33 u_ [(3, v3), (4, .int .i64 ((k : Nat) : Int)), (0, .slice A0 l.length c0), (2, .slice none 0 0)] ∧ m_ = l.length - k ∧ Fr [] w w_ ∧ (k ≤ l.length) ∧ (OwnK Rp.rw (fun g => ok g ∧ g < w.heap.size) w.heap.size 54 w_ v3 (l.take k))) (l.length - 0) ⟨_, 0, .slice none 0 0, mk_eq (by kernel_rfl), rfl, (Fr.refl [] w), Nat.zero_le _, OwnK.nil _ _ _ _ _⟩ ?_
  rintro m3 _ wr1 ⟨u_, k, v3, rfl, hm4, hE5, hk, ho⟩ K_ hK2
  have hE5z := hE5.size
  refine wp_seq ?_
  refine wp_seq ?_
  refine r_start ?_
  refine l_v (v := .int .i64 ((k : Nat) : Int)) rfl rfl (by kernel_rfl) ?_
  refine l_v (v := .slice A0 l.length c0) rfl rfl (by kernel_rfl) ?_
  refine l_v (v := .int .i64 ((l.length : Nat) : Int)) rfl rfl (r_len rfl rfl Tryz.underlying22) ?_
  refine l_v (v := .bool (decide (((k : Nat) : Int) < ((l.length : Nat) : Int)))) rfl rfl (by kernel_rfl) ?_
  refine l_nil ?_
  refine n_then ?_
  refine c_cond (e := decide (((k : Nat) : Int) < ((l.length : Nat) : Int))) rfl (fun hc6 => ?_) (fun hc6 => ?_)
  · try simp only [decide_eq_true_eq, decide_eq_false_iff_not, Bool.and_eq_true, Bool.or_eq_true, Bool.and_eq_false_iff, Bool.or_eq_false_iff, Bool.not_eq_true', Bool.not_eq_false', beq_iff_eq, bne_iff_ne, ne_eq, beq_eq_false_iff_ne, bne_eq_false_iff_eq, gt_iff_lt, ge_iff_le, Int.not_lt, Int.not_le] at hc6
    refine wp_skip ?_
    refine n_then ?_
    refine wp_seq ?_
    refine wp_block ?_
    refine wp_seq ?_
    refine r_start ?_
    refine l_v (v := .slice A0 l.length c0) rfl rfl (by kernel_rfl) ?_
    refine l_v (v := .int .i64 ((k : Nat) : Int)) rfl rfl (by kernel_rfl) ?_
    obtain ⟨x7, g8, off9, cs10, hx11, hA12, hg13, hl14, hK15, hr16⟩ := El.get hel2 (i := k) (by omega)
    obtain ⟨A17, c18, rfl, _⟩ := id hK15
    refine l_v (v := .pointer (some ⟨g8, off9 + k * 6, none⟩)) rfl rfl (r_elemn rfl rfl rfl hA12 Tryz.underlying22 (by kernel_rfl) (by omega)) ?_
    have hr19 := (range_fr hr16 hE5 (by simp))
    refine l_v (v := .agg #[.int .i64 x7.kind, .int .i64 x7.err, .int .i64 x7.conn, .int .i64 x7.n, .slice A17 x7.data.length c18, .bool x7.ended]) rfl rfl (r_loads (cs := [.int .i64 x7.kind, .int .i64 x7.err, .int .i64 x7.conn, .int .i64 x7.n, .slice A17 x7.data.length c18, .bool x7.ended]) rfl rfl Tryz.underlying49 rfl (by kernel_rfl) hr19) ?_
    refine l_new (fun k_ => .pointer (some ⟨k_, 0, none⟩)) rfl rfl (by kernel_rfl) (ob := .cells #[.int .i64 0, .int .i64 0, .int .i64 0, .int .i64 0, .slice none 0 0, .bool false] 49) (fun k20 w21 n22 => ?_)
    have n22k := n22.hk; have n22z := n22.sz
    refine l_store rfl rfl rfl (g := k20) (off := 0) (v := .agg #[.int .i64 x7.kind, .int .i64 x7.err, .int .i64 x7.conn, .int .i64 x7.n, .slice A17 x7.data.length c18, .bool x7.ended]) (arr := #[.int .i64 x7.kind, .int .i64 x7.err, .int .i64 x7.conn, .int .i64 x7.n, .slice A17 x7.data.length c18, .bool x7.ended]) rfl rfl (by kernel_rfl) n22.at_ rfl (by simp [Value.cells, Value.oneCell']) rfl (fun w23 p24 => ?_)
    have p24z := p24.sz
    refine l_nil ?_
    refine n_then ?_
    refine r_start ?_
    refine l_v (v := v3) rfl rfl (by kernel_rfl) ?_
    refine l_v (v := .pointer (some ⟨k20, 0, none⟩)) rfl rfl (r_field rfl rfl Tryz.underlying49 rfl (by kernel_rfl) rfl) ?_
    refine l_v (v := .int .i64 x7.kind) rfl rfl (r_load rfl rfl Tryz.underlying3 rfl (cell_at p24.at_ rfl)) ?_
    refine l_v (v := .pointer (some ⟨k20, 1, none⟩)) rfl rfl (r_field rfl rfl Tryz.underlying49 rfl (by kernel_rfl) rfl) ?_
    refine l_v (v := .int .i64 x7.err) rfl rfl (r_load rfl rfl Tryz.underlying23 rfl (cell_at p24.at_ rfl)) ?_
    refine l_v (v := .pointer (some ⟨k20, 2, none⟩)) rfl rfl (r_field rfl rfl Tryz.underlying49 rfl (by kernel_rfl) rfl) ?_
    refine l_v (v := .int .i64 x7.conn) rfl rfl (r_load rfl rfl Tryz.underlying3 rfl (cell_at p24.at_ rfl)) ?_
    refine l_v (v := .pointer (some ⟨k20, 3, none⟩)) rfl rfl (r_field rfl rfl Tryz.underlying49 rfl (by kernel_rfl) rfl) ?_
    refine l_v (v := .int .i64 x7.n) rfl rfl (r_load rfl rfl Tryz.underlying3 rfl (cell_at p24.at_ rfl)) ?_
    refine l_v (v := .pointer (some ⟨k20, 4, none⟩)) rfl rfl (r_field rfl rfl Tryz.underlying49 rfl (by kernel_rfl) rfl) ?_
    refine l_v (v := .slice A17 x7.data.length c18) rfl rfl (r_load rfl rfl Tryz.underlying47 rfl (cell_at p24.at_ rfl)) ?_
    refine l_v (v := .pointer (some ⟨k20, 5, none⟩)) rfl rfl (r_field rfl rfl Tryz.underlying49 rfl (by kernel_rfl) rfl) ?_
    refine l_v (v := .bool x7.ended) rfl rfl (r_load rfl rfl Tryz.underlying4 rfl (cell_at p24.at_ rfl)) ?_
    refine l_v (v := .agg #[.int .i64 x7.kind, .int .i64 x7.err, .int .i64 x7.conn, .int .i64 x7.n, .slice A17 x7.data.length c18, .bool x7.ended]) rfl rfl (by kernel_rfl) ?_
    refine l_new (fun k_ => .slice (some ⟨k_, 0, none⟩) 1 1) rfl rfl (by kernel_rfl) (ob := .cells #[.int .i64 x7.kind, .int .i64 x7.err, .int .i64 x7.conn, .int .i64 x7.n, .slice A17 x7.data.length c18, .bool x7.ended] 54) (fun k25 w26 n27 => ?_)
    have hE28 : Fr [] w w23 := (Fr.step (hE5.trans n22.fr) p24.fr (by intro k_ hk_; simp only [List.mem_singleton] at hk_; omega))
    have hE28z := hE28.size
    have n27k := n27.hk; have n27z := n27.sz
    have hE29 : Fr [] w w26 := (hE28.trans n27.fr)
    have hE29z := hE29.size
    have hd30 := hK15.fr0 hE29
    have hd31 := ho.fr0 ((Fr.step ((Fr.refl [] wr1).trans n22.fr) p24.fr (by intro k_ hk_; simp only [List.mem_singleton] at hk_; omega)).trans n27.fr)
    have hlt3 := OwnK.lt hd31
    obtain ⟨css, hown, hnext⟩ := OwnK.push hd31
    have htk : (l.take k).length = k := by rw [List.length_take]; omega
    refine l_append (v := v3) (base := w.heap.size) (news := [.int .i64 x7.kind, .int .i64 x7.err, .int .i64 x7.conn, .int .i64 x7.n, .slice A17 x7.data.length c18, .bool x7.ended]) sl28 rfl rfl rfl rfl hown rfl rfl (range_at n27.at_ rfl) (by simp [Value.oneCell']) (by omega) (by decide) (by omega) (fun v32 w33 a34 => ?_)
    have a34z := a34.fr.size
    have ho2 := hnext _ x7 _ _ a34 hd30 (by intro g_ hg_ hc_; have := (hlt3 g_ hc_).1; have := hg_.2; omega)
    refine l_v (v := v32) rfl rfl (by kernel_rfl) ?_
    refine l_nil ?_
    refine n_block ?_
    refine n_then ?_
    refine r_start ?_
    refine l_v (v := .int .i64 ((k : Nat) : Int)) rfl rfl (by kernel_rfl) ?_
    refine l_v (v := .int .i64 (((k : Nat) : Int) + 1)) rfl rfl (r_add (r := ((k : Nat) : Int) + 1) rfl rfl rfl (by omega) (by simp only [min_i64]; omega) (by simp only [max_i64]; omega)) ?_
    refine l_v (v := .int .i64 (((k : Nat) : Int) + 1)) rfl rfl (by kernel_rfl) ?_
    refine l_nil ?_
    refine n_then ?_
    have hE35 : Fr [] w w33 := (Fr.step hE29 a34.fr (own_ge hown (by omega)))
    have hE35z := hE35.size
    exact hK2 _ _ _ (by omega) ⟨_, (k + 1), v32, mk_eq (by kernel_rfl), rfl, hE35, (by omega), (by rw [take_snoc hx11]; exact ho2)⟩
  · try simp only [decide_eq_true_eq, decide_eq_false_iff_not, Bool.and_eq_true, Bool.or_eq_true, Bool.and_eq_false_iff, Bool.or_eq_false_iff, Bool.not_eq_true', Bool.not_eq_false', beq_iff_eq, bne_iff_ne, ne_eq, beq_eq_false_iff_ne, bne_eq_false_iff_eq, gt_iff_lt, ge_iff_le, Int.not_lt, Int.not_le] at hc6
    obtain rfl : k = l.length := by omega
    rw [List.take_length] at ho
    refine wp_exit ?_
    refine e_then ?_
    refine e_then ?_
    refine e_hit ?_
    refine n_then ?_
    refine wp_seq ?_
    refine r_start ?_
    refine l_v (v := v3) rfl rfl (by kernel_rfl) ?_
    refine l_v (v := v3) rfl rfl (by kernel_rfl) ?_
    refine l_nil ?_
    refine n_then ?_
    refine wp_ret ?_
    exact end_ret (v := v3) (res1 rfl rfl) ⟨_, rfl, ⟨ho, hE5⟩⟩

/-- law31.theirs -/
theorem theirs_calls (w : World) (ok : Nat → Prop) (v0 : Value) (l : List Ev) (hv : Sl Rp.ev ok w v0 l) (hl : l.length ≤ 1048576) :
    Does Tryz.prog 16 #[v0] w fun r w' => OwnK Rp.ev (fun g => ok g ∧ g < w.heap.size) w.heap.size 73 w' r l ∧ Fr [] w w' := by
  obtain ⟨A0, c0, rfl, helc, hel⟩ := hv
  have hel2 : El Rp.ev (fun g => ok g ∧ g < w.heap.size) w A0 l := hel.weak fun g hg ho => ⟨ho, hg⟩
  refine Does.of (fn_in (l := [.slice A0 l.length c0]) Tryz.func16 rfl Tryz.ntmps16 rfl ?_)
  refine wp_seq ?_
  refine r_start ?_
  refine l_v (v := .slice none 0 0) rfl rfl (by kernel_rfl) ?_
  refine l_nil ?_
  refine n_then ?_
  refine wp_seq ?_
  refine r_start ?_
  refine l_v (v := .slice none 0 0) rfl rfl (by kernel_rfl) ?_
  refine l_nil ?_
  refine n_then ?_
  refine wp_seq ?_
  refine wp_seq ?_
  refine r_start ?_
  refine l_v (v := .int .i64 0) rfl rfl (by kernel_rfl) ?_
  refine l_nil ?_
  refine n_then ?_
  refine wp_block ?_
  refine c_loop (fun m_ a_ w_ => ∃ u_ : Nat → Value, ∃ k : Nat, ∃ v3 : Value, a_ = mk [] 19 u_ [(3, v3), (4, .int .i64 ((k : Nat) : Int)), (0, .slice A0 l.length c0), (2, .slice none 0 0)] ∧ m_ = l.length - k ∧ Fr [] w w_ ∧ (k ≤ l.length) ∧ (OwnK Rp.ev (fun g => ok g ∧ g < w.heap.size) w.heap.size 73 w_ v3 (l.take k))) (l.length - 0) ⟨_, 0, .slice none 0 0, mk_eq (by kernel_rfl), rfl, (Fr.refl [] w), Nat.zero_le _, OwnK.nil _ _ _ _ _⟩ ?_
  rintro m3 _ wr1 ⟨u_, k, v3, rfl, hm4, hE5, hk, ho⟩ K_ hK2
  have hE5z := hE5.size
  refine wp_seq ?_
  refine wp_seq ?_
  refine r_start ?_
  refine l_v (v := .int .i64 ((k : Nat) : Int)) rfl rfl (by kernel_rfl) ?_
  refine l_v (v := .slice A0 l.length c0) rfl rfl (by kernel_rfl) ?_
  refine l_v (v := .int .i64 ((l.length : Nat) : Int)) rfl rfl (r_len rfl rfl Tryz.underlying37) ?_
  refine l_v (v := .bool (decide (((k : Nat) : Int) < ((l.length : Nat) : Int)))) rfl rfl (by kernel_rfl) ?_
  refine l_nil ?_
  refine n_then ?_
  refine c_cond (e := decide (((k : Nat) : Int) < ((l.length : Nat) : Int))) rfl (fun hc6 => ?_) (fun hc6 => ?_)
  · try simp only [decide_eq_true_eq, decide_eq_false_iff_not, Bool.and_eq_true, Bool.or_eq_true, Bool.and_eq_false_iff, Bool.or_eq_false_iff, Bool.not_eq_true', Bool.not_eq_false', beq_iff_eq, bne_iff_ne, ne_eq, beq_eq_false_iff_ne, bne_eq_false_iff_eq, gt_iff_lt, ge_iff_le, Int.not_lt, Int.not_le] at hc6
    refine wp_skip ?_
    refine n_then ?_
    refine wp_seq ?_
    refine wp_block ?_
    refine r_start ?_
    refine l_v (v := v3) rfl rfl (by kernel_rfl) ?_
    refine l_v (v := .slice A0 l.length c0) rfl rfl (by kernel_rfl) ?_
    refine l_v (v := .int .i64 ((k : Nat) : Int)) rfl rfl (by kernel_rfl) ?_
    obtain ⟨x7, g8, off9, cs10, hx11, hA12, hg13, hl14, hK15, hr16⟩ := El.get hel2 (i := k) (by omega)
    obtain ⟨A17, c18, A19, c20, rfl, _⟩ := id hK15
    refine l_v (v := .pointer (some ⟨g8, off9 + k * 5, none⟩)) rfl rfl (r_elemn rfl rfl rfl hA12 Tryz.underlying37 (by kernel_rfl) (by omega)) ?_
    have hr21 := (range_fr hr16 hE5 (by simp))
    refine l_v (v := .agg #[.int .i64 x7.kind, .int .i64 x7.conn, .int .i64 x7.n, .slice A17 x7.data.length c18, .slice A19 x7.picks.length c20]) rfl rfl (r_loads (cs := [.int .i64 x7.kind, .int .i64 x7.conn, .int .i64 x7.n, .slice A17 x7.data.length c18, .slice A19 x7.picks.length c20]) rfl rfl Tryz.underlying66 rfl (by kernel_rfl) hr21) ?_
    refine l_new (fun k_ => .slice (some ⟨k_, 0, none⟩) 1 1) rfl rfl (by kernel_rfl) (ob := .cells #[.int .i64 x7.kind, .int .i64 x7.conn, .int .i64 x7.n, .slice A17 x7.data.length c18, .slice A19 x7.picks.length c20] 73) (fun k22 w23 n24 => ?_)
    have n24k := n24.hk; have n24z := n24.sz
    have hE25 : Fr [] w w23 := (hE5.trans n24.fr)
    have hE25z := hE25.size
    have hd26 := hK15.fr0 hE25
    have hd27 := ho.fr0 ((Fr.refl [] wr1).trans n24.fr)
    have hlt3 := OwnK.lt hd27
    obtain ⟨css, hown, hnext⟩ := OwnK.push hd27
    have htk : (l.take k).length = k := by rw [List.length_take]; omega
    refine l_append (v := v3) (base := w.heap.size) (news := [.int .i64 x7.kind, .int .i64 x7.conn, .int .i64 x7.n, .slice A17 x7.data.length c18, .slice A19 x7.picks.length c20]) sl42 rfl rfl rfl rfl hown rfl rfl (range_at n24.at_ rfl) (by simp [Value.oneCell']) (by omega) (by decide) (by omega) (fun v28 w29 a30 => ?_)
    have a30z := a30.fr.size
    have ho2 := hnext _ x7 _ _ a30 hd26 (by intro g_ hg_ hc_; have := (hlt3 g_ hc_).1; have := hg_.2; omega)
    refine l_v (v := v28) rfl rfl (by kernel_rfl) ?_
    refine l_nil ?_
    refine n_block ?_
    refine n_then ?_
    refine r_start ?_
    refine l_v (v := .int .i64 ((k : Nat) : Int)) rfl rfl (by kernel_rfl) ?_
    refine l_v (v := .int .i64 (((k : Nat) : Int) + 1)) rfl rfl (r_add (r := ((k : Nat) : Int) + 1) rfl rfl rfl (by omega) (by simp only [min_i64]; omega) (by simp only [max_i64]; omega)) ?_
    refine l_v (v := .int .i64 (((k : Nat) : Int) + 1)) rfl rfl (by kernel_rfl) ?_
    refine l_nil ?_
    refine n_then ?_
    have hE31 : Fr [] w w29 := (Fr.step hE25 a30.fr (own_ge hown (by omega)))
    have hE31z := hE31.size
    exact hK2 _ _ _ (by omega) ⟨_, (k + 1), v28, mk_eq (by kernel_rfl), rfl, hE31, (by omega), (by rw [take_snoc hx11]; exact ho2)⟩
  · try simp only [decide_eq_true_eq, decide_eq_false_iff_not, Bool.and_eq_true, Bool.or_eq_true, Bool.and_eq_false_iff, Bool.or_eq_false_iff, Bool.not_eq_true', Bool.not_eq_false', beq_iff_eq, bne_iff_ne, ne_eq, beq_eq_false_iff_ne, bne_eq_false_iff_eq, gt_iff_lt, ge_iff_le, Int.not_lt, Int.not_le] at hc6
    obtain rfl : k = l.length := by omega
    rw [List.take_length] at ho
    refine wp_exit ?_
    refine e_then ?_
    refine e_then ?_
    refine e_hit ?_
    refine n_then ?_
    refine wp_seq ?_
    refine r_start ?_
    refine l_v (v := v3) rfl rfl (by kernel_rfl) ?_
    refine l_v (v := v3) rfl rfl (by kernel_rfl) ?_
    refine l_nil ?_
    refine n_then ?_
    refine wp_ret ?_
    exact end_ret (v := v3) (res1 rfl rfl) ⟨_, rfl, ⟨ho, hE5⟩⟩

/-- law31.rows -/
theorem rows_calls (w : World) (ok1 ok2 : Nat → Prop) (v0 v1 : Value) (l m : List Rw) (hv : Sl Rp.rw ok1 w v0 l) (hu : Sl Rp.rw ok2 w v1 m) (hl : l.length ≤ 2097152) (hm : m.length ≤ 2097152) :
    Does Tryz.prog 11 #[v0, v1] w fun r w' => ∃ b : Bool, r = .bool b ∧ (b = true ↔ l = m) ∧ Fr [] w w' := by
  obtain ⟨A1, c1, rfl, hemc, hem⟩ := hu
  obtain ⟨A0, c0, rfl, helc, hel⟩ := hv
  refine Does.of (fn_in (l := [.slice A0 l.length c0, .slice A1 m.length c1]) Tryz.func11 rfl Tryz.ntmps11 rfl ?_)
  refine wp_seq ?_
  refine r_start ?_
  refine l_v (v := .bool false) rfl rfl (by kernel_rfl) ?_
  refine l_nil ?_
  refine n_then ?_
  refine wp_seq ?_
  refine wp_seq ?_
  refine r_start ?_
  refine l_v (v := .slice A0 l.length c0) rfl rfl (by kernel_rfl) ?_
  refine l_v (v := .int .i64 ((l.length : Nat) : Int)) rfl rfl (r_len rfl rfl Tryz.underlying28) ?_
  refine l_v (v := .slice A1 m.length c1) rfl rfl (by kernel_rfl) ?_
  refine l_v (v := .int .i64 ((m.length : Nat) : Int)) rfl rfl (r_len rfl rfl Tryz.underlying28) ?_
  refine l_v (v := .bool ((((l.length : Nat) : Int) != ((m.length : Nat) : Int)))) rfl rfl (by kernel_rfl) ?_
  refine l_nil ?_
  refine n_then ?_
  refine c_cond (e := (((l.length : Nat) : Int) != ((m.length : Nat) : Int))) rfl (fun hc1 => ?_) (fun hc1 => ?_)
  · try simp only [decide_eq_true_eq, decide_eq_false_iff_not, Bool.and_eq_true, Bool.or_eq_true, Bool.and_eq_false_iff, Bool.or_eq_false_iff, Bool.not_eq_true', Bool.not_eq_false', beq_iff_eq, bne_iff_ne, ne_eq, beq_eq_false_iff_ne, bne_eq_false_iff_eq, gt_iff_lt, ge_iff_le, Int.not_lt, Int.not_le] at hc1
    refine wp_seq ?_
    refine r_start ?_
    refine l_v (v := .bool false) rfl rfl (by kernel_rfl) ?_
    refine l_nil ?_
    refine n_then ?_
    refine wp_ret ?_
    refine t_then ?_
    exact end_ret (v := .bool false) (res1 rfl rfl) ⟨_, rfl, ⟨false, rfl, ⟨fun h_ => (by cases h_), fun h_ => by rw [h_] at hc1; simp at hc1⟩, (Fr.refl [] w)⟩⟩
  · try simp only [decide_eq_true_eq, decide_eq_false_iff_not, Bool.and_eq_true, Bool.or_eq_true, Bool.and_eq_false_iff, Bool.or_eq_false_iff, Bool.not_eq_true', Bool.not_eq_false', beq_iff_eq, bne_iff_ne, ne_eq, beq_eq_false_iff_ne, bne_eq_false_iff_eq, gt_iff_lt, ge_iff_le, Int.not_lt, Int.not_le] at hc1
    have hlm : l.length = m.length := by omega
    refine wp_skip ?_
    refine n_then ?_
    refine wp_seq ?_
    refine wp_seq ?_
    refine r_start ?_
    refine l_v (v := .int .i64 0) rfl rfl (by kernel_rfl) ?_
    refine l_nil ?_
    refine n_then ?_
    refine wp_block ?_
    refine c_loop (fun m_ a_ w_ => ∃ u_ : Nat → Value, ∃ k : Nat, a_ = mk [] 69 u_ [(5, .int .i64 ((k : Nat) : Int)), (0, .slice A0 l.length c0), (1, .slice A1 m.length c1), (8, .slice A0 l.length c0), (9, .int .i64 ((l.length : Nat) : Int)), (10, .slice A1 m.length c1), (11, .int .i64 ((m.length : Nat) : Int)), (12, .bool ((((l.length : Nat) : Int) != ((m.length : Nat) : Int))))] ∧ m_ = l.length - k ∧ Fr [] w w_ ∧ (k ≤ l.length) ∧ (l.take k = m.take k)) (l.length - 0) ⟨_, 0, mk_eq (by kernel_rfl), rfl, (Fr.refl [] w), Nat.zero_le _, rfl⟩ ?_
    rintro m4 _ wr2 ⟨u_, k, rfl, hm5, hE6, hk, hq⟩ K_ hK3
    have hE6z := hE6.size
    refine wp_seq ?_
    refine wp_seq ?_
    refine r_start ?_
    refine l_v (v := .int .i64 ((k : Nat) : Int)) rfl rfl (by kernel_rfl) ?_
    refine l_v (v := .slice A0 l.length c0) rfl rfl (by kernel_rfl) ?_
    refine l_v (v := .int .i64 ((l.length : Nat) : Int)) rfl rfl (r_len rfl rfl Tryz.underlying28) ?_
    refine l_v (v := .bool (decide (((k : Nat) : Int) < ((l.length : Nat) : Int)))) rfl rfl (by kernel_rfl) ?_
    refine l_nil ?_
    refine n_then ?_
    refine c_cond (e := decide (((k : Nat) : Int) < ((l.length : Nat) : Int))) rfl (fun hc7 => ?_) (fun hc7 => ?_)
    · try simp only [decide_eq_true_eq, decide_eq_false_iff_not, Bool.and_eq_true, Bool.or_eq_true, Bool.and_eq_false_iff, Bool.or_eq_false_iff, Bool.not_eq_true', Bool.not_eq_false', beq_iff_eq, bne_iff_ne, ne_eq, beq_eq_false_iff_ne, bne_eq_false_iff_eq, gt_iff_lt, ge_iff_le, Int.not_lt, Int.not_le] at hc7
      refine wp_skip ?_
      refine n_then ?_
      refine wp_seq ?_
      refine wp_block ?_
      refine wp_seq ?_
      refine h_start' (fun w0_ w_ => Fr [] w0_ w_) hmix (fun _ _ _ _ _ h => h) (fun w8 f9 hQ11 => ?_)
      have f9z := f9.size
      refine h_take (i := 0) (v := .slice A0 l.length c0) rfl (by kernel_rfl) (by kernel_rfl) (by kernel_rfl) hQ11 rfl rfl (fun w_ hS_ => (by kernel_rfl)) (Fr.refl [] w8) ?_
      refine h_take (i := 1) (v := .int .i64 ((k : Nat) : Int)) rfl (by kernel_rfl) (by kernel_rfl) (by kernel_rfl) hQ11 rfl rfl (fun w_ hS_ => (by kernel_rfl)) (Fr.refl [] w8) ?_
      obtain ⟨x12, g13, off14, cs15, hx16, hA17, hg18, hl19, hK20, hr21⟩ := El.get hel (i := k) (by omega)
      obtain ⟨A22, c23, rfl, hc24, hel25, hf26⟩ := id hK20
      refine h_take (i := 2) (v := .pointer (some ⟨g13, off14 + k * 6, none⟩)) rfl (by kernel_rfl) (by kernel_rfl) (by kernel_rfl) hQ11 rfl rfl (fun w_ hS_ => (r_elemn rfl rfl rfl hA17 Tryz.underlying28 (by kernel_rfl) (by omega))) (Fr.refl [] w8) ?_
      have hr27 := (range_fr (range_fr hr21 hE6 (by simp)) f9 (by simp))
      refine h_take (i := 3) (v := .agg #[.int .i64 x12.kind, .int .i64 x12.err, .int .i64 x12.conn, .int .i64 x12.n, .slice A22 x12.data.length c23, .bool x12.ended]) rfl (by kernel_rfl) (by kernel_rfl) (by kernel_rfl) hQ11 rfl rfl (fun w_ hS_ => (r_loads (cs := [.int .i64 x12.kind, .int .i64 x12.err, .int .i64 x12.conn, .int .i64 x12.n, .slice A22 x12.data.length c23, .bool x12.ended]) rfl rfl Tryz.underlying54 rfl (by kernel_rfl) (range_fr hr27 hS_ (by simp)))) (Fr.refl [] w8) ?_
      refine h_take (i := 4) (v := .slice A1 m.length c1) rfl (by kernel_rfl) (by kernel_rfl) (by kernel_rfl) hQ11 rfl rfl (fun w_ hS_ => (by kernel_rfl)) (Fr.refl [] w8) ?_
      refine h_take (i := 5) (v := .int .i64 ((k : Nat) : Int)) rfl (by kernel_rfl) (by kernel_rfl) (by kernel_rfl) hQ11 rfl rfl (fun w_ hS_ => (by kernel_rfl)) (Fr.refl [] w8) ?_
      obtain ⟨x28, g29, off30, cs31, hx32, hA33, hg34, hl35, hK36, hr37⟩ := El.get hem (i := k) (by omega)
      obtain ⟨A38, c39, rfl, hc40, hel41, hf42⟩ := id hK36
      refine h_take (i := 6) (v := .pointer (some ⟨g29, off30 + k * 6, none⟩)) rfl (by kernel_rfl) (by kernel_rfl) (by kernel_rfl) hQ11 rfl rfl (fun w_ hS_ => (r_elemn rfl rfl rfl hA33 Tryz.underlying28 (by kernel_rfl) (by omega))) (Fr.refl [] w8) ?_
      have hr43 := (range_fr (range_fr hr37 hE6 (by simp)) f9 (by simp))
      refine h_take (i := 7) (v := .agg #[.int .i64 x28.kind, .int .i64 x28.err, .int .i64 x28.conn, .int .i64 x28.n, .slice A38 x28.data.length c39, .bool x28.ended]) rfl (by kernel_rfl) (by kernel_rfl) (by kernel_rfl) hQ11 rfl rfl (fun w_ hS_ => (r_loads (cs := [.int .i64 x28.kind, .int .i64 x28.err, .int .i64 x28.conn, .int .i64 x28.n, .slice A38 x28.data.length c39, .bool x28.ended]) rfl rfl Tryz.underlying54 rfl (by kernel_rfl) (range_fr hr43 hS_ (by simp)))) (Fr.refl [] w8) ?_
      refine h_two_new (i := 8) (j := 9) (fun k_ => .pointer (some ⟨k_, 0, none⟩)) (fun k_ => .pointer (some ⟨k_, 0, none⟩)) (by kernel_rfl) (by kernel_rfl) (by kernel_rfl) (by kernel_rfl) rfl rfl rfl rfl rfl rfl rfl (obi := .cells #[.int .i64 0, .int .i64 0, .int .i64 0, .int .i64 0, .slice none 0 0, .bool false] 54) (obj := .cells #[.int .i64 0, .int .i64 0, .int .i64 0, .int .i64 0, .slice none 0 0, .bool false] 54) (fun _ _ => by kernel_rfl) (fun _ _ => by kernel_rfl) (fun w_ hf_ => (Fr.refl [] w8).trans hf_.any) (fun k44 k45 w46 tw47 => ?_)
      have tw47a := tw47.ne; have tw47b := tw47.gi; have tw47c := tw47.gj; have tw47z := tw47.sz; have tw47d := tw47.li; have tw47e := tw47.lj
      refine h_store (i := 10) (by kernel_rfl) rfl rfl rfl rfl (g := k44) (off := 0) (v := .agg #[.int .i64 x12.kind, .int .i64 x12.err, .int .i64 x12.conn, .int .i64 x12.n, .slice A22 x12.data.length c23, .bool x12.ended]) (arr := #[.int .i64 x12.kind, .int .i64 x12.err, .int .i64 x12.conn, .int .i64 x12.n, .slice A22 x12.data.length c23, .bool x12.ended]) rfl rfl (by kernel_rfl) tw47.at_ rfl (by simp [Value.cells, Value.oneCell']) rfl (fun w48 p49 => ⟨Fr.stepM ((Fr.refl [] w8).trans tw47.fr.any) p49.fr (by intro k_ hk_; simp only [List.mem_singleton] at hk_; omega), ?_⟩)
      have p49z := p49.sz
      have hb50 := (p49.fr.at tw47.at2_ (by simp only [List.mem_singleton]; omega))
      refine h_store (i := 11) (by kernel_rfl) rfl rfl rfl rfl (g := k45) (off := 0) (v := .agg #[.int .i64 x28.kind, .int .i64 x28.err, .int .i64 x28.conn, .int .i64 x28.n, .slice A38 x28.data.length c39, .bool x28.ended]) (arr := #[.int .i64 x28.kind, .int .i64 x28.err, .int .i64 x28.conn, .int .i64 x28.n, .slice A38 x28.data.length c39, .bool x28.ended]) rfl rfl (by kernel_rfl) hb50 rfl (by simp [Value.cells, Value.oneCell']) rfl (fun w51 p52 => ⟨Fr.stepM (Fr.stepM ((Fr.refl [] w8).trans tw47.fr.any) p49.fr (by intro k_ hk_; simp only [List.mem_singleton] at hk_; omega)) p52.fr (by intro k_ hk_; simp only [List.mem_singleton] at hk_; omega), ?_⟩)
      have p52z := p52.sz
      refine wpAnyH_done (by kernel_rfl) ?_ _
      refine n_then ?_
      refine wp_seq ?_
      refine r_start ?_
      refine l_v (v := .pointer (some ⟨k44, 0, none⟩)) rfl rfl (r_field rfl rfl Tryz.underlying54 rfl (by kernel_rfl) rfl) ?_
      have hb53 := (p52.fr.at p49.at_ (by simp only [List.mem_singleton]; omega))
      refine l_v (v := .int .i64 x12.kind) rfl rfl (r_load rfl rfl Tryz.underlying3 rfl (cell_at hb53 rfl)) ?_
      refine l_v (v := .pointer (some ⟨k45, 0, none⟩)) rfl rfl (r_field rfl rfl Tryz.underlying54 rfl (by kernel_rfl) rfl) ?_
      refine l_v (v := .int .i64 x28.kind) rfl rfl (r_load rfl rfl Tryz.underlying3 rfl (cell_at p52.at_ rfl)) ?_
      refine l_v (v := .bool (x12.kind != x28.kind)) rfl rfl (by kernel_rfl) ?_
      refine l_v (v := .bool (x12.kind != x28.kind)) rfl rfl (by kernel_rfl) ?_
      refine l_g (v := .pointer (some ⟨k44, 1, none⟩)) (want_1 rfl rfl rfl rfl) rfl (fun hW_ => (r_field rfl rfl Tryz.underlying54 rfl (by kernel_rfl) rfl)) ?_
      refine l_g (v := .int .i64 x12.err) (want_1 rfl rfl rfl rfl) rfl (fun hW_ => (r_load rfl (gd_true hW_ _) Tryz.underlying3 rfl (cell_at hb53 rfl))) ?_
      refine l_g (v := .pointer (some ⟨k45, 1, none⟩)) (want_1 rfl rfl rfl rfl) rfl (fun hW_ => (r_field rfl rfl Tryz.underlying54 rfl (by kernel_rfl) rfl)) ?_
      refine l_g (v := .int .i64 x28.err) (want_1 rfl rfl rfl rfl) rfl (fun hW_ => (r_load rfl (gd_true hW_ _) Tryz.underlying3 rfl (cell_at p52.at_ rfl))) ?_
      refine l_g (v := .bool (x12.err != x28.err)) (want_1 rfl rfl rfl rfl) rfl (fun hW_ => (r_cmp rfl (gd_true hW_ _) (gd_true hW_ _) rfl)) ?_
      refine l_v (v := .bool ((x12.kind != x28.kind) || (x12.err != x28.err))) rfl rfl (r_pick rfl rfl (pick_or _ _)) ?_
      refine l_v (v := .bool ((x12.kind != x28.kind) || (x12.err != x28.err))) rfl rfl (by kernel_rfl) ?_
      refine l_g (v := .pointer (some ⟨k44, 2, none⟩)) (want_1 rfl rfl rfl rfl) rfl (fun hW_ => (r_field rfl rfl Tryz.underlying54 rfl (by kernel_rfl) rfl)) ?_
      refine l_g (v := .int .i64 x12.conn) (want_1 rfl rfl rfl rfl) rfl (fun hW_ => (r_load rfl (gd_true hW_ _) Tryz.underlying3 rfl (cell_at hb53 rfl))) ?_
      refine l_g (v := .pointer (some ⟨k45, 2, none⟩)) (want_1 rfl rfl rfl rfl) rfl (fun hW_ => (r_field rfl rfl Tryz.underlying54 rfl (by kernel_rfl) rfl)) ?_
      refine l_g (v := .int .i64 x28.conn) (want_1 rfl rfl rfl rfl) rfl (fun hW_ => (r_load rfl (gd_true hW_ _) Tryz.underlying3 rfl (cell_at p52.at_ rfl))) ?_
      refine l_g (v := .bool (x12.conn != x28.conn)) (want_1 rfl rfl rfl rfl) rfl (fun hW_ => (r_cmp rfl (gd_true hW_ _) (gd_true hW_ _) rfl)) ?_
      refine l_v (v := .bool ((((x12.kind != x28.kind) || (x12.err != x28.err)) || (x12.conn != x28.conn)))) rfl rfl (r_pick rfl rfl (pick_or _ _)) ?_
      refine l_v (v := .bool ((((x12.kind != x28.kind) || (x12.err != x28.err)) || (x12.conn != x28.conn)))) rfl rfl (by kernel_rfl) ?_
      refine l_g (v := .pointer (some ⟨k44, 3, none⟩)) (want_1 rfl rfl rfl rfl) rfl (fun hW_ => (r_field rfl rfl Tryz.underlying54 rfl (by kernel_rfl) rfl)) ?_
      refine l_g (v := .int .i64 x12.n) (want_1 rfl rfl rfl rfl) rfl (fun hW_ => (r_load rfl (gd_true hW_ _) Tryz.underlying3 rfl (cell_at hb53 rfl))) ?_
      refine l_g (v := .pointer (some ⟨k45, 3, none⟩)) (want_1 rfl rfl rfl rfl) rfl (fun hW_ => (r_field rfl rfl Tryz.underlying54 rfl (by kernel_rfl) rfl)) ?_
      refine l_g (v := .int .i64 x28.n) (want_1 rfl rfl rfl rfl) rfl (fun hW_ => (r_load rfl (gd_true hW_ _) Tryz.underlying3 rfl (cell_at p52.at_ rfl))) ?_
      refine l_g (v := .bool (x12.n != x28.n)) (want_1 rfl rfl rfl rfl) rfl (fun hW_ => (r_cmp rfl (gd_true hW_ _) (gd_true hW_ _) rfl)) ?_
      refine l_v (v := .bool ((((((x12.kind != x28.kind) || (x12.err != x28.err)) || (x12.conn != x28.conn))) || (x12.n != x28.n)))) rfl rfl (r_pick rfl rfl (pick_or _ _)) ?_
      refine l_v (v := .bool ((((((x12.kind != x28.kind) || (x12.err != x28.err)) || (x12.conn != x28.conn))) || (x12.n != x28.n)))) rfl rfl (by kernel_rfl) ?_
      refine l_g (v := .pointer (some ⟨k44, 4, none⟩)) (want_1 rfl rfl rfl rfl) rfl (fun hW_ => (r_field rfl rfl Tryz.underlying54 rfl (by kernel_rfl) rfl)) ?_
      refine l_g (v := .slice A22 x12.data.length c23) (want_1 rfl rfl rfl rfl) rfl (fun hW_ => (r_load rfl (gd_true hW_ _) Tryz.underlying47 rfl (cell_at hb53 rfl))) ?_
      have hE54 : Fr [] w w51 := (Fr.step (Fr.step ((hE6.trans f9).trans tw47.fr) p49.fr (by intro k_ hk_; simp only [List.mem_singleton] at hk_; omega)) p52.fr (by intro k_ hk_; simp only [List.mem_singleton] at hk_; omega))
      have hE54z := hE54.size
      have hd55 := hel25.fr0 hE54
      refine l_g (v := .string ⟨(x12.data).toArray⟩) (want_1 rfl rfl rfl rfl) rfl (fun hW_ => (r_conv_str rfl (gd_true hW_ _) (conv_bytes hd55 Tryz.underlying47 Tryz.underlying5 Tryz.underlying9))) ?_
      refine l_g (v := .pointer (some ⟨k45, 4, none⟩)) (want_1 rfl rfl rfl rfl) rfl (fun hW_ => (r_field rfl rfl Tryz.underlying54 rfl (by kernel_rfl) rfl)) ?_
      refine l_g (v := .slice A38 x28.data.length c39) (want_1 rfl rfl rfl rfl) rfl (fun hW_ => (r_load rfl (gd_true hW_ _) Tryz.underlying47 rfl (cell_at p52.at_ rfl))) ?_
      have hd56 := hel41.fr0 hE54
      refine l_g (v := .string ⟨(x28.data).toArray⟩) (want_1 rfl rfl rfl rfl) rfl (fun hW_ => (r_conv_str rfl (gd_true hW_ _) (conv_bytes hd56 Tryz.underlying47 Tryz.underlying5 Tryz.underlying9))) ?_
      refine l_g (v := .bool (!decide (x12.data = x28.data))) (want_1 rfl rfl rfl rfl) rfl (fun hW_ => (r_str_neq rfl (gd_true hW_ _) (gd_true hW_ _))) ?_
      refine l_v (v := .bool ((((((((x12.kind != x28.kind) || (x12.err != x28.err)) || (x12.conn != x28.conn))) || (x12.n != x28.n))) || (!decide (x12.data = x28.data))))) rfl rfl (r_pick rfl rfl (pick_or _ _)) ?_
      refine l_v (v := .bool ((((((((x12.kind != x28.kind) || (x12.err != x28.err)) || (x12.conn != x28.conn))) || (x12.n != x28.n))) || (!decide (x12.data = x28.data))))) rfl rfl (by kernel_rfl) ?_
      refine l_g (v := .pointer (some ⟨k44, 5, none⟩)) (want_1 rfl rfl rfl rfl) rfl (fun hW_ => (r_field rfl rfl Tryz.underlying54 rfl (by kernel_rfl) rfl)) ?_
      refine l_g (v := .bool x12.ended) (want_1 rfl rfl rfl rfl) rfl (fun hW_ => (r_load rfl (gd_true hW_ _) Tryz.underlying4 rfl (cell_at hb53 rfl))) ?_
      refine l_g (v := .pointer (some ⟨k45, 5, none⟩)) (want_1 rfl rfl rfl rfl) rfl (fun hW_ => (r_field rfl rfl Tryz.underlying54 rfl (by kernel_rfl) rfl)) ?_
      refine l_g (v := .bool x28.ended) (want_1 rfl rfl rfl rfl) rfl (fun hW_ => (r_load rfl (gd_true hW_ _) Tryz.underlying4 rfl (cell_at p52.at_ rfl))) ?_
      refine l_g (v := .bool (x12.ended != x28.ended)) (want_1 rfl rfl rfl rfl) rfl (fun hW_ => (r_bool_neq rfl (gd_true hW_ _) (gd_true hW_ _) Tryz.underlying4)) ?_
      refine l_v (v := .bool ((((((((((x12.kind != x28.kind) || (x12.err != x28.err)) || (x12.conn != x28.conn))) || (x12.n != x28.n))) || (!decide (x12.data = x28.data)))) || (x12.ended != x28.ended)))) rfl rfl (r_pick rfl rfl (pick_or _ _)) ?_
      refine l_nil ?_
      refine n_then ?_
      refine c_cond (e := (((((((((x12.kind != x28.kind) || (x12.err != x28.err)) || (x12.conn != x28.conn))) || (x12.n != x28.n))) || (!decide (x12.data = x28.data)))) || (x12.ended != x28.ended))) rfl (fun hc57 => ?_) (fun hc57 => ?_)
      · refine wp_seq ?_
        refine r_start ?_
        refine l_v (v := .bool false) rfl rfl (by kernel_rfl) ?_
        refine l_nil ?_
        refine n_then ?_
        refine wp_ret ?_
        refine t_block ?_
        refine t_then ?_
        refine t_then ?_
        refine t_block ?_
        refine t_then ?_
        exact end_ret (v := .bool false) (res1 rfl rfl) ⟨_, rfl, ⟨false, rfl, ⟨fun h_ => (by cases h_), fun h_ => (by (rw [h_, hx32] at hx16; cases hx16; simp at hc57))⟩, hE54⟩⟩
      · refine wp_skip ?_
        refine n_block ?_
        refine n_then ?_
        refine r_start ?_
        refine l_v (v := .int .i64 ((k : Nat) : Int)) rfl rfl (by kernel_rfl) ?_
        refine l_v (v := .int .i64 (((k : Nat) : Int) + 1)) rfl rfl (r_add (r := ((k : Nat) : Int) + 1) rfl rfl rfl (by omega) (by simp only [min_i64]; omega) (by simp only [max_i64]; omega)) ?_
        refine l_v (v := .int .i64 (((k : Nat) : Int) + 1)) rfl rfl (by kernel_rfl) ?_
        refine l_nil ?_
        refine n_then ?_
        have hxy : x12 = x28 := by
          obtain ⟨a1, a2, a3, a4, a5, a6⟩ := x12
          obtain ⟨b1, b2, b3, b4, b5, b6⟩ := x28
          simp at hc57
          simp [hc57]
        exact hK3 _ _ _ (by omega) ⟨_, (k + 1), mk_eq (by kernel_rfl), rfl, hE54, (by omega), (by rw [take_snoc hx16, take_snoc hx32, hq, hxy])⟩
    · try simp only [decide_eq_true_eq, decide_eq_false_iff_not, Bool.and_eq_true, Bool.or_eq_true, Bool.and_eq_false_iff, Bool.or_eq_false_iff, Bool.not_eq_true', Bool.not_eq_false', beq_iff_eq, bne_iff_ne, ne_eq, beq_eq_false_iff_ne, bne_eq_false_iff_eq, gt_iff_lt, ge_iff_le, Int.not_lt, Int.not_le] at hc7
      obtain rfl : k = l.length := by omega
      rw [List.take_length, hlm, List.take_length] at hq
      refine wp_exit ?_
      refine e_then ?_
      refine e_then ?_
      refine e_hit ?_
      refine n_then ?_
      refine wp_seq ?_
      refine r_start ?_
      refine l_v (v := .bool true) rfl rfl (by kernel_rfl) ?_
      refine l_nil ?_
      refine n_then ?_
      refine wp_ret ?_
      exact end_ret (v := .bool true) (res1 rfl rfl) ⟨_, rfl, ⟨true, rfl, ⟨fun _ => hq, fun _ => rfl⟩, hE6⟩⟩

/-- law31.events -/
theorem events_calls (w : World) (ok1 ok2 : Nat → Prop) (v0 v1 : Value) (l m : List Ev) (hv : Sl Rp.ev ok1 w v0 l) (hu : Sl Rp.ev ok2 w v1 m) (hl : l.length ≤ 2097152) (hm : m.length ≤ 2097152) :
    Does Tryz.prog 15 #[v0, v1] w fun r w' => ∃ b : Bool, r = .bool b ∧ (b = true ↔ l = m) ∧ Fr [] w w' := by
  obtain ⟨A1, c1, rfl, hemc, hem⟩ := hu
  obtain ⟨A0, c0, rfl, helc, hel⟩ := hv
  refine Does.of (fn_in (l := [.slice A0 l.length c0, .slice A1 m.length c1]) Tryz.func15 rfl Tryz.ntmps15 rfl ?_)
  refine wp_seq ?_
  refine r_start ?_
  refine l_v (v := .bool false) rfl rfl (by kernel_rfl) ?_
  refine l_nil ?_
  refine n_then ?_
  refine wp_seq ?_
  refine wp_seq ?_
  refine r_start ?_
  refine l_v (v := .slice A0 l.length c0) rfl rfl (by kernel_rfl) ?_
  refine l_v (v := .int .i64 ((l.length : Nat) : Int)) rfl rfl (r_len rfl rfl Tryz.underlying42) ?_
  refine l_v (v := .slice A1 m.length c1) rfl rfl (by kernel_rfl) ?_
  refine l_v (v := .int .i64 ((m.length : Nat) : Int)) rfl rfl (r_len rfl rfl Tryz.underlying42) ?_
  refine l_v (v := .bool ((((l.length : Nat) : Int) != ((m.length : Nat) : Int)))) rfl rfl (by kernel_rfl) ?_
  refine l_nil ?_
  refine n_then ?_
  refine c_cond (e := (((l.length : Nat) : Int) != ((m.length : Nat) : Int))) rfl (fun hc1 => ?_) (fun hc1 => ?_)
  · try simp only [decide_eq_true_eq, decide_eq_false_iff_not, Bool.and_eq_true, Bool.or_eq_true, Bool.and_eq_false_iff, Bool.or_eq_false_iff, Bool.not_eq_true', Bool.not_eq_false', beq_iff_eq, bne_iff_ne, ne_eq, beq_eq_false_iff_ne, bne_eq_false_iff_eq, gt_iff_lt, ge_iff_le, Int.not_lt, Int.not_le] at hc1
    refine wp_seq ?_
    refine r_start ?_
    refine l_v (v := .bool false) rfl rfl (by kernel_rfl) ?_
    refine l_nil ?_
    refine n_then ?_
    refine wp_ret ?_
    refine t_then ?_
    exact end_ret (v := .bool false) (res1 rfl rfl) ⟨_, rfl, ⟨false, rfl, ⟨fun h_ => (by cases h_), fun h_ => by rw [h_] at hc1; simp at hc1⟩, (Fr.refl [] w)⟩⟩
  · try simp only [decide_eq_true_eq, decide_eq_false_iff_not, Bool.and_eq_true, Bool.or_eq_true, Bool.and_eq_false_iff, Bool.or_eq_false_iff, Bool.not_eq_true', Bool.not_eq_false', beq_iff_eq, bne_iff_ne, ne_eq, beq_eq_false_iff_ne, bne_eq_false_iff_eq, gt_iff_lt, ge_iff_le, Int.not_lt, Int.not_le] at hc1
    have hlm : l.length = m.length := by omega
    refine wp_skip ?_
    refine n_then ?_
    refine wp_seq ?_
    refine wp_seq ?_
    refine r_start ?_
    refine l_v (v := .int .i64 0) rfl rfl (by kernel_rfl) ?_
    refine l_nil ?_
    refine n_then ?_
    refine wp_block ?_
    refine c_loop (fun m_ a_ w_ => ∃ u_ : Nat → Value, ∃ k : Nat, a_ = mk [] 83 u_ [(5, .int .i64 ((k : Nat) : Int)), (0, .slice A0 l.length c0), (1, .slice A1 m.length c1), (9, .slice A0 l.length c0), (10, .int .i64 ((l.length : Nat) : Int)), (11, .slice A1 m.length c1), (12, .int .i64 ((m.length : Nat) : Int)), (13, .bool ((((l.length : Nat) : Int) != ((m.length : Nat) : Int))))] ∧ m_ = l.length - k ∧ Fr [] w w_ ∧ (k ≤ l.length) ∧ (l.take k = m.take k)) (l.length - 0) ⟨_, 0, mk_eq (by kernel_rfl), rfl, (Fr.refl [] w), Nat.zero_le _, rfl⟩ ?_
    rintro m4 _ wr2 ⟨u_, k, rfl, hm5, hE6, hk, hq⟩ K_ hK3
    have hE6z := hE6.size
    refine wp_seq ?_
    refine wp_seq ?_
    refine r_start ?_
    refine l_v (v := .int .i64 ((k : Nat) : Int)) rfl rfl (by kernel_rfl) ?_
    refine l_v (v := .slice A0 l.length c0) rfl rfl (by kernel_rfl) ?_
    refine l_v (v := .int .i64 ((l.length : Nat) : Int)) rfl rfl (r_len rfl rfl Tryz.underlying42) ?_
    refine l_v (v := .bool (decide (((k : Nat) : Int) < ((l.length : Nat) : Int)))) rfl rfl (by kernel_rfl) ?_
    refine l_nil ?_
    refine n_then ?_
    refine c_cond (e := decide (((k : Nat) : Int) < ((l.length : Nat) : Int))) rfl (fun hc7 => ?_) (fun hc7 => ?_)
    · try simp only [decide_eq_true_eq, decide_eq_false_iff_not, Bool.and_eq_true, Bool.or_eq_true, Bool.and_eq_false_iff, Bool.or_eq_false_iff, Bool.not_eq_true', Bool.not_eq_false', beq_iff_eq, bne_iff_ne, ne_eq, beq_eq_false_iff_ne, bne_eq_false_iff_eq, gt_iff_lt, ge_iff_le, Int.not_lt, Int.not_le] at hc7
      refine wp_skip ?_
      refine n_then ?_
      refine wp_seq ?_
      refine wp_block ?_
      refine wp_seq ?_
      refine h_start' (fun w0_ w_ => Fr [] w0_ w_) hmix (fun _ _ _ _ _ h => h) (fun w8 f9 hQ11 => ?_)
      have f9z := f9.size
      refine h_take (i := 0) (v := .slice A0 l.length c0) rfl (by kernel_rfl) (by kernel_rfl) (by kernel_rfl) hQ11 rfl rfl (fun w_ hS_ => (by kernel_rfl)) (Fr.refl [] w8) ?_
      refine h_take (i := 1) (v := .int .i64 ((k : Nat) : Int)) rfl (by kernel_rfl) (by kernel_rfl) (by kernel_rfl) hQ11 rfl rfl (fun w_ hS_ => (by kernel_rfl)) (Fr.refl [] w8) ?_
      obtain ⟨x12, g13, off14, cs15, hx16, hA17, hg18, hl19, hK20, hr21⟩ := El.get hel (i := k) (by omega)
      obtain ⟨A22, c23, A24, c25, rfl, hc26, hel27, hc28, hel29, hf30⟩ := id hK20
      refine h_take (i := 2) (v := .pointer (some ⟨g13, off14 + k * 5, none⟩)) rfl (by kernel_rfl) (by kernel_rfl) (by kernel_rfl) hQ11 rfl rfl (fun w_ hS_ => (r_elemn rfl rfl rfl hA17 Tryz.underlying42 (by kernel_rfl) (by omega))) (Fr.refl [] w8) ?_
      have hr31 := (range_fr (range_fr hr21 hE6 (by simp)) f9 (by simp))
      refine h_take (i := 3) (v := .agg #[.int .i64 x12.kind, .int .i64 x12.conn, .int .i64 x12.n, .slice A22 x12.data.length c23, .slice A24 x12.picks.length c25]) rfl (by kernel_rfl) (by kernel_rfl) (by kernel_rfl) hQ11 rfl rfl (fun w_ hS_ => (r_loads (cs := [.int .i64 x12.kind, .int .i64 x12.conn, .int .i64 x12.n, .slice A22 x12.data.length c23, .slice A24 x12.picks.length c25]) rfl rfl Tryz.underlying73 rfl (by kernel_rfl) (range_fr hr31 hS_ (by simp)))) (Fr.refl [] w8) ?_
      refine h_take (i := 4) (v := .slice A1 m.length c1) rfl (by kernel_rfl) (by kernel_rfl) (by kernel_rfl) hQ11 rfl rfl (fun w_ hS_ => (by kernel_rfl)) (Fr.refl [] w8) ?_
      refine h_take (i := 5) (v := .int .i64 ((k : Nat) : Int)) rfl (by kernel_rfl) (by kernel_rfl) (by kernel_rfl) hQ11 rfl rfl (fun w_ hS_ => (by kernel_rfl)) (Fr.refl [] w8) ?_
      obtain ⟨x32, g33, off34, cs35, hx36, hA37, hg38, hl39, hK40, hr41⟩ := El.get hem (i := k) (by omega)
      obtain ⟨A42, c43, A44, c45, rfl, hc46, hel47, hc48, hel49, hf50⟩ := id hK40
      refine h_take (i := 6) (v := .pointer (some ⟨g33, off34 + k * 5, none⟩)) rfl (by kernel_rfl) (by kernel_rfl) (by kernel_rfl) hQ11 rfl rfl (fun w_ hS_ => (r_elemn rfl rfl rfl hA37 Tryz.underlying42 (by kernel_rfl) (by omega))) (Fr.refl [] w8) ?_
      have hr51 := (range_fr (range_fr hr41 hE6 (by simp)) f9 (by simp))
      refine h_take (i := 7) (v := .agg #[.int .i64 x32.kind, .int .i64 x32.conn, .int .i64 x32.n, .slice A42 x32.data.length c43, .slice A44 x32.picks.length c45]) rfl (by kernel_rfl) (by kernel_rfl) (by kernel_rfl) hQ11 rfl rfl (fun w_ hS_ => (r_loads (cs := [.int .i64 x32.kind, .int .i64 x32.conn, .int .i64 x32.n, .slice A42 x32.data.length c43, .slice A44 x32.picks.length c45]) rfl rfl Tryz.underlying73 rfl (by kernel_rfl) (range_fr hr51 hS_ (by simp)))) (Fr.refl [] w8) ?_
      refine h_two_new (i := 8) (j := 9) (fun k_ => .pointer (some ⟨k_, 0, none⟩)) (fun k_ => .pointer (some ⟨k_, 0, none⟩)) (by kernel_rfl) (by kernel_rfl) (by kernel_rfl) (by kernel_rfl) rfl rfl rfl rfl rfl rfl rfl (obi := .cells #[.int .i64 0, .int .i64 0, .int .i64 0, .slice none 0 0, .slice none 0 0] 73) (obj := .cells #[.int .i64 0, .int .i64 0, .int .i64 0, .slice none 0 0, .slice none 0 0] 73) (fun _ _ => by kernel_rfl) (fun _ _ => by kernel_rfl) (fun w_ hf_ => (Fr.refl [] w8).trans hf_.any) (fun k52 k53 w54 tw55 => ?_)
      have tw55a := tw55.ne; have tw55b := tw55.gi; have tw55c := tw55.gj; have tw55z := tw55.sz; have tw55d := tw55.li; have tw55e := tw55.lj
      refine h_store (i := 10) (by kernel_rfl) rfl rfl rfl rfl (g := k52) (off := 0) (v := .agg #[.int .i64 x12.kind, .int .i64 x12.conn, .int .i64 x12.n, .slice A22 x12.data.length c23, .slice A24 x12.picks.length c25]) (arr := #[.int .i64 x12.kind, .int .i64 x12.conn, .int .i64 x12.n, .slice A22 x12.data.length c23, .slice A24 x12.picks.length c25]) rfl rfl (by kernel_rfl) tw55.at_ rfl (by simp [Value.cells, Value.oneCell']) rfl (fun w56 p57 => ⟨Fr.stepM ((Fr.refl [] w8).trans tw55.fr.any) p57.fr (by intro k_ hk_; simp only [List.mem_singleton] at hk_; omega), ?_⟩)
      have p57z := p57.sz
      have hb58 := (p57.fr.at tw55.at2_ (by simp only [List.mem_singleton]; omega))
      refine h_store (i := 11) (by kernel_rfl) rfl rfl rfl rfl (g := k53) (off := 0) (v := .agg #[.int .i64 x32.kind, .int .i64 x32.conn, .int .i64 x32.n, .slice A42 x32.data.length c43, .slice A44 x32.picks.length c45]) (arr := #[.int .i64 x32.kind, .int .i64 x32.conn, .int .i64 x32.n, .slice A42 x32.data.length c43, .slice A44 x32.picks.length c45]) rfl rfl (by kernel_rfl) hb58 rfl (by simp [Value.cells, Value.oneCell']) rfl (fun w59 p60 => ⟨Fr.stepM (Fr.stepM ((Fr.refl [] w8).trans tw55.fr.any) p57.fr (by intro k_ hk_; simp only [List.mem_singleton] at hk_; omega)) p60.fr (by intro k_ hk_; simp only [List.mem_singleton] at hk_; omega), ?_⟩)
      have p60z := p60.sz
      refine wpAnyH_done (by kernel_rfl) ?_ _
      refine n_then ?_
      refine wp_seq ?_
      refine wp_seq ?_
      refine r_start ?_
      refine l_v (v := .pointer (some ⟨k52, 0, none⟩)) rfl rfl (r_field rfl rfl Tryz.underlying73 rfl (by kernel_rfl) rfl) ?_
      have hb61 := (p60.fr.at p57.at_ (by simp only [List.mem_singleton]; omega))
      refine l_v (v := .int .i64 x12.kind) rfl rfl (r_load rfl rfl Tryz.underlying3 rfl (cell_at hb61 rfl)) ?_
      refine l_v (v := .pointer (some ⟨k53, 0, none⟩)) rfl rfl (r_field rfl rfl Tryz.underlying73 rfl (by kernel_rfl) rfl) ?_
      refine l_v (v := .int .i64 x32.kind) rfl rfl (r_load rfl rfl Tryz.underlying3 rfl (cell_at p60.at_ rfl)) ?_
      refine l_v (v := .bool (x12.kind != x32.kind)) rfl rfl (by kernel_rfl) ?_
      refine l_v (v := .bool (x12.kind != x32.kind)) rfl rfl (by kernel_rfl) ?_
      refine l_g (v := .pointer (some ⟨k52, 1, none⟩)) (want_1 rfl rfl rfl rfl) rfl (fun hW_ => (r_field rfl rfl Tryz.underlying73 rfl (by kernel_rfl) rfl)) ?_
      refine l_g (v := .int .i64 x12.conn) (want_1 rfl rfl rfl rfl) rfl (fun hW_ => (r_load rfl (gd_true hW_ _) Tryz.underlying3 rfl (cell_at hb61 rfl))) ?_
      refine l_g (v := .pointer (some ⟨k53, 1, none⟩)) (want_1 rfl rfl rfl rfl) rfl (fun hW_ => (r_field rfl rfl Tryz.underlying73 rfl (by kernel_rfl) rfl)) ?_
      refine l_g (v := .int .i64 x32.conn) (want_1 rfl rfl rfl rfl) rfl (fun hW_ => (r_load rfl (gd_true hW_ _) Tryz.underlying3 rfl (cell_at p60.at_ rfl))) ?_
      refine l_g (v := .bool (x12.conn != x32.conn)) (want_1 rfl rfl rfl rfl) rfl (fun hW_ => (r_cmp rfl (gd_true hW_ _) (gd_true hW_ _) rfl)) ?_
      refine l_v (v := .bool ((x12.kind != x32.kind) || (x12.conn != x32.conn))) rfl rfl (r_pick rfl rfl (pick_or _ _)) ?_
      refine l_v (v := .bool ((x12.kind != x32.kind) || (x12.conn != x32.conn))) rfl rfl (by kernel_rfl) ?_
      refine l_g (v := .pointer (some ⟨k52, 2, none⟩)) (want_1 rfl rfl rfl rfl) rfl (fun hW_ => (r_field rfl rfl Tryz.underlying73 rfl (by kernel_rfl) rfl)) ?_
      refine l_g (v := .int .i64 x12.n) (want_1 rfl rfl rfl rfl) rfl (fun hW_ => (r_load rfl (gd_true hW_ _) Tryz.underlying3 rfl (cell_at hb61 rfl))) ?_
      refine l_g (v := .pointer (some ⟨k53, 2, none⟩)) (want_1 rfl rfl rfl rfl) rfl (fun hW_ => (r_field rfl rfl Tryz.underlying73 rfl (by kernel_rfl) rfl)) ?_
      refine l_g (v := .int .i64 x32.n) (want_1 rfl rfl rfl rfl) rfl (fun hW_ => (r_load rfl (gd_true hW_ _) Tryz.underlying3 rfl (cell_at p60.at_ rfl))) ?_
      refine l_g (v := .bool (x12.n != x32.n)) (want_1 rfl rfl rfl rfl) rfl (fun hW_ => (r_cmp rfl (gd_true hW_ _) (gd_true hW_ _) rfl)) ?_
      refine l_v (v := .bool ((((x12.kind != x32.kind) || (x12.conn != x32.conn)) || (x12.n != x32.n)))) rfl rfl (r_pick rfl rfl (pick_or _ _)) ?_
      refine l_v (v := .bool ((((x12.kind != x32.kind) || (x12.conn != x32.conn)) || (x12.n != x32.n)))) rfl rfl (by kernel_rfl) ?_
      refine l_g (v := .pointer (some ⟨k52, 3, none⟩)) (want_1 rfl rfl rfl rfl) rfl (fun hW_ => (r_field rfl rfl Tryz.underlying73 rfl (by kernel_rfl) rfl)) ?_
      refine l_g (v := .slice A22 x12.data.length c23) (want_1 rfl rfl rfl rfl) rfl (fun hW_ => (r_load rfl (gd_true hW_ _) Tryz.underlying47 rfl (cell_at hb61 rfl))) ?_
      have hE62 : Fr [] w w59 := (Fr.step (Fr.step ((hE6.trans f9).trans tw55.fr) p57.fr (by intro k_ hk_; simp only [List.mem_singleton] at hk_; omega)) p60.fr (by intro k_ hk_; simp only [List.mem_singleton] at hk_; omega))
      have hE62z := hE62.size
      have hd63 := hel27.fr0 hE62
      refine l_g (v := .string ⟨(x12.data).toArray⟩) (want_1 rfl rfl rfl rfl) rfl (fun hW_ => (r_conv_str rfl (gd_true hW_ _) (conv_bytes hd63 Tryz.underlying47 Tryz.underlying5 Tryz.underlying9))) ?_
      refine l_g (v := .pointer (some ⟨k53, 3, none⟩)) (want_1 rfl rfl rfl rfl) rfl (fun hW_ => (r_field rfl rfl Tryz.underlying73 rfl (by kernel_rfl) rfl)) ?_
      refine l_g (v := .slice A42 x32.data.length c43) (want_1 rfl rfl rfl rfl) rfl (fun hW_ => (r_load rfl (gd_true hW_ _) Tryz.underlying47 rfl (cell_at p60.at_ rfl))) ?_
      have hd64 := hel47.fr0 hE62
      refine l_g (v := .string ⟨(x32.data).toArray⟩) (want_1 rfl rfl rfl rfl) rfl (fun hW_ => (r_conv_str rfl (gd_true hW_ _) (conv_bytes hd64 Tryz.underlying47 Tryz.underlying5 Tryz.underlying9))) ?_
      refine l_g (v := .bool (!decide (x12.data = x32.data))) (want_1 rfl rfl rfl rfl) rfl (fun hW_ => (r_str_neq rfl (gd_true hW_ _) (gd_true hW_ _))) ?_
      refine l_v (v := .bool ((((((x12.kind != x32.kind) || (x12.conn != x32.conn)) || (x12.n != x32.n))) || (!decide (x12.data = x32.data))))) rfl rfl (r_pick rfl rfl (pick_or _ _)) ?_
      refine l_v (v := .bool ((((((x12.kind != x32.kind) || (x12.conn != x32.conn)) || (x12.n != x32.n))) || (!decide (x12.data = x32.data))))) rfl rfl (by kernel_rfl) ?_
      refine l_g (v := .pointer (some ⟨k52, 4, none⟩)) (want_1 rfl rfl rfl rfl) rfl (fun hW_ => (r_field rfl rfl Tryz.underlying73 rfl (by kernel_rfl) rfl)) ?_
      refine l_g (v := .slice A24 x12.picks.length c25) (want_1 rfl rfl rfl rfl) rfl (fun hW_ => (r_load rfl (gd_true hW_ _) Tryz.underlying64 rfl (cell_at hb61 rfl))) ?_
      refine l_g (v := .int .i64 ((x12.picks.length : Nat) : Int)) (want_1 rfl rfl rfl rfl) rfl (fun hW_ => (r_len rfl (gd_true hW_ _) Tryz.underlying64)) ?_
      refine l_g (v := .pointer (some ⟨k53, 4, none⟩)) (want_1 rfl rfl rfl rfl) rfl (fun hW_ => (r_field rfl rfl Tryz.underlying73 rfl (by kernel_rfl) rfl)) ?_
      refine l_g (v := .slice A44 x32.picks.length c45) (want_1 rfl rfl rfl rfl) rfl (fun hW_ => (r_load rfl (gd_true hW_ _) Tryz.underlying64 rfl (cell_at p60.at_ rfl))) ?_
      refine l_g (v := .int .i64 ((x32.picks.length : Nat) : Int)) (want_1 rfl rfl rfl rfl) rfl (fun hW_ => (r_len rfl (gd_true hW_ _) Tryz.underlying64)) ?_
      refine l_g (v := .bool ((((x12.picks.length : Nat) : Int) != ((x32.picks.length : Nat) : Int)))) (want_1 rfl rfl rfl rfl) rfl (fun hW_ => (r_cmp rfl (gd_true hW_ _) (gd_true hW_ _) rfl)) ?_
      refine l_v (v := .bool ((((((((x12.kind != x32.kind) || (x12.conn != x32.conn)) || (x12.n != x32.n))) || (!decide (x12.data = x32.data)))) || ((((x12.picks.length : Nat) : Int) != ((x32.picks.length : Nat) : Int)))))) rfl rfl (r_pick rfl rfl (pick_or _ _)) ?_
      refine l_nil ?_
      refine n_then ?_
      refine c_cond (e := (((((((x12.kind != x32.kind) || (x12.conn != x32.conn)) || (x12.n != x32.n))) || (!decide (x12.data = x32.data)))) || ((((x12.picks.length : Nat) : Int) != ((x32.picks.length : Nat) : Int))))) rfl (fun hc65 => ?_) (fun hc65 => ?_)
      · refine wp_seq ?_
        refine r_start ?_
        refine l_v (v := .bool false) rfl rfl (by kernel_rfl) ?_
        refine l_nil ?_
        refine n_then ?_
        refine wp_ret ?_
        refine t_then ?_
        refine t_block ?_
        refine t_then ?_
        refine t_then ?_
        refine t_block ?_
        refine t_then ?_
        exact end_ret (v := .bool false) (res1 rfl rfl) ⟨_, rfl, ⟨false, rfl, ⟨fun h_ => (by cases h_), fun h_ => (by (rw [h_, hx36] at hx16; cases hx16; simp at hc65))⟩, hE62⟩⟩
      · refine wp_skip ?_
        refine n_then ?_
        refine wp_seq ?_
        refine r_start ?_
        refine l_v (v := .int .i64 0) rfl rfl (by kernel_rfl) ?_
        refine l_nil ?_
        refine n_then ?_
        refine wp_block ?_
        simp only [Bool.or_eq_false_iff, bne_eq_false_iff_eq, Bool.not_eq_false', decide_eq_true_eq] at hc65
        obtain ⟨⟨⟨⟨hq1, hq2⟩, hq3⟩, hq4⟩, hq5⟩ := hc65
        have hpl : x12.picks.length = x32.picks.length := by omega
        have hpb := (EvK.fits hK20).2.2.2.2.1
        refine c_loop (fun m_ a_ w_ => ∃ u_ : Nat → Value, ∃ j : Nat, a_ = mk [] 83 u_ [(8, .int .i64 ((j : Nat) : Int)), (0, .slice A0 l.length c0), (1, .slice A1 m.length c1), (5, .int .i64 ((k : Nat) : Int)), (6, .pointer (some ⟨k52, 0, none⟩)), (7, .pointer (some ⟨k53, 0, none⟩)), (9, .slice A0 l.length c0), (10, .int .i64 ((l.length : Nat) : Int)), (11, .slice A1 m.length c1), (12, .int .i64 ((m.length : Nat) : Int)), (13, .bool ((((l.length : Nat) : Int) != ((m.length : Nat) : Int)))), (14, .int .i64 ((k : Nat) : Int)), (15, .slice A0 l.length c0), (16, .int .i64 ((l.length : Nat) : Int)), (17, .bool (decide (((k : Nat) : Int) < ((l.length : Nat) : Int)))), (20, .slice A0 l.length c0), (21, .int .i64 ((k : Nat) : Int)), (22, .pointer (some ⟨g13, off14 + k * 5, none⟩)), (23, .agg #[.int .i64 x12.kind, .int .i64 x12.conn, .int .i64 x12.n, .slice A22 x12.data.length c23, .slice A24 x12.picks.length c25]), (24, .slice A1 m.length c1), (25, .int .i64 ((k : Nat) : Int)), (26, .pointer (some ⟨g33, off34 + k * 5, none⟩)), (27, .agg #[.int .i64 x32.kind, .int .i64 x32.conn, .int .i64 x32.n, .slice A42 x32.data.length c43, .slice A44 x32.picks.length c45]), (28, .pointer (some ⟨k52, 0, none⟩)), (29, .int .i64 x12.kind), (30, .pointer (some ⟨k53, 0, none⟩)), (31, .int .i64 x32.kind), (32, .bool (x12.kind != x32.kind)), (33, .bool (x12.kind != x32.kind)), (39, .bool ((x12.kind != x32.kind) || (x12.conn != x32.conn))), (40, .bool ((x12.kind != x32.kind) || (x12.conn != x32.conn))), (46, .bool ((((x12.kind != x32.kind) || (x12.conn != x32.conn)) || (x12.n != x32.n)))), (47, .bool ((((x12.kind != x32.kind) || (x12.conn != x32.conn)) || (x12.n != x32.n)))), (55, .bool ((((((x12.kind != x32.kind) || (x12.conn != x32.conn)) || (x12.n != x32.n))) || (!decide (x12.data = x32.data))))), (56, .bool ((((((x12.kind != x32.kind) || (x12.conn != x32.conn)) || (x12.n != x32.n))) || (!decide (x12.data = x32.data))))), (64, .bool ((((((((x12.kind != x32.kind) || (x12.conn != x32.conn)) || (x12.n != x32.n))) || (!decide (x12.data = x32.data)))) || ((((x12.picks.length : Nat) : Int) != ((x32.picks.length : Nat) : Int))))))] ∧ m_ = x12.picks.length - j ∧ Fr [] w w_ ∧ (j ≤ x12.picks.length) ∧ (x12.picks.take j = x32.picks.take j) ∧ (w_.heap[k52]? = some (.cells #[.int .i64 x12.kind, .int .i64 x12.conn, .int .i64 x12.n, .slice A22 x12.data.length c23, .slice A24 x12.picks.length c25] 73 (0, 0))) ∧ (w_.heap[k53]? = some (.cells #[.int .i64 x32.kind, .int .i64 x32.conn, .int .i64 x32.n, .slice A42 x32.data.length c43, .slice A44 x32.picks.length c45] 73 (0, 0)))) (x12.picks.length - 0) ⟨_, 0, mk_eq (by kernel_rfl), rfl, hE62, Nat.zero_le _, rfl, hb61, p60.at_⟩ ?_
        rintro m68 _ wr66 ⟨u_, j, rfl, hm69, hE70, hj, hpq, hkb_k52, hkb_k53⟩ K_ hK67
        have hE70z := hE70.size
        refine wp_seq ?_
        refine wp_seq ?_
        refine r_start ?_
        refine l_v (v := .int .i64 ((j : Nat) : Int)) rfl rfl (by kernel_rfl) ?_
        refine l_v (v := .pointer (some ⟨k52, 4, none⟩)) rfl rfl (r_field rfl rfl Tryz.underlying73 rfl (by kernel_rfl) rfl) ?_
        refine l_v (v := .slice A24 x12.picks.length c25) rfl rfl (r_load rfl rfl Tryz.underlying64 rfl (cell_at hkb_k52 rfl)) ?_
        refine l_v (v := .int .i64 ((x12.picks.length : Nat) : Int)) rfl rfl (r_len rfl rfl Tryz.underlying64) ?_
        refine l_v (v := .bool (decide (((j : Nat) : Int) < ((x12.picks.length : Nat) : Int)))) rfl rfl (by kernel_rfl) ?_
        refine l_nil ?_
        refine n_then ?_
        refine c_cond (e := decide (((j : Nat) : Int) < ((x12.picks.length : Nat) : Int))) rfl (fun hc71 => ?_) (fun hc71 => ?_)
        · try simp only [decide_eq_true_eq, decide_eq_false_iff_not, Bool.and_eq_true, Bool.or_eq_true, Bool.and_eq_false_iff, Bool.or_eq_false_iff, Bool.not_eq_true', Bool.not_eq_false', beq_iff_eq, bne_iff_ne, ne_eq, beq_eq_false_iff_ne, bne_eq_false_iff_eq, gt_iff_lt, ge_iff_le, Int.not_lt, Int.not_le] at hc71
          refine wp_skip ?_
          refine n_then ?_
          refine wp_seq ?_
          refine wp_block ?_
          refine wp_seq ?_
          refine h_start' (fun w0_ w_ => Fr [] w0_ w_) hmix (fun _ _ _ _ _ h => h) (fun w72 f73 hQ75 => ?_)
          have f73z := f73.size
          refine h_take (i := 0) (v := .pointer (some ⟨k52, 4, none⟩)) rfl (by kernel_rfl) (by kernel_rfl) (by kernel_rfl) hQ75 rfl rfl (fun w_ hS_ => (r_field rfl rfl Tryz.underlying73 rfl (by kernel_rfl) rfl)) (Fr.refl [] w72) ?_
          have hb76 := (f73.at0 hkb_k52)
          refine h_take (i := 1) (v := .slice A24 x12.picks.length c25) rfl (by kernel_rfl) (by kernel_rfl) (by kernel_rfl) hQ75 rfl rfl (fun w_ hS_ => (r_load rfl rfl Tryz.underlying64 rfl (cell_at (hS_.at hb76 (by simp)) rfl))) (Fr.refl [] w72) ?_
          refine h_take (i := 2) (v := .int .i64 ((j : Nat) : Int)) rfl (by kernel_rfl) (by kernel_rfl) (by kernel_rfl) hQ75 rfl rfl (fun w_ hS_ => (by kernel_rfl)) (Fr.refl [] w72) ?_
          obtain ⟨x77, g78, off79, cs80, hx81, hA82, hg83, hl84, hK85, hr86⟩ := El.get hel29 (i := j) (by omega)
          obtain ⟨rfl, x77a, x77b⟩ := hK85
          have x77a : 0 ≤ x77 := x77a
          have x77b : x77 ≤ 65535 := x77b
          refine h_take (i := 3) (v := .pointer (some ⟨g78, off79 + j * 1, none⟩)) rfl (by kernel_rfl) (by kernel_rfl) (by kernel_rfl) hQ75 rfl rfl (fun w_ hS_ => (r_elemn rfl rfl rfl hA82 Tryz.underlying64 (by kernel_rfl) (by omega))) (Fr.refl [] w72) ?_
          have hr87 := (range_fr (range_fr hr86 hE70 (by simp)) f73 (by simp))
          refine h_take (i := 4) (v := .int .u16 x77) rfl (by kernel_rfl) (by kernel_rfl) (by kernel_rfl) hQ75 rfl rfl (fun w_ hS_ => (r_load rfl rfl Tryz.underlying67 rfl (range_get (j := 0) (range_fr hr87 hS_ (by simp)) rfl))) (Fr.refl [] w72) ?_
          refine h_take (i := 5) (v := .pointer (some ⟨k53, 4, none⟩)) rfl (by kernel_rfl) (by kernel_rfl) (by kernel_rfl) hQ75 rfl rfl (fun w_ hS_ => (r_field rfl rfl Tryz.underlying73 rfl (by kernel_rfl) rfl)) (Fr.refl [] w72) ?_
          have hb88 := (f73.at0 hkb_k53)
          refine h_take (i := 6) (v := .slice A44 x32.picks.length c45) rfl (by kernel_rfl) (by kernel_rfl) (by kernel_rfl) hQ75 rfl rfl (fun w_ hS_ => (r_load rfl rfl Tryz.underlying64 rfl (cell_at (hS_.at hb88 (by simp)) rfl))) (Fr.refl [] w72) ?_
          refine h_take (i := 7) (v := .int .i64 ((j : Nat) : Int)) rfl (by kernel_rfl) (by kernel_rfl) (by kernel_rfl) hQ75 rfl rfl (fun w_ hS_ => (by kernel_rfl)) (Fr.refl [] w72) ?_
          obtain ⟨x89, g90, off91, cs92, hx93, hA94, hg95, hl96, hK97, hr98⟩ := El.get hel49 (i := j) (by omega)
          obtain ⟨rfl, x89a, x89b⟩ := hK97
          have x89a : 0 ≤ x89 := x89a
          have x89b : x89 ≤ 65535 := x89b
          refine h_take (i := 8) (v := .pointer (some ⟨g90, off91 + j * 1, none⟩)) rfl (by kernel_rfl) (by kernel_rfl) (by kernel_rfl) hQ75 rfl rfl (fun w_ hS_ => (r_elemn rfl rfl rfl hA94 Tryz.underlying64 (by kernel_rfl) (by omega))) (Fr.refl [] w72) ?_
          have hr99 := (range_fr (range_fr hr98 hE70 (by simp)) f73 (by simp))
          refine h_take (i := 9) (v := .int .u16 x89) rfl (by kernel_rfl) (by kernel_rfl) (by kernel_rfl) hQ75 rfl rfl (fun w_ hS_ => (r_load rfl rfl Tryz.underlying67 rfl (range_get (j := 0) (range_fr hr99 hS_ (by simp)) rfl))) (Fr.refl [] w72) ?_
          refine h_take (i := 10) (v := .bool (x77 != x89)) rfl (by kernel_rfl) (by kernel_rfl) (by kernel_rfl) hQ75 rfl rfl (fun w_ hS_ => (by kernel_rfl)) (Fr.refl [] w72) ?_
          refine wpAnyH_done (by kernel_rfl) ?_ _
          refine n_then ?_
          refine c_cond (e := (x77 != x89)) rfl (fun hc100 => ?_) (fun hc100 => ?_)
          · refine wp_seq ?_
            refine r_start ?_
            refine l_v (v := .bool false) rfl rfl (by kernel_rfl) ?_
            refine l_nil ?_
            refine n_then ?_
            refine wp_ret ?_
            refine t_block ?_
            refine t_then ?_
            refine t_then ?_
            refine t_block ?_
            refine t_block ?_
            refine t_then ?_
            refine t_then ?_
            refine t_block ?_
            refine t_then ?_
            have hE101 : Fr [] w w72 := (hE70.trans f73)
            have hE101z := hE101.size
            exact end_ret (v := .bool false) (res1 rfl rfl) ⟨_, rfl, ⟨false, rfl, ⟨fun h_ => (by cases h_), fun h_ => (by (rw [h_, hx36] at hx16; cases hx16; rw [hx93] at hx81; cases hx81; simp at hc100))⟩, hE101⟩⟩
          · have hac : x77 = x89 := by simpa using hc100
            refine wp_skip ?_
            refine n_block ?_
            refine n_then ?_
            refine r_start ?_
            refine l_v (v := .int .i64 ((j : Nat) : Int)) rfl rfl (by kernel_rfl) ?_
            refine l_v (v := .int .i64 (((j : Nat) : Int) + 1)) rfl rfl (r_add (r := ((j : Nat) : Int) + 1) rfl rfl rfl (by omega) (by simp only [min_i64]; omega) (by simp only [max_i64]; omega)) ?_
            refine l_v (v := .int .i64 (((j : Nat) : Int) + 1)) rfl rfl (by kernel_rfl) ?_
            refine l_nil ?_
            refine n_then ?_
            have hE102 : Fr [] w w72 := (hE70.trans f73)
            have hE102z := hE102.size
            exact hK67 _ _ _ (by omega) ⟨_, (j + 1), mk_eq (by kernel_rfl), rfl, hE102, (by omega), (by rw [take_snoc hx81, take_snoc hx93, hpq, hac]), hb76, hb88⟩
        · try simp only [decide_eq_true_eq, decide_eq_false_iff_not, Bool.and_eq_true, Bool.or_eq_true, Bool.and_eq_false_iff, Bool.or_eq_false_iff, Bool.not_eq_true', Bool.not_eq_false', beq_iff_eq, bne_iff_ne, ne_eq, beq_eq_false_iff_ne, bne_eq_false_iff_eq, gt_iff_lt, ge_iff_le, Int.not_lt, Int.not_le] at hc71
          obtain rfl : j = x12.picks.length := by omega
          rw [List.take_length, hpl, List.take_length] at hpq
          have hxy : x12 = x32 := by
            obtain ⟨a1, a2, a3, a4, a5⟩ := x12
            obtain ⟨b1, b2, b3, b4, b5⟩ := x32
            simp only at hq1 hq2 hq3 hq4 hpq
            simp [hq1, hq2, hq3, hq4, hpq]
          refine wp_exit ?_
          refine e_then ?_
          refine e_then ?_
          refine e_hit ?_
          refine n_block ?_
          refine n_then ?_
          refine r_start ?_
          refine l_v (v := .int .i64 ((k : Nat) : Int)) rfl rfl (by kernel_rfl) ?_
          refine l_v (v := .int .i64 (((k : Nat) : Int) + 1)) rfl rfl (r_add (r := ((k : Nat) : Int) + 1) rfl rfl rfl (by omega) (by simp only [min_i64]; omega) (by simp only [max_i64]; omega)) ?_
          refine l_v (v := .int .i64 (((k : Nat) : Int) + 1)) rfl rfl (by kernel_rfl) ?_
          refine l_nil ?_
          refine n_then ?_
          exact hK3 _ _ _ (by omega) ⟨_, (k + 1), mk_eq (by kernel_rfl), rfl, hE70, (by omega), (by rw [take_snoc hx16, take_snoc hx36, hq, hxy])⟩
    · try simp only [decide_eq_true_eq, decide_eq_false_iff_not, Bool.and_eq_true, Bool.or_eq_true, Bool.and_eq_false_iff, Bool.or_eq_false_iff, Bool.not_eq_true', Bool.not_eq_false', beq_iff_eq, bne_iff_ne, ne_eq, beq_eq_false_iff_ne, bne_eq_false_iff_eq, gt_iff_lt, ge_iff_le, Int.not_lt, Int.not_le] at hc7
      obtain rfl : k = l.length := by omega
      rw [List.take_length, hlm, List.take_length] at hq
      refine wp_exit ?_
      refine e_then ?_
      refine e_then ?_
      refine e_hit ?_
      refine n_then ?_
      refine wp_seq ?_
      refine r_start ?_
      refine l_v (v := .bool true) rfl rfl (by kernel_rfl) ?_
      refine l_nil ?_
      refine n_then ?_
      refine wp_ret ?_
      exact end_ret (v := .bool true) (res1 rfl rfl) ⟨_, rfl, ⟨true, rfl, ⟨fun _ => hq, fun _ => rfl⟩, hE6⟩⟩

end Go.Proofs.YtmhljojgdfmjaaaGreatDoor
