/- walks -/
import Derived.Test.YtmhljojgdfmjaaaGreatDoorSh3
import Derived.Test.YtmhljojgdfmjaaaGreatDoorSh4
import Derived.Test.YtmhljojgdfmjaaaGreatDoorBld
namespace Go.Proofs.YtmhljojgdfmjaaaGreatDoor
open Go.E
set_option linter.unusedVariables false
set_option linter.unusedSimpArgs false
set_option maxRecDepth 100000
set_option maxHeartbeats 1000000
open Go.Sh
/-- shell.written -/
theorem writtenRow_calls (w : World) (hg : Glob w) (ok : Nat → Prop) (v0 : Value) (l : List Rw) (hv : Sl Rp.rw ok w v0 l) (hl : l.length ≤ 1048576) (ht : total rwWt l ≤ 1048576) :
    Does Tryz.prog 17 #[v0, .func (.func 18) #[] #[]] w fun r w' => r = .tuple #[.string ⟨(wr rwLine l).1.toArray⟩, .int .i64 (wr rwLine l).2] ∧ Fr [] w w' := by
  obtain ⟨A0, c0, rfl, helc, hel⟩ := hv
  have hgz := hg.sz
  refine Does.of (fn_in (l := [.slice A0 l.length c0, .func (.func 18) #[] #[]]) Tryz.func17 rfl Tryz.ntmps17 rfl ?_)
  refine wp_seq ?_
  refine r_start ?_
  refine l_v (v := .string ⟨([] : List UInt8).toArray⟩) rfl rfl (by kernel_rfl) ?_
  refine l_v (v := .int .i64 0) rfl rfl (by kernel_rfl) ?_
  refine l_nil ?_
  refine n_then ?_
  refine wp_seq ?_
  refine r_start ?_
  refine l_new (fun k_ => .pointer (some ⟨k_, 0, none⟩)) rfl rfl (by kernel_rfl) (ob := .cells #[.pointer none, .slice none 0 0] 76) (fun k1 w2 n3 => ?_)
  have n3k := n3.hk; have n3z := n3.sz
  refine l_nil ?_
  refine n_then ?_
  refine wp_seq ?_
  refine wp_seq ?_
  refine r_start ?_
  refine l_v (v := .slice A0 l.length c0) rfl rfl (by kernel_rfl) ?_
  refine l_v (v := .int .i64 ((l.length : Nat) : Int)) rfl rfl (r_len rfl rfl Tryz.underlying22) ?_
  refine l_v (v := .int .i64 0) rfl rfl (by kernel_rfl) ?_
  refine l_nil ?_
  refine n_then ?_
  refine wp_block ?_
  have hB0 : Bld 76 5 w.heap.size k1 w2 [] := Bld.fresh n3.at_ (by omega)
  have hE8 : Fr [] w w2 := ((Fr.refl [] w).trans n3.fr)
  have hE8z := hE8.size
  refine c_loop (fun m_ a_ w_ => ∃ u_ : Nat → Value, ∃ k : Nat, a_ = mk [] 32 u_ [(13, .int .i64 ((k : Nat) : Int)), (0, .slice A0 l.length c0), (1, .func (.func 18) #[] #[]), (6, .pointer (some ⟨k1, 0, none⟩)), (11, .slice A0 l.length c0), (12, .int .i64 ((l.length : Nat) : Int))] ∧ m_ = l.length - k ∧ Fr [] w w_ ∧ (k ≤ l.length) ∧ ((l.take k).all (fun x => (rwLine x).2) = true) ∧ (Bld 76 5 w.heap.size k1 w_ (joinW rwLine (l.take k)))) (l.length - 0) ⟨_, 0, mk_eq (by kernel_rfl), rfl, hE8, Nat.zero_le _, rfl, hB0⟩ ?_
  rintro m6 _ wr4 ⟨u_, k, rfl, hm7, hE9, hk, hall, hB⟩ K_ hK5
  have hE9z := hE9.size
  refine wp_seq ?_
  refine r_start ?_
  refine l_v (v := .bool (decide (((k : Nat) : Int) < ((l.length : Nat) : Int)))) rfl rfl (by kernel_rfl) ?_
  refine l_nil ?_
  refine n_then ?_
  refine wp_seq ?_
  refine c_cond (e := decide (((k : Nat) : Int) < ((l.length : Nat) : Int))) rfl (fun hc10 => ?_) (fun hc10 => ?_)
  · try simp only [decide_eq_true_eq, decide_eq_false_iff_not, Bool.and_eq_true, Bool.or_eq_true, Bool.and_eq_false_iff, Bool.or_eq_false_iff, Bool.not_eq_true', Bool.not_eq_false', beq_iff_eq, bne_iff_ne, ne_eq, beq_eq_false_iff_ne, bne_eq_false_iff_eq, gt_iff_lt, ge_iff_le, Int.not_lt, Int.not_le] at hc10
    have hjl : (joinW rwLine (l.take k)).length ≤ 87031808 := by
      have h1 := total_take rwWt l k
      have h2 := joinW_len (wt := rwWt) (f := rwLine) (l.take k) (fun x hx => by
        obtain ⟨i, hi⟩ := List.getElem?_of_mem (List.mem_of_mem_take hx)
        obtain ⟨_, _, cs_, _, _, _, hK_, _⟩ := hel i x hi
        exact rwLine_len hK_.fits)
      have h3 : (l.take k).length ≤ l.length := by rw [List.length_take]; omega
      omega
    refine wp_skip ?_
    refine n_then ?_
    refine wp_seq ?_
    refine wp_block ?_
    refine wp_seq ?_
    refine r_start ?_
    have hd11 := hel.fr0 hE9
    obtain ⟨x12, g13, off14, cs15, hx16, hA17, hg18, hl19, hK20, hr21⟩ := El.get hd11 (i := k) (by omega)
    obtain ⟨A22, c23, rfl, _⟩ := id hK20
    refine l_v (v := .pointer (some ⟨g13, off14 + k * 6, none⟩)) rfl rfl (r_elemn rfl rfl rfl hA17 Tryz.underlying22 (by kernel_rfl) (by omega)) ?_
    refine l_v (v := .agg #[.int .i64 x12.kind, .int .i64 x12.err, .int .i64 x12.conn, .int .i64 x12.n, .slice A22 x12.data.length c23, .bool x12.ended]) rfl rfl (r_loads (cs := [.int .i64 x12.kind, .int .i64 x12.err, .int .i64 x12.conn, .int .i64 x12.n, .slice A22 x12.data.length c23, .bool x12.ended]) rfl rfl Tryz.underlying49 rfl (by kernel_rfl) hr21) ?_
    refine l_new (fun k_ => .pointer (some ⟨k_, 0, none⟩)) rfl rfl (by kernel_rfl) (ob := .cells #[.int .i64 0, .int .i64 0, .int .i64 0, .int .i64 0, .slice none 0 0, .bool false] 49) (fun k24 w25 n26 => ?_)
    have n26k := n26.hk; have n26z := n26.sz
    refine l_store rfl rfl rfl (g := k24) (off := 0) (v := .agg #[.int .i64 x12.kind, .int .i64 x12.err, .int .i64 x12.conn, .int .i64 x12.n, .slice A22 x12.data.length c23, .bool x12.ended]) (arr := #[.int .i64 x12.kind, .int .i64 x12.err, .int .i64 x12.conn, .int .i64 x12.n, .slice A22 x12.data.length c23, .bool x12.ended]) rfl rfl (by kernel_rfl) n26.at_ rfl (by simp [Value.cells, Value.oneCell']) rfl (fun w27 p28 => ?_)
    have p28z := p28.sz
    refine l_nil ?_
    refine n_then ?_
    refine wp_seq ?_
    refine r_start ?_
    refine l_v (v := .func (.func 18) #[] #[]) rfl rfl (by kernel_rfl) ?_
    refine l_v (v := .agg #[.int .i64 x12.kind, .int .i64 x12.err, .int .i64 x12.conn, .int .i64 x12.n, .slice A22 x12.data.length c23, .bool x12.ended]) rfl rfl (r_loads (cs := [.int .i64 x12.kind, .int .i64 x12.err, .int .i64 x12.conn, .int .i64 x12.n, .slice A22 x12.data.length c23, .bool x12.ended]) rfl rfl Tryz.underlying49 rfl (by kernel_rfl) (range_at p28.at_ rfl)) ?_
    have hll := rwLine_len hK20.fits
    have hE29 : Fr [] w w27 := (Fr.step (hE9.trans n26.fr) p28.fr (by intro k_ hk_; simp only [List.mem_singleton] at hk_; omega))
    have hE29z := hE29.size
    have hd30 := hg.fr0 hE29
    have hd31 := hK20.fr0 (Fr.step ((Fr.refl [] wr4).trans n26.fr) p28.fr (by intro k_ hk_; simp only [List.mem_singleton] at hk_; omega))
    refine l_call rfl rfl (r_callv (args' := #[.agg #[.int .i64 x12.kind, .int .i64 x12.err, .int .i64 x12.conn, .int .i64 x12.n, .slice A22 x12.data.length c23, .bool x12.ended]]) rfl rfl e18 (am rfl) rfl) (rowLine_calls w27 hd30 _ _ _ hd31) (fun v33 w34 h32 => ?_)
    obtain ⟨rfl, h32f⟩ := h32
    have h32z := h32f.size
    refine l_v (v := .tuple #[.string ⟨((rwLine x12).1).toArray⟩, .bool ((rwLine x12).2)]) rfl rfl (by kernel_rfl) ?_
    refine l_v (v := .string ⟨((rwLine x12).1).toArray⟩) rfl rfl (by kernel_rfl) ?_
    refine l_v (v := .bool ((rwLine x12).2)) rfl rfl (by kernel_rfl) ?_
    refine l_v (v := .string ⟨((rwLine x12).1).toArray⟩) rfl rfl (by kernel_rfl) ?_
    refine l_v (v := .bool ((rwLine x12).2)) rfl rfl (by kernel_rfl) ?_
    refine l_nil ?_
    refine n_then ?_
    refine wp_seq ?_
    refine wp_seq ?_
    refine r_start ?_
    refine l_v (v := .bool ((rwLine x12).2)) rfl rfl (by kernel_rfl) ?_
    refine l_v (v := .bool ((!((rwLine x12).2)))) rfl rfl (by kernel_rfl) ?_
    refine l_nil ?_
    refine n_then ?_
    have hwl : rwWt x12 ≤ 1048576 := by
      have h1 := total_take rwWt l (k + 1)
      have h2 := total_snoc (wt := rwWt) hx16
      omega
    refine c_cond (e := (!((rwLine x12).2))) rfl (fun hc35 => ?_) (fun hc35 => ?_)
    · refine wp_seq ?_
      refine r_start ?_
      refine l_v (v := .string ⟨([] : List UInt8).toArray⟩) rfl rfl (by kernel_rfl) ?_
      refine l_v (v := .int .i64 1) rfl rfl (by kernel_rfl) ?_
      refine l_nil ?_
      refine n_then ?_
      refine wp_ret ?_
      refine t_then ?_
      refine t_block ?_
      refine t_then ?_
      refine t_then ?_
      refine t_block ?_
      refine t_then ?_
      have hE36 : Fr [] w w34 := (hE29.trans h32f)
      have hE36z := hE36.size
      exact end_ret (v := .tuple #[.string ⟨([] : List UInt8).toArray⟩, .int .i64 1]) (res2 rfl rfl rfl) ⟨_, rfl, ⟨by rw [wr_no hx16 (by simpa using hc35)], hE36⟩⟩
    · refine wp_skip ?_
      refine n_then ?_
      refine r_start ?_
      refine l_v (v := .string ⟨((rwLine x12).1).toArray⟩) rfl rfl (by kernel_rfl) ?_
      refine l_v (v := .string ⟨(((rwLine x12).1) ++ ([10] : List UInt8)).toArray⟩) rfl rfl (r_str_add rfl rfl rfl (by (try simp only [List.length_append, List.length_cons, List.length_nil]); omega)) ?_
      have hd37 := hB.fr0 ((Fr.step ((Fr.refl [] wr4).trans n26.fr) p28.fr (by intro k_ hk_; simp only [List.mem_singleton] at hk_; omega)).trans h32f)
      refine l_call rfl rfl (r_call (args := #[.pointer (some ⟨k1, 0, none⟩), .string ⟨(((rwLine x12).1) ++ ([10] : List UInt8)).toArray⟩]) rfl e30 (am rfl)) (WriteString_does w34 k1 w.heap.size (joinW rwLine (l.take k)) (((rwLine x12).1) ++ ([10] : List UInt8)) hd37 (by omega) (by (try simp only [List.length_append, List.length_cons, List.length_nil]); omega)) (fun v39 w40 h38 => ?_)
      obtain ⟨rfl, h38B, M41, h38M, h38f⟩ := h38
      have h38z := h38f.size
      refine l_nil ?_
      refine n_block ?_
      refine n_then ?_
      refine r_start ?_
      refine l_v (v := .int .i64 (((k : Nat) : Int) + 1)) rfl rfl (r_add (r := ((k : Nat) : Int) + 1) rfl rfl rfl (by omega) (by simp only [min_i64]; omega) (by simp only [max_i64]; omega)) ?_
      refine l_v (v := .int .i64 (((k : Nat) : Int) + 1)) rfl rfl (by kernel_rfl) ?_
      refine l_nil ?_
      refine n_then ?_
      have hE42 : Fr [] w w40 := (Fr.step (hE29.trans h32f) h38f h38M)
      have hE42z := hE42.size
      exact hK5 _ _ _ (by omega) ⟨_, (k + 1), mk_eq (by kernel_rfl), rfl, hE42, (by omega), (all_take hx16 hall (by simpa using hc35)), (by rw [joinW_take hx16]; exact h38B)⟩
  · try simp only [decide_eq_true_eq, decide_eq_false_iff_not, Bool.and_eq_true, Bool.or_eq_true, Bool.and_eq_false_iff, Bool.or_eq_false_iff, Bool.not_eq_true', Bool.not_eq_false', beq_iff_eq, bne_iff_ne, ne_eq, beq_eq_false_iff_ne, bne_eq_false_iff_eq, gt_iff_lt, ge_iff_le, Int.not_lt, Int.not_le] at hc10
    obtain rfl : k = l.length := by omega
    rw [List.take_length] at hall hB
    refine wp_exit ?_
    refine e_then ?_
    refine e_then ?_
    refine e_hit ?_
    refine n_then ?_
    refine wp_seq ?_
    refine wp_seq ?_
    refine r_start ?_
    refine l_call rfl rfl (r_call (args := #[.pointer (some ⟨k1, 0, none⟩)]) rfl e31 (am rfl)) (BLen_does wr4 _ _ _ hB) (fun v44 w45 h43 => ?_)
    obtain ⟨rfl, h43f⟩ := h43
    have h43z := h43f.size
    refine l_v (v := .bool (decide (((joinW rwLine l).length : Int) > (65536 : Int)))) rfl rfl (by kernel_rfl) ?_
    refine l_nil ?_
    refine n_then ?_
    refine c_cond (e := decide (((joinW rwLine l).length : Int) > (65536 : Int))) rfl (fun hc46 => ?_) (fun hc46 => ?_)
    · refine wp_seq ?_
      refine r_start ?_
      refine l_v (v := .string ⟨([] : List UInt8).toArray⟩) rfl rfl (by kernel_rfl) ?_
      refine l_v (v := .int .i64 3) rfl rfl (by kernel_rfl) ?_
      refine l_nil ?_
      refine n_then ?_
      refine wp_ret ?_
      refine t_then ?_
      have hE47 : Fr [] w w45 := (hE9.trans h43f)
      have hE47z := hE47.size
      exact end_ret (v := .tuple #[.string ⟨([] : List UInt8).toArray⟩, .int .i64 3]) (res2 rfl rfl rfl) ⟨_, rfl, ⟨by rw [wr_long hall (by have hq_ := hc46; simp only [decide_eq_true_eq, decide_eq_false_iff_not] at hq_; omega)], hE47⟩⟩
    · refine wp_skip ?_
      refine n_then ?_
      refine wp_seq ?_
      refine r_start ?_
      have hd48 := hB.fr0 ((Fr.refl [] wr4).trans h43f)
      refine l_call rfl rfl (r_call (args := #[.pointer (some ⟨k1, 0, none⟩)]) rfl e32 (am rfl)) (BString_does w45 _ _ _ hd48 (by omega)) (fun v50 w51 h49 => ?_)
      obtain ⟨rfl, M52, h49M, h49f⟩ := h49
      have h49z := h49f.size
      refine l_v (v := .string ⟨(joinW rwLine l).toArray⟩) rfl rfl (by kernel_rfl) ?_
      refine l_v (v := .int .i64 0) rfl rfl (by kernel_rfl) ?_
      refine l_nil ?_
      refine n_then ?_
      refine wp_ret ?_
      have hE53 : Fr [] w w51 := (Fr.step (hE9.trans h43f) h49f h49M)
      have hE53z := hE53.size
      exact end_ret (v := .tuple #[.string ⟨(joinW rwLine l).toArray⟩, .int .i64 0]) (res2 rfl rfl rfl) ⟨_, rfl, ⟨by rw [wr_ok hall (by have hq_ := hc46; simp only [decide_eq_true_eq, decide_eq_false_iff_not] at hq_; omega)], hE53⟩⟩

/-- shell.written -/
theorem writtenEvent_calls (w : World) (hg : Glob w) (ok : Nat → Prop) (v0 : Value) (l : List Ev) (hv : Sl Rp.ev ok w v0 l) (hl : l.length ≤ 1048576) (ht : total evWt l ≤ 1048576) :
    Does Tryz.prog 26 #[v0, .func (.func 27) #[] #[]] w fun r w' => r = .tuple #[.string ⟨(wr evLine l).1.toArray⟩, .int .i64 (wr evLine l).2] ∧ Fr [] w w' := by
  obtain ⟨A0, c0, rfl, helc, hel⟩ := hv
  have hgz := hg.sz
  refine Does.of (fn_in (l := [.slice A0 l.length c0, .func (.func 27) #[] #[]]) Tryz.func26 rfl Tryz.ntmps26 rfl ?_)
  refine wp_seq ?_
  refine r_start ?_
  refine l_v (v := .string ⟨([] : List UInt8).toArray⟩) rfl rfl (by kernel_rfl) ?_
  refine l_v (v := .int .i64 0) rfl rfl (by kernel_rfl) ?_
  refine l_nil ?_
  refine n_then ?_
  refine wp_seq ?_
  refine r_start ?_
  refine l_new (fun k_ => .pointer (some ⟨k_, 0, none⟩)) rfl rfl (by kernel_rfl) (ob := .cells #[.pointer none, .slice none 0 0] 76) (fun k1 w2 n3 => ?_)
  have n3k := n3.hk; have n3z := n3.sz
  refine l_nil ?_
  refine n_then ?_
  refine wp_seq ?_
  refine wp_seq ?_
  refine r_start ?_
  refine l_v (v := .slice A0 l.length c0) rfl rfl (by kernel_rfl) ?_
  refine l_v (v := .int .i64 ((l.length : Nat) : Int)) rfl rfl (r_len rfl rfl Tryz.underlying37) ?_
  refine l_v (v := .int .i64 0) rfl rfl (by kernel_rfl) ?_
  refine l_nil ?_
  refine n_then ?_
  refine wp_block ?_
  have hB0 : Bld 76 5 w.heap.size k1 w2 [] := Bld.fresh n3.at_ (by omega)
  have hE8 : Fr [] w w2 := ((Fr.refl [] w).trans n3.fr)
  have hE8z := hE8.size
  refine c_loop (fun m_ a_ w_ => ∃ u_ : Nat → Value, ∃ k : Nat, a_ = mk [] 32 u_ [(13, .int .i64 ((k : Nat) : Int)), (0, .slice A0 l.length c0), (1, .func (.func 27) #[] #[]), (6, .pointer (some ⟨k1, 0, none⟩)), (11, .slice A0 l.length c0), (12, .int .i64 ((l.length : Nat) : Int))] ∧ m_ = l.length - k ∧ Fr [] w w_ ∧ (k ≤ l.length) ∧ ((l.take k).all (fun x => (evLine x).2) = true) ∧ (Bld 76 5 w.heap.size k1 w_ (joinW evLine (l.take k)))) (l.length - 0) ⟨_, 0, mk_eq (by kernel_rfl), rfl, hE8, Nat.zero_le _, rfl, hB0⟩ ?_
  rintro m6 _ wr4 ⟨u_, k, rfl, hm7, hE9, hk, hall, hB⟩ K_ hK5
  have hE9z := hE9.size
  refine wp_seq ?_
  refine r_start ?_
  refine l_v (v := .bool (decide (((k : Nat) : Int) < ((l.length : Nat) : Int)))) rfl rfl (by kernel_rfl) ?_
  refine l_nil ?_
  refine n_then ?_
  refine wp_seq ?_
  refine c_cond (e := decide (((k : Nat) : Int) < ((l.length : Nat) : Int))) rfl (fun hc10 => ?_) (fun hc10 => ?_)
  · try simp only [decide_eq_true_eq, decide_eq_false_iff_not, Bool.and_eq_true, Bool.or_eq_true, Bool.and_eq_false_iff, Bool.or_eq_false_iff, Bool.not_eq_true', Bool.not_eq_false', beq_iff_eq, bne_iff_ne, ne_eq, beq_eq_false_iff_ne, bne_eq_false_iff_eq, gt_iff_lt, ge_iff_le, Int.not_lt, Int.not_le] at hc10
    have hjl : (joinW evLine (l.take k)).length ≤ 87031808 := by
      have h1 := total_take evWt l k
      have h2 := joinW_len (wt := evWt) (f := evLine) (l.take k) (fun x hx => by
        obtain ⟨i, hi⟩ := List.getElem?_of_mem (List.mem_of_mem_take hx)
        obtain ⟨_, _, cs_, _, _, _, hK_, _⟩ := hel i x hi
        exact evLine_len hK_.fits)
      have h3 : (l.take k).length ≤ l.length := by rw [List.length_take]; omega
      omega
    refine wp_skip ?_
    refine n_then ?_
    refine wp_seq ?_
    refine wp_block ?_
    refine wp_seq ?_
    refine r_start ?_
    have hd11 := hel.fr0 hE9
    obtain ⟨x12, g13, off14, cs15, hx16, hA17, hg18, hl19, hK20, hr21⟩ := El.get hd11 (i := k) (by omega)
    obtain ⟨A22, c23, A24, c25, rfl, _⟩ := id hK20
    refine l_v (v := .pointer (some ⟨g13, off14 + k * 5, none⟩)) rfl rfl (r_elemn rfl rfl rfl hA17 Tryz.underlying37 (by kernel_rfl) (by omega)) ?_
    refine l_v (v := .agg #[.int .i64 x12.kind, .int .i64 x12.conn, .int .i64 x12.n, .slice A22 x12.data.length c23, .slice A24 x12.picks.length c25]) rfl rfl (r_loads (cs := [.int .i64 x12.kind, .int .i64 x12.conn, .int .i64 x12.n, .slice A22 x12.data.length c23, .slice A24 x12.picks.length c25]) rfl rfl Tryz.underlying66 rfl (by kernel_rfl) hr21) ?_
    refine l_new (fun k_ => .pointer (some ⟨k_, 0, none⟩)) rfl rfl (by kernel_rfl) (ob := .cells #[.int .i64 0, .int .i64 0, .int .i64 0, .slice none 0 0, .slice none 0 0] 66) (fun k26 w27 n28 => ?_)
    have n28k := n28.hk; have n28z := n28.sz
    refine l_store rfl rfl rfl (g := k26) (off := 0) (v := .agg #[.int .i64 x12.kind, .int .i64 x12.conn, .int .i64 x12.n, .slice A22 x12.data.length c23, .slice A24 x12.picks.length c25]) (arr := #[.int .i64 x12.kind, .int .i64 x12.conn, .int .i64 x12.n, .slice A22 x12.data.length c23, .slice A24 x12.picks.length c25]) rfl rfl (by kernel_rfl) n28.at_ rfl (by simp [Value.cells, Value.oneCell']) rfl (fun w29 p30 => ?_)
    have p30z := p30.sz
    refine l_nil ?_
    refine n_then ?_
    refine wp_seq ?_
    refine r_start ?_
    refine l_v (v := .func (.func 27) #[] #[]) rfl rfl (by kernel_rfl) ?_
    refine l_v (v := .agg #[.int .i64 x12.kind, .int .i64 x12.conn, .int .i64 x12.n, .slice A22 x12.data.length c23, .slice A24 x12.picks.length c25]) rfl rfl (r_loads (cs := [.int .i64 x12.kind, .int .i64 x12.conn, .int .i64 x12.n, .slice A22 x12.data.length c23, .slice A24 x12.picks.length c25]) rfl rfl Tryz.underlying66 rfl (by kernel_rfl) (range_at p30.at_ rfl)) ?_
    have hll := evLine_len hK20.fits
    have hE31 : Fr [] w w29 := (Fr.step (hE9.trans n28.fr) p30.fr (by intro k_ hk_; simp only [List.mem_singleton] at hk_; omega))
    have hE31z := hE31.size
    have hd32 := hg.fr0 hE31
    have hd33 := hK20.fr0 (Fr.step ((Fr.refl [] wr4).trans n28.fr) p30.fr (by intro k_ hk_; simp only [List.mem_singleton] at hk_; omega))
    refine l_call rfl rfl (r_callv (args' := #[.agg #[.int .i64 x12.kind, .int .i64 x12.conn, .int .i64 x12.n, .slice A22 x12.data.length c23, .slice A24 x12.picks.length c25]]) rfl rfl e27 (am rfl) rfl) (eventLine_calls w29 hd32 _ _ _ hd33) (fun v35 w36 h34 => ?_)
    obtain ⟨rfl, h34f⟩ := h34
    have h34z := h34f.size
    refine l_v (v := .tuple #[.string ⟨((evLine x12).1).toArray⟩, .bool ((evLine x12).2)]) rfl rfl (by kernel_rfl) ?_
    refine l_v (v := .string ⟨((evLine x12).1).toArray⟩) rfl rfl (by kernel_rfl) ?_
    refine l_v (v := .bool ((evLine x12).2)) rfl rfl (by kernel_rfl) ?_
    refine l_v (v := .string ⟨((evLine x12).1).toArray⟩) rfl rfl (by kernel_rfl) ?_
    refine l_v (v := .bool ((evLine x12).2)) rfl rfl (by kernel_rfl) ?_
    refine l_nil ?_
    refine n_then ?_
    refine wp_seq ?_
    refine wp_seq ?_
    refine r_start ?_
    refine l_v (v := .bool ((evLine x12).2)) rfl rfl (by kernel_rfl) ?_
    refine l_v (v := .bool ((!((evLine x12).2)))) rfl rfl (by kernel_rfl) ?_
    refine l_nil ?_
    refine n_then ?_
    have hwl : evWt x12 ≤ 1048576 := by
      have h1 := total_take evWt l (k + 1)
      have h2 := total_snoc (wt := evWt) hx16
      omega
    refine c_cond (e := (!((evLine x12).2))) rfl (fun hc37 => ?_) (fun hc37 => ?_)
    · refine wp_seq ?_
      refine r_start ?_
      refine l_v (v := .string ⟨([] : List UInt8).toArray⟩) rfl rfl (by kernel_rfl) ?_
      refine l_v (v := .int .i64 1) rfl rfl (by kernel_rfl) ?_
      refine l_nil ?_
      refine n_then ?_
      refine wp_ret ?_
      refine t_then ?_
      refine t_block ?_
      refine t_then ?_
      refine t_then ?_
      refine t_block ?_
      refine t_then ?_
      have hE38 : Fr [] w w36 := (hE31.trans h34f)
      have hE38z := hE38.size
      exact end_ret (v := .tuple #[.string ⟨([] : List UInt8).toArray⟩, .int .i64 1]) (res2 rfl rfl rfl) ⟨_, rfl, ⟨by rw [wr_no hx16 (by simpa using hc37)], hE38⟩⟩
    · refine wp_skip ?_
      refine n_then ?_
      refine r_start ?_
      refine l_v (v := .string ⟨((evLine x12).1).toArray⟩) rfl rfl (by kernel_rfl) ?_
      refine l_v (v := .string ⟨(((evLine x12).1) ++ ([10] : List UInt8)).toArray⟩) rfl rfl (r_str_add rfl rfl rfl (by (try simp only [List.length_append, List.length_cons, List.length_nil]); omega)) ?_
      have hd39 := hB.fr0 ((Fr.step ((Fr.refl [] wr4).trans n28.fr) p30.fr (by intro k_ hk_; simp only [List.mem_singleton] at hk_; omega)).trans h34f)
      refine l_call rfl rfl (r_call (args := #[.pointer (some ⟨k1, 0, none⟩), .string ⟨(((evLine x12).1) ++ ([10] : List UInt8)).toArray⟩]) rfl e30 (am rfl)) (WriteString_does w36 k1 w.heap.size (joinW evLine (l.take k)) (((evLine x12).1) ++ ([10] : List UInt8)) hd39 (by omega) (by (try simp only [List.length_append, List.length_cons, List.length_nil]); omega)) (fun v41 w42 h40 => ?_)
      obtain ⟨rfl, h40B, M43, h40M, h40f⟩ := h40
      have h40z := h40f.size
      refine l_nil ?_
      refine n_block ?_
      refine n_then ?_
      refine r_start ?_
      refine l_v (v := .int .i64 (((k : Nat) : Int) + 1)) rfl rfl (r_add (r := ((k : Nat) : Int) + 1) rfl rfl rfl (by omega) (by simp only [min_i64]; omega) (by simp only [max_i64]; omega)) ?_
      refine l_v (v := .int .i64 (((k : Nat) : Int) + 1)) rfl rfl (by kernel_rfl) ?_
      refine l_nil ?_
      refine n_then ?_
      have hE44 : Fr [] w w42 := (Fr.step (hE31.trans h34f) h40f h40M)
      have hE44z := hE44.size
      exact hK5 _ _ _ (by omega) ⟨_, (k + 1), mk_eq (by kernel_rfl), rfl, hE44, (by omega), (all_take hx16 hall (by simpa using hc37)), (by rw [joinW_take hx16]; exact h40B)⟩
  · try simp only [decide_eq_true_eq, decide_eq_false_iff_not, Bool.and_eq_true, Bool.or_eq_true, Bool.and_eq_false_iff, Bool.or_eq_false_iff, Bool.not_eq_true', Bool.not_eq_false', beq_iff_eq, bne_iff_ne, ne_eq, beq_eq_false_iff_ne, bne_eq_false_iff_eq, gt_iff_lt, ge_iff_le, Int.not_lt, Int.not_le] at hc10
    obtain rfl : k = l.length := by omega
    rw [List.take_length] at hall hB
    refine wp_exit ?_
    refine e_then ?_
    refine e_then ?_
    refine e_hit ?_
    refine n_then ?_
    refine wp_seq ?_
    refine wp_seq ?_
    refine r_start ?_
    refine l_call rfl rfl (r_call (args := #[.pointer (some ⟨k1, 0, none⟩)]) rfl e31 (am rfl)) (BLen_does wr4 _ _ _ hB) (fun v46 w47 h45 => ?_)
    obtain ⟨rfl, h45f⟩ := h45
    have h45z := h45f.size
    refine l_v (v := .bool (decide (((joinW evLine l).length : Int) > (65536 : Int)))) rfl rfl (by kernel_rfl) ?_
    refine l_nil ?_
    refine n_then ?_
    refine c_cond (e := decide (((joinW evLine l).length : Int) > (65536 : Int))) rfl (fun hc48 => ?_) (fun hc48 => ?_)
    · refine wp_seq ?_
      refine r_start ?_
      refine l_v (v := .string ⟨([] : List UInt8).toArray⟩) rfl rfl (by kernel_rfl) ?_
      refine l_v (v := .int .i64 3) rfl rfl (by kernel_rfl) ?_
      refine l_nil ?_
      refine n_then ?_
      refine wp_ret ?_
      refine t_then ?_
      have hE49 : Fr [] w w47 := (hE9.trans h45f)
      have hE49z := hE49.size
      exact end_ret (v := .tuple #[.string ⟨([] : List UInt8).toArray⟩, .int .i64 3]) (res2 rfl rfl rfl) ⟨_, rfl, ⟨by rw [wr_long hall (by have hq_ := hc48; simp only [decide_eq_true_eq, decide_eq_false_iff_not] at hq_; omega)], hE49⟩⟩
    · refine wp_skip ?_
      refine n_then ?_
      refine wp_seq ?_
      refine r_start ?_
      have hd50 := hB.fr0 ((Fr.refl [] wr4).trans h45f)
      refine l_call rfl rfl (r_call (args := #[.pointer (some ⟨k1, 0, none⟩)]) rfl e32 (am rfl)) (BString_does w47 _ _ _ hd50 (by omega)) (fun v52 w53 h51 => ?_)
      obtain ⟨rfl, M54, h51M, h51f⟩ := h51
      have h51z := h51f.size
      refine l_v (v := .string ⟨(joinW evLine l).toArray⟩) rfl rfl (by kernel_rfl) ?_
      refine l_v (v := .int .i64 0) rfl rfl (by kernel_rfl) ?_
      refine l_nil ?_
      refine n_then ?_
      refine wp_ret ?_
      have hE55 : Fr [] w w53 := (Fr.step (hE9.trans h45f) h51f h51M)
      have hE55z := hE55.size
      exact end_ret (v := .tuple #[.string ⟨(joinW evLine l).toArray⟩, .int .i64 0]) (res2 rfl rfl rfl) ⟨_, rfl, ⟨by rw [wr_ok hall (by have hq_ := hc48; simp only [decide_eq_true_eq, decide_eq_false_iff_not] at hq_; omega)], hE55⟩⟩

end Go.Proofs.YtmhljojgdfmjaaaGreatDoor
