/- walks -/
import Derived.Test.YtmhljojgdfmjaaaGreatDoorRf1
import Derived.Test.YtmhljojgdfmjaaaGreatDoorEngD
namespace Go.Proofs.YtmhljojgdfmjaaaGreatDoor
open Go.E
set_option linter.unusedVariables false
set_option linter.unusedSimpArgs false
set_option maxRecDepth 100000
set_option maxHeartbeats 1000000
open Go.Sh
/-- ref31.Quote -/
theorem rQuote_calls (w : World) (ok : Nat → Prop) (v0 : Value) (l : List UInt8) (hv : By ok w v0 l) (hl : l.length ≤ 1048576) :
    Does Tryz.prog 38 #[v0] w fun r w' => r = .string ⟨(quoteL l).toArray⟩ ∧ Fr [] w w' := by
  obtain ⟨A0, c0, rfl, helc, hel⟩ := hv
  refine Does.of (fn_in (l := [.slice A0 l.length c0]) Tryz.func38 rfl Tryz.ntmps38 rfl ?_)
  refine wp_seq ?_
  refine r_start ?_
  refine l_v (v := .string ⟨([] : List UInt8).toArray⟩) rfl rfl (by kernel_rfl) ?_
  refine l_nil ?_
  refine n_then ?_
  refine wp_seq ?_
  refine r_start ?_
  refine l_v (v := .string ⟨([48, 49, 50, 51, 52, 53, 54, 55, 56, 57, 97, 98, 99, 100, 101, 102] : List UInt8).toArray⟩) rfl rfl (by kernel_rfl) ?_
  refine l_nil ?_
  refine n_then ?_
  refine wp_seq ?_
  refine r_start ?_
  refine l_new (fun k_ => .slice (some ⟨k_, 0, none⟩) 1 1) rfl rfl (by kernel_rfl) (ob := .cells #[.int .u8 34] 5) (fun k1 w2 n3 => ?_)
  have n3k := n3.hk; have n3z := n3.sz
  refine l_v (v := .slice (some ⟨k1, 0, none⟩) 1 1) rfl rfl (by kernel_rfl) ?_
  refine l_nil ?_
  refine n_then ?_
  refine wp_seq ?_
  refine wp_seq ?_
  refine r_start ?_
  refine l_v (v := .int .i64 0) rfl rfl (by kernel_rfl) ?_
  refine l_nil ?_
  refine n_then ?_
  refine wp_block ?_
  have hE8 : Fr [] w w2 := ((Fr.refl [] w).trans n3.fr)
  have hE8z := hE8.size
  refine c_loop (fun m_ a_ w_ => ∃ u_ : Nat → Value, ∃ k : Nat, ∃ v4 : Value, a_ = mk [] 52 u_ [(4, v4), (5, .int .i64 ((k : Nat) : Int)), (0, .slice A0 l.length c0), (2, .string ⟨([] : List UInt8).toArray⟩), (3, .string ⟨([48, 49, 50, 51, 52, 53, 54, 55, 56, 57, 97, 98, 99, 100, 101, 102] : List UInt8).toArray⟩), (7, .slice (some ⟨k1, 0, none⟩) 1 1)] ∧ m_ = l.length - k ∧ Fr [] w w_ ∧ (k ≤ l.length) ∧ (OwnB w.heap.size 5 w_ v4 (34 :: (l.take k).flatMap quoteB))) (l.length - 0) ⟨_, 0, .slice (some ⟨k1, 0, none⟩) 1 1, mk_eq (by kernel_rfl), rfl, hE8, Nat.zero_le _, own_b (base := w.heap.size) (own_new n3 (by omega) rfl rfl rfl (by omega) (by omega)) rfl rfl⟩ ?_
  rintro m6 _ wr4 ⟨u_, k, v4, rfl, hm7, hE9, hk, ho⟩ K_ hK5
  have hE9z := hE9.size
  refine wp_seq ?_
  refine wp_seq ?_
  refine r_start ?_
  refine l_v (v := .int .i64 ((k : Nat) : Int)) rfl rfl (by kernel_rfl) ?_
  refine l_v (v := .slice A0 l.length c0) rfl rfl (by kernel_rfl) ?_
  refine l_v (v := .int .i64 ((l.length : Nat) : Int)) rfl rfl (r_len rfl rfl Tryz.underlying47) ?_
  refine l_v (v := .bool (decide (((k : Nat) : Int) < ((l.length : Nat) : Int)))) rfl rfl (by kernel_rfl) ?_
  refine l_nil ?_
  refine n_then ?_
  refine c_cond (e := decide (((k : Nat) : Int) < ((l.length : Nat) : Int))) rfl (fun hc10 => ?_) (fun hc10 => ?_)
  · try simp only [decide_eq_true_eq, decide_eq_false_iff_not, Bool.and_eq_true, Bool.or_eq_true, Bool.and_eq_false_iff, Bool.or_eq_false_iff, Bool.not_eq_true', Bool.not_eq_false', beq_iff_eq, bne_iff_ne, ne_eq, beq_eq_false_iff_ne, bne_eq_false_iff_eq, gt_iff_lt, ge_iff_le, Int.not_lt, Int.not_le] at hc10
    refine wp_skip ?_
    refine n_then ?_
    refine wp_seq ?_
    refine wp_block ?_
    refine wp_seq ?_
    refine r_start ?_
    refine l_v (v := .slice A0 l.length c0) rfl rfl (by kernel_rfl) ?_
    refine l_v (v := .int .i64 ((k : Nat) : Int)) rfl rfl (by kernel_rfl) ?_
    obtain ⟨x11, g12, off13, cs14, hx15, hA16, hg17, hl18, hK19, hr20⟩ := El.get hel (i := k) (by omega)
    obtain rfl : cs14 = [.int .u8 (x11).toNat] := hK19
    refine l_v (v := .pointer (some ⟨g12, off13 + k * 1, none⟩)) rfl rfl (r_elemn rfl rfl rfl hA16 Tryz.underlying47 (by kernel_rfl) (by omega)) ?_
    have hr21 := (range_fr hr20 hE9 (by simp))
    refine l_v (v := .int .u8 ((x11).toNat : Int)) rfl rfl (r_load rfl rfl Tryz.underlying5 rfl (range_get (j := 0) hr21 rfl)) ?_
    refine l_v (v := .int .u8 ((x11).toNat : Int)) rfl rfl (by kernel_rfl) ?_
    refine l_nil ?_
    refine n_then ?_
    refine wp_seq ?_
    refine wp_seq ?_
    refine r_start ?_
    refine l_v (v := .int .u8 ((x11).toNat : Int)) rfl rfl (by kernel_rfl) ?_
    refine l_v (v := .bool (decide (((x11).toNat : Int) < (32 : Int)))) rfl rfl (by kernel_rfl) ?_
    refine l_v (v := .bool (decide (((x11).toNat : Int) < (32 : Int)))) rfl rfl (by kernel_rfl) ?_
    refine l_g (v := .int .u8 ((x11).toNat : Int)) (want_1 rfl rfl rfl rfl) rfl (fun hW_ => (by kernel_rfl)) ?_
    refine l_g (v := .bool (decide (((x11).toNat : Int) > (126 : Int)))) (want_1 rfl rfl rfl rfl) rfl (fun hW_ => (r_cmp rfl (gd_true hW_ _) rfl rfl)) ?_
    refine l_v (v := .bool (((decide (((x11).toNat : Int) < (32 : Int))) || (decide (((x11).toNat : Int) > (126 : Int)))))) rfl rfl (r_pick rfl rfl (pick_or _ _)) ?_
    refine l_nil ?_
    refine n_then ?_
    have hub := UInt8.toNat_lt x11
    refine c_cond (e := ((decide (((x11).toNat : Int) < (32 : Int))) || (decide (((x11).toNat : Int) > (126 : Int))))) rfl (fun hc22 => ?_) (fun hc22 => ?_)
    · try simp only [decide_eq_true_eq, decide_eq_false_iff_not, Bool.and_eq_true, Bool.or_eq_true, Bool.and_eq_false_iff, Bool.or_eq_false_iff, Bool.not_eq_true', Bool.not_eq_false', beq_iff_eq, bne_iff_ne, ne_eq, beq_eq_false_iff_ne, bne_eq_false_iff_eq, gt_iff_lt, ge_iff_le, Int.not_lt, Int.not_le] at hc22
      refine wp_seq ?_
      refine h_start' (fun w0_ w_ => True) hmix (fun _ _ _ _ _ h => h) (fun w23 f24 hQ26 => ?_)
      have f24z := f24.size
      refine h_take (i := 0) (v := v4) rfl (by kernel_rfl) (by kernel_rfl) (by kernel_rfl) hQ26 rfl rfl (fun w_ hS_ => (by kernel_rfl)) trivial ?_
      refine h_take (i := 1) (v := .string ⟨([48, 49, 50, 51, 52, 53, 54, 55, 56, 57, 97, 98, 99, 100, 101, 102] : List UInt8).toArray⟩) rfl (by kernel_rfl) (by kernel_rfl) (by kernel_rfl) hQ26 rfl rfl (fun w_ hS_ => (by kernel_rfl)) trivial ?_
      refine h_take (i := 2) (v := .int .u8 ((x11).toNat : Int)) rfl (by kernel_rfl) (by kernel_rfl) (by kernel_rfl) hQ26 rfl rfl (fun w_ hS_ => (by kernel_rfl)) trivial ?_
      refine h_take (i := 3) (v := .int .u8 (((((x11).toNat) / 16 : Nat) : Int))) rfl (by kernel_rfl) (by kernel_rfl) (by kernel_rfl) hQ26 rfl rfl (fun w_ hS_ => (r_quon (i := (x11).toNat) (m := 16) rfl rfl rfl rfl (by omega) (by simp only [max_u8]; omega))) trivial ?_
      refine h_take (i := 4) (v := .int .u8 (((hexd (((x11).toNat) / 16)).toNat : Int))) rfl (by kernel_rfl) (by kernel_rfl) (by kernel_rfl) hQ26 rfl rfl (fun w_ hS_ => (r_idxs (x := hexd (((x11).toNat) / 16)) rfl rfl rfl Tryz.underlying9 (hexd_at (by omega)))) trivial ?_
      refine h_take (i := 5) (v := .string ⟨([48, 49, 50, 51, 52, 53, 54, 55, 56, 57, 97, 98, 99, 100, 101, 102] : List UInt8).toArray⟩) rfl (by kernel_rfl) (by kernel_rfl) (by kernel_rfl) hQ26 rfl rfl (fun w_ hS_ => (by kernel_rfl)) trivial ?_
      refine h_take (i := 6) (v := .int .u8 ((x11).toNat : Int)) rfl (by kernel_rfl) (by kernel_rfl) (by kernel_rfl) hQ26 rfl rfl (fun w_ hS_ => (by kernel_rfl)) trivial ?_
      refine h_take (i := 7) (v := .int .u8 (((((x11).toNat) % 16 : Nat) : Int))) rfl (by kernel_rfl) (by kernel_rfl) (by kernel_rfl) hQ26 rfl rfl (fun w_ hS_ => (r_remn (i := (x11).toNat) (m := 16) rfl rfl rfl rfl (by omega))) trivial ?_
      refine h_take (i := 8) (v := .int .u8 (((hexd (((x11).toNat) % 16)).toNat : Int))) rfl (by kernel_rfl) (by kernel_rfl) (by kernel_rfl) hQ26 rfl rfl (fun w_ hS_ => (r_idxs (x := hexd (((x11).toNat) % 16)) rfl rfl rfl Tryz.underlying9 (hexd_at (by omega)))) trivial ?_
      refine h_new (i := 9) (fun k_ => .slice (some ⟨k_, 0, none⟩) 4 4) (by kernel_rfl) rfl rfl rfl (by kernel_rfl) (ob := .cells #[.int .u8 92, .int .u8 120, .int .u8 (((hexd (((x11).toNat) / 16)).toNat : Int)), .int .u8 (((hexd (((x11).toNat) % 16)).toNat : Int))] 5) (fun k27 w28 n29 => ⟨trivial, ?_⟩)
      have hE30 : Fr [] w w23 := (hE9.trans f24)
      have hE30z := hE30.size
      have n29k := n29.hk; have n29z := n29.sz
      have ho31 := (own_fr0 (own_fr0 ho f24) n29.fr)
      have hE32 : Fr [] w w28 := (hE30.trans n29.fr)
      have hE32z := hE32.size
      refine h_append (i := 10) (base := w.heap.size) (news := [.int .u8 92, .int .u8 120, .int .u8 (((hexd (((x11).toNat) / 16)).toNat : Int)), .int .u8 (((hexd (((x11).toNat) % 16)).toNat : Int))]) sl47 (by kernel_rfl) rfl rfl rfl rfl rfl ho31 rfl rfl (range_at n29.at_ rfl) (by simp [Value.oneCell']) (by have := flat_len (l.take k); simp only [List.length_take, List.length_cons, List.length_append, List.length_nil] at *; omega) (by decide) (by omega) (fun v33 w34 a35 => ⟨?_, ?_⟩)
      · exact trivial
      have a35z := a35.fr.size
      have ho36 : OwnB w.heap.size 5 w34 v33 (34 :: (l.take (k + 1)).flatMap quoteB) := own_b a35.own (by rw [flat_take hx15, quoteB_hex hc22, ← List.cons_append, List.length_append]; rfl) (by rw [flat_take hx15, quoteB_hex hc22, ← List.cons_append, List.map_append]; rfl)
      refine h_take (i := 11) (v := v33) rfl (by kernel_rfl) (by kernel_rfl) (by kernel_rfl) hQ26 rfl rfl (fun w_ hS_ => (by kernel_rfl)) trivial ?_
      refine wpAnyH_done (by kernel_rfl) ?_ _
      refine n_then ?_
      refine wp_exit ?_
      refine e_then ?_
      refine e_hit ?_
      refine n_then ?_
      refine r_start ?_
      refine l_v (v := .int .i64 ((k : Nat) : Int)) rfl rfl (by kernel_rfl) ?_
      refine l_v (v := .int .i64 (((k : Nat) : Int) + 1)) rfl rfl (r_add (r := ((k : Nat) : Int) + 1) rfl rfl rfl (by omega) (by simp only [min_i64]; omega) (by simp only [max_i64]; omega)) ?_
      refine l_v (v := .int .i64 (((k : Nat) : Int) + 1)) rfl rfl (by kernel_rfl) ?_
      refine l_nil ?_
      refine n_then ?_
      have hE37 : Fr [] w w34 := (Fr.step hE32 a35.fr (own_ge ho31 (by omega)))
      have hE37z := hE37.size
      exact hK5 _ _ _ (by omega) ⟨_, (k + 1), v33, mk_eq (by kernel_rfl), rfl, hE37, (by omega), ho36⟩
    · try simp only [decide_eq_true_eq, decide_eq_false_iff_not, Bool.and_eq_true, Bool.or_eq_true, Bool.and_eq_false_iff, Bool.or_eq_false_iff, Bool.not_eq_true', Bool.not_eq_false', beq_iff_eq, bne_iff_ne, ne_eq, beq_eq_false_iff_ne, bne_eq_false_iff_eq, gt_iff_lt, ge_iff_le, Int.not_lt, Int.not_le] at hc22
      refine wp_skip ?_
      refine n_then ?_
      refine wp_seq ?_
      refine wp_seq ?_
      refine r_start ?_
      refine l_v (v := .int .u8 ((x11).toNat : Int)) rfl rfl (by kernel_rfl) ?_
      refine l_v (v := .bool ((((x11).toNat : Int) == (34 : Int)))) rfl rfl (by kernel_rfl) ?_
      refine l_v (v := .bool ((((x11).toNat : Int) == (34 : Int)))) rfl rfl (by kernel_rfl) ?_
      refine l_g (v := .int .u8 ((x11).toNat : Int)) (want_1 rfl rfl rfl rfl) rfl (fun hW_ => (by kernel_rfl)) ?_
      refine l_g (v := .bool ((((x11).toNat : Int) == (92 : Int)))) (want_1 rfl rfl rfl rfl) rfl (fun hW_ => (r_cmp rfl (gd_true hW_ _) rfl rfl)) ?_
      refine l_v (v := .bool ((((((x11).toNat : Int) == (34 : Int))) || ((((x11).toNat : Int) == (92 : Int)))))) rfl rfl (r_pick rfl rfl (pick_or _ _)) ?_
      refine l_nil ?_
      refine n_then ?_
      refine c_cond (e := (((((x11).toNat : Int) == (34 : Int))) || ((((x11).toNat : Int) == (92 : Int))))) rfl (fun hc38 => ?_) (fun hc38 => ?_)
      · try simp only [decide_eq_true_eq, decide_eq_false_iff_not, Bool.and_eq_true, Bool.or_eq_true, Bool.and_eq_false_iff, Bool.or_eq_false_iff, Bool.not_eq_true', Bool.not_eq_false', beq_iff_eq, bne_iff_ne, ne_eq, beq_eq_false_iff_ne, bne_eq_false_iff_eq, gt_iff_lt, ge_iff_le, Int.not_lt, Int.not_le] at hc38
        refine r_start ?_
        refine l_v (v := v4) rfl rfl (by kernel_rfl) ?_
        refine l_new (fun k_ => .slice (some ⟨k_, 0, none⟩) 1 1) rfl rfl (by kernel_rfl) (ob := .cells #[.int .u8 92] 5) (fun k39 w40 n41 => ?_)
        have n41k := n41.hk; have n41z := n41.sz
        have ho42 := (own_fr0 ho n41.fr)
        have hE43 : Fr [] w w40 := (hE9.trans n41.fr)
        have hE43z := hE43.size
        refine l_append (v := v4) (base := w.heap.size) (news := [.int .u8 92]) sl47 rfl rfl rfl rfl ho42 rfl rfl (range_at n41.at_ rfl) (by simp [Value.oneCell']) (by have := flat_len (l.take k); simp only [List.length_take, List.length_cons, List.length_append, List.length_nil] at *; omega) (by decide) (by omega) (fun v44 w45 a46 => ?_)
        have a46z := a46.fr.size
        have ho47 : OwnB w.heap.size 5 w45 v44 ((34 :: (l.take k).flatMap quoteB) ++ [92]) := own_b a46.own (by rw [List.length_append]; rfl) (by rw [List.map_append]; rfl)
        refine l_v (v := v44) rfl rfl (by kernel_rfl) ?_
        refine l_nil ?_
        refine n_then ?_
        refine r_start ?_
        refine l_v (v := v44) rfl rfl (by kernel_rfl) ?_
        refine l_v (v := .int .u8 ((x11).toNat : Int)) rfl rfl (by kernel_rfl) ?_
        refine l_new (fun k_ => .slice (some ⟨k_, 0, none⟩) 1 1) rfl rfl (by kernel_rfl) (ob := .cells #[.int .u8 ((x11).toNat : Int)] 5) (fun k48 w49 n50 => ?_)
        have hE51 : Fr [] w w45 := (Fr.step hE43 a46.fr (own_ge ho42 (by omega)))
        have hE51z := hE51.size
        have n50k := n50.hk; have n50z := n50.sz
        have ho52 := (own_fr0 ho47 n50.fr)
        have hE53 : Fr [] w w49 := (hE51.trans n50.fr)
        have hE53z := hE53.size
        refine l_append (v := v44) (base := w.heap.size) (news := [.int .u8 ((x11).toNat : Int)]) sl47 rfl rfl rfl rfl ho52 rfl rfl (range_at n50.at_ rfl) (by simp [Value.oneCell']) (by have := flat_len (l.take k); simp only [List.length_take, List.length_cons, List.length_append, List.length_nil] at *; omega) (by decide) (by omega) (fun v54 w55 a56 => ?_)
        have a56z := a56.fr.size
        have ho57 : OwnB w.heap.size 5 w55 v54 (34 :: (l.take (k + 1)).flatMap quoteB) := own_b a56.own (by rw [flat_take hx15, quoteB_esc hc22 hc38, ← List.cons_append]; simp only [List.length_append, List.length_cons, List.length_nil]) (by rw [flat_take hx15, quoteB_esc hc22 hc38, ← List.cons_append]; simp only [List.map_append, List.append_assoc]; rfl)
        refine l_v (v := v54) rfl rfl (by kernel_rfl) ?_
        refine l_nil ?_
        refine n_block ?_
        refine n_then ?_
        refine r_start ?_
        refine l_v (v := .int .i64 ((k : Nat) : Int)) rfl rfl (by kernel_rfl) ?_
        refine l_v (v := .int .i64 (((k : Nat) : Int) + 1)) rfl rfl (r_add (r := ((k : Nat) : Int) + 1) rfl rfl rfl (by omega) (by simp only [min_i64]; omega) (by simp only [max_i64]; omega)) ?_
        refine l_v (v := .int .i64 (((k : Nat) : Int) + 1)) rfl rfl (by kernel_rfl) ?_
        refine l_nil ?_
        refine n_then ?_
        have hE58 : Fr [] w w55 := (Fr.step hE53 a56.fr (own_ge ho52 (by omega)))
        have hE58z := hE58.size
        exact hK5 _ _ _ (by omega) ⟨_, (k + 1), v54, mk_eq (by kernel_rfl), rfl, hE58, (by omega), ho57⟩
      · try simp only [decide_eq_true_eq, decide_eq_false_iff_not, Bool.and_eq_true, Bool.or_eq_true, Bool.and_eq_false_iff, Bool.or_eq_false_iff, Bool.not_eq_true', Bool.not_eq_false', beq_iff_eq, bne_iff_ne, ne_eq, beq_eq_false_iff_ne, bne_eq_false_iff_eq, gt_iff_lt, ge_iff_le, Int.not_lt, Int.not_le] at hc38
        refine wp_skip ?_
        refine n_then ?_
        refine r_start ?_
        refine l_v (v := v4) rfl rfl (by kernel_rfl) ?_
        refine l_v (v := .int .u8 ((x11).toNat : Int)) rfl rfl (by kernel_rfl) ?_
        refine l_new (fun k_ => .slice (some ⟨k_, 0, none⟩) 1 1) rfl rfl (by kernel_rfl) (ob := .cells #[.int .u8 ((x11).toNat : Int)] 5) (fun k59 w60 n61 => ?_)
        have n61k := n61.hk; have n61z := n61.sz
        have ho62 := (own_fr0 ho n61.fr)
        have hE63 : Fr [] w w60 := (hE9.trans n61.fr)
        have hE63z := hE63.size
        refine l_append (v := v4) (base := w.heap.size) (news := [.int .u8 ((x11).toNat : Int)]) sl47 rfl rfl rfl rfl ho62 rfl rfl (range_at n61.at_ rfl) (by simp [Value.oneCell']) (by have := flat_len (l.take k); simp only [List.length_take, List.length_cons, List.length_append, List.length_nil] at *; omega) (by decide) (by omega) (fun v64 w65 a66 => ?_)
        have a66z := a66.fr.size
        have ho67 : OwnB w.heap.size 5 w65 v64 (34 :: (l.take (k + 1)).flatMap quoteB) := own_b a66.own (by rw [flat_take hx15, quoteB_pl hc22 hc38, ← List.cons_append, List.length_append]; rfl) (by rw [flat_take hx15, quoteB_pl hc22 hc38, ← List.cons_append, List.map_append]; rfl)
        refine l_v (v := v64) rfl rfl (by kernel_rfl) ?_
        refine l_nil ?_
        refine n_block ?_
        refine n_then ?_
        refine r_start ?_
        refine l_v (v := .int .i64 ((k : Nat) : Int)) rfl rfl (by kernel_rfl) ?_
        refine l_v (v := .int .i64 (((k : Nat) : Int) + 1)) rfl rfl (r_add (r := ((k : Nat) : Int) + 1) rfl rfl rfl (by omega) (by simp only [min_i64]; omega) (by simp only [max_i64]; omega)) ?_
        refine l_v (v := .int .i64 (((k : Nat) : Int) + 1)) rfl rfl (by kernel_rfl) ?_
        refine l_nil ?_
        refine n_then ?_
        have hE68 : Fr [] w w65 := (Fr.step hE63 a66.fr (own_ge ho62 (by omega)))
        have hE68z := hE68.size
        exact hK5 _ _ _ (by omega) ⟨_, (k + 1), v64, mk_eq (by kernel_rfl), rfl, hE68, (by omega), ho67⟩
  · try simp only [decide_eq_true_eq, decide_eq_false_iff_not, Bool.and_eq_true, Bool.or_eq_true, Bool.and_eq_false_iff, Bool.or_eq_false_iff, Bool.not_eq_true', Bool.not_eq_false', beq_iff_eq, bne_iff_ne, ne_eq, beq_eq_false_iff_ne, bne_eq_false_iff_eq, gt_iff_lt, ge_iff_le, Int.not_lt, Int.not_le] at hc10
    refine wp_exit ?_
    refine e_then ?_
    refine e_then ?_
    refine e_hit ?_
    refine n_then ?_
    refine wp_seq ?_
    refine r_start ?_
    refine l_v (v := v4) rfl rfl (by kernel_rfl) ?_
    refine l_new (fun k_ => .slice (some ⟨k_, 0, none⟩) 1 1) rfl rfl (by kernel_rfl) (ob := .cells #[.int .u8 34] 5) (fun k69 w70 n71 => ?_)
    have n71k := n71.hk; have n71z := n71.sz
    have ho72 := (own_fr0 ho n71.fr)
    have hE73 : Fr [] w w70 := (hE9.trans n71.fr)
    have hE73z := hE73.size
    refine l_append (v := v4) (base := w.heap.size) (news := [.int .u8 34]) sl47 rfl rfl rfl rfl ho72 rfl rfl (range_at n71.at_ rfl) (by simp [Value.oneCell']) (by have := flat_len (l.take k); simp only [List.length_take, List.length_cons, List.length_append, List.length_nil] at *; omega) (by decide) (by omega) (fun v74 w75 a76 => ?_)
    have a76z := a76.fr.size
    obtain rfl : k = l.length := by omega
    have ho77 : OwnB w.heap.size 5 w75 v74 (quoteL l) := own_b a76.own (by rw [show quoteL l = (34 :: (l.take l.length).flatMap quoteB) ++ [34] from by rw [List.take_length]; rfl, List.length_append]; rfl) (by rw [show quoteL l = (34 :: (l.take l.length).flatMap quoteB) ++ [34] from by rw [List.take_length]; rfl, List.map_append]; rfl)
    obtain ⟨A78, c79, A78v, _, A78e⟩ := OwnB.by_ (ok := fun _ => True) ho77 (fun _ _ _ => trivial)
    refine l_v (v := .string ⟨(quoteL l).toArray⟩) rfl rfl (r_conv_str rfl A78v (conv_bytes A78e Tryz.underlying47 Tryz.underlying5 Tryz.underlying9)) ?_
    refine l_v (v := .string ⟨(quoteL l).toArray⟩) rfl rfl (by kernel_rfl) ?_
    refine l_nil ?_
    refine n_then ?_
    refine wp_ret ?_
    have hE80 : Fr [] w w75 := (Fr.step hE73 a76.fr (own_ge ho72 (by omega)))
    have hE80z := hE80.size
    exact end_ret (v := .string ⟨(quoteL l).toArray⟩) (res1 rfl rfl) ⟨_, rfl, ⟨rfl, hE80⟩⟩

end Go.Proofs.YtmhljojgdfmjaaaGreatDoor
