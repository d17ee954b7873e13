/- walks -/
import Derived.Test.YtmhljojgdfmjaaaGreatDoorRange
import Derived.Test.YtmhljojgdfmjaaaGreatDoorMem
namespace Go.Proofs.YtmhljojgdfmjaaaGreatDoor
open Go.E
set_option linter.unusedVariables false
set_option linter.unusedSimpArgs false
set_option maxRecDepth 100000
set_option maxHeartbeats 1000000
open Go.Sh
/-- what the lines' iterator holds, and what is still to come -/
def NextL (s : List UInt8 × List UInt8) (x : List UInt8) (s' : List UInt8 × List UInt8) : Prop := s.1 = restOf s.2 ∧ s.2 ≠ [] ∧ x = lineOf s.2 ∧ s'.1 = restOf s.2 ∧ s'.2 = restOf s.2
def FinL (s : List UInt8 × List UInt8) : Prop := s.2 = []
/-- strings.Lines: the iterator -/
theorem lines1_calls (D Bn : Nat) (I : List UInt8 × List UInt8 → World → Prop) (w : World) (s : List UInt8) (hl : s.length ≤ 1048576) (hb0 : ∀ c t W, I (c, t) W → W.heap[Bn]? = some (.cells #[.string ⟨c.toArray⟩] 9 (0, 0))) (hBD : Bn < D) (hD : ∀ x W, I x W → D + 1 < W.heap.size)
    (hput : ∀ c t c' W W', I (c, t) W → Put Bn (.cells #[.string ⟨c'.toArray⟩] 9 (0, 0)) W W' → I (c', t) W') (hfr : ∀ x W W', I x W → Fr [] W W' → I x W') (Rec X : World → Prop) (hRec : ∀ W W', Rec W → Kept D W W' → Rec W') (hy : ∀ s x s' W, I s W → Rec W → NextL s x s' → YieldAt Fence.wide 0 Tryz.prog (D + 1) #[.string ⟨x.toArray⟩] W fun e W' => (e = .returned (.bool true) ∧ I s' W' ∧ Rec W') ∨ (e = .returned (.bool false) ∧ X W')) (hR0 : Rec w) (hI0 : I (s, s) w) :
    Does Tryz.prog 62 #[.func (.yield (D + 1)) #[] #[], .pointer (some ⟨Bn, 0, none⟩)] w fun r w' => (∃ x, I x w' ∧ FinL x ∧ Rec w') ∨ X w' := by
  refine Does.of (fn_in (l := [.func (.yield (D + 1)) #[] #[], .pointer (some ⟨Bn, 0, none⟩)]) Tryz.func62 rfl Tryz.ntmps62 rfl ?_)
  refine wp_block ?_
  refine c_loop (fun m_ a_ w_ => ∃ u_ : Nat → Value, ∃ t : List UInt8, a_ = mk [] 25 u_ [(0, .func (.yield (D + 1)) #[] #[]), (1, .pointer (some ⟨Bn, 0, none⟩))] ∧ m_ = t.length ∧ (I (t, t) w_) ∧ (Rec w_) ∧ (t.length ≤ 1048576)) (s.length) ⟨_, s, mk_eq (by kernel_rfl), rfl, hI0, hR0, hl⟩ ?_
  rintro m3 _ wr1 ⟨u_, t, rfl, hm4, hI, hR, htl⟩ K_ hK2
  have hbox := hb0 _ _ _ hI
  have hDz := hD _ _ hI
  refine wp_seq ?_
  refine wp_seq ?_
  refine r_start ?_
  refine l_v (v := .string ⟨(t).toArray⟩) rfl rfl (r_load rfl rfl Tryz.underlying9 rfl (cell_at hbox rfl)) ?_
  refine l_v (v := .int .i64 ((t).length : Int)) rfl rfl (r_lens rfl rfl Tryz.underlying9) ?_
  refine l_v (v := .bool (decide (((t).length : Int) > (0 : Int)))) rfl rfl (by kernel_rfl) ?_
  refine l_nil ?_
  refine n_then ?_
  refine c_cond (e := decide (((t).length : Int) > (0 : Int))) rfl (fun hc6 => ?_) (fun hc6 => ?_)
  · try simp only [decide_eq_true_eq, decide_eq_false_iff_not, Bool.and_eq_true, Bool.or_eq_true, Bool.and_eq_false_iff, Bool.or_eq_false_iff, Bool.not_eq_true', Bool.not_eq_false', beq_iff_eq, bne_iff_ne, ne_eq, beq_eq_false_iff_ne, bne_eq_false_iff_eq, gt_iff_lt, ge_iff_le, Int.not_lt, Int.not_le] at hc6
    have htn : t ≠ [] := by intro hh_; rw [hh_] at hc6; simp at hc6
    have hix := Lib.indexByte_ge t 10
    have hlt := restOf_lt htn
    refine wp_skip ?_
    refine n_then ?_
    refine wp_block ?_
    refine wp_seq ?_
    refine r_start ?_
    refine l_v (v := .string ⟨([] : List UInt8).toArray⟩) rfl rfl (by kernel_rfl) ?_
    refine l_nil ?_
    refine n_then ?_
    refine wp_seq ?_
    refine wp_seq ?_
    refine r_start ?_
    refine l_v (v := .string ⟨(t).toArray⟩) rfl rfl (r_load rfl rfl Tryz.underlying9 rfl (cell_at hbox rfl)) ?_
    refine l_call rfl rfl (r_call (args := #[.string ⟨(t).toArray⟩, .int .u8 10]) rfl e51 (am rfl)) (IndexByte_does t 10 wr1) (fun v8 w9 h7 => ?_)
    obtain ⟨rfl, h7f⟩ := h7
    have h7z := h7f.size
    refine l_v (v := .int .i64 (Lib.indexByte t 10)) rfl rfl (by kernel_rfl) ?_
    refine l_nil ?_
    refine n_then ?_
    refine wp_seq ?_
    refine r_start ?_
    refine l_v (v := .int .i64 (Lib.indexByte t 10)) rfl rfl (by kernel_rfl) ?_
    refine l_v (v := .bool (decide ((Lib.indexByte t 10) ≥ (0 : Int)))) rfl rfl (by kernel_rfl) ?_
    refine l_nil ?_
    refine n_then ?_
    refine c_cond (e := decide ((Lib.indexByte t 10) ≥ (0 : Int))) rfl (fun hc10 => ?_) (fun hc10 => ?_)
    · try simp only [decide_eq_true_eq, decide_eq_false_iff_not, Bool.and_eq_true, Bool.or_eq_true, Bool.and_eq_false_iff, Bool.or_eq_false_iff, Bool.not_eq_true', Bool.not_eq_false', beq_iff_eq, bne_iff_ne, ne_eq, beq_eq_false_iff_ne, bne_eq_false_iff_eq, gt_iff_lt, ge_iff_le, Int.not_lt, Int.not_le] at hc10
      have hixl := idx_lt (l := t) (c := 10) (by omega)
      refine h_start' (fun w0_ w_ => Fr [Bn] w0_ w_) hmix (fun _ _ _ _ _ h => h) (fun w11 f12 hQ14 => ?_)
      have f12z := f12.size
      refine h_take (i := 1) (v := .int .i64 (Lib.indexByte t 10)) rfl (by kernel_rfl) (by kernel_rfl) (by kernel_rfl) hQ14 rfl rfl (fun w_ hS_ => (by kernel_rfl)) (Fr.refl [Bn] w11) ?_
      refine h_take (i := 2) (v := .int .i64 ((Lib.indexByte t 10) + 1)) rfl (by kernel_rfl) (by kernel_rfl) (by kernel_rfl) hQ14 rfl rfl (fun w_ hS_ => (r_add (r := (Lib.indexByte t 10) + 1) rfl rfl rfl (by omega) (by simp only [min_i64]; omega) (by simp only [max_i64]; omega))) (Fr.refl [Bn] w11) ?_
      refine h_take (i := 5) (v := .int .i64 (Lib.indexByte t 10)) rfl (by kernel_rfl) (by kernel_rfl) (by kernel_rfl) hQ14 rfl rfl (fun w_ hS_ => (by kernel_rfl)) (Fr.refl [Bn] w11) ?_
      refine h_take (i := 6) (v := .int .i64 ((Lib.indexByte t 10) + 1)) rfl (by kernel_rfl) (by kernel_rfl) (by kernel_rfl) hQ14 rfl rfl (fun w_ hS_ => (r_add (r := (Lib.indexByte t 10) + 1) rfl rfl rfl (by omega) (by simp only [min_i64]; omega) (by simp only [max_i64]; omega))) (Fr.refl [Bn] w11) ?_
      have hb15 := (f12.at0 (h7f.at0 hbox))
      refine h_two (i := 0) (j := 4) (vi := .string ⟨(t).toArray⟩) (vj := .string ⟨(t).toArray⟩) (by kernel_rfl) rfl rfl rfl rfl rfl rfl (r_load rfl rfl Tryz.underlying9 rfl (cell_at hb15 rfl)) (r_load rfl rfl Tryz.underlying9 rfl (cell_at hb15 rfl)) (Fr.refl [Bn] w11) ?_ ?_
      · refine h_take (i := 3) (v := .string ⟨(t.take (((Lib.indexByte t 10) + 1).toNat)).toArray⟩) rfl (by kernel_rfl) (by kernel_rfl) (by kernel_rfl) hQ14 rfl rfl (fun w_ hS_ => (r_shi (j := ((Lib.indexByte t 10) + 1).toNat) rfl rfl rfl Tryz.underlying9 (by omega) (by omega))) (Fr.refl [Bn] w11) ?_
        refine h_take (i := 8) (v := .string ⟨(t.take (((Lib.indexByte t 10) + 1).toNat)).toArray⟩) rfl (by kernel_rfl) (by kernel_rfl) (by kernel_rfl) hQ14 rfl rfl (fun w_ hS_ => (by kernel_rfl)) (Fr.refl [Bn] w11) ?_
        refine h_val (i := 4) (by kernel_rfl) rfl rfl rfl (v := .string ⟨(t).toArray⟩) (r_load rfl rfl Tryz.underlying9 rfl (cell_at hb15 rfl)) (Fr.refl [Bn] w11) ?_
        refine h_take (i := 7) (v := .string ⟨(t.drop (((Lib.indexByte t 10) + 1).toNat)).toArray⟩) rfl (by kernel_rfl) (by kernel_rfl) (by kernel_rfl) hQ14 rfl rfl (fun w_ hS_ => (r_slo (j := ((Lib.indexByte t 10) + 1).toNat) rfl rfl rfl Tryz.underlying9 (by omega) (by omega))) (Fr.refl [Bn] w11) ?_
        refine h_store (i := 9) (by kernel_rfl) rfl rfl rfl rfl (g := Bn) (off := 0) (v := .string ⟨(t.drop (((Lib.indexByte t 10) + 1).toNat)).toArray⟩) (arr := #[.string ⟨(t.drop (((Lib.indexByte t 10) + 1).toNat)).toArray⟩]) rfl rfl (by kernel_rfl) hb15 rfl (by simp [Value.cells, Value.oneCell']) rfl (fun w16 p17 => ⟨(Fr.refl [Bn] w11).trans (p17.fr.mono (by simp)), ?_⟩)
        have p17z := p17.sz
        refine wpAnyH_done (by kernel_rfl) ?_ _
        refine n_then ?_
        refine wp_seq ?_
        refine y_start ?_
        refine lY_v (v := .func (.yield (D + 1)) #[] #[]) (Or.inl rfl) rfl rfl rfl (by kernel_rfl) ?_
        refine lY_v (v := .string ⟨(t.take (((Lib.indexByte t 10) + 1).toNat)).toArray⟩) (Or.inl rfl) rfl rfl rfl (by kernel_rfl) ?_
        have hl_ : lineOf t = t.take (((Lib.indexByte t 10) + 1).toNat) := if_pos (by omega)
        have hr_ : restOf t = t.drop (((Lib.indexByte t 10) + 1).toNat) := if_pos (by omega)
        have hi18 := (hput _ _ _ _ _ (hfr _ _ _ (hfr _ _ _ hI h7f) f12) p17)
        have hr19 := hRec _ _ hR ((((Kept.refl D wr1).trans (h7f.kept (by omega) (by simp) (by simp))).trans (f12.kept (by omega) (by simp) (by simp))).trans (p17.fr.kept (by omega) (by simp; omega) (by simp; omega)))
        refine lY_yield (l := D + 1) (Or.inl rfl) rfl rfl rfl rfl (am rfl) (hy (_, t) _ (restOf t, restOf t) _ hi18 hr19 ⟨hr_.symm, htn, hl_.symm, rfl, rfl⟩) ?_
        rintro e20 w21 (⟨rfl, hI7, hR7⟩ | ⟨rfl, hX7⟩)
        · refine ⟨_, rfl, ?_⟩
          refine lY_v (v := .bool (!true)) (Or.inl rfl) rfl rfl rfl (by kernel_rfl) ?_
          refine lY_nil ?_
          refine n_then ?_
          refine c_condF (e := (!true)) rfl rfl ?_
          refine wp_skip ?_
          refine n_block ?_
          refine n_then ?_
          exact hK2 _ _ _ (by omega) ⟨_, (restOf t), mk_eq (by kernel_rfl), rfl, hI7, hR7, (by omega)⟩
        · refine ⟨_, rfl, ?_⟩
          refine lY_v (v := .bool (!false)) (Or.inl rfl) rfl rfl rfl (by kernel_rfl) ?_
          refine lY_nil ?_
          refine n_then ?_
          refine c_condT (e := (!false)) rfl rfl ?_
          refine wp_ret ?_
          refine t_block ?_
          refine t_then ?_
          refine t_block ?_
          exact end_ret (v := .tuple #[]) (res0 rfl) ⟨_, rfl, (.inr hX7)⟩
      · refine h_take (i := 7) (v := .string ⟨(t.drop (((Lib.indexByte t 10) + 1).toNat)).toArray⟩) rfl (by kernel_rfl) (by kernel_rfl) (by kernel_rfl) hQ14 rfl rfl (fun w_ hS_ => (r_slo (j := ((Lib.indexByte t 10) + 1).toNat) rfl rfl rfl Tryz.underlying9 (by omega) (by omega))) (Fr.refl [Bn] w11) ?_
        refine h_val (i := 0) (by kernel_rfl) rfl rfl rfl (v := .string ⟨(t).toArray⟩) (r_load rfl rfl Tryz.underlying9 rfl (cell_at hb15 rfl)) (Fr.refl [Bn] w11) ?_
        refine h_take (i := 3) (v := .string ⟨(t.take (((Lib.indexByte t 10) + 1).toNat)).toArray⟩) rfl (by kernel_rfl) (by kernel_rfl) (by kernel_rfl) hQ14 rfl rfl (fun w_ hS_ => (r_shi (j := ((Lib.indexByte t 10) + 1).toNat) rfl rfl rfl Tryz.underlying9 (by omega) (by omega))) (Fr.refl [Bn] w11) ?_
        refine h_take (i := 8) (v := .string ⟨(t.take (((Lib.indexByte t 10) + 1).toNat)).toArray⟩) rfl (by kernel_rfl) (by kernel_rfl) (by kernel_rfl) hQ14 rfl rfl (fun w_ hS_ => (by kernel_rfl)) (Fr.refl [Bn] w11) ?_
        refine h_store (i := 9) (by kernel_rfl) rfl rfl rfl rfl (g := Bn) (off := 0) (v := .string ⟨(t.drop (((Lib.indexByte t 10) + 1).toNat)).toArray⟩) (arr := #[.string ⟨(t.drop (((Lib.indexByte t 10) + 1).toNat)).toArray⟩]) rfl rfl (by kernel_rfl) hb15 rfl (by simp [Value.cells, Value.oneCell']) rfl (fun w22 p23 => ⟨(Fr.refl [Bn] w11).trans (p23.fr.mono (by simp)), ?_⟩)
        have p23z := p23.sz
        refine wpAnyH_done (by kernel_rfl) ?_ _
        refine n_then ?_
        refine wp_seq ?_
        refine y_start ?_
        refine lY_v (v := .func (.yield (D + 1)) #[] #[]) (Or.inl rfl) rfl rfl rfl (by kernel_rfl) ?_
        refine lY_v (v := .string ⟨(t.take (((Lib.indexByte t 10) + 1).toNat)).toArray⟩) (Or.inl rfl) rfl rfl rfl (by kernel_rfl) ?_
        have hl_ : lineOf t = t.take (((Lib.indexByte t 10) + 1).toNat) := if_pos (by omega)
        have hr_ : restOf t = t.drop (((Lib.indexByte t 10) + 1).toNat) := if_pos (by omega)
        have hi24 := (hput _ _ _ _ _ (hfr _ _ _ (hfr _ _ _ hI h7f) f12) p23)
        have hr25 := hRec _ _ hR ((((Kept.refl D wr1).trans (h7f.kept (by omega) (by simp) (by simp))).trans (f12.kept (by omega) (by simp) (by simp))).trans (p23.fr.kept (by omega) (by simp; omega) (by simp; omega)))
        refine lY_yield (l := D + 1) (Or.inl rfl) rfl rfl rfl rfl (am rfl) (hy (_, t) _ (restOf t, restOf t) _ hi24 hr25 ⟨hr_.symm, htn, hl_.symm, rfl, rfl⟩) ?_
        rintro e26 w27 (⟨rfl, hI7, hR7⟩ | ⟨rfl, hX7⟩)
        · refine ⟨_, rfl, ?_⟩
          refine lY_v (v := .bool (!true)) (Or.inl rfl) rfl rfl rfl (by kernel_rfl) ?_
          refine lY_nil ?_
          refine n_then ?_
          refine c_condF (e := (!true)) rfl rfl ?_
          refine wp_skip ?_
          refine n_block ?_
          refine n_then ?_
          exact hK2 _ _ _ (by omega) ⟨_, (restOf t), mk_eq (by kernel_rfl), rfl, hI7, hR7, (by omega)⟩
        · refine ⟨_, rfl, ?_⟩
          refine lY_v (v := .bool (!false)) (Or.inl rfl) rfl rfl rfl (by kernel_rfl) ?_
          refine lY_nil ?_
          refine n_then ?_
          refine c_condT (e := (!false)) rfl rfl ?_
          refine wp_ret ?_
          refine t_block ?_
          refine t_then ?_
          refine t_block ?_
          exact end_ret (v := .tuple #[]) (res0 rfl) ⟨_, rfl, (.inr hX7)⟩
    · try simp only [decide_eq_true_eq, decide_eq_false_iff_not, Bool.and_eq_true, Bool.or_eq_true, Bool.and_eq_false_iff, Bool.or_eq_false_iff, Bool.not_eq_true', Bool.not_eq_false', beq_iff_eq, bne_iff_ne, ne_eq, beq_eq_false_iff_ne, bne_eq_false_iff_eq, gt_iff_lt, ge_iff_le, Int.not_lt, Int.not_le] at hc10
      refine r_start ?_
      have hb28 := (h7f.at0 hbox)
      refine l_v (v := .string ⟨(t).toArray⟩) rfl rfl (r_load rfl rfl Tryz.underlying9 rfl (cell_at hb28 rfl)) ?_
      refine l_v (v := .string ⟨(t).toArray⟩) rfl rfl (by kernel_rfl) ?_
      refine l_store rfl rfl rfl (g := Bn) (off := 0) (v := .string ⟨([] : List UInt8).toArray⟩) (arr := #[.string ⟨([] : List UInt8).toArray⟩]) rfl rfl (by kernel_rfl) hb28 rfl (by simp [Value.cells, Value.oneCell']) rfl (fun w29 p30 => ?_)
      have p30z := p30.sz
      refine l_nil ?_
      refine n_then ?_
      refine wp_seq ?_
      refine y_start ?_
      refine lY_v (v := .func (.yield (D + 1)) #[] #[]) (Or.inl rfl) rfl rfl rfl (by kernel_rfl) ?_
      refine lY_v (v := .string ⟨(t).toArray⟩) (Or.inl rfl) rfl rfl rfl (by kernel_rfl) ?_
      have hl_ : lineOf t = t := if_neg (by omega)
      have hr_ : restOf t = ([] : List UInt8) := if_neg (by omega)
      have hi31 := (hput _ _ _ _ _ (hfr _ _ _ hI h7f) p30)
      have hr32 := hRec _ _ hR (((Kept.refl D wr1).trans (h7f.kept (by omega) (by simp) (by simp))).trans (p30.fr.kept (by omega) (by simp; omega) (by simp; omega)))
      refine lY_yield (l := D + 1) (Or.inl rfl) rfl rfl rfl rfl (am rfl) (hy (_, t) _ (restOf t, restOf t) _ hi31 hr32 ⟨hr_.symm, htn, hl_.symm, rfl, rfl⟩) ?_
      rintro e33 w34 (⟨rfl, hI7, hR7⟩ | ⟨rfl, hX7⟩)
      · refine ⟨_, rfl, ?_⟩
        refine lY_v (v := .bool (!true)) (Or.inl rfl) rfl rfl rfl (by kernel_rfl) ?_
        refine lY_nil ?_
        refine n_then ?_
        refine c_condF (e := (!true)) rfl rfl ?_
        refine wp_skip ?_
        refine n_block ?_
        refine n_then ?_
        exact hK2 _ _ _ (by omega) ⟨_, (restOf t), mk_eq (by kernel_rfl), rfl, hI7, hR7, (by omega)⟩
      · refine ⟨_, rfl, ?_⟩
        refine lY_v (v := .bool (!false)) (Or.inl rfl) rfl rfl rfl (by kernel_rfl) ?_
        refine lY_nil ?_
        refine n_then ?_
        refine c_condT (e := (!false)) rfl rfl ?_
        refine wp_ret ?_
        refine t_block ?_
        refine t_then ?_
        refine t_block ?_
        exact end_ret (v := .tuple #[]) (res0 rfl) ⟨_, rfl, (.inr hX7)⟩
  · try simp only [decide_eq_true_eq, decide_eq_false_iff_not, Bool.and_eq_true, Bool.or_eq_true, Bool.and_eq_false_iff, Bool.or_eq_false_iff, Bool.not_eq_true', Bool.not_eq_false', beq_iff_eq, bne_iff_ne, ne_eq, beq_eq_false_iff_ne, bne_eq_false_iff_eq, gt_iff_lt, ge_iff_le, Int.not_lt, Int.not_le] at hc6
    refine wp_exit ?_
    refine e_then ?_
    refine e_then ?_
    refine e_hit ?_
    exact end_norm (v := .tuple #[]) (res0 rfl) ⟨_, rfl, (.inl ⟨(t, t), hI, (List.length_eq_zero_iff.1 (by omega) : t = []), hR⟩)⟩
theorem lines_gives (D Bn : Nat) (I : List UInt8 × List UInt8 → World → Prop) (w : World) (s : List UInt8) (hl : s.length ≤ 1048576) (hb0 : ∀ c t W, I (c, t) W → W.heap[Bn]? = some (.cells #[.string ⟨c.toArray⟩] 9 (0, 0))) (hBD : Bn < D) (hD : ∀ x W, I x W → D + 1 < W.heap.size)
    (hput : ∀ c t c' W W', I (c, t) W → Put Bn (.cells #[.string ⟨c'.toArray⟩] 9 (0, 0)) W W' → I (c', t) W') (hfr : ∀ x W W', I x W → Fr [] W W' → I x W') : Gives Tryz.prog 62 #[.pointer (some ⟨Bn, 0, none⟩)] (fun x : List UInt8 => .string ⟨x.toArray⟩) D I NextL FinL (s, s) w := by
  intro Rec X h1 h2 h3 h4
  refine Calls.mono (lines1_calls D Bn I w s hl hb0 hBD hD hput hfr Rec X h1 h2 h3 h4) ?_
  rintro e W' ⟨v, rfl, h⟩
  exact ⟨⟨_, rfl⟩, h⟩

end Go.Proofs.YtmhljojgdfmjaaaGreatDoor
