/- walks -/
import Derived.Test.YtmhljojgdfmjaaaGreatDoorSe4
import Derived.Test.YtmhljojgdfmjaaaGreatDoorSl2
namespace Go.Proofs.YtmhljojgdfmjaaaGreatDoor
open Go.E
set_option linter.unusedVariables false
set_option linter.unusedSimpArgs false
set_option maxRecDepth 100000
set_option maxHeartbeats 1000000
open Go.Sh
/-- between two rounds -/
def InvEvent (w0 : World) (D kB kf k4 k5 k6 k7 : Nat) (s : List UInt8) (ct : List UInt8 × List UInt8) (W : World) : Prop :=
  ∃ acc v A c k, v = .slice A acc.length c ∧ Fr [] w0 W ∧ D + 1 < W.heap.size ∧ W.heap[kB]? = some (.cells #[.string ⟨ct.1.toArray⟩] 9 (0, 0)) ∧ W.heap[kf]? = some (.cells #[.func (.func 29) #[] #[]] 72 (0, 0)) ∧ W.heap[k4]? = some (.cells #[.slice none 0 0] 37 (0, 0)) ∧
    W.heap[k5]? = some (.cells #[.int .i64 0] 3 (0, 0)) ∧ W.heap[k6]? = some (.cells #[.int .i64 0] 23 (0, 0)) ∧ W.heap[k7]? = some (.cells #[v] 37 (0, 0)) ∧ OwnL Rp.ev w0.heap.size 66 [kB, kf, k4, k5, k6, k7, D, D + 1] W v acc ∧
    ct.2.length ≤ k ∧ acc.length + ct.2.length ≤ s.length ∧ prs parseEv s.length s [] = prs parseEv k ct.2 acc
/-- a round has left -/
def OutEvent (w0 : World) (D k4 k5 k6 : Nat) (s : List UInt8) (W : World) : Prop :=
  ∃ n : Int, Fr [] w0 W ∧ D + 1 < W.heap.size ∧ W.heap[k4]? = some (.cells #[.slice none 0 0] 37 (0, 0)) ∧ W.heap[k5]? = some (.cells #[.int .i64 n] 3 (0, 0)) ∧ W.heap[k6]? = some (.cells #[.int .i64 5] 23 (0, 0)) ∧ prs parseEv s.length s [] = ([], n, 5)
theorem InvEvent.fr {w0 : World} {D kB kf k4 k5 k6 k7 : Nat} {s : List UInt8} {ct : List UInt8 × List UInt8} {W W' : World} {M : List Nat} (h : InvEvent w0 D kB kf k4 k5 k6 k7 s ct W) (hf : Fr M W W') (hM : ∀ k, k ∈ M → w0.heap.size ≤ k ∧ (k = D ∨ k = D + 1 ∨ W.heap.size ≤ k))
    (hB : kB < D ∧ kf < D ∧ k4 < D ∧ k5 < D ∧ k6 < D ∧ k7 < D) : InvEvent w0 D kB kf k4 k5 k6 k7 s ct W' := by
  obtain ⟨acc, v, A, c, k, h1, h2, hD, h3, h4, h5, h6, h7, h8, h9, h10, h11, h12⟩ := h
  have hn : ∀ j, j < D → j ∉ M := fun j hj hm => by have := hM j hm; omega
  exact ⟨acc, v, A, c, k, h1, Fr.step h2 hf fun k hk => (hM k hk).1, Nat.lt_of_lt_of_le hD hf.size, hf.at h3 (hn _ hB.1), hf.at h4 (hn _ hB.2.1), hf.at h5 (hn _ hB.2.2.1), hf.at h6 (hn _ hB.2.2.2.1), hf.at h7 (hn _ hB.2.2.2.2.1), hf.at h8 (hn _ hB.2.2.2.2.2),
    h9.fr hf (fun k hk => by have := hM k hk; simp only [List.mem_cons]; omega), h10, h11, h12⟩
theorem InvEvent.put {w0 : World} {D kB kf k4 k5 k6 k7 : Nat} {s c t c' : List UInt8} {W W' : World} (h : InvEvent w0 D kB kf k4 k5 k6 k7 s (c, t) W) (hp : Put kB (.cells #[.string ⟨c'.toArray⟩] 9 (0, 0)) W W')
    (hB : w0.heap.size ≤ kB ∧ kB ≠ kf ∧ kB ≠ k4 ∧ kB ≠ k5 ∧ kB ≠ k6 ∧ kB ≠ k7) : InvEvent w0 D kB kf k4 k5 k6 k7 s (c', t) W' := by
  obtain ⟨acc, v, A, c, k, h1, h2, hD, h3, h4, h5, h6, h7, h8, h9, h10, h11, h12⟩ := h
  have hn : ∀ j, kB ≠ j → j ∉ [kB] := fun j hj hm => hj (List.mem_singleton.1 hm).symm
  exact ⟨acc, v, A, c, k, h1, Fr.step h2 hp.fr fun k hk => by rw [List.mem_singleton] at hk; omega, Nat.lt_of_lt_of_le hD hp.fr.size, hp.at_, hp.fr.at h4 (hn _ hB.2.1), hp.fr.at h5 (hn _ hB.2.2.1), hp.fr.at h6 (hn _ hB.2.2.2.1), hp.fr.at h7 (hn _ hB.2.2.2.2.1), hp.fr.at h8 (hn _ hB.2.2.2.2.2),
    h9.fr hp.fr (fun k hk => by rw [List.mem_singleton] at hk; subst hk; simp), h10, h11, h12⟩
theorem OutEvent.fr {w0 : World} {D k4 k5 k6 : Nat} {s : List UInt8} {W W' : World} {M : List Nat} (h : OutEvent w0 D k4 k5 k6 s W) (hf : Fr M W W') (hM : ∀ k, k ∈ M → w0.heap.size ≤ k ∧ (k = D ∨ k = D + 1)) (hB : k4 < D ∧ k5 < D ∧ k6 < D) : OutEvent w0 D k4 k5 k6 s W' := by
  obtain ⟨n, h2, hD, h5, h6, h7, h8⟩ := h
  have hn : ∀ j, j < D → j ∉ M := fun j hj hm => by have := hM j hm; omega
  exact ⟨n, Fr.step h2 hf fun k hk => (hM k hk).1, Nat.lt_of_lt_of_le hD hf.size, hf.at h5 (hn _ hB.1), hf.at h6 (hn _ hB.2.1), hf.at h7 (hn _ hB.2.2), h8⟩
/-- shell.parsed -/
theorem parsedEvent_calls (w : World) (hg : Glob w) (s : List UInt8) (hl : s.length ≤ 1048576) :
    Does Tryz.prog 28 #[.string ⟨(s).toArray⟩, .func (.func 29) #[] #[]] w fun r w' => ∃ v, r = .tuple #[v, .int .i64 (parseT parseEv s).2.1, .int .i64 (parseT parseEv s).2.2] ∧ Sl Rp.ev (fun g => w.heap.size ≤ g) w' v (parseT parseEv s).1 ∧ Fr [] w w' := by
  have hgz := hg.sz
  refine Does.of (fn_inR (l := [.string ⟨(s).toArray⟩, .func (.func 29) #[] #[]]) Tryz.func28 rfl Tryz.ntmps28 rfl ?_)
  refine wpIn_seq ?_
  refine rI_start (Or.inl rfl) (by intro _ _ h_; first | exact h_ | (obtain ⟨_, h_, _⟩ := h_; cases h_)) rfl ?_
  refine l_new (fun k_ => .pointer (some ⟨k_, 0, none⟩)) rfl rfl (by kernel_rfl) (ob := .cells #[.func (.func 29) #[] #[]] 72) (fun k1 w2 n3 => ?_)
  have n3k := n3.hk; have n3z := n3.sz
  refine l_new (fun k_ => .pointer (some ⟨k_, 0, none⟩)) rfl rfl (by kernel_rfl) (ob := .cells #[.slice none 0 0] 37) (fun k4 w5 n6 => ?_)
  have hE7 : Fr [] w w2 := ((Fr.refl [] w).trans n3.fr)
  have hE7z := hE7.size
  have n6k := n6.hk; have n6z := n6.sz
  refine l_new (fun k_ => .pointer (some ⟨k_, 0, none⟩)) rfl rfl (by kernel_rfl) (ob := .cells #[.int .i64 0] 3) (fun k8 w9 n10 => ?_)
  have hE11 : Fr [] w w5 := (hE7.trans n6.fr)
  have hE11z := hE11.size
  have n10k := n10.hk; have n10z := n10.sz
  refine l_new (fun k_ => .pointer (some ⟨k_, 0, none⟩)) rfl rfl (by kernel_rfl) (ob := .cells #[.int .i64 0] 23) (fun k12 w13 n14 => ?_)
  have hE15 : Fr [] w w9 := (hE11.trans n10.fr)
  have hE15z := hE15.size
  have n14k := n14.hk; have n14z := n14.sz
  refine l_nil ?_
  refine n_then ?_
  refine wpIn_seq ?_
  refine wpIn_seq ?_
  refine rI_start (Or.inl rfl) (by intro _ _ h_; first | exact h_ | (obtain ⟨_, h_, _⟩ := h_; cases h_)) rfl ?_
  refine l_v (v := .string ⟨(s).toArray⟩) rfl rfl (by kernel_rfl) ?_
  refine l_v (v := .int .i64 ((s).length : Int)) rfl rfl (r_lens rfl rfl Tryz.underlying9) ?_
  refine l_v (v := .bool (decide (((s).length : Int) > (65536 : Int)))) rfl rfl (by kernel_rfl) ?_
  refine l_nil ?_
  refine n_then ?_
  refine cI_cond (e := decide (((s).length : Int) > (65536 : Int))) rfl (fun hc16 => ?_) (fun hc16 => ?_)
  · try simp only [decide_eq_true_eq, decide_eq_false_iff_not, Bool.and_eq_true, Bool.or_eq_true, Bool.and_eq_false_iff, Bool.or_eq_false_iff, Bool.not_eq_true', Bool.not_eq_false', beq_iff_eq, bne_iff_ne, ne_eq, beq_eq_false_iff_ne, bne_eq_false_iff_eq, gt_iff_lt, ge_iff_le, Int.not_lt, Int.not_le] at hc16
    refine wpIn_seq ?_
    refine rI_start (Or.inl rfl) (by intro _ _ h_; first | exact h_ | (obtain ⟨_, h_, _⟩ := h_; cases h_)) rfl ?_
    have hb17 := (n14.fr.at0 (n10.fr.at0 n6.at_))
    refine l_store rfl rfl rfl (g := k4) (off := 0) (v := .slice none 0 0) (arr := #[.slice none 0 0]) rfl rfl (by kernel_rfl) hb17 rfl (by simp [Value.cells, Value.oneCell']) rfl (fun w18 p19 => ?_)
    have p19z := p19.sz
    have hb20 := (p19.fr.at (n14.fr.at0 n10.at_) (by simp only [List.mem_singleton]; omega))
    refine l_store rfl rfl rfl (g := k8) (off := 0) (v := .int .i64 0) (arr := #[.int .i64 0]) rfl rfl (by kernel_rfl) hb20 rfl (by simp [Value.cells, Value.oneCell']) rfl (fun w21 p22 => ?_)
    have p22z := p22.sz
    have hb23 := (p22.fr.at (p19.fr.at n14.at_ (by simp only [List.mem_singleton]; omega)) (by simp only [List.mem_singleton]; omega))
    refine l_store rfl rfl rfl (g := k12) (off := 0) (v := .int .i64 3) (arr := #[.int .i64 3]) rfl rfl (by kernel_rfl) hb23 rfl (by simp [Value.cells, Value.oneCell']) rfl (fun w24 p25 => ?_)
    have p25z := p25.sz
    refine l_nil ?_
    refine n_then ?_
    refine wpIn_ret ?_
    refine t_then ?_
    have hlong : parseT parseEv s = ([], 0, 3) := if_pos (by omega)
    have hE26 : Fr [] w w24 := (Fr.step (Fr.step (Fr.step (hE15.trans n14.fr) p19.fr (by intro k_ hk_; simp only [List.mem_singleton] at hk_; omega)) p22.fr (by intro k_ hk_; simp only [List.mem_singleton] at hk_; omega)) p25.fr (by intro k_ hk_; simp only [List.mem_singleton] at hk_; omega))
    have hE26z := hE26.size
    have hb27 := (p25.fr.at (p22.fr.at p19.at_ (by simp only [List.mem_singleton]; omega)) (by simp only [List.mem_singleton]; omega))
    have hb28 := (p25.fr.at p22.at_ (by simp only [List.mem_singleton]; omega))
    exact end_retR (v := .tuple #[.slice none 0 0, .int .i64 0, .int .i64 3]) (resn3 rfl (rv_cell rfl Tryz.underlying37 rfl (cell_at hb27 rfl)) (rv_cell rfl Tryz.underlying3 rfl (cell_at hb28 rfl)) (rv_cell rfl Tryz.underlying23 rfl (cell_at p25.at_ rfl))) ⟨_, rfl, ⟨_, by rw [hlong], by rw [hlong]; exact Sl.nil _ _ _, hE26⟩⟩
  · try simp only [decide_eq_true_eq, decide_eq_false_iff_not, Bool.and_eq_true, Bool.or_eq_true, Bool.and_eq_false_iff, Bool.or_eq_false_iff, Bool.not_eq_true', Bool.not_eq_false', beq_iff_eq, bne_iff_ne, ne_eq, beq_eq_false_iff_ne, bne_eq_false_iff_eq, gt_iff_lt, ge_iff_le, Int.not_lt, Int.not_le] at hc16
    have hshort : parseT parseEv s = prs parseEv s.length s [] := if_neg (by omega)
    refine wpIn_skip ?_
    refine n_then ?_
    refine wpIn_seq ?_
    refine rI_start (Or.inl rfl) (by intro _ _ h_; first | exact h_ | (obtain ⟨_, h_, _⟩ := h_; cases h_)) rfl ?_
    refine l_new (fun k_ => .pointer (some ⟨k_, 0, none⟩)) rfl rfl (by kernel_rfl) (ob := .cells #[.slice none 0 0] 37) (fun k29 w30 n31 => ?_)
    have hE32 : Fr [] w w13 := (hE15.trans n14.fr)
    have hE32z := hE32.size
    have n31k := n31.hk; have n31z := n31.sz
    refine l_nil ?_
    refine n_then ?_
    refine wpIn_seq ?_
    refine wpIn_seq ?_
    refine rI_start (Or.inl rfl) (by intro _ _ h_; first | exact h_ | (obtain ⟨_, h_, _⟩ := h_; cases h_)) rfl ?_
    refine l_v (v := .string ⟨(s).toArray⟩) rfl rfl (by kernel_rfl) ?_
    refine l_call rfl rfl (r_call (args := #[.string ⟨(s).toArray⟩]) rfl e39 (am rfl)) (Lines_calls w30 s) (fun v34 w35 h33 => ?_)
    obtain ⟨k36, rfl, h33k, h33f, h33b⟩ := h33
    have h33z := h33f.size
    have h33l := (Array.getElem?_eq_some_iff.1 h33b).1
    refine l_nil ?_
    refine n_then ?_
    refine wpIn_block ?_
    have hb37 := (h33f.at0 (n31.fr.at0 (n14.fr.at0 (n10.fr.at0 (n6.fr.at0 n3.at_)))))
    have hb38 := (h33f.at0 (n31.fr.at0 (n14.fr.at0 (n10.fr.at0 n6.at_))))
    have hb39 := (h33f.at0 (n31.fr.at0 (n14.fr.at0 n10.at_)))
    have hb40 := (h33f.at0 (n31.fr.at0 n14.at_))
    have hb41 := (h33f.at0 n31.at_)
    have hE42 : Fr [] w w35 := ((hE32.trans n31.fr).trans h33f)
    have hE42z := hE42.size
    have hoff : ∀ (W : World), OwnL Rp.ev w.heap.size 66 [k36, k1, k4, k8, k12, k29, w35.heap.size, w35.heap.size + 1] W (.slice none 0 0) [] := fun W => OwnL.nil _ _ _ _ _
    refine wp_range (σ := List UInt8 × List UInt8) (α := List UInt8) (enc := fun x => .string ⟨x.toArray⟩) (gf := 62) (lb := #[.pointer (some ⟨k36, 0, none⟩)]) (InvEvent w w35.heap.size k36 k1 k4 k8 k12 k29 s) (OutEvent w w35.heap.size k4 k8 k12 s) NextL FinL (s, s) rfl e62
      (fun s1 W W' h hf => h.fr hf (by intro k hk; simp only [List.mem_cons, List.not_mem_nil, or_false] at hk; omega) (by omega)) (fun W W' h hf => h.fr hf (by intro k hk; simp only [List.mem_cons, List.not_mem_nil, or_false] at hk; omega) (by omega))
      (fun w1 hf1 hs1 => ⟨⟨[], _, none, 0, s.length, rfl, hE42.trans hf1, by omega, hf1.at0 h33b, hf1.at0 hb37, hf1.at0 hb38, hf1.at0 hb39, hf1.at0 hb40, hf1.at0 hb41, hoff _, Nat.le_refl _, by simp, rfl⟩, ?_⟩) ?_ ?_ ?_
    · refine lines_gives _ _ _ _ s hl (fun c t W h => ?_) (by omega) (fun x W h => ?_) (fun c t c' W W' h hp => h.put hp (by omega)) (fun x W W' h hf => h.fr hf (by simp) (by omega))
      · obtain ⟨_, _, _, _, _, _, _, _, h, _⟩ := h; exact h
      · obtain ⟨_, _, _, _, _, _, _, h, _⟩ := h; exact h
    · rintro ⟨c1, t1⟩ x ⟨c2, t2⟩ W hI hN hDW
      refine rI_start (Or.inr ⟨_, rfl⟩) (by intro _ _ h_; first | exact h_ | (obtain ⟨_, h_, _⟩ := h_; cases h_)) rfl ?_
      refine l_v (v := .string ⟨(x).toArray⟩) rfl rfl (by kernel_rfl) ?_
      refine l_nil ?_
      refine n_then ?_
      refine ⟨hI, Kept.refl _ _, ?_⟩
      intro W2 hI2 hDW2
      obtain ⟨acc, v7, A7, c7, k, hform, hF2, hDs, hbB, hbf, hb4, hb5, hb6, hb7, hO, htk, hacc, hprs⟩ := hI2
      obtain ⟨hN1, hN2, hN3, hN4, hN5⟩ := hN
      simp only at hN1 hN2 hN3 hN4 hN5 hbB htk hacc hprs
      subst hN1 hN3 hN4 hN5
      have hF2z := hF2.size
      have hll := lineOf_len t1
      have htr := trimS_len (lineOf t1) [10]
      have hrl := restOf_lt hN2
      refine wpIn_block ?_
      refine wpIn_seq ?_
      refine rI_start (Or.inr ⟨_, rfl⟩) (by intro _ _ h_; first | exact h_ | (obtain ⟨_, h_, _⟩ := h_; cases h_)) rfl ?_
      refine l_v (v := .string ⟨(lineOf t1).toArray⟩) rfl rfl (by kernel_rfl) ?_
      refine l_call rfl rfl (r_call (args := #[.string ⟨(lineOf t1).toArray⟩, .string ⟨([10] : List UInt8).toArray⟩]) rfl e40 (am rfl)) (CutSuffix_does (lineOf t1) [10] W2 (by omega)) (fun v44 w45 h43 => ?_)
      obtain ⟨rfl, h43f⟩ := h43
      have h43z := h43f.size
      refine l_v (v := .tuple #[.string ⟨(Lib.trimSuffix (lineOf t1) [10]).toArray⟩, .bool (Lib.hasSuffix (lineOf t1) [10])]) rfl rfl (by kernel_rfl) ?_
      refine l_v (v := .string ⟨(Lib.trimSuffix (lineOf t1) [10]).toArray⟩) rfl rfl (by kernel_rfl) ?_
      refine l_v (v := .bool (Lib.hasSuffix (lineOf t1) [10])) rfl rfl (by kernel_rfl) ?_
      refine l_v (v := .string ⟨(Lib.trimSuffix (lineOf t1) [10]).toArray⟩) rfl rfl (by kernel_rfl) ?_
      refine l_v (v := .bool (Lib.hasSuffix (lineOf t1) [10])) rfl rfl (by kernel_rfl) ?_
      refine l_nil ?_
      refine n_then ?_
      refine wpIn_seq ?_
      refine rI_start (Or.inr ⟨_, rfl⟩) (by intro _ _ h_; first | exact h_ | (obtain ⟨_, h_, _⟩ := h_; cases h_)) rfl ?_
      have hb46 := (h43f.at0 hbf)
      refine l_v (v := .func (.func 29) #[] #[]) rfl rfl (r_load rfl rfl Tryz.underlying72 rfl (cell_at hb46 rfl)) ?_
      refine l_v (v := .string ⟨(Lib.trimSuffix (lineOf t1) [10]).toArray⟩) rfl rfl (by kernel_rfl) ?_
      have hE47 : Fr [] w w45 := (hF2.trans h43f)
      have hE47z := hE47.size
      have hd48 := hg.fr0 hE47
      refine l_call rfl rfl (r_callv (args' := #[.string ⟨(Lib.trimSuffix (lineOf t1) [10]).toArray⟩]) rfl rfl e29 (am rfl) rfl) (event_calls w45 hd48 (Lib.trimSuffix (lineOf t1) [10]) (by omega)) (fun v50 w51 h49 => ?_)
      obtain ⟨h49c, h49x, h49K, rfl, h49v, h49f⟩ := h49
      have h49z := h49f.size
      obtain ⟨A52, c53, A54, c55, rfl, _⟩ := id h49K
      refine l_v (v := .tuple #[.agg #[.int .i64 h49x.kind, .int .i64 h49x.conn, .int .i64 h49x.n, .slice A52 h49x.data.length c53, .slice A54 h49x.picks.length c55], .bool ((parseEv (Lib.trimSuffix (lineOf t1) [10])).isSome)]) rfl rfl (by kernel_rfl) ?_
      refine l_v (v := .agg #[.int .i64 h49x.kind, .int .i64 h49x.conn, .int .i64 h49x.n, .slice A52 h49x.data.length c53, .slice A54 h49x.picks.length c55]) rfl rfl (by kernel_rfl) ?_
      refine l_v (v := .bool ((parseEv (Lib.trimSuffix (lineOf t1) [10])).isSome)) rfl rfl (by kernel_rfl) ?_
      refine l_new (fun k_ => .pointer (some ⟨k_, 0, none⟩)) rfl rfl (by kernel_rfl) (ob := .cells #[.int .i64 0, .int .i64 0, .int .i64 0, .slice none 0 0, .slice none 0 0] 66) (fun k56 w57 n58 => ?_)
      have hE59 : Fr [] w w51 := (hE47.trans h49f)
      have hE59z := hE59.size
      have n58k := n58.hk; have n58z := n58.sz
      refine l_store rfl rfl rfl (g := k56) (off := 0) (v := .agg #[.int .i64 h49x.kind, .int .i64 h49x.conn, .int .i64 h49x.n, .slice A52 h49x.data.length c53, .slice A54 h49x.picks.length c55]) (arr := #[.int .i64 h49x.kind, .int .i64 h49x.conn, .int .i64 h49x.n, .slice A52 h49x.data.length c53, .slice A54 h49x.picks.length c55]) rfl rfl (by kernel_rfl) n58.at_ rfl (by simp [Value.cells, Value.oneCell']) rfl (fun w60 p61 => ?_)
      have p61z := p61.sz
      refine l_v (v := .bool ((parseEv (Lib.trimSuffix (lineOf t1) [10])).isSome)) rfl rfl (by kernel_rfl) ?_
      refine l_nil ?_
      refine n_then ?_
      refine wpIn_seq ?_
      refine wpIn_seq ?_
      refine rI_start (Or.inr ⟨_, rfl⟩) (by intro _ _ h_; first | exact h_ | (obtain ⟨_, h_, _⟩ := h_; cases h_)) rfl ?_
      refine l_v (v := .bool (Lib.hasSuffix (lineOf t1) [10])) rfl rfl (by kernel_rfl) ?_
      refine l_v (v := .bool ((!(Lib.hasSuffix (lineOf t1) [10])))) rfl rfl (by kernel_rfl) ?_
      refine l_v (v := .bool ((!(Lib.hasSuffix (lineOf t1) [10])))) rfl rfl (by kernel_rfl) ?_
      refine l_g (v := .bool ((parseEv (Lib.trimSuffix (lineOf t1) [10])).isSome)) (want_1 rfl rfl rfl rfl) rfl (fun hW_ => (by kernel_rfl)) ?_
      refine l_g (v := .bool ((!((parseEv (Lib.trimSuffix (lineOf t1) [10])).isSome)))) (want_1 rfl rfl rfl rfl) rfl (fun hW_ => (r_not rfl (gd_true hW_ _))) ?_
      refine l_v (v := .bool ((((!(Lib.hasSuffix (lineOf t1) [10]))) || ((!((parseEv (Lib.trimSuffix (lineOf t1) [10])).isSome)))))) rfl rfl (r_pick rfl rfl (pick_or _ _)) ?_
      refine l_nil ?_
      refine n_then ?_
      refine cI_cond (e := (((!(Lib.hasSuffix (lineOf t1) [10]))) || ((!((parseEv (Lib.trimSuffix (lineOf t1) [10])).isSome))))) rfl (fun hc62 => ?_) (fun hc62 => ?_)
      · have hno : lineVal parseEv (lineOf t1) = none := by unfold lineVal; split <;> simp_all
        refine wpIn_seq ?_
        have hE67 : Fr [] w w60 := (Fr.step (hE59.trans n58.fr) p61.fr (by intro k_ hk_; simp only [List.mem_singleton] at hk_; omega))
        have hE67z := hE67.size
        refine hI_start' (fun w0_ w_ => Fr [k4, k8, k12] w0_ w_) (Or.inr ⟨_, rfl⟩) (by intro _ _ h_; first | exact h_ | (obtain ⟨_, h_, _⟩ := h_; cases h_)) (by kernel_rfl) hmix (fun _ _ _ _ _ h => h) (fun w63 f64 hQ66 => ?_)
        have f64z := f64.size
        have hb68 := (f64.at0 (p61.fr.at (n58.fr.at0 (h49f.at0 (h43f.at0 hb7))) (by simp only [List.mem_singleton]; omega)))
        refine h_take (i := 0) (v := v7) rfl (by kernel_rfl) (by kernel_rfl) (by kernel_rfl) hQ66 rfl rfl (fun w_ hS_ => (r_load rfl rfl Tryz.underlying37 rfl (cell_at (hS_.at hb68 (by simp; omega)) rfl))) (Fr.refl [k4, k8, k12] w63) ?_
        refine h_take (i := 1) (v := .int .i64 ((acc.length : Nat) : Int)) rfl (by kernel_rfl) (by kernel_rfl) (by kernel_rfl) hQ66 rfl rfl (fun w_ hS_ => (r_len rfl hform Tryz.underlying37)) (Fr.refl [k4, k8, k12] w63) ?_
        refine h_take (i := 2) (v := .int .i64 (((acc.length : Nat) : Int) + 1)) rfl (by kernel_rfl) (by kernel_rfl) (by kernel_rfl) hQ66 rfl rfl (fun w_ hS_ => (r_add (r := ((acc.length : Nat) : Int) + 1) rfl rfl rfl (by omega) (by simp only [min_i64]; omega) (by simp only [max_i64]; omega))) (Fr.refl [k4, k8, k12] w63) ?_
        have hb69 := (f64.at0 (p61.fr.at (n58.fr.at0 (h49f.at0 (h43f.at0 hb4))) (by simp only [List.mem_singleton]; omega)))
        refine h_store (i := 3) (by kernel_rfl) rfl rfl rfl rfl (g := k4) (off := 0) (v := .slice none 0 0) (arr := #[.slice none 0 0]) rfl rfl (by kernel_rfl) hb69 rfl (by simp [Value.cells, Value.oneCell']) rfl (fun w70 p71 => ⟨(Fr.refl [k4, k8, k12] w63).trans (p71.fr.mono (by simp)), ?_⟩)
        have p71z := p71.sz
        have hb72 := (p71.fr.at (f64.at0 (p61.fr.at (n58.fr.at0 (h49f.at0 (h43f.at0 hb5))) (by simp only [List.mem_singleton]; omega))) (by simp only [List.mem_singleton]; omega))
        refine h_store (i := 4) (by kernel_rfl) rfl rfl rfl rfl (g := k8) (off := 0) (v := .int .i64 (((acc.length : Nat) : Int) + 1)) (arr := #[.int .i64 (((acc.length : Nat) : Int) + 1)]) rfl rfl (by kernel_rfl) hb72 rfl (by simp [Value.cells, Value.oneCell']) rfl (fun w73 p74 => ⟨((Fr.refl [k4, k8, k12] w63).trans (p71.fr.mono (by simp))).trans (p74.fr.mono (by simp)), ?_⟩)
        have p74z := p74.sz
        have hb75 := (p74.fr.at (p71.fr.at (f64.at0 (p61.fr.at (n58.fr.at0 (h49f.at0 (h43f.at0 hb6))) (by simp only [List.mem_singleton]; omega))) (by simp only [List.mem_singleton]; omega)) (by simp only [List.mem_singleton]; omega))
        refine h_store (i := 5) (by kernel_rfl) rfl rfl rfl rfl (g := k12) (off := 0) (v := .int .i64 5) (arr := #[.int .i64 5]) rfl rfl (by kernel_rfl) hb75 rfl (by simp [Value.cells, Value.oneCell']) rfl (fun w76 p77 => ⟨(((Fr.refl [k4, k8, k12] w63).trans (p71.fr.mono (by simp))).trans (p74.fr.mono (by simp))).trans (p77.fr.mono (by simp)), ?_⟩)
        have p77z := p77.sz
        refine wpAnyH_done (by kernel_rfl) ?_ _
        refine n_then ?_
        refine wpIn_ret ?_
        refine t_then ?_
        refine t_block ?_
        have hE78 : Fr [] w w76 := (Fr.step (Fr.step (Fr.step (hE67.trans f64) p71.fr (by intro k_ hk_; simp only [List.mem_singleton] at hk_; omega)) p74.fr (by intro k_ hk_; simp only [List.mem_singleton] at hk_; omega)) p77.fr (by intro k_ hk_; simp only [List.mem_singleton] at hk_; omega))
        have hE78z := hE78.size
        have hb79 := (p77.fr.at (p74.fr.at p71.at_ (by simp only [List.mem_singleton]; omega)) (by simp only [List.mem_singleton]; omega))
        have hb80 := (p77.fr.at p74.at_ (by simp only [List.mem_singleton]; omega))
        refine outR_t ⟨⟨_, hE78, by omega, hb79, hb80, p77.at_, by rw [hprs, prs_none hN2 htk hno]⟩, (((((((((Kept.refl _ W2).trans (h43f.kept (by omega) (by simp) (by simp))).trans (h49f.kept (by omega) (by simp) (by simp))).trans (n58.fr.kept (by omega) (by simp) (by simp))).trans (p61.fr.kept (by omega) (by simp; omega) (by simp; omega))).trans (f64.kept (by omega) (by simp) (by simp))).trans (p71.fr.kept (by omega) (by simp; omega) (by simp; omega))).trans (p74.fr.kept (by omega) (by simp; omega) (by simp; omega))).trans (p77.fr.kept (by omega) (by simp; omega) (by simp; omega)))⟩
      · have hyes : lineVal parseEv (lineOf t1) = some h49x := by
          unfold lineVal
          simp only [Bool.or_eq_false_iff, Bool.not_eq_false'] at hc62
          rw [if_pos hc62.1]
          obtain ⟨y_, hy_⟩ := Option.isSome_iff_exists.1 hc62.2
          rw [hy_, h49v _ hy_]
        refine wpIn_skip ?_
        refine n_then ?_
        refine rI_start (Or.inr ⟨_, rfl⟩) (by intro _ _ h_; first | exact h_ | (obtain ⟨_, h_, _⟩ := h_; cases h_)) rfl ?_
        have hb81 := (p61.fr.at (n58.fr.at0 (h49f.at0 (h43f.at0 hb7))) (by simp only [List.mem_singleton]; omega))
        refine l_v (v := v7) rfl rfl (r_load rfl rfl Tryz.underlying37 rfl (cell_at hb81 rfl)) ?_
        refine l_v (v := .agg #[.int .i64 h49x.kind, .int .i64 h49x.conn, .int .i64 h49x.n, .slice A52 h49x.data.length c53, .slice A54 h49x.picks.length c55]) rfl rfl (r_loads (cs := [.int .i64 h49x.kind, .int .i64 h49x.conn, .int .i64 h49x.n, .slice A52 h49x.data.length c53, .slice A54 h49x.picks.length c55]) rfl rfl Tryz.underlying66 rfl (by kernel_rfl) (range_at p61.at_ rfl)) ?_
        refine l_new (fun k_ => .slice (some ⟨k_, 0, none⟩) 1 1) rfl rfl (by kernel_rfl) (ob := .cells #[.int .i64 h49x.kind, .int .i64 h49x.conn, .int .i64 h49x.n, .slice A52 h49x.data.length c53, .slice A54 h49x.picks.length c55] 66) (fun k82 w83 n84 => ?_)
        have hE85 : Fr [] w w60 := (Fr.step (hE59.trans n58.fr) p61.fr (by intro k_ hk_; simp only [List.mem_singleton] at hk_; omega))
        have hE85z := hE85.size
        have n84k := n84.hk; have n84z := n84.sz
        have hd86 := hO.fr0 ((Fr.step ((((Fr.refl [] W2).trans h43f).trans h49f).trans n58.fr) p61.fr (by intro k_ hk_; simp only [List.mem_singleton] at hk_; omega)).trans n84.fr)
        have hd87 := h49K.fr0 ((Fr.step ((Fr.refl [] w51).trans n58.fr) p61.fr (by intro k_ hk_; simp only [List.mem_singleton] at hk_; omega)).trans n84.fr)
        have hOB : ∀ g, v7.ownBlock = some g → g ∉ [k36, k1, k4, k8, k12, k29, w35.heap.size, w35.heap.size + 1] := by obtain ⟨_, _, _, _, h_⟩ := hd86; exact h_
        obtain ⟨css, hown, hnext⟩ := OwnL.own hd86
        have hE88 : Fr [] w w83 := (hE85.trans n84.fr)
        have hE88z := hE88.size
        refine l_append (v := v7) (base := w.heap.size) (news := [.int .i64 h49x.kind, .int .i64 h49x.conn, .int .i64 h49x.n, .slice A52 h49x.data.length c53, .slice A54 h49x.picks.length c55]) sl37 rfl rfl rfl rfl hown rfl rfl (range_at n84.at_ rfl) (by simp [Value.oneCell']) (by omega) (by decide) (by omega) (fun v89 w90 a91 => ?_)
        have a91z := a91.fr.size
        have hO2 := hnext _ h49x _ _ a91 (Rp.ev.weak hd87 (fun g hg ho => ⟨by have : w45.heap.size ≤ g := ho; omega, by have : w45.heap.size ≤ g := ho; simp only [List.mem_cons, List.not_mem_nil, or_false]; omega, fun hc_ => by have := (hO.lt_own g hc_); have : w45.heap.size ≤ g := ho; omega⟩)) (by intro k_ hk_; simp only [List.mem_cons, List.not_mem_nil, or_false] at hk_; omega)
        have hform2 := OwnL.form hO2
        obtain ⟨A8, c8, rfl⟩ := hform2
        have hb92 := (a91.fr.at (n84.fr.at0 hb81) (by intro hk_; exact hOB k29 (by simpa using hk_) (by simp)))
        refine l_store rfl rfl rfl (g := k29) (off := 0) (v := .slice A8 ((acc ++ [h49x]).length) c8) (arr := #[.slice A8 ((acc ++ [h49x]).length) c8]) rfl rfl (by kernel_rfl) hb92 rfl (by simp [Value.cells, Value.oneCell']) rfl (fun w93 p94 => ?_)
        have p94z := p94.sz
        refine l_nil ?_
        refine n_block ?_
        have hE95 : Fr [] w w93 := (Fr.step (Fr.step hE88 a91.fr (own_ge hown (by omega))) p94.fr (by intro k_ hk_; simp only [List.mem_singleton] at hk_; omega))
        have hE95z := hE95.size
        obtain ⟨k', hk', hrk, hpr⟩ := prs_some (acc := acc) hN2 htk hyes
        have hb96 := (p94.fr.at (a91.fr.at (n84.fr.at0 (p61.fr.at (n58.fr.at0 (h49f.at0 (h43f.at0 hbB))) (by simp only [List.mem_singleton]; omega))) (by intro hk_; exact hOB k36 (by simpa using hk_) (by simp))) (by simp only [List.mem_singleton]; omega))
        have hb97 := (p94.fr.at (a91.fr.at (n84.fr.at0 (p61.fr.at (n58.fr.at0 (h49f.at0 hb46)) (by simp only [List.mem_singleton]; omega))) (by intro hk_; exact hOB k1 (by simpa using hk_) (by simp))) (by simp only [List.mem_singleton]; omega))
        have hb98 := (p94.fr.at (a91.fr.at (n84.fr.at0 (p61.fr.at (n58.fr.at0 (h49f.at0 (h43f.at0 hb4))) (by simp only [List.mem_singleton]; omega))) (by intro hk_; exact hOB k4 (by simpa using hk_) (by simp))) (by simp only [List.mem_singleton]; omega))
        have hb99 := (p94.fr.at (a91.fr.at (n84.fr.at0 (p61.fr.at (n58.fr.at0 (h49f.at0 (h43f.at0 hb5))) (by simp only [List.mem_singleton]; omega))) (by intro hk_; exact hOB k8 (by simpa using hk_) (by simp))) (by simp only [List.mem_singleton]; omega))
        have hb100 := (p94.fr.at (a91.fr.at (n84.fr.at0 (p61.fr.at (n58.fr.at0 (h49f.at0 (h43f.at0 hb6))) (by simp only [List.mem_singleton]; omega))) (by intro hk_; exact hOB k12 (by simpa using hk_) (by simp))) (by simp only [List.mem_singleton]; omega))
        have hd101 := (hO2.fr p94.fr (by intro k_ hk_; rw [List.mem_singleton] at hk_; subst hk_; left; simp))
        refine outR_n ⟨⟨acc ++ [h49x], _, A8, c8, k', rfl, hE95, by omega, hb96, hb97, hb98, hb99, hb100, p94.at_, hd101, hrk, by simp only [List.length_append, List.length_cons, List.length_nil]; omega, by rw [hprs, hpr]⟩, ((((((((Kept.refl _ W2).trans (h43f.kept (by omega) (by simp) (by simp))).trans (h49f.kept (by omega) (by simp) (by simp))).trans (n58.fr.kept (by omega) (by simp) (by simp))).trans (p61.fr.kept (by omega) (by simp; omega) (by simp; omega))).trans (n84.fr.kept (by omega) (by simp) (by simp))).trans (a91.fr.kept (by omega) (by intro hk_; have := hown.lt w35.heap.size (by simpa using hk_); have := hOB w35.heap.size (by simpa using hk_); simp at this) (by intro hk_; have := hown.lt (w35.heap.size + 1) (by simpa using hk_); have := hOB (w35.heap.size + 1) (by simpa using hk_); simp at this))).trans (p94.fr.kept (by omega) (by simp; omega) (by simp; omega)))⟩
    · rintro ⟨c1, t1⟩ W2 hI2 hfin hDD
      obtain ⟨acc, v7, A7, c7, k, hform, hF2, hDs, hbB, hbf, hb4, hb5, hb6, hb7, hO, htk, hacc, hprs⟩ := hI2
      simp only [FinL] at hfin htk hacc hprs
      subst hfin
      rw [prs_nil] at hprs
      have hF2z := hF2.size
      subst hform
      refine n_block ?_
      refine n_then ?_
      refine wpIn_seq ?_
      refine rI_start (Or.inl rfl) (by intro _ _ h_; first | exact h_ | (obtain ⟨_, h_, _⟩ := h_; cases h_)) rfl ?_
      refine l_v (v := .slice A7 acc.length c7) rfl rfl (r_load rfl rfl Tryz.underlying37 rfl (cell_at hb7 rfl)) ?_
      refine l_store rfl rfl rfl (g := k4) (off := 0) (v := .slice A7 acc.length c7) (arr := #[.slice A7 acc.length c7]) rfl rfl (by kernel_rfl) hb4 rfl (by simp [Value.cells, Value.oneCell']) rfl (fun w102 p103 => ?_)
      have p103z := p103.sz
      have hb104 := (p103.fr.at hb5 (by simp only [List.mem_singleton]; omega))
      refine l_store rfl rfl rfl (g := k8) (off := 0) (v := .int .i64 0) (arr := #[.int .i64 0]) rfl rfl (by kernel_rfl) hb104 rfl (by simp [Value.cells, Value.oneCell']) rfl (fun w105 p106 => ?_)
      have p106z := p106.sz
      have hb107 := (p106.fr.at (p103.fr.at hb6 (by simp only [List.mem_singleton]; omega)) (by simp only [List.mem_singleton]; omega))
      refine l_store rfl rfl rfl (g := k12) (off := 0) (v := .int .i64 0) (arr := #[.int .i64 0]) rfl rfl (by kernel_rfl) hb107 rfl (by simp [Value.cells, Value.oneCell']) rfl (fun w108 p109 => ?_)
      have p109z := p109.sz
      refine l_nil ?_
      refine n_then ?_
      refine wpIn_ret ?_
      refine end_retD (v := .tuple #[.slice A7 acc.length c7, .int .i64 0, .int .i64 0]) (p109.fr.at (p106.fr.at (p103.fr.at hDD (by simp; omega)) (by simp; omega)) (by simp; omega)) (fun w9 hf9 => ?_)
      have hE110 : Fr [] w w9 := (Fr.step (Fr.step (Fr.step (Fr.step hF2 p103.fr (by intro k_ hk_; simp only [List.mem_singleton] at hk_; omega)) p106.fr (by intro k_ hk_; simp only [List.mem_singleton] at hk_; omega)) p109.fr (by intro k_ hk_; simp only [List.mem_singleton] at hk_; omega)) hf9 (by intro k_ hk_; simp at hk_; omega))
      have hE110z := hE110.size
      have hb111 := (hf9.at (p109.fr.at (p106.fr.at p103.at_ (by simp only [List.mem_singleton]; omega)) (by simp only [List.mem_singleton]; omega)) (by simp; omega))
      have hb112 := (hf9.at (p109.fr.at p106.at_ (by simp only [List.mem_singleton]; omega)) (by simp; omega))
      have hb113 := (hf9.at p109.at_ (by simp; omega))
      refine ⟨resn3 (n := 44) rfl (rv_cell rfl Tryz.underlying37 rfl (cell_at hb111 rfl)) (rv_cell rfl Tryz.underlying3 rfl (cell_at hb112 rfl)) (rv_cell rfl Tryz.underlying23 rfl (cell_at hb113 rfl)), ⟨_, rfl, ?_⟩⟩
      have hd114 := ((((hO.fr p103.fr (by intro k_ hk_; rw [List.mem_singleton] at hk_; subst hk_; first | (left; simp; done) | (right; omega))).fr p106.fr (by intro k_ hk_; rw [List.mem_singleton] at hk_; subst hk_; first | (left; simp; done) | (right; omega))).fr p109.fr (by intro k_ hk_; rw [List.mem_singleton] at hk_; subst hk_; first | (left; simp; done) | (right; omega))).fr hf9 (by intro k_ hk_; rw [List.mem_singleton] at hk_; subst hk_; first | (left; simp; done) | (right; omega)))
      rw [hshort, hprs]
      exact ⟨_, rfl, OwnL.sl hd114, hE110⟩
    · intro W2 hX hDD
      obtain ⟨n5, hF2, hDs, hb4, hb5, hb6, hprs⟩ := hX
      have hF2z := hF2.size
      refine t_block ?_
      refine t_then ?_
      refine end_retD (v := .tuple #[.slice none 0 0, .int .i64 n5, .int .i64 5]) hDD (fun w9 hf9 => ?_)
      have hE115 : Fr [] w w9 := (Fr.step hF2 hf9 (by intro k_ hk_; simp at hk_; omega))
      have hE115z := hE115.size
      have hb116 := (hf9.at hb4 (by simp; omega))
      have hb117 := (hf9.at hb5 (by simp; omega))
      have hb118 := (hf9.at hb6 (by simp; omega))
      refine ⟨resn3 (n := 44) rfl (rv_cell rfl Tryz.underlying37 rfl (cell_at hb116 rfl)) (rv_cell rfl Tryz.underlying3 rfl (cell_at hb117 rfl)) (rv_cell rfl Tryz.underlying23 rfl (cell_at hb118 rfl)), ⟨_, rfl, ?_⟩⟩
      rw [hshort, hprs]
      exact ⟨_, rfl, Sl.nil _ _ _, hE115⟩

end Go.Proofs.YtmhljojgdfmjaaaGreatDoor
