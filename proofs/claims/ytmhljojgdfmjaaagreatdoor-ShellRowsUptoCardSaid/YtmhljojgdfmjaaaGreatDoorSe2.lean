/- walks -/
import Derived.Test.YtmhljojgdfmjaaaGreatDoorSh9
import Derived.Test.YtmhljojgdfmjaaaGreatDoorSe1
namespace Go.Proofs.YtmhljojgdfmjaaaGreatDoor
open Go.E
set_option linter.unusedVariables false
set_option linter.unusedSimpArgs false
set_option maxRecDepth 100000
set_option maxHeartbeats 1000000
open Go.Sh
/-- shell.event$5 -/
theorem evPicks_calls (w : World) (hg : Glob w) (base q g e : Nat) (p : Ev × List UInt8) (hS : SInv base q g e (some p) w) (hd : q ≠ g ∧ q ≠ e ∧ g ≠ e ∧ 8 ≤ g ∧ 8 ≤ e) (hbw : base ≤ w.heap.size) (hp0 : p.1.picks = []) :
    Does Tryz.prog 57 #[.pointer (some ⟨q, 0, none⟩), .pointer (some ⟨e, 0, none⟩)] w fun r w' => r = .tuple #[] ∧ Fr [g, e] w w' ∧ SInv base q g e (doPicks p) w' := by
  obtain ⟨ev, s, bad, A, c, P, hq, hb, he, hB, hO, hnil, hfit, hsl, hsaid⟩ := hS
  simp only [Said] at hsaid
  obtain ⟨hbad, hev, hss⟩ := hsaid
  subst hbad
  have hp : p = (ev, s) := Prod.ext hev.symm hss.symm
  subst hp
  obtain ⟨⟨hk1, hk2⟩, ⟨ho1, ho2⟩, ⟨hn1, hn2⟩, hdl, hpl, hps⟩ := id hfit
  have hql := (Array.getElem?_eq_some_iff.1 hq).1
  have hgl := (Array.getElem?_eq_some_iff.1 hb).1
  have hel := (Array.getElem?_eq_some_iff.1 he).1
  have hgz := hg.sz
  simp only at hp0
  have hO0 : OwnL (Rp.int .u16) w.heap.size 67 [q, g, e] w P ev.picks := by rw [hnil hp0, hp0]; exact OwnL.nil _ _ _ _ _
  refine Does.of (fn_in (l := [.pointer (some ⟨q, 0, none⟩), .pointer (some ⟨e, 0, none⟩)]) Tryz.func57 rfl Tryz.ntmps57 rfl ?_)
  refine wp_block ?_
  refine c_loop (fun m_ a_ w_ => ∃ u_ : Nat → Value, ∃ s1 : List UInt8, ∃ bad1 : Bool, ∃ P1 : Value, ∃ l1 : List Int, a_ = mk [] 39 u_ [(0, .pointer (some ⟨q, 0, none⟩)), (1, .pointer (some ⟨e, 0, none⟩))] ∧ m_ = s1.length ∧ Fr [g, e] w w_ ∧ (w_.heap[q]? = some (.cells #[.pointer (some ⟨g, 0, none⟩)] 90 (0, 0))) ∧ (Rd w_ g s1 bad1) ∧ (w_.heap[e]? = some (.cells #[.int .i64 ev.kind, .int .i64 ev.conn, .int .i64 ev.n, .slice A ev.data.length c, P1] 66 (0, 0))) ∧ (OwnL (Rp.int .u16) w.heap.size 67 [q, g, e] w_ P1 l1) ∧ (l1 = [] → P1 = .slice none 0 0) ∧ (l1.length + s1.length ≤ s.length) ∧ (∀ p ∈ l1, 0 ≤ p ∧ p ≤ 65535) ∧ (PkSaid s s1 bad1 l1)) (s.length) ⟨_, s, false, P, ev.picks, mk_eq (by kernel_rfl), rfl, (Fr.refl [g, e] w), hq, hb, he, hO0, fun _ => hnil hp0, by rw [hp0]; simp, by rw [hp0]; simp, by rw [hp0]; exact pk_start s⟩ ?_
  rintro m3 _ wr1 ⟨u_, s1, bad1, P1, l1, rfl, hm4, hE5, hq1, hb1, he1, hO1, hnl1, hl1, hps1, hsd1⟩ K_ hK2
  have hE5z := hE5.size
  have hpl1 := plainR_len s1
  refine wp_seq ?_
  refine wp_seq ?_
  refine r_start ?_
  refine l_v (v := .pointer (some ⟨g, 0, none⟩)) rfl rfl (r_load rfl rfl Tryz.underlying90 rfl (cell_at hq1 rfl)) ?_
  refine l_v (v := .pointer (some ⟨g, 0, none⟩)) rfl rfl (by kernel_rfl) ?_
  refine l_v (v := .pointer (some ⟨g, 0, none⟩)) rfl rfl (r_field rfl rfl Tryz.underlying92 rfl (by kernel_rfl) rfl) ?_
  refine l_v (v := .string ⟨(s1).toArray⟩) rfl rfl (r_load rfl rfl Tryz.underlying9 rfl (cell_at hb1 rfl)) ?_
  refine l_v (v := .bool ((!decide (s1 = ([] : List UInt8))))) rfl rfl (r_str_neq rfl rfl rfl) ?_
  refine l_v (v := .bool ((!decide (s1 = ([] : List UInt8))))) rfl rfl (by kernel_rfl) ?_
  refine l_g (v := .pointer (some ⟨g, 0, none⟩)) (want_1 rfl rfl rfl rfl) rfl (fun hW_ => (r_load rfl rfl Tryz.underlying90 rfl (cell_at hq1 rfl))) ?_
  refine l_g (v := .pointer (some ⟨g, 0, none⟩)) (want_1 rfl rfl rfl rfl) rfl (fun hW_ => (r_nil rfl (gd_true hW_ _))) ?_
  refine l_g (v := .pointer (some ⟨g, 1, none⟩)) (want_1 rfl rfl rfl rfl) rfl (fun hW_ => (r_field rfl (gd_true hW_ _) Tryz.underlying92 rfl (by kernel_rfl) rfl)) ?_
  refine l_g (v := .bool bad1) (want_1 rfl rfl rfl rfl) rfl (fun hW_ => (r_load rfl (gd_true hW_ _) Tryz.underlying4 rfl (cell_at hb1 rfl))) ?_
  refine l_g (v := .bool (!bad1)) (want_1 rfl rfl rfl rfl) rfl (fun hW_ => (r_not rfl (gd_true hW_ _))) ?_
  refine l_v (v := .bool ((((!decide (s1 = ([] : List UInt8)))) && (!bad1)))) rfl rfl (r_pick rfl rfl (pick_and _ _)) ?_
  refine l_nil ?_
  refine n_then ?_
  refine c_cond (e := (((!decide (s1 = ([] : List UInt8)))) && (!bad1))) rfl (fun hc6 => ?_) (fun hc6 => ?_)
  · simp only [Bool.and_eq_true, Bool.not_eq_true', decide_eq_true_eq, decide_eq_false_iff_not] at hc6
    obtain ⟨hs1, hbad1⟩ := hc6
    subst hbad1
    have hlt1 := plainR_lt hs1
    refine wp_skip ?_
    refine n_then ?_
    refine wp_block ?_
    refine wp_seq ?_
    refine r_start ?_
    refine l_v (v := .pointer (some ⟨g, 0, none⟩)) rfl rfl (r_load rfl rfl Tryz.underlying90 rfl (cell_at hq1 rfl)) ?_
    have hd7 := hg.fr hE5 (by intro k_ hk_; simp only [List.mem_cons, List.not_mem_nil, or_false] at hk_; omega)
    refine l_call rfl rfl (r_call (args := #[.pointer (some ⟨g, 0, none⟩)]) rfl e43 (am rfl)) (number_calls wr1 hd7 g s1 false (by omega) hb1 (by omega)) (fun v9 w10 h8 => ?_)
    obtain ⟨h8x, rfl, h8i, h8v, h8f, h8b⟩ := h8
    have h8z := h8f.size
    obtain ⟨h8i1, h8i2⟩ := id h8i
    have hl11 := plainW_len s1
    have hl12 := plainR_len s1
    refine l_v (v := .int .i64 h8x) rfl rfl (by kernel_rfl) ?_
    refine l_nil ?_
    refine n_then ?_
    refine wp_seq ?_
    have hE17 : Fr [g, e] w w10 := (hE5.trans (h8f.mono (by intro k_ hk_ _; simp only [List.mem_cons, List.not_mem_nil, or_false] at hk_ ⊢; simp [hk_])))
    have hE17z := hE17.size
    refine h_start' (fun w0_ w_ => Fr [g] w0_ w_) hmix (fun _ _ _ _ _ h => h) (fun w13 f14 hQ16 => ?_)
    have f14z := f14.size
    have hb18 := (f14.at0 (h8f.at hq1 (by simp only [List.mem_singleton]; omega)))
    refine h_take (i := 0) (v := .pointer (some ⟨g, 0, none⟩)) rfl (by kernel_rfl) (by kernel_rfl) (by kernel_rfl) hQ16 rfl rfl (fun w_ hS_ => (r_load rfl rfl Tryz.underlying90 rfl (cell_at (hS_.at hb18 (by simp; omega)) rfl))) (Fr.refl [g] w13) ?_
    refine h_take (i := 1) (v := .pointer (some ⟨g, 0, none⟩)) rfl (by kernel_rfl) (by kernel_rfl) (by kernel_rfl) hQ16 rfl rfl (fun w_ hS_ => (r_load rfl rfl Tryz.underlying90 rfl (cell_at (hS_.at hb18 (by simp; omega)) rfl))) (Fr.refl [g] w13) ?_
    refine h_take (i := 2) (v := .pointer (some ⟨g, 0, none⟩)) rfl (by kernel_rfl) (by kernel_rfl) (by kernel_rfl) hQ16 rfl rfl (fun w_ hS_ => (by kernel_rfl)) (Fr.refl [g] w13) ?_
    refine h_take (i := 3) (v := .pointer (some ⟨g, 1, none⟩)) rfl (by kernel_rfl) (by kernel_rfl) (by kernel_rfl) hQ16 rfl rfl (fun w_ hS_ => (r_field rfl rfl Tryz.underlying92 rfl (by kernel_rfl) rfl)) (Fr.refl [g] w13) ?_
    have hb19 := (f14.at0 h8b)
    refine h_val (i := 4) (by kernel_rfl) rfl rfl rfl (v := .bool (false || (atoiOk (plainW s1)).isNone)) (r_load rfl rfl Tryz.underlying4 rfl (cell_at hb19 rfl)) (Fr.refl [g] w13) ?_
    refine h_take (i := 5) (v := .bool (false || (atoiOk (plainW s1)).isNone)) rfl (by kernel_rfl) (by kernel_rfl) (by kernel_rfl) hQ16 rfl rfl (fun w_ hS_ => (by kernel_rfl)) (Fr.refl [g] w13) ?_
    refine h_takeg (i := 6) (v := .int .i64 h8x) rfl (by kernel_rfl) (by kernel_rfl) (by kernel_rfl) hQ16 (want_1 rfl rfl rfl rfl) rfl (fun hW_ w_ hS_ => (by kernel_rfl)) (Fr.refl [g] w13) ?_
    refine h_takeg (i := 7) (v := .bool (decide (h8x < (0 : Int)))) rfl (by kernel_rfl) (by kernel_rfl) (by kernel_rfl) hQ16 (want_1 rfl rfl rfl rfl) rfl (fun hW_ w_ hS_ => (r_cmp rfl (gd_true hW_ _) rfl rfl)) (Fr.refl [g] w13) ?_
    refine h_take (i := 8) (v := .bool (((false || (atoiOk (plainW s1)).isNone) || (decide (h8x < (0 : Int)))))) rfl (by kernel_rfl) (by kernel_rfl) (by kernel_rfl) hQ16 rfl rfl (fun w_ hS_ => (r_pick rfl rfl (pick_or _ _))) (Fr.refl [g] w13) ?_
    refine h_take (i := 9) (v := .bool (((false || (atoiOk (plainW s1)).isNone) || (decide (h8x < (0 : Int)))))) rfl (by kernel_rfl) (by kernel_rfl) (by kernel_rfl) hQ16 rfl rfl (fun w_ hS_ => (by kernel_rfl)) (Fr.refl [g] w13) ?_
    refine h_takeg (i := 10) (v := .int .i64 h8x) rfl (by kernel_rfl) (by kernel_rfl) (by kernel_rfl) hQ16 (want_1 rfl rfl rfl rfl) rfl (fun hW_ w_ hS_ => (by kernel_rfl)) (Fr.refl [g] w13) ?_
    refine h_takeg (i := 11) (v := .bool (decide (h8x > (65535 : Int)))) rfl (by kernel_rfl) (by kernel_rfl) (by kernel_rfl) hQ16 (want_1 rfl rfl rfl rfl) rfl (fun hW_ w_ hS_ => (r_cmp rfl (gd_true hW_ _) rfl rfl)) (Fr.refl [g] w13) ?_
    refine h_take (i := 12) (v := .bool (((((false || (atoiOk (plainW s1)).isNone) || (decide (h8x < (0 : Int))))) || (decide (h8x > (65535 : Int)))))) rfl (by kernel_rfl) (by kernel_rfl) (by kernel_rfl) hQ16 rfl rfl (fun w_ hS_ => (r_pick rfl rfl (pick_or _ _))) (Fr.refl [g] w13) ?_
    refine h_take (i := 13) (v := .pointer (some ⟨g, 0, none⟩)) rfl (by kernel_rfl) (by kernel_rfl) (by kernel_rfl) hQ16 rfl rfl (fun w_ hS_ => (by kernel_rfl)) (Fr.refl [g] w13) ?_
    refine h_take (i := 14) (v := .pointer (some ⟨g, 1, none⟩)) rfl (by kernel_rfl) (by kernel_rfl) (by kernel_rfl) hQ16 rfl rfl (fun w_ hS_ => (r_field rfl rfl Tryz.underlying92 rfl (by kernel_rfl) rfl)) (Fr.refl [g] w13) ?_
    refine h_store (i := 15) (by kernel_rfl) rfl rfl rfl rfl (g := g) (off := 1) (v := .bool (((((false || (atoiOk (plainW s1)).isNone) || (decide (h8x < (0 : Int))))) || (decide (h8x > (65535 : Int)))))) (arr := #[.string ⟨(plainR s1).toArray⟩, .bool (((((false || (atoiOk (plainW s1)).isNone) || (decide (h8x < (0 : Int))))) || (decide (h8x > (65535 : Int)))))]) rfl rfl (by kernel_rfl) hb19 rfl (by simp [Value.cells, Value.oneCell']) rfl (fun w20 p21 => ⟨(Fr.refl [g] w13).trans (p21.fr.mono (by simp)), ?_⟩)
    have p21z := p21.sz
    refine wpAnyH_done (by kernel_rfl) ?_ _
    refine n_then ?_
    refine r_start ?_
    refine l_v (v := .pointer (some ⟨e, 4, none⟩)) rfl rfl (r_field rfl rfl Tryz.underlying66 rfl (by kernel_rfl) rfl) ?_
    have hb22 := (p21.fr.at (f14.at0 (h8f.at he1 (by simp only [List.mem_singleton]; omega))) (by simp only [List.mem_singleton]; omega))
    refine l_v (v := P1) rfl rfl (r_load rfl rfl Tryz.underlying64 rfl (cell_at hb22 rfl)) ?_
    refine l_v (v := .int .i64 h8x) rfl rfl (by kernel_rfl) ?_
    refine l_v (v := .int .u16 (h8x % 65536)) rfl rfl (r_conv_u16 rfl rfl Tryz.underlying3 Tryz.underlying67) ?_
    refine l_new (fun k_ => .slice (some ⟨k_, 0, none⟩) 1 1) rfl rfl (by kernel_rfl) (ob := .cells #[.int .u16 (h8x % 65536)] 67) (fun k23 w24 n25 => ?_)
    have hE26 : Fr [g, e] w w20 := ((hE17.trans f14.any).trans (p21.fr.mono (by intro k_ hk_ _; simp only [List.mem_cons, List.not_mem_nil, or_false] at hk_ ⊢; simp [hk_])))
    have hE26z := hE26.size
    have n25k := n25.hk; have n25z := n25.sz
    have hd27 := ((((hO1.fr h8f (by intro k_ hk_; simp only [List.mem_singleton] at hk_; subst hk_; left; simp)).fr0 f14).fr p21.fr (by intro k_ hk_; simp only [List.mem_singleton] at hk_; subst hk_; left; simp)).fr0 n25.fr)
    have hOB : ∀ g_, P1.ownBlock = some g_ → g_ ∉ [q, g, e] := by obtain ⟨_, _, _, _, h_⟩ := hd27; exact h_
    obtain ⟨css, hown, hnext⟩ := OwnL.own hd27
    have hE28 : Fr [g, e] w w24 := (hE26.trans n25.fr.any)
    have hE28z := hE28.size
    refine l_append (v := P1) (base := w.heap.size) (news := [.int .u16 (h8x % 65536)]) sl64 rfl rfl rfl rfl hown rfl rfl (range_at n25.at_ rfl) (by simp [Value.oneCell']) (by omega) (by decide) (by omega) (fun v29 w30 a31 => ?_)
    have a31z := a31.fr.size
    have hO2 := hnext _ (h8x % 65536) _ _ a31 ⟨rfl, by simp only [min_u16]; omega, by simp only [max_u16]; omega⟩ (by intro k_ hk_; simp only [List.mem_cons, List.not_mem_nil, or_false] at hk_; omega)
    have hform2 := OwnL.form hO2
    obtain ⟨A8, c8, rfl⟩ := hform2
    refine l_v (v := .pointer (some ⟨e, 4, none⟩)) rfl rfl (r_field rfl rfl Tryz.underlying66 rfl (by kernel_rfl) rfl) ?_
    have hb32 := (a31.fr.at (n25.fr.at0 hb22) (by intro hk_; exact hOB e (by simpa using hk_) (by simp)))
    refine l_store rfl rfl rfl (g := e) (off := 4) (v := .slice A8 ((l1 ++ [h8x % 65536]).length) c8) (arr := #[.int .i64 ev.kind, .int .i64 ev.conn, .int .i64 ev.n, .slice A ev.data.length c, .slice A8 ((l1 ++ [h8x % 65536]).length) c8]) rfl rfl (by kernel_rfl) hb32 rfl (by simp [Value.cells, Value.oneCell']) rfl (fun w33 p34 => ?_)
    have p34z := p34.sz
    refine l_nil ?_
    refine n_block ?_
    refine n_then ?_
    have hb35 := (p34.fr.at (a31.fr.at (n25.fr.at0 p21.at_) (by intro hk_; exact hOB g (by simpa using hk_) (by simp))) (by simp only [List.mem_singleton]; omega))
    have hb36 := (p34.fr.at (a31.fr.at (n25.fr.at0 (p21.fr.at hb18 (by simp only [List.mem_singleton]; omega))) (by intro hk_; exact hOB q (by simpa using hk_) (by simp))) (by simp only [List.mem_singleton]; omega))
    have hd37 := (hO2.fr p34.fr (by intro k_ hk_; simp only [List.mem_singleton] at hk_; subst hk_; left; simp))
    have hE38 : Fr [g, e] w w33 := ((Fr.stepM hE28 a31.fr (own_ge hown (by omega))).trans (p34.fr.mono (by intro k_ hk_ _; simp only [List.mem_cons, List.not_mem_nil, or_false] at hk_ ⊢; simp [hk_])))
    have hE38z := hE38.size
    exact hK2 _ _ _ (by omega) ⟨_, (plainR s1), (((((false || (atoiOk (plainW s1)).isNone) || (decide (h8x < (0 : Int))))) || (decide (h8x > (65535 : Int))))), .slice A8 ((l1 ++ [h8x % 65536]).length) c8, (l1 ++ [h8x % 65536]), mk_eq (by kernel_rfl), rfl, hE38, hb36, hb35, p34.at_, hd37, (by simp), (by simp only [List.length_append, List.length_cons, List.length_nil]; omega), (by intro p_ hp_; rcases List.mem_append.1 hp_ with h_ | h_; exact hps1 p_ h_; rw [List.mem_singleton] at h_; omega), (by simpa using pk_step hsd1 hs1 h8v)⟩
  · refine wp_exit ?_
    refine e_then ?_
    refine e_then ?_
    refine e_hit ?_
    have hz_ : bad1 = false → s1 = [] := by
      intro hb_
      rw [hb_] at hc6
      simpa using hc6
    have hfin := pk_end hsd1 (by cases hb_ : bad1 with | true => exact .inr rfl | false => exact .inl (hz_ hb_))
    exact end_norm (v := .tuple #[]) (res0 rfl) ⟨_, rfl, ⟨rfl, hE5, ⟨({ ev with picks := l1 } : Ev), s1, bad1, A, c, P1, hq1, hb1, he1, (hB.fr hE5 (fun b hb_ hm => hb_.2 (List.mem_cons_of_mem _ hm))), (hO1.low hbw), hnl1, ⟨⟨hk1, hk2⟩, ⟨ho1, ho2⟩, ⟨hn1, hn2⟩, hdl, (by show l1.length ≤ _; omega), hps1⟩, by omega, (by unfold doPicks; rw [hfin]; clear hsd1 hfin hb1 hc6; revert hz_; cases bad1 <;> simp [Said])⟩⟩⟩

end Go.Proofs.YtmhljojgdfmjaaaGreatDoor
