/- walks -/
import Derived.Test.YtmhljojgdfmjaaaGreatDoorSh9
namespace Go.Proofs.YtmhljojgdfmjaaaGreatDoor
open Go.E
set_option linter.unusedVariables false
set_option linter.unusedSimpArgs false
set_option maxRecDepth 100000
set_option maxHeartbeats 1000000
open Go.Sh
/-- shell.event$2 -/
theorem evConn_calls (w : World) (hg : Glob w) (base q g e : Nat) (p : Ev × List UInt8) (hS : SInv base q g e (some p) w) (hd : q ≠ g ∧ q ≠ e ∧ g ≠ e ∧ 8 ≤ g ∧ 8 ≤ e) (hbw : base ≤ w.heap.size) :
    Does Tryz.prog 54 #[.pointer (some ⟨q, 0, none⟩), .pointer (some ⟨e, 0, none⟩)] w fun r w' => r = .tuple #[] ∧ Fr [g, e] w w' ∧ SInv base q g e (doConn p) w' := by
  obtain ⟨ev, s, bad, A, c, P, hq, hb, he, hB, hO, hnil, hfit, hsl, hsaid⟩ := hS
  simp only [Said] at hsaid
  obtain ⟨hbad, hev, hss⟩ := hsaid
  subst hbad
  have hp : p = (ev, s) := Prod.ext hev.symm hss.symm
  subst hp
  obtain ⟨⟨hk1, hk2⟩, ⟨ho1, ho2⟩, ⟨hn1, hn2⟩, hdl, hpl, hps⟩ := id hfit
  have hql := (Array.getElem?_eq_some_iff.1 hq).1
  have hgl := (Array.getElem?_eq_some_iff.1 hb).1
  have hel := (Array.getElem?_eq_some_iff.1 he).1
  have hgz := hg.sz
  refine Does.of (fn_in (l := [.pointer (some ⟨q, 0, none⟩), .pointer (some ⟨e, 0, none⟩)]) Tryz.func54 rfl Tryz.ntmps54 rfl ?_)
  refine r_start ?_
  refine l_v (v := .pointer (some ⟨g, 0, none⟩)) rfl rfl (r_load rfl rfl Tryz.underlying90 rfl (cell_at hq rfl)) ?_
  refine l_call rfl rfl (r_call (args := #[.pointer (some ⟨g, 0, none⟩)]) rfl e43 (am rfl)) (number_calls w hg g s false (by omega) hb (by omega)) (fun v2 w3 h1 => ?_)
  obtain ⟨h1x, rfl, h1i, h1v, h1f, h1b⟩ := h1
  have h1z := h1f.size
  obtain ⟨h1i1, h1i2⟩ := id h1i
  have hl4 := plainW_len s
  have hl5 := plainR_len s
  refine l_v (v := .pointer (some ⟨e, 1, none⟩)) rfl rfl (r_field rfl rfl Tryz.underlying66 rfl (by kernel_rfl) rfl) ?_
  have hb6 := (h1f.at he (by simp only [List.mem_singleton]; omega))
  refine l_store rfl rfl rfl (g := e) (off := 1) (v := .int .i64 h1x) (arr := #[.int .i64 ev.kind, .int .i64 h1x, .int .i64 ev.n, .slice A ev.data.length c, P]) rfl rfl (by kernel_rfl) hb6 rfl (by simp [Value.cells, Value.oneCell']) rfl (fun w7 p8 => ?_)
  have p8z := p8.sz
  refine l_nil ?_
  have hE9 : Fr [g, e] w w7 := (((Fr.refl [g, e] w).trans (h1f.mono (by intro k_ hk_ _; simp only [List.mem_cons, List.not_mem_nil, or_false] at hk_ ⊢; simp [hk_]))).trans (p8.fr.mono (by intro k_ hk_ _; simp only [List.mem_cons, List.not_mem_nil, or_false] at hk_ ⊢; simp [hk_])))
  have hE9z := hE9.size
  have hb10 := (p8.fr.at (h1f.at hq (by simp only [List.mem_singleton]; omega)) (by simp only [List.mem_singleton]; omega))
  have hb11 := (p8.fr.at h1b (by simp only [List.mem_singleton]; omega))
  exact end_norm (v := .tuple #[]) (res0 rfl) ⟨_, rfl, ⟨rfl, hE9, ⟨({ ev with conn := h1x } : Ev), (plainR s), (false || (atoiOk (plainW s)).isNone), A, c, P, hb10, hb11, p8.at_, (hB.fr hE9 (fun b hb_ hm => hb_.2 (List.mem_cons_of_mem _ hm))), (hO.fr hE9 (fun k hk => .inl (List.mem_cons_of_mem _ hk))), hnil, ⟨⟨hk1, hk2⟩, h1i, ⟨hn1, hn2⟩, hdl, hpl, hps⟩, by omega, (by rcases num_ok h1v with hn_ | hn_ <;> simp [doConn, Said, hn_])⟩⟩⟩

/-- shell.event$3 -/
theorem evNum_calls (w : World) (hg : Glob w) (base q g e : Nat) (p : Ev × List UInt8) (hS : SInv base q g e (some p) w) (hd : q ≠ g ∧ q ≠ e ∧ g ≠ e ∧ 8 ≤ g ∧ 8 ≤ e) (hbw : base ≤ w.heap.size) :
    Does Tryz.prog 55 #[.pointer (some ⟨q, 0, none⟩), .pointer (some ⟨e, 0, none⟩)] w fun r w' => r = .tuple #[] ∧ Fr [g, e] w w' ∧ SInv base q g e (doNum p) w' := by
  obtain ⟨ev, s, bad, A, c, P, hq, hb, he, hB, hO, hnil, hfit, hsl, hsaid⟩ := hS
  simp only [Said] at hsaid
  obtain ⟨hbad, hev, hss⟩ := hsaid
  subst hbad
  have hp : p = (ev, s) := Prod.ext hev.symm hss.symm
  subst hp
  obtain ⟨⟨hk1, hk2⟩, ⟨ho1, ho2⟩, ⟨hn1, hn2⟩, hdl, hpl, hps⟩ := id hfit
  have hql := (Array.getElem?_eq_some_iff.1 hq).1
  have hgl := (Array.getElem?_eq_some_iff.1 hb).1
  have hel := (Array.getElem?_eq_some_iff.1 he).1
  have hgz := hg.sz
  refine Does.of (fn_in (l := [.pointer (some ⟨q, 0, none⟩), .pointer (some ⟨e, 0, none⟩)]) Tryz.func55 rfl Tryz.ntmps55 rfl ?_)
  refine r_start ?_
  refine l_v (v := .pointer (some ⟨g, 0, none⟩)) rfl rfl (r_load rfl rfl Tryz.underlying90 rfl (cell_at hq rfl)) ?_
  refine l_call rfl rfl (r_call (args := #[.pointer (some ⟨g, 0, none⟩)]) rfl e43 (am rfl)) (number_calls w hg g s false (by omega) hb (by omega)) (fun v2 w3 h1 => ?_)
  obtain ⟨h1x, rfl, h1i, h1v, h1f, h1b⟩ := h1
  have h1z := h1f.size
  obtain ⟨h1i1, h1i2⟩ := id h1i
  have hl4 := plainW_len s
  have hl5 := plainR_len s
  refine l_v (v := .pointer (some ⟨e, 2, none⟩)) rfl rfl (r_field rfl rfl Tryz.underlying66 rfl (by kernel_rfl) rfl) ?_
  have hb6 := (h1f.at he (by simp only [List.mem_singleton]; omega))
  refine l_store rfl rfl rfl (g := e) (off := 2) (v := .int .i64 h1x) (arr := #[.int .i64 ev.kind, .int .i64 ev.conn, .int .i64 h1x, .slice A ev.data.length c, P]) rfl rfl (by kernel_rfl) hb6 rfl (by simp [Value.cells, Value.oneCell']) rfl (fun w7 p8 => ?_)
  have p8z := p8.sz
  refine l_nil ?_
  have hE9 : Fr [g, e] w w7 := (((Fr.refl [g, e] w).trans (h1f.mono (by intro k_ hk_ _; simp only [List.mem_cons, List.not_mem_nil, or_false] at hk_ ⊢; simp [hk_]))).trans (p8.fr.mono (by intro k_ hk_ _; simp only [List.mem_cons, List.not_mem_nil, or_false] at hk_ ⊢; simp [hk_])))
  have hE9z := hE9.size
  have hb10 := (p8.fr.at (h1f.at hq (by simp only [List.mem_singleton]; omega)) (by simp only [List.mem_singleton]; omega))
  have hb11 := (p8.fr.at h1b (by simp only [List.mem_singleton]; omega))
  exact end_norm (v := .tuple #[]) (res0 rfl) ⟨_, rfl, ⟨rfl, hE9, ⟨({ ev with n := h1x } : Ev), (plainR s), (false || (atoiOk (plainW s)).isNone), A, c, P, hb10, hb11, p8.at_, (hB.fr hE9 (fun b hb_ hm => hb_.2 (List.mem_cons_of_mem _ hm))), (hO.fr hE9 (fun k hk => .inl (List.mem_cons_of_mem _ hk))), hnil, ⟨⟨hk1, hk2⟩, ⟨ho1, ho2⟩, h1i, hdl, hpl, hps⟩, by omega, (by rcases num_ok h1v with hn_ | hn_ <;> simp [doNum, Said, hn_])⟩⟩⟩

/-- shell.event$4 -/
theorem evData_calls (w : World) (hg : Glob w) (base q g e : Nat) (p : Ev × List UInt8) (hS : SInv base q g e (some p) w) (hd : q ≠ g ∧ q ≠ e ∧ g ≠ e ∧ 8 ≤ g ∧ 8 ≤ e) (hbw : base ≤ w.heap.size) :
    Does Tryz.prog 56 #[.pointer (some ⟨q, 0, none⟩), .pointer (some ⟨e, 0, none⟩)] w fun r w' => r = .tuple #[] ∧ Fr [g, e] w w' ∧ SInv base q g e (doData p) w' := by
  obtain ⟨ev, s, bad, A, c, P, hq, hb, he, hB, hO, hnil, hfit, hsl, hsaid⟩ := hS
  simp only [Said] at hsaid
  obtain ⟨hbad, hev, hss⟩ := hsaid
  subst hbad
  have hp : p = (ev, s) := Prod.ext hev.symm hss.symm
  subst hp
  obtain ⟨⟨hk1, hk2⟩, ⟨ho1, ho2⟩, ⟨hn1, hn2⟩, hdl, hpl, hps⟩ := id hfit
  have hql := (Array.getElem?_eq_some_iff.1 hq).1
  have hgl := (Array.getElem?_eq_some_iff.1 hb).1
  have hel := (Array.getElem?_eq_some_iff.1 he).1
  have hgz := hg.sz
  refine Does.of (fn_in (l := [.pointer (some ⟨q, 0, none⟩), .pointer (some ⟨e, 0, none⟩)]) Tryz.func56 rfl Tryz.ntmps56 rfl ?_)
  refine r_start ?_
  refine l_v (v := .pointer (some ⟨g, 0, none⟩)) rfl rfl (r_load rfl rfl Tryz.underlying90 rfl (cell_at hq rfl)) ?_
  refine l_call rfl rfl (r_call (args := #[.pointer (some ⟨g, 0, none⟩)]) rfl e44 (am rfl)) (word_calls w hg g s false (by omega) hb (by omega)) (fun v2 w3 h1 => ?_)
  obtain ⟨h1B, h1f, h1b⟩ := h1
  have h1z := h1f.size
  obtain ⟨h1A, h1c, rfl, h1l, h1E⟩ := id h1B
  have h1u := unqR_len s
  have h1t := trim_len (unqR s).2.1
  have hl4 := plainW_len s
  have hl5 := plainR_len s
  refine l_v (v := .pointer (some ⟨e, 3, none⟩)) rfl rfl (r_field rfl rfl Tryz.underlying66 rfl (by kernel_rfl) rfl) ?_
  have hb6 := (h1f.at he (by simp only [List.mem_singleton]; omega))
  refine l_store rfl rfl rfl (g := e) (off := 3) (v := .slice h1A ((unqR s).1.length) h1c) (arr := #[.int .i64 ev.kind, .int .i64 ev.conn, .int .i64 ev.n, .slice h1A ((unqR s).1.length) h1c, P]) rfl rfl (by kernel_rfl) hb6 rfl (by simp [Value.cells, Value.oneCell']) rfl (fun w7 p8 => ?_)
  have p8z := p8.sz
  refine l_nil ?_
  have hE9 : Fr [g, e] w w7 := (((Fr.refl [g, e] w).trans (h1f.mono (by intro k_ hk_ _; simp only [List.mem_cons, List.not_mem_nil, or_false] at hk_ ⊢; simp [hk_]))).trans (p8.fr.mono (by intro k_ hk_ _; simp only [List.mem_cons, List.not_mem_nil, or_false] at hk_ ⊢; simp [hk_])))
  have hE9z := hE9.size
  have hd10 := (h1B.fr p8.fr (by intro g_ hg_; have hg2_ : w.heap.size ≤ g_ := hg_; simp only [List.mem_singleton]; omega))
  have hb11 := (p8.fr.at (h1f.at hq (by simp only [List.mem_singleton]; omega)) (by simp only [List.mem_singleton]; omega))
  have hb12 := (p8.fr.at h1b (by simp only [List.mem_singleton]; omega))
  exact end_norm (v := .tuple #[]) (res0 rfl) ⟨_, rfl, ⟨rfl, hE9, ⟨({ ev with data := (unqR s).1 } : Ev), (Lib.trimPrefix (unqR s).2.1 [32]), (false || !(unqR s).2.2), h1A, h1c, P, hb11, hb12, p8.at_, (Sl.weak hd10 (fun b _ hb_ => by have hb2_ : w.heap.size ≤ b := hb_; refine ⟨by omega, ?_⟩; simp only [List.mem_cons, List.not_mem_nil, or_false]; omega)), (hO.fr hE9 (fun k hk => .inl (List.mem_cons_of_mem _ hk))), hnil, ⟨⟨hk1, hk2⟩, ⟨ho1, ho2⟩, ⟨hn1, hn2⟩, (by have := (unqR_len s).1; show (unqR s).1.length ≤ _; omega), hpl, hps⟩, by omega, (by unfold doData Said; cases hu_ : (unqR s).2.2 <;> simp [hu_])⟩⟩⟩

end Go.Proofs.YtmhljojgdfmjaaaGreatDoor
