/- walks -/
import Derived.Test.YtmhljojgdfmjaaaGreatDoorSh9
import Derived.Test.YtmhljojgdfmjaaaGreatDoorSe2
namespace Go.Proofs.YtmhljojgdfmjaaaGreatDoor
open Go.E
set_option linter.unusedVariables false
set_option linter.unusedSimpArgs false
set_option maxRecDepth 100000
set_option maxHeartbeats 1000000
open Go.Sh
/-- shell.event: reads -/
theorem evReads_calls (w : World) (base q g e : Nat) (o : Option (Ev × List UInt8)) (hS : SInv base q g e o w) (f : Ev × List UInt8 → Option (Ev × List UInt8)) (j zb : Nat) (zs : List Int) (ej : Enters Tryz.prog j) (hn : zs.length ≤ 1000) (hz : ∀ i, i < zs.length → w.cell? ⟨zb, 0 + i, none⟩ = some (.int .i64 (zs.getD i 0)))
    (hc : ∀ p, o = some p → zs.contains p.1.kind = true → Does Tryz.prog j #[.pointer (some ⟨q, 0, none⟩), .pointer (some ⟨e, 0, none⟩)] w fun r w' => r = .tuple #[] ∧ Fr [g, e] w w' ∧ SInv base q g e (f p) w') :
    Does Tryz.prog 52 #[.func (.func j) #[] #[.pointer (some ⟨q, 0, none⟩), .pointer (some ⟨e, 0, none⟩)], .slice (some ⟨zb, 0, none⟩) zs.length zs.length, .pointer (some ⟨q, 0, none⟩), .pointer (some ⟨e, 0, none⟩)] w fun r w' => r = .tuple #[] ∧ Fr [g, e] w w' ∧ SInv base q g e (reads zs f o) w' := by
  have hS0 := hS
  obtain ⟨ev, s, bad, A, c, P, hq, hb, he, hB, hO, hnil, hfit, hsl, hsaid⟩ := hS
  have hql := (Array.getElem?_eq_some_iff.1 hq).1
  refine Does.of (fn_in (l := [.func (.func j) #[] #[.pointer (some ⟨q, 0, none⟩), .pointer (some ⟨e, 0, none⟩)], .slice (some ⟨zb, 0, none⟩) zs.length zs.length, .pointer (some ⟨q, 0, none⟩), .pointer (some ⟨e, 0, none⟩)]) Tryz.func52 rfl Tryz.ntmps52 rfl ?_)
  refine wp_seq ?_
  refine r_start ?_
  refine l_v (v := .pointer (some ⟨g, 0, none⟩)) rfl rfl (r_load rfl rfl Tryz.underlying90 rfl (cell_at hq rfl)) ?_
  refine l_v (v := .pointer (some ⟨g, 0, none⟩)) rfl rfl (by kernel_rfl) ?_
  refine l_v (v := .pointer (some ⟨g, 1, none⟩)) rfl rfl (r_field rfl rfl Tryz.underlying92 rfl (by kernel_rfl) rfl) ?_
  refine l_v (v := .bool bad) rfl rfl (r_load rfl rfl Tryz.underlying4 rfl (cell_at hb rfl)) ?_
  refine l_v (v := .bool (!bad)) rfl rfl (by kernel_rfl) ?_
  refine l_v (v := .bool (!bad)) rfl rfl (by kernel_rfl) ?_
  refine l_g (v := .slice (some ⟨zb, 0, none⟩) zs.length zs.length) (want_1 rfl rfl rfl rfl) rfl (fun hW_ => (by kernel_rfl)) ?_
  refine l_g (v := .pointer (some ⟨e, 0, none⟩)) (want_1 rfl rfl rfl rfl) rfl (fun hW_ => (r_field rfl rfl Tryz.underlying66 rfl (by kernel_rfl) rfl)) ?_
  refine l_g (v := .int .i64 ev.kind) (want_1 rfl rfl rfl rfl) rfl (fun hW_ => (r_load rfl (gd_true hW_ _) Tryz.underlying3 rfl (cell_at he rfl))) ?_
  refine l_callg (W := ((!bad) == true)) (R := fun r_ w_ => r_ = .bool (zs.contains ev.kind) ∧ w_ = w) (want_1 rfl rfl rfl rfl) rfl (fun hW_ => r_call (args := #[.slice (some ⟨zb, 0, none⟩) zs.length zs.length, .int .i64 ev.kind]) rfl e53 (am2 (gd_true hW_ _) (gd_true hW_ _))) (fun hW_ => Contains_does zb zs ev.kind w hn hz) (fun v1 w2 h1_ h2_ => ?_)
  obtain rfl : w = w2 := callg_w h1_ h2_
  rw [callg_v h1_]
  refine l_v (v := .bool ((!bad) && (zs.contains ev.kind))) rfl rfl (r_pick rfl rfl (pick_and _ _)) ?_
  refine l_nil ?_
  refine n_then ?_
  refine c_cond (e := ((!bad) && (zs.contains ev.kind))) rfl (fun hc3 => ?_) (fun hc3 => ?_)
  · simp only [Bool.and_eq_true, Bool.not_eq_true'] at hc3
    obtain ⟨hbd, hct⟩ := hc3
    obtain ⟨pp, hpp, hpk⟩ : ∃ p, o = some p ∧ p.1.kind = ev.kind := by
      cases o with
      | none => rw [show bad = true from hsaid] at hbd; cases hbd
      | some p => exact ⟨p, rfl, by rw [hsaid.2.1]⟩
    have hc1 := hc pp hpp (by rw [hpk]; exact hct)
    have hrd : reads zs f o = f pp := by rw [hpp]; simp only [reads]; rw [if_pos (by rw [hpk]; exact hct)]
    refine r_start ?_
    refine l_v (v := .func (.func j) #[] #[.pointer (some ⟨q, 0, none⟩), .pointer (some ⟨e, 0, none⟩)]) rfl rfl (by kernel_rfl) ?_
    refine l_call rfl rfl (r_callv (args' := #[.pointer (some ⟨q, 0, none⟩), .pointer (some ⟨e, 0, none⟩)]) rfl rfl ej (am rfl) rfl) (hc1) (fun v5 w6 h4 => ?_)
    obtain ⟨rfl, h4f, h4S⟩ := h4
    have h4z := h4f.size
    refine l_nil ?_
    have hE7 : Fr [g, e] w w6 := ((Fr.refl [g, e] w).trans h4f)
    have hE7z := hE7.size
    exact end_norm (v := .tuple #[]) (res0 rfl) ⟨_, rfl, ⟨rfl, hE7, by rw [hrd]; exact h4S⟩⟩
  · have hrd : reads zs f o = o := by
      cases o with
      | none => rfl
      | some p =>
        obtain ⟨hbd, hev, _⟩ := hsaid
        simp only [reads]
        rw [if_neg]
        intro hc_
        rw [hbd, hev, hc_] at hc3
        cases hc3
    refine wp_skip ?_
    exact end_norm (v := .tuple #[]) (res0 rfl) ⟨_, rfl, ⟨rfl, (Fr.refl [g, e] w), by rw [hrd]; exact hS0⟩⟩

end Go.Proofs.YtmhljojgdfmjaaaGreatDoor
