/- Events and rows among the arguments. -/
import Derived.Test.YtmhljojgdfmjaaaGreatDoorOpen
import Derived.Test.YtmhljojgdfmjaaaGreatDoorMem
namespace Go.Proofs.YtmhljojgdfmjaaaGreatDoor
open Go.E Go.Sh
set_option linter.unusedVariables false
set_option maxRecDepth 100000
theorem sum_one {α : Type} (l : List α) : (l.map fun _ => 0 + 1).sum = l.length := by
  induction l with
  | nil => rfl
  | cons a r ih => simp only [List.map_cons, List.sum_cons, List.length_cons, ih]; omega
theorem at_ {α : Type} {xs : List α} {i : Nat} (h : i < xs.length) : xs[i]? = some xs[i] := List.getElem?_eq_getElem h
theorem opens_ev : Opens Tryz.prog 66 Rp.ev evWt := by
  intro H enc w base sp held fuel cs x h hb
  obtain ⟨xs, n, rfl, rfl, hl, hx, hf⟩ := DataW.trod_struct Tryz.underlying66 h
  have hxl : xs.length = 5 := hx
  have hcl : cs.length = 5 := hl.trans (by kernel_rfl)
  match cs, hcl with
  | [c0, c1, c2, c3, c4], _ =>
    match xs, hxl with
    | [x0, x1, x2, x3, x4], _ =>
      have hbk : Rows.uptoBulk (DataW.agg [x0.1, x1.1, x2.1, x3.1, x4.1] : DataW H) = Rows.uptoBulk x0.1 + (Rows.uptoBulk x1.1 + (Rows.uptoBulk x2.1 + (Rows.uptoBulk x3.1 + (Rows.uptoBulk x4.1 + 0)))) + 1 := by simp only [Rows.uptoBulk, Rows.uptoBulkAll]
      have hb' : Rows.uptoBulk (DataW.agg [x0.1, x1.1, x2.1, x3.1, x4.1] : DataW H) ≤ 1048576 := hb
      rw [hbk] at hb'
      obtain ⟨y0, ⟨h0, r0⟩, m0⟩ := opens_int Tryz.underlying3 H enc w base sp held n [c0] x0 (hf 0 _ rfl) (by omega)
      obtain ⟨y1, ⟨h1, r1⟩, m1⟩ := opens_int Tryz.underlying3 H enc w base sp held n [c1] x1 (hf 1 _ rfl) (by omega)
      obtain ⟨y2, ⟨h2, r2⟩, m2⟩ := opens_int Tryz.underlying3 H enc w base sp held n [c2] x2 (hf 2 _ rfl) (by omega)
      obtain ⟨y3, ⟨v3, h3, A3, k3, e3, q3, E3⟩, m3⟩ := opens_slice (R := Rp.u8) Tryz.underlying47 (by kernel_rfl) (by decide) (opens_u8 Tryz.underlying5) H enc w base sp held n [c3] x3 (hf 3 _ rfl) (by omega)
      obtain ⟨y4, ⟨v4, h4, A4, k4, e4, q4, E4⟩, m4⟩ := opens_slice (R := Rp.int .u16) Tryz.underlying64 (by kernel_rfl) (by decide) (opens_int Tryz.underlying67) H enc w base sp held n [c4] x4 (hf 4 _ rfl) (by omega)
      simp only [List.cons.injEq, and_true] at h0 h1 h2 h3 h4
      subst h0 h1 h2 h3 h4 e3 e4
      simp only [sum_one] at m3 m4
      rw [min_i64, max_i64] at r0 r1 r2
      refine ⟨⟨y0, y1, y2, y3, y4⟩, ⟨_, _, _, _, rfl, q3, E3, q4, E4, r0, r1, r2, by simp only; omega, by simp only; omega, ?_⟩, ?_⟩
      · intro p hp
        obtain ⟨i, hi⟩ := List.getElem?_of_mem hp
        obtain ⟨_, _, cs, _, _, _, ⟨_, hk⟩, _⟩ := E4 i p hi
        rwa [min_u16, max_u16] at hk
      · show y3.length + y4.length + 1 ≤ Rows.uptoBulk (DataW.agg [x0.1, x1.1, x2.1, x3.1, x4.1] : DataW H)
        rw [hbk]; omega
theorem opens_rw : Opens Tryz.prog 49 Rp.rw rwWt := by
  intro H enc w base sp held fuel cs x h hb
  obtain ⟨xs, n, rfl, rfl, hl, hx, hf⟩ := DataW.trod_struct Tryz.underlying49 h
  have hxl : xs.length = 6 := hx
  have hcl : cs.length = 6 := hl.trans (by kernel_rfl)
  match cs, hcl with
  | [c0, c1, c2, c3, c4, c5], _ =>
    match xs, hxl with
    | [x0, x1, x2, x3, x4, x5], _ =>
      have hbk : Rows.uptoBulk (DataW.agg [x0.1, x1.1, x2.1, x3.1, x4.1, x5.1] : DataW H) = Rows.uptoBulk x0.1 + (Rows.uptoBulk x1.1 + (Rows.uptoBulk x2.1 + (Rows.uptoBulk x3.1 + (Rows.uptoBulk x4.1 + (Rows.uptoBulk x5.1 + 0))))) + 1 := by simp only [Rows.uptoBulk, Rows.uptoBulkAll]
      have hb' : Rows.uptoBulk (DataW.agg [x0.1, x1.1, x2.1, x3.1, x4.1, x5.1] : DataW H) ≤ 1048576 := hb
      rw [hbk] at hb'
      obtain ⟨y0, ⟨h0, r0⟩, m0⟩ := opens_int Tryz.underlying3 H enc w base sp held n [c0] x0 (hf 0 _ rfl) (by omega)
      obtain ⟨y1, ⟨h1, r1⟩, m1⟩ := opens_int Tryz.underlying23 H enc w base sp held n [c1] x1 (hf 1 _ rfl) (by omega)
      obtain ⟨y2, ⟨h2, r2⟩, m2⟩ := opens_int Tryz.underlying3 H enc w base sp held n [c2] x2 (hf 2 _ rfl) (by omega)
      obtain ⟨y3, ⟨h3, r3⟩, m3⟩ := opens_int Tryz.underlying3 H enc w base sp held n [c3] x3 (hf 3 _ rfl) (by omega)
      obtain ⟨y4, ⟨v4, h4, A4, k4, e4, q4, E4⟩, m4⟩ := opens_slice (R := Rp.u8) Tryz.underlying47 (by kernel_rfl) (by decide) (opens_u8 Tryz.underlying5) H enc w base sp held n [c4] x4 (hf 4 _ rfl) (by omega)
      obtain ⟨y5, h5, m5⟩ := opens_bool Tryz.underlying4 H enc w base sp held n [c5] x5 (hf 5 _ rfl) (by omega)
      have h5' : [c5] = [Value.bool y5] := h5
      simp only [List.cons.injEq, and_true] at h0 h1 h2 h3 h4 h5'
      subst h0 h1 h2 h3 h4 h5' e4
      simp only [sum_one] at m4
      rw [min_i64, max_i64] at r0 r1 r2 r3
      refine ⟨⟨y0, y1, y2, y3, y4, y5⟩, ⟨_, _, rfl, q4, E4, r0, r1, r2, r3, by simp only; omega⟩, ?_⟩
      show y4.length + 1 ≤ Rows.uptoBulk (DataW.agg [x0.1, x1.1, x2.1, x3.1, x4.1, x5.1] : DataW H)
      rw [hbk]; omega
/-- a slice among the arguments -/
theorem open_list {H : Type} {enc : TypeId × Value → H} {α : Type} {R : Rp α} {μ : α → Nat} {t e : TypeId} {W : World} {v : Value} {d : DataW H} {p : List MemPlace} (ht : Tryz.prog.underlying t = some (.slice e)) (hc : Tryz.prog.cellsOf e = R.n) (hp : 0 < R.n) (he : Opens Tryz.prog e R μ)
    (h : DataW.Trod enc Tryz.prog W 0 (fun _ => true) true t v d p) (hb : Rows.uptoBulk d ≤ 1048576) (hv : v.cells.toList = [v]) : ∃ l : List α, Sl R (fun _ => True) W v l ∧ l.length + (l.map μ).sum + 1 ≤ Rows.uptoBulk d := by
  obtain ⟨fuel, h⟩ := h
  rw [hv] at h
  obtain ⟨l, ⟨v', hv', hs⟩, hm⟩ := opens_slice ht hc hp he H enc W 0 _ _ fuel _ _ h hb
  simp only [List.cons.injEq, and_true] at hv'
  subst hv'
  refine ⟨l, hs, ?_⟩
  have : (l.map fun y => μ y + 1).sum = l.length + (l.map μ).sum := by
    clear hs hm
    induction l with
    | nil => rfl
    | cons a r ih => simp only [List.map_cons, List.sum_cons, List.length_cons, ih]; omega
  have hm2 : (l.map fun y => μ y + 1).sum + 1 ≤ Rows.uptoBulk d := hm
  rw [this] at hm2
  exact hm2
end Go.Proofs.YtmhljojgdfmjaaaGreatDoor
