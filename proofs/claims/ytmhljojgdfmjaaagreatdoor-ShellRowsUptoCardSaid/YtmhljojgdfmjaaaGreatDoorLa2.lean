/- walks -/
import Derived.Test.YtmhljojgdfmjaaaGreatDoorSh5
import Derived.Test.YtmhljojgdfmjaaaGreatDoorLa1
namespace Go.Proofs.YtmhljojgdfmjaaaGreatDoor
open Go.E
set_option linter.unusedVariables false
set_option linter.unusedSimpArgs false
set_option maxRecDepth 100000
set_option maxHeartbeats 1000000
open Go.Sh
/-- shell.Rows -/
theorem Rows_calls (w : World) (hg : Glob w) (ok : Nat → Prop) (v0 : Value) (l : List Rw) (hv : Sl Rp.rw ok w v0 l) (hl : l.length ≤ 1048576) (ht : total rwWt l ≤ 1048576) :
    Does Tryz.prog 6 #[v0] w fun r w' => r = .tuple #[.string ⟨(wr rwLine l).1.toArray⟩, .int .i64 (wr rwLine l).2] ∧ Fr [] w w' := by
  have hgz := hg.sz
  refine Does.of (fn_in (l := [v0]) Tryz.func6 rfl Tryz.ntmps6 rfl ?_)
  refine wp_seq ?_
  refine r_start ?_
  refine l_v (v := .string ⟨([] : List UInt8).toArray⟩) rfl rfl (by kernel_rfl) ?_
  refine l_v (v := .int .i64 0) rfl rfl (by kernel_rfl) ?_
  refine l_nil ?_
  refine n_then ?_
  refine wp_seq ?_
  refine r_start ?_
  refine l_v (v := v0) rfl rfl (by kernel_rfl) ?_
  refine l_call rfl rfl (r_call (args := #[v0, .func (.func 18) #[] #[]]) rfl e17 (am rfl)) (writtenRow_calls w hg ok v0 l hv hl ht) (fun v2 w3 h1 => ?_)
  obtain ⟨rfl, h1f⟩ := h1
  have h1z := h1f.size
  refine l_v (v := .string ⟨((wr rwLine l).1).toArray⟩) rfl rfl (by kernel_rfl) ?_
  refine l_v (v := .int .i64 ((wr rwLine l).2)) rfl rfl (by kernel_rfl) ?_
  refine l_v (v := .string ⟨((wr rwLine l).1).toArray⟩) rfl rfl (by kernel_rfl) ?_
  refine l_v (v := .int .i64 ((wr rwLine l).2)) rfl rfl (by kernel_rfl) ?_
  refine l_nil ?_
  refine n_then ?_
  refine wp_ret ?_
  have hE4 : Fr [] w w3 := ((Fr.refl [] w).trans h1f)
  have hE4z := hE4.size
  exact end_ret (v := .tuple #[.string ⟨((wr rwLine l).1).toArray⟩, .int .i64 ((wr rwLine l).2)]) (res2 rfl rfl rfl) ⟨_, rfl, ⟨rfl, hE4⟩⟩

/-- shell.Text -/
theorem Text_calls (w : World) (hg : Glob w) (ok : Nat → Prop) (v0 : Value) (l : List Ev) (hv : Sl Rp.ev ok w v0 l) (hl : l.length ≤ 1048576) (ht : total evWt l ≤ 1048576) :
    Does Tryz.prog 13 #[v0] w fun r w' => r = .tuple #[.string ⟨(wr evLine l).1.toArray⟩, .int .i64 (wr evLine l).2] ∧ Fr [] w w' := by
  have hgz := hg.sz
  refine Does.of (fn_in (l := [v0]) Tryz.func13 rfl Tryz.ntmps13 rfl ?_)
  refine wp_seq ?_
  refine r_start ?_
  refine l_v (v := .string ⟨([] : List UInt8).toArray⟩) rfl rfl (by kernel_rfl) ?_
  refine l_v (v := .int .i64 0) rfl rfl (by kernel_rfl) ?_
  refine l_nil ?_
  refine n_then ?_
  refine wp_seq ?_
  refine r_start ?_
  refine l_v (v := v0) rfl rfl (by kernel_rfl) ?_
  refine l_call rfl rfl (r_call (args := #[v0, .func (.func 27) #[] #[]]) rfl e26 (am rfl)) (writtenEvent_calls w hg ok v0 l hv hl ht) (fun v2 w3 h1 => ?_)
  obtain ⟨rfl, h1f⟩ := h1
  have h1z := h1f.size
  refine l_v (v := .string ⟨((wr evLine l).1).toArray⟩) rfl rfl (by kernel_rfl) ?_
  refine l_v (v := .int .i64 ((wr evLine l).2)) rfl rfl (by kernel_rfl) ?_
  refine l_v (v := .string ⟨((wr evLine l).1).toArray⟩) rfl rfl (by kernel_rfl) ?_
  refine l_v (v := .int .i64 ((wr evLine l).2)) rfl rfl (by kernel_rfl) ?_
  refine l_nil ?_
  refine n_then ?_
  refine wp_ret ?_
  have hE4 : Fr [] w w3 := ((Fr.refl [] w).trans h1f)
  have hE4z := hE4.size
  exact end_ret (v := .tuple #[.string ⟨((wr evLine l).1).toArray⟩, .int .i64 ((wr evLine l).2)]) (res2 rfl rfl rfl) ⟨_, rfl, ⟨rfl, hE4⟩⟩

/-- shell.ParseRows -/
theorem ParseRows_calls (w : World) (hg : Glob w) (s : List UInt8) (hl : s.length ≤ 1048576) :
    Does Tryz.prog 9 #[.string ⟨(s).toArray⟩] w fun r w' => ∃ v, r = .tuple #[v, .int .i64 (parseT parseRw s).2.1, .int .i64 (parseT parseRw s).2.2] ∧ Sl Rp.rw (fun g => w.heap.size ≤ g) w' v (parseT parseRw s).1 ∧ Fr [] w w' := by
  have hgz := hg.sz
  refine Does.of (fn_in (l := [.string ⟨(s).toArray⟩]) Tryz.func9 rfl Tryz.ntmps9 rfl ?_)
  refine wp_seq ?_
  refine r_start ?_
  refine l_v (v := .slice none 0 0) rfl rfl (by kernel_rfl) ?_
  refine l_v (v := .int .i64 0) rfl rfl (by kernel_rfl) ?_
  refine l_v (v := .int .i64 0) rfl rfl (by kernel_rfl) ?_
  refine l_nil ?_
  refine n_then ?_
  refine wp_seq ?_
  refine r_start ?_
  refine l_v (v := .string ⟨(s).toArray⟩) rfl rfl (by kernel_rfl) ?_
  refine l_call rfl rfl (r_call (args := #[.string ⟨(s).toArray⟩, .func (.func 21) #[] #[]]) rfl e20 (am rfl)) (parsedRow_calls w hg s hl) (fun v2 w3 h1 => ?_)
  obtain ⟨h1v, rfl, h1l, h1f⟩ := h1
  have h1z := h1f.size
  refine l_v (v := h1v) rfl rfl (by kernel_rfl) ?_
  refine l_v (v := .int .i64 ((parseT parseRw s).2.1)) rfl rfl (by kernel_rfl) ?_
  refine l_v (v := .int .i64 ((parseT parseRw s).2.2)) rfl rfl (by kernel_rfl) ?_
  refine l_v (v := h1v) rfl rfl (by kernel_rfl) ?_
  refine l_v (v := .int .i64 ((parseT parseRw s).2.1)) rfl rfl (by kernel_rfl) ?_
  refine l_v (v := .int .i64 ((parseT parseRw s).2.2)) rfl rfl (by kernel_rfl) ?_
  refine l_nil ?_
  refine n_then ?_
  refine wp_ret ?_
  have hE4 : Fr [] w w3 := ((Fr.refl [] w).trans h1f)
  have hE4z := hE4.size
  exact end_ret (v := .tuple #[h1v, .int .i64 ((parseT parseRw s).2.1), .int .i64 ((parseT parseRw s).2.2)]) (res3 rfl rfl rfl rfl) ⟨_, rfl, ⟨_, rfl, h1l, hE4⟩⟩

/-- shell.Parse -/
theorem Parse_calls (w : World) (hg : Glob w) (s : List UInt8) (hl : s.length ≤ 1048576) :
    Does Tryz.prog 14 #[.string ⟨(s).toArray⟩] w fun r w' => ∃ v, r = .tuple #[v, .int .i64 (parseT parseEv s).2.1, .int .i64 (parseT parseEv s).2.2] ∧ Sl Rp.ev (fun g => w.heap.size ≤ g) w' v (parseT parseEv s).1 ∧ Fr [] w w' := by
  have hgz := hg.sz
  refine Does.of (fn_in (l := [.string ⟨(s).toArray⟩]) Tryz.func14 rfl Tryz.ntmps14 rfl ?_)
  refine wp_seq ?_
  refine r_start ?_
  refine l_v (v := .slice none 0 0) rfl rfl (by kernel_rfl) ?_
  refine l_v (v := .int .i64 0) rfl rfl (by kernel_rfl) ?_
  refine l_v (v := .int .i64 0) rfl rfl (by kernel_rfl) ?_
  refine l_nil ?_
  refine n_then ?_
  refine wp_seq ?_
  refine r_start ?_
  refine l_v (v := .string ⟨(s).toArray⟩) rfl rfl (by kernel_rfl) ?_
  refine l_call rfl rfl (r_call (args := #[.string ⟨(s).toArray⟩, .func (.func 29) #[] #[]]) rfl e28 (am rfl)) (parsedEvent_calls w hg s hl) (fun v2 w3 h1 => ?_)
  obtain ⟨h1v, rfl, h1l, h1f⟩ := h1
  have h1z := h1f.size
  refine l_v (v := h1v) rfl rfl (by kernel_rfl) ?_
  refine l_v (v := .int .i64 ((parseT parseEv s).2.1)) rfl rfl (by kernel_rfl) ?_
  refine l_v (v := .int .i64 ((parseT parseEv s).2.2)) rfl rfl (by kernel_rfl) ?_
  refine l_v (v := h1v) rfl rfl (by kernel_rfl) ?_
  refine l_v (v := .int .i64 ((parseT parseEv s).2.1)) rfl rfl (by kernel_rfl) ?_
  refine l_v (v := .int .i64 ((parseT parseEv s).2.2)) rfl rfl (by kernel_rfl) ?_
  refine l_nil ?_
  refine n_then ?_
  refine wp_ret ?_
  have hE4 : Fr [] w w3 := ((Fr.refl [] w).trans h1f)
  have hE4z := hE4.size
  exact end_ret (v := .tuple #[h1v, .int .i64 ((parseT parseEv s).2.1), .int .i64 ((parseT parseEv s).2.2)]) (res3 rfl rfl rfl rfl) ⟨_, rfl, ⟨_, rfl, h1l, hE4⟩⟩

end Go.Proofs.YtmhljojgdfmjaaaGreatDoor
