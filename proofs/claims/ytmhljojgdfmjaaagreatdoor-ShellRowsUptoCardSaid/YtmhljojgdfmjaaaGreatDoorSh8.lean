/- walks -/
import Derived.Test.YtmhljojgdfmjaaaGreatDoorSh7
namespace Go.Proofs.YtmhljojgdfmjaaaGreatDoor
open Go.E
set_option linter.unusedVariables false
set_option linter.unusedSimpArgs false
set_option maxRecDepth 100000
set_option maxHeartbeats 1000000
open Go.Sh
/-- shell.reader.word -/
theorem word_calls (w : World) (hg : Glob w) (g : Nat) (s : List UInt8) (bad : Bool) (h8 : 8 ≤ g) (hb : Rd w g s bad) (hl : s.length ≤ 1048576) :
    Does Tryz.prog 44 #[.pointer (some ⟨g, 0, none⟩)] w fun r w' => By (fun b => w.heap.size ≤ b) w' r (unqR s).1 ∧ Fr [g] w w' ∧ Rd w' g (Lib.trimPrefix (unqR s).2.1 [32]) (bad || !(unqR s).2.2) := by
  have hgl : g < w.heap.size := (Array.getElem?_eq_some_iff.1 hb).1
  have hlw := plainW_len s
  have hlr := plainR_len s
  have hgz := hg.sz
  refine Does.of (fn_in (l := [.pointer (some ⟨g, 0, none⟩)]) Tryz.func44 rfl Tryz.ntmps44 rfl ?_)
  refine wp_seq ?_
  refine r_start ?_
  refine l_v (v := .slice none 0 0) rfl rfl (by kernel_rfl) ?_
  refine l_nil ?_
  refine n_then ?_
  refine wp_seq ?_
  refine r_start ?_
  refine l_v (v := .pointer (some ⟨g, 0, none⟩)) rfl rfl (by kernel_rfl) ?_
  refine l_v (v := .pointer (some ⟨g, 0, none⟩)) rfl rfl (by kernel_rfl) ?_
  refine l_v (v := .pointer (some ⟨g, 0, none⟩)) rfl rfl (r_field rfl rfl Tryz.underlying92 rfl (by kernel_rfl) rfl) ?_
  refine l_v (v := .string ⟨(s).toArray⟩) rfl rfl (r_load rfl rfl Tryz.underlying9 rfl (cell_at hb rfl)) ?_
  refine l_call rfl rfl (r_call (args := #[.string ⟨(s).toArray⟩]) rfl e24 (am rfl)) (Unquote_calls w s (by omega)) (fun v2 w3 h1 => ?_)
  obtain ⟨h1x, rfl, h1B, h1f⟩ := h1
  have h1z := h1f.size
  have h1l := unqR_len s
  refine l_v (v := .tuple #[h1x, .string ⟨((unqR s).2.1).toArray⟩, .bool ((unqR s).2.2)]) rfl rfl (by kernel_rfl) ?_
  refine l_v (v := h1x) rfl rfl (by kernel_rfl) ?_
  refine l_v (v := .string ⟨((unqR s).2.1).toArray⟩) rfl rfl (by kernel_rfl) ?_
  refine l_v (v := .bool ((unqR s).2.2)) rfl rfl (by kernel_rfl) ?_
  refine l_v (v := h1x) rfl rfl (by kernel_rfl) ?_
  refine l_v (v := .string ⟨((unqR s).2.1).toArray⟩) rfl rfl (by kernel_rfl) ?_
  refine l_v (v := .bool ((unqR s).2.2)) rfl rfl (by kernel_rfl) ?_
  refine l_nil ?_
  refine n_then ?_
  refine wp_seq ?_
  refine r_start ?_
  refine l_v (v := .pointer (some ⟨g, 0, none⟩)) rfl rfl (by kernel_rfl) ?_
  refine l_v (v := .pointer (some ⟨g, 0, none⟩)) rfl rfl (by kernel_rfl) ?_
  refine l_v (v := .pointer (some ⟨g, 0, none⟩)) rfl rfl (by kernel_rfl) ?_
  refine l_v (v := .pointer (some ⟨g, 1, none⟩)) rfl rfl (r_field rfl rfl Tryz.underlying92 rfl (by kernel_rfl) rfl) ?_
  have hb4 := (h1f.at0 hb)
  refine l_v (v := .bool bad) rfl rfl (r_load rfl rfl Tryz.underlying4 rfl (cell_at hb4 rfl)) ?_
  refine l_v (v := .bool bad) rfl rfl (by kernel_rfl) ?_
  refine l_g (v := .bool ((unqR s).2.2)) (want_1 rfl rfl rfl rfl) rfl (fun hW_ => (by kernel_rfl)) ?_
  refine l_g (v := .bool ((!((unqR s).2.2)))) (want_1 rfl rfl rfl rfl) rfl (fun hW_ => (r_not rfl (gd_true hW_ _))) ?_
  refine l_v (v := .bool ((bad || ((!((unqR s).2.2)))))) rfl rfl (r_pick rfl rfl (pick_or _ _)) ?_
  refine l_v (v := .pointer (some ⟨g, 0, none⟩)) rfl rfl (by kernel_rfl) ?_
  refine l_v (v := .pointer (some ⟨g, 1, none⟩)) rfl rfl (r_field rfl rfl Tryz.underlying92 rfl (by kernel_rfl) rfl) ?_
  refine l_store rfl rfl rfl (g := g) (off := 1) (v := .bool ((bad || ((!((unqR s).2.2)))))) (arr := #[.string ⟨(s).toArray⟩, .bool ((bad || ((!((unqR s).2.2)))))]) rfl rfl (by kernel_rfl) hb4 rfl (by simp [Value.cells, Value.oneCell']) rfl (fun w5 p6 => ?_)
  have p6z := p6.sz
  refine l_nil ?_
  refine n_then ?_
  refine wp_seq ?_
  refine r_start ?_
  refine l_v (v := .pointer (some ⟨g, 0, none⟩)) rfl rfl (by kernel_rfl) ?_
  refine l_v (v := .string ⟨((unqR s).2.1).toArray⟩) rfl rfl (by kernel_rfl) ?_
  refine l_call rfl rfl (r_call (args := #[.string ⟨((unqR s).2.1).toArray⟩, .string ⟨([32] : List UInt8).toArray⟩]) rfl e67 (am rfl)) (TrimPrefix_does ((unqR s).2.1) [32] w5) (fun v8 w9 h7 => ?_)
  obtain ⟨rfl, h7f⟩ := h7
  have h7z := h7f.size
  refine l_v (v := .pointer (some ⟨g, 0, none⟩)) rfl rfl (by kernel_rfl) ?_
  refine l_v (v := .pointer (some ⟨g, 0, none⟩)) rfl rfl (r_field rfl rfl Tryz.underlying92 rfl (by kernel_rfl) rfl) ?_
  have hb10 := (h7f.at0 p6.at_)
  refine l_store rfl rfl rfl (g := g) (off := 0) (v := .string ⟨(Lib.trimPrefix ((unqR s).2.1) [32]).toArray⟩) (arr := #[.string ⟨(Lib.trimPrefix ((unqR s).2.1) [32]).toArray⟩, .bool ((bad || ((!((unqR s).2.2)))))]) rfl rfl (by kernel_rfl) hb10 rfl (by simp [Value.cells, Value.oneCell']) rfl (fun w11 p12 => ?_)
  have p12z := p12.sz
  refine l_nil ?_
  refine n_then ?_
  refine wp_seq ?_
  refine r_start ?_
  refine l_v (v := h1x) rfl rfl (by kernel_rfl) ?_
  refine l_v (v := h1x) rfl rfl (by kernel_rfl) ?_
  refine l_nil ?_
  refine n_then ?_
  refine wp_ret ?_
  have hd13 := (((h1B.fr p6.fr (by intro g_ hg_; have hg2_ : w.heap.size ≤ g_ := hg_; simp only [List.mem_singleton]; omega)).fr0 h7f).fr p12.fr (by intro g_ hg_; have hg2_ : w.heap.size ≤ g_ := hg_; simp only [List.mem_singleton]; omega))
  have hE14 : Fr [g] w w11 := (((((Fr.refl [g] w).trans h1f.any).trans p6.fr).trans h7f.any).trans p12.fr)
  have hE14z := hE14.size
  exact end_ret (v := h1x) (res1 rfl rfl) ⟨_, rfl, ⟨hd13, hE14, p12.at_⟩⟩

end Go.Proofs.YtmhljojgdfmjaaaGreatDoor
