/- walks -/
import Derived.Test.YtmhljojgdfmjaaaGreatDoorSh3
import Derived.Test.YtmhljojgdfmjaaaGreatDoorSh4
namespace Go.Proofs.YtmhljojgdfmjaaaGreatDoor
open Go.E
set_option linter.unusedVariables false
set_option linter.unusedSimpArgs false
set_option maxRecDepth 100000
set_option maxHeartbeats 1000000
open Go.Sh
/-- shell.reader.plain -/
theorem plain_calls (w : World) (hg : Glob w) (g : Nat) (s : List UInt8) (bad : Bool) (h8 : 8 ≤ g) (hb : Rd w g s bad) (hl : s.length ≤ 1048576) :
    Does Tryz.prog 42 #[.pointer (some ⟨g, 0, none⟩)] w fun r w' => r = .string ⟨(plainW s).toArray⟩ ∧ Fr [g] w w' ∧ Rd w' g (plainR s) bad := by
  have hgl : g < w.heap.size := (Array.getElem?_eq_some_iff.1 hb).1
  have hlw := plainW_len s
  have hlr := plainR_len s
  have hgz := hg.sz
  refine Does.of (fn_in (l := [.pointer (some ⟨g, 0, none⟩)]) Tryz.func42 rfl Tryz.ntmps42 rfl ?_)
  refine wp_seq ?_
  refine r_start ?_
  refine l_v (v := .string ⟨([] : List UInt8).toArray⟩) rfl rfl (by kernel_rfl) ?_
  refine l_nil ?_
  refine n_then ?_
  refine wp_seq ?_
  refine r_start ?_
  refine l_v (v := .pointer (some ⟨g, 0, none⟩)) rfl rfl (by kernel_rfl) ?_
  refine l_v (v := .pointer (some ⟨g, 0, none⟩)) rfl rfl (by kernel_rfl) ?_
  refine l_v (v := .pointer (some ⟨g, 0, none⟩)) rfl rfl (r_field rfl rfl Tryz.underlying92 rfl (by kernel_rfl) rfl) ?_
  refine l_v (v := .string ⟨(s).toArray⟩) rfl rfl (r_load rfl rfl Tryz.underlying9 rfl (cell_at hb rfl)) ?_
  refine l_call rfl rfl (r_call (args := #[.string ⟨(s).toArray⟩, .string ⟨([32] : List UInt8).toArray⟩]) rfl e65 (am rfl)) (Cut_does s [32] w hg (by omega)) (fun v2 w3 h1 => ?_)
  obtain ⟨rfl, h1f⟩ := h1
  have h1z := h1f.size
  refine l_v (v := .tuple #[.string ⟨(plainW s).toArray⟩, .string ⟨(plainR s).toArray⟩, .bool ((Lib.cut s [32]).2.2)]) rfl rfl (by kernel_rfl) ?_
  refine l_v (v := .string ⟨(plainW s).toArray⟩) rfl rfl (by kernel_rfl) ?_
  refine l_v (v := .string ⟨(plainR s).toArray⟩) rfl rfl (by kernel_rfl) ?_
  refine l_v (v := .bool ((Lib.cut s [32]).2.2)) rfl rfl (by kernel_rfl) ?_
  refine l_v (v := .string ⟨(plainW s).toArray⟩) rfl rfl (by kernel_rfl) ?_
  refine l_v (v := .string ⟨(plainR s).toArray⟩) rfl rfl (by kernel_rfl) ?_
  refine l_v (v := .bool ((Lib.cut s [32]).2.2)) rfl rfl (by kernel_rfl) ?_
  refine l_nil ?_
  refine n_then ?_
  refine wp_seq ?_
  refine r_start ?_
  refine l_v (v := .pointer (some ⟨g, 0, none⟩)) rfl rfl (by kernel_rfl) ?_
  refine l_v (v := .string ⟨(plainR s).toArray⟩) rfl rfl (by kernel_rfl) ?_
  refine l_v (v := .pointer (some ⟨g, 0, none⟩)) rfl rfl (by kernel_rfl) ?_
  refine l_v (v := .pointer (some ⟨g, 0, none⟩)) rfl rfl (r_field rfl rfl Tryz.underlying92 rfl (by kernel_rfl) rfl) ?_
  have hb4 := (h1f.at0 hb)
  refine l_store rfl rfl rfl (g := g) (off := 0) (v := .string ⟨(plainR s).toArray⟩) (arr := #[.string ⟨(plainR s).toArray⟩, .bool bad]) rfl rfl (by kernel_rfl) hb4 rfl (by simp [Value.cells, Value.oneCell']) rfl (fun w5 p6 => ?_)
  have p6z := p6.sz
  refine l_nil ?_
  refine n_then ?_
  refine wp_seq ?_
  refine r_start ?_
  refine l_v (v := .string ⟨(plainW s).toArray⟩) rfl rfl (by kernel_rfl) ?_
  refine l_v (v := .string ⟨(plainW s).toArray⟩) rfl rfl (by kernel_rfl) ?_
  refine l_nil ?_
  refine n_then ?_
  refine wp_ret ?_
  have hE7 : Fr [g] w w5 := (((Fr.refl [g] w).trans h1f.any).trans p6.fr)
  have hE7z := hE7.size
  exact end_ret (v := .string ⟨(plainW s).toArray⟩) (res1 rfl rfl) ⟨_, rfl, ⟨rfl, hE7, p6.at_⟩⟩

/-- shell.reader.kind -/
theorem kind_calls (w : World) (hg : Glob w) (g : Nat) (s : List UInt8) (bad : Bool) (h8 : 8 ≤ g) (hb : Rd w g s bad) (hl : s.length ≤ 1048576) :
    Does Tryz.prog 41 #[.pointer (some ⟨g, 0, none⟩)] w fun r w' => r = .int .i64 (kindOf (plainW s)) ∧ Fr [g] w w' ∧ Rd w' g (plainR s) (decide (kindOf (plainW s) < 1)) := by
  have hgl : g < w.heap.size := (Array.getElem?_eq_some_iff.1 hb).1
  have hlw := plainW_len s
  have hlr := plainR_len s
  have hgz := hg.sz
  refine Does.of (fn_in (l := [.pointer (some ⟨g, 0, none⟩)]) Tryz.func41 rfl Tryz.ntmps41 rfl ?_)
  refine wp_seq ?_
  refine r_start ?_
  refine l_v (v := .int .i64 0) rfl rfl (by kernel_rfl) ?_
  refine l_nil ?_
  refine n_then ?_
  refine wp_seq ?_
  refine r_start ?_
  refine l_call rfl rfl (r_call (args := #[.string ⟨([32, 99, 111, 110, 110, 101, 99, 116, 32, 112, 117, 115, 104, 32, 99, 108, 111, 115, 101, 32, 116, 105, 99, 107, 32, 115, 116, 101, 112, 32, 113, 117, 111, 116, 97, 32, 102, 117, 115, 101, 32, 99, 114, 97, 115, 104, 32, 111, 112, 101, 110] : List UInt8).toArray⟩, .string ⟨([32] : List UInt8).toArray⟩]) rfl e59 (am rfl)) (Kinds_does w hg) (fun v2 w3 h1 => ?_)
  obtain ⟨k4, rfl, h1k, h1f, h1b, h1e⟩ := h1
  have h1z := h1f.size
  refine l_v (v := .pointer (some ⟨g, 0, none⟩)) rfl rfl (by kernel_rfl) ?_
  have hb5 := (h1f.at0 hb)
  have hE6 : Fr [g] w w3 := ((Fr.refl [g] w).trans h1f.any)
  have hE6z := hE6.size
  have hd7 := hg.fr hE6 (by intro k_ hk_; rw [List.mem_singleton] at hk_; have := hg.sz; omega)
  refine l_call rfl rfl (r_call (args := #[.pointer (some ⟨g, 0, none⟩)]) rfl e42 (am rfl)) (plain_calls w3 hd7 g s bad (by omega) hb5 (by omega)) (fun v9 w10 h8 => ?_)
  obtain ⟨rfl, h8f, h8b⟩ := h8
  have h8z := h8f.size
  have hl11 := plainW_len s
  have hl12 := plainR_len s
  have hb13 := (h8f.at h1b (by simp only [List.mem_singleton]; omega))
  refine l_call rfl rfl (r_call (args := #[.slice (some ⟨k4, 0, none⟩) 10 10, .string ⟨(plainW s).toArray⟩]) rfl e64 (am rfl)) (Index_does (plainW s) w10 k4 _ hb13) (fun v15 w16 h14 => ?_)
  obtain ⟨rfl, h14f⟩ := h14
  have h14z := h14f.size
  refine l_v (v := .int .i64 (kindOf (plainW s))) rfl rfl (by kernel_rfl) ?_
  refine l_nil ?_
  refine n_then ?_
  refine wp_seq ?_
  refine r_start ?_
  refine l_v (v := .pointer (some ⟨g, 0, none⟩)) rfl rfl (by kernel_rfl) ?_
  refine l_v (v := .int .i64 (kindOf (plainW s))) rfl rfl (by kernel_rfl) ?_
  refine l_v (v := .bool (decide ((kindOf (plainW s)) < (1 : Int)))) rfl rfl (by kernel_rfl) ?_
  refine l_v (v := .pointer (some ⟨g, 0, none⟩)) rfl rfl (by kernel_rfl) ?_
  refine l_v (v := .pointer (some ⟨g, 1, none⟩)) rfl rfl (r_field rfl rfl Tryz.underlying92 rfl (by kernel_rfl) rfl) ?_
  have hb17 := (h14f.at0 h8b)
  refine l_store rfl rfl rfl (g := g) (off := 1) (v := .bool (decide ((kindOf (plainW s)) < (1 : Int)))) (arr := #[.string ⟨(plainR s).toArray⟩, .bool (decide ((kindOf (plainW s)) < (1 : Int)))]) rfl rfl (by kernel_rfl) hb17 rfl (by simp [Value.cells, Value.oneCell']) rfl (fun w18 p19 => ?_)
  have p19z := p19.sz
  refine l_nil ?_
  refine n_then ?_
  refine wp_seq ?_
  refine r_start ?_
  refine l_v (v := .int .i64 (kindOf (plainW s))) rfl rfl (by kernel_rfl) ?_
  refine l_v (v := .int .i64 (kindOf (plainW s))) rfl rfl (by kernel_rfl) ?_
  refine l_nil ?_
  refine n_then ?_
  refine wp_ret ?_
  have hE20 : Fr [g] w w18 := (((hE6.trans h8f).trans h14f.any).trans p19.fr)
  have hE20z := hE20.size
  exact end_ret (v := .int .i64 (kindOf (plainW s))) (res1 rfl rfl) ⟨_, rfl, ⟨rfl, hE20, p19.at_⟩⟩

/-- shell.reader.number -/
theorem number_calls (w : World) (hg : Glob w) (g : Nat) (s : List UInt8) (bad : Bool) (h8 : 8 ≤ g) (hb : Rd w g s bad) (hl : s.length ≤ 1048576) :
    Does Tryz.prog 43 #[.pointer (some ⟨g, 0, none⟩)] w fun r w' => ∃ x, r = .int .i64 x ∧ i64 x ∧ (∀ v, atoiOk (plainW s) = some v → x = v) ∧ Fr [g] w w' ∧ Rd w' g (plainR s) (bad || (atoiOk (plainW s)).isNone) := by
  have hgl : g < w.heap.size := (Array.getElem?_eq_some_iff.1 hb).1
  have hlw := plainW_len s
  have hlr := plainR_len s
  have hgz := hg.sz
  refine Does.of (fn_in (l := [.pointer (some ⟨g, 0, none⟩)]) Tryz.func43 rfl Tryz.ntmps43 rfl ?_)
  refine wp_seq ?_
  refine r_start ?_
  refine l_v (v := .int .i64 0) rfl rfl (by kernel_rfl) ?_
  refine l_nil ?_
  refine n_then ?_
  refine wp_seq ?_
  refine r_start ?_
  refine l_v (v := .pointer (some ⟨g, 0, none⟩)) rfl rfl (by kernel_rfl) ?_
  refine l_call rfl rfl (r_call (args := #[.pointer (some ⟨g, 0, none⟩)]) rfl e42 (am rfl)) (plain_calls w hg g s bad (by omega) hb (by omega)) (fun v2 w3 h1 => ?_)
  obtain ⟨rfl, h1f, h1b⟩ := h1
  have h1z := h1f.size
  have hl4 := plainW_len s
  have hl5 := plainR_len s
  have hE6 : Fr [g] w w3 := ((Fr.refl [g] w).trans h1f)
  have hE6z := hE6.size
  have hd7 := hg.fr hE6 (by intro k_ hk_; rw [List.mem_singleton] at hk_; have := hg.sz; omega)
  refine l_call rfl rfl (r_call (args := #[.string ⟨(plainW s).toArray⟩]) rfl e66 (am rfl)) (Atoi_does (plainW s) w3 hd7 (by omega)) (fun v9 w10 h8 => ?_)
  obtain ⟨h8x, h8e, rfl, h8i, h8v, h8n, h8f⟩ := h8
  have h8z := h8f.size
  refine l_v (v := .tuple #[.int .i64 h8x, h8e]) rfl rfl (by kernel_rfl) ?_
  refine l_v (v := .int .i64 h8x) rfl rfl (by kernel_rfl) ?_
  refine l_v (v := h8e) rfl rfl (by kernel_rfl) ?_
  refine l_v (v := .int .i64 h8x) rfl rfl (by kernel_rfl) ?_
  refine l_v (v := h8e) rfl rfl (by kernel_rfl) ?_
  refine l_nil ?_
  refine n_then ?_
  refine wp_seq ?_
  refine r_start ?_
  refine l_v (v := .pointer (some ⟨g, 0, none⟩)) rfl rfl (by kernel_rfl) ?_
  refine l_v (v := .pointer (some ⟨g, 0, none⟩)) rfl rfl (by kernel_rfl) ?_
  refine l_v (v := .pointer (some ⟨g, 0, none⟩)) rfl rfl (by kernel_rfl) ?_
  refine l_v (v := .pointer (some ⟨g, 1, none⟩)) rfl rfl (r_field rfl rfl Tryz.underlying92 rfl (by kernel_rfl) rfl) ?_
  have hb11 := (h8f.at0 h1b)
  refine l_v (v := .bool bad) rfl rfl (r_load rfl rfl Tryz.underlying4 rfl (cell_at hb11 rfl)) ?_
  refine l_v (v := .bool bad) rfl rfl (by kernel_rfl) ?_
  refine l_g (v := h8e) (want_1 rfl rfl rfl rfl) rfl (fun hW_ => (by kernel_rfl)) ?_
  refine l_g (v := .bool ((atoiOk (plainW s)).isNone)) (want_1 rfl rfl rfl rfl) rfl (fun hW_ => (r_iface_neq rfl (gd_true hW_ _) rfl (by kernel_rfl) h8n)) ?_
  refine l_v (v := .bool ((bad || ((atoiOk (plainW s)).isNone)))) rfl rfl (r_pick rfl rfl (pick_or _ _)) ?_
  refine l_v (v := .pointer (some ⟨g, 0, none⟩)) rfl rfl (by kernel_rfl) ?_
  refine l_v (v := .pointer (some ⟨g, 1, none⟩)) rfl rfl (r_field rfl rfl Tryz.underlying92 rfl (by kernel_rfl) rfl) ?_
  refine l_store rfl rfl rfl (g := g) (off := 1) (v := .bool ((bad || ((atoiOk (plainW s)).isNone)))) (arr := #[.string ⟨(plainR s).toArray⟩, .bool ((bad || ((atoiOk (plainW s)).isNone)))]) rfl rfl (by kernel_rfl) hb11 rfl (by simp [Value.cells, Value.oneCell']) rfl (fun w12 p13 => ?_)
  have p13z := p13.sz
  refine l_nil ?_
  refine n_then ?_
  refine wp_seq ?_
  refine r_start ?_
  refine l_v (v := .int .i64 h8x) rfl rfl (by kernel_rfl) ?_
  refine l_v (v := .int .i64 h8x) rfl rfl (by kernel_rfl) ?_
  refine l_nil ?_
  refine n_then ?_
  refine wp_ret ?_
  have hE14 : Fr [g] w w12 := ((hE6.trans h8f.any).trans p13.fr)
  have hE14z := hE14.size
  exact end_ret (v := .int .i64 h8x) (res1 rfl rfl) ⟨_, rfl, ⟨h8x, rfl, h8i, h8v, hE14, p13.at_⟩⟩

end Go.Proofs.YtmhljojgdfmjaaaGreatDoor
