/- walks -/
import Derived.Test.YtmhljojgdfmjaaaGreatDoorEng
import Derived.Test.YtmhljojgdfmjaaaGreatDoorRep
import Derived.Test.YtmhljojgdfmjaaaGreatDoorEngB
import Derived.Test.YtmhljojgdfmjaaaGreatDoorFacts
namespace Go.Proofs.YtmhljojgdfmjaaaGreatDoor
open Go.E
set_option linter.unusedVariables false
set_option linter.unusedSimpArgs false
set_option maxRecDepth 100000
set_option maxHeartbeats 1000000
theorem shape_of {w : World} {g t : Nat} {x y : Value} (hb : w.heap[g]? = some (.cells #[x, y] t (0, 0))) : w.shape? g = some (t, 2) := by
  simp [World.shape?, hb]

/-- strings.Builder.copyCheck -/
theorem copyCheck_fresh (w : World) (g : Nat) (v : Value) (hb : w.heap[g]? = some (.cells #[.pointer none, v] 76 (0, 0))) :
    Does Tryz.prog 58 #[.pointer (some ⟨g, 0, none⟩)] w fun r w' => r = .tuple #[] ∧ Fr [g] w w' ∧ w'.heap[g]? = some (.cells #[.pointer (some ⟨g, 0, none⟩), v] 76 (0, 0)) := by
  have hgl : g < w.heap.size := (Array.getElem?_eq_some_iff.1 hb).1
  refine Does.of (fn_in (l := [.pointer (some ⟨g, 0, none⟩)]) Tryz.func58 rfl Tryz.ntmps58 rfl ?_)
  refine wp_seq ?_
  refine r_start ?_
  refine l_v (v := .pointer (some ⟨g, 0, none⟩)) rfl rfl (by kernel_rfl) ?_
  refine l_v (v := .pointer (some ⟨g, 0, none⟩)) rfl rfl (by kernel_rfl) ?_
  refine l_v (v := .pointer (some ⟨g, 0, none⟩)) rfl rfl (r_field rfl rfl Tryz.underlying76 rfl (by kernel_rfl) rfl) ?_
  refine l_v (v := .pointer none) rfl rfl (r_load rfl rfl Tryz.underlying74 rfl (cell_at hb rfl)) ?_
  refine l_v (v := .bool true) rfl rfl (by kernel_rfl) ?_
  refine l_nil ?_
  refine n_then ?_
  refine c_condT (e := true) rfl rfl ?_
  refine r_start ?_
  refine l_v (v := .pointer (some ⟨g, 0, none⟩)) rfl rfl (by kernel_rfl) ?_
  refine l_v (v := .pointer (some ⟨g, 0, none⟩)) rfl rfl (by kernel_rfl) ?_
  refine l_v (v := .pointer (some ⟨g, 0, none⟩)) rfl rfl (r_convv rfl rfl (Lib.run_to_unsafe w ⟨g, 0, none⟩ Tryz.underlying74 Tryz.underlying114 (j := (Tryz.prog.info? 76).get (by kernel_rfl)) (by kernel_rfl) (by decide) (shape_of hb) (Nat.zero_lt_succ 1))) ?_
  refine l_v (v := .pointer (some ⟨g, 0, none⟩)) rfl rfl (r_extern (args := #[.pointer (some ⟨g, 0, none⟩)]) rfl Tryz.func72 (by kernel_rfl) (by kernel_rfl) (by kernel_rfl) (e := Extern.AbiNoEscape.same) (by kernel_rfl) (am rfl) (Lib.run_noEscape _ _)) ?_
  refine l_v (v := .pointer (some ⟨g, 0, none⟩)) rfl rfl (r_convv rfl rfl (Lib.run_from_unsafe w ⟨g, 0, none⟩ Tryz.underlying114 Tryz.underlying74 (j := (Tryz.prog.info? 76).get (by kernel_rfl)) (by kernel_rfl) (shape_of hb) (by kernel_rfl))) ?_
  refine l_v (v := .pointer (some ⟨g, 0, none⟩)) rfl rfl (by kernel_rfl) ?_
  refine l_v (v := .pointer (some ⟨g, 0, none⟩)) rfl rfl (r_field rfl rfl Tryz.underlying76 rfl (by kernel_rfl) rfl) ?_
  refine l_store rfl rfl rfl (g := g) (off := 0) (v := .pointer (some ⟨g, 0, none⟩)) (arr := #[.pointer (some ⟨g, 0, none⟩), v]) rfl rfl (by kernel_rfl) hb rfl (by simp [Value.cells, Value.oneCell']) rfl (fun w1 p2 => ?_)
  have p2z := p2.sz
  refine l_nil ?_
  exact end_norm (v := .tuple #[]) (res0 rfl) ⟨_, rfl, ⟨rfl, p2.fr, p2.at_⟩⟩

/-- strings.Builder.copyCheck -/
theorem copyCheck_used (w : World) (g : Nat) (v : Value) (hb : w.heap[g]? = some (.cells #[.pointer (some ⟨g, 0, none⟩), v] 76 (0, 0))) :
    Does Tryz.prog 58 #[.pointer (some ⟨g, 0, none⟩)] w fun r w' => r = .tuple #[] ∧ Fr [g] w w' ∧ w'.heap[g]? = some (.cells #[.pointer (some ⟨g, 0, none⟩), v] 76 (0, 0)) := by
  have hgl : g < w.heap.size := (Array.getElem?_eq_some_iff.1 hb).1
  refine Does.of (fn_in (l := [.pointer (some ⟨g, 0, none⟩)]) Tryz.func58 rfl Tryz.ntmps58 rfl ?_)
  refine wp_seq ?_
  refine r_start ?_
  refine l_v (v := .pointer (some ⟨g, 0, none⟩)) rfl rfl (by kernel_rfl) ?_
  refine l_v (v := .pointer (some ⟨g, 0, none⟩)) rfl rfl (by kernel_rfl) ?_
  refine l_v (v := .pointer (some ⟨g, 0, none⟩)) rfl rfl (r_field rfl rfl Tryz.underlying76 rfl (by kernel_rfl) rfl) ?_
  refine l_v (v := .pointer (some ⟨g, 0, none⟩)) rfl rfl (r_load rfl rfl Tryz.underlying74 rfl (cell_at hb rfl)) ?_
  refine l_v (v := .bool false) rfl rfl (by kernel_rfl) ?_
  refine l_nil ?_
  refine n_then ?_
  refine c_condF (e := false) rfl rfl ?_
  refine wp_seq ?_
  refine r_start ?_
  refine l_v (v := .pointer (some ⟨g, 0, none⟩)) rfl rfl (by kernel_rfl) ?_
  refine l_v (v := .pointer (some ⟨g, 0, none⟩)) rfl rfl (by kernel_rfl) ?_
  refine l_v (v := .pointer (some ⟨g, 0, none⟩)) rfl rfl (r_field rfl rfl Tryz.underlying76 rfl (by kernel_rfl) rfl) ?_
  refine l_v (v := .pointer (some ⟨g, 0, none⟩)) rfl rfl (r_load rfl rfl Tryz.underlying74 rfl (cell_at hb rfl)) ?_
  refine l_v (v := .pointer (some ⟨g, 0, none⟩)) rfl rfl (by kernel_rfl) ?_
  refine l_v (v := .bool false) rfl rfl (r_neq_same (j := (Tryz.prog.info? 76).get (by kernel_rfl)) rfl rfl rfl Tryz.underlying74 (by kernel_rfl)) ?_
  refine l_nil ?_
  refine n_then ?_
  refine c_condF (e := false) rfl rfl ?_
  refine wp_skip ?_
  exact end_norm (v := .tuple #[]) (res0 rfl) ⟨_, rfl, ⟨rfl, Fr.refl _ _, hb⟩⟩

theorem copyCheck_does (w : World) (g : Nat) (q : Option Addr) (v : Value) (hb : w.heap[g]? = some (.cells #[.pointer q, v] 76 (0, 0))) (hq : q = none ∨ q = some ⟨g, 0, none⟩) :
    Does Tryz.prog 58 #[.pointer (some ⟨g, 0, none⟩)] w fun r w' => r = .tuple #[] ∧ Fr [g] w w' ∧ w'.heap[g]? = some (.cells #[.pointer (some ⟨g, 0, none⟩), v] 76 (0, 0)) := by
  rcases hq with rfl | rfl
  · exact copyCheck_fresh w g v hb
  · exact copyCheck_used w g v hb

/-- strings.Builder.WriteString -/
theorem WriteString_does (w : World) (g base : Nat) (l m : List UInt8) (hB : Bld 76 5 base g w l) (hbw : base ≤ w.heap.size) (hl : l.length + m.length ≤ 68719476736) :
    Does Tryz.prog 30 #[.pointer (some ⟨g, 0, none⟩), .string ⟨(m).toArray⟩] w fun r w' => r = .tuple #[.int .i64 (m.length : Int), .nilIface] ∧ Bld 76 5 base g w' (l ++ m) ∧ ∃ M, (∀ k, k ∈ M → base ≤ k) ∧ Fr M w w' := by
  have hgl := hB.lt
  obtain ⟨q, v, hb, hq, ho, hbg⟩ := hB
  refine Does.of (fn_in (l := [.pointer (some ⟨g, 0, none⟩), .string ⟨(m).toArray⟩]) Tryz.func30 rfl Tryz.ntmps30 rfl ?_)
  refine wp_seq ?_
  refine r_start ?_
  refine l_v (v := .int .i64 0) rfl rfl (by kernel_rfl) ?_
  refine l_v (v := .nilIface) rfl rfl (by kernel_rfl) ?_
  refine l_nil ?_
  refine n_then ?_
  refine wp_seq ?_
  refine r_start ?_
  refine l_v (v := .pointer (some ⟨g, 0, none⟩)) rfl rfl (by kernel_rfl) ?_
  refine l_call rfl rfl (r_call (args := #[.pointer (some ⟨g, 0, none⟩)]) rfl e58 (am rfl)) (copyCheck_does w g q v hb hq) (fun v2 w3 h1 => ?_)
  obtain ⟨rfl, h1f, h1b⟩ := h1
  have h1z := h1f.size
  have ho1 := ho.fr h1f (by intro k_ hk_ hc_; rw [List.mem_singleton] at hc_; subst hc_; exact own_type ho hb (by decide) hk_)
  refine l_nil ?_
  refine n_then ?_
  refine wp_seq ?_
  refine r_start ?_
  refine l_v (v := .pointer (some ⟨g, 0, none⟩)) rfl rfl (by kernel_rfl) ?_
  refine l_v (v := .pointer (some ⟨g, 0, none⟩)) rfl rfl (by kernel_rfl) ?_
  refine l_v (v := .pointer (some ⟨g, 0, none⟩)) rfl rfl (by kernel_rfl) ?_
  refine l_v (v := .pointer (some ⟨g, 1, none⟩)) rfl rfl (r_field rfl rfl Tryz.underlying76 rfl (by kernel_rfl) rfl) ?_
  refine l_v (v := v) rfl rfl (r_load rfl rfl Tryz.underlying47 rfl (cell_at h1b rfl)) ?_
  refine l_v (v := .string ⟨(m).toArray⟩) rfl rfl (by kernel_rfl) ?_
  refine l_append_str (v := v) (base := base) (l := m) sl47 Tryz.underlying9 (by intro i_ hi_; obtain rfl := Option.some.inj (hi_.symm.trans (show Tryz.prog.info? 5 = some ((Tryz.prog.info? 5).get (by kernel_rfl)) from by kernel_rfl)); kernel_rfl) rfl rfl rfl rfl ho1 rfl (by omega) (by omega) (fun v2 w2 ho2 hf2 => ?_)
  have hf2z := hf2.size
  have hb2 := hf2.at h1b (by intro hc_; exact own_type ho1 h1b (by decide) (by simpa using hc_))
  obtain ⟨A2, c2, rfl, _⟩ := own_form ho2
  refine l_v (v := .pointer (some ⟨g, 0, none⟩)) rfl rfl (by kernel_rfl) ?_
  refine l_v (v := .pointer (some ⟨g, 1, none⟩)) rfl rfl (r_field rfl rfl Tryz.underlying76 rfl (by kernel_rfl) rfl) ?_
  refine l_store rfl rfl rfl (g := g) (off := 1) (v := .slice A2 (l.length + m.length) c2) (arr := #[.pointer (some ⟨g, 0, none⟩), .slice A2 (l.length + m.length) c2]) rfl rfl (by kernel_rfl) hb2 rfl (by simp [Value.cells, Value.oneCell']) rfl (fun w4 p5 => ?_)
  have p5z := p5.sz
  refine l_nil ?_
  refine n_then ?_
  refine wp_seq ?_
  refine r_start ?_
  refine l_v (v := .string ⟨(m).toArray⟩) rfl rfl (by kernel_rfl) ?_
  refine l_v (v := .int .i64 ((m).length : Int)) rfl rfl (r_lens rfl rfl Tryz.underlying9) ?_
  refine l_v (v := .int .i64 ((m).length : Int)) rfl rfl (by kernel_rfl) ?_
  refine l_v (v := .nilIface) rfl rfl (by kernel_rfl) ?_
  refine l_nil ?_
  refine n_then ?_
  refine wp_ret ?_
  have hoB : OwnB base 5 w2 (.slice A2 (l.length + m.length) c2) (l ++ m) := own_b ho2 (by rw [List.length_append]) (by rw [List.map_append])
  have hMM : ∀ k, k ∈ [g] ++ v.ownBlock.toList → base ≤ k := by
    intro k hk
    rcases List.mem_append.1 hk with hk | hk
    · rw [List.mem_singleton] at hk; omega
    · exact (ho.lt k (by simpa using hk)).1
  have hFF : Fr ([g] ++ v.ownBlock.toList) w w4 := ((h1f.mono (by intro k hk _; exact List.mem_append_left _ hk)).trans (hf2.mono (by intro k hk _; exact List.mem_append_right _ hk))).trans (p5.fr.mono (by intro k hk _; exact List.mem_append_left _ hk))
  exact end_ret (v := .tuple #[.int .i64 ((m).length : Int), .nilIface]) (res2 rfl rfl rfl) ⟨_, rfl, ⟨rfl, ⟨_, _, p5.at_, .inr rfl, hoB.fr p5.fr (by intro k_ hk_ hc_; rw [List.mem_singleton] at hc_; subst hc_; exact own_type ho2 hb2 (by decide) hk_), hbg⟩, _, hMM, hFF⟩⟩

end Go.Proofs.YtmhljojgdfmjaaaGreatDoor
