/- Lists of one's own in memory: rows that grow. Over any program. -/
import Derived.Test.YtmhljojgdfmjaaaGreatDoorRep
namespace Go.E
open Go
set_option linter.unusedVariables false
section
variable {α : Type} {R : Rp α} {base e : Nat} {B : List Nat} {w w' : World} {v v' : Value} {xs : List α}
/-- xs, in a row of one's own; B: blocks that are no part of it -/
def OwnL (R : Rp α) (base e : Nat) (B : List Nat) (w : World) (v : Value) (xs : List α) : Prop :=
  ∃ css : List (List Value), css.length = xs.length ∧ w.ownsRow base e R.n v xs.length css.flatten ∧
    (∀ (i : Nat) cs x, css[i]? = some cs → xs[i]? = some x → R.K (fun g => base ≤ g ∧ g ∉ B ∧ v.ownBlock ≠ some g) w cs x) ∧ ∀ g, v.ownBlock = some g → g ∉ B
theorem OwnL.nil (R : Rp α) (base e : Nat) (B : List Nat) (w : World) : OwnL R base e B w (.slice none 0 0) [] :=
  ⟨[], rfl, own_nil w base e R.n, by intro i cs x h; simp at h, by simp [Value.ownBlock]⟩
theorem OwnL.form (h : OwnL R base e B w v xs) : ∃ A c, v = .slice A xs.length c := by
  obtain ⟨css, _, h, _⟩ := h
  obtain ⟨A, c, hv, _⟩ := own_form h
  exact ⟨A, c, hv⟩
theorem OwnL.fr {M : List Nat} (h : OwnL R base e B w v xs) (hf : Fr M w w') (hM : ∀ k, k ∈ M → k ∈ B ∨ w.heap.size ≤ k) : OwnL R base e B w' v xs := by
  obtain ⟨css, h1, h2, h3, h4⟩ := h
  have hlt := h2.lt
  refine ⟨css, h1, own_fr h2 hf ?_, ?_, h4⟩
  · intro g hg hm
    rcases hM g hm with hb | hb
    · exact h4 g hg hb
    · have := (hlt g hg).2; omega
  · intro i cs x hc hx
    have hk := R.weak (ok' := fun g => (base ≤ g ∧ g ∉ B ∧ v.ownBlock ≠ some g) ∧ g < w.heap.size) (h3 i cs x hc hx) fun g hg ho => ⟨ho, hg⟩
    refine R.weak (R.fr hk hf ?_) fun g _ ho => ho.1
    intro g ho hm
    rcases hM g hm with hb | hb
    · exact ho.1.2.1 hb
    · have := ho.2; omega
theorem OwnL.lt_own (h : OwnL R base e B w v xs) (g : Nat) (hg : v.ownBlock = some g) : g < w.heap.size := by
  obtain ⟨css, _, h2, _⟩ := h
  exact (h2.lt g hg).2
theorem OwnL.low {b2 : Nat} (h : OwnL R base e B w v xs) (hb : b2 ≤ base) : OwnL R b2 e B w v xs := by
  obtain ⟨css, h1, h2, h3, h4⟩ := h
  refine ⟨css, h1, ⟨h2.1, ?_⟩, fun i cs x hc hx => R.weak (h3 i cs x hc hx) fun g _ ho => ⟨Nat.le_trans hb ho.1, ho.2⟩, h4⟩
  rcases h2.2 with h | ⟨g, cap, cur, hv, hg, hr⟩
  · exact .inl h
  · exact .inr ⟨g, cap, cur, hv, Nat.le_trans hb hg, hr⟩
theorem OwnL.fr0 (h : OwnL R base e B w v xs) (hf : Fr [] w w') : OwnL R base e B w' v xs := h.fr hf (by simp)
theorem OwnL.sl (h : OwnL R base e B w v xs) : Sl R (fun g => base ≤ g) w v xs := by
  obtain ⟨css, h1, h2, h3, h4⟩ := h
  exact Sl.own h2 rfl h1 (fun i cs x hc hx => R.weak (h3 i cs x hc hx) fun g _ ho => ho.1) fun g hg => (h2.lt g hg).1
theorem OwnL.own (h : OwnL R base e B w v xs) : ∃ css : List (List Value), w.ownsRow base e R.n v xs.length css.flatten ∧
    ∀ (cs : List Value) (x : α) (w1 : World) (v1 : Value), App base e R.n v v1 (xs.length + 1) (css.flatten ++ cs) w w1 → R.K (fun g => base ≤ g ∧ g ∉ B ∧ v.ownBlock ≠ some g) w cs x → (∀ k, k ∈ B → k < w.heap.size) → OwnL R base e B w1 v1 (xs ++ [x]) := by
  obtain ⟨css, h1, h2, h3, h4⟩ := h
  refine ⟨css, h2, ?_⟩
  intro cs x w1 v1 ha hk hB
  have hblk : ∀ g, g < w.heap.size → v.ownBlock ≠ some g → v1.ownBlock ≠ some g := by
    intro g hg hn hc
    rcases ha.blk g hc with h | h
    · exact hn h
    · omega
  have hK : ∀ (cs : List Value) (x : α), R.K (fun g => base ≤ g ∧ g ∉ B ∧ v.ownBlock ≠ some g) w cs x → R.K (fun g => base ≤ g ∧ g ∉ B ∧ v1.ownBlock ≠ some g) w1 cs x := by
    intro cs x hk
    have h5 := R.weak (ok' := fun g => (base ≤ g ∧ g ∉ B ∧ v.ownBlock ≠ some g) ∧ g < w.heap.size) hk fun g hg ho => ⟨ho, hg⟩
    refine R.weak (R.fr h5 ha.fr ?_) fun g _ ho => ⟨ho.1.1, ho.1.2.1, hblk g ho.2 ho.1.2.2⟩
    intro g ho hm
    exact ho.1.2.2 (by simpa using hm)
  refine ⟨css ++ [cs], by simp [h1], ?_, ?_, ?_⟩
  · have := ha.own
    simpa using this
  · intro i cs' x' hc hx
    by_cases hi : i < xs.length
    · rw [List.getElem?_append_left (by omega)] at hc
      rw [List.getElem?_append_left hi] at hx
      exact hK _ _ (h3 i cs' x' hc hx)
    · have hi2 : i = xs.length := by
        have := (List.getElem?_eq_some_iff.1 hx).1
        simp at this; omega
      subst hi2
      rw [List.getElem?_append_right (by omega), h1] at hc
      rw [List.getElem?_append_right (by omega)] at hx
      simp at hc hx
      subst hc; subst hx
      exact hK _ _ hk
  · intro g hg hb
    rcases ha.blk g hg with h | h
    · exact h4 g h hb
    · have := hB g hb; omega
end
end Go.E
