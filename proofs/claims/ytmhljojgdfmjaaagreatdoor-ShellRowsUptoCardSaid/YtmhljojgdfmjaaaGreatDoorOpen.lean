/- Arguments read off their data: how a reading of plain data says what lies in memory. -/
import Derived.Test.YtmhljojgdfmjaaaGreatDoorRep
import Derived.Test.YtmhljojgdfmjaaaGreatDoorBulk
import Derived.ProofKit
namespace Go.E
open Go Go.Proofs.YtmhljojgdfmjaaaGreatDoor
set_option linter.unusedVariables false
def Opens {α : Type} (P : Program) (t : TypeId) (R : Rp α) (μ : α → Nat) : Prop :=
  ∀ (H : Type) (enc : TypeId × Value → H) (w : World) (base : Nat) (sp : Nat → Bool) (held : Bool) (fuel : Nat) (cs : List Value) (x : DataW H × List MemPlace), DataW.trod enc P w base sp held fuel t cs = some x → Rows.uptoBulk x.1 ≤ 1048576 →
    ∃ y, R.K (fun _ => True) w cs y ∧ μ y + 1 ≤ Rows.uptoBulk x.1
variable {P : Program} {t e : TypeId}
theorem opens_int {k : IntKind} (ht : P.underlying t = some (.int k)) : Opens P t (Rp.int k) fun _ => 0 := by
  intro H enc w base sp held fuel cs x h hb
  obtain ⟨n, rfl, rfl, hw⟩ := DataW.trod_int ht h
  simp only [Lit.wf, Bool.and_eq_true, decide_eq_true_eq] at hw
  exact ⟨n, ⟨rfl, hw.1, hw.2⟩, by simp [Rows.uptoBulk]⟩
theorem opens_u8 (ht : P.underlying t = some (.int .u8)) : Opens P t Rp.u8 fun _ => 0 := by
  intro H enc w base sp held fuel cs x h hb
  obtain ⟨n, rfl, rfl, hw⟩ := DataW.trod_int ht h
  simp only [Lit.wf, Bool.and_eq_true, decide_eq_true_eq] at hw
  have h1 : IntKind.u8.min = 0 := rfl
  have h2 : IntKind.u8.max = 255 := rfl
  rw [h1, h2] at hw
  refine ⟨UInt8.ofNat n.toNat, ?_, by simp [Rows.uptoBulk]⟩
  show [Value.int .u8 n] = [.int .u8 ((UInt8.ofNat n.toNat).toNat : Int)]
  rw [UInt8.toNat_ofNat']
  congr 2; omega
theorem opens_bool (ht : P.underlying t = some .bool) : Opens P t Rp.bool fun _ => 0 := by
  intro H enc w base sp held fuel cs x h hb
  obtain ⟨n, rfl, rfl⟩ := DataW.trod_bool ht h
  exact ⟨n, rfl, by simp [Rows.uptoBulk]⟩
theorem opens_str (ht : P.underlying t = some .string) : Opens P t Rp.str List.length := by
  intro H enc w base sp held fuel cs x h hb
  obtain ⟨⟨⟨l⟩⟩, rfl, rfl, hw⟩ := DataW.trod_string ht h
  exact ⟨l, rfl, by simp [Rows.uptoBulk]⟩
theorem pick_list {α β : Type} {Q : Nat → α → β → Prop} (xs : List α) (h : ∀ i x, xs[i]? = some x → ∃ y, Q i x y) : ∃ ys : List β, ys.length = xs.length ∧ ∀ i x y, xs[i]? = some x → ys[i]? = some y → Q i x y := by
  induction xs generalizing Q with
  | nil => exact ⟨[], rfl, fun i x y h => by simp at h⟩
  | cons a r ih =>
    obtain ⟨y, hy⟩ := h 0 a rfl
    obtain ⟨ys, hl, hq⟩ := ih (Q := fun i => Q (i + 1)) fun i x hx => h (i + 1) x (by simpa using hx)
    refine ⟨y :: ys, by simp [hl], ?_⟩
    intro i x z h1 h2
    cases i with
    | zero => simp at h1 h2; subst h1; subst h2; exact hy
    | succ i => exact hq i x z (by simpa using h1) (by simpa using h2)
theorem bulk_sum {α H : Type} {μ : α → Nat} : ∀ (xs : List (DataW H × List MemPlace)) (ys : List α), ys.length = xs.length → (∀ (i : Nat) (x : DataW H × List MemPlace) (y : α), xs[i]? = some x → ys[i]? = some y → μ y + 1 ≤ Rows.uptoBulk x.1) → (ys.map fun y => μ y + 1).sum ≤ Rows.uptoBulkAll (xs.map (·.1))
  | [], [], _, _ => by simp
  | [], _ :: _, h, _ => by simp at h
  | _ :: _, [], h, _ => by simp at h
  | x :: xs, y :: ys, hl, h => by
    have h1 := bulk_sum xs ys (by simpa using hl) fun i x y hx hy => h (i + 1) x y (by simpa using hx) (by simpa using hy)
    have h2 := h 0 x y rfl rfl
    simp only [List.map_cons, List.sum_cons, Rows.uptoBulkAll]
    omega
theorem opens_slice {α : Type} {R : Rp α} {μ : α → Nat} (ht : P.underlying t = some (.slice e)) (hc : P.cellsOf e = R.n) (hp : 0 < R.n) (he : Opens P e R μ) : Opens P t (Rp.slice R) fun l => (l.map fun y => μ y + 1).sum := by
  intro H enc w base sp held fuel cs x h hb
  rcases DataW.trod_slice ht h with ⟨rfl, rfl⟩ | ⟨a, len, cap, elems, rest, n, rfl, rfl, rfl, hba, hcap, hmax, hlen, hel, _, _⟩
  · exact ⟨[], ⟨_, rfl, Sl.nil _ _ _⟩, by simp [Rows.uptoBulk]⟩
  · have hbulk : Rows.uptoBulk (DataW.slice (elems.map (·.1)) (rest.map (·.1)) : DataW H) = Rows.uptoBulkAll (elems.map (·.1)) + Rows.uptoBulkAll (rest.map (·.1)) + 1 := by simp [Rows.uptoBulk]
    rw [hbulk] at hb
    have hone : ∀ i x, elems[i]? = some x → ∃ y, (∃ cs, w.cells? base (a.add (i * R.n)) R.n = some cs ∧ R.K (fun _ => True) w cs y) ∧ μ y + 1 ≤ Rows.uptoBulk x.1 := by
      intro i x hx
      have hi : i < len := by have := (List.getElem?_eq_some_iff.1 hx).1; omega
      have := hel i hi
      rw [hx, hc] at this
      obtain ⟨cs, hcs, htr⟩ := Option.bind_eq_some_iff.1 this
      have hxb : Rows.uptoBulk x.1 ≤ 1048576 := by
        have := bulks.part_le (d := x.1) (l := elems.map (·.1)) (List.mem_map.2 ⟨x, List.mem_of_getElem? hx, rfl⟩)
        omega
      obtain ⟨y, hy, hm⟩ := he H enc w base sp held n cs x htr hxb
      exact ⟨y, ⟨cs, hcs, hy⟩, hm⟩
    obtain ⟨ys, hyl, hys⟩ := pick_list elems hone
    refine ⟨ys, ⟨_, rfl, some a, cap, by rw [hyl, hlen], by omega, ?_⟩, ?_⟩
    · intro i y hy
      have hil : i < elems.length := by have := (List.getElem?_eq_some_iff.1 hy).1; omega
      have cell0 : ∀ (i : Nat) (y : α) (hi : i < elems.length), ys[i]? = some y → ∃ cs, R.K (fun _ => True) w cs y ∧ ∀ j, j < R.n → w.cell? ((a.add (i * R.n)).add j) = cs[j]? := by
        intro i y hi hy
        obtain ⟨⟨cs, hcs, hk⟩, _⟩ := hys i elems[i] y (List.getElem?_eq_getElem hi) hy
        exact ⟨cs, hk, (World.cells?_some hcs).2.2⟩
      have hspot : a.spot = none := by
        have hy0 : ys[0]? = some (ys[0]'(by omega)) := List.getElem?_eq_getElem (by omega)
        obtain ⟨cs, hk, hcell⟩ := cell0 0 _ (by omega) hy0
        have h1 := hcell 0 hp
        have hkl := R.len hk
        rw [List.getElem?_eq_getElem (by omega)] at h1
        simpa [Addr.add] using World.cell?_spot h1
      obtain ⟨cs, hk, hcell⟩ := cell0 i y hil hy
      have hkl := R.len hk
      obtain ⟨g, off, spot⟩ := a
      simp only at hspot
      subst hspot
      refine ⟨g, off, cs, rfl, trivial, ?_, hk, ?_⟩
      · have h1 := hcell 0 hp
        rw [List.getElem?_eq_getElem (by omega), Addr.add_mid, Addr.add_mid] at h1
        exact World.block_lt_of_cell? w _ h1
      · intro j v hj
        have hjl : j < R.n := by have := (List.getElem?_eq_some_iff.1 hj).1; omega
        have h1 := hcell j hjl
        rw [Addr.add_mid, Addr.add_mid, hj] at h1
        exact h1
    · have := bulk_sum (μ := μ) elems ys hyl fun i x y hx hy => (hys i x y hx hy).2
      show (ys.map fun y => μ y + 1).sum + 1 ≤ Rows.uptoBulk (DataW.slice (elems.map (·.1)) (rest.map (·.1)) : DataW H)
      rw [hbulk]; omega
end Go.E
