/- The ends of the document's reader of rows; lines. No program here. -/
import Derived.Test.YtmhljojgdfmjaaaGreatDoorRef
set_option linter.unusedSimpArgs false
namespace Go.Sh
open Go
/-- what an end says -/
def Fin (s : List UInt8) (ok : Bool) (e : Rw) : Prop := ok = (rRow s).isSome ∧ ∀ y, rRow s = some y → e = y
theorem Fin.no {s : List UInt8} {e : Rw} (h : rRow s = none) : Fin s false e := ⟨by rw [h]; rfl, by rw [h]; intro y hy; cases hy⟩
theorem Fin.yes {s : List UInt8} {e : Rw} (h : rRow s = some e) : Fin s true e := ⟨by rw [h]; rfl, by rw [h]; intro y hy; exact Option.some.inj hy⟩
section
variable {s : List UInt8}
theorem kindR_pos (h : ¬ kindOf (lettersW s) < 1) : kindR (lettersW s) = kindOf (lettersW s) := if_neg h
theorem bad_kind (h : kindOf (lettersW s) < 1) : rRow s = none := by unfold rRow; rw [if_pos h]
theorem bad_blank (h : bB (lettersR s) = true) : rRow s = none := by unfold rRow; by_cases h1 : kindOf (lettersW s) < 1; rw [if_pos h1]; rw [if_neg h1, if_pos h]
theorem fin_err {x : Int} {s3 : List UInt8} (h3 : s3 = lettersR (bS (lettersR s))) (ht : lettersW (bS (lettersR s)) = errorW) (hx : ∀ v, numOk (lettersW (bS s3)) = some v → x = v) :
    Fin s (!(decide (kindOf (lettersW s) < 1) || bB (lettersR s) || (bB s3 || (numOk (lettersW (bS s3))).isNone)) && decide (lettersR (bS s3) = []) && (x != 0)) ⟨kindR (lettersW s), x, 0, 0, [], false⟩ := by
  by_cases h1 : kindOf (lettersW s) < 1
  · simpa [h1] using Fin.no (e := ⟨kindR (lettersW s), x, 0, 0, [], false⟩) (bad_kind h1)
  · cases h2 : bB (lettersR s) with
    | true => simpa using Fin.no (e := ⟨kindR (lettersW s), x, 0, 0, [], false⟩) (bad_blank h2)
    | false =>
      have hr : rRow s = match rNum s3 with | some (x, r) => if r = [] ∧ x ≠ 0 then some ⟨kindOf (lettersW s), x, 0, 0, [], false⟩ else none | none => none := by
        unfold rRow; rw [if_neg h1, if_neg (by simp [h2]), if_pos ht, ← h3]; rcases rNum s3 with _ | ⟨_, _⟩ <;> rfl
      rw [kindR_pos h1]
      unfold rNum at hr
      cases h4 : bB s3 with
      | true => rw [h4] at hr; simpa using Fin.no (e := ⟨kindOf (lettersW s), x, 0, 0, [], false⟩) hr
      | false =>
        rw [h4] at hr
        cases h5 : numOk (lettersW (bS s3)) with
        | none => rw [h5] at hr; simpa using Fin.no (e := ⟨kindOf (lettersW s), x, 0, 0, [], false⟩) hr
        | some v =>
          obtain rfl := hx v h5
          rw [h5] at hr
          simp only [Bool.false_eq_true, if_false, Option.map_some] at hr
          by_cases h6 : lettersR (bS s3) = [] ∧ x ≠ 0
          · rw [if_pos h6] at hr
            have hx0 : (x != 0) = true := by simpa using h6.2
            simpa [h1, h6.1, hx0] using Fin.yes hr
          · rw [if_neg h6] at hr
            have : (decide (lettersR (bS s3) = []) && (x != 0)) = false := by
              rw [Bool.eq_false_iff]; intro hc; simp at hc; exact h6 hc
            simp only [h1, decide_false, Bool.or_self, Option.isNone_some, Bool.not_false, Bool.true_and, Bool.or_false, this]
            exact Fin.no hr
theorem fin_no (ht : ¬ lettersW (bS (lettersR s)) = errorW) (h : ¬ lettersW (bS (lettersR s)) = okW ∨ kindOf (lettersW s) < 1 ∨ bB (lettersR s) = true) (e : Rw) : Fin s false e := by
  refine Fin.no ?_
  by_cases h1 : kindOf (lettersW s) < 1
  · exact bad_kind h1
  · cases h2 : bB (lettersR s) with
    | true => exact bad_blank h2
    | false =>
      have h3 : ¬ lettersW (bS (lettersR s)) = okW := by
        rcases h with h | h | h
        · exact h
        · exact absurd h h1
        · rw [h2] at h; cases h
      unfold rRow; rw [if_neg h1, if_neg (by simp [h2]), if_neg ht, if_pos h3]
theorem to_ok (h1 : ¬ kindOf (lettersW s) < 1) (h2 : bB (lettersR s) = false) (ht : lettersW (bS (lettersR s)) = okW) : ∀ {α : Type} (A B C : α), (if kindOf (lettersW s) < 1 then A else if bB (lettersR s) then B else C) = C := by
  intro α A B C; rw [if_neg h1, if_neg (by simp [h2])]
theorem fin_k1 {x : Int} {s3 : List UInt8} (h3 : s3 = lettersR (bS (lettersR s))) (h1 : ¬ kindOf (lettersW s) < 1) (h2 : bB (lettersR s) = false) (ht : lettersW (bS (lettersR s)) = okW) (hk : kindR (lettersW s) = 1) (hx : ∀ v, numOk (lettersW (bS s3)) = some v → x = v) :
    Fin s (!(bB s3 || (numOk (lettersW (bS s3))).isNone) && decide (lettersR (bS s3) = [])) ⟨kindR (lettersW s), 0, x, 0, [], false⟩ := by
  have hne : ¬ okW = errorW := by decide
  rw [kindR_pos h1] at hk ⊢
  have hr : rRow s = match rNum s3 with | some (x, r) => if r = [] then some ⟨kindOf (lettersW s), 0, x, 0, [], false⟩ else none | none => none := by
    unfold rRow; rw [if_neg h1, if_neg (by simp [h2]), ht, if_neg hne, if_neg (by simp), if_pos hk, ← h3]; rcases rNum s3 with _ | ⟨_, _⟩ <;> rfl
  unfold rNum at hr
  cases h4 : bB s3 with
  | true => rw [h4] at hr; simpa using Fin.no hr
  | false =>
    rw [h4] at hr
    cases h5 : numOk (lettersW (bS s3)) with
    | none => rw [h5] at hr; simpa using Fin.no hr
    | some v =>
      obtain rfl := hx v h5
      rw [h5] at hr
      simp only [Bool.false_eq_true, if_false, Option.map_some] at hr
      by_cases h6 : lettersR (bS s3) = []
      · rw [if_pos h6] at hr; simpa [h6] using Fin.yes hr
      · rw [if_neg h6] at hr; simpa [h6] using Fin.no hr
theorem fin_k5 {x : Int} {s3 : List UInt8} (h3 : s3 = lettersR (bS (lettersR s))) (h1 : ¬ kindOf (lettersW s) < 1) (h2 : bB (lettersR s) = false) (ht : lettersW (bS (lettersR s)) = okW) (hk : kindR (lettersW s) = 5) (hx : ∀ v, numOk (lettersW (bS s3)) = some v → x = v) :
    Fin s (!(bB s3 || (numOk (lettersW (bS s3))).isNone) && decide (lettersR (bS s3) = [])) ⟨kindR (lettersW s), 0, 0, x, [], false⟩ := by
  have hne : ¬ okW = errorW := by decide
  rw [kindR_pos h1] at hk ⊢
  have hr : rRow s = match rNum s3 with | some (x, r) => if r = [] then some ⟨kindOf (lettersW s), 0, 0, x, [], false⟩ else none | none => none := by
    unfold rRow; rw [if_neg h1, if_neg (by simp [h2]), ht, if_neg hne, if_neg (by simp), if_neg (by omega), if_pos hk, ← h3]; rcases rNum s3 with _ | ⟨_, _⟩ <;> rfl
  unfold rNum at hr
  cases h4 : bB s3 with
  | true => rw [h4] at hr; simpa using Fin.no hr
  | false =>
    rw [h4] at hr
    cases h5 : numOk (lettersW (bS s3)) with
    | none => rw [h5] at hr; simpa using Fin.no hr
    | some v =>
      obtain rfl := hx v h5
      rw [h5] at hr
      simp only [Bool.false_eq_true, if_false, Option.map_some] at hr
      by_cases h6 : lettersR (bS s3) = []
      · rw [if_pos h6] at hr; simpa [h6] using Fin.yes hr
      · rw [if_neg h6] at hr; simpa [h6] using Fin.no hr
theorem row_k2 {s3 : List UInt8} (h3 : s3 = lettersR (bS (lettersR s))) (h1 : ¬ kindOf (lettersW s) < 1) (h2 : bB (lettersR s) = false) (ht : lettersW (bS (lettersR s)) = okW) (hk : kindR (lettersW s) = 2) :
    rRow s = if bB s3 then none else match unq (bS s3) with
    | some (b, r) => if bB r then none else if (lettersW (bS r) = endedW ∨ lettersW (bS r) = openW) ∧ lettersR (bS r) = [] then some ⟨kindR (lettersW s), 0, 0, 0, b, decide (lettersW (bS r) = endedW)⟩ else none
    | none => none := by
  have hne : ¬ okW = errorW := by decide
  rw [kindR_pos h1] at hk ⊢
  unfold rRow; rw [if_neg h1, if_neg (by simp [h2]), ht, if_neg hne, if_neg (by simp), if_neg (by omega), if_neg (by omega), if_pos hk, ← h3]; rcases unq (bS s3) with _ | ⟨_, _⟩ <;> rfl
theorem fin_k2 {s3 s4 : List UInt8} (h3 : s3 = lettersR (bS (lettersR s))) (h4 : s4 = (unqR (bS s3)).2.1) (h1 : ¬ kindOf (lettersW s) < 1) (h2 : bB (lettersR s) = false) (ht : lettersW (bS (lettersR s)) = okW) (hk : kindR (lettersW s) = 2) (he : lettersW (bS s4) = endedW ∨ lettersW (bS s4) = openW) :
    Fin s (!(bB s3 || !(unqR (bS s3)).2.2 || bB s4) && decide (lettersR (bS s4) = [])) ⟨kindR (lettersW s), 0, 0, 0, (unqR (bS s3)).1, decide (lettersW (bS s4) = endedW)⟩ := by
  have hr := row_k2 h3 h1 h2 ht hk
  cases h5 : bB s3 with
  | true => rw [h5] at hr; simpa using Fin.no hr
  | false =>
    rw [h5] at hr
    simp only [Bool.false_eq_true, if_false] at hr
    unfold unqR at h4 ⊢
    cases h6 : unq (bS s3) with
    | none => rw [h6] at hr; simpa using Fin.no hr
    | some p =>
      obtain ⟨b, r⟩ := p
      rw [h6] at hr h4
      simp only at hr h4
      subst h4
      cases h7 : bB s4 with
      | true => rw [h7] at hr; simpa using Fin.no hr
      | false =>
        rw [h7] at hr
        simp only [Bool.false_eq_true, if_false] at hr
        by_cases h8 : lettersR (bS s4) = []
        · rw [if_pos ⟨he, h8⟩] at hr; simpa [h8] using Fin.yes hr
        · rw [if_neg (fun h => h8 h.2)] at hr; simpa [h8] using Fin.no hr
theorem fin_k2no {s3 s4 : List UInt8} (h3 : s3 = lettersR (bS (lettersR s))) (h4 : s4 = (unqR (bS s3)).2.1) (h1 : ¬ kindOf (lettersW s) < 1) (h2 : bB (lettersR s) = false) (ht : lettersW (bS (lettersR s)) = okW) (hk : kindR (lettersW s) = 2) (he : ¬ (lettersW (bS s4) = endedW ∨ lettersW (bS s4) = openW)) (e : Rw) : Fin s false e := by
  have hr := row_k2 h3 h1 h2 ht hk
  refine Fin.no ?_
  rw [hr]
  split
  · rfl
  · unfold unqR at h4
    cases h6 : unq (bS s3) with
    | none => rfl
    | some p =>
      obtain ⟨b, r⟩ := p
      rw [h6] at h4
      simp only at h4
      subst h4
      simp only
      split
      · rfl
      · rw [if_neg (fun h => he h.1)]
theorem fin_bare {s3 : List UInt8} (h3 : s3 = lettersR (bS (lettersR s))) (h1 : ¬ kindOf (lettersW s) < 1) (h2 : bB (lettersR s) = false) (ht : lettersW (bS (lettersR s)) = okW) (hk : ¬ kindR (lettersW s) = 1 ∧ ¬ kindR (lettersW s) = 5 ∧ ¬ kindR (lettersW s) = 2) :
    Fin s (decide (s3 = [])) ⟨kindR (lettersW s), 0, 0, 0, [], false⟩ := by
  have hne : ¬ okW = errorW := by decide
  rw [kindR_pos h1] at hk ⊢
  have hr : rRow s = if s3 = [] then some ⟨kindOf (lettersW s), 0, 0, 0, [], false⟩ else none := by
    unfold rRow; rw [if_neg h1, if_neg (by simp [h2]), ht, if_neg hne, if_neg (by simp), if_neg hk.1, if_neg hk.2.1, if_neg hk.2.2, ← h3]
  by_cases h6 : s3 = []
  · rw [if_pos h6] at hr; simpa [h6] using Fin.yes hr
  · rw [if_neg h6] at hr; simpa [h6] using Fin.no hr
theorem Fin.parse {ok : Bool} {e : Rw} (hl : s.length ≤ 1048576) (h : Fin s ok e) : ok = (parseRw s).isSome ∧ ∀ y, parseRw s = some y → e = y := by
  unfold Fin at h; rwa [rRow_eq hl] at h
theorem kindR_b (s : List UInt8) : 0 ≤ kindR s ∧ kindR s ≤ 9 := by
  have := kindOf_b s
  unfold kindR; split <;> omega
end
/-! ### lines -/
theorem linesL_fuel : ∀ (k k' : Nat) (t : List UInt8), t.length ≤ k → t.length ≤ k' → linesL k t = linesL k' t
  | 0, k', t, h, _ => by
    have : t = [] := by simpa using h
    subst this; cases k' <;> simp [linesL]
  | k + 1, 0, t, _, h => by
    have : t = [] := by simpa using h
    subst this; simp [linesL]
  | k + 1, k' + 1, t, h, h' => by
    by_cases ht : t = []
    · subst ht; simp [linesL]
    · have hl := restOf_lt ht
      rw [linesL, linesL, if_neg ht, if_neg ht, linesL_fuel k k' (restOf t) (by omega) (by omega)]
def linesX (t : List UInt8) : List (List UInt8) × Bool := linesL t.length t
theorem linesX_nil : linesX [] = ([], true) := rfl
theorem linesX_cut {t : List UInt8} {n : Nat} (h : Lib.indexByte t 10 = (n : Int)) : linesX t = (t.take n :: (linesX (t.drop (n + 1))).1, (linesX (t.drop (n + 1))).2) := by
  have ht : t ≠ [] := by rintro rfl; simp [Lib.indexByte] at h
  have hl := restOf_lt ht
  have hr : restOf t = t.drop (n + 1) := by unfold restOf; rw [h, if_pos (by omega)]; congr 1
  have hp : 0 < t.length := List.length_pos_iff.2 ht
  unfold linesX
  obtain ⟨k, hk⟩ : ∃ k, t.length = k + 1 := ⟨t.length - 1, by omega⟩
  rw [hk, linesL, if_neg ht, if_pos (by omega), h, linesL_fuel k (restOf t).length (restOf t) (by omega) (Nat.le_refl _), hr]
  rfl
theorem linesX_end {t : List UInt8} (ht : t ≠ []) (h : Lib.indexByte t 10 < 0) : linesX t = ([t], false) := by
  have hp : 0 < t.length := List.length_pos_iff.2 ht
  unfold linesX
  obtain ⟨k, hk⟩ : ∃ k, t.length = k + 1 := ⟨t.length - 1, by omega⟩
  rw [hk, linesL, if_neg ht, if_neg (by omega)]
theorem idx_first : ∀ {t : List UInt8} {n : Nat}, (∀ j, j < n → t.getD j 0 ≠ 10) → n < t.length → t.getD n 0 = 10 → Lib.indexByte t 10 = (n : Int)
  | [], n, _, h, _ => by simp at h
  | c :: r, 0, _, _, h => by
    have : c = 10 := h
    subst this; simp [Lib.indexByte]
  | c :: r, n + 1, h1, h2, h3 => by
    have hc : (c == 10) = false := by rw [beq_eq_false_iff_ne]; simpa using h1 0 (by omega)
    have := idx_first (t := r) (n := n) (fun j hj => by simpa using h1 (j + 1) (by omega)) (by simpa using h2) (by simpa using h3)
    rw [Lib.indexByte, hc, this]
    have h4 : ((n : Int) == -1) = false := by rw [beq_eq_false_iff_ne]; omega
    simp [h4]
theorem idx_never : ∀ {t : List UInt8}, (∀ j, j < t.length → t.getD j 0 ≠ 10) → Lib.indexByte t 10 < 0
  | [], _ => by simp [Lib.indexByte]
  | c :: r, h => by
    have hc : (c == 10) = false := by rw [beq_eq_false_iff_ne]; simpa using h 0 (by simp)
    have := idx_never (t := r) fun j hj => by simpa using h (j + 1) (by simpa using hj)
    have hg := Lib.indexByte_ge r 10
    have he : Lib.indexByte r 10 = -1 := by omega
    rw [Lib.indexByte, hc, he]; simp
theorem getD_drop (s : List UInt8) (i j : Nat) : (s.drop i).getD j 0 = s.getD (i + j) 0 := by
  simp [List.getD, List.getElem?_drop]
/-- at a line's end -/
theorem lines_step {s : List UInt8} {l : List (List UInt8)} {fr i : Nat} (h : linesX s = (l ++ (linesX (s.drop fr)).1, (linesX (s.drop fr)).2)) (hf : fr ≤ i) (hi : i < s.length) (hn : ∀ j, fr ≤ j → j < i → s.getD j 0 ≠ 10) (h10 : s.getD i 0 = 10) :
    linesX s = ((l ++ [(s.drop fr).take (i - fr)]) ++ (linesX (s.drop (i + 1))).1, (linesX (s.drop (i + 1))).2) := by
  have hx : Lib.indexByte (s.drop fr) 10 = ((i - fr : Nat) : Int) := by
    refine idx_first (fun j hj => ?_) (by rw [List.length_drop]; omega) ?_
    · rw [getD_drop]; exact hn _ (by omega) (by omega)
    · rw [getD_drop, show fr + (i - fr) = i by omega]; exact h10
  have hc := linesX_cut hx
  rw [List.drop_drop, show fr + (i - fr + 1) = i + 1 by omega] at hc
  rw [h, hc]; simp
theorem lines_rest {s : List UInt8} {l : List (List UInt8)} {fr : Nat} (h : linesX s = (l ++ (linesX (s.drop fr)).1, (linesX (s.drop fr)).2)) (hf : fr < s.length) (hn : ∀ j, fr ≤ j → j < s.length → s.getD j 0 ≠ 10) : linesX s = (l ++ [s.drop fr], false) := by
  have hne : s.drop fr ≠ [] := by intro hc; have := congrArg List.length hc; rw [List.length_drop] at this; simp at this; omega
  rw [h, linesX_end hne (idx_never fun j hj => by rw [List.length_drop] at hj; rw [getD_drop]; exact hn _ (by omega) (by omega))]
theorem lines_all {s : List UInt8} {l : List (List UInt8)} {fr : Nat} (h : linesX s = (l ++ (linesX (s.drop fr)).1, (linesX (s.drop fr)).2)) (hf : s.length ≤ fr) : linesX s = (l, true) := by
  rw [h, List.drop_eq_nil_of_le hf, linesX_nil]; simp
/-! ### the answer, line by line -/
def rprs {α : Type} (f : List UInt8 → Option α) (ended : Bool) : List (List UInt8) → List α → List α × Int × Int
  | [], acc => (acc, 0, 0)
  | x :: r, acc => match f x with
    | none => ([], (acc.length : Int) + 1, 5)
    | some e => if ended = false ∧ r = [] then ([], (acc.length : Int) + 1, 5) else rprs f ended r (acc ++ [e])
theorem linesL_open : ∀ (k : Nat) (t : List UInt8), t.length ≤ k → (linesL k t).2 = false → (linesL k t).1 ≠ []
  | 0, t, _, h => by simp [linesL] at h
  | k + 1, t, hk, h => by
    rw [linesL] at h ⊢
    split at h
    · cases h
    · rename_i ht
      rw [if_neg ht]
      split at h
      · rename_i hi; rw [if_pos hi]; simp
      · rename_i hi; rw [if_neg hi]; simp
theorem rprs_eq {α : Type} (f : List UInt8 → Option α) : ∀ (k : Nat) (t : List UInt8) (acc : List α), t.length ≤ k → rprs f (linesL k t).2 (linesL k t).1 acc = prs f k t acc
  | 0, t, acc, h => by simp [linesL, rprs, prs]
  | k + 1, t, acc, h => by
    by_cases ht : t = []
    · subst ht; simp [linesL, rprs, prs]
    · have hl := restOf_lt ht
      rw [linesL, prs, if_neg ht, if_neg ht]
      by_cases hi : 0 ≤ Lib.indexByte t 10
      · rw [if_pos hi]
        simp only [rprs]
        have hlt := idx_lt hi
        have hx : lineOf t = t.take (Lib.indexByte t 10).toNat ++ [10] := by
          obtain ⟨n, hn⟩ := Int.eq_ofNat_of_zero_le hi
          unfold lineOf
          rw [if_pos hi, hn]
          have h10 : t[n]? = some 10 := (Lib.indexByte_some hn).1
          obtain ⟨hnl, hv⟩ := List.getElem?_eq_some_iff.1 h10
          have e1 : ((n : Int) + 1).toNat = n + 1 := by omega
          have e2 : ((n : Nat) : Int).toNat = n := by omega
          rw [e1, e2, List.take_succ_eq_append_getElem hnl, hv]
        have hv : lineVal f (lineOf t) = f (t.take (Lib.indexByte t 10).toNat) := by
          unfold lineVal; rw [hx, suffix_nl, trim_nl]; rfl
        rw [hv]
        cases hf : f (t.take (Lib.indexByte t 10).toNat) with
        | none => rfl
        | some e =>
          simp only
          rw [if_neg (fun hc => linesL_open k (restOf t) (by omega) hc.1 hc.2)]
          exact rprs_eq f k (restOf t) (acc ++ [e]) (by omega)
      · rw [if_neg hi]
        have hlo : lineOf t = t := by unfold lineOf; rw [if_neg hi]
        have hv : lineVal f (lineOf t) = none := by
          unfold lineVal
          rw [if_neg]
          intro hs
          exact hi (suffix_idx hs)
        rw [hv]
        simp only [rprs]
        cases f t with
        | none => rfl
        | some e => simp
theorem rprs_none {α : Type} {f : List UInt8 → Option α} {ended : Bool} {ls : List (List UInt8)} {i : Nat} {x : List UInt8} {acc : List α} (hx : ls[i]? = some x) (h : f x = none) : rprs f ended (ls.drop i) acc = ([], (acc.length : Int) + 1, 5) := by
  obtain ⟨hi, rfl⟩ := List.getElem?_eq_some_iff.1 hx
  rw [List.drop_eq_getElem_cons hi, rprs, h]
theorem rprs_last {α : Type} {f : List UInt8 → Option α} {ls : List (List UInt8)} {i : Nat} {x : List UInt8} {acc : List α} {e : α} (hx : ls[i]? = some x) (h : f x = some e) (hl : i + 1 = ls.length) : rprs f false (ls.drop i) acc = ([], (acc.length : Int) + 1, 5) := by
  obtain ⟨hi, rfl⟩ := List.getElem?_eq_some_iff.1 hx
  rw [List.drop_eq_getElem_cons hi, rprs, h]
  simp only
  have hnil : ls.drop (i + 1) = [] := List.drop_eq_nil_of_le (by omega)
  simp [hnil]
theorem rprs_some {α : Type} {f : List UInt8 → Option α} {ended : Bool} {ls : List (List UInt8)} {i : Nat} {x : List UInt8} {acc : List α} {e : α} (hx : ls[i]? = some x) (h : f x = some e) (hl : ¬ (ended = false ∧ i + 1 = ls.length)) : rprs f ended (ls.drop i) acc = rprs f ended (ls.drop (i + 1)) (acc ++ [e]) := by
  obtain ⟨hi, rfl⟩ := List.getElem?_eq_some_iff.1 hx
  rw [List.drop_eq_getElem_cons hi, rprs, h]
  simp only
  rw [if_neg]
  rintro ⟨h1, h2⟩
  refine hl ⟨h1, ?_⟩
  have := congrArg List.length h2
  rw [List.length_drop] at this
  simp at this; omega
theorem linesL_count : ∀ (k : Nat) (t : List UInt8), t.length ≤ k → (linesL k t).1.length ≤ t.length ∧ ∀ x ∈ (linesL k t).1, x.length ≤ t.length
  | 0, t, h => by simp [linesL]
  | k + 1, t, h => by
    rw [linesL]
    split
    · simp
    · rename_i ht
      have hl := restOf_lt ht
      split
      · obtain ⟨h1, h2⟩ := linesL_count k (restOf t) (by omega)
        constructor
        · simp only [List.length_cons]; omega
        · intro x hx
          rcases List.mem_cons.1 hx with rfl | hx
          · simp only [List.length_take]; omega
          · have := h2 x hx; omega
      · have hp : 0 < t.length := List.length_pos_iff.2 ht
        constructor
        · simp; omega
        · intro x hx; rw [List.mem_singleton.1 hx]; omega
end Go.Sh
