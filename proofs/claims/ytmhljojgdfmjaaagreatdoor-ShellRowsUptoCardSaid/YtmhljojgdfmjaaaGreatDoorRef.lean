/- The document's answer for rows, sign by sign. No program here. -/
import Derived.Test.YtmhljojgdfmjaaaGreatDoorPlain
set_option linter.unusedSimpArgs false
namespace Go.Sh
open Go
def digitV (c : UInt8) : Int := if 48 ≤ c.toNat ∧ c.toNat ≤ 57 then (c.toNat : Int) - 48 else if 97 ≤ c.toNat ∧ c.toNat ≤ 102 then (c.toNat : Int) - 97 + 10 else -1
theorem digitV_eq (c : UInt8) : digitV c = hexv c := by
  have : ∀ n : Fin 256, digitV (UInt8.ofNat n.val) = hexv (UInt8.ofNat n.val) := by decide +kernel
  have h := this ⟨c.toNat, UInt8.toNat_lt c⟩
  simpa using h
/-! ### words -/
def rdec : List UInt8 → Option (List UInt8 × List UInt8)
  | [] => none
  | c :: r =>
    if c = 34 then some ([], r) else if c ≠ 92 then consO c (rdec r) else
    match r with
    | [] => none
    | d :: r2 => if d ≠ 120 then consO d (rdec r2) else
      match r2 with
      | a :: b :: r3 => if hexv a < 0 ∨ hexv b < 0 then none else consO (hexB a b) (rdec r3)
      | _ => none
theorem rdec_cons (c : UInt8) (r : List UInt8) : rdec (c :: r) = if c = 34 then some ([], r) else if c ≠ 92 then consO c (rdec r) else
    match r with
    | [] => none
    | d :: r2 => if d ≠ 120 then consO d (rdec r2) else
      match r2 with
      | a :: b :: r3 => if hexv a < 0 ∨ hexv b < 0 then none else consO (hexB a b) (rdec r3)
      | _ => none := by
  conv => lhs; rw [rdec.eq_def]
theorem rdec_stop (r : List UInt8) : rdec (34 :: r) = some ([], r) := by rw [rdec_cons, if_pos rfl]
theorem rdec_p {c : UInt8} (h1 : c ≠ 34) (h2 : c ≠ 92) (r : List UInt8) : rdec (c :: r) = consO c (rdec r) := by rw [rdec_cons, if_neg h1, if_pos h2]
theorem rdec_e {d : UInt8} (h : d ≠ 120) (r : List UInt8) : rdec (92 :: d :: r) = consO d (rdec r) := by
  rw [rdec_cons, if_neg (by decide), if_neg (by simp)]
  show (if d ≠ 120 then _ else _) = _
  rw [if_pos h]
theorem rdec_x {a b : UInt8} (h : ¬ (hexv a < 0 ∨ hexv b < 0)) (r : List UInt8) : rdec (92 :: 120 :: a :: b :: r) = consO (hexB a b) (rdec r) := by
  rw [rdec_cons, if_neg (by decide), if_neg (by simp)]
  show (if (120 : UInt8) ≠ 120 then _ else _) = _
  rw [if_neg (by simp)]
  show (if hexv a < 0 ∨ hexv b < 0 then _ else _) = _
  rw [if_neg h]
theorem rdec_xb {a b : UInt8} (h : hexv a < 0 ∨ hexv b < 0) (r : List UInt8) : rdec (92 :: 120 :: a :: b :: r) = none := by
  rw [rdec_cons, if_neg (by decide), if_neg (by simp)]
  show (if (120 : UInt8) ≠ 120 then _ else _) = _
  rw [if_neg (by simp)]
  show (if hexv a < 0 ∨ hexv b < 0 then _ else _) = _
  rw [if_pos h]
theorem rdec_n0 : rdec [92] = none := by rw [rdec_cons, if_neg (by decide), if_neg (by simp)]
theorem rdec_n1 (r : List UInt8) (h : r.length ≤ 1) : rdec (92 :: 120 :: r) = none := by
  rw [rdec_cons, if_neg (by decide), if_neg (by simp)]
  show (if (120 : UInt8) ≠ 120 then _ else _) = _
  rw [if_neg (by simp)]
  match r, h with
  | [], _ => rfl
  | [a], _ => rfl
theorem rdec_quote (b r : List UInt8) : rdec (b.flatMap quoteB ++ 34 :: r) = some (b, r) := by
  induction b with
  | nil => exact rdec_stop r
  | cons x b ih =>
    rw [List.flatMap_cons, List.append_assoc]
    have hx := UInt8.toNat_lt x
    unfold quoteB
    split
    · show rdec (92 :: 120 :: hexd (x.toNat / 16) :: hexd (x.toNat % 16) :: (b.flatMap quoteB ++ 34 :: r)) = _
      rw [rdec_x (by rw [hexv_hexd (by omega), hexv_hexd (by omega)]; omega), ih, hexB_of]; rfl
    · split
      · rename_i h
        show rdec (92 :: x :: (b.flatMap quoteB ++ 34 :: r)) = _
        rw [rdec_e (by rcases h with rfl | rfl <;> decide), ih]; rfl
      · rename_i h
        show rdec (x :: (b.flatMap quoteB ++ 34 :: r)) = _
        rw [rdec_p (fun hc => h (.inl hc)) (fun hc => h (.inr hc)), ih]; rfl
def runq : List UInt8 → Option (List UInt8 × List UInt8)
  | [] => none
  | c :: r => if c = 34 then (match rdec r with | some (b, t) => if quoteL b ++ t = c :: r then some (b, t) else none | none => none) else none
theorem unq_iff {s b t : List UInt8} : unq s = some (b, t) ↔ s = quoteL b ++ t := by
  constructor
  · intro h
    unfold unq at h
    split at h
    · cases h
    · split at h
      · split at h
        · split at h
          · rename_i hh; cases h; exact hh.symm
          · cases h
        · cases h
      · cases h
  · rintro rfl
    have h := unq_quote b t
    unfold unqR at h
    cases hu : unq (quoteL b ++ t) with
    | none => rw [hu] at h; cases h
    | some p =>
      rw [hu] at h
      obtain ⟨b', t'⟩ := p
      simp only [Prod.mk.injEq, and_true] at h
      rw [h.1, h.2]
theorem runq_iff {s b t : List UInt8} : runq s = some (b, t) ↔ s = quoteL b ++ t := by
  constructor
  · intro h
    unfold runq at h
    split at h
    · cases h
    · split at h
      · split at h
        · split at h
          · rename_i hh; cases h; exact hh.symm
          · cases h
        · cases h
      · cases h
  · rintro rfl
    have h : quoteL b ++ t = 34 :: (b.flatMap quoteB ++ 34 :: t) := by simp [quoteL]
    unfold runq
    rw [h]
    simp only [if_true, rdec_quote]
    rw [← h]; simp
theorem runq_eq (s : List UInt8) : runq s = unq s := by
  cases h : unq s with
  | some p => obtain ⟨b, t⟩ := p; rw [runq_iff, ← unq_iff]; exact h
  | none =>
    cases h2 : runq s with
    | none => rfl
    | some p => obtain ⟨b, t⟩ := p; rw [runq_iff, ← unq_iff, h] at h2; cases h2
section
variable {s : List UInt8} {i : Nat}
theorem rdec_q (h : i < s.length) (hc : s.getD i 0 = 34) : rdec (s.drop i) = some ([], s.drop (i + 1)) := by rw [drop_at h, hc, rdec_stop]
theorem rdec_end (h : s.length ≤ i) : rdec (s.drop i) = none := by rw [List.drop_eq_nil_of_le h]; rfl
theorem rdec_pl (h : i < s.length) (h1 : s.getD i 0 ≠ 34) (h2 : s.getD i 0 ≠ 92) : rdec (s.drop i) = consO (s.getD i 0) (rdec (s.drop (i + 1))) := by
  rw [drop_at h, rdec_p h1 h2]
theorem rdec_no1 (h : i < s.length) (hc : s.getD i 0 = 92) (h1 : s.length ≤ i + 1) : rdec (s.drop i) = none := by
  rw [drop_at h, hc, List.drop_eq_nil_of_le h1, rdec_n0]
theorem rdec_esc (h : i + 1 < s.length) (hc : s.getD i 0 = 92) (h1 : s.getD (i + 1) 0 ≠ 120) : rdec (s.drop i) = consO (s.getD (i + 1) 0) (rdec (s.drop (i + 2))) := by
  rw [drop_at (by omega : i < s.length), drop_at h, hc, rdec_e h1]
theorem rdec_short (h : i + 1 < s.length) (hc : s.getD i 0 = 92) (h1 : s.getD (i + 1) 0 = 120) (h2 : s.length ≤ i + 3) : rdec (s.drop i) = none := by
  rw [drop_at (by omega : i < s.length), drop_at h, hc, h1, rdec_n1 _ (by rw [List.length_drop]; omega)]
theorem rdec_hex (h : i + 3 < s.length) (hc : s.getD i 0 = 92) (h1 : s.getD (i + 1) 0 = 120) (ha : ¬ (hexv (s.getD (i + 2) 0) < 0 ∨ hexv (s.getD (i + 3) 0) < 0)) : rdec (s.drop i) = consO (hexB (s.getD (i + 2) 0) (s.getD (i + 3) 0)) (rdec (s.drop (i + 4))) := by
  rw [drop_at (by omega : i < s.length), drop_at (by omega : i + 1 < s.length), drop_at (by omega : i + 2 < s.length), drop_at (by omega : i + 3 < s.length), hc, h1, rdec_x ha]
theorem rdec_hexbad (h : i + 3 < s.length) (hc : s.getD i 0 = 92) (h1 : s.getD (i + 1) 0 = 120) (ha : hexv (s.getD (i + 2) 0) < 0 ∨ hexv (s.getD (i + 3) 0) < 0) : rdec (s.drop i) = none := by
  rw [drop_at (by omega : i < s.length), drop_at (by omega : i + 1 < s.length), drop_at (by omega : i + 2 < s.length), drop_at (by omega : i + 3 < s.length), hc, h1, rdec_xb ha]
end
theorem runq_of {s : List UInt8} (h : s.getD 0 0 = 34) (hs : 0 < s.length) : unq s = match rdec (s.drop 1) with | some (b, t) => if quoteL b ++ t = s then some (b, t) else none | none => none := by
  rw [← runq_eq]
  cases s with
  | nil => simp at hs
  | cons c r =>
    have : c = 34 := h
    subst this
    simp [runq]
theorem rUnq_no {s : List UInt8} (h : s.length = 0 ∨ s.getD 0 0 ≠ 34) : unqR s = ([], [], false) := by
  refine unq_no ?_
  cases s with
  | nil => rfl
  | cons c r =>
    have hc : c ≠ 34 := by
      rcases h with h | h
      · simp at h
      · exact h
    simp [List.isPrefixOf, hc.symm]
theorem rUnq_ok {s b : List UInt8} {i : Nat} (h : s.getD 0 0 = 34) (hs : 0 < s.length) (hd : rdec (s.drop 1) = some (b, s.drop i)) (hq : quoteL b = s.take i) : unqR s = (b, s.drop i, true) := by
  unfold unqR
  rw [runq_of h hs, hd]
  simp only
  rw [if_pos (by rw [hq, List.take_append_drop])]
theorem rUnq_bad {s b : List UInt8} {i : Nat} (h : s.getD 0 0 = 34) (hs : 0 < s.length) (hd : rdec (s.drop 1) = some (b, s.drop i)) (hq : quoteL b ≠ s.take i) : unqR s = ([], [], false) := by
  unfold unqR
  rw [runq_of h hs, hd]
  simp only
  rw [if_neg]
  intro hc
  exact hq (List.append_cancel_right (hc.trans (List.take_append_drop i s).symm))
theorem rUnq_none {s : List UInt8} (h : s.getD 0 0 = 34) (hs : 0 < s.length) (hd : rdec (s.drop 1) = none) : unqR s = ([], [], false) := by
  unfold unqR
  rw [runq_of h hs, hd]
/-! ### numbers -/
def decV (l : List UInt8) (u : Nat) : Nat := l.foldl (fun a c => 10 * a + (c.toNat - 48)) u
theorem decV_dec (u : Nat) : decV (Lib.decDigits u) 0 = u := by
  induction u using Nat.strongRecOn with
  | _ u ih =>
    by_cases h : u < 10
    · rw [Lib.decDigits, dif_pos h]
      simp only [decV, List.foldl_cons, List.foldl_nil, dig_toNat h]; omega
    · rw [Lib.decDigits, dif_neg h]
      have := ih (u / 10) (by omega)
      unfold decV at this ⊢
      rw [List.foldl_append, this]
      have hd : u % 10 < 10 := Nat.mod_lt _ (by decide)
      simp only [List.foldl_cons, List.foldl_nil, dig_toNat hd]; omega
theorem decV_lt (l : List UInt8) (h : ∀ c ∈ l, c.toNat ≤ 57) : decV l 0 < 10 ^ l.length := by
  have : ∀ (l : List UInt8) (u : Nat), (∀ c ∈ l, c.toNat ≤ 57) → decV l u + 1 ≤ (u + 1) * 10 ^ l.length := by
    intro l
    induction l with
    | nil => intro u _; simp [decV]
    | cons c r ih =>
      intro u h
      have h1 := ih (10 * u + (c.toNat - 48)) fun x hx => h x (List.mem_cons_of_mem _ hx)
      have h2 := h c (List.mem_cons_self ..)
      show decV r (10 * u + (c.toNat - 48)) + 1 ≤ _
      have h3 : (10 * u + (c.toNat - 48) + 1) * 10 ^ r.length ≤ (10 * (u + 1)) * 10 ^ r.length := Nat.mul_le_mul_right _ (by omega)
      rw [List.length_cons, Nat.pow_succ]
      calc _ ≤ _ := h1
        _ ≤ _ := h3
        _ = _ := by rw [Nat.mul_comm 10 (u + 1), Nat.mul_assoc, Nat.mul_comm 10]
  have := this l 0 h
  simp only [Nat.zero_add, Nat.one_mul] at this; omega
theorem decV_snoc {l : List UInt8} {k : Nat} {x : UInt8} (h : l[k]? = some x) : decV (l.take (k + 1)) 0 = 10 * decV (l.take k) 0 + (x.toNat - 48) := by
  obtain ⟨hk, rfl⟩ := List.getElem?_eq_some_iff.1 h
  unfold decV
  rw [List.take_succ_eq_append_getElem hk, List.foldl_append]; rfl
def numOk (l : List UInt8) : Option Int := match atoiOk l with | some n => if Lib.itoa n = l then some n else none | none => none
theorem atoiOk_b {l : List UInt8} {n : Int} (h : atoiOk l = some n) : i64 n := by
  unfold atoiOk at h
  split at h
  · rename_i v hv
    cases h
    exact Lib.atoiAll_bounds hv
  · cases h
theorem numOk_iff {l : List UInt8} {n : Int} : numOk l = some n ↔ (i64 n ∧ l = Lib.itoa n) := by
  constructor
  · intro h
    unfold numOk at h
    split at h
    · rename_i v hv
      split at h
      · rename_i hl; cases h; exact ⟨atoiOk_b hv, hl.symm⟩
      · cases h
    · cases h
  · rintro ⟨hn, rfl⟩
    unfold numOk
    rw [atoi_itoa hn]; simp
/-- what stands behind a sign -/
def magOf (l : List UInt8) : List UInt8 := if l.head? = some 45 then l.drop 1 else l
theorem mag_itoa {n : Int} : magOf (Lib.itoa n) = Lib.decDigits n.natAbs ∧ ((magOf (Lib.itoa n)).length < (Lib.itoa n).length ↔ n < 0) := by
  unfold Lib.itoa
  split
  · simp [magOf]; omega
  · rename_i h
    have hn : n.toNat = n.natAbs := by omega
    rw [hn]
    have hm : ¬ (Lib.decDigits n.natAbs).head? = some 45 := by
      intro hc
      have := dec_mem n.natAbs 45 (List.mem_of_mem_head? hc)
      revert this; decide
    unfold magOf
    rw [if_neg hm]
    simp; omega
theorem dec_len19 {u : Nat} (h : u ≤ 9223372036854775808) : (Lib.decDigits u).length ≤ 19 := by
  rw [Lib.decDigits_length]
  rcases Nat.lt_or_ge 19 (Lib.nDigits u) with hc | hc
  · exfalso
    have h1 : ∀ (k u : Nat), k < Lib.nDigits u → 10 ^ k ≤ u ∨ k = 0 := by
      intro k
      induction k with
      | zero => intro u _; exact .inr rfl
      | succ k ih =>
        intro u hu
        by_cases hs : u < 10
        · rw [Lib.nDigits_small hs] at hu; omega
        · rw [Lib.nDigits_big hs] at hu
          rcases ih (u / 10) (by omega) with h | h
          · left; rw [Nat.pow_succ]; omega
          · left; subst h; omega
    rcases h1 19 u hc with h2 | h2
    · have : (10 : Nat) ^ 19 = 10000000000000000000 := by decide
      omega
    · omega
  · exact hc
/-! ### parts -/
def bS (s : List UInt8) : List UInt8 := if s.head? = some 32 then s.drop 1 else s
def bB (s : List UInt8) : Bool := !decide (s.head? = some 32)
def lettersW (s : List UInt8) : List UInt8 := s.takeWhile (· != 32)
def lettersR (s : List UInt8) : List UInt8 := s.dropWhile (· != 32)
theorem letters_app (s : List UInt8) : lettersW s ++ lettersR s = s := List.takeWhile_append_dropWhile
theorem bS_len (s : List UInt8) : (bS s).length ≤ s.length := by unfold bS; split <;> simp
theorem lW_len (s : List UInt8) : (lettersW s).length ≤ s.length := by have := congrArg List.length (letters_app s); rw [List.length_append] at this; omega
theorem lR_len (s : List UInt8) : (lettersR s).length ≤ s.length := by have := congrArg List.length (letters_app s); rw [List.length_append] at this; omega
theorem letters_sp {a b : List UInt8} (h : NoSp a) : lettersW (a ++ 32 :: b) = a ∧ lettersR (a ++ 32 :: b) = 32 :: b := by
  induction a with
  | nil => simp [lettersW, lettersR]
  | cons c r ih =>
    have hc := h c (List.mem_cons_self ..)
    have hne : (c != 32) = true := by
      rw [bne_iff_ne]; rintro rfl; revert hc; decide
    obtain ⟨h1, h2⟩ := ih fun x hx => h x (List.mem_cons_of_mem _ hx)
    unfold lettersW at h1 ⊢
    unfold lettersR at h2 ⊢
    simp only [List.cons_append, List.takeWhile_cons, List.dropWhile_cons, hne, if_true, h1, h2, and_self]
theorem letters_no {a : List UInt8} (h : NoSp a) : lettersW a = a ∧ lettersR a = [] := by
  induction a with
  | nil => simp [lettersW, lettersR]
  | cons c r ih =>
    have hc := h c (List.mem_cons_self ..)
    have hne : (c != 32) = true := by
      rw [bne_iff_ne]; rintro rfl; revert hc; decide
    obtain ⟨h1, h2⟩ := ih fun x hx => h x (List.mem_cons_of_mem _ hx)
    unfold lettersW at h1 ⊢
    unfold lettersR at h2 ⊢
    simp only [List.takeWhile_cons, List.dropWhile_cons, hne, if_true, h1, h2, and_self]
theorem bS_sp (b : List UInt8) : bS (32 :: b) = b := by simp [bS]
theorem bB_sp (b : List UInt8) : bB (32 :: b) = false := by simp [bB]
theorem blank_is {s : List UInt8} (h : bB s = false) : s = 32 :: bS s := by
  unfold bB at h
  simp only [Bool.not_eq_false', decide_eq_true_eq] at h
  unfold bS
  rw [if_pos h]
  cases s with
  | nil => cases h
  | cons c r => simp at h; simp [h]
theorem head_getD {s : List UInt8} (h : s.length ≠ 0) : s.head? = some (s.getD 0 0) := by cases s <;> simp_all
theorem blank_no {s : List UInt8} (h : s.length = 0 ∨ s.getD 0 0 ≠ 32) : bS s = s ∧ bB s = true := by
  have : ¬ s.head? = some 32 := by
    rcases h with h | h
    · cases s <;> simp_all
    · cases s with
      | nil => simp
      | cons c r => simpa using h
  unfold bS bB
  rw [if_neg this]; simp [this]
theorem blank_yes {s : List UInt8} (h : s.length ≠ 0) (h2 : s.getD 0 0 = 32) : bS s = s.drop 1 ∧ bB s = false := by
  have : s.head? = some 32 := by rw [head_getD h, h2]
  unfold bS bB
  rw [if_pos this]; simp [this]
theorem letters_at : ∀ {s : List UInt8} {k : Nat}, k ≤ s.length → (∀ j, j < k → s.getD j 0 ≠ 32) → (s.length ≤ k ∨ s.getD k 0 = 32) → s.take k = lettersW s ∧ s.drop k = lettersR s
  | [], k, _, _, _ => by simp [lettersW, lettersR]
  | c :: r, 0, _, _, h => by
    have hc : c = 32 := by
      rcases h with h | h
      · simp at h
      · exact h
    subst hc
    simp [lettersW, lettersR]
  | c :: r, k + 1, hk, h1, h2 => by
    have hc : (c != 32) = true := by simpa using h1 0 (by omega)
    have := letters_at (s := r) (k := k) (by simpa using hk) (fun j hj => by simpa using h1 (j + 1) (by omega)) (by simpa using h2)
    unfold lettersW lettersR at this ⊢
    simp only [List.take_succ_cons, List.drop_succ_cons, List.takeWhile_cons, List.dropWhile_cons, hc, if_true, this.1, this.2, and_self]
theorem mag_at {s : List UInt8} (h : s.length ≠ 0 ∧ s.getD 0 0 = 45) : magOf s = s.drop 1 := by
  unfold magOf; rw [if_pos]; rw [head_getD h.1, h.2]
theorem mag_not {s : List UInt8} (h : s.length = 0 ∨ s.getD 0 0 ≠ 45) : magOf s = s := by
  unfold magOf; rw [if_neg]
  rcases h with h | h
  · cases s <;> simp_all
  · cases s with
    | nil => simp
    | cons c r => simpa using h
theorem mag_len (s : List UInt8) : (magOf s).length ≤ s.length := by unfold magOf; split <;> simp
/-- what is no number's word -/
theorem num_no {s : List UInt8} (h : (magOf s).length = 0 ∨ 19 < (magOf s).length ∨ ∃ c ∈ magOf s, c.toNat < 48 ∨ 57 < c.toNat) : numOk s = none := by
  cases hn : numOk s with
  | none => rfl
  | some v =>
    exfalso
    obtain ⟨hv, rfl⟩ := numOk_iff.1 hn
    rw [mag_itoa.1] at h
    unfold i64 at hv
    rcases h with h | h | ⟨c, hc, h⟩
    · exact dec_ne _ (List.eq_nil_of_length_eq_zero h)
    · have := dec_len19 (u := v.natAbs) (by omega); omega
    · have := dec_mem _ c hc; omega
theorem num_val {s : List UInt8} {v : Int} (h : numOk s = some v) : i64 v ∧ s = Lib.itoa v ∧ decV (magOf s) 0 = v.natAbs ∧ ((magOf s).length < s.length ↔ v < 0) := by
  obtain ⟨hv, rfl⟩ := numOk_iff.1 h
  refine ⟨hv, rfl, ?_, mag_itoa.2⟩
  rw [mag_itoa.1, decV_dec]
theorem num_is {s : List UInt8} {v : Int} (hv : i64 v) (h : Lib.itoa v = s) : numOk s = some v := numOk_iff.2 ⟨hv, h.symm⟩
/-- a Kind's place; 0: it is none -/
def kindR (s : List UInt8) : Int := if kindOf s < 1 then 0 else kindOf s
theorem idx_is (x : ByteArray) : ∀ (zs : List ByteArray) (i : Nat), Lib.idxFromS zs x i = -1 ∨ ∃ j : Nat, Lib.idxFromS zs x i = ((i + j : Nat) : Int) ∧ zs[j]? = some x
  | [], i => .inl rfl
  | z :: zs, i => by
    unfold Lib.idxFromS
    split
    · rename_i h; right; exact ⟨0, by simp, by simp; simpa using h⟩
    · rcases idx_is x zs (i + 1) with h | ⟨j, h1, h2⟩
      · exact .inl h
      · right; exact ⟨j + 1, by rw [h1]; congr 1; omega, by simpa using h2⟩
theorem kindOf_is {s : List UInt8} (h : 1 ≤ kindOf s) : nameL (kindOf s) = s ∧ kindOf s ≤ 9 := by
  have hb := kindOf_b s
  refine ⟨?_, hb.2⟩
  rcases idx_is ⟨s.toArray⟩ (namesB.take 10) 0 with h1 | ⟨j, h1, h2⟩
  · have : kindOf s = -1 := h1
    omega
  · have hk : kindOf s = (j : Int) := by have : kindOf s = ((0 + j : Nat) : Int) := h1; rw [this]; congr 1; omega
    have hj : j < 10 := by rw [hk] at hb; omega
    rw [hk]
    unfold nameL
    rw [if_neg (by omega)]
    have h3 : names[j]? = some s := by
      have h4 : (namesB.take 10)[j]? = (names[j]?).map fun x => (⟨x.toArray⟩ : ByteArray) := by
        rw [show namesB.take 10 = namesB from rfl]; unfold namesB; rw [List.getElem?_map]
      rw [h4] at h2
      obtain ⟨x, hx, he⟩ := Option.map_eq_some_iff.1 h2
      have : x = s := by
        have := congrArg (fun z : ByteArray => z.data.toList) he
        simpa using this
      rw [hx, this]
    simp [List.getD, h3]
theorem kind_no {s : List UInt8} (h : ∀ j : Nat, 1 ≤ j → j ≤ 9 → nameL (j : Int) ≠ s) : kindOf s < 1 := by
  by_cases hk : kindOf s < 1
  · exact hk
  · exfalso
    obtain ⟨h1, h2⟩ := kindOf_is (s := s) (by omega)
    refine h (kindOf s).toNat (by omega) (by omega) ?_
    rw [Int.toNat_of_nonneg (by omega)]; exact h1
def rNum (s : List UInt8) : Option (Int × List UInt8) := if bB s then none else (numOk (lettersW (bS s))).map fun x => (x, lettersR (bS s))
def rRow (s : List UInt8) : Option Rw :=
  if kindOf (lettersW s) < 1 then none
  else if bB (lettersR s) then none
  else if lettersW (bS (lettersR s)) = errorW then (match rNum (lettersR (bS (lettersR s))) with | some (x, r) => if r = [] ∧ x ≠ 0 then some ⟨kindOf (lettersW s), x, 0, 0, [], false⟩ else none | none => none)
  else if lettersW (bS (lettersR s)) ≠ okW then none
  else if kindOf (lettersW s) = 1 then (match rNum (lettersR (bS (lettersR s))) with | some (x, r) => if r = [] then some ⟨kindOf (lettersW s), 0, x, 0, [], false⟩ else none | none => none)
  else if kindOf (lettersW s) = 5 then (match rNum (lettersR (bS (lettersR s))) with | some (x, r) => if r = [] then some ⟨kindOf (lettersW s), 0, 0, x, [], false⟩ else none | none => none)
  else if kindOf (lettersW s) = 2 then
    if bB (lettersR (bS (lettersR s))) then none else
    match unq (bS (lettersR (bS (lettersR s)))) with
    | some (b, r) => if bB r then none else if (lettersW (bS r) = endedW ∨ lettersW (bS r) = openW) ∧ lettersR (bS r) = [] then some ⟨kindOf (lettersW s), 0, 0, 0, b, decide (lettersW (bS r) = endedW)⟩ else none
    | none => none
  else if lettersR (bS (lettersR s)) = [] then some ⟨kindOf (lettersW s), 0, 0, 0, [], false⟩ else none
theorem rNum_some {s r : List UInt8} {x : Int} (h : rNum s = some (x, r)) : i64 x ∧ s = 32 :: (Lib.itoa x ++ r) := by
  unfold rNum at h
  split at h
  · cases h
  · rename_i hb
    have hb' : bB s = false := by simpa using hb
    obtain ⟨y, hy, he⟩ := Option.map_eq_some_iff.1 h
    cases he
    obtain ⟨h1, h2⟩ := numOk_iff.1 hy
    refine ⟨h1, ?_⟩
    rw [← h2, letters_app]
    exact blank_is hb'
theorem rNum_of {n : Int} (h : i64 n) : rNum (32 :: Lib.itoa n) = some (n, []) := by
  unfold rNum
  obtain ⟨h1, h2⟩ := letters_no (itoa_mem n)
  rw [bB_sp, bS_sp, h1, h2, numOk_iff.2 ⟨h, rfl⟩]; rfl
theorem rRow_complete {e : Rw} (hf : e.fits) (hb : rwBad e = false) : rRow (rwText e) = some e := by
  obtain ⟨hk, he, hc, hn, hd⟩ := hf
  unfold rwBad at hb
  simp only [Bool.or_eq_false_iff, decide_eq_false_iff_not] at hb
  obtain ⟨⟨⟨h0, h1⟩, h2⟩, h3⟩ := hb
  have hkk := name_ne h0
  have hnn := name_nosp e.kind
  have hkn := kind_name hkk
  have ho : NoSp okW := by unfold NoSp; decide
  have her : NoSp errorW := by unfold NoSp; decide
  have hne : okW ≠ errorW := by decide
  obtain ⟨kind, err, conn, n, data, ended⟩ := e
  simp only at *
  have hlt : ¬ kind < 1 := by omega
  unfold rRow rwText
  simp only [sp]
  by_cases hz : err = 0
  · subst hz
    simp only [bne_self_eq_false, Bool.false_or, Bool.and_eq_false_iff, bne_eq_false_iff_eq, Bool.or_eq_false_iff, decide_eq_false_iff_not, ne_eq, Decidable.not_not] at h1 h2 h3
    simp only [bne_self_eq_false]
    by_cases k1 : kind = 1
    · subst k1
      have : n = 0 := by omega
      have : data = [] ∧ ended = false := by rcases h3 with h3 | h3; omega; exact h3
      obtain ⟨rfl, rfl⟩ := this
      subst this
      simp [List.append_assoc, (letters_sp hnn).1, (letters_sp hnn).2, (letters_sp ho).1, (letters_sp ho).2, hkn, hne, bB_sp, bS_sp, rNum_of hc]
    · have : conn = 0 := by rcases h1 with h1 | h1; exact absurd h1 k1; exact h1
      subst this
      by_cases k5 : kind = 5
      · subst k5
        have : data = [] ∧ ended = false := by rcases h3 with h3 | h3; omega; exact h3
        obtain ⟨rfl, rfl⟩ := this
        simp [List.append_assoc, (letters_sp hnn).1, (letters_sp hnn).2, (letters_sp ho).1, (letters_sp ho).2, hkn, hne, bB_sp, bS_sp, rNum_of hn]
      · have : n = 0 := by rcases h2 with h2 | h2; exact absurd h2 k5; exact h2
        subst this
        by_cases k2 : kind = 2
        · subst k2
          cases ended
          · have hu : unq (quoteL data ++ 32 :: openW) = some (data, 32 :: openW) := unq_iff.2 rfl
            obtain ⟨l1, l2⟩ := letters_no (show NoSp openW by unfold NoSp; decide)
            simp [List.append_assoc, (letters_sp hnn).1, (letters_sp hnn).2, (letters_sp ho).1, (letters_sp ho).2, hkn, hne, bB_sp, bS_sp, hu, l1, l2]; decide
          · have hu : unq (quoteL data ++ 32 :: endedW) = some (data, 32 :: endedW) := unq_iff.2 rfl
            obtain ⟨l1, l2⟩ := letters_no (show NoSp endedW by unfold NoSp; decide)
            simp [List.append_assoc, (letters_sp hnn).1, (letters_sp hnn).2, (letters_sp ho).1, (letters_sp ho).2, hkn, hne, bB_sp, bS_sp, hu, l1, l2]
        · have : data = [] ∧ ended = false := by rcases h3 with h3 | h3; exact absurd h3 k2; exact h3
          obtain ⟨rfl, rfl⟩ := this
          simp [(letters_sp hnn).1, (letters_sp hnn).2, (letters_no ho).1, (letters_no ho).2, hkn, hne, k1, k2, k5, hlt, bB_sp, bS_sp]
  · have h1' : conn = 0 := by simpa [hz] using h1
    have h2' : n = 0 := by simpa [hz] using h2
    have h3' : data = [] ∧ ended = false := by simpa [hz] using h3
    obtain ⟨rfl, rfl⟩ := h3'
    subst h1' h2'
    simp [hz, (letters_sp hnn).1, (letters_sp hnn).2, (letters_sp her).1, (letters_sp her).2, hkn, hlt, bB_sp, bS_sp, rNum_of he]
theorem head_text {s : List UInt8} (h1 : ¬ kindOf (lettersW s) < 1) (h2 : bB (lettersR s) = false) : s = nameL (kindOf (lettersW s)) ++ 32 :: (lettersW (bS (lettersR s)) ++ lettersR (bS (lettersR s))) ∧ nameL (kindOf (lettersW s)) ≠ [] := by
  obtain ⟨h3, h4⟩ := kindOf_is (s := lettersW s) (by omega)
  constructor
  · rw [letters_app, ← blank_is h2, h3, letters_app]
  · intro hc
    rw [hc] at h3
    have : kindOf (lettersW s) = 0 := by rw [← h3]; decide +kernel
    omega
theorem rRow_sound {s : List UInt8} {e : Rw} (hl : s.length ≤ 1048576) (h : rRow s = some e) : rwLine e = (s, true) ∧ e.fits := by
  have hkb := kindOf_b (lettersW s)
  have hkf : i64 (kindOf (lettersW s)) := by unfold i64; omega
  have z64 : i64 0 := by unfold i64; omega
  unfold rRow at h
  split at h
  · cases h
  · rename_i hk
    split at h
    · cases h
    · rename_i hbb
      have hb' : bB (lettersR s) = false := by simpa using hbb
      obtain ⟨ht, hnm⟩ := head_text hk hb'
      generalize hk2 : kindOf (lettersW s) = kk at *
      generalize lettersW (bS (lettersR s)) = told at *
      generalize lettersR (bS (lettersR s)) = r3 at *
      split at h
      · rename_i hto
        subst hto
        split at h
        · rename_i x r hx
          split at h
          · rename_i hr
            cases h
            obtain ⟨rfl, hx0⟩ := hr
            obtain ⟨hx1, rfl⟩ := rNum_some hx
            refine ⟨?_, hkf, hx1, z64, z64, by simp⟩
            have hbad : rwBad ⟨kk, x, 0, 0, [], false⟩ = false := by simp [rwBad, hnm]
            unfold rwLine
            rw [hbad]
            simp only [Bool.false_eq_true, if_false, rwText]
            have : (x != 0) = true := by simpa using hx0
            rw [this]
            simp only [if_true, Prod.mk.injEq, and_true]
            rw [ht]; simp [sp]
          · cases h
        · cases h
      · split at h
        · cases h
        · rename_i hto1 hto
          have hto : told = okW := by simpa using hto
          subst hto
          split at h
          · rename_i k1
            subst k1
            split at h
            · rename_i x r hx
              split at h
              · rename_i hr
                cases h
                subst hr
                obtain ⟨hx1, rfl⟩ := rNum_some hx
                refine ⟨?_, hkf, z64, hx1, z64, by simp⟩
                have hbad : rwBad ⟨1, 0, x, 0, [], false⟩ = false := by simp [rwBad, hnm]
                unfold rwLine
                rw [hbad]
                simp [rwText]
                rw [ht]; simp [sp]
              · cases h
            · cases h
          · rename_i k1
            split at h
            · rename_i k5
              subst k5
              split at h
              · rename_i x r hx
                split at h
                · rename_i hr
                  cases h
                  subst hr
                  obtain ⟨hx1, rfl⟩ := rNum_some hx
                  refine ⟨?_, hkf, z64, z64, hx1, by simp⟩
                  have hbad : rwBad ⟨5, 0, 0, x, [], false⟩ = false := by simp [rwBad, hnm]
                  unfold rwLine
                  rw [hbad]
                  simp [rwText]
                  rw [ht]; simp [sp]
                · cases h
              · cases h
            · rename_i k5
              split at h
              · rename_i k2
                subst k2
                split at h
                · cases h
                · rename_i hb3
                  have hb3' : bB r3 = false := by simpa using hb3
                  split at h
                  · rename_i b r hu
                    split at h
                    · cases h
                    · rename_i hb4
                      have hb4' : bB r = false := by simpa using hb4
                      split at h
                      · rename_i hend
                        cases h
                        have e1 := blank_is hb3'
                        have e2 := unq_iff.1 hu
                        have e3 := blank_is hb4'
                        have e4 := letters_app (bS r)
                        rw [hend.2, List.append_nil] at e4
                        have hlen : b.length ≤ s.length := by
                          have q := quoteL_ge b
                          have l1 := congrArg List.length ht
                          have l2 := congrArg List.length e1
                          have l3 := congrArg List.length e2
                          simp only [List.length_append, List.length_cons] at l1 l2 l3
                          omega
                        refine ⟨?_, hkf, z64, z64, z64, by simp only; omega⟩
                        have hbad : rwBad ⟨2, 0, 0, 0, b, decide (lettersW (bS r) = endedW)⟩ = false := by simp [rwBad, hnm]
                        unfold rwLine
                        rw [hbad]
                        simp [rwText]
                        rw [ht, e1, e2, e3]
                        rw [bS_sp]
                        rcases hend.1 with hh | hh
                        · rw [hh] at e4
                          rw [hh, ← e4]; simp [sp]
                        · rw [hh] at e4
                          have hne : ¬ openW = endedW := by decide
                          rw [hh, ← e4]; simp [sp, hne]
                      · cases h
                  · cases h
              · rename_i k2
                split at h
                · rename_i hr
                  cases h
                  subst hr
                  refine ⟨?_, hkf, z64, z64, z64, by simp⟩
                  have hbad : rwBad ⟨kk, 0, 0, 0, [], false⟩ = false := by simp [rwBad, hnm]
                  unfold rwLine
                  rw [hbad]
                  simp [rwText, k1, k5, k2]
                  rw [ht]; simp [sp]
                · cases h
theorem parseRw_fits {s : List UInt8} {e : Rw} (hl : s.length ≤ 1048576) (h : parseRw s = some e) : e.fits := by
  have hline := parseRw_line h
  have z64 : i64 0 := by unfold i64; omega
  have hkb := kindOf_b (plainW s)
  have hkf : i64 (kindOf (plainW s)) := by unfold i64; omega
  unfold parseRw at h
  split at h
  · rename_i e' he'
    split at h
    · cases h
      unfold rdRw at he'
      split at he'
      · cases he'
      · split at he'
        · obtain ⟨x, hx, rfl⟩ := Option.map_eq_some_iff.1 he'
          exact ⟨hkf, atoiOk_b hx, z64, z64, by simp⟩
        · split at he'
          · cases he'
          · split at he'
            · obtain ⟨x, hx, rfl⟩ := Option.map_eq_some_iff.1 he'
              exact ⟨hkf, z64, atoiOk_b hx, z64, by simp⟩
            · split at he'
              · obtain ⟨x, hx, rfl⟩ := Option.map_eq_some_iff.1 he'
                exact ⟨hkf, z64, z64, atoiOk_b hx, by simp⟩
              · split at he'
                · split at he'
                  · cases he'
                    refine ⟨hkf, z64, z64, z64, ?_⟩
                    have := (unqR_len (plainR (plainR s))).1
                    have h1 := plainR_len s
                    have h2 := plainR_len (plainR s)
                    simp only; omega
                  · cases he'
                · cases he'
                  exact ⟨hkf, z64, z64, z64, by simp⟩
    · cases h
  · cases h
theorem rw_ok {e : Rw} {s : List UInt8} (h : rwLine e = (s, true)) : rwBad e = false ∧ rwText e = s := by
  unfold rwLine at h
  split at h
  · cases h
  · rename_i hb; cases h; exact ⟨by simpa using hb, rfl⟩
/-- both read the same -/
theorem rRow_eq {s : List UInt8} (hl : s.length ≤ 1048576) : rRow s = parseRw s := by
  cases h : parseRw s with
  | some e =>
    obtain ⟨h1, h2⟩ := rw_ok (parseRw_line h)
    rw [← h2]
    exact rRow_complete (parseRw_fits hl h) h1
  | none =>
    cases h2 : rRow s with
    | none => rfl
    | some e =>
      obtain ⟨h3, h4⟩ := rRow_sound hl h2
      have := parse_rw h4 (by rw [h3])
      rw [h3, h] at this
      cases this
/-! ### lines -/
def linesL : Nat → List UInt8 → List (List UInt8) × Bool
  | 0, _ => ([], true)
  | k + 1, t => if t = [] then ([], true) else if 0 ≤ Lib.indexByte t 10 then ((t.take (Lib.indexByte t 10).toNat) :: (linesL k (restOf t)).1, (linesL k (restOf t)).2) else ([t], false)
end Go.Sh
