/- Lines written and read back: there and back. No program here. -/
import Derived.Test.YtmhljojgdfmjaaaGreatDoorDec
import Derived.Lib.AtoiAllCases
set_option linter.unusedSimpArgs false
namespace Go.Sh
open Go
/-! ### numbers -/
theorem dig_toNat {d : Nat} (h : d < 10) : (UInt8.ofNat (48 + d)).toNat = 48 + d := by rw [UInt8.toNat_ofNat']; omega
theorem parse_dec (u : Nat) (hu : u < 18446744073709551616) (r : List UInt8) : Lib.parseUint10 0 (Lib.decDigits u ++ r) = Lib.parseUint10 u r := by
  induction u using Nat.strongRecOn generalizing r with
  | _ u ih =>
    by_cases h : u < 10
    · rw [Lib.decDigits, dif_pos h]
      simp only [List.cons_append, List.nil_append, Lib.parseUint10, dig_toNat h]
      rw [if_pos (by omega), if_neg (by omega), if_neg (by omega)]
      congr 1; omega
    · rw [Lib.decDigits, dif_neg h, List.append_assoc, ih (u / 10) (by omega) (by omega)]
      have hd : u % 10 < 10 := Nat.mod_lt _ (by decide)
      simp only [List.cons_append, List.nil_append, Lib.parseUint10, dig_toNat hd]
      rw [if_pos (by omega), if_neg (by omega), if_neg (by omega)]
      congr 1; omega
theorem dec_mem (u : Nat) : ∀ c ∈ Lib.decDigits u, 48 ≤ c.toNat ∧ c.toNat ≤ 57 := by
  induction u using Nat.strongRecOn with
  | _ u ih =>
    intro c hc
    by_cases h : u < 10
    · rw [Lib.decDigits, dif_pos h] at hc
      rw [List.mem_singleton.1 hc, dig_toNat h]; omega
    · rw [Lib.decDigits, dif_neg h] at hc
      rcases List.mem_append.1 hc with hc | hc
      · exact ih (u / 10) (by omega) c hc
      · rw [List.mem_singleton.1 hc, dig_toNat (Nat.mod_lt _ (by decide))]; omega
theorem dec_ne (u : Nat) : Lib.decDigits u ≠ [] := by
  rw [Lib.decDigits]; split <;> simp
theorem mag_dec (u : Nat) (hu : u < 18446744073709551616) : Lib.parseMag (Lib.decDigits u) = .ok u := by
  unfold Lib.parseMag
  rw [if_neg (dec_ne u)]
  have := parse_dec u hu []
  rwa [List.append_nil] at this
theorem atoi_itoa {n : Int} (h : i64 n) : atoiOk (Lib.itoa n) = some n := by
  obtain ⟨h0, h1⟩ := h
  unfold atoiOk Lib.itoa
  by_cases hn : n < 0
  · rw [if_pos hn, Lib.atoiAll_minus, mag_dec _ (by omega)]
    simp only [Lib.signed]
    rw [if_neg (by omega)]
    simp only [Option.some.injEq]; omega
  · rw [if_neg hn]
    have hm := mag_dec n.toNat (by omega)
    have hmem := dec_mem n.toNat
    cases hl : Lib.decDigits n.toNat with
    | nil => exact absurd hl (dec_ne _)
    | cons c r =>
      rw [hl] at hm hmem
      have hc := hmem c (List.mem_cons_self ..)
      rw [Lib.atoiAll_plain c r (by omega) (by omega), hm]
      simp only [Lib.signless]
      rw [if_neg (by omega)]
      simp only [Option.some.injEq]; omega
theorem itoa_mem (n : Int) : ∀ c ∈ Lib.itoa n, 33 ≤ c.toNat := by
  intro c hc
  unfold Lib.itoa at hc
  split at hc
  · rcases List.mem_cons.1 hc with rfl | hc
    · decide
    · have := dec_mem _ c hc; omega
  · have := dec_mem _ c hc; omega
theorem itoa_ne (n : Int) : Lib.itoa n ≠ [] := by
  unfold Lib.itoa; split
  · simp
  · exact dec_ne _
/-! ### words that are cut off -/
def NoSp (l : List UInt8) : Prop := ∀ c ∈ l, 33 ≤ c.toNat
theorem NoSp.ne {l : List UInt8} (h : NoSp l) : ∀ j, j < l.length → l[j]? ≠ some 32 := by
  intro j hj hc
  have := h 32 (List.mem_of_getElem? hc)
  revert this; decide
theorem occ32 (s : List UInt8) (j : Nat) : Lib.occAt s [32] j = true ↔ s[j]? = some 32 := by
  unfold Lib.occAt
  by_cases hj : j < s.length
  · rw [List.drop_eq_getElem_cons hj, List.getElem?_eq_getElem hj]
    simp only [List.isPrefixOf, Bool.and_true, beq_iff_eq, Option.some.injEq]
    exact eq_comm
  · rw [List.drop_eq_nil_of_le (by omega), List.getElem?_eq_none (by omega)]
    simp [List.isPrefixOf]
theorem index_sp {a b : List UInt8} (h : NoSp a) : Lib.index (a ++ 32 :: b) [32] = (a.length : Int) := by
  refine Lib.index_first (by simp) ?_ ?_
  · rw [occ32]; simp
  · intro j hj
    cases hc : Lib.occAt (a ++ 32 :: b) [32] j with
    | false => rfl
    | true =>
      rw [occ32, List.getElem?_append_left hj] at hc
      exact absurd hc (h.ne j hj)
theorem index_no {a : List UInt8} (h : NoSp a) : Lib.index a [32] = -1 := by
  rcases Lib.index_spec a [32] with ⟨h1, _⟩ | ⟨i, h1, h2, h3, _⟩
  · exact h1
  · rw [occ32] at h3
    exact absurd h3 (h.ne i (List.getElem?_eq_some_iff.1 h3).1)
theorem plainW_sp {a b : List UInt8} (h : NoSp a) : plainW (a ++ 32 :: b) = a := by
  unfold plainW Lib.cut
  rw [index_sp h, if_pos (by omega)]
  simp
theorem plainR_sp {a b : List UInt8} (h : NoSp a) : plainR (a ++ 32 :: b) = b := by
  unfold plainR Lib.cut
  rw [index_sp h, if_pos (by omega)]
  simp
theorem plainW_no {a : List UInt8} (h : NoSp a) : plainW a = a := by
  unfold plainW Lib.cut; rw [index_no h, if_neg (by decide)]
theorem plainR_no {a : List UInt8} (h : NoSp a) : plainR a = [] := by
  unfold plainR Lib.cut; rw [index_no h, if_neg (by decide)]
theorem name_nosp (k : Int) : NoSp (nameL k) := by
  unfold nameL
  split
  · intro c hc; cases hc
  · rename_i h
    have : ∀ n : Fin 10, ∀ c ∈ names.getD n.val [], 33 ≤ c.toNat := by decide
    exact this ⟨k.toNat, by omega⟩
theorem kind_name {k : Int} (h : 1 ≤ k ∧ k ≤ 9) : kindOf (nameL k) = k := by
  have : ∀ n : Fin 10, 1 ≤ n.val → kindOf (nameL (n.val : Int)) = n.val := by decide +kernel
  have := this ⟨k.toNat, by omega⟩ (by simp only; omega)
  simp only at this
  rwa [Int.toNat_of_nonneg (by omega)] at this
theorem name_ne {k : Int} (h : nameL k ≠ []) : 1 ≤ k ∧ k ≤ 9 := by
  unfold nameL at h
  split at h
  · exact absurd rfl h
  · omega
/-! ### words between signs -/
theorem hexv_hexd {n : Nat} (h : n < 16) : hexv (hexd n) = n := by
  have : ∀ n : Fin 16, hexv (hexd n.val) = n.val := by decide +kernel
  exact this ⟨n, h⟩
theorem hexB_of (x : UInt8) : hexB (hexd (x.toNat / 16)) (hexd (x.toNat % 16)) = x := by
  have := UInt8.toNat_lt x
  unfold hexB
  rw [hexv_hexd (by omega), hexv_hexd (by omega)]
  apply UInt8.toNat_inj.1
  rw [UInt8.toNat_ofNat']; omega
theorem dec_hex' {a b : UInt8} (ha : ¬ (hexv a < 0 ∨ hexv b < 0)) (r : List UInt8) : dec (92 :: 120 :: a :: b :: r) = consO (hexB a b) (dec r) := by
  rw [dec, if_neg (by decide), if_pos rfl]
  show (if (120 : UInt8) = 120 then _ else _) = _
  rw [if_pos rfl, if_neg ha]
theorem dec_esc' {d : UInt8} (hd : d ≠ 120) (r : List UInt8) : dec (92 :: d :: r) = consO d (dec r) := by
  conv => lhs; rw [dec.eq_def]
  show (if (92 : UInt8) = 34 then _ else if (92 : UInt8) = 92 then _ else _) = _
  rw [if_neg (by decide), if_pos rfl]
  match r with
  | [] => rfl
  | [a] => rfl
  | a :: b :: r' => show (if d = 120 then _ else _) = _; rw [if_neg hd]
theorem dec_pl' {c : UInt8} (h1 : c ≠ 34) (h2 : c ≠ 92) {r : List UInt8} (hr : r ≠ []) : dec (c :: r) = consO c (dec r) := by
  cases r with
  | nil => exact absurd rfl hr
  | cons d r =>
    conv => lhs; rw [dec.eq_def]
    show (if c = 34 then _ else if c = 92 then _ else _) = _
    rw [if_neg h1, if_neg h2]
theorem dec_stop (r : List UInt8) : dec (34 :: r) = some ([], r) := by
  cases r with
  | nil => rfl
  | cons d r =>
    conv => lhs; rw [dec.eq_def]
    show (if (34 : UInt8) = 34 then _ else _) = _
    rw [if_pos rfl]
theorem dec_quote (b r : List UInt8) : dec (b.flatMap quoteB ++ 34 :: r) = some (b, r) := by
  induction b with
  | nil => exact dec_stop r
  | cons x b ih =>
    rw [List.flatMap_cons, List.append_assoc]
    have hx := UInt8.toNat_lt x
    unfold quoteB
    split
    · show dec (92 :: 120 :: hexd (x.toNat / 16) :: hexd (x.toNat % 16) :: (b.flatMap quoteB ++ 34 :: r)) = _
      rw [dec_hex' (by rw [hexv_hexd (by omega), hexv_hexd (by omega)]; omega), ih, hexB_of]; rfl
    · split
      · rename_i h
        show dec (92 :: x :: (b.flatMap quoteB ++ 34 :: r)) = _
        rw [dec_esc' (by rcases h with rfl | rfl <;> decide), ih]; rfl
      · rename_i h
        show dec (x :: (b.flatMap quoteB ++ 34 :: r)) = _
        rw [dec_pl' (fun hc => h (.inl hc)) (fun hc => h (.inr hc)) (by simp), ih]; rfl
theorem unq_quote (b r : List UInt8) : unqR (quoteL b ++ r) = (b, r, true) := by
  have h : quoteL b ++ r = 34 :: (b.flatMap quoteB ++ 34 :: r) := by simp [quoteL]
  unfold unqR unq
  rw [h]
  simp only [if_true, dec_quote]
  rw [← h]; simp
theorem quote_mem (b : List UInt8) : ∀ c ∈ quoteL b, 32 ≤ c.toNat := by
  intro c hc
  have hq : ∀ x : UInt8, ∀ c ∈ quoteB x, 32 ≤ c.toNat := by
    intro x c hc
    unfold quoteB at hc
    have hh : ∀ n, n < 16 → 32 ≤ (hexd n).toNat := by
      intro n hn
      have : ∀ n : Fin 16, 32 ≤ (hexd n.val).toNat := by decide
      exact this ⟨n, hn⟩
    have hx := UInt8.toNat_lt x
    split at hc
    · simp only [List.mem_cons, List.not_mem_nil, or_false] at hc
      rcases hc with rfl | rfl | rfl | rfl
      · decide
      · decide
      · exact hh _ (by omega)
      · exact hh _ (by omega)
    · rename_i h
      split at hc
      · simp only [List.mem_cons, List.not_mem_nil, or_false] at hc
        rcases hc with rfl | rfl
        · decide
        · omega
      · simp only [List.mem_cons, List.not_mem_nil, or_false] at hc
        subst hc; omega
  unfold quoteL at hc
  rcases List.mem_cons.1 hc with rfl | hc
  · decide
  · rcases List.mem_append.1 hc with hc | hc
    · obtain ⟨x, _, hx⟩ := List.mem_flatMap.1 hc
      exact hq x c hx
    · rw [List.mem_singleton.1 hc]; decide
theorem trim_sp (t : List UInt8) : Lib.trimPrefix (32 :: t) [32] = t := by simp [Lib.trimPrefix, Lib.hasPrefix, List.isPrefixOf]
theorem trim_nil : Lib.trimPrefix [] [32] = [] := by rfl
/-! ### rows -/
theorem rd_rw {e : Rw} (hf : e.fits) (hb : rwBad e = false) : rdRw (rwText e) = some e := by
  obtain ⟨hk, he, hc, hn, hd⟩ := hf
  unfold rwBad at hb
  simp only [Bool.or_eq_false_iff, decide_eq_false_iff_not] at hb
  obtain ⟨⟨⟨h0, h1⟩, h2⟩, h3⟩ := hb
  have hkk := name_ne h0
  have hnn := name_nosp e.kind
  have hkn := kind_name hkk
  have ho : NoSp okW := by unfold NoSp; decide
  have her : NoSp errorW := by unfold NoSp; decide
  have hi : ∀ n, NoSp (Lib.itoa n) := itoa_mem
  obtain ⟨kind, err, conn, n, data, ended⟩ := e
  simp only at *
  unfold rdRw rwText
  simp only [sp]
  by_cases hz : err = 0
  · subst hz
    simp only [bne_self_eq_false, Bool.false_or, Bool.and_eq_false_iff, bne_eq_false_iff_eq, Bool.or_eq_false_iff, decide_eq_false_iff_not, ne_eq, Decidable.not_not] at h1 h2 h3
    have hne : okW ≠ errorW := by decide
    simp only [bne_self_eq_false]
    by_cases k1 : kind = 1
    · subst k1
      have : n = 0 := by omega
      have : data = [] ∧ ended = false := by rcases h3 with h3 | h3; omega; exact h3
      obtain ⟨rfl, rfl⟩ := this
      subst this
      simp [List.append_assoc, plainW_sp hnn, plainR_sp hnn, plainW_sp ho, plainR_sp ho, hkn, hne, plainW_no (hi conn), atoi_itoa hc]
    · have : conn = 0 := by rcases h1 with h1 | h1; exact absurd h1 k1; exact h1
      subst this
      by_cases k5 : kind = 5
      · subst k5
        have : data = [] ∧ ended = false := by rcases h3 with h3 | h3; omega; exact h3
        obtain ⟨rfl, rfl⟩ := this
        simp [List.append_assoc, plainW_sp hnn, plainR_sp hnn, plainW_sp ho, plainR_sp ho, hkn, hne, plainW_no (hi n), atoi_itoa hn]
      · have : n = 0 := by rcases h2 with h2 | h2; exact absurd h2 k5; exact h2
        subst this
        by_cases k2 : kind = 2
        · subst k2
          have hu := unq_quote data (32 :: (if ended then endedW else openW))
          have ht := trim_sp (if ended then endedW else openW)
          have hw : plainW (if ended then endedW else openW) = (if ended then endedW else openW) := plainW_no (by cases ended <;> (unfold NoSp; decide))
          cases ended
          · simp at hu ht hw
            simp [List.append_assoc, plainW_sp hnn, plainR_sp hnn, plainW_sp ho, plainR_sp ho, hkn, hne, hu, ht, hw]; decide
          · simp at hu ht hw
            simp [List.append_assoc, plainW_sp hnn, plainR_sp hnn, plainW_sp ho, plainR_sp ho, hkn, hne, hu, ht, hw]
        · have : data = [] ∧ ended = false := by rcases h3 with h3 | h3; exact absurd h3 k2; exact h3
          obtain ⟨rfl, rfl⟩ := this
          have hlt : ¬ kind < 1 := by omega
          simp [plainW_sp hnn, plainR_sp hnn, plainW_no ho, hkn, hne, k1, k2, k5, hlt]
  · have h1' : conn = 0 := by simpa [hz] using h1
    have h2' : n = 0 := by simpa [hz] using h2
    have h3' : data = [] ∧ ended = false := by simpa [hz] using h3
    obtain ⟨rfl, rfl⟩ := h3'
    subst h1' h2'
    have hlt : ¬ kind < 1 := by omega
    simp [hz, plainW_sp hnn, plainR_sp hnn, plainW_sp her, plainR_sp her, hkn, plainW_no (hi err), atoi_itoa he, hlt]
theorem parse_rw {e : Rw} (hf : e.fits) (hb : (rwLine e).2 = true) : parseRw (rwLine e).1 = some e := by
  have hb' : rwBad e = false := by
    unfold rwLine at hb
    split at hb
    · cases hb
    · rename_i h; simpa using h
  have hl : rwLine e = (rwText e, true) := by unfold rwLine; rw [hb']; rfl
  unfold parseRw
  rw [hl, rd_rw hf hb']
  simp only; rw [if_pos hl]
/-! ### events -/
def picksT (l : List Int) : List UInt8 := l.flatMap fun p => 32 :: Lib.itoa p
theorem foldl_picks (l : List Int) (s : List UInt8) : l.foldl addN s = s ++ picksT l := by
  induction l generalizing s with
  | nil => simp [picksT]
  | cons p r ih => rw [List.foldl_cons, ih]; simp [picksT, addN, sp]
theorem plain_picks {a : List UInt8} (h : NoSp a) (l : List Int) : plainW (a ++ picksT l) = a ∧ plainR (a ++ picksT l) = (picksT l).drop 1 := by
  cases l with
  | nil => simp [picksT, plainW_no h, plainR_no h]
  | cons p r =>
    have : picksT (p :: r) = 32 :: (Lib.itoa p ++ picksT r) := by simp [picksT]
    rw [this, plainW_sp h, plainR_sp h]; simp
theorem rdPk_picks (l : List Int) (hl : ∀ p ∈ l, 0 ≤ p ∧ p ≤ 65535) : ∀ k, ((picksT l).drop 1).length ≤ k → rdPk k ((picksT l).drop 1) = some l := by
  induction l with
  | nil => intro k _; simp [picksT, rdPk_nil]
  | cons p r ih =>
    intro k hk
    have : (picksT (p :: r)).drop 1 = Lib.itoa p ++ picksT r := by simp [picksT]
    rw [this] at hk ⊢
    have hp := hl p (List.mem_cons_self ..)
    obtain ⟨h1, h2⟩ := plain_picks (itoa_mem p) r
    have hne : Lib.itoa p ++ picksT r ≠ [] := by
      intro hc
      exact itoa_ne p (List.append_eq_nil_iff.1 hc).1
    obtain ⟨k', rfl, hk', hr⟩ := rdPk_ok hne hk (by rw [h1]; exact atoi_itoa (by unfold i64; omega)) hp
    rw [hr, h2, ih (fun q hq => hl q (List.mem_cons_of_mem _ hq)) k' (by rw [h2] at hk'; exact hk')]
    rfl
theorem rd_ev {e : Ev} (hf : e.fits) (hb : evBad e = false) : rdEv (evText e) = some e := by
  obtain ⟨hk, hc, hn, hd, hpl, hps⟩ := hf
  unfold evBad at hb
  simp only [Bool.or_eq_false_iff, decide_eq_false_iff_not] at hb
  obtain ⟨⟨⟨⟨h0, h1⟩, h2⟩, h3⟩, h4⟩ := hb
  have hkk := name_ne h0
  have hnn := name_nosp e.kind
  have hkn := kind_name hkk
  have hi : ∀ n, NoSp (Lib.itoa n) := itoa_mem
  obtain ⟨kind, conn, n, data, picks⟩ := e
  simp only at *
  have hlt : ¬ kind < 1 := by omega
  have hcases : kind = 1 ∨ kind = 2 ∨ kind = 3 ∨ kind = 4 ∨ kind = 5 ∨ kind = 6 ∨ kind = 7 ∨ kind = 8 ∨ kind = 9 := by omega
  unfold rdEv evText evText3 evText2 evText1
  rw [foldl_picks]
  by_cases k8 : kind = 8
  · subst k8
    simp [isConn, isNum] at h1 h2 h3
    subst h1 h3
    have hpp := plain_picks (hi n) picks
    have hrd := rdPk_picks picks hps
    simp [isConn, isNum, evS0, sp, List.append_assoc, plainW_sp hnn, plainR_sp hnn, hkn, reads, doNum, doPicks, hpp.1, hpp.2, atoi_itoa hn]
    have := hrd _ (Nat.le_refl _)
    simp at this
    rw [this]
  · have h4' : picks = [] := by simpa [k8] using h4
    subst h4'
    simp only [picksT, List.flatMap_nil, List.append_nil]
    by_cases k2 : kind = 2
    · subst k2
      simp [isConn, isNum] at h1 h2 h3
      subst h2
      have hu := unq_quote data []
      rw [List.append_nil] at hu
      simp [isConn, isNum, evS0, sp, List.append_assoc, plainW_sp hnn, plainR_sp hnn, hkn, reads, doConn, doData, plainW_sp (hi conn), plainR_sp (hi conn), atoi_itoa hc, hu]
    · have h3' : data = [] := by simpa [k2] using h3
      subst h3'
      by_cases k3 : kind = 3
      · subst k3
        simp [isConn, isNum] at h1 h2
        subst h2
        simp [isConn, isNum, evS0, sp, List.append_assoc, plainW_sp hnn, plainR_sp hnn, hkn, reads, doConn, plainW_no (hi conn), plainR_no (hi conn), atoi_itoa hc]
      · have h1' : conn = 0 := by simpa [isConn, k2, k3] using h1
        subst h1'
        by_cases kn : kind = 4 ∨ kind = 6 ∨ kind = 7
        · have hnum : isNum kind = true := by rcases kn with rfl | rfl | rfl <;> rfl
          have hcon : isConn kind = false := by rcases kn with rfl | rfl | rfl <;> rfl
          have hk2 : (kind == 2) = false := by simpa using k2
          simp [hnum, hcon, hk2, evS0, sp, plainW_sp hnn, plainR_sp hnn, hkn, reads, doNum, plainW_no (hi n), plainR_no (hi n), atoi_itoa hn, hlt, k2, k3, k8, kn]
        · have hnum : isNum kind = false := by simp [isNum]; omega
          have hcon : isConn kind = false := by simp [isConn]; omega
          have hk2 : (kind == 2) = false := by simpa using k2
          have h2' : n = 0 := by simpa [hnum] using h2
          subst h2'
          simp [hnum, hcon, hk2, evS0, plainW_no hnn, plainR_no hnn, hkn, reads, hlt, k2, k3, k8, kn]
theorem parse_ev {e : Ev} (hf : e.fits) (hb : (evLine e).2 = true) : parseEv (evLine e).1 = some e := by
  have hb' : evBad e = false := by
    unfold evLine at hb
    split at hb
    · cases hb
    · rename_i h; simpa using h
  have hl : evLine e = (evText e, true) := by unfold evLine; rw [hb']; rfl
  unfold parseEv
  rw [hl, rd_ev hf hb']
  simp only; rw [if_pos hl]
theorem parseRw_line {x : List UInt8} {e : Rw} (h : parseRw x = some e) : rwLine e = (x, true) := by
  unfold parseRw at h
  split at h
  · split at h
    · rename_i hl; cases h; exact hl
    · cases h
  · cases h
theorem parseEv_line {x : List UInt8} {e : Ev} (h : parseEv x = some e) : evLine e = (x, true) := by
  unfold parseEv at h
  split at h
  · split at h
    · rename_i hl; cases h; exact hl
    · cases h
  · cases h
/-! ### no line's end within a line -/
def NoNl (l : List UInt8) : Prop := ∀ c ∈ l, 32 ≤ c.toNat
theorem NoNl.of {l : List UInt8} (h : NoSp l) : NoNl l := fun c hc => by have := h c hc; omega
theorem NoNl.sp {a b : List UInt8} (ha : NoNl a) (hb : NoNl b) : NoNl (sp a b) := by
  intro c hc
  unfold Sh.sp at hc
  rcases List.mem_append.1 hc with hc | hc
  · exact ha c hc
  · rcases List.mem_cons.1 hc with rfl | hc
    · decide
    · exact hb c hc
theorem rw_nl (e : Rw) : NoNl (rwLine e).1 := by
  have hn := NoNl.of (name_nosp e.kind)
  have hi : ∀ n, NoNl (Lib.itoa n) := fun n => NoNl.of (itoa_mem n)
  have h1 : NoNl okW := by unfold NoNl; decide
  have h2 : NoNl errorW := by unfold NoNl; decide
  have h3 : NoNl openW := by unfold NoNl; decide
  have h4 : NoNl endedW := by unfold NoNl; decide
  have hq : NoNl (quoteL e.data) := quote_mem e.data
  unfold rwLine
  split
  · intro c hc; cases hc
  · show NoNl (rwText e)
    unfold rwText
    split
    · exact hn.sp (h2.sp (hi _))
    · split
      · exact (hn.sp h1).sp (hi _)
      · split
        · exact (hn.sp h1).sp (hi _)
        · split
          · refine (hn.sp h1).sp (hq.sp ?_)
            split
            · exact h4
            · exact h3
          · exact hn.sp h1
theorem ev_nl (e : Ev) : NoNl (evLine e).1 := by
  have hn := NoNl.of (name_nosp e.kind)
  have hi : ∀ n, NoNl (Lib.itoa n) := fun n => NoNl.of (itoa_mem n)
  have hq : NoNl (quoteL e.data) := quote_mem e.data
  have h1 : NoNl (evText1 e) := by
    unfold evText1; split
    · exact hn.sp (hi _)
    · exact hn
  have h2 : NoNl (evText2 e) := by
    unfold evText2; split
    · exact h1.sp (hi _)
    · exact h1
  have h3 : NoNl (evText3 e) := by
    unfold evText3; split
    · exact h2.sp hq
    · exact h2
  have hf : ∀ (l : List Int) (s : List UInt8), NoNl s → NoNl (l.foldl addN s) := by
    intro l
    induction l with
    | nil => intro s h; exact h
    | cons p r ih => intro s h; exact ih _ (h.sp (hi p))
  unfold evLine
  split
  · intro c hc; cases hc
  · exact hf _ _ h3
/-! ### lines of a text -/
theorem idx_nl {a : List UInt8} (h : NoNl a) (t : List UInt8) : Lib.indexByte (a ++ 10 :: t) 10 = (a.length : Int) := by
  induction a with
  | nil => simp [Lib.indexByte]
  | cons c r ih =>
    have hc := h c (List.mem_cons_self ..)
    have hr := ih fun x hx => h x (List.mem_cons_of_mem _ hx)
    have hne : (c == 10) = false := by
      rw [beq_eq_false_iff_ne]
      rintro rfl
      revert hc; decide
    rw [List.cons_append, Lib.indexByte, hne, hr]
    simp only [List.length_cons]
    have : ((r.length : Int) == -1) = false := by rw [beq_eq_false_iff_ne]; omega
    simp [this]
theorem line_nl {a : List UInt8} (h : NoNl a) (t : List UInt8) : lineOf (a ++ 10 :: t) = a ++ [10] ∧ restOf (a ++ 10 :: t) = t := by
  have hx := idx_nl h t
  unfold lineOf restOf
  rw [hx, if_pos (by omega), if_pos (by omega)]
  have : ((a.length : Int) + 1).toNat = a.length + 1 := by omega
  rw [this]
  constructor
  · rw [List.take_append, List.take_of_length_le (by omega)]; simp
  · rw [List.drop_append]; simp
theorem suffix_nl (a : List UInt8) : Lib.hasSuffix (a ++ [10]) [10] = true := by
  unfold Lib.hasSuffix
  rw [List.isSuffixOf_iff_suffix]
  exact List.suffix_append ..
theorem trim_nl (a : List UInt8) : Lib.trimSuffix (a ++ [10]) [10] = a := by
  unfold Lib.trimSuffix
  rw [suffix_nl]
  simp
theorem suffix_is {l : List UInt8} (h : Lib.hasSuffix l [10] = true) : Lib.trimSuffix l [10] ++ [10] = l := by
  have h' := h
  unfold Lib.hasSuffix at h'
  rw [List.isSuffixOf_iff_suffix] at h'
  obtain ⟨a, rfl⟩ := h'
  rw [trim_nl]
theorem line_rest (t : List UInt8) : lineOf t ++ restOf t = t := by
  unfold lineOf restOf; split <;> simp
section
variable {α : Type} {f : List UInt8 → Option α} {g : α → List UInt8 × Bool}
theorem prs_fuel : ∀ (k k' : Nat) (t : List UInt8) (acc : List α), t.length ≤ k → t.length ≤ k' → prs f k t acc = prs f k' t acc
  | 0, k', t, acc, h, _ => by
    have : t = [] := by simpa using h
    subst this; rw [prs_nil, prs_nil]
  | k + 1, 0, t, acc, _, h => by
    have : t = [] := by simpa using h
    subst this; rw [prs_nil, prs_nil]
  | k + 1, k' + 1, t, acc, h, h' => by
    by_cases ht : t = []
    · subst ht; rw [prs_nil, prs_nil]
    · have hl := restOf_lt ht
      rw [prs, prs, if_neg ht, if_neg ht]
      cases lineVal f (lineOf t) with
      | none => rfl
      | some e => exact prs_fuel k k' _ _ (by omega) (by omega)
theorem prs_join (l : List α) (hl : ∀ x ∈ l, (g x).2 = true) (hn : ∀ x ∈ l, NoNl (g x).1) (hf : ∀ x ∈ l, f (g x).1 = some x) : ∀ (k : Nat) (acc : List α), (joinW g l).length ≤ k → prs f k (joinW g l) acc = (acc ++ l, 0, 0) := by
  induction l with
  | nil => intro k acc _; simp [joinW, prs_nil]
  | cons x r ih =>
    intro k acc hk
    have hj : joinW g (x :: r) = (g x).1 ++ 10 :: joinW g r := by simp [joinW]
    rw [hj] at hk ⊢
    obtain ⟨h1, h2⟩ := line_nl (hn x (List.mem_cons_self ..)) (joinW g r)
    obtain ⟨k', rfl, hk', hp⟩ := prs_some (f := f) (acc := acc) (e := x) (by simp) hk (by rw [h1]; unfold lineVal; rw [suffix_nl, trim_nl]; exact hf x (List.mem_cons_self ..))
    rw [hp, h2, ih (fun y hy => hl y (List.mem_cons_of_mem _ hy)) (fun y hy => hn y (List.mem_cons_of_mem _ hy)) (fun y hy => hf y (List.mem_cons_of_mem _ hy)) k' _ (by rw [h2] at hk'; exact hk')]
    simp
theorem parse_written {l : List α} {s : List UInt8} (h : wr g l = (s, 0)) (hn : ∀ x, NoNl (g x).1) (hf : ∀ x ∈ l, (g x).2 = true → f (g x).1 = some x) : parseT f s = (l, 0, 0) ∧ s.length ≤ 65536 := by
  unfold wr at h
  split at h
  · rename_i ha
    rw [List.all_eq_true] at ha
    split at h
    · cases h
    · rename_i hlen
      cases h
      refine ⟨?_, by omega⟩
      unfold parseT
      rw [if_neg hlen, prs_join l ha (fun x _ => hn x) (fun x hx => hf x hx (ha x hx)) _ _ (Nat.le_refl _)]
      rfl
  · cases h
theorem wr_cases (l : List α) : (wr g l).2 = 0 ∨ ((wr g l).1 = [] ∧ ((wr g l).2 = 1 ∨ (wr g l).2 = 3)) := by
  unfold wr
  split
  · split
    · exact .inr ⟨rfl, .inr rfl⟩
    · exact .inl rfl
  · exact .inr ⟨rfl, .inl rfl⟩
/-- what is read is what was written -/
theorem prs_sound (hs : ∀ x e, f x = some e → g e = (x, true)) : ∀ (k : Nat) (t : List UInt8) (acc : List α), t.length ≤ k →
    (∃ l, prs f k t acc = (acc ++ l, 0, 0) ∧ joinW g l = t ∧ l.all (fun x => (g x).2) = true) ∨ ∃ n : Int, prs f k t acc = ([], n, 5)
  | 0, t, acc, h => by
    have : t = [] := by simpa using h
    subst this
    exact .inl ⟨[], by simp [prs_nil], rfl, rfl⟩
  | k + 1, t, acc, h => by
    by_cases ht : t = []
    · subst ht; exact .inl ⟨[], by simp [prs_nil], rfl, rfl⟩
    · have hl := restOf_lt ht
      rw [prs, if_neg ht]
      cases hv : lineVal f (lineOf t) with
      | none => exact .inr ⟨_, rfl⟩
      | some e =>
        unfold lineVal at hv
        split at hv
        · rename_i hsuf
          have hg := hs _ _ hv
          rcases prs_sound hs k (restOf t) (acc ++ [e]) (by omega) with ⟨l, h1, h2, h3⟩ | ⟨n, h1⟩
          · refine .inl ⟨e :: l, by simp [h1], ?_, by simp [hg]; simpa using h3⟩
            have : joinW g (e :: l) = (g e).1 ++ [10] ++ joinW g l := by simp [joinW]
            rw [this, h2, hg]
            show Lib.trimSuffix (lineOf t) [10] ++ [10] ++ restOf t = t
            rw [suffix_is hsuf, line_rest]
          · exact .inr ⟨n, h1⟩
        · cases hv
theorem parse_sound (hs : ∀ x e, f x = some e → g e = (x, true)) (s : List UInt8) :
    (∃ l, parseT f s = (l, 0, 0) ∧ wr g l = (s, 0)) ∨ (∃ n e : Int, parseT f s = ([], n, e) ∧ (e = 3 ∨ e = 5)) := by
  unfold parseT
  split
  · exact .inr ⟨0, 3, rfl, .inl rfl⟩
  · rename_i hl
    rcases prs_sound hs s.length s [] (Nat.le_refl _) with ⟨l, h1, h2, h3⟩ | ⟨n, h1⟩
    · refine .inl ⟨l, by simpa using h1, ?_⟩
      unfold wr
      rw [if_pos h3, h2, if_neg hl]
    · exact .inr ⟨n, 5, h1, .inr rfl⟩
theorem prs_len : ∀ (k : Nat) (t : List UInt8) (acc : List α), t.length ≤ k → (prs f k t acc).1.length ≤ acc.length + t.length
  | 0, t, acc, h => by simp [prs]
  | k + 1, t, acc, h => by
    by_cases ht : t = []
    · simp [prs, ht]
    · have hl := restOf_lt ht
      rw [prs, if_neg ht]
      cases lineVal f (lineOf t) with
      | none => simp
      | some e =>
        have := prs_len k (restOf t) (acc ++ [e]) (by omega)
        simp only [List.length_append, List.length_cons, List.length_nil] at this ⊢
        omega
theorem parse_len (s : List UInt8) : (parseT f s).1.length ≤ s.length := by
  unfold parseT
  split
  · simp
  · have := prs_len (f := f) s.length s [] (Nat.le_refl _)
    simpa using this
/-! ### one behind the other -/
theorem prs_acc : ∀ (k : Nat) (t : List UInt8) (acc : List α), prs f k t acc = if (prs f k t []).2.2 = 0 then (acc ++ (prs f k t []).1, 0, 0) else ([], (acc.length : Int) + (prs f k t []).2.1, 5)
  | 0, t, acc => by simp [prs]
  | k + 1, t, acc => by
    by_cases ht : t = []
    · simp [prs, ht]
    · rw [prs, prs, if_neg ht, if_neg ht]
      cases lineVal f (lineOf t) with
      | none => simp
      | some e =>
        simp only
        rw [prs_acc k (restOf t) (acc ++ [e]), prs_acc k (restOf t) ([] ++ [e])]
        by_cases h0 : (prs f k (restOf t) []).2.2 = 0
        · simp [h0]
        · simp [h0]; omega
theorem idx_app {s : List UInt8} {c : UInt8} (t : List UInt8) (h : 0 ≤ Lib.indexByte s c) : Lib.indexByte (s ++ t) c = Lib.indexByte s c := by
  induction s with
  | nil => simp [Lib.indexByte] at h
  | cons b r ih =>
    rw [List.cons_append, Lib.indexByte, Lib.indexByte]
    by_cases hb : (b == c) = true
    · simp [hb]
    · have hb' : (b == c) = false := by simpa using hb
      rw [Lib.indexByte, hb'] at h
      have hr := Lib.indexByte_ge r c
      have h0 : 0 ≤ Lib.indexByte r c := by
        by_cases hm : Lib.indexByte r c = -1
        · simp [hm] at h
        · omega
      rw [hb', ih h0]
theorem suffix_idx {s : List UInt8} (h : Lib.hasSuffix (lineOf s) [10] = true) : 0 ≤ Lib.indexByte s 10 := by
  by_cases h0 : 0 ≤ Lib.indexByte s 10
  · exact h0
  · exfalso
    have hl : lineOf s = s := by unfold lineOf; rw [if_neg h0]
    rw [hl] at h
    have h1 := suffix_is h
    have hm : (10 : UInt8) ∈ s := by rw [← h1]; simp
    obtain ⟨j, hj⟩ := List.getElem?_of_mem hm
    have := Lib.indexByte_ge s 10
    exact Lib.indexByte_none (by omega) j hj
theorem prs_app : ∀ (k : Nat) (s t : List UInt8) (acc : List α) (k' : Nat), s.length ≤ k → (prs f k s acc).2.2 = 0 → (s ++ t).length ≤ k' → prs f k' (s ++ t) acc = prs f k' t (prs f k s acc).1
  | 0, s, t, acc, k', h, _, _ => by
    have : s = [] := by simpa using h
    subst this; simp [prs]
  | k + 1, s, t, acc, k', h, h0, hk' => by
    by_cases hs : s = []
    · subst hs; simp [prs_nil]
    · rw [prs, if_neg hs] at h0 ⊢
      cases hv : lineVal f (lineOf s) with
      | none => rw [hv] at h0; cases h0
      | some e =>
        rw [hv] at h0
        simp only at h0 ⊢
        have hl := restOf_lt hs
        have hsuf : Lib.hasSuffix (lineOf s) [10] = true := by
          unfold lineVal at hv
          split at hv
          · assumption
          · cases hv
        have hi := suffix_idx hsuf
        have ha := idx_app t hi
        have hlt := idx_lt hi
        have h1 : lineOf (s ++ t) = lineOf s := by
          unfold lineOf
          rw [ha, if_pos hi, if_pos hi, List.take_append_of_le_length (by omega)]
        have h2 : restOf (s ++ t) = restOf s ++ t := by
          unfold restOf
          rw [ha, if_pos hi, if_pos hi, List.drop_append_of_le_length (by omega)]
        obtain ⟨k2, rfl, hk2, hp⟩ := prs_some (f := f) (acc := acc) (e := e) (t := s ++ t) (by simp [hs]) hk' (by rw [h1]; exact hv)
        rw [h2] at hk2
        rw [hp, h2, prs_app k (restOf s) t (acc ++ [e]) k2 (by omega) h0 hk2]
        exact prs_fuel _ _ _ _ (by simp only [List.length_append] at hk2; omega) (by simp only [List.length_append] at hk2; omega)
theorem parse_app {s t : List UInt8} (hl : s.length + t.length ≤ 65536) (h0 : (parseT f s).2.2 = 0) :
    ((parseT f t).2.2 = 0 → parseT f (s ++ t) = ((parseT f s).1 ++ (parseT f t).1, 0, 0)) ∧ ((parseT f t).2.2 = 5 → parseT f (s ++ t) = ([], ((parseT f s).1.length : Int) + (parseT f t).2.1, 5)) := by
  have e1 : parseT f s = prs f s.length s [] := if_neg (by omega)
  have e2 : parseT f t = prs f t.length t [] := if_neg (by omega)
  have e3 : parseT f (s ++ t) = prs f (s ++ t).length (s ++ t) [] := if_neg (by rw [List.length_append]; omega)
  rw [e1] at h0
  rw [e3, e1, e2, prs_app s.length s t [] (s ++ t).length (Nat.le_refl _) h0 (Nat.le_refl _), prs_fuel (s ++ t).length t.length t _ (by simp) (Nat.le_refl _), prs_acc t.length t (prs f s.length s []).1]
  constructor
  · intro h; rw [if_pos h]
  · intro h; rw [if_neg (by rw [h]; decide)]
theorem join_ok {s t : List UInt8} (hl : s.length + t.length ≤ 65536) (h0 : (parseT f s).2.2 = 0) (h1 : (parseT f t).2.2 = 0) : (parseT f (s ++ t)).2.2 = 0 ∧ (parseT f (s ++ t)).1 = (parseT f s).1 ++ (parseT f t).1 := by
  rw [(parse_app hl h0).1 h1]; exact ⟨rfl, rfl⟩
theorem join_form {s t : List UInt8} (hl : s.length + t.length ≤ 65536) (h0 : (parseT f s).2.2 = 0) (h1 : (parseT f t).2.2 = 5) : (parseT f (s ++ t)).2.2 = 5 ∧ (parseT f (s ++ t)).2.1 = ((parseT f s).1.length : Int) + (parseT f t).2.1 := by
  rw [(parse_app hl h0).2 h1]; exact ⟨rfl, rfl⟩
theorem prs_num : ∀ (k : Nat) (t : List UInt8) (acc : List α), t.length ≤ k → 0 ≤ (prs f k t acc).2.1 ∧ (prs f k t acc).2.1 ≤ (acc.length : Int) + t.length + 1
  | 0, t, acc, h => by simp only [prs]; omega
  | k + 1, t, acc, h => by
    by_cases ht : t = []
    · simp only [prs, ht, if_true]; omega
    · have hl := restOf_lt ht
      rw [prs, if_neg ht]
      cases lineVal f (lineOf t) with
      | none => simp only; omega
      | some e =>
        have := prs_num k (restOf t) (acc ++ [e]) (by omega)
        simp only [List.length_append, List.length_cons, List.length_nil] at this ⊢
        omega
theorem parse_num (s : List UInt8) : 0 ≤ (parseT f s).2.1 ∧ (parseT f s).2.1 ≤ (s.length : Int) + 1 := by
  unfold parseT
  split
  · simp only; omega
  · have := prs_num (f := f) s.length s [] (Nat.le_refl _)
    simp only [List.length_nil] at this
    omega
end
theorem quoteB_pos (c : UInt8) : 1 ≤ (quoteB c).length := by
  unfold quoteB; split
  · simp
  · split <;> simp
theorem quoteL_ge (l : List UInt8) : l.length ≤ (quoteL l).length := by
  have h : l.length ≤ (l.flatMap quoteB).length := by
    induction l with
    | nil => simp
    | cons c r ih => have := quoteB_pos c; simp only [List.flatMap_cons, List.length_append, List.length_cons]; omega
  simp only [quoteL, List.length_cons, List.length_append, List.length_nil]; omega
theorem evWt_le {e : Ev} (h : (evLine e).2 = true) : evWt e ≤ (evLine e).1.length := by
  unfold evLine at h ⊢
  split at h
  · cases h
  · rename_i hb
    rw [if_neg hb]
    show evWt e ≤ (evText e).length
    have hb' : evBad e = false := by simpa using hb
    unfold evBad at hb'
    simp only [Bool.or_eq_false_iff, decide_eq_false_iff_not] at hb'
    obtain ⟨⟨⟨⟨h0, h1⟩, h2⟩, h3⟩, h4⟩ := hb'
    unfold evText evWt
    rw [foldl_picks, List.length_append]
    have hp : e.picks.length ≤ (picksT e.picks).length := by
      generalize e.picks = l
      induction l with
      | nil => simp
      | cons p r ih => simp only [picksT, List.flatMap_cons, List.length_append, List.length_cons] at ih ⊢; omega
    have hd : e.data.length ≤ (evText3 e).length := by
      unfold evText3
      by_cases k2 : e.kind = 2
      · rw [if_pos (by simpa using k2), sp_len]
        have := quoteL_ge e.data
        omega
      · have : e.data = [] := by simpa [k2] using h3
        rw [this]; simp
    omega
theorem rwWt_le {e : Rw} (h : (rwLine e).2 = true) : rwWt e ≤ (rwLine e).1.length := by
  unfold rwLine at h ⊢
  split at h
  · cases h
  · rename_i hb
    rw [if_neg hb]
    show rwWt e ≤ (rwText e).length
    have hb' : rwBad e = false := by simpa using hb
    unfold rwBad at hb'
    simp only [Bool.or_eq_false_iff, decide_eq_false_iff_not] at hb'
    obtain ⟨⟨⟨h0, h1⟩, h2⟩, h3⟩ := hb'
    unfold rwWt
    by_cases hd : e.data = []
    · rw [hd]; simp
    · have h3' : e.err = 0 ∧ e.kind = 2 := by
        simp [hd] at h3
        exact h3
      obtain ⟨he, hk⟩ := h3'
      have := quoteL_ge e.data
      unfold rwText
      simp [he, hk, sp_len]
      omega
theorem total_join {α : Type} {g : α → List UInt8 × Bool} {wt : α → Nat} (l : List α) (h : ∀ x ∈ l, wt x ≤ (g x).1.length) : total wt l + l.length ≤ (joinW g l).length := by
  induction l with
  | nil => simp [total]
  | cons x r ih =>
    have h1 := ih fun y hy => h y (List.mem_cons_of_mem _ hy)
    have h2 := h x (List.mem_cons_self ..)
    simp only [joinW, total, List.flatMap_cons, List.length_append, List.length_cons, List.length_nil, List.map_cons, List.sum_cons] at h1 ⊢
    omega
theorem wr_total {α : Type} {g : α → List UInt8 × Bool} {wt : α → Nat} {l : List α} {s : List UInt8} (h : wr g l = (s, 0)) (hw : ∀ x, (g x).2 = true → wt x ≤ (g x).1.length) : total wt l + l.length ≤ s.length ∧ s.length ≤ 65536 := by
  unfold wr at h
  split at h
  · rename_i ha
    rw [List.all_eq_true] at ha
    split at h
    · cases h
    · rename_i hlen
      cases h
      exact ⟨total_join l fun x hx => hw x (ha x hx), by omega⟩
  · cases h
theorem wr_or {α : Type} (g : α → List UInt8 × Bool) (l : List α) : (∃ a, wr g l = (a, 0)) ∨ wr g l = ([], 1) ∨ wr g l = ([], 3) := by
  unfold wr
  split
  · split
    · exact .inr (.inr rfl)
    · exact .inl ⟨_, rfl⟩
  · exact .inr (.inl rfl)
theorem sound_or {α : Type} {f : List UInt8 → Option α} {g : α → List UInt8 × Bool} (hs : ∀ x e, f x = some e → g e = (x, true)) (s : List UInt8) :
    (∃ l, parseT f s = (l, 0, 0) ∧ wr g l = (s, 0)) ∨ (∃ n, parseT f s = ([], n, 3)) ∨ ∃ n, parseT f s = ([], n, 5) := by
  rcases parse_sound hs s with h | ⟨n, e, h, rfl | rfl⟩
  · exact .inl h
  · exact .inr (.inl ⟨n, h⟩)
  · exact .inr (.inr ⟨n, h⟩)
end Go.Sh
