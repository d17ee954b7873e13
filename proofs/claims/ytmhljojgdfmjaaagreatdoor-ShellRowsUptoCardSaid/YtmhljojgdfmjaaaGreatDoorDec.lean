/- Words read back. No program here. -/
import Derived.Test.YtmhljojgdfmjaaaGreatDoorData
import Derived.Lib.Bytealg
import Derived.Lib.IndexLaws
import Derived.Lib.IndexMore
import Derived.Lib.AtoiAll
import Derived.Lib.Strings
import Derived.Lib.SlicesS
namespace Go.Sh
open Go
def digitsL : List UInt8 := [48, 49, 50, 51, 52, 53, 54, 55, 56, 57, 97, 98, 99, 100, 101, 102]
def hexv (c : UInt8) : Int := Lib.indexByte digitsL c
theorem hexv_b (c : UInt8) : -1 ≤ hexv c ∧ hexv c ≤ 15 := by
  refine ⟨Lib.indexByte_ge _ _, ?_⟩
  by_cases h : hexv c < 0
  · omega
  · obtain ⟨n, hn⟩ := Int.eq_ofNat_of_zero_le (show 0 ≤ hexv c by omega)
    have h1 := (Lib.indexByte_some (show Lib.indexByte digitsL c = (n : Int) from hn)).1
    have h2 : n < 16 := (List.getElem?_eq_some_iff.1 h1).1
    omega
def consO (c : UInt8) : Option (List UInt8 × List UInt8) → Option (List UInt8 × List UInt8)
  | some (b, t) => some (c :: b, t)
  | none => none
def preO (p : List UInt8) : Option (List UInt8 × List UInt8) → Option (List UInt8 × List UInt8)
  | some (b, t) => some (p ++ b, t)
  | none => none
theorem preO_nil (o : Option (List UInt8 × List UInt8)) : preO [] o = o := by cases o <;> rfl
theorem preO_cons (p : List UInt8) (c : UInt8) (o : Option (List UInt8 × List UInt8)) : preO p (consO c o) = preO (p ++ [c]) o := by cases o <;> simp [preO, consO]
def hexB (a b : UInt8) : UInt8 := UInt8.ofNat (hexv a * 16 + hexv b).toNat
/-- what stands behind an opening sign: the bytes, and the rest -/
def dec : List UInt8 → Option (List UInt8 × List UInt8)
  | [] => none
  | [c] => if c = 34 then some ([], []) else none
  | c :: d :: r =>
    if c = 34 then some ([], d :: r)
    else if c = 92 then
      match r with
      | a :: b :: r' => if d = 120 then (if hexv a < 0 ∨ hexv b < 0 then none else consO (hexB a b) (dec r')) else consO d (dec (a :: b :: r'))
      | [a] => consO d (dec [a])
      | [] => consO d (dec [])
    else consO c (dec (d :: r))
def unq : List UInt8 → Option (List UInt8 × List UInt8)
  | [] => none
  | c :: r => if c = 34 then (match dec r with | some (b, t) => if quoteL b ++ t = c :: r then some (b, t) else none | none => none) else none
def unqR (s : List UInt8) : List UInt8 × List UInt8 × Bool := match unq s with | some (b, t) => (b, t, true) | none => ([], [], false)
section
variable {s : List UInt8} {i : Nat}
theorem drop_at (h : i < s.length) : s.drop i = s.getD i 0 :: s.drop (i + 1) := by
  rw [List.drop_eq_getElem_cons h]; simp [List.getD, List.getElem?_eq_getElem h]
theorem dec_q (h : i < s.length) (hc : s.getD i 0 = 34) : dec (s.drop i) = some ([], s.drop (i + 1)) := by
  rw [drop_at h, hc]
  cases s.drop (i + 1) with
  | nil => rfl
  | cons d r =>
    conv => lhs; rw [dec.eq_def]
    show (if (34 : UInt8) = 34 then _ else _) = _
    rw [if_pos rfl]
theorem dec_end (h : s.length ≤ i) : dec (s.drop i) = none := by rw [List.drop_eq_nil_of_le h]; rfl
theorem dec_hex (h : i + 3 < s.length) (hc : s.getD i 0 = 92) (hx : s.getD (i + 1) 0 = 120) (ha : ¬ (hexv (s.getD (i + 2) 0) < 0 ∨ hexv (s.getD (i + 3) 0) < 0)) : dec (s.drop i) = consO (hexB (s.getD (i + 2) 0) (s.getD (i + 3) 0)) (dec (s.drop (i + 4))) := by
  rw [drop_at (by omega : i < s.length), drop_at (by omega : i + 1 < s.length), drop_at (by omega : i + 2 < s.length), drop_at (by omega : i + 3 < s.length), hc, hx]
  rw [dec, if_neg (by decide), if_pos rfl]
  show (if (120 : UInt8) = 120 then _ else _) = _
  rw [if_pos rfl, if_neg ha]
theorem dec_hexbad (h : i + 3 < s.length) (hc : s.getD i 0 = 92) (hx : s.getD (i + 1) 0 = 120) (ha : hexv (s.getD (i + 2) 0) < 0 ∨ hexv (s.getD (i + 3) 0) < 0) : dec (s.drop i) = none := by
  rw [drop_at (by omega : i < s.length), drop_at (by omega : i + 1 < s.length), drop_at (by omega : i + 2 < s.length), drop_at (by omega : i + 3 < s.length), hc, hx]
  rw [dec, if_neg (by decide), if_pos rfl]
  show (if (120 : UInt8) = 120 then _ else _) = _
  rw [if_pos rfl, if_pos ha]
theorem dec_esc (h : i + 1 < s.length) (hc : s.getD i 0 = 92) (hx : ¬ (i + 3 < s.length ∧ s.getD (i + 1) 0 = 120)) : dec (s.drop i) = consO (s.getD (i + 1) 0) (dec (s.drop (i + 2))) := by
  rw [drop_at (by omega : i < s.length), drop_at h, hc]
  generalize hd : s.getD (i + 1) 0 = d at hx ⊢
  have hl : (s.drop (i + 2)).length = s.length - (i + 2) := List.length_drop
  match hr : s.drop (i + 2) with
  | [] => conv => lhs; rw [dec]
          rw [if_neg (by decide), if_pos rfl]
  | [a] => conv => lhs; rw [dec]
           rw [if_neg (by decide), if_pos rfl]
  | a :: b :: r' =>
    rw [hr] at hl
    simp only [List.length_cons] at hl
    have hn : ¬ d = 120 := fun hd => hx ⟨by omega, hd⟩
    rw [dec, if_neg (by decide), if_pos rfl]
    show (if d = 120 then _ else _) = _
    rw [if_neg hn]
theorem dec_pl (h : i < s.length) (hc : s.getD i 0 ≠ 34) (hx : ¬ (s.getD i 0 = 92 ∧ i + 1 < s.length)) : dec (s.drop i) = consO (s.getD i 0) (dec (s.drop (i + 1))) := by
  rw [drop_at h]
  generalize hd : s.getD i 0 = c at hc hx ⊢
  have hl : (s.drop (i + 1)).length = s.length - (i + 1) := List.length_drop
  match hr : s.drop (i + 1) with
  | [] =>
    conv => lhs; rw [dec]
    rw [if_neg hc]; rfl
  | d :: r =>
    rw [hr] at hl
    simp only [List.length_cons] at hl
    conv => lhs; rw [dec.eq_def]
    show (if c = 34 then _ else if c = 92 then _ else _) = _
    rw [if_neg hc, if_neg (fun h => hx ⟨h, by omega⟩)]
end
theorem unq_of {s : List UInt8} (h : s.getD 0 0 = 34) (hs : 0 < s.length) : unq s = match dec (s.drop 1) with | some (b, t) => if quoteL b ++ t = s then some (b, t) else none | none => none := by
  cases s with
  | nil => simp at hs
  | cons c r =>
    have : c = 34 := h
    subst this
    simp [unq]
theorem unq_no {s : List UInt8} (h : ([34] : List UInt8).isPrefixOf s = false) : unqR s = ([], [], false) := by
  cases s with
  | nil => rfl
  | cons c r =>
    have hc : c ≠ 34 := by
      intro hc
      rw [hc] at h
      simp [List.isPrefixOf] at h
    simp [unqR, unq, hc]
theorem pfx34 {s : List UInt8} (h : ([34] : List UInt8).isPrefixOf s = true) : s.getD 0 0 = 34 ∧ 0 < s.length := by
  cases s with
  | nil => simp [List.isPrefixOf] at h
  | cons c r => simp [List.isPrefixOf] at h; simp [← h]
theorem unqR_ok {s b : List UInt8} {i : Nat} (h : s.getD 0 0 = 34) (hs : 0 < s.length) (hd : dec (s.drop 1) = some (b, s.drop i)) (hq : quoteL b = s.take i) : unqR s = (b, s.drop i, true) := by
  unfold unqR
  rw [unq_of h hs, hd]
  simp only
  rw [if_pos (by rw [hq, List.take_append_drop])]
theorem unqR_bad {s b : List UInt8} {i : Nat} (h : s.getD 0 0 = 34) (hs : 0 < s.length) (hd : dec (s.drop 1) = some (b, s.drop i)) (hq : quoteL b ≠ s.take i) : unqR s = ([], [], false) := by
  unfold unqR
  rw [unq_of h hs, hd]
  simp only
  rw [if_neg]
  intro hc
  exact hq (List.append_cancel_right (hc.trans (List.take_append_drop i s).symm))
theorem unqR_none {s : List UInt8} (h : s.getD 0 0 = 34) (hs : 0 < s.length) (hd : dec (s.drop 1) = none) : unqR s = ([], [], false) := by
  unfold unqR
  rw [unq_of h hs, hd]
/-! ### parts of a line -/
def plainW (s : List UInt8) : List UInt8 := (Lib.cut s [32]).1
def plainR (s : List UInt8) : List UInt8 := (Lib.cut s [32]).2.1
/-- does it end well? -/
def atoiOk (l : List UInt8) : Option Int := match Lib.atoiAll l with | .ok v => some v | _ => none
theorem plainR_len (s : List UInt8) : (plainR s).length ≤ s.length := by
  unfold plainR Lib.cut; split <;> simp
theorem plainW_len (s : List UInt8) : (plainW s).length ≤ s.length := by
  unfold plainW Lib.cut; split
  · simp only [List.length_take]; omega
  · simp
theorem unqR_len (s : List UInt8) : (unqR s).1.length ≤ s.length ∧ (unqR s).2.1.length ≤ s.length := by
  unfold unqR
  split
  · rename_i b t h
    have hq : quoteL b ++ t = s := by
      unfold unq at h
      split at h
      · cases h
      · split at h
        · split at h
          · split at h
            · rename_i hh; cases h; exact hh
            · cases h
          · cases h
        · cases h
    have h1 : ∀ l : List UInt8, l.length ≤ (l.flatMap quoteB).length := by
      intro l
      induction l with
      | nil => simp
      | cons c r ih =>
        have hc : 1 ≤ (quoteB c).length := by
          unfold quoteB; split
          · simp
          · split <;> simp
        simp only [List.flatMap_cons, List.length_append, List.length_cons]; omega
    have h2 := congrArg List.length hq
    have h3 := h1 b
    simp only [quoteL, List.length_append, List.length_cons] at h2
    constructor <;> (simp only; omega)
  · simp
theorem trim_len (s : List UInt8) : (Lib.trimPrefix s [32]).length ≤ s.length := by
  unfold Lib.trimPrefix; split
  · simp
  · omega
/-- a Kind's place among the names; -1: it is none -/
def namesB : List ByteArray := names.map fun x => ⟨x.toArray⟩
def kindOf (s : List UInt8) : Int := Lib.idxOfS (namesB.take 10) ⟨s.toArray⟩
theorem idx_b (x : ByteArray) : ∀ (zs : List ByteArray) (i : Nat), -1 ≤ Lib.idxFromS zs x i ∧ Lib.idxFromS zs x i < ((i + zs.length : Nat) : Int) ∨ zs = [] ∧ Lib.idxFromS zs x i = -1
  | [], i => .inr ⟨rfl, rfl⟩
  | z :: zs, i => by
    left
    unfold Lib.idxFromS
    split
    · simp only [List.length_cons]; omega
    · rcases idx_b x zs (i + 1) with h | ⟨rfl, h⟩
      · simp only [List.length_cons]; omega
      · rw [h]; simp only [List.length_cons, List.length_nil]; omega
theorem kindOf_b (s : List UInt8) : -1 ≤ kindOf s ∧ kindOf s ≤ 9 := by
  have hl : (namesB.take 10).length = 10 := rfl
  unfold kindOf Lib.idxOfS
  rcases idx_b ⟨s.toArray⟩ (namesB.take 10) 0 with h | ⟨_, h⟩
  · rw [hl] at h; omega
  · rw [h]; omega
theorem num_ok {o : Option Int} {x : Int} (hv : ∀ v, o = some v → x = v) : o = none ∨ o = some x := by
  cases o with
  | none => exact .inl rfl
  | some v => exact .inr (by rw [hv v rfl])
/-! ### rows read back -/
def rdRw (s : List UInt8) : Option Rw :=
  if kindOf (plainW s) < 1 then none
  else if plainW (plainR s) = errorW then (atoiOk (plainW (plainR (plainR s)))).map fun x => ⟨kindOf (plainW s), x, 0, 0, [], false⟩
  else if plainW (plainR s) ≠ okW then none
  else if kindOf (plainW s) = 1 then (atoiOk (plainW (plainR (plainR s)))).map fun x => ⟨kindOf (plainW s), 0, x, 0, [], false⟩
  else if kindOf (plainW s) = 5 then (atoiOk (plainW (plainR (plainR s)))).map fun x => ⟨kindOf (plainW s), 0, 0, x, [], false⟩
  else if kindOf (plainW s) = 2 then (if (unqR (plainR (plainR s))).2.2 then some ⟨kindOf (plainW s), 0, 0, 0, (unqR (plainR (plainR s))).1, decide (plainW (Lib.trimPrefix (unqR (plainR (plainR s))).2.1 [32]) = endedW)⟩ else none)
  else some ⟨kindOf (plainW s), 0, 0, 0, [], false⟩
def parseRw (s : List UInt8) : Option Rw := match rdRw s with | some e => if rwLine e = (s, true) then some e else none | none => none
theorem fin_rw {s : List UInt8} {bad : Bool} {e : Rw} (h1 : bad = false → rdRw s = some e) (h2 : bad = true → rdRw s = none) : (!bad && (rwLine e).2 && decide ((rwLine e).1 = s)) = (parseRw s).isSome ∧ ∀ x, parseRw s = some x → e = x := by
  unfold parseRw
  cases bad with
  | true => rw [h2 rfl]; simp
  | false =>
    rw [h1 rfl]
    by_cases h : rwLine e = (s, true)
    · simp [h]
    · simp only [if_neg h]
      refine ⟨?_, by simp⟩
      cases h3 : (rwLine e).2 with
      | false => simp
      | true =>
        have : ¬ (rwLine e).1 = s := fun h4 => h (Prod.ext h4 h3)
        simp [this]
/-! ### lines -/
def lineOf (t : List UInt8) : List UInt8 := if 0 ≤ Lib.indexByte t 10 then t.take (Lib.indexByte t 10 + 1).toNat else t
def restOf (t : List UInt8) : List UInt8 := if 0 ≤ Lib.indexByte t 10 then t.drop (Lib.indexByte t 10 + 1).toNat else []
theorem idx_lt {l : List UInt8} {c : UInt8} (h : 0 ≤ Lib.indexByte l c) : Lib.indexByte l c < (l.length : Int) := by
  obtain ⟨n, hn⟩ := Int.eq_ofNat_of_zero_le h
  have h2 : n < l.length := (List.getElem?_eq_some_iff.1 (Lib.indexByte_some hn).1).1
  omega
theorem restOf_lt {t : List UInt8} (h : t ≠ []) : (restOf t).length < t.length := by
  have hl : 0 < t.length := List.length_pos_iff.2 h
  unfold restOf
  split
  · rw [List.length_drop]; omega
  · simpa using hl
def lineVal {α : Type} (f : List UInt8 → Option α) (x : List UInt8) : Option α := if Lib.hasSuffix x [10] then f (Lib.trimSuffix x [10]) else none
def prs {α : Type} (f : List UInt8 → Option α) : Nat → List UInt8 → List α → List α × Int × Int
  | 0, _, acc => (acc, 0, 0)
  | k + 1, t, acc => if t = [] then (acc, 0, 0) else match lineVal f (lineOf t) with | some e => prs f k (restOf t) (acc ++ [e]) | none => ([], (acc.length : Int) + 1, 5)
def parseT {α : Type} (f : List UInt8 → Option α) (s : List UInt8) : List α × Int × Int := if s.length > 65536 then ([], 0, 3) else prs f s.length s []
theorem prs_nil {α : Type} (f : List UInt8 → Option α) (k : Nat) (acc : List α) : prs f k [] acc = (acc, 0, 0) := by cases k <;> simp [prs]
theorem prs_some {α : Type} {f : List UInt8 → Option α} {k : Nat} {t : List UInt8} {acc : List α} {e : α} (ht : t ≠ []) (hk : t.length ≤ k) (h : lineVal f (lineOf t) = some e) : ∃ k', k = k' + 1 ∧ (restOf t).length ≤ k' ∧ prs f k t acc = prs f k' (restOf t) (acc ++ [e]) := by
  have h1 := restOf_lt ht
  cases k with
  | zero => omega
  | succ k => exact ⟨k, rfl, by omega, by rw [prs, if_neg ht, h]⟩
theorem prs_none {α : Type} {f : List UInt8 → Option α} {k : Nat} {t : List UInt8} {acc : List α} (ht : t ≠ []) (hk : t.length ≤ k) (h : lineVal f (lineOf t) = none) : prs f k t acc = ([], (acc.length : Int) + 1, 5) := by
  have h1 := restOf_lt ht
  cases k with
  | zero => omega
  | succ k => rw [prs, if_neg ht, h]
theorem lineOf_len (t : List UInt8) : (lineOf t).length ≤ t.length := by
  unfold lineOf; split
  · simp only [List.length_take]; omega
  · omega
theorem trimS_len (t m : List UInt8) : (Lib.trimSuffix t m).length ≤ t.length := by
  unfold Lib.trimSuffix; split
  · simp only [List.length_take]; omega
  · omega
/-! ### events read back -/
def rdPk : Nat → List UInt8 → Option (List Int)
  | 0, _ => some []
  | k + 1, s => if s = [] then some [] else match atoiOk (plainW s) with
    | some x => if 0 ≤ x ∧ x ≤ 65535 then (rdPk k (plainR s)).map (x :: ·) else none
    | none => none
def evS0 (s : List UInt8) : Option (Ev × List UInt8) := if kindOf (plainW s) < 1 then none else some (⟨kindOf (plainW s), 0, 0, [], []⟩, plainR s)
def doConn (p : Ev × List UInt8) : Option (Ev × List UInt8) := (atoiOk (plainW p.2)).map fun x => ({ p.1 with conn := x }, plainR p.2)
def doNum (p : Ev × List UInt8) : Option (Ev × List UInt8) := (atoiOk (plainW p.2)).map fun x => ({ p.1 with n := x }, plainR p.2)
def doData (p : Ev × List UInt8) : Option (Ev × List UInt8) := if (unqR p.2).2.2 then some ({ p.1 with data := (unqR p.2).1 }, Lib.trimPrefix (unqR p.2).2.1 [32]) else none
def doPicks (p : Ev × List UInt8) : Option (Ev × List UInt8) := (rdPk p.2.length p.2).map fun l => ({ p.1 with picks := l }, [])
def reads (l : List Int) (f : Ev × List UInt8 → Option (Ev × List UInt8)) (o : Option (Ev × List UInt8)) : Option (Ev × List UInt8) := match o with
  | some p => if l.contains p.1.kind then f p else some p
  | none => none
def rdEv (s : List UInt8) : Option Ev := (reads [8] doPicks (reads [2] doData (reads [4, 6, 7, 8] doNum (reads [2, 3] doConn (evS0 s))))).map (·.1)
def parseEv (s : List UInt8) : Option Ev := match rdEv s with | some e => if evLine e = (s, true) then some e else none | none => none
theorem fin_ev {s : List UInt8} {bad : Bool} {e : Ev} (h1 : bad = false → rdEv s = some e) (h2 : bad = true → rdEv s = none) : (!bad && (evLine e).2 && decide ((evLine e).1 = s)) = (parseEv s).isSome ∧ ∀ x, parseEv s = some x → e = x := by
  unfold parseEv
  cases bad with
  | true => rw [h2 rfl]; simp
  | false =>
    rw [h1 rfl]
    by_cases h : evLine e = (s, true)
    · simp [h]
    · simp only [if_neg h]
      refine ⟨?_, by simp⟩
      cases h3 : (evLine e).2 with
      | false => simp
      | true =>
        have : ¬ (evLine e).1 = s := fun h4 => h (Prod.ext h4 h3)
        simp [this]
theorem plainR_lt {s : List UInt8} (h : s ≠ []) : (plainR s).length < s.length := by
  have hl : 0 < s.length := List.length_pos_iff.2 h
  unfold plainR Lib.cut
  split
  · simp only [List.length_drop, List.length_cons, List.length_nil]; omega
  · simpa using hl
theorem rdPk_nil (k : Nat) : rdPk k [] = some [] := by cases k <;> simp [rdPk]
theorem rdPk_ok {k : Nat} {s : List UInt8} {x : Int} (hs : s ≠ []) (hk : s.length ≤ k) (h : atoiOk (plainW s) = some x) (hx : 0 ≤ x ∧ x ≤ 65535) : ∃ k', k = k' + 1 ∧ (plainR s).length ≤ k' ∧ rdPk k s = (rdPk k' (plainR s)).map (x :: ·) := by
  have h1 := plainR_lt hs
  cases k with
  | zero => omega
  | succ k => exact ⟨k, rfl, by omega, by rw [rdPk, if_neg hs, h]; simp only; rw [if_pos hx]⟩
theorem rdPk_no {k : Nat} {s : List UInt8} (hs : s ≠ []) (hk : s.length ≤ k) (h : ∀ x, atoiOk (plainW s) = some x → ¬ (0 ≤ x ∧ x ≤ 65535)) : rdPk k s = none := by
  have h1 := plainR_lt hs
  cases k with
  | zero => omega
  | succ k =>
    rw [rdPk, if_neg hs]
    cases ha : atoiOk (plainW s) with
    | none => rfl
    | some x => simp only; rw [if_neg (h x ha)]
/-- what the loop over the picks knows -/
def PkSaid (s0 : List UInt8) (s : List UInt8) (bad : Bool) (l : List Int) : Prop := if bad then rdPk s0.length s0 = none else ∃ k, s.length ≤ k ∧ rdPk s0.length s0 = (rdPk k s).map (l ++ ·)
theorem pk_start (s : List UInt8) : PkSaid s s false [] := ⟨s.length, Nat.le_refl _, by cases rdPk s.length s <;> simp⟩
theorem pk_step {s0 s : List UInt8} {l : List Int} {x : Int} (h : PkSaid s0 s false l) (hs : s ≠ []) (hx : ∀ v, atoiOk (plainW s) = some v → x = v) :
    PkSaid s0 (plainR s) ((atoiOk (plainW s)).isNone || decide (x < 0) || decide (x > 65535)) (l ++ [x % 65536]) := by
  obtain ⟨k, hk, hr⟩ := h
  by_cases hc : ∃ v, atoiOk (plainW s) = some v ∧ 0 ≤ v ∧ v ≤ 65535
  · obtain ⟨v, hv, hv1⟩ := hc
    have hxv := hx v hv
    subst hxv
    obtain ⟨k', hk', hl', hr'⟩ := rdPk_ok hs hk hv hv1
    have hb : ((atoiOk (plainW s)).isNone || decide (x < 0) || decide (x > 65535)) = false := by rw [hv]; simp; omega
    rw [hb]
    refine ⟨k', hl', ?_⟩
    rw [hr, hr', show x % 65536 = x by omega]
    cases rdPk k' (plainR s) <;> simp
  · have hn : rdPk k s = none := rdPk_no hs hk fun v hv hv1 => hc ⟨v, hv, hv1⟩
    have hb : ((atoiOk (plainW s)).isNone || decide (x < 0) || decide (x > 65535)) = true := by
      cases ha : atoiOk (plainW s) with
      | none => simp
      | some v =>
        have hxv := hx v ha
        subst hxv
        have : ¬ (0 ≤ x ∧ x ≤ 65535) := fun h => hc ⟨x, ha, h⟩
        simp
        omega
    rw [hb]
    show rdPk s0.length s0 = none
    rw [hr, hn]; rfl
theorem pk_end {s0 s : List UInt8} {bad : Bool} {l : List Int} (h : PkSaid s0 s bad l) (hs : s = [] ∨ bad = true) : rdPk s0.length s0 = if bad then none else some l := by
  cases bad with
  | true => exact h
  | false =>
    obtain ⟨k, hk, hr⟩ := h
    have : s = [] := by simpa using hs
    subst this
    rw [hr, rdPk_nil]; simp
theorem reads_pk {l : List Int} {f : Ev × List UInt8 → Option (Ev × List UInt8)} {o : Option (Ev × List UInt8)} (hf : ∀ p q, f p = some q → p.1.picks = [] → q.1.picks = []) (ho : ∀ p, o = some p → p.1.picks = []) : ∀ p, reads l f o = some p → p.1.picks = [] := by
  intro p h
  cases o with
  | none => cases h
  | some q =>
    simp only [reads] at h
    split at h
    · exact hf q p h (ho q rfl)
    · cases h
      exact ho _ rfl
theorem reads_nil {s : List UInt8} {p : Ev × List UInt8} (h : reads [2] doData (reads [4, 6, 7, 8] doNum (reads [2, 3] doConn (evS0 s))) = some p) : p.1.picks = [] := by
  refine reads_pk ?_ (reads_pk ?_ (reads_pk ?_ ?_)) p h
  · intro p q hq hp
    unfold doData at hq
    split at hq
    · cases hq
      exact hp
    · cases hq
  · intro p q hq hp
    unfold doNum at hq
    obtain ⟨x, _, hx⟩ := Option.map_eq_some_iff.1 hq
    subst hx; exact hp
  · intro p q hq hp
    unfold doConn at hq
    obtain ⟨x, _, hx⟩ := Option.map_eq_some_iff.1 hq
    subst hx; exact hp
  · intro p hp
    unfold evS0 at hp
    split at hp
    · cases hp
    · cases hp
      rfl
end Go.Sh
