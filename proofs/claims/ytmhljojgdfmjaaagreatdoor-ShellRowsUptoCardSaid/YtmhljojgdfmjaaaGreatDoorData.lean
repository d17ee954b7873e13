/- Events and rows, their lines: on lists of bytes. No program here. -/
import Derived.Test.YtmhljojgdfmjaaaGreatDoorSpec
import Derived.Lib.ItoaLen
import Derived.Lib.Join
namespace Go.Sh
open Go
structure Ev where
  kind : Int
  conn : Int
  n : Int
  data : List UInt8
  picks : List Int
structure Rw where
  kind : Int
  err : Int
  conn : Int
  n : Int
  data : List UInt8
  ended : Bool
def i64 (x : Int) : Prop := -9223372036854775808 ≤ x ∧ x ≤ 9223372036854775807
def Ev.fits (e : Ev) : Prop := i64 e.kind ∧ i64 e.conn ∧ i64 e.n ∧ e.data.length ≤ 1048576 ∧ e.picks.length ≤ 1048576 ∧ ∀ p ∈ e.picks, 0 ≤ p ∧ p ≤ 65535
def Rw.fits (e : Rw) : Prop := i64 e.kind ∧ i64 e.err ∧ i64 e.conn ∧ i64 e.n ∧ e.data.length ≤ 1048576
def names : List (List UInt8) :=
  [[], [99, 111, 110, 110, 101, 99, 116], [112, 117, 115, 104], [99, 108, 111, 115, 101], [116, 105, 99, 107], [115, 116, 101, 112], [113, 117, 111, 116, 97], [102, 117, 115, 101], [99, 114, 97, 115, 104], [111, 112, 101, 110]]
def nameL (k : Int) : List UInt8 := if k < 1 ∨ 10 ≤ k then [] else names.getD k.toNat []
def sp (s t : List UInt8) : List UInt8 := s ++ 32 :: t
def isConn (k : Int) : Bool := k == 2 || k == 3
def isNum (k : Int) : Bool := k == 4 || k == 6 || k == 7 || k == 8
def evBad (e : Ev) : Bool :=
  decide (nameL e.kind = []) || (!isConn e.kind && e.conn != 0) || (!isNum e.kind && e.n != 0) || (e.kind != 2 && decide (e.data ≠ [])) || (e.kind != 8 && decide (e.picks ≠ []))
def evText1 (e : Ev) : List UInt8 := if isConn e.kind then sp (nameL e.kind) (Lib.itoa e.conn) else nameL e.kind
def evText2 (e : Ev) : List UInt8 := if isNum e.kind then sp (evText1 e) (Lib.itoa e.n) else evText1 e
def evText3 (e : Ev) : List UInt8 := if e.kind == 2 then sp (evText2 e) (quoteL e.data) else evText2 e
def addN (s : List UInt8) (p : Int) : List UInt8 := sp s (Lib.itoa p)
def evText (e : Ev) : List UInt8 := e.picks.foldl addN (evText3 e)
def evLine (e : Ev) : List UInt8 × Bool := if evBad e then ([], false) else (evText e, true)
def rwBad (r : Rw) : Bool :=
  decide (nameL r.kind = []) || ((r.err != 0 || r.kind != 1) && r.conn != 0) || ((r.err != 0 || r.kind != 5) && r.n != 0) || ((r.err != 0 || r.kind != 2) && (decide (r.data ≠ []) || r.ended))
def okW : List UInt8 := [111, 107]
def errorW : List UInt8 := [101, 114, 114, 111, 114]
def openW : List UInt8 := [111, 112, 101, 110]
def endedW : List UInt8 := [101, 110, 100, 101, 100]
def rwText (r : Rw) : List UInt8 :=
  if r.err != 0 then sp (nameL r.kind) (sp errorW (Lib.itoa r.err))
  else if r.kind == 1 then sp (sp (nameL r.kind) okW) (Lib.itoa r.conn)
  else if r.kind == 5 then sp (sp (nameL r.kind) okW) (Lib.itoa r.n)
  else if r.kind == 2 then sp (sp (nameL r.kind) okW) (sp (quoteL r.data) (if r.ended then endedW else openW))
  else sp (nameL r.kind) okW
def rwLine (r : Rw) : List UInt8 × Bool := if rwBad r then ([], false) else (rwText r, true)
theorem nameL_len (k : Int) : (nameL k).length ≤ 7 := by
  unfold nameL
  split
  · simp
  · rename_i h
    have : ∀ n : Fin 10, (names.getD n.val []).length ≤ 7 := by decide
    exact this ⟨k.toNat, by omega⟩
theorem sp_len (s t : List UInt8) : (sp s t).length = s.length + t.length + 1 := by simp only [sp, List.length_append, List.length_cons]; omega
theorem itoa_len {n : Int} (h : i64 n) : (Lib.itoa n).length ≤ 21 := Lib.itoa_length_le n h.1 h.2
theorem foldl_addN_len (l : List Int) (h : ∀ p ∈ l, i64 p) (s : List UInt8) : (l.foldl addN s).length ≤ s.length + 22 * l.length := by
  induction l generalizing s with
  | nil => simp
  | cons p r ih =>
    simp only [List.foldl_cons, List.length_cons]
    have h1 := ih (fun q hq => h q (List.mem_cons_of_mem _ hq)) (addN s p)
    have h2 := itoa_len (h p (List.mem_cons_self ..))
    simp only [addN, sp_len] at h1
    unfold addN at h1 ⊢
    omega
theorem text3_len {e : Ev} (h : e.fits) : (evText3 e).length ≤ 4194400 := by
  obtain ⟨_, h1, h2, h3, _⟩ := h
  have a := nameL_len e.kind
  have b := itoa_len h1
  have c := itoa_len h2
  have d := quoteL_len e.data
  unfold evText3 evText2 evText1
  split <;> split <;> split <;> (try simp only [sp_len]) <;> omega
theorem len_pos {α : Type} (l : List α) [DecidableEq (List α)] : decide (((l.length : Nat) : Int) > 0) = decide (l ≠ []) := by
  cases l <;> simp
theorem foldl_take {α β : Type} {f : β → α → β} {l : List α} {k : Nat} {x : α} (h : l[k]? = some x) (s : β) : (l.take (k + 1)).foldl f s = f ((l.take k).foldl f s) x := by
  obtain ⟨hk, rfl⟩ := List.getElem?_eq_some_iff.1 h
  rw [List.take_succ_eq_append_getElem hk, List.foldl_append]; rfl
theorem i64_pick {l : List Int} (h : ∀ p ∈ l, 0 ≤ p ∧ p ≤ 65535) : ∀ p ∈ l, i64 p := fun p hp => by have := h p hp; unfold i64; omega
theorem pick_len {e : Ev} (h : e.fits) (k : Nat) : ((e.picks.take k).foldl addN (evText3 e)).length ≤ 27300000 := by
  have h1 := text3_len h
  obtain ⟨_, _, _, _, hp, hs⟩ := h
  have h2 := foldl_addN_len (e.picks.take k) (fun p hp => i64_pick hs p (List.mem_of_mem_take hp)) (evText3 e)
  have h3 : (e.picks.take k).length ≤ e.picks.length := by rw [List.length_take]; omega
  omega
theorem evText_len {e : Ev} (h : e.fits) : (evText e).length ≤ 27300000 := by
  have := pick_len h e.picks.length
  rwa [List.take_length] at this
/-! ### texts of lines -/
def joinW {α : Type} (f : α → List UInt8 × Bool) (l : List α) : List UInt8 := l.flatMap fun x => (f x).1 ++ [10]
def wr {α : Type} (f : α → List UInt8 × Bool) (l : List α) : List UInt8 × Int :=
  if l.all fun x => (f x).2 then (if (joinW f l).length > 65536 then ([], 3) else (joinW f l, 0)) else ([], 1)
def total {α : Type} (wt : α → Nat) (l : List α) : Nat := (l.map wt).sum
theorem joinW_len {α : Type} {f : α → List UInt8 × Bool} {wt : α → Nat} (l : List α) (h : ∀ x ∈ l, (f x).1.length ≤ 60 + 22 * wt x) : (joinW f l).length ≤ 61 * l.length + 22 * total wt l := by
  induction l with
  | nil => simp [joinW, total]
  | cons x r ih =>
    have h1 := ih fun y hy => h y (List.mem_cons_of_mem _ hy)
    have h2 := h x (List.mem_cons_self ..)
    simp only [joinW, total, List.flatMap_cons, List.length_append, List.length_cons, List.length_nil, List.map_cons, List.sum_cons] at h1 ⊢
    omega
theorem total_take {α : Type} (wt : α → Nat) (l : List α) (k : Nat) : total wt (l.take k) ≤ total wt l := by
  induction l generalizing k with
  | nil => simp [total]
  | cons x r ih =>
    cases k with
    | zero => simp [total]
    | succ k =>
      have := ih k
      simp only [total, List.take_succ_cons, List.map_cons, List.sum_cons] at this ⊢
      omega
theorem total_snoc {α : Type} {wt : α → Nat} {l : List α} {k : Nat} {x : α} (h : l[k]? = some x) : total wt (l.take (k + 1)) = total wt (l.take k) + wt x := by
  obtain ⟨hk, rfl⟩ := List.getElem?_eq_some_iff.1 h
  unfold total
  rw [List.take_succ_eq_append_getElem hk, List.map_append, List.sum_append]; simp
theorem joinW_take {α : Type} {f : α → List UInt8 × Bool} {l : List α} {k : Nat} {x : α} (h : l[k]? = some x) : joinW f (l.take (k + 1)) = joinW f (l.take k) ++ ((f x).1 ++ [10]) := by
  obtain ⟨hk, rfl⟩ := List.getElem?_eq_some_iff.1 h
  unfold joinW
  rw [List.take_succ_eq_append_getElem hk, List.flatMap_append]; simp
theorem all_take {α : Type} {p : α → Bool} {l : List α} {k : Nat} {x : α} (h : l[k]? = some x) (h1 : (l.take k).all p = true) (h2 : p x = true) : (l.take (k + 1)).all p = true := by
  obtain ⟨hk, rfl⟩ := List.getElem?_eq_some_iff.1 h
  rw [List.take_succ_eq_append_getElem hk, List.all_append, h1]; simp [h2]
theorem wr_no {α : Type} {f : α → List UInt8 × Bool} {l : List α} {k : Nat} {x : α} (h : l[k]? = some x) (h2 : (f x).2 = false) : wr f l = ([], 1) := by
  unfold wr
  rw [if_neg]
  intro hc
  rw [List.all_eq_true] at hc
  have := hc x (List.mem_of_getElem? h)
  rw [h2] at this
  cases this
theorem wr_long {α : Type} {f : α → List UInt8 × Bool} {l : List α} (h : l.all (fun x => (f x).2) = true) (h2 : (joinW f l).length > 65536) : wr f l = ([], 3) := by
  unfold wr; rw [if_pos h, if_pos h2]
theorem wr_ok {α : Type} {f : α → List UInt8 × Bool} {l : List α} (h : l.all (fun x => (f x).2) = true) (h2 : ¬ (joinW f l).length > 65536) : wr f l = (joinW f l, 0) := by
  unfold wr; rw [if_pos h, if_neg h2]
def evWt (e : Ev) : Nat := e.data.length + e.picks.length
def rwWt (e : Rw) : Nat := e.data.length
theorem evLine_len {e : Ev} (h : e.fits) : (evLine e).1.length ≤ 60 + 22 * evWt e := by
  unfold evLine evWt
  split
  · simp
  · have h' := h
    obtain ⟨_, h1, h2, h3, h4, hs⟩ := h'
    have h5 := foldl_addN_len e.picks (i64_pick hs) (evText3 e)
    have a := nameL_len e.kind
    have b := itoa_len h1
    have c := itoa_len h2
    have d := quoteL_len e.data
    have : (evText3 e).length ≤ 60 + 4 * e.data.length := by
      unfold evText3 evText2 evText1
      split <;> split <;> split <;> (try simp only [sp_len]) <;> omega
    show (e.picks.foldl addN (evText3 e)).length ≤ _
    omega
theorem rwLine_len {e : Rw} (h : e.fits) : (rwLine e).1.length ≤ 60 + 22 * rwWt e := by
  unfold rwLine rwWt
  split
  · simp
  · obtain ⟨_, h0, h1, h2, h3⟩ := h
    have a := nameL_len e.kind
    have b := itoa_len h1
    have c := itoa_len h2
    have c' := itoa_len h0
    have d := quoteL_len e.data
    show (rwText e).length ≤ _
    unfold rwText
    split
    · simp only [sp_len, errorW, List.length_cons, List.length_nil]; omega
    · split
      · simp only [sp_len, okW, List.length_cons, List.length_nil]; omega
      · split
        · simp only [sp_len, okW, List.length_cons, List.length_nil]; omega
        · split
          · split <;> simp only [sp_len, okW, openW, endedW, List.length_cons, List.length_nil] <;> omega
          · simp only [sp_len, okW, List.length_cons, List.length_nil]; omega
end Go.Sh
