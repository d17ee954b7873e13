/- What the functions of the shell and of its reference compute, on lists of bytes. No program here. -/
namespace Go.Sh
def hexd (n : Nat) : UInt8 := ([48, 49, 50, 51, 52, 53, 54, 55, 56, 57, 97, 98, 99, 100, 101, 102] : List UInt8).getD n 0
def quoteB (c : UInt8) : List UInt8 :=
  if c.toNat < 32 ∨ 126 < c.toNat then [92, 120, hexd (c.toNat / 16), hexd (c.toNat % 16)] else if c = 34 ∨ c = 92 then [92, c] else [c]
def quoteL (l : List UInt8) : List UInt8 := 34 :: (l.flatMap quoteB ++ [34])
theorem quoteB_len (c : UInt8) : (quoteB c).length ≤ 4 := by
  unfold quoteB; split
  · simp
  · split <;> simp
theorem flat_len (l : List UInt8) : (l.flatMap quoteB).length ≤ 4 * l.length := by
  induction l with
  | nil => simp
  | cons c r ih => have := quoteB_len c; simp only [List.flatMap_cons, List.length_append, List.length_cons]; omega
theorem quoteL_len (l : List UInt8) : (quoteL l).length ≤ 4 * l.length + 2 := by
  have := flat_len l
  simp only [quoteL, List.length_cons, List.length_append, List.length_nil]; omega
theorem flat_take {l : List UInt8} {k : Nat} {x : UInt8} (h : l[k]? = some x) : (l.take (k + 1)).flatMap quoteB = (l.take k).flatMap quoteB ++ quoteB x := by
  obtain ⟨hk, rfl⟩ := List.getElem?_eq_some_iff.1 h
  rw [List.take_succ_eq_append_getElem hk, List.flatMap_append]; simp
theorem hexd_at {n : Nat} (h : n < 16) : ([48, 49, 50, 51, 52, 53, 54, 55, 56, 57, 97, 98, 99, 100, 101, 102] : List UInt8)[n]? = some (hexd n) := by
  have : ∀ n : Fin 16, ([48, 49, 50, 51, 52, 53, 54, 55, 56, 57, 97, 98, 99, 100, 101, 102] : List UInt8)[n.val]? = some (hexd n.val) := by decide
  exact this ⟨n, h⟩
theorem quoteB_hex {x : UInt8} (h : (x.toNat : Int) < 32 ∨ 126 < (x.toNat : Int)) : quoteB x = [92, 120, hexd (x.toNat / 16), hexd (x.toNat % 16)] := by
  unfold quoteB; rw [if_pos (by omega)]
theorem u8_eq {x : UInt8} {n : Nat} (hn : n < 256) : ((x.toNat : Int) = (n : Int)) ↔ x = UInt8.ofNat n := by
  rw [← UInt8.toNat_inj]
  simp only [UInt8.toNat_ofNat', Nat.mod_eq_of_lt hn]
  omega
theorem quoteB_esc {x : UInt8} (h : 32 ≤ (x.toNat : Int) ∧ (x.toNat : Int) ≤ 126) (h2 : (x.toNat : Int) = 34 ∨ (x.toNat : Int) = 92) : quoteB x = [92, x] := by
  unfold quoteB
  rw [if_neg (by omega), if_pos]
  exact h2.imp (u8_eq (n := 34) (by omega)).1 (u8_eq (n := 92) (by omega)).1
theorem quoteB_pl {x : UInt8} (h : 32 ≤ (x.toNat : Int) ∧ (x.toNat : Int) ≤ 126) (h2 : ¬ (x.toNat : Int) = 34 ∧ ¬ (x.toNat : Int) = 92) : quoteB x = [x] := by
  unfold quoteB
  rw [if_neg (by omega), if_neg]
  exact fun h => h.elim (fun h => h2.1 ((u8_eq (n := 34) (by omega)).2 h)) (fun h => h2.2 ((u8_eq (n := 92) (by omega)).2 h))
end Go.Sh
