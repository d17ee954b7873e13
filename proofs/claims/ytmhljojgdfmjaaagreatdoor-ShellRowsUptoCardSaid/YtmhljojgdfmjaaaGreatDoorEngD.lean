/- More operations: division, conversions that wrap, bytes of a block, guarded calls in regions that draw. Over any program. -/
import Derived.Test.YtmhljojgdfmjaaaGreatDoorEngC
namespace Go.E
open Go
set_option linter.unusedVariables false
set_option linter.unusedSimpArgs false
theorem am1 {f : Operand → Value} {x : Operand} {a : Value} (hx : f x = a) : (#[x] : Array Operand).map f = #[a] := am (l := [x]) (r := [a]) (by simp [hx])
theorem am3 {f : Operand → Value} {x y z : Operand} {a c d : Value} (hx : f x = a) (hy : f y = c) (hz : f z = d) : (#[x, y, z] : Array Operand).map f = #[a, c, d] := am (l := [x, y, z]) (r := [a, c, d]) (by simp [hx, hy, hz])
theorem am4 {f : Operand → Value} {x y z u : Operand} {a c d e : Value} (hx : f x = a) (hy : f y = c) (hz : f z = d) (hu : f u = e) : (#[x, y, z, u] : Array Operand).map f = #[a, c, d, e] := am (l := [x, y, z, u]) (r := [a, c, d, e]) (by simp [hx, hy, hz, hu])
theorem wrap_u64 (i : Int) : IntKind.u64.wrap i = i % 18446744073709551616 := by simp [IntKind.wrap, IntKind.signed, IntKind.bits]
theorem wrap_u32 (i : Int) : IntKind.u32.wrap i = i % 4294967296 := by simp [IntKind.wrap, IntKind.signed, IntKind.bits]
theorem wrap_u8 (i : Int) : IntKind.u8.wrap i = i % 256 := by simp [IntKind.wrap, IntKind.signed, IntKind.bits]
theorem wrap_i64 (i : Int) : IntKind.i64.wrap i = (i + 9223372036854775808) % 18446744073709551616 - 9223372036854775808 := by
  simp [IntKind.wrap, IntKind.signed, IntKind.bits]
  split <;> omega
section
variable {P : Program} {ds : List Deferred} {n : Nat} {b : Nat → Value} {s : List (Nat × Value)} {w : World} {o : Oper} {ops : Array Oper} {rest : List Oper} {Q : Exit → Act → World → Prop}
theorem r_convw {t u : TypeId} {x : Operand} {k k' : IntKind} {d : TypeDesc} {i r : Int} (ho : o.op = .convert t u x) (hx : ev n b s x = .int k' i) (ht : P.underlying t = some d) (hu : P.underlying u = some (.int k)) (hr : k.wrap i = r) :
    (execOp (ev n b s) o).run P w = .ok (.value (.int k r)) w := by
  subst hr
  simp [execOp, ho, hx, convert, run_underlying ht, run_underlying hu, Conv.intToInt]
theorem r_subw {t u : TypeId} {x y : Operand} {k : IntKind} {i j r : Int} (ho : o.op = .binOp .sub t x y u) (hx : ev n b s x = .int k i) (hy : ev n b s y = .int k j) (hr : k.wrap (i - j) = r) : (execOp (ev n b s) o).run P w = .ok (.value (.int k r)) w := by
  subst hr
  simp [execOp, ho, hx, hy, eqGuard, binOp, Op.intArith]
theorem r_addw {t u : TypeId} {x y : Operand} {k : IntKind} {i j r : Int} (ho : o.op = .binOp .add t x y u) (hx : ev n b s x = .int k i) (hy : ev n b s y = .int k j) (hr : k.wrap (i + j) = r) : (execOp (ev n b s) o).run P w = .ok (.value (.int k r)) w := by
  subst hr
  simp [execOp, ho, hx, hy, eqGuard, binOp, Op.intArith]
theorem r_mulw {t u : TypeId} {x y : Operand} {k : IntKind} {i j r : Int} (ho : o.op = .binOp .mul t x y u) (hx : ev n b s x = .int k i) (hy : ev n b s y = .int k j) (hr : k.wrap (i * j) = r) : (execOp (ev n b s) o).run P w = .ok (.value (.int k r)) w := by
  subst hr
  simp [execOp, ho, hx, hy, eqGuard, binOp, Op.intArith]
theorem r_quon {t u : TypeId} {x y : Operand} {k : IntKind} {i m : Nat} {j : Int} (ho : o.op = .binOp .quo t x y u) (hx : ev n b s x = .int k (i : Int)) (hy : ev n b s y = .int k j) (hj : j = (m : Int)) (hm : 0 < m) (hk : (i : Int) ≤ k.max) :
    (execOp (ev n b s) o).run P w = .ok (.value (.int k ((i / m : Nat) : Int))) w := by
  subst hj
  have h1 : ((i : Int).tdiv (m : Int)) = ((i / m : Nat) : Int) := by rw [Int.tdiv_eq_ediv_of_nonneg (by omega)]; simp
  have h3 : i / m ≤ i := Nat.div_le_self _ _
  have h6 : ((i / m : Nat) : Int) ≤ (i : Int) := by exact_mod_cast h3
  have h2 : k.wrap ((i / m : Nat) : Int) = ((i / m : Nat) : Int) := wrap_in (Int.le_trans (show k.min ≤ 0 by cases k <;> decide) (Int.natCast_nonneg _)) (Int.le_trans h6 hk)
  have h4 : ¬ ((m : Int) = 0) := by omega
  have h5 : ((m : Int) == 0) = false := by simpa using h4
  simp only [execOp, ho, hx, hy, eqGuard, binOp, Op.intDiv]
  simp only [h1, h2, h4, h5]
  simp
theorem r_remn {t u : TypeId} {x y : Operand} {k : IntKind} {i m : Nat} {j : Int} (ho : o.op = .binOp .rem t x y u) (hx : ev n b s x = .int k (i : Int)) (hy : ev n b s y = .int k j) (hj : j = (m : Int)) (hm : 0 < m) :
    (execOp (ev n b s) o).run P w = .ok (.value (.int k ((i % m : Nat) : Int))) w := by
  subst hj
  have h1 : ((i : Int).tmod (m : Int)) = ((i % m : Nat) : Int) := by rw [Int.tmod_eq_emod_of_nonneg (by omega)]; simp
  have h4 : ¬ ((m : Int) = 0) := by omega
  have h5 : ((m : Int) == 0) = false := by simpa using h4
  simp only [execOp, ho, hx, hy, eqGuard, binOp, Op.intDiv]
  simp only [h1, h4, h5]
  simp
/-- the bytes of a block just built, as a text -/
theorem conv_blk {t e u : TypeId} {g c m e' : Nat} {arr : Array Value} {fz : Nat × Nat} {l : List UInt8} (hb : w.heap[g]? = some (.cells arr e' fz)) (ha : arr.toList = l.map fun x => Value.int .u8 (x.toNat : Int)) (hm : m = l.length) (hs : P.underlying t = some (.slice e)) (he : P.underlying e = some (.int .u8)) (hd : P.underlying u = some .string) :
    (convert t u (.slice (some ⟨g, 0, none⟩) m c)).run P w = .ok (.string ⟨l.toArray⟩) w := by
  subst hm
  have hk : KS Rp.u8 (fun _ => True) w (l.map fun x => [Value.int .u8 (x.toNat : Int)]) l := by
    clear hb ha
    induction l with
    | nil => trivial
    | cons x r ih => exact ⟨rfl, ih⟩
  obtain ⟨A, c', hv, _, hE⟩ := sl_block (ok' := fun _ => True) hb (by rw [ha, flat1]) hk trivial fun _ h => h
  cases hv
  exact conv_bytes hE hs he hd
end
section
variable {P : Program} {Q : Exit → Act → World → Prop} {ds : List Deferred} {n : Nat} {b : Nat → Value} {s : List (Nat × Value)} {w : World} {ops : Array Oper} {S : World → Prop} {fuel : Nat} {listed : Array Bool}
theorem h_callw {i d f : Nat} {oi : Oper} {args : Array Value} {W : Bool} {R : Value → World → Prop} (hr : Region.ready .any ops listed = [i]) (hi : ops[i]? = some oi) (hw : want n b s ops oi W) (hW : W = true) (hd : oi.dst = some d)
    (hv : (execOp (ev n b s) oi).run P w = .ok (.enter f args) w) (hc : Does P f args w R)
    (h : ∀ v w', R v w' → S w' ∧ wpAnyH P .any ops Q S fuel (listed.setIfInBounds i true) (mk ds n b ((d, v) :: s)) w') : wpAnyH P .any ops Q S (fuel + 1) listed (mk ds n b s) w :=
  wpAnyH_all hr (by simp) fun j hj => by
    obtain rfl : j = i := by simpa using hj
    subst hW
    have hw : Region.wanted oi (yielded ops (mk ds n b s).tmps) = true := hw
    unfold wpOp
    simp only [hi]
    rw [if_pos hw]
    refine .inl ?_
    unfold Oper.wp
    rw [mk_eval, hv]
    exact hc.upon fun v w' hv => by rw [hd, mk_put]; exact h v w' hv
theorem h_unw {i d : Nat} {oi : Oper} {W : Bool} (hr : Region.ready .any ops listed = [i]) (hi : ops[i]? = some oi) (hw : want n b s ops oi W) (hW : W = false) (hd : oi.dst = some d)
    (hS : S w) (h : wpAnyH P .any ops Q S fuel (listed.setIfInBounds i true) (mk ds n b ((d, gd W (.bool true)) :: s)) w) : wpAnyH P .any ops Q S (fuel + 1) listed (mk ds n b s) w :=
  wpAnyH_all hr (by simp) fun j hj => by
    obtain rfl : j = i := by simpa using hj
    subst hW
    have hw : Region.wanted oi (yielded ops (mk ds n b s).tmps) = false := hw
    unfold wpOp
    simp only [hi]
    rw [if_neg (by rw [hw]; simp), hd, mk_put]
    exact ⟨hS, h⟩
end
end Go.E
