/- Strings behind one's own bytes, the builder's pointers: over any program. -/
import Derived.Test.YtmhljojgdfmjaaaGreatDoorRep
import Derived.Lib.AppendStr
import Derived.Lib.Builder
import Derived.Laws.Externs
import Derived.WideLaws
import Derived.Laws.Slices
import Derived.Laws.Strings2
namespace Go.E
open Go
set_option linter.unusedVariables false
section
variable {P : Program} {ds : List Deferred} {n : Nat} {b : Nat → Value} {s : List (Nat × Value)} {w : World} {o : Oper} {ops : Array Oper} {rest : List Oper} {Q : Exit → Act → World → Prop}

/-! ### a string behind one's own bytes -/
theorem run_app_str {t u ty e base k : Nat} {v : Value} {xs : List Value} {l : List UInt8} (T : SlT P t e 1 1) (hu : P.underlying u = some .string) (hz0 : ∀ i, P.info? e = some i → i.zero = some (.int .u8 0)) (hown : w.ownsRow base e 1 v k xs)
    (h63 : k + l.length ≤ 68719476736) (hbase : base ≤ w.heap.size) :
    ∃ v' w', (Builtin.append_ #[t, u] ty #[v, .string ⟨l.toArray⟩]).run P w = .ok v' w' ∧ w'.ownsRow base e 1 v' (k + l.length) (xs ++ l.map fun x => .int .u8 x.toNat) ∧ Fr v.ownBlock.toList w w' := by
  obtain ⟨ht, ⟨i, z, hi, hz, hs, hb, hzs⟩, hp⟩ := T
  have hsz : (⟨l.toArray⟩ : ByteArray).size = l.length := by show l.toArray.size = _; simp
  obtain ⟨v', w', hr, h2, h3, _⟩ := Lib.run_append_own_string (P := P) w base t u ty e i ht hu hi (hz0 i hi) hs hb v k xs hown ⟨l.toArray⟩ (by rw [hsz]; simp only [maxLen]; omega) (by rw [hsz]; omega) hbase
  rw [hsz] at h2
  exact ⟨v', w', hr, h2, Fr.of_grown h3⟩
theorem r_append_str {x y : Operand} {t u : TypeId} {v z r : Value} {w' : World} (ho : o.op = .call { callee := .builtin .append, args := #[x, y], argTypes := #[t, u] }) (hx : ev n b s x = v) (hy : ev n b s y = z)
    (hr : (Builtin.append_ #[t, u] o.type #[v, z]).run P w = .ok r w') : (execOp (ev n b s) o).run P w = .ok (.value r) w' := by
  simp only [execOp, ho, resolve, invoke, builtin, Sem.run_bind, Sem.run_pure, Result.andThen_ok, List.map_toArray, List.map_cons, List.map_nil, hx, hy, hr]
theorem l_append_str {t u e base k d : Nat} {x y : Operand} {v : Value} {xs : List Value} {l : List UInt8} (T : SlT P t e 1 1) (hu : P.underlying u = some .string) (hz0 : ∀ i, P.info? e = some i → i.zero = some (.int .u8 0)) (hg : o.guard = none) (hd : o.dst = some d)
    (ho : o.op = .call { callee := .builtin .append, args := #[x, y], argTypes := #[t, u] }) (hx : ev n b s x = v) (hown : w.ownsRow base e 1 v k xs)
    (hy : ev n b s y = .string ⟨l.toArray⟩) (h63 : k + l.length ≤ 68719476736) (hbase : base ≤ w.heap.size)
    (h : ∀ v' w', w'.ownsRow base e 1 v' (k + l.length) (xs ++ l.map fun x => .int .u8 x.toNat) → Fr v.ownBlock.toList w w' → wpList P ops Q rest (mk ds n b ((d, v') :: s)) w') : wpList P ops Q (o :: rest) (mk ds n b s) w := by
  obtain ⟨v', w', hr, h1, h2⟩ := run_app_str (ty := o.type) T hu hz0 hown h63 hbase
  exact l_val hg hd (r_append_str ho hx hy hr) (h v' w' h1 h2)
/-- own rows of another element type lie in another block -/
theorem own_type {base e size k g t : Nat} {v : Value} {xs : List Value} {arr : Array Value} {z : Nat × Nat} (h : w.ownsRow base e size v k xs) (hb : w.heap[g]? = some (.cells arr t z)) (ht : t ≠ e) : v.ownBlock ≠ some g := by
  rcases h.2 with ⟨rfl, rfl⟩ | ⟨g0, cap, cur, rfl, _, hg, _⟩
  · simp [Value.ownBlock]
  · intro hc
    simp only [Value.ownBlock, Option.some.injEq] at hc
    subst hc
    rw [hb] at hg
    simp only [Option.some.injEq, Obj.cells.injEq] at hg
    exact ht hg.2.1

/-! ### pointers, unsafe ones -/
theorem r_extern {f : FuncId} {as : Array Operand} {ts : Array TypeId} {args : Array Value} {fn : Func} {e : Array Value → Sem Value} {v : Value} {w' : World} (ho : o.op = .call { callee := .value (.func f), args := as, argTypes := ts })
    (hf : P.funcs[f]? = some fn) (hname : (fn.name == "runtime.NumGoroutine") = false) (hb : fn.body.isNone = true) (hn : Extern.findNext fn = none) (he : Extern.find fn = some e)
    (ha : as.map (ev n b s) = args) (hr : (e args).run P w = .ok v w') : (execOp (ev n b s) o).run P w = .ok (.value v) w' := by
  have h1 : ev n b s (.func f) = .func (.func f) #[] #[] := rfl
  simp [execOp, ho, resolve, Deferred.ofValue, h1, invoke, ha, run_callFunc_extern hf hname hb hn he args w, hr]
theorem r_neq_same {t u te : TypeId} {x y : Operand} {j : TypeInfo} {a : Addr} (ho : o.op = .binOp .neq t x y u) (hx : ev n b s x = .pointer (some a)) (hy : ev n b s y = .pointer (some a))
    (hp : P.underlying t = some (.pointer te)) (hte : P.info? te = some j) : (execOp (ev n b s) o).run P w = .ok (.value (.bool false)) w := by
  simp [execOp, ho, hx, hy, eqGuard, Lib.run_neq_ptr_same w a hp hte]
theorem r_convv {t u : TypeId} {x : Operand} {v r : Value} {w' : World} (ho : o.op = .convert t u x) (hx : ev n b s x = v) (hr : (convert t u v).run P w = .ok r w') : (execOp (ev n b s) o).run P w = .ok (.value r) w' := by
  simp [execOp, ho, hx, hr]

/-! ### pieces of a text -/
theorem ext_lohi (l : List UInt8) (i j : Nat) : (⟨l.toArray⟩ : ByteArray).extract i j = ⟨((l.drop i).take (j - i)).toArray⟩ := ByteArray.extract_mk l i j
theorem ext_lo (l : List UInt8) (j : Nat) : (⟨l.toArray⟩ : ByteArray).extract j (⟨l.toArray⟩ : ByteArray).size = ⟨(l.drop j).toArray⟩ := by
  have hs : (⟨l.toArray⟩ : ByteArray).size = l.length := by show l.toArray.size = _; simp
  rw [ext_lohi, hs, List.take_of_length_le (by simp)]
theorem siz (l : List UInt8) : (⟨l.toArray⟩ : ByteArray).size = l.length := by show l.toArray.size = _; simp
theorem r_slo {t : TypeId} {x y : Operand} {l : List UInt8} {k : IntKind} {i : Int} {j : Nat} (ho : o.op = .slice t x (some y) none none) (hx : ev n b s x = .string ⟨l.toArray⟩) (hy : ev n b s y = .int k i) (hu : P.underlying t = some .string) (hi : i = (j : Int)) (hj : j ≤ l.length) :
    (execOp (ev n b s) o).run P w = .ok (.value (.string ⟨(l.drop j).toArray⟩)) w := by
  subst hi
  have h := run_slice_string_l (P := P) w t ⟨l.toArray⟩ hu k (j : Int) (by omega) (by rw [siz]; omega)
  rw [Int.toNat_natCast, ext_lo] at h
  simp [execOp, ho, hx, hy, run_sliceAt_string (P := P) w _ _ _ _ _ hu, h]
theorem r_shi {t : TypeId} {x y : Operand} {l : List UInt8} {k : IntKind} {i : Int} {j : Nat} (ho : o.op = .slice t x none (some y) none) (hx : ev n b s x = .string ⟨l.toArray⟩) (hy : ev n b s y = .int k i) (hu : P.underlying t = some .string) (hi : i = (j : Int)) (hj : j ≤ l.length) :
    (execOp (ev n b s) o).run P w = .ok (.value (.string ⟨(l.take j).toArray⟩)) w := by
  subst hi
  have h := run_slice_string_h (P := P) w t ⟨l.toArray⟩ hu k (j : Int) (by omega) (by rw [siz]; omega)
  rw [Int.toNat_natCast, ext_lohi] at h
  simp [execOp, ho, hx, hy, run_sliceAt_string (P := P) w _ _ _ _ _ hu, h]
theorem r_slohi {t : TypeId} {x y z : Operand} {l : List UInt8} {k k' : IntKind} {i i' : Int} {j j' : Nat} (ho : o.op = .slice t x (some y) (some z) none) (hx : ev n b s x = .string ⟨l.toArray⟩) (hy : ev n b s y = .int k i) (hz : ev n b s z = .int k' i') (hu : P.underlying t = some .string) (hi : i = (j : Int)) (hi' : i' = (j' : Int)) (hj : j ≤ j') (hj' : j' ≤ l.length) :
    (execOp (ev n b s) o).run P w = .ok (.value (.string ⟨((l.drop j).take (j' - j)).toArray⟩)) w := by
  subst hi; subst hi'
  have h := run_slice_string (P := P) w t ⟨l.toArray⟩ k k' (j : Int) (j' : Int) hu (by omega) (by omega) (by rw [siz]; omega)
  rw [Int.toNat_natCast, Int.toNat_natCast, ext_lohi] at h
  simp [execOp, ho, hx, hy, hz, run_sliceAt_string (P := P) w _ _ _ _ _ hu, h]
theorem r_idx {t : TypeId} {y z : Operand} {l : List UInt8} {k : IntKind} {i : Int} {j : Nat} {x : UInt8} (ho : o.op = .index t y z) (hy : ev n b s y = .string ⟨l.toArray⟩) (hz : ev n b s z = .int k i) (hu : P.underlying t = some .string) (hi : i = (j : Int)) (hx : l[j]? = some x) :
    (execOp (ev n b s) o).run P w = .ok (.value (.int .u8 (x.toNat : Int))) w := by subst hi; exact r_idxs ho hy hz hu hx
theorem getD_at {l : List UInt8} {j : Nat} (h : j < l.length) : l[j]? = some (l.getD j 0) := by simp [List.getD, List.getElem?_eq_getElem h]

/-! ### errors -/
/-- is it one? -/
def IsErr (e : Value) (f : Bool) : Prop := if f then ∃ t p, e = .iface t p else e = .nilIface
theorem r_iface_neq {t u : TypeId} {x y : Operand} {e : Value} {f : Bool} (ho : o.op = .binOp .neq t x y u) (hx : ev n b s x = e) (hy : y = .const .nilIface) (hu : P.underlying t = some (.interface (P.methodsAt t))) (he : IsErr e f) :
    (execOp (ev n b s) o).run P w = .ok (.value (.bool f)) w := by
  subst hy
  have hc : ev n b s (.const .nilIface) = .nilIface := rfl
  cases f with
  | true =>
    obtain ⟨a, p, rfl⟩ := he
    have h := run_neq_held_nil (P := P) (w := w) t a p hu
    simp [execOp, ho, hx, hc, eqGuard, h]
  | false =>
    have he' : e = .nilIface := he
    subst he'
    have h := run_neq_nil_nil (P := P) (w := w) t hu
    simp [execOp, ho, hx, hc, eqGuard, h]

/-! ### halves of a byte, put together -/
theorem nib_shl {t u : TypeId} {x y : Operand} {k : IntKind} {j : Int} (ho : o.op = .binOp .shl t x y u) (hx : ev n b s x = .int .i64 j) (hy : ev n b s y = .int k 4) (h0 : 0 ≤ j) (hj : j < 16) : (execOp (ev n b s) o).run P w = .ok (.value (.int .i64 (j * 16))) w := by
  have h1 : IntKind.i64.wrap (j * 16) = j * 16 := wrap_in (by rw [min_i64]; omega) (by rw [max_i64]; omega)
  simp [execOp, ho, hx, hy, eqGuard, binOp, Op.shift, IntKind.bits, h1]
theorem or16 : ∀ i : Fin 16, ∀ j : Fin 16, ((BitVec.ofInt 64 ((i.val : Int) * 16) ||| BitVec.ofInt 64 (j.val : Int)).toNat : Int) = (i.val : Int) * 16 + (j.val : Int) := by decide
theorem nib_or {t u : TypeId} {x y : Operand} {i j : Int} (ho : o.op = .binOp .or t x y u) (hx : ev n b s x = .int .i64 (i * 16)) (hy : ev n b s y = .int .i64 j) (h0 : 0 ≤ i) (h1 : i < 16) (h2 : 0 ≤ j) (h3 : j < 16) : (execOp (ev n b s) o).run P w = .ok (.value (.int .i64 (i * 16 + j))) w := by
  have h := or16 ⟨i.toNat, by omega⟩ ⟨j.toNat, by omega⟩
  simp only [Int.toNat_of_nonneg h0, Int.toNat_of_nonneg h2] at h
  simp only [execOp, ho, hx, hy, eqGuard, binOp, Op.intBits]
  show Result.ok (Next.value (.int .i64 (IntKind.i64.wrap ((BitVec.ofInt 64 (i * 16) ||| BitVec.ofInt 64 j).toNat : Int)))) w = _
  rw [h, wrap_in (by rw [min_i64]; omega) (by rw [max_i64]; omega)]
theorem u8_back {e : Int} (h0 : 0 ≤ e) (h1 : e < 256) : e = ((UInt8.ofNat e.toNat).toNat : Int) := by
  rw [UInt8.toNat_ofNat']; omega

/-- a conversion that wraps -/
theorem r_conv_u16 {t u : TypeId} {x : Operand} {k' : IntKind} {d : TypeDesc} {i : Int} (ho : o.op = .convert t u x) (hx : ev n b s x = .int k' i) (ht : P.underlying t = some d) (hu : P.underlying u = some (.int .u16)) :
    (execOp (ev n b s) o).run P w = .ok (.value (.int .u16 (i % 65536))) w := by
  have hw : IntKind.u16.wrap i = i % 65536 := by
    unfold IntKind.wrap
    rw [show IntKind.u16.signed = false from rfl]
    simp [IntKind.bits]
  simp [execOp, ho, hx, convert, run_underlying ht, run_underlying hu, Conv.intToInt, hw]
theorem r_conv_u8 {t u : TypeId} {x : Operand} {k' : IntKind} {d : TypeDesc} {i : Int} (ho : o.op = .convert t u x) (hx : ev n b s x = .int k' i) (ht : P.underlying t = some d) (hu : P.underlying u = some (.int .u8)) :
    (execOp (ev n b s) o).run P w = .ok (.value (.int .u8 (i % 256))) w := by
  have hw : IntKind.u8.wrap i = i % 256 := by
    unfold IntKind.wrap
    rw [show IntKind.u8.signed = false from rfl]
    simp [IntKind.bits]
  simp [execOp, ho, hx, convert, run_underlying ht, run_underlying hu, Conv.intToInt, hw]
/-! ### the builder -/
/-- a builder at block g, of one's own from base on; T, e: the types builder and byte -/
def Bld (T e base g : Nat) (w : World) (l : List UInt8) : Prop :=
  ∃ p v, w.heap[g]? = some (.cells #[.pointer p, v] T (0, 0)) ∧ (p = none ∨ p = some ⟨g, 0, none⟩) ∧ OwnB base e w v l ∧ base ≤ g
theorem Bld.lt {T e base g : Nat} {l : List UInt8} (h : Bld T e base g w l) : g < w.heap.size := by
  obtain ⟨p, v, hb, _⟩ := h
  exact (Array.getElem?_eq_some_iff.1 hb).1
theorem Bld.fr0 {T e base g : Nat} {w' : World} {l : List UInt8} (h : Bld T e base g w l) (hf : Fr [] w w') : Bld T e base g w' l := by
  have hl := h.lt
  obtain ⟨p, v, hb, hp, ho, hg⟩ := h
  exact ⟨p, v, by rw [hf.block g hl (by simp)]; exact hb, hp, ho.fr0 hf, hg⟩
theorem Bld.fresh {T e base g : Nat} (hb : w.heap[g]? = some (.cells #[.pointer none, .slice none 0 0] T (0, 0))) (hg : base ≤ g) : Bld T e base g w [] :=
  ⟨none, _, hb, .inl rfl, OwnB.nil base e w, hg⟩
theorem Bld.is {T e base g : Nat} {l : List UInt8} (hT : T ≠ e) (h : Bld T e base g w l) : Lib.IsBuilder T e base g (l.map fun x => .int .u8 x.toNat) w := by
  obtain ⟨p, v, hb, hp, ho, hg⟩ := h
  have ho' : w.ownsRow base e 1 v (l.map fun x => Value.int .u8 x.toNat).length (l.map fun x => .int .u8 x.toNat) := by rw [List.length_map]; exact ho
  rcases hp with rfl | rfl
  · exact .inl ⟨hg, v, hb, ho', own_type ho hb hT⟩
  · exact .inr ⟨hg, v, hb, ho', own_type ho hb hT⟩
end
end Go.E
