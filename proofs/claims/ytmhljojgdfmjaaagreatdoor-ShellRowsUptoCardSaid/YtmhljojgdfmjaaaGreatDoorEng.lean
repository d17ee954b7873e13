/- The engine: frames as lists of what was written, worlds by what has not turned, one law for each operation. Over any program. -/
import Derived.WalkKit
import Derived.OrdersHeld
import Derived.RowKit3
import Derived.KernelRfl
import Derived.Deep.LoopGhost
import Derived.Deep.MidRow
import Derived.Deep.Draws
namespace Go.E
open Go

/-! ### Frames -/
/-- the value of slot k: the newest entry of s, else b's. -/
def lk (b : Nat → Value) : List (Nat × Value) → Nat → Value
  | [], k => b k
  | (i, v) :: r, k => bif Nat.beq i k then v else lk b r k
/-- the parameters; behind them nothing -/
def ar (l : List Value) : Nat → Value := fun k => l.getD k undef

def mk (ds : List Deferred) (n : Nat) (b : Nat → Value) (s : List (Nat × Value)) : Act := ⟨((List.range n).map (lk b s)).toArray, ds⟩

def ev (n : Nat) (b : Nat → Value) (s : List (Nat × Value)) : Operand → Value
  | .tmp t => bif Nat.blt t n then lk b s t else undef
  | .const v => v
  | .global g => .pointer (some ⟨g, 0, none⟩)
  | .func f => .func (.func f) #[] #[]

section
variable {ds : List Deferred} {n : Nat} {b : Nat → Value} {s : List (Nat × Value)}

theorem mk_getD (t : Nat) : (mk ds n b s).tmps.getD t undef = bif Nat.blt t n then lk b s t else undef := by
  by_cases h : t < n
  · have : Nat.blt t n = true := Nat.ble_eq_true_of_le h
    simp [mk, this, List.getElem?_range h]
  · have : Nat.blt t n = false := by
      cases hb : Nat.blt t n with
      | false => rfl
      | true => exact absurd (Nat.le_of_ble_eq_true hb) h
    simp [mk, this, List.getElem?_eq_none (show (List.range n).length ≤ t by simp; omega)]

theorem mk_eval : (mk ds n b s).eval = ev n b s := by
  funext x
  cases x with
  | tmp t => exact mk_getD t
  | const v => rfl
  | global g => rfl
  | func f => rfl

theorem mk_put (d : Nat) (v : Value) : (mk ds n b s).put (some d) v = mk ds n b ((d, v) :: s) := by
  simp only [Act.put, mk, Act.mk.injEq, and_true]
  apply Array.ext'
  apply List.ext_getElem?
  intro i
  simp only [Array.toList_setIfInBounds, List.getElem?_set, List.getElem?_map, List.length_map, List.length_range]
  by_cases hi : i < n
  · by_cases hd : d = i
    · subst hd
      simp [hi, lk]
    · have : Nat.beq d i = false := by
        cases h : Nat.beq d i with
        | false => rfl
        | true => exact absurd (Nat.eq_of_beq_eq_true h) hd
      simp [hd, List.getElem?_range hi, lk, this]
  · have hn : (List.range n)[i]? = none := List.getElem?_eq_none (by simp; omega)
    by_cases hd : d = i
    · subst hd; simp [hi]
    · simp [hd, hn]

theorem mk_put_none (v : Value) : (mk ds n b s).put none v = mk ds n b s := rfl

/-- another way to write a frame: some slots by name, the rest as it is -/
theorem mk_eq {s' : List (Nat × Value)} (h : s'.map (fun p => lk b s p.1) = s'.map (·.2)) : mk ds n b s = mk ds n (fun k => lk b s k) s' := by
  have key : ∀ s' : List (Nat × Value), s'.map (fun p => lk b s p.1) = s'.map (·.2) → ∀ k, lk b s k = lk (fun k => lk b s k) s' k := by
    intro s'
    induction s' with
    | nil => intro _ k; rfl
    | cons p r ih =>
      intro h k
      simp only [List.map_cons, List.cons.injEq] at h
      simp only [lk]
      cases hb : Nat.beq p.1 k with
      | true => rw [← Nat.eq_of_beq_eq_true hb]; exact h.1
      | false => exact ih h.2 k
  have : lk b s = lk (fun k => lk b s k) s' := funext (key s' h)
  simp only [mk]
  rw [← this]
end

/-- a value that is there only if g -/
def gd (g : Bool) (v : Value) : Value := bif g then v else undef
theorem gd_true {g : Bool} (h : g = true) (v : Value) : gd g v = v := by subst h; rfl

/-! ### Worlds -/
/-- w' is w, but for what stands in the blocks of M, and new blocks. -/
structure Fr (M : List Nat) (w w' : World) : Prop where
  os : w'.os = w.os
  tape : w'.tape = w.tape
  output : w'.output = w.output
  size : w.heap.size ≤ w'.heap.size
  block : ∀ k, k < w.heap.size → k ∉ M → w'.heap[k]? = w.heap[k]?

theorem Fr.refl (M : List Nat) (w : World) : Fr M w w := ⟨rfl, rfl, rfl, Nat.le_refl _, fun _ _ _ => rfl⟩
theorem Fr.trans {M : List Nat} {a b c : World} (h : Fr M a b) (k : Fr M b c) : Fr M a c :=
  ⟨k.os.trans h.os, k.tape.trans h.tape, k.output.trans h.output, Nat.le_trans h.size k.size,
    fun i hi hm => (k.block i (Nat.lt_of_lt_of_le hi h.size) hm).trans (h.block i hi hm)⟩
theorem Fr.mono {M M' : List Nat} {a b : World} (h : Fr M a b) (hm : ∀ k, k ∈ M → k < a.heap.size → k ∈ M') : Fr M' a b :=
  ⟨h.os, h.tape, h.output, h.size, fun i hi hn => h.block i hi fun hc => hn (hm i hc hi)⟩
/-- none of M was there: nothing has turned -/
theorem Fr.new {M : List Nat} {a b : World} (h : Fr M a b) (hm : ∀ k, k ∈ M → a.heap.size ≤ k) : Fr [] a b :=
  h.mono fun k hk hl => absurd hl (by have := hm k hk; omega)
theorem Fr.any {M : List Nat} {a b : World} (h : Fr [] a b) : Fr M a b := h.mono fun _ hk => absurd hk (by simp)
theorem Fr.at {M : List Nat} {a b : World} {k : Nat} {o : Obj} (h : Fr M a b) (ho : a.heap[k]? = some o) (hm : k ∉ M) : b.heap[k]? = some o :=
  (h.block k (Array.getElem?_eq_some_iff.1 ho).1 hm).trans ho
theorem Fr.at0 {a b : World} {k : Nat} {o : Obj} (h : Fr [] a b) (ho : a.heap[k]? = some o) : b.heap[k]? = some o := h.at ho (by simp)
theorem Fr.drew (M : List Nat) (w : World) : Fr M w w.drew := ⟨rfl, rfl, rfl, Nat.le_refl _, fun _ _ _ => rfl⟩
theorem Fr.drewN (M : List Nat) (w : World) (n : Nat) : Fr M w (w.drewN n) := ⟨rfl, rfl, rfl, Nat.le_refl _, fun _ _ _ => rfl⟩
theorem Fr.alloc (M : List Nat) (w : World) (o : Obj) : Fr M w (w.alloc o) :=
  ⟨rfl, rfl, rfl, by simp, fun k hk _ => Go.RowKit.Below.heap_alloc _ _ _ hk⟩
theorem Fr.setCell (w : World) (a : Addr) (v : Value) : Fr [a.block] w (w.setCell a v) :=
  ⟨rfl, rfl, rfl, by simp, fun k _ hm => Go.RowKit.Below.heap_setCell _ _ _ _ (by simpa using hm)⟩
theorem Fr.below {w w' : World} (h : Fr [] w w') : Go.RowKit.Below w.heap.size w w' :=
  ⟨h.os, h.tape, h.output, h.size, fun k hk => h.block k hk (by simp)⟩
theorem Fr.of_below {w w' : World} (h : Go.RowKit.Below w.heap.size w w') : Fr [] w w' :=
  ⟨h.os, h.tape, h.output, h.size, fun k hk _ => h.block k hk⟩
theorem Fr.of_grown {w w' : World} {r : Option Nat} (h : w.grownBy w' r) : Fr r.toList w w' :=
  ⟨h.os, h.tape, h.output, h.size, fun k hk hm => h.block k hk (by cases r with | none => simp | some x => simpa using hm)⟩

/-- a new block k -/
structure New (k : Nat) (o : Obj) (w w' : World) : Prop where
  hk : k = w.heap.size
  sz : w'.heap.size = k + 1
  fr : Fr [] w w'
  at_ : w'.heap[k]? = some o

theorem New.of_alloc (w : World) (o : Obj) : New w.heap.size o w (w.alloc o) :=
  ⟨rfl, by simp, Fr.alloc [] w o, heap_alloc_new w o⟩

theorem cell_at {w : World} {k j : Nat} {arr : Array Value} {e : TypeId} {fz : Nat × Nat} {v : Value} (h : w.heap[k]? = some (.cells arr e fz)) (hv : arr[j]? = some v) : w.cell? ⟨k, j, none⟩ = some v := by
  simp [World.cell?, h, hv]

/-! ### Functions, code -/
section
variable {P : Program} {Q : Exit → Act → World → Prop} {ds : List Deferred} {n : Nat} {b : Nat → Value} {s : List (Nat × Value)} {w : World}

theorem fn_act {l : List Value} (hl : Nat.ble l.length n = true) : ({ tmps := l.toArray ++ Array.replicate (n - l.toArray.size) undef, defers := [] } : Act) = mk [] n (ar l) [] := by
  simp only [mk, Act.mk.injEq, and_true]
  apply Array.ext'
  apply List.ext_getElem?
  intro i
  have hl' : l.length ≤ n := by simpa using hl
  simp only [Array.toList_append, Array.toList_replicate, List.size_toArray, List.getElem?_map]
  by_cases hi : i < n
  · rw [List.getElem?_range hi]
    simp only [Option.map_some, lk, ar, List.getD_eq_getElem?_getD]
    by_cases hb' : i < l.length
    · rw [List.getElem?_append_left hb', List.getElem?_eq_getElem hb']; rfl
    · rw [List.getElem?_append_right (by omega), List.getElem?_replicate, if_pos (by omega), List.getElem?_eq_none (by omega)]; rfl
  · rw [List.getElem?_eq_none (l := List.range n) (by simp; omega), List.getElem?_append_right (by omega), List.getElem?_replicate, if_neg (by omega)]; rfl
theorem fn_in {f : FuncId} {fn : Func} {c : Code} {l : List Value} {R : Ending → World → Prop}
    (hf : P.funcs[f]? = some fn) (hb : fn.body = some c) (hn : fn.ntmps = n) (hl : Nat.ble l.length n = true)
    (h : c.wp P (bodyPost P fn R) (mk [] n (ar l) []) w) : Calls P f l.toArray w R := by
  refine calls_of_wp hf hb ?_
  rw [hn, fn_act hl]; exact h

theorem n_then {K : Act → World → Prop} {a : Act} (h : K a w) : Exit.then K Q .normal a w := h
theorem e_then {K : Act → World → Prop} {a : Act} {i : Nat} (h : Q (.exit i) a w) : Exit.then K Q (.exit i) a w := h
theorem t_then {K : Act → World → Prop} {a : Act} (h : Q .ret a w) : Exit.then K Q .ret a w := h
theorem n_block {a : Act} {id : Nat} (h : Q .normal a w) : Exit.inBlock id Q .normal a w := h
theorem e_hit {a : Act} {id : Nat} (h : Q .normal a w) : Exit.inBlock id Q (.exit id) a w := by simpa [Exit.inBlock] using h
theorem e_miss {a : Act} {id i : Nat} (hne : Nat.beq i id = false) (h : Q (.exit i) a w) : Exit.inBlock id Q (.exit i) a w := by
  have : i ≠ id := fun e => by subst e; simp at hne
  simpa [Exit.inBlock, this] using h
theorem t_block {a : Act} {id : Nat} (h : Q .ret a w) : Exit.inBlock id Q .ret a w := h

theorem c_cond {c : Operand} {x y : Code} {e : Bool} (hc : ev n b s c = .bool e) (ht : e = true → x.wp P Q (mk ds n b s) w) (hf : e = false → y.wp P Q (mk ds n b s) w) :
    (Code.cond c x y).wp P Q (mk ds n b s) w := wp_cond_split (by rw [mk_eval]; exact hc) ht hf
theorem c_condT {c : Operand} {x y : Code} {e : Bool} (hc : ev n b s c = .bool e) (he : e = true) (ht : x.wp P Q (mk ds n b s) w) : (Code.cond c x y).wp P Q (mk ds n b s) w :=
  wp_cond_true (by rw [mk_eval, hc, he]) ht
theorem c_condF {c : Operand} {x y : Code} {e : Bool} (hc : ev n b s c = .bool e) (he : e = false) (ht : y.wp P Q (mk ds n b s) w) : (Code.cond c x y).wp P Q (mk ds n b s) w :=
  wp_cond_false (by rw [mk_eval, hc, he]) ht

/-- a piece of code up to a place where ways meet again -/
theorem c_cut {x y : Code} (R : Act → World → Prop) {a : Act} (h : x.wp P (Exit.then R Q) a w) (k : ∀ a₁ w₁, R a₁ w₁ → y.wp P Q a₁ w₁) : (Code.seq x y).wp P Q a w :=
  wp_seq (wp_mono h fun e a' w' q => by cases e <;> first | exact k _ _ q | exact q)

/-- a loop: I bears a number that each round lowers -/
theorem c_loop {body : Code} (I : Nat → Act → World → Prop) (m : Nat) {a : Act} (h0 : I m a w)
    (round : ∀ m a w, I m a w → ∀ K : Act → World → Prop, (∀ m₁ a₁ w₁, m₁ < m → I m₁ a₁ w₁ → K a₁ w₁) → body.wp P (Exit.then K Q) a w) : (Code.loop body).wp P Q a w :=
  wp_loop_ghost I m h0 fun m a w h => round m a w h _ fun m₁ _ _ hlt hi => ⟨m₁, hlt, hi⟩

/-- the function's end -/
theorem end_ret {fn : Func} {R : Ending → World → Prop} {v : Value} (hr : (results fn (mk [] n b s).tmps).run P w = .ok v w) (h : R (.returned v) w) : bodyPost P fn R .ret (mk [] n b s) w := ⟨rfl, v, hr, h⟩
theorem end_norm {fn : Func} {R : Ending → World → Prop} {v : Value} (hr : (results fn (mk [] n b s).tmps).run P w = .ok v w) (h : R (.returned v) w) : bodyPost P fn R .normal (mk [] n b s) w := ⟨rfl, v, hr, h⟩

theorem res0 {fn : Func} (h : fn.results = #[]) : (results fn (mk ds n b s).tmps).run P w = .ok (.tuple #[]) w := results_none h _ _ _
theorem res1 {fn : Func} {t : Nat} {v : Value} (h : fn.results = #[.tmp t]) (hv : ev n b s (.tmp t) = v) : (results fn (mk ds n b s).tmps).run P w = .ok v w := by
  rw [results_tmp h, mk_getD]; exact congrArg (fun x => Result.ok x w) hv
theorem res2 {fn : Func} {t u : Nat} {v x : Value} (h : fn.results = #[.tmp t, .tmp u]) (hv : ev n b s (.tmp t) = v) (hx : ev n b s (.tmp u) = x) : (results fn (mk ds n b s).tmps).run P w = .ok (.tuple #[v, x]) w := by
  rw [results_tmp2 h, mk_getD, mk_getD]; subst hv; subst hx; rfl
theorem res3 {fn : Func} {t u q : Nat} {v x y : Value} (h : fn.results = #[.tmp t, .tmp u, .tmp q]) (hv : ev n b s (.tmp t) = v) (hx : ev n b s (.tmp u) = x) (hy : ev n b s (.tmp q) = y) : (results fn (mk ds n b s).tmps).run P w = .ok (.tuple #[v, x, y]) w := by
  subst hv; subst hx; subst hy
  have h1 := mk_getD (ds := ds) (n := n) (b := b) (s := s) t
  have h2 := mk_getD (ds := ds) (n := n) (b := b) (s := s) u
  have h3 := mk_getD (ds := ds) (n := n) (b := b) (s := s) q
  show (results fn (mk ds n b s).tmps).run P w = _
  generalize (mk ds n b s).tmps = T at h1 h2 h3
  simp only [ev]
  rw [← h1, ← h2, ← h3]
  simp [results, h]

/-! ### Operations, in the order of the text -/
variable {ops : Array Oper} {rest : List Oper} {o : Oper}

theorem r_start {id : Nat} {l : List Oper} {a : Act} (h : wpList P l.toArray Q l a w) : (Code.region id l.toArray false).wp P Q a w := wp_region_lit h
theorem l_nil {a : Act} (h : Q .normal a w) : wpList P ops Q [] a w := h

theorem l_val {d : Nat} {v : Value} {w' : World} (hg : o.guard = none) (hd : o.dst = some d) (hr : (execOp (ev n b s) o).run P w = .ok (.value v) w')
    (h : wpList P ops Q rest (mk ds n b ((d, v) :: s)) w') : wpList P ops Q (o :: rest) (mk ds n b s) w := by
  refine wpList_plain hg fun K hK => ?_
  unfold Oper.wp
  rw [mk_eval, hr]
  show K _ _
  rw [hd, mk_put]
  exact hK _ _ h

theorem l_v {d : Nat} {v : Value} (hg : o.guard = none) (hd : o.dst = some d) (hr : (execOp (ev n b s) o).run P w = .ok (.value v) w)
    (h : wpList P ops Q rest (mk ds n b ((d, v) :: s)) w) : wpList P ops Q (o :: rest) (mk ds n b s) w := l_val hg hd hr h
theorem l_skip {w' : World} (hg : o.guard = none) (hd : o.dst = none) (hr : (execOp (ev n b s) o).run P w = .ok .skip w')
    (h : wpList P ops Q rest (mk ds n b s) w') : wpList P ops Q (o :: rest) (mk ds n b s) w := by
  refine wpList_plain hg fun K hK => ?_
  unfold Oper.wp
  rw [mk_eval, hr]
  show K _ _
  rw [hd]
  exact hK _ _ h

/-- is it wanted? W: what its guard says. -/
def want (n : Nat) (b : Nat → Value) (s : List (Nat × Value)) (ops : Array Oper) (o : Oper) (W : Bool) : Prop :=
  Region.wanted o (yielded ops (mk [] n b s).tmps) = W

theorem want_of {j d : Nat} {want_ W0 g : Bool} {oj : Oper} (hg : o.guard = some (j, want_)) (hj : ops[j]? = some oj) (hd : oj.dst = some d) (hv : ev n b s (.tmp d) = gd W0 (.bool g)) : want n b s ops o (W0 && (g == want_)) := by
  unfold want Region.wanted yielded
  rw [hg]
  have hv2 : (mk [] n b s).tmps.getD d undef = gd W0 (.bool g) := (mk_getD (ds := []) (n := n) (b := b) (s := s) d).trans hv
  simp only [hj, Option.bind_some, hd]
  generalize (mk [] n b s).tmps = T at hv2
  cases W0 with
  | true =>
    have hx : T[d]? = some (.bool g) := by
      rw [Array.getD_eq_getD_getElem?] at hv2
      cases h : T[d]? with
      | none => rw [h] at hv2; simp [gd, undef] at hv2
      | some v => rw [h] at hv2; exact congrArg some (by simpa [gd] using hv2)
    simp [hx]
  | false =>
    rw [Array.getD_eq_getD_getElem?] at hv2
    cases h : T[d]? with
    | none => simp
    | some v => rw [h] at hv2; have : v = .tuple #[] := by simpa [gd, undef] using hv2
                subst this; simp

theorem l_g {d : Nat} {v : Value} {W : Bool} (hw : want n b s ops o W) (hd : o.dst = some d) (hr : W = true → (execOp (ev n b s) o).run P w = .ok (.value v) w)
    (h : wpList P ops Q rest (mk ds n b ((d, gd W v) :: s)) w) : wpList P ops Q (o :: rest) (mk ds n b s) w := by
  unfold wpList
  have hw : Region.wanted o (yielded ops (mk ds n b s).tmps) = W := hw
  cases W with
  | true =>
    rw [if_pos hw]
    refine .inl ?_
    unfold Oper.wp
    rw [mk_eval, hr rfl]
    show wpList _ _ _ _ _ _
    rw [hd, mk_put]
    exact h
  | false =>
    rw [if_neg (by rw [hw]; simp)]
    rw [hd, mk_put]
    exact h

/-! ### What single operations give -/
theorem am {f : Operand → Value} {l : List Operand} {r : List Value} (h : l.map f = r) : (l.toArray).map f = r.toArray := by rw [List.map_toArray, h]
def Enters (P : Program) (f : FuncId) : Prop := ∀ args w, (callFunc f args).run P w = .ok (.enter f args) w
theorem enters_mk {f : FuncId} {fn : Func} {c : Code} (hf : P.funcs[f]? = some fn) (hname : (fn.name == "runtime.NumGoroutine") = false) (hb : fn.body = some c) : Enters P f := by
  intro args w
  have h1 : fn.name ≠ "runtime.NumGoroutine" := by simpa using hname
  simp [callFunc, hf, h1, hb, mark]

/-- a call of a function by its name -/
theorem r_call {f : FuncId} {as : Array Operand} {ts : Array TypeId} {args : Array Value} (ho : o.op = .call { callee := .value (.func f), args := as, argTypes := ts }) (he : Enters P f)
    (ha : as.map (ev n b s) = args) : (execOp (ev n b s) o).run P w = .ok (.enter f args) w := by
  have h1 : ev n b s (.func f) = .func (.func f) #[] #[] := rfl
  simp [execOp, ho, resolve, Deferred.ofValue, h1, invoke, ha, he args w]

/-- a call of a function value -/
theorem r_callv {f : FuncId} {t : Nat} {first cap : Array Value} {as : Array Operand} {ts : Array TypeId} {args args' : Array Value} (ho : o.op = .call { callee := .value (.tmp t), args := as, argTypes := ts })
    (hf : ev n b s (.tmp t) = .func (.func f) first cap) (he : Enters P f) (ha : as.map (ev n b s) = args) (hb : first ++ args ++ cap = args') :
    (execOp (ev n b s) o).run P w = .ok (.enter f args') w := by
  subst hb
  simp [execOp, ho, resolve, Deferred.ofValue, hf, invoke, ha, he _ w]

/-- what a function does, that neither panics nor outgrows -/
def Does (P : Program) (f : FuncId) (args : Array Value) (w : World) (R : Value → World → Prop) : Prop := Calls P f args w fun e w' => ∃ v, e = .returned v ∧ R v w'
theorem Does.mono {f : FuncId} {args : Array Value} {R R' : Value → World → Prop} (h : Does P f args w R) (hr : ∀ v w', R v w' → R' v w') : Does P f args w R' :=
  Calls.mono h fun _ w' ⟨v, he, r⟩ => ⟨v, he, hr v w' r⟩
theorem Does.of {f : FuncId} {args : Array Value} {R : Value → World → Prop} (h : Calls P f args w fun e w' => ∃ v, e = .returned v ∧ R v w') : Does P f args w R := h

theorem Does.upon {f : FuncId} {args : Array Value} {R : Value → World → Prop} {K : Act → World → Prop} {a : Act} (hc : Does P f args w R) (h : ∀ v w', R v w' → K (a.put o.dst v) w') :
    o.upon P a K Q (.ok (.enter f args) w) :=
  Calls.mono hc fun e w' ⟨v, he, hr⟩ => by subst he; exact h v w' hr

theorem l_call {d f : Nat} {args : Array Value} {R : Value → World → Prop} (hg : o.guard = none) (hd : o.dst = some d) (hr : (execOp (ev n b s) o).run P w = .ok (.enter f args) w)
    (hc : Does P f args w R) (h : ∀ v w', R v w' → wpList P ops Q rest (mk ds n b ((d, v) :: s)) w') : wpList P ops Q (o :: rest) (mk ds n b s) w := by
  refine wpList_plain hg fun K hK => ?_
  unfold Oper.wp
  rw [mk_eval, hr]
  exact hc.upon fun v w' hv => by rw [hd, mk_put]; exact hK _ _ (h v w' hv)

/-- a call whose result nobody takes -/
theorem l_call0 {f : Nat} {args : Array Value} {R : Value → World → Prop} (hg : o.guard = none) (hd : o.dst = none) (hr : (execOp (ev n b s) o).run P w = .ok (.enter f args) w)
    (hc : Does P f args w R) (h : ∀ v w', R v w' → wpList P ops Q rest (mk ds n b s) w') : wpList P ops Q (o :: rest) (mk ds n b s) w := by
  refine wpList_plain hg fun K hK => ?_
  unfold Oper.wp
  rw [mk_eval, hr]
  exact hc.upon fun v w' hv => by rw [hd]; exact hK _ _ (h v w' hv)

/-- a guarded call -/
theorem l_callg {d f : Nat} {args : Array Value} {W : Bool} {R : Value → World → Prop} (hw : want n b s ops o W) (hd : o.dst = some d) (hr : W = true → (execOp (ev n b s) o).run P w = .ok (.enter f args) w)
    (hc : W = true → Does P f args w R) (h : ∀ v w', (W = true → R v w') → (W = false → w' = w) → wpList P ops Q rest (mk ds n b ((d, gd W v) :: s)) w') : wpList P ops Q (o :: rest) (mk ds n b s) w := by
  unfold wpList
  have hw : Region.wanted o (yielded ops (mk ds n b s).tmps) = W := hw
  cases W with
  | true =>
    rw [if_pos hw]
    refine .inl ?_
    unfold Oper.wp
    rw [mk_eval, hr rfl]
    exact (hc rfl).upon fun v w' hv => by rw [hd, mk_put]; exact h v w' (fun _ => hv) (fun h => by cases h)
  | false =>
    rw [if_neg (by rw [hw]; simp)]
    rw [hd, mk_put]
    exact h undef w (fun h => by cases h) (fun _ => rfl)

/-- a new block -/
theorem l_new {d : Nat} {ob : Obj} (f : Nat → Value) (hg : o.guard = none) (hd : o.dst = some d) (hr : (execOp (ev n b s) o).run P w = .ok (.value (f w.heap.size)) (w.alloc ob))
    (h : ∀ k w', New k ob w w' → wpList P ops Q rest (mk ds n b ((d, f k) :: s)) w') : wpList P ops Q (o :: rest) (mk ds n b s) w :=
  l_val hg hd hr (h _ _ (New.of_alloc w ob))

/-- what a store leaves -/
structure Put (g : Nat) (ob : Obj) (w w' : World) : Prop where
  fr : Fr [g] w w'
  sz : w'.heap.size = w.heap.size
  at_ : w'.heap[g]? = some ob

theorem Put.setRow {g : Nat} {old cs : Array Value} {e : TypeId} {fz : Nat × Nat} (h : w.heap[g]? = some (.cells old e fz)) : Put g (.cells cs e fz) w (w.setRow g cs) :=
  ⟨⟨rfl, rfl, rfl, by simp [World.setRow], fun k _ hm => setRow_other w g k cs (by simpa using hm)⟩, by simp [World.setRow], setRow_heap w g old cs e fz h⟩

theorem l_store {t : TypeId} {x y : Operand} {g off : Nat} {v : Value} {cur arr : Array Value} {e : TypeId} (hg : o.guard = none) (hd : o.dst = none) (ho : o.op = .store t x y)
    (hx : ev n b s x = .pointer (some ⟨g, off, none⟩)) (hy : ev n b s y = v) (hi : (P.info? t).map (·.size) = some v.cells.size) (hb : w.heap[g]? = some (.cells cur e (0, 0)))
    (hfit : Nat.ble (off + v.cells.size) cur.size = true) (h1 : v.cells.toList.all (·.oneCell') = true) (ha : (cur.toList.take off ++ v.cells.toList ++ cur.toList.drop (off + v.cells.size)).toArray = arr)
    (h : ∀ w', Put g (.cells arr e (0, 0)) w w' → wpList P ops Q rest (mk ds n b s) w') : wpList P ops Q (o :: rest) (mk ds n b s) w := by
  subst ha
  refine l_skip hg hd ?_ (h _ (Put.setRow (cs := _) hb))
  have hst := run_storeCells_at P g off e v.cells.toList 0 cur w hb (by simpa using hfit) (fun u hu => List.all_eq_true.1 h1 u hu)
  simp only [Nat.add_zero, Array.length_toList] at hst
  cases hq : P.info? t with
  | none => simp [hq] at hi
  | some i =>
    have hs : i.size = v.cells.size := by simpa [hq] using hi
    simp [execOp, ho, hx, hy, Instr.storeAt, Instr.sureAddr, storeVar, sizeOf, typeInfo, hq, hs, hst]

/-- a load of one cell -/
theorem r_load {t : TypeId} {x : Operand} {a : Addr} {v : Value} {d : TypeDesc} (ho : o.op = .load t x) (hx : ev n b s x = .pointer (some a)) (hu : P.underlying t = some d) (hd : d.isRow = false)
    (hc : w.cell? a = some v) : (execOp (ev n b s) o).run P w = .ok (.value v) w := by
  have hagg : (isAgg t).run P w = .ok false w := by
    unfold isAgg
    rw [Sem.run_bind, run_underlying hu w]
    cases d <;> simp_all
  simp [execOp, ho, hx, Instr.loadAt, Instr.sureAddr, loadVar, Sem.run_bind, hagg, hc]

/-- a load of a struct or an array -/
theorem r_loads {t : TypeId} {x : Operand} {g off : Nat} {cs : List Value} {d : TypeDesc} (ho : o.op = .load t x) (hx : ev n b s x = .pointer (some ⟨g, off, none⟩)) (hu : P.underlying t = some d) (hd : d.isRow = true)
    (hi : (P.info? t).map (·.size) = some cs.length) (hc : w.rangeAt g off cs) : (execOp (ev n b s) o).run P w = .ok (.value (.agg cs.toArray)) w := by
  have := run_loadAt_mid w g off t cs d hc hu hd hi
  simp [execOp, ho, hx, this]

theorem range_get {g off j : Nat} {cs : List Value} {v : Value} (h : w.rangeAt g off cs) (hj : cs[j]? = some v) : w.cell? ⟨g, off + j, none⟩ = some v := h j v hj
theorem range_at {k off : Nat} {arr : Array Value} {e : TypeId} {fz : Nat × Nat} {cs : List Value} (h : w.heap[k]? = some (.cells arr e fz)) (hv : (arr.toList.drop off).take cs.length = cs) : w.rangeAt k off cs := by
  intro j v hj
  refine cell_at h ?_
  rw [← hv, List.getElem?_take] at hj
  split at hj
  · simpa [List.getElem?_drop] using hj
  · cases hj

/-- the address of an element of a slice -/
theorem r_elem {t e : TypeId} {x i : Operand} {g off len cap size : Nat} {k : IntKind} {j : Int} (ho : o.op = .indexAddr t x i) (hx : ev n b s x = .slice (some ⟨g, off, none⟩) len cap) (hi : ev n b s i = .int k j)
    (hu : P.underlying t = some (.slice e)) (hs : (P.info? e).map (·.size) = some size) (h0 : 0 ≤ j) (h1 : j < len) :
    (execOp (ev n b s) o).run P w = .ok (.value (.pointer (some ⟨g, off + j.toNat * size, none⟩))) w := by
  cases hq : P.info? e with
  | none => simp [hq] at hs
  | some q =>
    have hz : q.size = size := by simpa [hq] using hs
    have hadd : (⟨g, off, none⟩ : Addr).add (j.toNat * size) = ⟨g, off + j.toNat * size, none⟩ := Addr.add_mid ..
    simp [execOp, ho, hx, hi, Instr.indexAt, asIntOf, run_underlying hu, h0, h1, sizeOf, typeInfo, hq, hz, hadd]

theorem r_elemn {t e : TypeId} {x i : Operand} {A : Option Addr} {g off len cap size : Nat} {k : IntKind} {j : Nat} (ho : o.op = .indexAddr t x i) (hx : ev n b s x = .slice A len cap) (hi : ev n b s i = .int k (j : Int)) (hA : A = some ⟨g, off, none⟩)
    (hu : P.underlying t = some (.slice e)) (hs : (P.info? e).map (·.size) = some size) (h1 : j < len) :
    (execOp (ev n b s) o).run P w = .ok (.value (.pointer (some ⟨g, off + j * size, none⟩))) w := by
  subst hA
  exact r_elem ho hx hi hu hs (by omega) (by omega)
/-- the address of an element of an array -/
theorem r_elema {t e : TypeId} {x i : Operand} {g off len size : Nat} {k : IntKind} {j : Int} (ho : o.op = .indexAddr t x i) (hx : ev n b s x = .pointer (some ⟨g, off, none⟩)) (hi : ev n b s i = .int k j)
    (hu : P.underlying t = some (.array len e)) (hs : (P.info? e).map (·.size) = some size) (h0 : 0 ≤ j) (h1 : j < len) :
    (execOp (ev n b s) o).run P w = .ok (.value (.pointer (some ⟨g, off + j.toNat * size, none⟩))) w := by
  cases hq : P.info? e with
  | none => simp [hq] at hs
  | some q =>
    have hz : q.size = size := by simpa [hq] using hs
    have hadd : (⟨g, off, none⟩ : Addr).add (j.toNat * size) = ⟨g, off + j.toNat * size, none⟩ := Addr.add_mid ..
    simp [execOp, ho, hx, hi, Instr.indexAt, Instr.sureAddr, asIntOf, run_underlying hu, h0, h1, sizeOf, typeInfo, hq, hz, hadd]

/-- arithmetic that does not wrap -/
theorem wrap_in {k : IntKind} {x : Int} (h0 : k.min ≤ x) (h1 : x ≤ k.max) : k.wrap x = x := by
  cases k <;> simp [IntKind.min, IntKind.max, IntKind.signed, IntKind.bits] at h0 h1 <;> simp [IntKind.wrap, IntKind.signed, IntKind.bits] <;> (try split) <;> omega
theorem r_add {t u : TypeId} {x y : Operand} {k : IntKind} {i j r : Int} (ho : o.op = .binOp .add t x y u) (hx : ev n b s x = .int k i) (hy : ev n b s y = .int k j) (hr : i + j = r) (h0 : k.min ≤ r) (h1 : r ≤ k.max) :
    (execOp (ev n b s) o).run P w = .ok (.value (.int k r)) w := by
  subst hr
  simp [execOp, ho, hx, hy, eqGuard, binOp, Op.intArith, wrap_in h0 h1]
theorem r_sub {t u : TypeId} {x y : Operand} {k : IntKind} {i j r : Int} (ho : o.op = .binOp .sub t x y u) (hx : ev n b s x = .int k i) (hy : ev n b s y = .int k j) (hr : i - j = r) (h0 : k.min ≤ r) (h1 : r ≤ k.max) :
    (execOp (ev n b s) o).run P w = .ok (.value (.int k r)) w := by
  subst hr
  simp [execOp, ho, hx, hy, eqGuard, binOp, Op.intArith, wrap_in h0 h1]
theorem r_mul {t u : TypeId} {x y : Operand} {k : IntKind} {i j r : Int} (ho : o.op = .binOp .mul t x y u) (hx : ev n b s x = .int k i) (hy : ev n b s y = .int k j) (hr : i * j = r) (h0 : k.min ≤ r) (h1 : r ≤ k.max) :
    (execOp (ev n b s) o).run P w = .ok (.value (.int k r)) w := by
  subst hr
  simp [execOp, ho, hx, hy, eqGuard, binOp, Op.intArith, wrap_in h0 h1]
theorem r_conv {t u : TypeId} {x : Operand} {k k' : IntKind} {d : TypeDesc} {i r : Int} (ho : o.op = .convert t u x) (hx : ev n b s x = .int k' i) (ht : P.underlying t = some d) (hu : P.underlying u = some (.int k)) (hr : i = r)
    (h0 : k.min ≤ r) (h1 : r ≤ k.max) : (execOp (ev n b s) o).run P w = .ok (.value (.int k r)) w := by
  subst hr
  simp [execOp, ho, hx, convert, run_underlying ht, run_underlying hu, Conv.intToInt, wrap_in h0 h1]

theorem am2 {f : Operand → Value} {x y : Operand} {a c : Value} (hx : f x = a) (hy : f y = c) : (#[x, y] : Array Operand).map f = #[a, c] := am (l := [x, y]) (r := [a, c]) (by simp [hx, hy])
theorem callg_w {W : Bool} {v x : Value} {w w1 : World} (h1 : W = true → v = x ∧ w1 = w) (h2 : W = false → w1 = w) : w = w1 := by
  cases W with
  | true => exact (h1 rfl).2.symm
  | false => exact (h2 rfl).symm
theorem callg_v {W : Bool} {v x : Value} {w w1 : World} (h1 : W = true → v = x ∧ w1 = w) : gd W v = gd W x := by
  cases W with
  | true => rw [(h1 rfl).1]
  | false => rfl
/-! ### A region that draws its order: what hangs on S alone is taken first -/
variable {S : World → Prop} {fuel : Nat} {listed : Array Bool}
theorem h_start (S : World → Prop) {id : Nat} {a : Act} (hm : P.follows .mixedOrders = true) (hQ : ∀ c a d v w, Q (.panic c) (a.put (some d) v) w → Q (.panic c) a w)
    (h : ∀ w', Fr [] w w' → w'.heap = w.heap → (∀ c a d v w, Q (.panic c) (a.put (some d) v) w → Q (.panic c) a w) → wpAnyH P .any ops Q S ops.size (Array.replicate ops.size false) a w') : (Code.region id ops true).wp P Q a w :=
  wp_region_held hm (h _ (Fr.drew [] w) rfl hQ)

theorem h_start' (S : World → World → Prop) {id : Nat} {a : Act} (hm : P.follows .mixedOrders = true) (hQ : ∀ c a d v w, Q (.panic c) (a.put (some d) v) w → Q (.panic c) a w)
    (h : ∀ w', Fr [] w w' → (∀ c a d v w, Q (.panic c) (a.put (some d) v) w → Q (.panic c) a w) → wpAnyH P .any ops Q (S w') ops.size (Array.replicate ops.size false) a w') : (Code.region id ops true).wp P Q a w :=
  wp_region_held hm (h _ (Fr.drew [] w) hQ)

theorem h_take {i d : Nat} {oi : Oper} {v : Value} (hi : ops[i]? = some oi) (hs : Region.noSelect ops = true) (hf : Region.free .any ops listed i = true) (hr : (Region.ready .any ops listed).contains i = true)
    (hQ : ∀ c a d v w, Q (.panic c) (a.put (some d) v) w → Q (.panic c) a w) (hg : oi.guard = none) (hd : oi.dst = some d) (hv : ∀ w, S w → (execOp (ev n b s) oi).run P w = .ok (.value v) w) (hS : S w)
    (h : wpAnyH P .any ops Q S fuel (listed.setIfInBounds i true) (mk ds n b ((d, v) :: s)) w) : wpAnyH P .any ops Q S (fuel + 1) listed (mk ds n b s) w :=
  wpAnyH_take (v := v) hi hs hf hr (fun c a w => by rw [hd]; exact hQ c a _ _ w) (.inl ⟨by simp [Region.wanted, hg], fun w hw => by rw [mk_eval]; exact hv w hw⟩) hS (by rw [hd, mk_put]; exact h)

theorem h_takeg {i d : Nat} {oi : Oper} {v : Value} {W : Bool} (hi : ops[i]? = some oi) (hs : Region.noSelect ops = true) (hf : Region.free .any ops listed i = true) (hr : (Region.ready .any ops listed).contains i = true)
    (hQ : ∀ c a d v w, Q (.panic c) (a.put (some d) v) w → Q (.panic c) a w) (hw : want n b s ops oi W) (hd : oi.dst = some d) (hv : W = true → ∀ w, S w → (execOp (ev n b s) oi).run P w = .ok (.value v) w) (hS : S w)
    (h : wpAnyH P .any ops Q S fuel (listed.setIfInBounds i true) (mk ds n b ((d, gd W v) :: s)) w) : wpAnyH P .any ops Q S (fuel + 1) listed (mk ds n b s) w := by
  refine wpAnyH_take (v := gd W v) hi hs hf hr (fun c a w => by rw [hd]; exact hQ c a _ _ w) ?_ hS (by rw [hd, mk_put]; exact h)
  have hw : Region.wanted oi (yielded ops (mk ds n b s).tmps) = W := hw
  cases W with
  | true => exact .inl ⟨hw, fun w hw => by rw [mk_eval]; exact hv rfl w hw⟩
  | false => exact .inr ⟨hw, rfl⟩

/-- just one may come up -/
theorem h_one {i : Nat} {oi : Oper} {a : Act} (hr : Region.ready .any ops listed = [i]) (hi : ops[i]? = some oi) (hg : oi.guard = none)
    (h : oi.wp P a w (fun a' w' => S w' ∧ wpAnyH P .any ops Q S fuel (listed.setIfInBounds i true) a' w') Q) : wpAnyH P .any ops Q S (fuel + 1) listed a w :=
  wpAnyH_all hr (by simp) fun j hj => by
    obtain rfl : j = i := by simpa using hj
    unfold wpOp
    simp only [hi, Region.wanted, hg, if_true]
    exact .inl h

theorem h_val {i d : Nat} {oi : Oper} {v : Value} {w' : World} (hr : Region.ready .any ops listed = [i]) (hi : ops[i]? = some oi) (hg : oi.guard = none) (hd : oi.dst = some d)
    (hv : (execOp (ev n b s) oi).run P w = .ok (.value v) w') (hS : S w') (h : wpAnyH P .any ops Q S fuel (listed.setIfInBounds i true) (mk ds n b ((d, v) :: s)) w') : wpAnyH P .any ops Q S (fuel + 1) listed (mk ds n b s) w := by
  refine h_one hr hi hg ?_
  unfold Oper.wp
  rw [mk_eval, hv]
  exact ⟨hS, by rw [hd, mk_put]; exact h⟩
/-- two loads may come up, either way round -/
theorem h_two {i j di dj : Nat} {oi oj : Oper} {vi vj : Value} (hr : Region.ready .any ops listed = [i, j]) (hi : ops[i]? = some oi) (hgi : oi.guard = none) (hdi : oi.dst = some di) (hj : ops[j]? = some oj) (hgj : oj.guard = none) (hdj : oj.dst = some dj)
    (hvi : (execOp (ev n b s) oi).run P w = .ok (.value vi) w) (hvj : (execOp (ev n b s) oj).run P w = .ok (.value vj) w) (hS : S w)
    (h1 : wpAnyH P .any ops Q S fuel (listed.setIfInBounds i true) (mk ds n b ((di, vi) :: s)) w) (h2 : wpAnyH P .any ops Q S fuel (listed.setIfInBounds j true) (mk ds n b ((dj, vj) :: s)) w) : wpAnyH P .any ops Q S (fuel + 1) listed (mk ds n b s) w :=
  wpAnyH_all hr (by simp) fun k hk => by
    have hk2 : k = i ∨ k = j := by simpa using hk
    rcases hk2 with rfl | rfl
    · unfold wpOp
      simp only [hi, Region.wanted, hgi, if_true]
      refine .inl ?_
      unfold Oper.wp
      rw [mk_eval, hvi]
      exact ⟨hS, by rw [hdi, mk_put]; exact h1⟩
    · unfold wpOp
      simp only [hj, Region.wanted, hgj, if_true]
      refine .inl ?_
      unfold Oper.wp
      rw [mk_eval, hvj]
      exact ⟨hS, by rw [hdj, mk_put]; exact h2⟩
theorem h_skip {i : Nat} {oi : Oper} {w' : World} (hr : Region.ready .any ops listed = [i]) (hi : ops[i]? = some oi) (hg : oi.guard = none) (hd : oi.dst = none)
    (hv : (execOp (ev n b s) oi).run P w = .ok .skip w') (hS : S w') (h : wpAnyH P .any ops Q S fuel (listed.setIfInBounds i true) (mk ds n b s) w') : wpAnyH P .any ops Q S (fuel + 1) listed (mk ds n b s) w := by
  refine h_one hr hi hg ?_
  unfold Oper.wp
  rw [mk_eval, hv]
  exact ⟨hS, by rw [hd]; exact h⟩
theorem h_call {i d f : Nat} {oi : Oper} {args : Array Value} {R : Value → World → Prop} (hr : Region.ready .any ops listed = [i]) (hi : ops[i]? = some oi) (hg : oi.guard = none) (hd : oi.dst = some d)
    (hv : (execOp (ev n b s) oi).run P w = .ok (.enter f args) w) (hc : Does P f args w R)
    (h : ∀ v w', R v w' → S w' ∧ wpAnyH P .any ops Q S fuel (listed.setIfInBounds i true) (mk ds n b ((d, v) :: s)) w') : wpAnyH P .any ops Q S (fuel + 1) listed (mk ds n b s) w := by
  refine h_one hr hi hg ?_
  unfold Oper.wp
  rw [mk_eval, hv]
  exact hc.upon fun v w' hv => by rw [hd, mk_put]; exact h v w' hv
theorem h_new {i d : Nat} {oi : Oper} {ob : Obj} (f : Nat → Value) (hr : Region.ready .any ops listed = [i]) (hi : ops[i]? = some oi) (hg : oi.guard = none) (hd : oi.dst = some d)
    (hv : (execOp (ev n b s) oi).run P w = .ok (.value (f w.heap.size)) (w.alloc ob))
    (h : ∀ k w', New k ob w w' → S w' ∧ wpAnyH P .any ops Q S fuel (listed.setIfInBounds i true) (mk ds n b ((d, f k) :: s)) w') : wpAnyH P .any ops Q S (fuel + 1) listed (mk ds n b s) w :=
  have h' := h _ _ (New.of_alloc w ob)
  h_val hr hi hg hd hv h'.1 h'.2

end
/-! ### guards, picks -/
section
variable {P : Program} {Q : Exit → Act → World → Prop} {ds : List Deferred} {n : Nat} {b : Nat → Value} {s : List (Nat × Value)} {w : World} {ops : Array Oper} {rest : List Oper} {o : Oper}
theorem want_1 {j d : Nat} {want_ g : Bool} {oj : Oper} (hg : o.guard = some (j, want_)) (hj : ops[j]? = some oj) (hd : oj.dst = some d) (hv : ev n b s (.tmp d) = .bool g) : want n b s ops o (g == want_) := by
  have := want_of (W0 := true) hg hj hd hv
  simpa using this
theorem ea {a c : Bool} (h : (a && c) = true) : a = true := by cases a <;> simp_all
theorem r_pick {c x y : Operand} {e : Bool} {v : Value} (ho : o.op = .pick c x y) (hc : ev n b s c = .bool e) (h : (bif e then ev n b s x else ev n b s y) = v) : (execOp (ev n b s) o).run P w = .ok (.value v) w := by
  subst h
  cases e <;> simp [execOp, ho, hc, asBool]
theorem pick_or (e f : Bool) : (bif e then Value.bool true else gd (e == false) (.bool f)) = .bool (e || f) := by cases e <;> rfl
theorem pick_and (e f : Bool) : (bif e then gd (e == true) (.bool f) else Value.bool false) = .bool (e && f) := by cases e <;> rfl
theorem pick_or' {W : Bool} (h : W = true) (e f : Bool) : (bif e then Value.bool true else gd (W && (e == false)) (.bool f)) = .bool (e || f) := by subst h; cases e <;> rfl
theorem pick_and' {W : Bool} (h : W = true) (e f : Bool) : (bif e then gd (W && (e == true)) (.bool f) else Value.bool false) = .bool (e && f) := by subst h; cases e <;> rfl

/-! ### append to a row of the call's own -/
structure SlT (P : Program) (t e size bytes : Nat) : Prop where
  und : P.underlying t = some (.slice e)
  inf : ∃ i z, P.info? e = some i ∧ i.zero = some z ∧ i.size = size ∧ i.bytes = bytes ∧ z.cells.size = size
  pos : 0 < size

theorem sl_mk {t e size bytes : Nat} (hu : P.underlying t = some (.slice e)) (hi : (P.info? e).map (fun i => (i.size, i.bytes, i.zero.map (·.cells.size))) = some (size, bytes, some size)) (hp : Nat.blt 0 size = true) : SlT P t e size bytes := by
  cases hq : P.info? e with
  | none => simp [hq] at hi
  | some i =>
    simp only [hq, Option.map_some, Option.some.injEq, Prod.mk.injEq] at hi
    obtain ⟨h1, h2, h3⟩ := hi
    cases hz : i.zero with
    | none => simp [hz] at h3
    | some z => exact ⟨hu, ⟨i, z, hq, hz, h1, h2, by simpa [hz] using h3⟩, Nat.le_of_ble_eq_true hp⟩
theorem append_blk {t ty e : TypeId} {size bytes base k m c : Nat} {a : Addr} {v v' : Value} {w' : World} {xs news : List Value} {i : TypeInfo} {z : Value} (ht : P.underlying t = some (.slice e)) (hi : P.info? e = some i) (hz : i.zero = some z) (hsize : i.size = size) (hby : i.bytes = bytes)
    (hown : w.ownsRow base e size v k xs) (hl : news.length = m * size) (hnews : ∀ j u, news[j]? = some u → w.cell? (a.add j) = some u) (h1 : ∀ u ∈ news, u.oneCell' = true)
    (h63 : k + m ≤ maxLen) (hb : (k + m) * bytes ≤ 140737488355328) (hr : (Builtin.append_ #[t, t] ty #[v, .slice (some a) m c]).run P w = .ok v' w') :
    ∀ g, v'.ownBlock = some g → v.ownBlock = some g ∨ g = w.heap.size := by
  subst hsize; subst hby
  have h63n : k + m ≤ 9223372036854775807 := by simp only [maxLen] at h63; omega
  intro g hg
  rcases hown.2 with ⟨rfl, rfl⟩ | ⟨g0, cap, cur, rfl, hbg, hg0, hnc, hcm, hcs, htake⟩
  · by_cases hm : m = 0
    · subst hm
      have hn : news = [] := List.eq_nil_of_length_eq_zero (by simpa using hl)
      subst hn
      have : (Builtin.append_ #[t, t] ty #[.slice none 0 0, .slice (some a) 0 c]).run P w = .ok (.slice none 0 0) w := by
        simp [Builtin.append_, run_underlying ht, sizeOf, typeInfo, hi, Builtin.lenOf, Builtin.firstCells, loadCells, loadCellsFrom]
      rw [this] at hr
      cases hr
      simp [Value.ownBlock] at hg
    · have h2 := run_append_nil (P := P) w t ty e i z ht hi hz a m c news hl hnews (by omega) (by omega) (by have := hb; simp only [Nat.zero_add] at this; omega)
      rw [h2] at hr
      cases hr
      simp [Value.ownBlock] at hg
      exact .inr hg.symm
  · by_cases hroom : k + m ≤ cap
    · have hfit : k * i.size + news.length ≤ cur.size := by rw [hl, hcs, ← Nat.add_mul]; exact Nat.mul_le_mul_right _ hroom
      have h2 := run_append_room (P := P) w t ty e i ht hi g0 k cap cur hg0 a m c news hl hnews h1 hroom hfit
      rw [h2] at hr
      cases hr
      exact .inl hg
    · have holds : ∀ j u, xs[j]? = some u → w.cell? ((⟨g0, 0, none⟩ : Addr).add j) = some u := hown.cells (g := g0) rfl
      have h2 := run_append_grow (P := P) w t ty e i z ht hi hz ⟨g0, 0, none⟩ k cap xs hown.1 holds a m c news hl hnews (by omega) (by omega) (growslice_fits (by omega) hb)
      rw [h2] at hr
      cases hr
      simp [Value.ownBlock] at hg
      exact .inr hg.symm

/-- behind an append -/
structure App (base e size : Nat) (v v' : Value) (k : Nat) (xs : List Value) (w w' : World) : Prop where
  own : w'.ownsRow base e size v' k xs
  fr : Fr v.ownBlock.toList w w'
  blk : ∀ g, v'.ownBlock = some g → v.ownBlock = some g ∨ g = w.heap.size

theorem run_append {t ty e size bytes base m c k g off : Nat} {v : Value} {xs news : List Value} (T : SlT P t e size bytes) (hown : w.ownsRow base e size v k xs)
    (hl : news.length = m * size) (hnews : w.rangeAt g off news) (h1 : news.all (·.oneCell') = true)
    (h63 : k + m ≤ 68719476736) (hby : bytes ≤ 1024) (hbase : base ≤ w.heap.size) :
    ∃ v' w', (Builtin.append_ #[t, t] ty #[v, .slice (some ⟨g, off, none⟩) m c]).run P w = .ok v' w' ∧ App base e size v v' (k + m) (xs ++ news) w w' := by
  obtain ⟨hu, ⟨i, z, hi, hz, hs, hb, hzs⟩, hp⟩ := T
  have hn : ∀ j u, news[j]? = some u → w.cell? ((⟨g, off, none⟩ : Addr).add j) = some u := fun j u hj => by rw [Addr.add_mid]; exact hnews j u hj
  have h1' : ∀ u ∈ news, u.oneCell' = true := fun u hu => List.all_eq_true.1 h1 u hu
  have hm : k + m ≤ maxLen := by simp only [maxLen]; omega
  have hbb : (k + m) * bytes ≤ 140737488355328 := Nat.le_trans (Nat.mul_le_mul h63 hby) (by decide)
  obtain ⟨v', w', hr, h2, h3, _⟩ := run_append_own (P := P) w base t ty e i z size bytes hu hi hz hs hb hzs hp v k xs hown ⟨g, off, none⟩ m c news hl hn h1' hm hbb hbase
  exact ⟨v', w', hr, h2, Fr.of_grown h3, append_blk hu hi hz hs hb hown hl hn h1' hm hbb hr⟩

theorem r_append {x y : Operand} {t : TypeId} {v u r : Value} {w' : World} (ho : o.op = .call { callee := .builtin .append, args := #[x, y], argTypes := #[t, t] }) (hx : ev n b s x = v) (hy : ev n b s y = u)
    (hr : (Builtin.append_ #[t, t] o.type #[v, u]).run P w = .ok r w') : (execOp (ev n b s) o).run P w = .ok (.value r) w' := by
  simp only [execOp, ho, resolve, invoke, builtin, Sem.run_bind, Sem.run_pure, Result.andThen_ok, List.map_toArray, List.map_cons, List.map_nil, hx, hy, hr]

theorem l_append {t e size bytes base m c k g off d : Nat} {x y : Operand} {v : Value} {xs news : List Value} (T : SlT P t e size bytes) (hg : o.guard = none) (hd : o.dst = some d)
    (ho : o.op = .call { callee := .builtin .append, args := #[x, y], argTypes := #[t, t] }) (hx : ev n b s x = v) (hown : w.ownsRow base e size v k xs)
    (hy : ev n b s y = .slice (some ⟨g, off, none⟩) m c) (hl : news.length = m * size) (hnews : w.rangeAt g off news) (h1 : news.all (·.oneCell') = true)
    (h63 : k + m ≤ 68719476736) (hby : bytes ≤ 1024) (hbase : base ≤ w.heap.size)
    (h : ∀ v' w', App base e size v v' (k + m) (xs ++ news) w w' → wpList P ops Q rest (mk ds n b ((d, v') :: s)) w') : wpList P ops Q (o :: rest) (mk ds n b s) w := by
  obtain ⟨v', w', hr, ha⟩ := run_append (c := c) T hown hl hnews h1 h63 hby hbase
  exact l_val hg hd (r_append ho hx hy hr) (h v' w' ha)

theorem own_form {base e size k : Nat} {v : Value} {xs : List Value} (h : w.ownsRow base e size v k xs) : ∃ A c, v = .slice A k c ∧ k ≤ c ∧ (∀ a, A = some a → base ≤ a.block ∧ a.block < w.heap.size ∧ a.off = 0 ∧ a.spot = none) ∧ (A = none → k = 0) ∧ v.ownBlock = A.map (·.block) := by
  rcases h.2 with ⟨rfl, rfl⟩ | ⟨g, cap, cur, rfl, hb, hg, hn, _⟩
  · exact ⟨none, 0, rfl, Nat.le_refl _, by simp, by simp, rfl⟩
  · exact ⟨_, cap, rfl, hn, by rintro a ⟨⟩; exact ⟨hb, (Array.getElem?_eq_some_iff.1 hg).1, rfl, rfl⟩, by simp, rfl⟩
theorem own_fr {w' : World} {M : List Nat} {base e size k : Nat} {v : Value} {xs : List Value} (h : w.ownsRow base e size v k xs) (hf : Fr M w w') (hm : ∀ g, v.ownBlock = some g → g ∉ M) : w'.ownsRow base e size v k xs := by
  refine ⟨h.1, ?_⟩
  rcases h.2 with hn | ⟨g, cap, cur, rfl, hb, hg, rest⟩
  · exact .inl hn
  · exact .inr ⟨g, cap, cur, rfl, hb, hf.at hg (hm g rfl), rest⟩
theorem own_fr0 {w' : World} {base e size k : Nat} {v : Value} {xs : List Value} (h : w.ownsRow base e size v k xs) (hf : Fr [] w w') : w'.ownsRow base e size v k xs := own_fr h hf (by simp)
/-- a row just built is one's own -/
theorem own_new {w' : World} {base e size k cap g : Nat} {arr : Array Value} {xs : List Value} (h : New g (.cells arr e (0, 0)) w w') (hb : base ≤ w.heap.size) (hs : arr.size = cap * size) (hx : arr.toList.take (k * size) = xs) (hl : xs.length = k * size) (hk : k ≤ cap) (hc : cap ≤ 68719476736) :
    w'.ownsRow base e size (.slice (some ⟨g, 0, none⟩) k cap) k xs :=
  ⟨hl, .inr ⟨g, cap, arr, rfl, by rw [h.hk]; exact hb, h.at_, hk, by simp only [maxLen]; omega, hs, hx⟩⟩
theorem own_nil (w : World) (base e size : Nat) : w.ownsRow base e size (.slice none 0 0) 0 [] := World.ownsRow_nil w base e size
/-- what a row of one's own holds -/
theorem own_range {base e size k g : Nat} {v : Value} {xs : List Value} (h : w.ownsRow base e size v k xs) (hg : v.ownBlock = some g) : w.rangeAt g 0 xs := by
  intro j u hj
  have := h.cells hg j u hj
  rwa [Addr.add_mid] at this

/-- the function's frame, one step on -/
theorem Fr.step {w0 w' : World} {M : List Nat} (h : Fr [] w0 w) (hf : Fr M w w') (hm : ∀ k, k ∈ M → w0.heap.size ≤ k) : Fr [] w0 w' :=
  Fr.new (h.any.trans hf) hm
theorem Fr.stepM {w0 w' : World} {M0 M : List Nat} (h : Fr M0 w0 w) (hf : Fr M w w') (hm : ∀ k, k ∈ M → w0.heap.size ≤ k) : Fr M0 w0 w' := by
  have h2 : Fr (M0 ++ M) w0 w' := (h.mono fun k hk _ => List.mem_append_left _ hk).trans (hf.mono fun k hk _ => List.mem_append_right _ hk)
  exact h2.mono fun k hk hl => (List.mem_append.1 hk).elim id fun hk => absurd hl (by have := hm k hk; omega)
theorem own_ge {w0 : World} {base e size k : Nat} {v : Value} {xs : List Value} (h : w.ownsRow base e size v k xs) (hb : w0.heap.size ≤ base) : ∀ k, k ∈ v.ownBlock.toList → w0.heap.size ≤ k := by
  intro k hk
  have := (h.lt k (by simpa using hk)).1
  omega
end
section
variable {P : Program} {Q : Exit → Act → World → Prop} {ds : List Deferred} {n : Nat} {b : Nat → Value} {s : List (Nat × Value)} {w : World} {ops : Array Oper} {S : World → Prop} {fuel : Nat} {listed : Array Bool}
theorem h_append {t e size bytes base m c k g off d i : Nat} {oi : Oper} {x y : Operand} {v : Value} {xs news : List Value} (T : SlT P t e size bytes) (hr : Region.ready .any ops listed = [i]) (hi : ops[i]? = some oi) (hg : oi.guard = none) (hd : oi.dst = some d)
    (ho : oi.op = .call { callee := .builtin .append, args := #[x, y], argTypes := #[t, t] }) (hx : ev n b s x = v) (hown : w.ownsRow base e size v k xs)
    (hy : ev n b s y = .slice (some ⟨g, off, none⟩) m c) (hl : news.length = m * size) (hnews : w.rangeAt g off news) (h1 : news.all (·.oneCell') = true)
    (h63 : k + m ≤ 68719476736) (hby : bytes ≤ 1024) (hbase : base ≤ w.heap.size)
    (h : ∀ v' w', App base e size v v' (k + m) (xs ++ news) w w' → S w' ∧ wpAnyH P .any ops Q S fuel (listed.setIfInBounds i true) (mk ds n b ((d, v') :: s)) w') : wpAnyH P .any ops Q S (fuel + 1) listed (mk ds n b s) w := by
  obtain ⟨v', w', hrun, ha⟩ := run_append (c := c) T hown hl hnews h1 h63 hby hbase
  exact h_val hr hi hg hd (r_append ho hx hy hrun) (h v' w' ha).1 (h v' w' ha).2
end

section
variable {P : Program} {Q : Exit → Act → World → Prop} {ds : List Deferred} {n : Nat} {b : Nat → Value} {s : List (Nat × Value)} {w : World} {ops : Array Oper} {rest : List Oper} {o : Oper}
theorem r_mv {x : Operand} {v : Value} (ho : o.op = .move x) (hx : ev n b s x = v) : (execOp (ev n b s) o).run P w = .ok (.value v) w := by subst hx; simp [execOp, ho]
theorem r_as {x : Operand} {v : Value} (ho : o.op = .assign x) (hx : ev n b s x = v) : (execOp (ev n b s) o).run P w = .ok (.value v) w := by subst hx; simp [execOp, ho]
theorem r_nil {x : Operand} {a : Addr} (ho : o.op = .nilCheck x) (hx : ev n b s x = .pointer (some a)) : (execOp (ev n b s) o).run P w = .ok (.value (.pointer (some a))) w := by simp [execOp, ho, hx]
theorem r_ext {x : Operand} {i : Nat} {vs : Array Value} {v : Value} (ho : o.op = .extract x i) (hx : ev n b s x = .tuple vs) (hv : vs[i]? = some v) : (execOp (ev n b s) o).run P w = .ok (.value v) w := by
  simp [execOp, ho, hx, Instr.extract, hv]
theorem r_not {t : TypeId} {x : Operand} {e : Bool} (ho : o.op = .unOp .not t x) (hx : ev n b s x = .bool e) : (execOp (ev n b s) o).run P w = .ok (.value (.bool (!e))) w := by
  simp [execOp, ho, hx, Op.unary]
theorem r_field {t : TypeId} {x : Operand} {f g off off' : Nat} {fs : Array Field} {fd : Field} (ho : o.op = .fieldAddr t x f) (hx : ev n b s x = .pointer (some ⟨g, off, none⟩)) (hu : P.underlying t = some (.struct fs)) (hf : fs[f]? = some fd)
    (hz : (P.info? fd.type).map (fun i => Nat.beq i.size 0) = some false) (he : off + fd.offset = off') : (execOp (ev n b s) o).run P w = .ok (.value (.pointer (some ⟨g, off', none⟩))) w := by
  subst he
  cases hq : P.info? fd.type with
  | none => simp [hq] at hz
  | some q =>
    have hz' : q.size ≠ 0 := by
      intro h0
      simp [hq, h0] at hz
    have hadd : (⟨g, off, none⟩ : Addr).add fd.offset = ⟨g, off + fd.offset, none⟩ := Addr.add_mid ..
    simp [execOp, ho, hx, Instr.fieldAt, Instr.sureAddr, run_underlying hu, hf, fieldPlace, sizeOf, typeInfo, hq, hz', hadd]
theorem r_cmp {op : BinOp} {t u : TypeId} {x y : Operand} {k : IntKind} {i j : Int} {v : Value} (ho : o.op = .binOp op t x y u) (hx : ev n b s x = .int k i) (hy : ev n b s y = .int k j)
    (hv : (match op with | .eql => Value.bool (i == j) | .neq => .bool (i != j) | .lss => .bool (decide (i < j)) | .leq => .bool (decide (i ≤ j)) | .gtr => .bool (decide (i > j)) | .geq => .bool (decide (i ≥ j)) | _ => undef) = v) (hn : v ≠ undef := by simp [undef]) :
    (execOp (ev n b s) o).run P w = .ok (.value v) w := by
  subst hv
  cases op <;> first | (exfalso; exact hn rfl) | simp [execOp, ho, hx, hy, eqGuard, binOp, Op.intCmp]
theorem bytes_toList (l : List UInt8) : (⟨l.toArray⟩ : ByteArray).toList = l := by
  have h : ∀ (d i : Nat) (r : List UInt8), l.length - i = d → i ≤ l.length → ByteArray.toList.loop ⟨l.toArray⟩ i r = r.reverse ++ l.drop i := by
    intro d
    induction d with
    | zero =>
      intro i r h1 h2
      unfold ByteArray.toList.loop
      have : ¬ i < (⟨l.toArray⟩ : ByteArray).size := by show ¬ i < l.toArray.size; simp; omega
      rw [if_neg this, List.drop_eq_nil_of_le (by omega)]; simp
    | succ d ih =>
      intro i r h1 h2
      unfold ByteArray.toList.loop
      have hi : i < l.length := by omega
      have : i < (⟨l.toArray⟩ : ByteArray).size := by show i < l.toArray.size; simpa using hi
      rw [if_pos this, ih (i + 1) _ (by omega) (by omega)]
      have hg : (⟨l.toArray⟩ : ByteArray).get! i = l[i] := by show l.toArray[i]! = l[i]; simp [hi]
      rw [hg, List.drop_eq_getElem_cons hi]; simp
  have := h l.length 0 [] (by omega) (by omega)
  simpa [ByteArray.toList] using this
theorem r_str_eql {t u : TypeId} {x y : Operand} {l m : List UInt8} (ho : o.op = .binOp .eql t x y u) (hx : ev n b s x = .string ⟨l.toArray⟩) (hy : ev n b s y = .string ⟨m.toArray⟩) :
    (execOp (ev n b s) o).run P w = .ok (.value (.bool (decide (l = m)))) w := by
  have : (l == m) = decide (l = m) := by by_cases h : l = m <;> simp [h]
  simp [execOp, ho, hx, hy, eqGuard, binOp, Op.stringOp, this]
theorem r_str_neq {t u : TypeId} {x y : Operand} {l m : List UInt8} (ho : o.op = .binOp .neq t x y u) (hx : ev n b s x = .string ⟨l.toArray⟩) (hy : ev n b s y = .string ⟨m.toArray⟩) :
    (execOp (ev n b s) o).run P w = .ok (.value (.bool (!decide (l = m)))) w := by
  have : (l == m) = decide (l = m) := by by_cases h : l = m <;> simp [h]
  simp [execOp, ho, hx, hy, eqGuard, binOp, Op.stringOp, this]
theorem r_str_add {t u : TypeId} {x y : Operand} {l m : List UInt8} (ho : o.op = .binOp .add t x y u) (hx : ev n b s x = .string ⟨l.toArray⟩) (hy : ev n b s y = .string ⟨m.toArray⟩) (hl : l.length + m.length ≤ 68719476736) :
    (execOp (ev n b s) o).run P w = .ok (.value (.string ⟨(l ++ m).toArray⟩)) w := by
  have h1 : (⟨l.toArray⟩ : ByteArray).size = l.length := by show l.toArray.size = _; simp
  have h2 : (⟨m.toArray⟩ : ByteArray).size = m.length := by show m.toArray.size = _; simp
  have h3 : (⟨l.toArray⟩ : ByteArray) ++ ⟨m.toArray⟩ = ⟨(l ++ m).toArray⟩ := by
    apply ByteArray.ext
    simp [ByteArray.data_append]
  have h4 : ¬ ((((l.length + m.length : Nat)) : Int) > IntKind.i64.max) := by simp [IntKind.max, IntKind.signed, IntKind.bits]; omega
  simp only [execOp, ho, hx, hy, eqGuard, binOp, Op.stringOp, h1, h2, h3, h4]
  simp
theorem r_len {t : TypeId} {x : Operand} {A : Option Addr} {k c : Nat} {e : TypeId} (ho : o.op = .call { callee := .builtin .len, args := #[x], argTypes := #[t] }) (hx : ev n b s x = .slice A k c) (hu : P.underlying t = some (.slice e)) :
    (execOp (ev n b s) o).run P w = .ok (.value (.int .i64 (k : Int))) w := by
  simp [execOp, ho, resolve, invoke, builtin, hx, Builtin.len_, run_underlying hu, goInt]
theorem r_lens {t : TypeId} {x : Operand} {l : List UInt8} (ho : o.op = .call { callee := .builtin .len, args := #[x], argTypes := #[t] }) (hx : ev n b s x = .string ⟨l.toArray⟩) (hu : P.underlying t = some .string) :
    (execOp (ev n b s) o).run P w = .ok (.value (.int .i64 (l.length : Int))) w := by
  have h1 : (⟨l.toArray⟩ : ByteArray).size = l.length := by show l.toArray.size = _; simp
  simp [execOp, ho, resolve, invoke, builtin, hx, Builtin.len_, run_underlying hu, goInt, h1]
theorem r_conv_str {t u : TypeId} {x : Operand} {v : Value} {l : List UInt8} (ho : o.op = .convert t u x) (hx : ev n b s x = v) (h : (convert t u v).run P w = .ok (.string ⟨l.toArray⟩) w) :
    (execOp (ev n b s) o).run P w = .ok (.value (.string ⟨l.toArray⟩)) w := by
  simp [execOp, ho, hx, h]

/-- a byte of a constant text -/
theorem r_idxs {t : TypeId} {y z : Operand} {l : List UInt8} {k : IntKind} {j : Nat} {x : UInt8} (ho : o.op = .index t y z) (hy : ev n b s y = .string ⟨l.toArray⟩) (hz : ev n b s z = .int k (j : Int)) (hu : P.underlying t = some .string) (hx : l[j]? = some x) :
    (execOp (ev n b s) o).run P w = .ok (.value (.int .u8 (x.toNat : Int))) w := by
  have h1 : (⟨l.toArray⟩ : ByteArray)[j]? = some x := by
    obtain ⟨hj, hx'⟩ := List.getElem?_eq_some_iff.1 hx
    have hs : j < (⟨l.toArray⟩ : ByteArray).size := by show j < l.toArray.size; simpa using hj
    have h2 := getElem?_pos (⟨l.toArray⟩ : ByteArray) j hs
    rw [h2]
    have h3 : (⟨l.toArray⟩ : ByteArray)[j] = l.toArray[j]'(by simpa using hj) := rfl
    rw [h3]
    simp [hx']
  simp [execOp, ho, hy, hz, Instr.index, asIntOf, run_underlying hu, h1]
/-- the halves of a byte -/
theorem nib_shr {t u : TypeId} {x y : Operand} {k : IntKind} {j : Nat} (ho : o.op = .binOp .shr t x y u) (hx : ev n b s x = .int .u8 (j : Int)) (hy : ev n b s y = .int k 4) (hj : j < 256) : (execOp (ev n b s) o).run P w = .ok (.value (.int .u8 ((j / 16 : Nat) : Int))) w := by
  have : Int.fdiv (j : Int) 16 = ((j / 16 : Nat) : Int) := by rw [Int.fdiv_eq_ediv_of_nonneg _ (by omega)]; omega
  simp [execOp, ho, hx, hy, eqGuard, binOp, Op.shift, IntKind.bits, this]
theorem and15 {j : Nat} (hj : j < 256) : IntKind.u8.wrap ((BitVec.ofInt 8 (j : Int) &&& BitVec.ofInt 8 15).toNat : Int) = ((j % 16 : Nat) : Int) := by
  have h1 : (BitVec.ofInt 8 (j : Int) &&& BitVec.ofInt 8 15).toNat = j % 16 := by
    rw [BitVec.toNat_and, BitVec.ofInt_natCast, BitVec.toNat_ofNat]
    have h2 : (BitVec.ofInt 8 15).toNat = 2 ^ 4 - 1 := rfl
    rw [h2, Nat.and_two_pow_sub_one_eq_mod]
    omega
  rw [h1]
  have hm : j % 16 < 16 := Nat.mod_lt _ (by decide)
  have h0 : IntKind.u8.min = 0 := rfl
  have h5 : IntKind.u8.max = 255 := rfl
  exact wrap_in (by rw [h0]; omega) (by rw [h5]; omega)
theorem nib_and {t u : TypeId} {x y : Operand} {j : Nat} (ho : o.op = .binOp .and t x y u) (hx : ev n b s x = .int .u8 (j : Int)) (hy : ev n b s y = .int .u8 15) (hj : j < 256) : (execOp (ev n b s) o).run P w = .ok (.value (.int .u8 ((j % 16 : Nat) : Int))) w := by
  simp only [execOp, ho, hx, hy, eqGuard, binOp, Op.intBits]
  have := and15 hj
  show Result.ok (Next.value (.int .u8 (IntKind.u8.wrap ((BitVec.ofInt 8 (j : Int) &&& BitVec.ofInt 8 15).toNat : Int)))) w = _
  rw [this]

theorem min_i64 : IntKind.i64.min = -9223372036854775808 := by decide
theorem max_i64 : IntKind.i64.max = 9223372036854775807 := by decide
theorem min_u8 : IntKind.u8.min = 0 := by decide
theorem max_u8 : IntKind.u8.max = 255 := by decide
theorem min_u16 : IntKind.u16.min = 0 := by decide
theorem max_u16 : IntKind.u16.max = 65535 := by decide
theorem min_u32 : IntKind.u32.min = 0 := by decide
theorem max_u32 : IntKind.u32.max = 4294967295 := by decide
theorem min_u64 : IntKind.u64.min = 0 := by decide
theorem max_u64 : IntKind.u64.max = 18446744073709551615 := by decide
theorem min_i32 : IntKind.i32.min = -2147483648 := by decide
theorem max_i32 : IntKind.i32.max = 2147483647 := by decide

/-! results that lie in boxes -/
def Rv (P : Program) (n : Nat) (b : Nat → Value) (s : List (Nat × Value)) (w : World) : ResultVar → Value → Prop
  | .tmp t, v => (mk [] n b s).tmps.getD t undef = v
  | .cell a t, v => (asAddr ((mk [] n b s).tmps.getD a undef) >>= loadVar t : Sem Value).run P w = .ok v w
theorem rv_tmp {t : Nat} {v : Value} (hv : ev n b s (.tmp t) = v) : Rv P n b s w (.tmp t) v := (mk_getD (ds := []) (n := n) (b := b) (s := s) t).trans hv
theorem rv_cell {t : TypeId} {a : Nat} {p : Addr} {v : Value} {d : TypeDesc} (ha : ev n b s (.tmp a) = .pointer (some p)) (hu : P.underlying t = some d) (hd : d.isRow = false) (hc : w.cell? p = some v) : Rv P n b s w (.cell a t) v := by
  have h := (mk_getD (ds := []) (n := n) (b := b) (s := s) a).trans ha
  have hagg : (isAgg t).run P w = .ok false w := by
    unfold isAgg
    rw [Sem.run_bind, run_underlying hu w]
    cases d <;> simp_all
  show (asAddr _ >>= loadVar t : Sem Value).run P w = _
  rw [h]
  simp [asAddr, loadVar, Sem.run_bind, hagg, hc]
theorem rv_row {t : TypeId} {a g off : Nat} {cs : List Value} {d : TypeDesc} (ha : ev n b s (.tmp a) = .pointer (some ⟨g, off, none⟩)) (hu : P.underlying t = some d) (hd : d.isRow = true)
    (hi : (P.info? t).map (·.size) = some cs.length) (hc : w.rangeAt g off cs) : Rv P n b s w (.cell a t) (.agg cs.toArray) := by
  have h := (mk_getD (ds := []) (n := n) (b := b) (s := s) a).trans ha
  have := run_loadVar_mid w g off t cs d hc hu hd hi
  show (asAddr _ >>= loadVar t : Sem Value).run P w = _
  rw [h]
  simp [asAddr, this]
theorem rv_go {r : ResultVar} {v : Value} (h : Rv P n b s w r v) (f : ResultVar → Sem Value) (h1 : ∀ t, f (.tmp t) = pure ((mk [] n b s).tmps.getD t undef)) (h2 : ∀ a t, f (.cell a t) = (asAddr ((mk [] n b s).tmps.getD a undef) >>= loadVar t)) : (f r).run P w = .ok v w := by
  cases r with
  | tmp t => have h : (mk [] n b s).tmps.getD t undef = v := h; rw [h1, Sem.run_pure, h]
  | cell a t => rw [h2]; exact h
theorem resn1 {fn : Func} {r0 : ResultVar} {v0 : Value} (h : fn.results = #[r0]) (h0 : Rv P n b s w r0 v0) : (results fn (mk ds n b s).tmps).run P w = .ok (v0) w := by
  have key : ∀ f : ResultVar → Sem Value, (∀ t, f (.tmp t) = pure ((mk [] n b s).tmps.getD t undef)) → (∀ a t, f (.cell a t) = (asAddr ((mk [] n b s).tmps.getD a undef) >>= loadVar t)) →
      ((#[r0].mapM f : Sem (Array Value)) >>= fun vs => pure (if h : vs.size = 1 then vs[0] else .tuple vs) : Sem Value).run P w = .ok (v0) w := by
    intro f hf1 hf2
    have g0 := rv_go h0 f hf1 hf2
    simp only [List.mapM_toArray, List.mapM_cons, List.mapM_nil, Sem.run_bind, Sem.run_map, g0, Result.andThen_ok, Sem.run_pure]
    rfl
  unfold results
  rw [h]
  exact key _ (fun _ => rfl) (fun _ _ => rfl)
theorem resn2 {fn : Func} {r0 r1 : ResultVar} {v0 v1 : Value} (h : fn.results = #[r0, r1]) (h0 : Rv P n b s w r0 v0) (h1 : Rv P n b s w r1 v1) : (results fn (mk ds n b s).tmps).run P w = .ok (.tuple #[v0, v1]) w := by
  have key : ∀ f : ResultVar → Sem Value, (∀ t, f (.tmp t) = pure ((mk [] n b s).tmps.getD t undef)) → (∀ a t, f (.cell a t) = (asAddr ((mk [] n b s).tmps.getD a undef) >>= loadVar t)) →
      ((#[r0, r1].mapM f : Sem (Array Value)) >>= fun vs => pure (if h : vs.size = 1 then vs[0] else .tuple vs) : Sem Value).run P w = .ok (.tuple #[v0, v1]) w := by
    intro f hf1 hf2
    have g0 := rv_go h0 f hf1 hf2
    have g1 := rv_go h1 f hf1 hf2
    simp only [List.mapM_toArray, List.mapM_cons, List.mapM_nil, Sem.run_bind, Sem.run_map, g0, g1, Result.andThen_ok, Sem.run_pure]
    rfl
  unfold results
  rw [h]
  exact key _ (fun _ => rfl) (fun _ _ => rfl)
theorem resn3 {fn : Func} {r0 r1 r2 : ResultVar} {v0 v1 v2 : Value} (h : fn.results = #[r0, r1, r2]) (h0 : Rv P n b s w r0 v0) (h1 : Rv P n b s w r1 v1) (h2 : Rv P n b s w r2 v2) : (results fn (mk ds n b s).tmps).run P w = .ok (.tuple #[v0, v1, v2]) w := by
  have key : ∀ f : ResultVar → Sem Value, (∀ t, f (.tmp t) = pure ((mk [] n b s).tmps.getD t undef)) → (∀ a t, f (.cell a t) = (asAddr ((mk [] n b s).tmps.getD a undef) >>= loadVar t)) →
      ((#[r0, r1, r2].mapM f : Sem (Array Value)) >>= fun vs => pure (if h : vs.size = 1 then vs[0] else .tuple vs) : Sem Value).run P w = .ok (.tuple #[v0, v1, v2]) w := by
    intro f hf1 hf2
    have g0 := rv_go h0 f hf1 hf2
    have g1 := rv_go h1 f hf1 hf2
    have g2 := rv_go h2 f hf1 hf2
    simp only [List.mapM_toArray, List.mapM_cons, List.mapM_nil, Sem.run_bind, Sem.run_map, g0, g1, g2, Result.andThen_ok, Sem.run_pure]
    rfl
  unfold results
  rw [h]
  exact key _ (fun _ => rfl) (fun _ _ => rfl)
theorem resn4 {fn : Func} {r0 r1 r2 r3 : ResultVar} {v0 v1 v2 v3 : Value} (h : fn.results = #[r0, r1, r2, r3]) (h0 : Rv P n b s w r0 v0) (h1 : Rv P n b s w r1 v1) (h2 : Rv P n b s w r2 v2) (h3 : Rv P n b s w r3 v3) : (results fn (mk ds n b s).tmps).run P w = .ok (.tuple #[v0, v1, v2, v3]) w := by
  have key : ∀ f : ResultVar → Sem Value, (∀ t, f (.tmp t) = pure ((mk [] n b s).tmps.getD t undef)) → (∀ a t, f (.cell a t) = (asAddr ((mk [] n b s).tmps.getD a undef) >>= loadVar t)) →
      ((#[r0, r1, r2, r3].mapM f : Sem (Array Value)) >>= fun vs => pure (if h : vs.size = 1 then vs[0] else .tuple vs) : Sem Value).run P w = .ok (.tuple #[v0, v1, v2, v3]) w := by
    intro f hf1 hf2
    have g0 := rv_go h0 f hf1 hf2
    have g1 := rv_go h1 f hf1 hf2
    have g2 := rv_go h2 f hf1 hf2
    have g3 := rv_go h3 f hf1 hf2
    simp only [List.mapM_toArray, List.mapM_cons, List.mapM_nil, Sem.run_bind, Sem.run_map, g0, g1, g2, g3, Result.andThen_ok, Sem.run_pure]
    rfl
  unfold results
  rw [h]
  exact key _ (fun _ => rfl) (fun _ _ => rfl)
theorem own_not {base e size k g : Nat} {v : Value} {xs : List Value} (h : w.ownsRow base e size v k xs) (hb : g < base) : g ∉ v.ownBlock.toList := by
  intro hg
  have := (h.lt g (by simpa using hg)).1
  omega
variable {S : World → Prop} {fuel : Nat} {listed : Array Bool}
theorem h_store {i : Nat} {oi : Oper} {t : TypeId} {x y : Operand} {g off : Nat} {v : Value} {cur arr : Array Value} {e : TypeId} (hr : Region.ready .any ops listed = [i]) (hio : ops[i]? = some oi) (hg : oi.guard = none) (hd : oi.dst = none) (ho : oi.op = .store t x y)
    (hx : ev n b s x = .pointer (some ⟨g, off, none⟩)) (hy : ev n b s y = v) (hi : (P.info? t).map (·.size) = some v.cells.size) (hb : w.heap[g]? = some (.cells cur e (0, 0)))
    (hfit : Nat.ble (off + v.cells.size) cur.size = true) (h1 : v.cells.toList.all (·.oneCell') = true) (ha : (cur.toList.take off ++ v.cells.toList ++ cur.toList.drop (off + v.cells.size)).toArray = arr)
    (h : ∀ w', Put g (.cells arr e (0, 0)) w w' → S w' ∧ wpAnyH P .any ops Q S fuel (listed.setIfInBounds i true) (mk [] n b s) w') : wpAnyH P .any ops Q S (fuel + 1) listed (mk [] n b s) w := by
  subst ha
  have hst := run_storeCells_at P g off e v.cells.toList 0 cur w hb (by simpa using hfit) (fun u hu => List.all_eq_true.1 h1 u hu)
  simp only [Nat.add_zero, Array.length_toList] at hst
  have h' := h _ (Put.setRow (cs := (cur.toList.take off ++ v.cells.toList ++ cur.toList.drop (off + v.cells.size)).toArray) hb)
  refine h_skip hr hio hg hd ?_ h'.1 h'.2
  cases hq : P.info? t with
  | none => simp [hq] at hi
  | some i =>
    have hs : i.size = v.cells.size := by simpa [hq] using hi
    simp [execOp, ho, hx, hy, Instr.storeAt, Instr.sureAddr, storeVar, sizeOf, typeInfo, hq, hs, hst]
end
end Go.E
