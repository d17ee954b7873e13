/- A range over a function: rounds, by the laws of the engine. Over any program. -/
import Derived.Test.YtmhljojgdfmjaaaGreatDoorRep
import Derived.RangeFuncNested
import Derived.RangeFuncBound
import Derived.RangeFuncCalls
import Derived.RangeFuncLeaves
import Derived.OrdersIn
import Derived.TacticsIn
namespace Go.E
open Go
set_option linter.unusedVariables false
/-- the fences that bar nothing -/
def Lone (F : Fence) : Prop := F = Fence.wide ∨ ∃ l, F = Fence.wide.inRound l
theorem Lone.fn {F : Fence} (h : Lone F) (f : FuncId) : F.fn f := by rcases h with rfl | ⟨l, rfl⟩ <;> trivial
theorem Lone.deep {F : Fence} (h : Lone F) : F.depth = none := by rcases h with rfl | ⟨l, rfl⟩ <;> rfl
theorem Lone.calls {F : Fence} (h : Lone F) {P : Program} {n : Nat} {f : FuncId} {args : Array Value} {w : World} {R : Ending → World → Prop} (hc : Calls P f args w R) : CallsIn F n P f args w R := by
  rcases h with rfl | ⟨l, rfl⟩
  · exact callsIn_wide.2 hc
  · exact CallsIn.inRound l (callsIn_wide.2 hc)
theorem Lone.rows {F : Fence} (h : Lone F) {P : Program} {n : Nat} {f : String} {args : Array Value} {w : World} {R : Value → World → Prop} (hc : Rows P f args w R) : RowsIn F n P f args w R := by
  have h0 : RowsIn Fence.wide n P f args w R := fun c cs _ => let ⟨v, w', r, s⟩ := hc c cs; ⟨v, w', r, stepsIn_wide.2 s⟩
  rcases h with rfl | ⟨l, rfl⟩
  · exact h0
  · exact h0
def plainOp (o : Oper) : Bool := match o.op with | .defer _ => false | _ => true
section
variable {F : Fence} {m : Nat} {P : Program} {ops : Array Oper} {Q : Exit → Act → World → Prop} {a : Act} {w : World} {rest : List Oper} {o : Oper} {S : World → Prop}
theorem sem_in (hp : plainOp o = true) (ro : Option Nat) (ρ : Operand → Value) : o.semAt ro ρ = execOp ρ o := by
  cases ro with
  | none => rfl
  | some l =>
    apply Oper.semAt_some
    intro c hc
    simp [plainOp, hc] at hp
theorem op_in (hF : Lone F) (hp : plainOp o = true) {K : Act → World → Prop} (h : o.wp P a w K Q) : o.wpIn F m P a w K Q := by
  refine ⟨fun f _ => hF.fn f, ?_⟩
  rw [sem_in hp]
  unfold Oper.wp at h
  generalize (execOp a.eval o).run P w = r at h ⊢
  cases r with
  | ok x w' =>
    cases x <;> first
      | exact h
      | exact h.elim
      | exact ⟨fun hd => (by rw [hF.deep] at hd; cases hd), hF.calls (Calls.mono h fun e w'' he => by cases e <;> exact he)⟩
      | exact ⟨fun hd => (by rw [hF.deep] at hd; cases hd), hF.rows h⟩
  | halt x w' => cases x <;> first | exact h | exact h.elim
theorem list_in (hF : Lone F) (hno : ∀ a w, ¬ Q .outgrown a w) : ∀ (l : List Oper) (a : Act) (w : World), l.all plainOp = true → wpList P ops Q l a w → wpListIn F m P ops Q l a w
  | [], _, _, _, h => h
  | o :: r, a, w, hp, h => by
    simp only [List.all_cons, Bool.and_eq_true] at hp
    simp only [wpList] at h
    simp only [wpListIn]
    split
    · rename_i hw
      simp only [hw, if_true] at h
      rcases h with h | ⟨_, a0, w0, h⟩
      · exact Oper.wpIn_mono (fun a' w' h' => list_in hF hno r a' w' hp.2 h') (op_in hF hp.1 h)
      · exact absurd h (hno _ _)
    · rename_i hw
      simp only [hw] at h
      exact ⟨fun f _ => hF.fn f, list_in hF hno r _ _ hp.2 h⟩
theorem any_in (hF : Lone F) (hno : ∀ a w, ¬ Q .outgrown a w) (hp : ops.toList.all plainOp = true) : ∀ (fuel : Nat) (listed : Array Bool) (a : Act) (w : World), wpAny P .any ops Q fuel listed a w → wpAnyIn F m P .any ops Q fuel listed a w
  | 0, _, _, _, h => h
  | fuel + 1, listed, a, w, h => by
    refine ⟨h.1, fun i hi => ?_⟩
    have h2 := h.2 i hi
    unfold wpOp at h2
    unfold wpOpIn
    cases ho : ops[i]? with
    | none => simp only [ho] at h2; exact any_in hF hno hp fuel _ a w h2
    | some o =>
      simp only [ho] at h2
      have hpo : plainOp o = true := List.all_eq_true.1 hp o (Array.mem_toList_iff.2 (Array.mem_of_getElem? ho))
      show if Region.wanted o (yielded ops a.tmps) then _ else _
      split
      · rename_i hw
        simp only [hw, if_true] at h2
        rcases h2 with h2 | ⟨_, a0, w0, h2⟩
        · exact Oper.wpIn_mono (fun a' w' h' => any_in hF hno hp fuel _ a' w' h') (op_in hF hpo h2)
        · exact absurd h2 (hno _ _)
      · rename_i hw
        simp only [hw] at h2
        exact ⟨fun f _ => hF.fn f, any_in hF hno hp fuel _ _ w h2⟩
/-- a region's beginning -/
theorem rI_start {id : Nat} {l : List Oper} (hF : Lone F) (hno : ∀ a w, ¬ Q .outgrown a w) (hp : l.all plainOp = true) (h : wpList P l.toArray Q l a w) : (Code.region id l.toArray false).wpIn F m P Q a w :=
  wpIn_region_lit (list_in hF hno l a w hp h)
theorem hI_start' (S : World → World → Prop) {id : Nat} (hF : Lone F) (hno : ∀ a w, ¬ Q .outgrown a w) (hp : ops.toList.all plainOp = true) (hm : P.follows .mixedOrders = true) (hQ : ∀ c a d v w, Q (.panic c) (a.put (some d) v) w → Q (.panic c) a w)
    (h : ∀ w', Fr [] w w' → (∀ c a d v w, Q (.panic c) (a.put (some d) v) w → Q (.panic c) a w) → wpAnyH P .any ops Q (S w') ops.size (Array.replicate ops.size false) a w') : (Code.region id ops true).wpIn F m P Q a w :=
  wpIn_region_any hm (any_in hF hno hp _ _ _ _ (wpAny_of_held _ _ _ _ (h _ (Fr.drew [] w) hQ)))
theorem hI_start (S : World → Prop) {id : Nat} (hF : Lone F) (hno : ∀ a w, ¬ Q .outgrown a w) (hp : ops.toList.all plainOp = true) (hm : P.follows .mixedOrders = true) (hQ : ∀ c a d v w, Q (.panic c) (a.put (some d) v) w → Q (.panic c) a w)
    (h : ∀ w', Fr [] w w' → w'.heap = w.heap → (∀ c a d v w, Q (.panic c) (a.put (some d) v) w → Q (.panic c) a w) → wpAnyH P .any ops Q S ops.size (Array.replicate ops.size false) a w') : (Code.region id ops true).wpIn F m P Q a w :=
  wpIn_region_any hm (any_in hF hno hp _ _ _ _ (wpAny_of_held _ _ _ _ (h _ (Fr.drew [] w) rfl hQ)))
variable {ds : List Deferred} {n : Nat} {b : Nat → Value} {s : List (Nat × Value)}
theorem cI_cond {c : Operand} {x y : Code} {e : Bool} (hc : ev n b s c = .bool e) (ht : e = true → x.wpIn F m P Q (mk ds n b s) w) (hf : e = false → y.wpIn F m P Q (mk ds n b s) w) :
    (Code.cond c x y).wpIn F m P Q (mk ds n b s) w := wpIn_cond_split (by rw [mk_eval]; exact hc) ht hf
theorem cI_condT {c : Operand} {x y : Code} {e : Bool} (hc : ev n b s c = .bool e) (he : e = true) (ht : x.wpIn F m P Q (mk ds n b s) w) : (Code.cond c x y).wpIn F m P Q (mk ds n b s) w :=
  wpIn_cond_true (by rw [mk_eval, hc, he]) ht
theorem cI_condF {c : Operand} {x y : Code} {e : Bool} (hc : ev n b s c = .bool e) (he : e = false) (ht : y.wpIn F m P Q (mk ds n b s) w) : (Code.cond c x y).wpIn F m P Q (mk ds n b s) w :=
  wpIn_cond_false (by rw [mk_eval, hc, he]) ht
theorem cI_cut {x y : Code} (R : Act → World → Prop) {a : Act} (h : x.wpIn F m P (Exit.then R Q) a w) (k : ∀ a₁ w₁, R a₁ w₁ → y.wpIn F m P Q a₁ w₁) : (Code.seq x y).wpIn F m P Q a w :=
  wpIn_seq (wpIn_mono h fun e a' w' q => by cases e <;> first | exact k _ _ q | exact q)

/-! ### an iterator's call of yield -/
theorem y_start {id : Nat} {l : List Oper} (h : wpListIn Fence.wide 1 P l.toArray Q l a w) : (Code.region id l.toArray false).wp P Q a w := wpIn_wide.1 (wpIn_region_lit h)
theorem lY_nil (h : Q .normal a w) : wpListIn F m P ops Q [] a w := h
theorem lY_v {d : Nat} {v : Value} (hF : Lone F) (hg : o.guard = none) (hp : plainOp o = true) (hd : o.dst = some d) (hr : (execOp (ev n b s) o).run P w = .ok (.value v) w)
    (h : wpListIn F m P ops Q rest (mk ds n b ((d, v) :: s)) w) : wpListIn F m P ops Q (o :: rest) (mk ds n b s) w := by
  refine wpListIn_plain hg fun K hK => ⟨fun f _ => hF.fn f, ?_⟩
  rw [sem_in hp, mk_eval, hr]
  show K _ _
  rw [hd, mk_put]
  exact hK _ _ h
theorem lY_yield {d l t : Nat} {as : Array Operand} {ts : Array TypeId} {args : Array Value} {R : Ending → World → Prop} (hF : Lone F) (hg : o.guard = none) (hd : o.dst = some d) (ho : o.op = .call { callee := .value (.tmp t), args := as, argTypes := ts })
    (hf : ev n b s (.tmp t) = .func (.yield l) #[] #[]) (ha : as.map (ev n b s) = args) (hy : YieldAt F (m - 1) P l args w R)
    (h : ∀ e w', R e w' → ∃ v, e = .returned v ∧ wpListIn F m P ops Q rest (mk ds n b ((d, v) :: s)) w') : wpListIn F m P ops Q (o :: rest) (mk ds n b s) w := by
  refine wpListIn_plain hg fun K hK => ⟨fun f _ => hF.fn f, ?_⟩
  have hp : plainOp o = true := by simp [plainOp, ho]
  rw [sem_in hp, mk_eval]
  obtain ⟨fn, tmps, assign, body, hy1, hy2⟩ := hy
  have hrun : (execOp (ev n b s) o).run P w = .ok (.round l fn tmps assign body) w := by
    simp [execOp, ho, resolve, Deferred.ofValue, hf, invoke, ha, hy1]
  rw [hrun]
  refine ⟨fun hx => (by rw [hF.deep] at hx; cases hx), RoundIn.mono hy2 fun e w' he => ?_⟩
  obtain ⟨v, rfl, hk⟩ := h e w' he
  show K _ _
  rw [hd, mk_put]
  exact hK _ _ hk
end

/-! ### the statement -/
section
variable {P : Program} {Q : Exit → Act → World → Prop} {n : Nat} {b : Nat → Value} {s : List (Nat × Value)} {w : World}
/-- two blocks lie as they lay -/
def Kept (D : Nat) (W W' : World) : Prop := W'.heap[D]? = W.heap[D]? ∧ W'.heap[D + 1]? = W.heap[D + 1]?
theorem Kept.refl (D : Nat) (W : World) : Kept D W W := ⟨rfl, rfl⟩
theorem Kept.trans {D : Nat} {A B C : World} (h : Kept D A B) (k : Kept D B C) : Kept D A C := ⟨k.1.trans h.1, k.2.trans h.2⟩
theorem Fr.kept {M : List Nat} {D : Nat} {W W' : World} (h : Fr M W W') (hl : D + 1 < W.heap.size) (h1 : D ∉ M) (h2 : D + 1 ∉ M) : Kept D W W' := ⟨h.block D (by omega) h1, h.block (D + 1) hl h2⟩
theorem Fr.putObj (W : World) (k : Nat) (o : Obj) (M : List Nat) (hk : k ∈ M) : Fr M W (W.putObj k o) :=
  ⟨rfl, rfl, rfl, by simp, fun i _ hm => World.putObj_heap_other (fun e => hm (e ▸ hk))⟩
/-- what an iterator owes, at a world where D, D + 1 are the loop's two blocks: I, a thing between two rounds; Next: what a round is handed; Fin: all has come -/
def Gives {σ α : Type} (P : Program) (gf : FuncId) (lb : Array Value) (enc : α → Value) (D : Nat) (I : σ → World → Prop) (Next : σ → α → σ → Prop) (Fin : σ → Prop) (s0 : σ) (w : World) : Prop :=
  ∀ (Rec : World → Prop) (X : World → Prop), (∀ W W', Rec W → Kept D W W' → Rec W') →
    (∀ s x s' W, I s W → Rec W → Next s x s' → YieldAt Fence.wide 0 P (D + 1) #[enc x] W fun e W' => (e = .returned (.bool true) ∧ I s' W' ∧ Rec W') ∨ (e = .returned (.bool false) ∧ X W')) →
    Rec w → I s0 w → Calls P gf (#[.func (.yield (D + 1)) #[] #[]] ++ lb) w fun e W' => (∃ v, e = .returned v) ∧ ((∃ s', I s' W' ∧ Fin s' ∧ Rec W') ∨ X W')
/-- how a round's body may be left -/
def outR (Y : World → Prop) (X : World → Prop) : Exit → Act → World → Prop
  | .normal, _, W => Y W
  | .ret, _, W => X W
  | _, _, _ => False
theorem outR_n {Y X : World → Prop} {a : Act} {w : World} (h : Y w) : outR Y X .normal a w := h
theorem outR_t {Y X : World → Prop} {a : Act} {w : World} (h : X w) : outR Y X .ret a w := h
theorem wp_range {σ α : Type} {g : Operand} {p : Tmp} {assign body : Code} {gf : FuncId} {lb : Array Value} {enc : α → Value} (I : σ → World → Prop) (X : World → Prop) (Next : σ → α → σ → Prop) (Fin : σ → Prop) (s0 : σ)
    (hg : ev n b s g = .func (.func gf) #[] lb) (eg : Enters P gf) (hI : ∀ s W W', I s W → Fr [w.heap.size, w.heap.size + 1] W W' → I s W') (hX : ∀ W W', X W → Fr [w.heap.size, w.heap.size + 1] W W' → X W')
    (h0 : ∀ w1, Fr [] w w1 → w1.heap.size = w.heap.size + 2 → I s0 w1 ∧ Gives P gf lb enc w.heap.size I Next Fin s0 w1)
    (hround : ∀ s1 x s2 W, I s1 W → Next s1 x s2 → w.heap.size + 1 < W.heap.size → assign.wpIn (Fence.wide.inRound (w.heap.size + 1)) 0 P (Exit.then (fun a1 w1 => I s1 w1 ∧ Kept w.heap.size W w1 ∧
        ∀ W2, I s1 W2 → w.heap.size + 1 < W2.heap.size → body.wpIn (Fence.wide.inRound (w.heap.size + 1)) 0 P (outR (fun W' => I s2 W' ∧ Kept w.heap.size W2 W') (fun W' => X W' ∧ Kept w.heap.size W2 W')) a1 W2) (fun _ _ _ => False)) (mk [] n b ((p, enc x) :: s)) W)
    (hdone : ∀ s9 W, I s9 W → Fin s9 → W.heap[w.heap.size]? = some (.deferred (some [])) → Q .normal (mk [{ target := .collected w.heap.size, args := #[] }] n b s) W)
    (hret : ∀ W, X W → W.heap[w.heap.size]? = some (.deferred (some [])) → Q .ret (mk [{ target := .collected w.heap.size, args := #[] }] n b s) W) :
    (Code.rangeFunc g #[p] assign body).wpIn Fence.wide 1 P Q (mk [] n b s) w := by
  refine wpIn_rangeFunc ?_
  intro fn _
  rw [show Fence.wide.round = none from rfl]
  obtain ⟨rec, hrec⟩ : ∃ rec : LoopState → Option Code → Loop, rec = fun st pe => { state := st, pending := pe, fn, tmps := (mk [] n b s).tmps, params := #[p], assign, body, defers := w.heap.size } := ⟨_, rfl⟩
  obtain ⟨W1, hW1⟩ : ∃ W1, (w.alloc (.deferred (some []))).alloc (.loop (rec .ready none)) = W1 := ⟨_, rfl⟩
  have hs1 : W1.heap.size = w.heap.size + 2 := by rw [← hW1]; simp
  have hf1 : Fr [] w W1 := by rw [← hW1]; exact (Fr.alloc [] w _).trans (Fr.alloc [] _ _)
  have hL1 : W1.heap[w.heap.size + 1]? = some (.loop (rec .ready none)) := by
    rw [← hW1]; have := World.alloc_heap_new (w.alloc (.deferred (some []))) (.loop (rec .ready none)); rwa [World.size_alloc] at this
  have hK1 : W1.heap[w.heap.size]? = some (.deferred (some [])) := by
    rw [← hW1]; exact (Go.RowKit.Below.heap_alloc _ _ _ (by simp)).trans (World.alloc_heap_new w _)
  obtain ⟨hi1, hgive⟩ := h0 W1 hf1 hs1
  have hlt : ∀ {W : World} {o : Obj}, W.heap[w.heap.size + 1]? = some o → w.heap.size + 1 < W.heap.size := fun h => (Array.getElem?_eq_some_iff.1 h).1
  have hput : ∀ (W : World) (o : Obj), Fr [w.heap.size, w.heap.size + 1] W (W.putObj (w.heap.size + 1) o) := fun W o => Fr.putObj W _ o _ (by simp)
  refine ⟨w.heap.size + 1, [{ target := .collected w.heap.size, args := #[] }], W1, { target := .fn (.func gf) lb, args := #[.func (.yield (w.heap.size + 1)) #[] #[]] }, W1, gf,
    #[.func (.yield (w.heap.size + 1)) #[] #[]] ++ lb, W1, ?_, ?_, fun _ _ => trivial, ?_, fun _ => Nat.le_refl 1, ?_⟩
  · rw [← hW1, hrec]; exact run_enterLoop_outer _ _ _ _ _
  · simp only [resolve, mk_eval, hg]
    simp [go_sem]
    rfl
  · have := eg (#[.func (.yield (w.heap.size + 1)) #[] #[]] ++ lb) W1
    simp [invoke, go_sem, this]
  · refine CallsIn.mono (callsIn_wide.2 (hgive
      (fun W => W.heap[w.heap.size + 1]? = some (.loop (rec .ready none)) ∧ W.heap[w.heap.size]? = some (.deferred (some [])))
      (fun W => X W ∧ W.heap[w.heap.size + 1]? = some (.loop (rec .done (some .ret))) ∧ W.heap[w.heap.size]? = some (.deferred (some [])))
      (fun W W' h k => ⟨k.2.trans h.1, k.1.trans h.2⟩) ?_ ⟨hL1, hK1⟩ hi1)) ?_
    · intro s1 x s2 W hi hr hnx
      obtain ⟨hl, hk⟩ := hr
      have hy := run_yield (P := P) (args := #[enc x]) hl (by rw [hrec]; rfl)
      rw [hrec] at hy
      refine ⟨fn, _, assign, body, hy, roundIn_of_wpIn trivial ?_⟩
      have ht : ({ tmps := (#[p].zip #[enc x]).foldl (fun tmps (t, a) => tmps.setIfInBounds t a) (mk [] n b s).tmps, defers := [] } : Act) = mk [] n b ((p, enc x) :: s) := by
        have := mk_put (ds := []) (n := n) (b := b) (s := s) p (enc x)
        rw [← this]
        simp [Act.put]
        rfl
      rw [ht]
      refine wpIn_mono (hround s1 x s2 W hi hnx (hlt hl)) ?_
      intro e a1 w1 he
      cases e with
      | normal =>
        obtain ⟨hi2, hk2, hb⟩ := he
        have hl2 := hk2.2.trans hl
        have hd2 := hk2.1.trans hk
        refine ⟨_, run_beginRound hl2 (by rw [hrec]), ?_⟩
        have hsz : w.heap.size + 1 < (w1.putObj (w.heap.size + 1) (.loop { rec .ready none with state := .busy })).heap.size := by simp; exact hlt hl2
        have hl3 : (w1.putObj (w.heap.size + 1) (.loop { rec .ready none with state := .busy })).heap[w.heap.size + 1]? = some (.loop { rec .ready none with state := .busy }) := World.putObj_heap_same (hlt hl2)
        have hd3 : (w1.putObj (w.heap.size + 1) (.loop { rec .ready none with state := .busy })).heap[w.heap.size]? = some (.deferred (some [])) := (World.putObj_heap_other (by omega)).trans hd2
        refine wpIn_mono (hb _ (hI _ _ _ hi2 (hput _ _)) hsz) ?_
        intro e a3 W3 he
        cases e with
        | normal =>
          obtain ⟨hi3, hk3⟩ := he
          have hl4 := hk3.2.trans hl3
          have hr := run_endRound (P := P) none hl4
          refine ⟨_, _, hr, .inl ⟨rfl, hI _ _ _ hi3 (hput _ _), ?_, ?_⟩⟩
          · rw [hrec]; exact World.putObj_heap_same (hlt hl4)
          · exact (World.putObj_heap_other (by omega)).trans (hk3.1.trans hd3)
        | ret =>
          obtain ⟨hi3, hk3⟩ := he
          have hl4 := hk3.2.trans hl3
          have hr := run_endRound (P := P) (some .ret) hl4
          refine ⟨_, _, hr, .inr ⟨rfl, hX _ _ hi3 (hput _ _), ?_, ?_⟩⟩
          · rw [hrec]; exact World.putObj_heap_same (hlt hl4)
          · exact (World.putObj_heap_other (by omega)).trans (hk3.1.trans hd3)
        | exit id => exact he.elim
        | goto t => exact he.elim
        | panic c => exact he.elim
        | outgrown => exact he.elim
      | ret => exact he.elim
      | exit id => exact he.elim
      | goto t => exact he.elim
      | panic c => exact he.elim
      | outgrown => exact he.elim
    · rintro e W2 ⟨⟨v, rfl⟩, h⟩
      rcases h with ⟨s', hi, hfin, hl, hk⟩ | ⟨hx, hl, hk⟩
      · refine ⟨none, _, by have := run_endLoop (P := P) hl (by rw [hrec]; simp); rw [hrec] at this; exact this, ?_⟩
        exact hdone s' _ (hI _ _ _ hi (hput _ _)) hfin ((World.putObj_heap_other (by omega)).trans hk)
      · refine ⟨some .ret, _, by have := run_endLoop (P := P) hl (by rw [hrec]; simp); rw [hrec] at this; exact this, ?_⟩
        exact wpIn_ret (hret _ (hX _ _ hx (hput _ _)) ((World.putObj_heap_other (by omega)).trans hk))
/-- a function whose body holds such a statement -/
theorem fn_inR {f : FuncId} {fn : Func} {c : Code} {l : List Value} {R : Ending → World → Prop}
    (hf : P.funcs[f]? = some fn) (hb : fn.body = some c) (hn : fn.ntmps = n) (hl : Nat.ble l.length n = true)
    (h : c.wpIn Fence.wide 1 P (bodyPostM Fence.wide 1 P fn R) (mk [] n (ar l) []) w) : Calls P f l.toArray w R := by
  refine (callsIn_wide (n := 1)).1 (callsIn_of_wp_marks hf hb trivial ?_ rfl)
  have e := fn_act (n := n) (l := l) hl
  rw [hn, e]
  exact h
theorem end_retR {fn : Func} {R : Ending → World → Prop} {v : Value} (hr : (results fn (mk [] n b s).tmps).run P w = .ok v w) (h : R (.returned v) w) : bodyPostM Fence.wide 1 P fn R .ret (mk [] n b s) w := ⟨v, hr, h⟩
theorem end_retD {D : Nat} {fn : Func} {R : Ending → World → Prop} {v : Value} (hD : w.heap[D]? = some (.deferred (some []))) (hr : ∀ w', Fr [D] w w' → (results fn (mk [] n b s).tmps).run P w' = .ok v w' ∧ R (.returned v) w') :
    bodyPostM Fence.wide 1 P fn R .ret (mk [{ target := .collected D, args := #[] }] n b s) w := by
  obtain ⟨h1, h2⟩ := hr _ (Fr.putObj w D (.deferred none) [D] (by simp))
  exact ⟨by simp, .inl ⟨_, _, rfl, run_takeDeferred hD, v, h1, h2⟩⟩
end
end Go.E
