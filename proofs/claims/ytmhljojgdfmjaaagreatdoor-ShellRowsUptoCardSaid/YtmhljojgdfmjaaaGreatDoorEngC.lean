/- Guards that are known, rows of one's own over older things, appends of whole rows. Over any program. -/
import Derived.Test.YtmhljojgdfmjaaaGreatDoorOwn
import Derived.Test.YtmhljojgdfmjaaaGreatDoorEngB
import Derived.Laws.Small
namespace Go.E
open Go
set_option linter.unusedVariables false
set_option linter.unusedSimpArgs false
section
variable {P : Program} {Q : Exit → Act → World → Prop} {ds : List Deferred} {n : Nat} {b : Nat → Value} {s : List (Nat × Value)} {w : World} {ops : Array Oper} {rest : List Oper} {o : Oper}
theorem l_wanted {W : Bool} (hw : want n b s ops o W) (hW : W = true) (h : wpList P ops Q ({ o with guard := none } :: rest) (mk ds n b s) w) : wpList P ops Q (o :: rest) (mk ds n b s) w := by
  subst hW
  have hw : Region.wanted o (yielded ops (mk ds n b s).tmps) = true := hw
  unfold wpList at h ⊢
  rw [if_pos hw]
  rw [if_pos (by simp [Region.wanted])] at h
  exact h
theorem l_unwanted {d : Nat} {W : Bool} (hw : want n b s ops o W) (hW : W = false) (hd : o.dst = some d) (h : wpList P ops Q rest (mk ds n b ((d, undef) :: s)) w) : wpList P ops Q (o :: rest) (mk ds n b s) w := by
  subst hW
  have hw : Region.wanted o (yielded ops (mk ds n b s).tmps) = false := hw
  unfold wpList
  rw [if_neg (by rw [hw]; simp), hd, mk_put]
  exact h
theorem l_unwanted0 {W : Bool} (hw : want n b s ops o W) (hW : W = false) (hd : o.dst = none) (h : wpList P ops Q rest (mk ds n b s) w) : wpList P ops Q (o :: rest) (mk ds n b s) w := by
  subst hW
  have hw : Region.wanted o (yielded ops (mk ds n b s).tmps) = false := hw
  unfold wpList
  rw [if_neg (by rw [hw]; simp), hd]
  exact h
/-- not wanted: its slot is written so that nothing comes of looking at it -/
theorem l_unwg {d : Nat} {W : Bool} (hw : want n b s ops o W) (hW : W = false) (hd : o.dst = some d) (h : wpList P ops Q rest (mk ds n b ((d, gd W (.bool true)) :: s)) w) : wpList P ops Q (o :: rest) (mk ds n b s) w := by
  refine l_unwanted hw hW hd ?_
  rw [hW] at h; exact h
theorem ga {a c : Bool} (h : a = false) : (a && c) = false := by rw [h]; rfl
theorem want_undef {j d : Nat} {want_ : Bool} {oj : Oper} (hg : o.guard = some (j, want_)) (hj : ops[j]? = some oj) (hd : oj.dst = some d) (hv : ev n b s (.tmp d) = undef) : want n b s ops o false := by
  have := want_of (W0 := false) (g := true) hg hj hd hv
  simpa using this
theorem r_pickT {c x y : Operand} {e : Bool} {v : Value} (ho : o.op = .pick c x y) (hc : ev n b s c = .bool e) (he : e = true) (h : ev n b s x = v) : (execOp (ev n b s) o).run P w = .ok (.value v) w := r_pick ho hc (by rw [he]; exact h)
theorem r_pickF {c x y : Operand} {e : Bool} {v : Value} (ho : o.op = .pick c x y) (hc : ev n b s c = .bool e) (he : e = false) (h : ev n b s y = v) : (execOp (ev n b s) o).run P w = .ok (.value v) w := r_pick ho hc (by rw [he]; exact h)
theorem known_eq {e : Bool} {g : Bool} (h : e = g) (w : Bool) : (e == w) = (g == w) := by rw [h]
theorem r_bool_eql {t u : TypeId} {x y : Operand} {i j : Bool} (ho : o.op = .binOp .eql t x y u) (hx : ev n b s x = .bool i) (hy : ev n b s y = .bool j) (hu : P.underlying t = some .bool) : (execOp (ev n b s) o).run P w = .ok (.value (.bool (i == j))) w := by
  simp [execOp, ho, hx, hy, eqGuard, binOp, run_equal_bool w t i j hu]
theorem r_bool_neq {t u : TypeId} {x y : Operand} {i j : Bool} (ho : o.op = .binOp .neq t x y u) (hx : ev n b s x = .bool i) (hy : ev n b s y = .bool j) (hu : P.underlying t = some .bool) : (execOp (ev n b s) o).run P w = .ok (.value (.bool (i != j))) w := by
  simp [execOp, ho, hx, hy, eqGuard, binOp, run_equal_bool w t i j hu, bne]

theorem r_str_same {t u : TypeId} {x y : Operand} {l : List UInt8} (ho : o.op = .binOp .eql t x y u) (hx : ev n b s x = .string ⟨l.toArray⟩) (hy : ev n b s y = .string ⟨l.toArray⟩) : (execOp (ev n b s) o).run P w = .ok (.value (.bool true)) w := by
  have := r_str_eql (P := P) (w := w) ho hx hy
  simpa using this
theorem r_str_nsame {t u : TypeId} {x y : Operand} {l : List UInt8} (ho : o.op = .binOp .neq t x y u) (hx : ev n b s x = .string ⟨l.toArray⟩) (hy : ev n b s y = .string ⟨l.toArray⟩) : (execOp (ev n b s) o).run P w = .ok (.value (.bool false)) w := by
  have := r_str_neq (P := P) (w := w) ho hx hy
  simpa using this
/-! ### two new blocks, either way round -/
theorem mk_swap {i j : Nat} {x y : Value} (h : Nat.beq i j = false) : mk ds n b ((i, x) :: (j, y) :: s) = mk ds n b ((j, y) :: (i, x) :: s) := by
  have : lk b ((i, x) :: (j, y) :: s) = lk b ((j, y) :: (i, x) :: s) := by
    funext k
    simp only [lk]
    cases h1 : Nat.beq i k with
    | false => rfl
    | true =>
      cases h2 : Nat.beq j k with
      | false => rfl
      | true =>
        have e1 := Nat.eq_of_beq_eq_true h1
        have e2 := Nat.eq_of_beq_eq_true h2
        subst e1; subst e2
        simp at h
  simp only [mk, this]
/-- two blocks that are new -/
structure Two (ki kj : Nat) (oi oj : Obj) (w w' : World) : Prop where
  ne : ki ≠ kj
  gi : w.heap.size ≤ ki
  gj : w.heap.size ≤ kj
  sz : w'.heap.size = w.heap.size + 2
  li : ki < w'.heap.size
  lj : kj < w'.heap.size
  fr : Fr [] w w'
  at_ : w'.heap[ki]? = some oi
  at2_ : w'.heap[kj]? = some oj
theorem h_two_new {S : World → Prop} {fuel : Nat} {listed : Array Bool} {i j di dj : Nat} {oi oj : Oper} {obi obj : Obj} (fi fj : Nat → Value) (hr : Region.ready .any ops listed = [i, j]) (hr1 : Region.ready .any ops (listed.setIfInBounds i true) = [j]) (hr2 : Region.ready .any ops (listed.setIfInBounds j true) = [i])
    (hl : (listed.setIfInBounds j true).setIfInBounds i true = (listed.setIfInBounds i true).setIfInBounds j true) (hi : ops[i]? = some oi) (hgi : oi.guard = none) (hdi : oi.dst = some di) (hj : ops[j]? = some oj) (hgj : oj.guard = none) (hdj : oj.dst = some dj) (hne : Nat.beq di dj = false)
    (hvi : ∀ s' w, (execOp (ev n b s') oi).run P w = .ok (.value (fi w.heap.size)) (w.alloc obi)) (hvj : ∀ s' w, (execOp (ev n b s') oj).run P w = .ok (.value (fj w.heap.size)) (w.alloc obj)) (hS : ∀ w', Fr [] w w' → S w')
    (h : ∀ ki kj w', Two ki kj obi obj w w' → wpAnyH P .any ops Q S fuel ((listed.setIfInBounds i true).setIfInBounds j true) (mk ds n b ((dj, fj kj) :: (di, fi ki) :: s)) w') : wpAnyH P .any ops Q S (fuel + 2) listed (mk ds n b s) w :=
  wpAnyH_all hr (by simp) fun k hk => by
    have hk2 : k = i ∨ k = j := by simpa using hk
    rcases hk2 with rfl | rfl
    · unfold wpOp
      simp only [hi, Region.wanted, hgi, if_true]
      refine .inl ?_
      unfold Oper.wp
      rw [mk_eval, hvi s w]
      have n1 := New.of_alloc w obi
      refine ⟨hS _ n1.fr, ?_⟩
      rw [hdi, mk_put]
      refine h_new (fun k => fj k) hr1 hj hgj hdj (hvj _ _) fun k2 w2 n2 => ⟨hS _ (n1.fr.trans n2.fr), h _ _ _ ⟨?_, ?_, ?_, ?_, ?_, ?_, n1.fr.trans n2.fr, n2.fr.at0 n1.at_, n2.at_⟩⟩
      all_goals (have h1 := n1.hk; have h2 := n1.sz; have h3 := n2.hk; have h4 := n2.sz; omega)
    · unfold wpOp
      simp only [hj, Region.wanted, hgj, if_true]
      refine .inl ?_
      unfold Oper.wp
      rw [mk_eval, hvj s w]
      have n1 := New.of_alloc w obj
      refine ⟨hS _ n1.fr, ?_⟩
      rw [hdj, mk_put]
      refine h_new (fun k => fi k) hr2 hi hgi hdi (hvi _ _) fun k2 w2 n2 => ⟨hS _ (n1.fr.trans n2.fr), ?_⟩
      rw [hl, mk_swap hne]
      refine h _ _ _ ⟨?_, ?_, ?_, ?_, ?_, ?_, n1.fr.trans n2.fr, n2.at_, n2.fr.at0 n1.at_⟩
      all_goals (have h1 := n1.hk; have h2 := n1.sz; have h3 := n2.hk; have h4 := n2.sz; omega)

/-! ### append of nothing -/
theorem run_append_none {t ty e size bytes base k c : Nat} {v : Value} {xs : List Value} (T : SlT P t e size bytes) (hown : w.ownsRow base e size v k xs) : (Builtin.append_ #[t, t] ty #[v, .slice none 0 c]).run P w = .ok v w := by
  obtain ⟨ht, ⟨i, z, hi, hz, hs, hb, hzs⟩, hp⟩ := T
  rcases hown.2 with ⟨rfl, rfl⟩ | ⟨g0, cap, cur, rfl, hbg, hg0, hnc, hcm, hcs, htake⟩
  · simp [Builtin.append_, run_underlying ht, sizeOf, typeInfo, hi, Builtin.lenOf, Builtin.firstCells, loadCells, loadCellsFrom]
  · simp [Builtin.append_, run_underlying ht, sizeOf, typeInfo, hi, Builtin.lenOf, Builtin.firstCells, loadCells, loadCellsFrom, hnc, storeCells]
/-- a whole row of one's own behind another one -/
theorem run_append_row {t ty e size bytes base b2 k m : Nat} {v u : Value} {xs ys : List Value} (T : SlT P t e size bytes) (hown : w.ownsRow base e size v k xs) (hown2 : w.ownsRow b2 e size u m ys) (h1 : ∀ y ∈ ys, y.oneCell' = true)
    (h63 : k + m ≤ 68719476736) (hby : bytes ≤ 1024) (hbase : base ≤ w.heap.size) :
    ∃ v' w', (Builtin.append_ #[t, t] ty #[v, u]).run P w = .ok v' w' ∧ App base e size v v' (k + m) (xs ++ ys) w w' := by
  rcases hown2.2 with ⟨rfl, rfl⟩ | ⟨g0, cap, cur, rfl, hbg, hg0, hnc, hcm, hcs, htake⟩
  · have hys : ys = [] := List.eq_nil_of_length_eq_zero (by simpa using hown2.1)
    subst hys
    exact ⟨v, w, run_append_none T hown, by simpa using hown, Fr.refl _ _, fun g hg => .inl hg⟩
  · exact run_append T hown hown2.1 (own_range (g := g0) hown2 rfl) (List.all_eq_true.2 h1) h63 hby hbase
theorem l_append_row {t e size bytes base b2 k m d : Nat} {x y : Operand} {v u : Value} {xs ys : List Value} (T : SlT P t e size bytes) (hg : o.guard = none) (hd : o.dst = some d)
    (ho : o.op = .call { callee := .builtin .append, args := #[x, y], argTypes := #[t, t] }) (hx : ev n b s x = v) (hown : w.ownsRow base e size v k xs) (hy : ev n b s y = u) (hown2 : w.ownsRow b2 e size u m ys) (h1 : ∀ y ∈ ys, y.oneCell' = true)
    (h63 : k + m ≤ 68719476736) (hby : bytes ≤ 1024) (hbase : base ≤ w.heap.size)
    (h : ∀ v' w', App base e size v v' (k + m) (xs ++ ys) w w' → wpList P ops Q rest (mk ds n b ((d, v') :: s)) w') : wpList P ops Q (o :: rest) (mk ds n b s) w := by
  obtain ⟨v', w', hr, ha⟩ := run_append_row T hown hown2 h1 h63 hby hbase
  exact l_val hg hd (r_append ho hx hy hr) (h v' w' ha)
end
/-! ### a row of one's own whose things lie elsewhere -/
section
variable {α : Type} {R : Rp α} {ok : Nat → Prop} {base e : Nat} {w w' : World} {v v' : Value} {xs : List α}
def OwnK (R : Rp α) (ok : Nat → Prop) (base e : Nat) (w : World) (v : Value) (xs : List α) : Prop :=
  ∃ css : List (List Value), css.length = xs.length ∧ w.ownsRow base e R.n v xs.length css.flatten ∧ ∀ (i : Nat) cs x, css[i]? = some cs → xs[i]? = some x → R.K ok w cs x
theorem OwnK.nil (R : Rp α) (ok : Nat → Prop) (base e : Nat) (w : World) : OwnK R ok base e w (.slice none 0 0) [] := ⟨[], rfl, own_nil w base e R.n, by intro i cs x h; simp at h⟩
theorem OwnK.form (h : OwnK R ok base e w v xs) : ∃ A c, v = .slice A xs.length c := by
  obtain ⟨css, _, h, _⟩ := h
  obtain ⟨A, c, hv, _⟩ := own_form h
  exact ⟨A, c, hv⟩
theorem OwnK.lt (h : OwnK R ok base e w v xs) (g : Nat) (hg : v.ownBlock = some g) : base ≤ g ∧ g < w.heap.size := by
  obtain ⟨css, _, h2, _⟩ := h
  exact h2.lt g hg
theorem OwnK.fr {M : List Nat} (h : OwnK R ok base e w v xs) (hf : Fr M w w') (hM : ∀ g, v.ownBlock = some g → g ∉ M) (hk : ∀ g, ok g → g ∉ M) : OwnK R ok base e w' v xs := by
  obtain ⟨css, h1, h2, h3⟩ := h
  exact ⟨css, h1, own_fr h2 hf hM, fun i cs x hc hx => R.fr (h3 i cs x hc hx) hf hk⟩
theorem OwnK.fr0 (h : OwnK R ok base e w v xs) (hf : Fr [] w w') : OwnK R ok base e w' v xs := h.fr hf (by simp) (by simp)
theorem OwnK.sl (h : OwnK R ok base e w v xs) : Sl R (fun _ => True) w v xs := by
  obtain ⟨css, h1, h2, h3⟩ := h
  exact Sl.own h2 rfl h1 (fun i cs x hc hx => R.weak (h3 i cs x hc hx) fun g _ ho => trivial) fun g hg => trivial
theorem OwnK.one {css : List (List Value)} (h1 : css.length = xs.length) (h3 : ∀ (i : Nat) cs x, css[i]? = some cs → xs[i]? = some x → R.K ok w cs x) : ∀ y ∈ css.flatten, y.oneCell' = true := by
  intro y hy
  obtain ⟨cs, hcs, hyc⟩ := List.mem_flatten.1 hy
  obtain ⟨i, hi⟩ := List.getElem?_of_mem hcs
  have hil : i < xs.length := by have := (List.getElem?_eq_some_iff.1 hi).1; omega
  exact R.one (h3 i cs xs[i] hi (List.getElem?_eq_getElem hil)) y hyc
/-- what an append leaves; ok: nothing of the row itself -/
theorem OwnK.join {ys : List α} {css dss : List (List Value)} {w1 : World} {v1 : Value} (h1 : css.length = xs.length) (h3 : ∀ (i : Nat) cs x, css[i]? = some cs → xs[i]? = some x → R.K ok w cs x) (h4 : dss.length = ys.length) (h5 : ∀ (i : Nat) cs x, dss[i]? = some cs → ys[i]? = some x → R.K ok w cs x)
    (ha : App base e R.n v v1 (xs.length + ys.length) (css.flatten ++ dss.flatten) w w1) (hok : ∀ g, ok g → v.ownBlock ≠ some g) : OwnK R ok base e w1 v1 (xs ++ ys) := by
  refine ⟨css ++ dss, by simp [h1, h4], by have := ha.own; simpa using this, ?_⟩
  have hK : ∀ cs x, R.K ok w cs x → R.K ok w1 cs x := fun cs x hk => R.fr hk ha.fr fun g ho hm => hok g ho (by simpa using hm)
  intro i cs x hc hx
  by_cases hi : i < xs.length
  · rw [List.getElem?_append_left (by omega)] at hc
    rw [List.getElem?_append_left hi] at hx
    exact hK _ _ (h3 i cs x hc hx)
  · rw [List.getElem?_append_right (by omega), h1] at hc
    rw [List.getElem?_append_right (by omega)] at hx
    exact hK _ _ (h5 _ cs x hc hx)
theorem OwnK.push (h : OwnK R ok base e w v xs) : ∃ css : List (List Value), w.ownsRow base e R.n v xs.length css.flatten ∧
    ∀ (cs : List Value) (x : α) (w1 : World) (v1 : Value), App base e R.n v v1 (xs.length + 1) (css.flatten ++ cs) w w1 → R.K ok w cs x → (∀ g, ok g → v.ownBlock ≠ some g) → OwnK R ok base e w1 v1 (xs ++ [x]) := by
  obtain ⟨css, h1, h2, h3⟩ := h
  refine ⟨css, h2, fun cs x w1 v1 ha hk hok => OwnK.join (dss := [cs]) h1 h3 rfl ?_ (by simpa using ha) hok⟩
  intro i cs' x' hc hx
  have : i = 0 := by have := (List.getElem?_eq_some_iff.1 hc).1; simp at this; omega
  subst this
  simp at hc hx
  subst hc; subst hx
  exact hk
/-- things one by one -/
def KS {α : Type} (R : Rp α) (ok : Nat → Prop) (w : World) : List (List Value) → List α → Prop
  | c :: cs, x :: xs => R.K ok w c x ∧ KS R ok w cs xs
  | [], [] => True
  | _, _ => False
theorem KS.len {α : Type} {R : Rp α} {ok : Nat → Prop} {w : World} : ∀ {css : List (List Value)} {xs : List α}, KS R ok w css xs → css.length = xs.length
  | [], [], _ => rfl
  | _ :: _, _ :: _, h => by simp [KS.len h.2]
theorem KS.at {α : Type} {R : Rp α} {ok : Nat → Prop} {w : World} : ∀ {css : List (List Value)} {xs : List α}, KS R ok w css xs → ∀ (i : Nat) cs x, css[i]? = some cs → xs[i]? = some x → R.K ok w cs x
  | [], [], _, i, cs, x, h, _ => by simp at h
  | c :: _, y :: _, h, 0, cs, x, h1, h2 => by
    simp at h1 h2
    subst h1; subst h2; exact h.1
  | _ :: _, _ :: _, h, i + 1, cs, x, h1, h2 => KS.at h.2 i cs x (by simpa using h1) (by simpa using h2)
/-- a block is a slice of what lies in it -/
theorem sl_block {α : Type} {R : Rp α} {ok ok' : Nat → Prop} {w : World} {g e : Nat} {arr : Array Value} {fz : Nat × Nat} {css : List (List Value)} {xs : List α} (hb : w.heap[g]? = some (.cells arr e fz)) (ha : arr.toList = css.flatten) (hk : KS R ok w css xs) (hg : ok' g) (hok : ∀ g, ok g → ok' g) :
    Sl R ok' w (.slice (some ⟨g, 0, none⟩) xs.length xs.length) xs := by
  have hl := KS.len hk
  refine ⟨_, _, rfl, Nat.le_refl _, ?_⟩
  intro i x hi
  have hil := (List.getElem?_eq_some_iff.1 hi).1
  have hcs : css[i]? = some css[i] := List.getElem?_eq_getElem (by omega)
  refine ⟨g, 0, css[i], rfl, hg, (Array.getElem?_eq_some_iff.1 hb).1, R.weak (KS.at hk i _ x hcs hi) fun g _ h => hok g h, ?_⟩
  intro j u hj
  have hall : ∀ c ∈ css, c.length = R.n := by
    intro c hc
    obtain ⟨q, hq⟩ := List.getElem?_of_mem hc
    have hql : q < xs.length := by have := (List.getElem?_eq_some_iff.1 hq).1; omega
    exact R.len (KS.at hk q c xs[q] hq (List.getElem?_eq_getElem hql))
  have hfl : css.flatten[i * R.n + j]? = some u := flatten_idx R.n css hall i css[i] hcs j u hj
  rw [← ha] at hfl
  refine cell_at hb ?_
  simpa using hfl
/-- []byte of a constant: its block is marked -/
theorem run_conv_mark {P : Program} {w : World} {t e e' g n c : Nat} {arr : Array Value} (ht : P.underlying t = some (.slice e)) (he : P.underlying e = some (.int .u8)) (hb : w.heap[g]? = some (.cells arr e' (0, 0))) :
    (convert t t (.slice (some ⟨g, 0, none⟩) n c)).run P w = .ok (.slice (some ⟨g, 0, none⟩) n c) (w.freeze ⟨g, arr.size, none⟩ 1) ∧ Put g (.cells arr e' (arr.size, arr.size + 1)) w (w.freeze ⟨g, arr.size, none⟩ 1) := by
  have hsh : w.shape? g = some (e', arr.size) := by unfold World.shape?; rw [hb]
  have hlt := (Array.getElem?_eq_some_iff.1 hb).1
  refine ⟨?_, ?_⟩
  · simp [convert, run_underlying ht, run_underlying he, markStringish, hsh]
  · have hf : w.freeze ⟨g, arr.size, none⟩ 1 = { w with heap := w.heap.modify g fun o => match o with | .cells c elem (lo, hi) => .cells c elem (if lo == hi then (arr.size, arr.size + 1) else (min lo arr.size, max hi (arr.size + 1))) | o => o } := by
      unfold World.freeze; rw [if_neg (by decide)]; rfl
    rw [hf]
    refine ⟨⟨rfl, rfl, rfl, by simp, fun k _ hm => ?_⟩, by simp, ?_⟩
    · simp only [Array.getElem?_modify]
      rw [if_neg (fun h => hm (by simp [h]))]
    · simp only [Array.getElem?_modify, if_true, hb, Option.map_some]
      simp
theorem OwnK.weak {ok' : Nat → Prop} (h : OwnK R ok base e w v xs) (hm : ∀ g, g < w.heap.size → ok g → ok' g) : OwnK R ok' base e w v xs := by
  obtain ⟨css, h1, h2, h3⟩ := h
  exact ⟨css, h1, h2, fun i cs x hc hx => R.weak (h3 i cs x hc hx) hm⟩
end
section
variable {P : Program} {Q : Exit → Act → World → Prop} {ds : List Deferred} {n : Nat} {b : Nat → Value} {s : List (Nat × Value)} {w : World} {ops : Array Oper} {rest : List Oper} {o : Oper}
theorem l_conv_mark {t e e' g m c d : Nat} {x : Operand} {arr : Array Value} (hg : o.guard = none) (hd : o.dst = some d) (ho : o.op = .convert t t x) (hx : ev n b s x = .slice (some ⟨g, 0, none⟩) m c) (ht : P.underlying t = some (.slice e)) (he : P.underlying e = some (.int .u8)) (hb : w.heap[g]? = some (.cells arr e' (0, 0)))
    (h : ∀ w', Put g (.cells arr e' (arr.size, arr.size + 1)) w w' → wpList P ops Q rest (mk ds n b ((d, .slice (some ⟨g, 0, none⟩) m c) :: s)) w') : wpList P ops Q (o :: rest) (mk ds n b s) w := by
  obtain ⟨h1, h2⟩ := run_conv_mark (n := m) (c := c) ht he hb
  exact l_val hg hd (by simp [execOp, ho, hx, h1]) (h _ h2)
end
end Go.E
