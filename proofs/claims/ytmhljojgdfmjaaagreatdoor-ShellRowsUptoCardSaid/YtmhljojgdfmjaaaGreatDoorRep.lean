/- What data look like in memory: over any program. -/
import Derived.Test.YtmhljojgdfmjaaaGreatDoorEng
namespace Go.E
open Go
set_option linter.unusedVariables false

/-- how an α lies in n cells; ok: the blocks that it may lie in. -/
structure Rp (α : Type) where
  n : Nat
  K : (Nat → Prop) → World → List Value → α → Prop
  len : ∀ {ok w cs x}, K ok w cs x → cs.length = n
  one : ∀ {ok w cs x}, K ok w cs x → ∀ v ∈ cs, v.oneCell' = true
  fr : ∀ {ok M w w' cs x}, K ok w cs x → Fr M w w' → (∀ g, ok g → g ∉ M) → K ok w' cs x
  weak : ∀ {ok ok' : Nat → Prop} {w cs x}, K ok w cs x → (∀ g, g < w.heap.size → ok g → ok' g) → K ok' w cs x

theorem range_fr {M : List Nat} {w w' : World} {g off : Nat} {cs : List Value} (h : w.rangeAt g off cs) (hf : Fr M w w') (hg : g ∉ M) : w'.rangeAt g off cs := by
  intro j v hj
  have hc := h j v hj
  have hlt := World.block_lt_of_cell? w _ hc
  exact (World.cell?_of_block (w := w) (hf.block g hlt hg)).trans hc

/-- the elements of a slice at A -/
def El {α : Type} (R : Rp α) (ok : Nat → Prop) (w : World) (A : Option Addr) (xs : List α) : Prop :=
  ∀ i x, xs[i]? = some x → ∃ g off cs, A = some ⟨g, off, none⟩ ∧ ok g ∧ g < w.heap.size ∧ R.K ok w cs x ∧ w.rangeAt g (off + i * R.n) cs
/-- a slice -/
def Sl {α : Type} (R : Rp α) (ok : Nat → Prop) (w : World) (v : Value) (xs : List α) : Prop :=
  ∃ A c, v = .slice A xs.length c ∧ xs.length ≤ c ∧ El R ok w A xs

section
variable {α β : Type} {R : Rp α} {ok : Nat → Prop} {w w' : World} {v : Value} {xs : List α} {M : List Nat}
theorem El.fr0 {A : Option Addr} (h : El R ok w A xs) (hf : Fr [] w w') : El R ok w' A xs := by
  intro i x hi
  obtain ⟨g, off, cs, hA, hg, hl, hk, hr⟩ := h i x hi
  exact ⟨g, off, cs, hA, hg, Nat.lt_of_lt_of_le hl hf.size, R.fr hk hf (by simp), range_fr hr hf (by simp)⟩
theorem El.fr {A : Option Addr} (h : El R ok w A xs) (hf : Fr M w w') (hm : ∀ g, ok g → g ∉ M) : El R ok w' A xs := by
  intro i x hi
  obtain ⟨g, off, cs, hA, hg, hl, hk, hr⟩ := h i x hi
  exact ⟨g, off, cs, hA, hg, Nat.lt_of_lt_of_le hl hf.size, R.fr hk hf hm, range_fr hr hf (hm g hg)⟩
theorem El.weak {A : Option Addr} {ok' : Nat → Prop} (h : El R ok w A xs) (hm : ∀ g, g < w.heap.size → ok g → ok' g) : El R ok' w A xs := by
  intro i x hi
  obtain ⟨g, off, cs, hA, hg, hl, hk, hr⟩ := h i x hi
  exact ⟨g, off, cs, hA, hm g hl hg, hl, R.weak hk hm, hr⟩
theorem Sl.fr (h : Sl R ok w v xs) (hf : Fr M w w') (hm : ∀ g, ok g → g ∉ M) : Sl R ok w' v xs := by
  obtain ⟨A, c, hv, hc, he⟩ := h
  exact ⟨A, c, hv, hc, he.fr hf hm⟩
theorem Sl.fr0 (h : Sl R ok w v xs) (hf : Fr [] w w') : Sl R ok w' v xs := h.fr hf (by simp)
theorem Sl.weak {ok' : Nat → Prop} (h : Sl R ok w v xs) (hm : ∀ g, g < w.heap.size → ok g → ok' g) : Sl R ok' w v xs := by
  obtain ⟨A, c, hv, hc, he⟩ := h
  exact ⟨A, c, hv, hc, he.weak hm⟩
theorem Sl.nil (R : Rp α) (ok : Nat → Prop) (w : World) : Sl R ok w (.slice none 0 0) [] := ⟨none, 0, rfl, Nat.le_refl _, by intro i x h; simp at h⟩
theorem Sl.at (h : Sl R ok w v xs) {i : Nat} (hi : i < xs.length) : ∃ g off c cs, v = .slice (some ⟨g, off, none⟩) xs.length c ∧ ok g ∧ g < w.heap.size ∧ R.K ok w cs xs[i] ∧ w.rangeAt g (off + i * R.n) cs := by
  obtain ⟨A, c, hv, hc, he⟩ := h
  obtain ⟨g, off, cs, hA, hg, hl, hk, hr⟩ := he i xs[i] (List.getElem?_eq_getElem hi)
  exact ⟨g, off, c, cs, by rw [hv, hA], hg, hl, hk, hr⟩
theorem El.at {A : Option Addr} (h : El R ok w A xs) {i : Nat} (hi : i < xs.length) : ∃ g off cs, A = some ⟨g, off, none⟩ ∧ ok g ∧ g < w.heap.size ∧ R.K ok w cs xs[i] ∧ w.rangeAt g (off + i * R.n) cs :=
  h i xs[i] (List.getElem?_eq_getElem hi)
theorem flatten_idx {γ : Type} (m : Nat) : ∀ (css : List (List γ)), (∀ c ∈ css, c.length = m) → ∀ (i : Nat) cs, css[i]? = some cs → ∀ (j : Nat) u, cs[j]? = some u → css.flatten[i * m + j]? = some u
  | [], _, i, cs, h, _, _, _ => by simp at h
  | c0 :: cr, hall, 0, cs, h, j, u, hj => by
    obtain rfl : c0 = cs := by simpa using h
    simp only [List.flatten_cons, Nat.zero_mul, Nat.zero_add]
    rw [List.getElem?_append_left (List.getElem?_eq_some_iff.1 hj).1]
    exact hj
  | c0 :: cr, hall, i + 1, cs, h, j, u, hj => by
    have hc0 : c0.length = m := hall c0 (by simp)
    simp only [List.flatten_cons]
    have he : (i + 1) * m + j = c0.length + (i * m + j) := by rw [hc0, Nat.add_mul, Nat.one_mul]; omega
    rw [he, List.getElem?_append_right (by omega), Nat.add_sub_cancel_left]
    exact flatten_idx m cr (fun c hc => hall c (by simp [hc])) i cs (by simpa using h) j u hj
theorem El.get {A : Option Addr} (h : El R ok w A xs) {i : Nat} (hi : i < xs.length) : ∃ x g off cs, xs[i]? = some x ∧ A = some ⟨g, off, none⟩ ∧ ok g ∧ g < w.heap.size ∧ R.K ok w cs x ∧ w.rangeAt g (off + i * R.n) cs := by
  obtain ⟨g, off, cs, h⟩ := h i xs[i] (List.getElem?_eq_getElem hi)
  exact ⟨xs[i], g, off, cs, List.getElem?_eq_getElem hi, h⟩
/-- out of a row of one's own -/
theorem Sl.own {base e k : Nat} {css : List (List Value)} (h : w.ownsRow base e R.n v k css.flatten) (hk : k = xs.length) (hx : css.length = xs.length) (hR : ∀ (i : Nat) cs x, css[i]? = some cs → xs[i]? = some x → R.K ok w cs x) (hg : ∀ g, v.ownBlock = some g → ok g) :
    Sl R ok w v xs := by
  subst hk
  obtain ⟨A, c, hv, hc, hA, hN, hob⟩ := own_form h
  refine ⟨A, c, hv, hc, ?_⟩
  intro i x hi
  have hil : i < xs.length := (List.getElem?_eq_some_iff.1 hi).1
  have hcs : css[i]? = some css[i] := List.getElem?_eq_getElem (by omega)
  cases hA' : A with
  | none => have := hN hA'; omega
  | some a =>
    obtain ⟨hb, hl, ho, hsp⟩ := hA a hA'
    have hob' : v.ownBlock = some a.block := by rw [hob, hA']; rfl
    have hK := hR i _ x hcs hi
    refine ⟨a.block, 0, css[i], by cases a; simp_all, hg _ hob', hl, hK, ?_⟩
    have hr := own_range h hob'
    intro j u hj
    have hall : ∀ c ∈ css, c.length = R.n := by
      intro c hc
      obtain ⟨q, hq⟩ := List.getElem?_of_mem hc
      have hql : q < xs.length := by have := (List.getElem?_eq_some_iff.1 hq).1; omega
      exact R.len (hR q c xs[q] hq (List.getElem?_eq_getElem hql))
    have hfl : css.flatten[i * R.n + j]? = some u := flatten_idx R.n css hall i css[i] hcs j u hj
    have := hr _ u hfl
    simpa [Nat.add_assoc] using this
end

/-! ### kinds -/
def Rp.int (k : IntKind) : Rp Int where
  n := 1
  K _ _ cs x := cs = [.int k x] ∧ k.min ≤ x ∧ x ≤ k.max
  len h := by rw [h.1]; rfl
  one h := by rw [h.1]; simp [Value.oneCell']
  fr h _ _ := h
  weak h _ := h
def Rp.u8 : Rp UInt8 where
  n := 1
  K _ _ cs x := cs = [.int .u8 x.toNat]
  len h := by rw [h]; rfl
  one h := by rw [h]; simp [Value.oneCell']
  fr h _ _ := h
  weak h _ := h
def Rp.bool : Rp Bool where
  n := 1
  K _ _ cs x := cs = [.bool x]
  len h := by rw [h]; rfl
  one h := by rw [h]; simp [Value.oneCell']
  fr h _ _ := h
  weak h _ := h
def Rp.str : Rp (List UInt8) where
  n := 1
  K _ _ cs x := cs = [.string ⟨x.toArray⟩]
  len h := by rw [h]; rfl
  one h := by rw [h]; simp [Value.oneCell']
  fr h _ _ := h
  weak h _ := h
def Rp.slice {α : Type} (R : Rp α) : Rp (List α) where
  n := 1
  K ok w cs xs := ∃ v, cs = [v] ∧ Sl R ok w v xs
  len h := by obtain ⟨v, rfl, _⟩ := h; rfl
  one h := by obtain ⟨v, rfl, A, c, rfl, _⟩ := h; simp [Value.oneCell']
  fr h hf hm := by obtain ⟨v, hv, hs⟩ := h; exact ⟨v, hv, hs.fr hf hm⟩
  weak h hm := by obtain ⟨v, hv, hs⟩ := h; exact ⟨v, hv, hs.weak hm⟩
def Rp.pair {α β : Type} (R : Rp α) (S : Rp β) : Rp (α × β) where
  n := R.n + S.n
  K ok w cs x := ∃ c1 c2, cs = c1 ++ c2 ∧ R.K ok w c1 x.1 ∧ S.K ok w c2 x.2
  len h := by obtain ⟨c1, c2, rfl, h1, h2⟩ := h; rw [List.length_append, R.len h1, S.len h2]
  one h := by
    obtain ⟨c1, c2, rfl, h1, h2⟩ := h
    intro v hv
    rcases List.mem_append.1 hv with hv | hv
    · exact R.one h1 v hv
    · exact S.one h2 v hv
  fr h hf hm := by obtain ⟨c1, c2, hc, h1, h2⟩ := h; exact ⟨c1, c2, hc, R.fr h1 hf hm, S.fr h2 hf hm⟩
  weak h hm := by obtain ⟨c1, c2, hc, h1, h2⟩ := h; exact ⟨c1, c2, hc, R.weak h1 hm, S.weak h2 hm⟩
def Rp.iso {α β : Type} (f : β → α) (R : Rp α) : Rp β where
  n := R.n
  K ok w cs x := R.K ok w cs (f x)
  len h := R.len h
  one h := R.one h
  fr h hf hm := R.fr h hf hm
  weak h hm := R.weak h hm

/-! ### bytes -/
abbrev By (ok : Nat → Prop) (w : World) (v : Value) (l : List UInt8) : Prop := Sl Rp.u8 ok w v l
/-- bytes of one's own -/
def OwnB (base e : Nat) (w : World) (v : Value) (l : List UInt8) : Prop := w.ownsRow base e 1 v l.length (l.map fun x => .int .u8 x.toNat)
theorem flat1 {α β : Type} (f : α → β) (l : List α) : (l.map fun x => [f x]).flatten = l.map f := by
  induction l with
  | nil => rfl
  | cons a r ih => simp [ih]
theorem OwnB.by_ {base e : Nat} {w : World} {v : Value} {l : List UInt8} {ok : Nat → Prop} (h : OwnB base e w v l) (hg : ∀ g, base ≤ g → g < w.heap.size → ok g) : By ok w v l := by
  unfold OwnB at h
  have hlt := h.lt
  rw [← flat1] at h
  refine Sl.own (R := Rp.u8) (k := l.length) h rfl (by simp) ?_ fun g hv => hg g (hlt g hv).1 (hlt g hv).2
  intro i cs x h1 h2
  simp only [List.getElem?_map, h2, Option.map_some, Option.some.injEq] at h1
  exact h1.symm
theorem OwnB.fr {M : List Nat} {base e : Nat} {w w' : World} {v : Value} {l : List UInt8} (h : OwnB base e w v l) (hf : Fr M w w') (hm : ∀ g, v.ownBlock = some g → g ∉ M) : OwnB base e w' v l := own_fr h hf hm
theorem OwnB.fr0 {base e : Nat} {w w' : World} {v : Value} {l : List UInt8} (h : OwnB base e w v l) (hf : Fr [] w w') : OwnB base e w' v l := own_fr0 h hf
theorem own_b {base e k : Nat} {w : World} {v : Value} {xs : List Value} {l : List UInt8} (h : w.ownsRow base e 1 v k xs) (hk : k = l.length) (hx : xs = l.map fun x => .int .u8 x.toNat) : OwnB base e w v l := by
  subst hk; subst hx; exact h
theorem OwnB.nil (base e : Nat) (w : World) : OwnB base e w (.slice none 0 0) [] := own_nil w base e 1

/-- string(b) -/
theorem conv_bytes {P : Program} {w : World} {A : Option Addr} {c : Nat} {l : List UInt8} {ok : Nat → Prop} (h : El Rp.u8 ok w A l) {src e dst : TypeId} (hs : P.underlying src = some (.slice e)) (he : P.underlying e = some (.int .u8)) (hd : P.underlying dst = some .string) :
    (convert src dst (.slice A l.length c)).run P w = .ok (.string ⟨l.toArray⟩) w := by
  rw [run_convert_bytes_string w src dst e A _ c hs he hd]
  cases hA : A with
  | none =>
    cases l with
    | nil => rfl
    | cons x r => obtain ⟨g, off, cs, hA', _⟩ := h 0 x rfl; rw [hA] at hA'; cases hA'
  | some a =>
    have hl : (loadCells a l.length).run P w = .ok (l.map fun x => Value.int .u8 x.toNat).toArray w := by
      have := run_loadCells_list (P := P) w a (l.map fun x => Value.int .u8 x.toNat) (fun j v hv => by
        rw [List.getElem?_map] at hv
        cases hx : l[j]? with
        | none => rw [hx] at hv; cases hv
        | some x =>
          rw [hx] at hv
          obtain ⟨g, off, cs, hA', _, _, hk, hr⟩ := h j x hx
          rw [hA] at hA'
          cases hA'
          rw [Addr.add_mid]
          have hk' : cs = [Value.int .u8 x.toNat] := hk
          have := hr 0 v (by rw [hk']; simpa using hv)
          simpa [Rp.u8] using this)
      simpa using this
    have hm : (l.map fun x => Value.int .u8 (x.toNat : Int)) = (l.map fun x => (x.toNat : Int)).map (Value.int .u8) := by simp
    rw [hm] at hl
    rw [run_bytesToString w a l.length c _ hl]
    congr 3
    have : ∀ (l : List UInt8) (r : ByteArray), (l.map fun x => (x.toNat : Int)).foldl (fun r n => r.push (UInt8.ofNat n.toNat)) r = ⟨r.data ++ l.toArray⟩ := by
      intro l
      induction l with
      | nil => intro r; simp
      | cons x t ih => intro r; simp only [List.map_cons, List.foldl_cons]; rw [ih]; simp [ByteArray.push]
    rw [this]
    have he : ByteArray.empty.data = #[] := rfl
    rw [he]; simp
end Go.E
