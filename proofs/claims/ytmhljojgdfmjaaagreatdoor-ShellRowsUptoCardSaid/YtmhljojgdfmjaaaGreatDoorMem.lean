/- Events and rows in memory; the library's contracts on them. -/
import Derived.Test.YtmhljojgdfmjaaaGreatDoorData
import Derived.Test.YtmhljojgdfmjaaaGreatDoorLib
import Derived.Test.YtmhljojgdfmjaaaGreatDoorEngB
import Derived.Test.YtmhljojgdfmjaaaGreatDoorOwn
namespace Go.E
open Go Go.Sh
set_option linter.unusedVariables false
def EvK (ok : Nat → Prop) (w : World) (cs : List Value) (e : Ev) : Prop :=
  ∃ A1 c1 A2 c2, cs = [.int .i64 e.kind, .int .i64 e.conn, .int .i64 e.n, .slice A1 e.data.length c1, .slice A2 e.picks.length c2] ∧ e.data.length ≤ c1 ∧ El Rp.u8 ok w A1 e.data ∧ e.picks.length ≤ c2 ∧ El (Rp.int .u16) ok w A2 e.picks ∧ e.fits
def Rp.ev : Rp Ev where
  n := 5
  K := EvK
  len h := by obtain ⟨A1, c1, A2, c2, rfl, _⟩ := h; rfl
  one h := by obtain ⟨A1, c1, A2, c2, rfl, _⟩ := h; simp [Value.oneCell']
  fr h hf hm := by
    obtain ⟨A1, c1, A2, c2, h1, h2, h3, h4, h5, h6⟩ := h
    exact ⟨A1, c1, A2, c2, h1, h2, h3.fr hf hm, h4, h5.fr hf hm, h6⟩
  weak h hm := by
    obtain ⟨A1, c1, A2, c2, h1, h2, h3, h4, h5, h6⟩ := h
    exact ⟨A1, c1, A2, c2, h1, h2, h3.weak hm, h4, h5.weak hm, h6⟩
def RwK (ok : Nat → Prop) (w : World) (cs : List Value) (e : Rw) : Prop :=
  ∃ A1 c1, cs = [.int .i64 e.kind, .int .i64 e.err, .int .i64 e.conn, .int .i64 e.n, .slice A1 e.data.length c1, .bool e.ended] ∧ e.data.length ≤ c1 ∧ El Rp.u8 ok w A1 e.data ∧ e.fits
def Rp.rw : Rp Rw where
  n := 6
  K := RwK
  len h := by obtain ⟨A1, c1, rfl, _⟩ := h; rfl
  one h := by obtain ⟨A1, c1, rfl, _⟩ := h; simp [Value.oneCell']
  fr h hf hm := by
    obtain ⟨A1, c1, h1, h2, h3, h4⟩ := h
    exact ⟨A1, c1, h1, h2, h3.fr hf hm, h4⟩
  weak h hm := by
    obtain ⟨A1, c1, h1, h2, h3, h4⟩ := h
    exact ⟨A1, c1, h1, h2, h3.weak hm, h4⟩
/-- a block of words is a slice of words -/
theorem sl_words {w : World} {k t : Nat} {xs : List (List UInt8)} {z : Nat × Nat} (h : w.heap[k]? = some (.cells (xs.map fun x => Value.string ⟨x.toArray⟩).toArray t z)) : Sl Rp.str (fun _ => True) w (.slice (some ⟨k, 0, none⟩) xs.length xs.length) xs := by
  refine ⟨_, _, rfl, Nat.le_refl _, ?_⟩
  intro i x hi
  refine ⟨k, 0, [.string ⟨x.toArray⟩], rfl, trivial, (Array.getElem?_eq_some_iff.1 h).1, rfl, ?_⟩
  intro j v hj
  have hj0 : j = 0 := by have := (List.getElem?_eq_some_iff.1 hj).1; simp at this; omega
  subst hj0
  simp only [List.getElem?_cons_zero, Option.some.injEq] at hj
  subst hj
  simp [World.cell?, h, Rp.str, hi]
theorem EvK.fr0 {ok : Nat → Prop} {w w' : World} {cs : List Value} {e : Ev} (h : EvK ok w cs e) (hf : Fr [] w w') : EvK ok w' cs e := Rp.ev.fr h hf (by simp)
theorem RwK.fr0 {ok : Nat → Prop} {w w' : World} {cs : List Value} {e : Rw} (h : RwK ok w cs e) (hf : Fr [] w w') : RwK ok w' cs e := Rp.rw.fr h hf (by simp)
theorem EvK.fr {ok : Nat → Prop} {M : List Nat} {w w' : World} {cs : List Value} {e : Ev} (h : EvK ok w cs e) (hf : Fr M w w') (hm : ∀ g, ok g → g ∉ M) : EvK ok w' cs e := Rp.ev.fr h hf hm
theorem RwK.fr {ok : Nat → Prop} {M : List Nat} {w w' : World} {cs : List Value} {e : Rw} (h : RwK ok w cs e) (hf : Fr M w w') (hm : ∀ g, ok g → g ∉ M) : RwK ok w' cs e := Rp.rw.fr h hf hm
theorem rwK_mk {ok : Nat → Prop} {w : World} {kind err conn n : Int} {ended : Bool} {A : Option Addr} {m c : Nat} {l : List UInt8} (hB : By ok w (.slice A m c) l) (f1 : i64 kind) (f2 : i64 err) (f3 : i64 conn) (f4 : i64 n) (f5 : l.length ≤ 1048576) : RwK ok w [.int .i64 kind, .int .i64 err, .int .i64 conn, .int .i64 n, .slice A m c, .bool ended] ⟨kind, err, conn, n, l, ended⟩ := by
  obtain ⟨A1, c1, h1, h2, h3⟩ := hB
  cases h1
  exact ⟨_, _, rfl, h2, h3, f1, f2, f3, f4, f5⟩
theorem evK_mk {ok : Nat → Prop} {w : World} {ev : Ev} {A A2 : Option Addr} {m c m2 c2 : Nat} (hB : By ok w (.slice A m c) ev.data) (hP : Sl (Rp.int .u16) ok w (.slice A2 m2 c2) ev.picks) (hf : ev.fits) : EvK ok w [.int .i64 ev.kind, .int .i64 ev.conn, .int .i64 ev.n, .slice A m c, .slice A2 m2 c2] ev := by
  obtain ⟨A1, c1, h1, h2, h3⟩ := hB
  cases h1
  obtain ⟨A1, c1, h1, h4, h5⟩ := hP
  cases h1
  exact ⟨_, _, _, _, rfl, h2, h3, h4, h5, hf⟩
theorem EvK.fits {ok : Nat → Prop} {w : World} {cs : List Value} {e : Ev} (h : EvK ok w cs e) : e.fits := by obtain ⟨_, _, _, _, _, _, _, _, _, h⟩ := h; exact h
theorem RwK.fits {ok : Nat → Prop} {w : World} {cs : List Value} {e : Rw} (h : RwK ok w cs e) : e.fits := by obtain ⟨_, _, _, _, _, h⟩ := h; exact h
theorem below_fr {B : Nat} {w w' : World} (h : Go.RowKit.Below B w w') : ∃ M : List Nat, (∀ k, k ∈ M → B ≤ k) ∧ Fr M w w' := by
  refine ⟨(List.range w.heap.size).filter (B ≤ ·), by simp, h.os, h.tape, h.output, h.size, fun k hk hn => h.block k ?_⟩
  simp only [List.mem_filter, List.mem_range, decide_eq_true_eq, not_and] at hn
  have := hn hk
  omega
end Go.E
namespace Go.Proofs.YtmhljojgdfmjaaaGreatDoor
open Go.E Go.Sh
set_option linter.unusedVariables false
set_option linter.unusedSimpArgs false
set_option maxRecDepth 100000
set_option maxHeartbeats 1000000
def kindsB : List UInt8 := [32, 99, 111, 110, 110, 101, 99, 116, 32, 112, 117, 115, 104, 32, 99, 108, 111, 115, 101, 32, 116, 105, 99, 107, 32, 115, 116, 101, 112, 32, 113, 117, 111, 116, 97, 32, 102, 117, 115, 101, 32, 99, 114, 97, 115, 104, 32, 111, 112, 101, 110]
theorem kinds_split : (Lib.splitB ⟨#[32]⟩ 0 (Lib.countB ⟨kindsB.toArray⟩ ⟨#[32]⟩) ⟨kindsB.toArray⟩).map Value.string = names.map fun x => Value.string ⟨x.toArray⟩ := by kernel_rfl
theorem kinds_count : Lib.countB ⟨kindsB.toArray⟩ ⟨#[32]⟩ = 9 := by kernel_rfl
theorem Kinds_does (w : World) (hg : Glob w) : Does Tryz.prog 59 #[.string ⟨kindsB.toArray⟩, .string ⟨([32] : List UInt8).toArray⟩] w fun r w' => ∃ k, r = .slice (some ⟨k, 0, none⟩) 10 10 ∧ w.heap.size ≤ k ∧ Fr [] w w' ∧ w'.heap[k]? = some (.cells (names.map fun x => Value.string ⟨x.toArray⟩).toArray 9 (0, 0)) ∧ El Rp.str (fun _ => True) w' (some ⟨k, 0, none⟩) names := by
  obtain ⟨m, hm⟩ := hg.mx
  have h := Tryz.strings_Split ⟨kindsB.toArray⟩ ⟨#[32]⟩ m w (by decide) hm (by decide)
  rw [kinds_split, kinds_count] at h
  refine Calls.mono h fun e w' ⟨he, hw⟩ => ⟨_, he, _, rfl, Nat.le_refl _, ?_⟩
  subst hw
  have hn := New.of_alloc w (.cells (names.map fun x => Value.string ⟨x.toArray⟩).toArray 9)
  obtain ⟨A, c, hA, _, hE⟩ := sl_words hn.at_
  cases hA
  exact ⟨hn.fr, hn.at_, hE⟩
theorem nameL_at {j : Nat} {x : List UInt8} (h : names[j]? = some x) (h1 : 1 ≤ j) : nameL (j : Int) = x := by
  have hj : j < 10 := (List.getElem?_eq_some_iff.1 h).1
  unfold nameL
  rw [if_neg (by omega)]
  simp [List.getD, h]
theorem nameL_no {k : Int} (h : k < 1 ∨ 10 ≤ k) : nameL k = [] := by unfold nameL; rw [if_pos h]
theorem Index_does (s : List UInt8) (w : World) (k : Nat) (z : Nat × Nat) (hk : w.heap[k]? = some (.cells (names.map fun x => Value.string ⟨x.toArray⟩).toArray 9 z)) :
    Does Tryz.prog 64 #[.slice (some ⟨k, 0, none⟩) 10 10, .string ⟨s.toArray⟩] w fun r w' => r = .int .i64 (kindOf s) ∧ Fr [] w w' :=
  Does.of_calls (Q := fun w' => w' = w) (Tryz.slices_Index_string k 0 10 10 namesB ⟨s.toArray⟩ w (by decide) (by decide) (by
    intro j hj
    have hj : j < 10 := by simpa [namesB, names] using hj
    have : ∀ j : Fin 10, (names.map fun x => Value.string ⟨x.toArray⟩)[j.val]? = some (.string (namesB.getD j.val ByteArray.empty)) := by
      intro j
      have : j.val = 0 ∨ j.val = 1 ∨ j.val = 2 ∨ j.val = 3 ∨ j.val = 4 ∨ j.val = 5 ∨ j.val = 6 ∨ j.val = 7 ∨ j.val = 8 ∨ j.val = 9 := by omega
      rcases this with h | h | h | h | h | h | h | h | h | h <;> rw [h] <;> rfl
    have := this ⟨j, hj⟩
    simp [World.cell?, hk, this])) fun w' h => h ▸ Fr.refl [] w
/-- a reader at block g -/
abbrev Rd (w : World) (g : Nat) (s : List UInt8) (bad : Bool) : Prop := w.heap[g]? = some (.cells #[.string ⟨s.toArray⟩, .bool bad] 92 (0, 0))
/-- strings.Join of two, of three -/
theorem Join_block (w : World) (k : Nat) (xs : List (List UInt8)) (z : Nat × Nat) (hk : w.heap[k]? = some (.cells (xs.map fun x => Value.string ⟨x.toArray⟩).toArray 9 z)) (hn : xs.length ≤ 1048576) (hl : (Lib.join xs [32]).length ≤ 68719476736) :
    Does Tryz.prog 60 #[.slice (some ⟨k, 0, none⟩) xs.length xs.length, .string ⟨([32] : List UInt8).toArray⟩] w fun r w' => r = .string ⟨(Lib.join xs [32]).toArray⟩ ∧ Fr [] w w' :=
  Join_does _ xs [32] _ w (sl_words hk) hn hl
theorem join2 (a b : List UInt8) : Lib.join [a, b] [32] = sp a b := by simp [Lib.join, List.intercalate, sp, List.intersperse]
theorem join3 (a b c : List UInt8) : Lib.join [a, b, c] [32] = sp a (sp b c) := by simp [Lib.join, List.intercalate, sp, List.intersperse]
/-! ### what the builder holds -/
theorem BLen_does (w : World) (base g : Nat) (l : List UInt8) (h : Bld 76 5 base g w l) : Does Tryz.prog 31 #[.pointer (some ⟨g, 0, none⟩)] w fun r w' => r = .int .i64 (l.length : Int) ∧ Fr [] w w' := by
  have := Tryz.Builder_Len base g _ w (h.is (by decide))
  rw [List.length_map] at this
  exact Does.of_calls this fun w' hw => hw ▸ Fr.refl [] w
theorem BString_does (w : World) (base g : Nat) (l : List UInt8) (h : Bld 76 5 base g w l) (hb : base ≤ w.heap.size) : Does Tryz.prog 32 #[.pointer (some ⟨g, 0, none⟩)] w fun r w' => r = .string ⟨l.toArray⟩ ∧ ∃ M : List Nat, (∀ k, k ∈ M → base ≤ k) ∧ Fr M w w' :=
  Does.of_calls (Tryz.Builder_String_any base g l w (h.is (by decide)) hb) fun w' hw => below_fr hw
theorem Contains_does (k : Nat) (zs : List Int) (x : Int) (w : World) (hn : zs.length ≤ 1000) (hc : ∀ j, j < zs.length → w.cell? ⟨k, 0 + j, none⟩ = some (.int .i64 (zs.getD j 0))) :
    Does Tryz.prog 53 #[.slice (some ⟨k, 0, none⟩) zs.length zs.length, .int .i64 x] w fun r w' => r = .bool (zs.contains x) ∧ w' = w := by
  have h := Tryz.slices_Contains_int k 0 zs.length zs.length zs x w (Nat.le_refl _) (by omega) hc
  rw [List.take_length] at h
  exact Does.of_calls h fun w' hw => hw
/-! ### an event under way -/
/-- what has been read: none: a part was none -/
def Said (o : Option (Ev × List UInt8)) (ev : Ev) (s : List UInt8) (bad : Bool) : Prop := match o with | none => bad = true | some p => bad = false ∧ ev = p.1 ∧ s = p.2
/-- the reader's box q, the reader g, the event e -/
def SInv (base q g e : Nat) (o : Option (Ev × List UInt8)) (w : World) : Prop :=
  ∃ ev s bad A c P, w.heap[q]? = some (.cells #[.pointer (some ⟨g, 0, none⟩)] 90 (0, 0)) ∧ Rd w g s bad ∧
    w.heap[e]? = some (.cells #[.int .i64 ev.kind, .int .i64 ev.conn, .int .i64 ev.n, .slice A ev.data.length c, P] 66 (0, 0)) ∧
    By (fun b => base ≤ b ∧ b ∉ [q, g, e]) w (.slice A ev.data.length c) ev.data ∧ OwnL (Rp.int .u16) base 67 [q, g, e] w P ev.picks ∧ (ev.picks = [] → P = .slice none 0 0) ∧ ev.fits ∧ s.length ≤ 1048576 ∧ Said o ev s bad
theorem rd_said {s s9 : List UInt8} {ev : Ev} (h : Said (reads [8] doPicks (reads [2] doData (reads [4, 6, 7, 8] doNum (reads [2, 3] doConn (evS0 s))))) ev s9 false) : rdEv s = some ev := by
  unfold rdEv
  generalize reads [8] doPicks (reads [2] doData (reads [4, 6, 7, 8] doNum (reads [2, 3] doConn (evS0 s)))) = o at h
  cases o with
  | none => cases h
  | some p => rw [h.2.1]; rfl
theorem rd_none {s s9 : List UInt8} {ev : Ev} (h : Said (reads [8] doPicks (reads [2] doData (reads [4, 6, 7, 8] doNum (reads [2, 3] doConn (evS0 s))))) ev s9 true) : rdEv s = none := by
  unfold rdEv
  generalize reads [8] doPicks (reads [2] doData (reads [4, 6, 7, 8] doNum (reads [2, 3] doConn (evS0 s)))) = o at h
  cases o with
  | none => rfl
  | some p => cases h.1
theorem zcell {w : World} {k t i : Nat} {zs : List Int} (h : w.heap[k]? = some (.cells (zs.map fun x => Value.int .i64 x).toArray t (0, 0))) (hi : i < zs.length) : w.cell? ⟨k, 0 + i, none⟩ = some (.int .i64 (zs.getD i 0)) := by
  simp [World.cell?, h, List.getElem?_eq_getElem hi]
theorem SInv.fr0 {base q g e : Nat} {o : Option (Ev × List UInt8)} {w w' : World} (h : SInv base q g e o w) (hf : Fr [] w w') : SInv base q g e o w' := by
  obtain ⟨ev, s, bad, A, c, P, h1, h2, h3, h4, h5, h6, h7, h8, h9⟩ := h
  exact ⟨ev, s, bad, A, c, P, hf.at0 h1, hf.at0 h2, hf.at0 h3, h4.fr0 hf, h5.fr0 hf, h6, h7, h8, h9⟩
theorem fits0 {k : Int} (h : -1 ≤ k ∧ k ≤ 9) : (⟨k, 0, 0, [], []⟩ : Ev).fits := by
  refine ⟨?_, ?_, ?_, by simp, by simp, by simp⟩ <;> (unfold i64; simp only; omega)
end Go.Proofs.YtmhljojgdfmjaaaGreatDoor
