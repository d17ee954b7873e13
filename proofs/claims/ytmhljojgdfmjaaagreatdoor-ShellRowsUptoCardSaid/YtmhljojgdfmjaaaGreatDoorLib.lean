/- The library's contracts, said of lists of bytes and of frames. -/
import Derived.Test.YtmhljojgdfmjaaaGreatDoorEng
import Derived.Test.YtmhljojgdfmjaaaGreatDoorRep
import Derived.Test.YtmhljojgdfmjaaaGreatDoorFacts
import Derived.Test.YtmhljojgdfmjaaaGreatDoorShelf
import Derived.Test.YtmhljojgdfmjaaaGreatDoorEngB
import Derived.Test.YtmhljojgdfmjaaaGreatDoorDec
import Derived.Lib.AtoiAllCases
namespace Go.Proofs.YtmhljojgdfmjaaaGreatDoor
open Go.E Go.Sh
set_option linter.unusedVariables false
set_option linter.unusedSimpArgs false
set_option maxRecDepth 100000
set_option maxHeartbeats 1000000

theorem Fr.grow {M : List Nat} (w : World) (os : Array Obj) : Fr M w (Sort.grow w os) :=
  ⟨rfl, rfl, rfl, by simp [Sort.grow], fun k hk _ => by simp [Sort.grow, Array.getElem?_append_left hk]⟩
theorem Fr.bytes {M : List Nat} (w : World) (e : TypeId) (s : ByteArray) : Fr M w (Lib.bytesWorld w e s) :=
  ⟨rfl, rfl, rfl, by rw [Lib.bytesWorld_size]; omega, fun k hk _ => Lib.bytesWorld_at_old w e s k hk⟩

/-- the library's variables, as they lie -/
structure Glob (w : World) : Prop where
  sz : 8 ≤ w.heap.size
  mx : ∃ m, w.cell? ⟨0, 0, none⟩ = some (.int .i64 m)
  tab : Lib.TabIs Tryz.prog w "internal/strconv.uint64pow10" .u64 Lib.pow10Tab
  syn : ∃ tp p, w.var? Tryz.prog "strconv.ErrSyntax" = some #[.iface tp p]
  rng : ∃ tp p, w.var? Tryz.prog "strconv.ErrRange" = some #[.iface tp p]

theorem g1 : Tryz.prog.globalNamed "internal/strconv.uint64pow10" = some 1 := by kernel_rfl
theorem g2 : Tryz.prog.globalNamed "strconv.ErrSyntax" = some 2 := by kernel_rfl
theorem g3 : Tryz.prog.globalNamed "strconv.ErrRange" = some 3 := by kernel_rfl
theorem var_fr {w w' : World} {n : String} {g : Nat} (hg : Tryz.prog.globalNamed n = some g) (h : w'.heap[g]? = w.heap[g]?) : w'.var? Tryz.prog n = w.var? Tryz.prog n := by
  simp only [World.var?, hg, Option.bind_some, h]
theorem Glob.fr {M : List Nat} {w w' : World} (h : Glob w) (hf : Fr M w w') (hm : ∀ k, k ∈ M → 8 ≤ k) : Glob w' := by
  have hb : ∀ k, k < 8 → w'.heap[k]? = w.heap[k]? := fun k hk => hf.block k (Nat.lt_of_lt_of_le hk h.sz) fun hc => by have := hm k hc; omega
  refine ⟨Nat.le_trans h.sz hf.size, ?_, ?_, ?_, ?_⟩
  · obtain ⟨m, hm⟩ := h.mx
    exact ⟨m, (World.cell?_of_block (w := w) (a := ⟨0, 0, none⟩) (hb 0 (by omega))).trans hm⟩
  · exact (var_fr g1 (hb 1 (by omega))).trans h.tab
  · obtain ⟨tp, p, hx⟩ := h.syn; exact ⟨tp, p, (var_fr g2 (hb 2 (by omega))).trans hx⟩
  · obtain ⟨tp, p, hx⟩ := h.rng; exact ⟨tp, p, (var_fr g3 (hb 3 (by omega))).trans hx⟩
theorem Glob.fr0 {w w' : World} (h : Glob w) (hf : Fr [] w w') : Glob w' := h.fr hf (by simp)

theorem Does.of_calls {f : FuncId} {args : Array Value} {w : World} {v : Value} {Q Q' : World → Prop} (h : Calls Tryz.prog f args w fun e w' => e = .returned v ∧ Q w') (hq : ∀ w', Q w' → Q' w') : Does Tryz.prog f args w fun r w' => r = v ∧ Q' w' :=
  Calls.mono h fun e w' ⟨he, hw⟩ => ⟨v, he, rfl, hq w' hw⟩

theorem size_mk (l : List UInt8) : (⟨l.toArray⟩ : ByteArray).size = l.length := by show l.toArray.size = _; simp

theorem Itoa_does (n : Int) (w : World) (hg : Glob w) (h0 : -9223372036854775808 ≤ n) (h1 : n ≤ 9223372036854775807) :
    Does Tryz.prog 35 #[.int .i64 n] w fun r w' => r = .string ⟨(Lib.itoa n).toArray⟩ ∧ Fr [] w w' :=
  Does.of_calls (Tryz.strconv_Itoa n h0 h1 w hg.tab) fun w' ⟨k, os, h⟩ => by subst h; exact (Fr.drewN [] w k).trans (Fr.grow _ os)

theorem Atoi_does (l : List UInt8) (w : World) (hg : Glob w) (hl : l.length ≤ 1048576) : Does Tryz.prog 66 #[.string ⟨l.toArray⟩] w fun r w' =>
    ∃ x e, r = .tuple #[.int .i64 x, e] ∧ i64 x ∧ (∀ v, atoiOk l = some v → x = v) ∧ IsErr e (atoiOk l).isNone ∧ Fr [] w w' := by
  unfold atoiOk
  obtain ⟨t1, p1, hs⟩ := hg.syn
  obtain ⟨t2, p2, hr⟩ := hg.rng
  have hz := size_mk l
  cases h : Lib.atoiAll l
  case ok v =>
    exact Calls.mono (Tryz.strconv_Atoi_ok ⟨l.toArray⟩ (by omega) v (by simpa using h) w) fun e w' ⟨he, hw⟩ => ⟨_, he, v, .nilIface, rfl, Lib.atoiAll_bounds h, fun u hu => Option.some.inj hu, rfl, by
      rcases hw with rfl | ⟨t, rfl⟩
      · exact Fr.refl [] _
      · exact Fr.bytes _ _ _⟩
  case range =>
    exact Calls.mono (Tryz.strconv_Atoi_range_var ⟨l.toArray⟩ (by omega) (by simpa using h) t2 p2 w hr) fun e w' ⟨N, he, _, _, hb⟩ => ⟨_, he, _, _, rfl, (by unfold i64 Lib.atoiSat; split <;> omega), fun u hu => (by cases hu), ⟨_, _, rfl⟩, Fr.of_below hb⟩
  have h2 : Lib.atoiAll l = Lib.NumEnd.ofOption Option.none := h
  exact Calls.mono (Tryz.strconv_Atoi_syntax_var ⟨l.toArray⟩ (by omega) h2 t1 p1 w hs) fun e w' ⟨N, he, _, _, hb⟩ => ⟨_, he, _, _, rfl, (by unfold i64; omega), fun u hu => (by cases hu), ⟨_, _, rfl⟩, Fr.of_below hb⟩

theorem HasPrefix_does (l m : List UInt8) (w : World) : Does Tryz.prog 50 #[.string ⟨l.toArray⟩, .string ⟨m.toArray⟩] w fun r w' => r = .bool (m.isPrefixOf l) ∧ Fr [] w w' :=
  Does.of_calls (Q := fun w' => w' = w) (by simpa [Lib.hasPrefix] using Tryz.strings_HasPrefix ⟨l.toArray⟩ ⟨m.toArray⟩ w) fun w' h => h ▸ Fr.refl [] w
theorem TrimPrefix_does (l m : List UInt8) (w : World) : Does Tryz.prog 67 #[.string ⟨l.toArray⟩, .string ⟨m.toArray⟩] w fun r w' => r = .string ⟨(Lib.trimPrefix l m).toArray⟩ ∧ Fr [] w w' :=
  Does.of_calls (Q := fun w' => w' = w) (by simpa using Tryz.strings_TrimPrefix ⟨l.toArray⟩ ⟨m.toArray⟩ w) fun w' h => h ▸ Fr.refl [] w
theorem CutSuffix_does (l m : List UInt8) (w : World) (hl : l.length ≤ 1048576) : Does Tryz.prog 40 #[.string ⟨l.toArray⟩, .string ⟨m.toArray⟩] w fun r w' => r = .tuple #[.string ⟨(Lib.trimSuffix l m).toArray⟩, .bool (Lib.hasSuffix l m)] ∧ Fr [] w w' :=
  Does.of_calls (Q := fun w' => w' = w) (by simpa using Tryz.strings_CutSuffix ⟨l.toArray⟩ ⟨m.toArray⟩ w (by rw [size_mk]; omega)) fun w' h => h ▸ Fr.refl [] w
theorem IndexByte_does (l : List UInt8) (x : UInt8) (w : World) : Does Tryz.prog 51 #[.string ⟨l.toArray⟩, .int .u8 (x.toNat : Int)] w fun r w' => r = .int .i64 (Lib.indexByte l x) ∧ Fr [] w w' :=
  Does.of_calls (Q := fun w' => w' = w) (by
    have := Tryz.strings_IndexByte ⟨l.toArray⟩ (x.toNat : Int) w
    simpa using this) fun w' h => h ▸ Fr.refl [] w
theorem Cut_does (l m : List UInt8) (w : World) (hg : Glob w) (hl : l.length ≤ 1048576) : Does Tryz.prog 65 #[.string ⟨l.toArray⟩, .string ⟨m.toArray⟩] w fun r w' => r = .tuple #[.string ⟨(Lib.cut l m).1.toArray⟩, .string ⟨(Lib.cut l m).2.1.toArray⟩, .bool (Lib.cut l m).2.2] ∧ Fr [] w w' := by
  obtain ⟨m0, hm⟩ := hg.mx
  exact Does.of_calls (Q := fun w' => ∃ n, w' = w.drewN n) (by simpa using Tryz.strings_Cut ⟨l.toArray⟩ ⟨m.toArray⟩ m0 w (by rw [size_mk]; omega) hm) fun w' ⟨n, h⟩ => h ▸ Fr.drewN [] w n

/-- strings.Join, strings.Split over Rp.str -/
theorem Join_does (v : Value) (xs : List (List UInt8)) (sep : List UInt8) (ok : Nat → Prop) (w : World) (hv : Sl Rp.str ok w v xs) (hn : xs.length ≤ 1048576) (hl : (Lib.join xs sep).length ≤ 68719476736) :
    Does Tryz.prog 60 #[v, .string ⟨sep.toArray⟩] w fun r w' => r = .string ⟨(Lib.join xs sep).toArray⟩ ∧ Fr [] w w' := by
  obtain ⟨A, c, rfl, hc, he⟩ := hv
  cases xs with
  | nil => exact Does.of_calls (Q := fun w' => w' = w) (by simpa [Lib.join_nil] using Tryz.strings_Join_none A c ⟨sep.toArray⟩ w) fun w' h => h ▸ Fr.refl [] w
  | cons x r =>
    obtain ⟨g, off, cs, hA, _, hlt, _, _⟩ := he 0 x rfl
    subst hA
    have hmap : ((x :: r).map fun l => (⟨l.toArray⟩ : ByteArray)).map (·.data.toList) = x :: r := by
      rw [List.map_map]; conv => rhs; rw [← List.map_id (x :: r)]
      rfl
    have hlen : ((x :: r).map fun l => (⟨l.toArray⟩ : ByteArray)).length = (x :: r).length := by simp
    have h := Tryz.strings_Join g off c ((x :: r).map fun l => (⟨l.toArray⟩ : ByteArray)) ⟨sep.toArray⟩ w (by
      intro j y hj
      rw [List.getElem?_map] at hj
      cases hx : (x :: r)[j]? with
      | none => rw [hx] at hj; cases hj
      | some l =>
        rw [hx] at hj
        obtain ⟨g', off', cs', hA', _, _, hk, hr⟩ := he j l hx
        cases hA'
        have hk' : cs' = [.string ⟨l.toArray⟩] := hk
        subst hk'
        cases hj
        have := hr 0 _ rfl
        simpa [Rp.str] using this) hlt (by rw [hlen]; omega) (by rw [hlen]; exact hc) (by rw [hmap]; exact Nat.le_trans hl (by decide))
    rw [hmap, hlen] at h
    exact Does.of_calls h fun w' hb => Fr.of_below hb

end Go.Proofs.YtmhljojgdfmjaaaGreatDoor
