/- ShellRows: whatever rows and text hold together at most 2^20 values and letters: the law returns true, and nothing that was there turns. -/
import Derived.Test.YtmhljojgdfmjaaaGreatDoorRowJ
import Derived.Test.YtmhljojgdfmjaaaGreatDoorLa7
import Derived.Test.YtmhljojgdfmjaaaGreatDoorOpenEv
namespace Go.Proofs.YtmhljojgdfmjaaaGreatDoor
open Go.ChangeShapes Go.WideShapes Go.ChangeAt Go.RowKit Go.E Go.Sh
open Go.ChangeMaps (open_string)
set_option maxRecDepth 100000
theorem okw_sliceR {t e : TypeId} {W : World} {b : Nat} {v : Value} (ht : Tryz.prog.underlying t = some (.slice e)) (h : Value.okWide Tryz.prog W .any b t v) : v.cells.toList = [v] := by
  cases v <;> first
    | rfl
    | (exfalso; simp [Value.okWide, ht, Cell.okWide, Cell.ok] at h)
theorem srows_reads (os : Os) {H : Type} (enc : TypeId × Value → H) : ∃ places, DataW.whole enc Tryz.prog ((laidWorld os).forCall (fun _ _ => 0) ⟨#[], #[.slice none 0 0, .string ⟨#[]⟩], []⟩).memory Tryz.f3.params.toList Rows.shellRowsSpec.vars false #[Value.slice none 0 0, Value.string ⟨#[]⟩].toList 8 = some ([.nil, .lit (.string [])], [], places) :=
  ⟨[], by kernel_rfl⟩
theorem srows_contract (H : Type) (enc : TypeId × Value → H) (W : World) (base : Nat) (args : Array Value) (ds gs : List (DataW H)) (before : List MemPlace)
    (hval : ∀ (j : Nat) t v, Tryz.f3.params[j]? = some t → args[j]? = some v → Value.okWide Tryz.prog W .any base t v)
    (hW : DataW.Whole enc Tryz.prog Tryz.f3.params.toList Rows.shellRowsSpec.vars false W args.toList ds gs before) (hk : Rows.uptoSmall H (ds ++ gs) = true) (hg : Glob W) :
    Calls Tryz.prog 3 args W fun e W' => ∃ v, e = .returned v ∧ Rows.shellRowsSpec.post enc Tryz.prog Tryz.f3 false true false false W args v W' := by
  have hW' := hW
  obtain ⟨p, q, hA0, hV, rfl, hfz, hnd⟩ := hW
  have hA : DataW.TrodAll enc Tryz.prog W 0 (fun _ => true) true Tryz.f3.params.toList args.toList ds p := hA0
  rw [Tryz.params3] at hA hval
  obtain ⟨v0, v1, d0, d1, p0, p1, rfl, rfl, rfl, h0, h1⟩ := trodAll_two hA
  obtain ⟨rfl, rfl⟩ := trodVars_none hV
  obtain ⟨⟨⟨s⟩⟩, rfl, rfl, rfl, ws⟩ := open_string Tryz.underlying9 (hval 1 9 v1 rfl rfl) h1
  have hb := bulks.bound hk
  simp only [List.append_nil, Rows.uptoBulkAll, bulks.string_eq] at hb
  have hb2 : Rows.uptoBulk d0 + (s.length + 1 + 0) ≤ 1048576 := hb
  obtain ⟨m, hm, hmb⟩ := open_list Tryz.underlying22 (by kernel_rfl) (by decide) opens_rw h0 (by omega) (okw_sliceR Tryz.underlying22 (hval 0 22 v0 rfl rfl))
  have e2 : total rwWt m = (m.map rwWt).sum := rfl
  refine Calls.mono (srows_calls W hg _ v0 m s hm (by omega) (by omega) (by omega)) fun e W' ⟨v, he, hv, hf⟩ => ?_
  subst he; subst hv
  exact ⟨_, rfl, post_law laidOut0 (by rw [Tryz.params3]; intro t ht; simp at ht; rcases ht with rfl | rfl <;> exact ⟨by kernel_rfl, of_decide_eq_true (by kernel_rfl)⟩) rfl (by kernel_rfl) Tryz.underlying4 hW' rfl rfl rfl hf⟩
theorem srows_lifted (os : Os) (started : os.Started) (H : Type) (enc : TypeId × Value → H) (F : Stop.Interp) :
    ReturnsInHanded {} Tryz.checked os 3 .any ((Rows.OpenSpec.upto Rows.shellRowsSpec).preRow enc Tryz.prog Tryz.f3 Rows.shellRowsUptoRow.domain false Rows.shellRowsUptoRow.laid) (((Rows.OpenSpec.upto Rows.shellRowsSpec).at F).post enc Tryz.prog Tryz.f3 false true false false) := by
  obtain ⟨places, hx⟩ := srows_reads os enc
  refine returnsInHanded_of_row (C := Tryz.checked) (s := Rows.OpenSpec.upto Rows.shellRowsSpec) own0 started (by kernel_rfl) Tryz.func3
    (witness_row_atRef (enc := enc) (C := Tryz.checked) false (laidWorld os) #[.slice none 0 0, .string ⟨#[]⟩] (World.laidAll_os _ _ _) (by kernel_rfl) (by kernel_rfl) (by kernel_rfl)
      (OpenSpec.preRow_of_cond 8 hx (by kernel_rfl) (fun k hk => by cases hk; kernel_rfl) (by kernel_rfl) (laid_met os _))) ?_
  intro W base args ds gs before hval hW _ hcond _ hL hsh _
  exact srows_contract H enc W base args ds gs before hval hW (hcond _ rfl) (glob_of hL hsh)
theorem srows_said : Rows.ShellRowsUptoSaid :=
  OpenClaim.holds_of_cond 3 Tryz.f3 rfl rfl rfl rfl rfl rfl rfl ⟨rfl, rfl, rfl, rfl, rfl⟩ rfl rfl rfl rfl rfl (by kernel_rfl) Tryz.func3 (by kernel_rfl)
    (of_decide_eq_true (by kernel_rfl)) (by unfold Func.isWrapper; first | (rw [if_pos (by decide +kernel)]; kernel_rfl) | (rw [if_neg (by decide +kernel)]; exact ⟨rfl, rfl⟩))
    (fun os started H enc _ F => by rw [OpenClaim.pre_eq_preRow]; exact srows_lifted os started H enc F)
theorem srows_plain (f : FuncId) (fn : Func) (hf : Tryz.pinned.checked.prog.funcNamed "escritoire/escritoirelaw31.ShellRows" = some f) (hfn : Tryz.pinned.checked.prog.funcs[f]? = some fn) :
    true = Tryz.pinned.checked.prog.looks [] ∧ ∀ (j : Nat) t, fn.params[j]? = some t → Tryz.pinned.checked.prog.wantsStandIn t = false := by
  obtain rfl : f = 3 := Option.some.inj ((show Tryz.prog.funcNamed "escritoire/escritoirelaw31.ShellRows" = some 3 by kernel_rfl).symm.trans hf) |>.symm
  obtain rfl : fn = Tryz.f3 := (Option.some.inj (Tryz.func3.symm.trans hfn)).symm
  refine ⟨by kernel_rfl, fun j t ht => ?_⟩
  rw [Tryz.params3] at ht
  have ht' : t = 22 ∨ t = 9 := by simpa using Array.mem_of_getElem? ht
  rcases ht' with rfl | rfl
  · exact (show Tryz.prog.wantsStandIn 22 = false by kernel_rfl)
  · exact (show Tryz.prog.wantsStandIn 9 = false by kernel_rfl)
theorem srows_card : Rows.ShellRowsUptoCardSaid :=
  Claim7.holds_tied_plain_at .later [] _ _ _ _ srows_said (fun _ h => by cases h) (by kernel_rfl) (fun _ h => by cases h) shellRowsUpto_row_tie rfl ⟨rfl, rfl⟩ (by kernel_rfl) rfl srows_plain (by kernel_rfl)
end Go.Proofs.YtmhljojgdfmjaaaGreatDoor
#print axioms Go.Proofs.YtmhljojgdfmjaaaGreatDoor.srows_card
