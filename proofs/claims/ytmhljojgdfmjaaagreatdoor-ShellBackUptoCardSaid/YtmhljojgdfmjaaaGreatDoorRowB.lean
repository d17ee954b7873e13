/- ShellBack: whatever events, rows and text hold together at most 2^20 values and letters: the law returns true, and nothing that was there turns. -/
import Derived.Test.YtmhljojgdfmjaaaGreatDoorRowJ
import Derived.Test.YtmhljojgdfmjaaaGreatDoorLa6
import Derived.Test.YtmhljojgdfmjaaaGreatDoorOpenEv
namespace Go.Proofs.YtmhljojgdfmjaaaGreatDoor
open Go.ChangeShapes Go.WideShapes Go.ChangeAt Go.RowKit Go.E Go.Sh
open Go.ChangeMaps (open_string)
set_option maxRecDepth 100000
theorem okw_slice {t e : TypeId} {W : World} {b : Nat} {v : Value} (ht : Tryz.prog.underlying t = some (.slice e)) (h : Value.okWide Tryz.prog W .any b t v) : v.cells.toList = [v] := by
  cases v <;> first
    | rfl
    | (exfalso; simp [Value.okWide, ht, Cell.okWide, Cell.ok] at h)
theorem backs_reads (os : Os) {H : Type} (enc : TypeId × Value → H) : ∃ places, DataW.whole enc Tryz.prog ((laidWorld os).forCall (fun _ _ => 0) ⟨#[], #[.slice none 0 0, .slice none 0 0, .string ⟨#[]⟩], []⟩).memory Tryz.f4.params.toList Rows.shellBackSpec.vars false #[Value.slice none 0 0, Value.slice none 0 0, Value.string ⟨#[]⟩].toList 8 = some ([.nil, .nil, .lit (.string [])], [], places) :=
  ⟨[], by kernel_rfl⟩
theorem backs_contract (H : Type) (enc : TypeId × Value → H) (W : World) (base : Nat) (args : Array Value) (ds gs : List (DataW H)) (before : List MemPlace)
    (hval : ∀ (j : Nat) t v, Tryz.f4.params[j]? = some t → args[j]? = some v → Value.okWide Tryz.prog W .any base t v)
    (hW : DataW.Whole enc Tryz.prog Tryz.f4.params.toList Rows.shellBackSpec.vars false W args.toList ds gs before) (hk : Rows.uptoSmall H (ds ++ gs) = true) (hg : Glob W) :
    Calls Tryz.prog 4 args W fun e W' => ∃ v, e = .returned v ∧ Rows.shellBackSpec.post enc Tryz.prog Tryz.f4 false true false false W args v W' := by
  have hW' := hW
  obtain ⟨p, q, hA0, hV, rfl, hfz, hnd⟩ := hW
  have hA : DataW.TrodAll enc Tryz.prog W 0 (fun _ => true) true Tryz.f4.params.toList args.toList ds p := hA0
  rw [Tryz.params4] at hA hval
  obtain ⟨v0, v1, v2, d0, d1, d2, p0, p1, p2, rfl, rfl, rfl, h0, h1, h2⟩ := trodAll_three hA
  obtain ⟨rfl, rfl⟩ := trodVars_none hV
  obtain ⟨⟨⟨s⟩⟩, rfl, rfl, rfl, ws⟩ := open_string Tryz.underlying9 (hval 2 9 v2 rfl rfl) h2
  have hb := bulks.bound hk
  simp only [List.append_nil, Rows.uptoBulkAll, bulks.string_eq] at hb
  have hb2 : Rows.uptoBulk d0 + (Rows.uptoBulk d1 + (s.length + 1 + 0)) ≤ 1048576 := hb
  obtain ⟨l, hl, hlb⟩ := open_list Tryz.underlying37 (by kernel_rfl) (by decide) opens_ev h0 (by omega) (okw_slice Tryz.underlying37 (hval 0 37 v0 rfl rfl))
  obtain ⟨m, hm, hmb⟩ := open_list Tryz.underlying22 (by kernel_rfl) (by decide) opens_rw h1 (by omega) (okw_slice Tryz.underlying22 (hval 1 22 v1 rfl rfl))
  have e1 : total evWt l = (l.map evWt).sum := rfl
  have e2 : total rwWt m = (m.map rwWt).sum := rfl
  refine Calls.mono (backs_calls W hg _ _ v0 v1 l m s hl hm (by omega) (by omega) (by omega) (by omega) (by omega)) fun e W' ⟨v, he, hv, hf⟩ => ?_
  subst he; subst hv
  exact ⟨_, rfl, post_law laidOut0 (by rw [Tryz.params4]; intro t ht; simp at ht; rcases ht with rfl | rfl | rfl <;> exact ⟨by kernel_rfl, of_decide_eq_true (by kernel_rfl)⟩) rfl (by kernel_rfl) Tryz.underlying4 hW' rfl rfl rfl hf⟩
theorem backs_lifted (os : Os) (started : os.Started) (H : Type) (enc : TypeId × Value → H) (F : Stop.Interp) :
    ReturnsInHanded {} Tryz.checked os 4 .any ((Rows.OpenSpec.upto Rows.shellBackSpec).preRow enc Tryz.prog Tryz.f4 Rows.shellBackUptoRow.domain false Rows.shellBackUptoRow.laid) (((Rows.OpenSpec.upto Rows.shellBackSpec).at F).post enc Tryz.prog Tryz.f4 false true false false) := by
  obtain ⟨places, hx⟩ := backs_reads os enc
  refine returnsInHanded_of_row (C := Tryz.checked) (s := Rows.OpenSpec.upto Rows.shellBackSpec) own0 started (by kernel_rfl) Tryz.func4
    (witness_row_atRef (enc := enc) (C := Tryz.checked) false (laidWorld os) #[.slice none 0 0, .slice none 0 0, .string ⟨#[]⟩] (World.laidAll_os _ _ _) (by kernel_rfl) (by kernel_rfl) (by kernel_rfl)
      (OpenSpec.preRow_of_cond 8 hx (by kernel_rfl) (fun k hk => by cases hk; kernel_rfl) (by kernel_rfl) (laid_met os _))) ?_
  intro W base args ds gs before hval hW _ hcond _ hL hsh _
  exact backs_contract H enc W base args ds gs before hval hW (hcond _ rfl) (glob_of hL hsh)
theorem backs_said : Rows.ShellBackUptoSaid :=
  OpenClaim.holds_of_cond 4 Tryz.f4 rfl rfl rfl rfl rfl rfl rfl ⟨rfl, rfl, rfl, rfl, rfl⟩ rfl rfl rfl rfl rfl (by kernel_rfl) Tryz.func4 (by kernel_rfl)
    (of_decide_eq_true (by kernel_rfl)) (by unfold Func.isWrapper; first | (rw [if_pos (by decide +kernel)]; kernel_rfl) | (rw [if_neg (by decide +kernel)]; exact ⟨rfl, rfl⟩))
    (fun os started H enc _ F => by rw [OpenClaim.pre_eq_preRow]; exact backs_lifted os started H enc F)
theorem backs_plain (f : FuncId) (fn : Func) (hf : Tryz.pinned.checked.prog.funcNamed "escritoire/escritoirelaw31.ShellBack" = some f) (hfn : Tryz.pinned.checked.prog.funcs[f]? = some fn) :
    true = Tryz.pinned.checked.prog.looks [] ∧ ∀ (j : Nat) t, fn.params[j]? = some t → Tryz.pinned.checked.prog.wantsStandIn t = false := by
  obtain rfl : f = 4 := Option.some.inj ((show Tryz.prog.funcNamed "escritoire/escritoirelaw31.ShellBack" = some 4 by kernel_rfl).symm.trans hf) |>.symm
  obtain rfl : fn = Tryz.f4 := (Option.some.inj (Tryz.func4.symm.trans hfn)).symm
  refine ⟨by kernel_rfl, fun j t ht => ?_⟩
  rw [Tryz.params4] at ht
  have ht' : t = 37 ∨ t = 22 ∨ t = 9 := by simpa using Array.mem_of_getElem? ht
  rcases ht' with rfl | rfl | rfl
  · exact (show Tryz.prog.wantsStandIn 37 = false by kernel_rfl)
  · exact (show Tryz.prog.wantsStandIn 22 = false by kernel_rfl)
  · exact (show Tryz.prog.wantsStandIn 9 = false by kernel_rfl)
theorem backs_card : Rows.ShellBackUptoCardSaid :=
  Claim7.holds_tied_plain_at .later [] _ _ _ _ backs_said (fun _ h => by cases h) (by kernel_rfl) (fun _ h => by cases h) shellBackUpto_row_tie rfl ⟨rfl, rfl⟩ (by kernel_rfl) rfl backs_plain (by kernel_rfl)
end Go.Proofs.YtmhljojgdfmjaaaGreatDoor
#print axioms Go.Proofs.YtmhljojgdfmjaaaGreatDoor.backs_card
