/- walks -/
import Derived.Test.YtmhljojgdfmjaaaGreatDoorLa5
import Derived.Test.YtmhljojgdfmjaaaGreatDoorRf7
namespace Go.Proofs.YtmhljojgdfmjaaaGreatDoor
open Go.E
set_option linter.unusedVariables false
set_option linter.unusedSimpArgs false
set_option maxRecDepth 100000
set_option maxHeartbeats 1000000
open Go.Sh
set_option maxHeartbeats 2000000
/-- law31.ShellRows -/
theorem srows_calls (w : World) (hg : Glob w) (ok1 : Nat → Prop) (v0 : Value) (m : List Rw) (s : List UInt8) (hu : Sl Rp.rw ok1 w v0 m) (hm : m.length ≤ 1048576) (htm : total rwWt m ≤ 1048576) (hs : s.length ≤ 1048576) :
    Does Tryz.prog 3 #[v0, .string ⟨(s).toArray⟩] w fun r w' => r = .bool true ∧ Fr [] w w' := by
  obtain ⟨A1, c1, rfl, hemc, hem⟩ := hu
  have hgz := hg.sz
  refine Does.of (fn_in (l := [.slice A1 m.length c1, .string ⟨(s).toArray⟩]) Tryz.func3 rfl Tryz.ntmps3 rfl ?_)
  refine wp_seq ?_
  refine r_start ?_
  refine l_v (v := .bool false) rfl rfl (by kernel_rfl) ?_
  refine l_nil ?_
  refine n_then ?_
  refine wp_seq ?_
  refine r_start ?_
  refine l_v (v := .slice A1 m.length c1) rfl rfl (by kernel_rfl) ?_
  refine l_call rfl rfl (r_call (args := #[.slice A1 m.length c1]) rfl e6 (am rfl)) (Rows_calls w hg _ _ m ⟨_, _, rfl, hemc, hem⟩ (by omega) (by omega)) (fun v2 w3 h1 => ?_)
  obtain ⟨W4, hW4⟩ : ∃ x_, wr rwLine m = x_ := ⟨_, rfl⟩
  rw [hW4] at h1
  obtain ⟨rfl, h1f⟩ := h1
  have h1z := h1f.size
  refine l_v (v := .tuple #[.string ⟨(W4.1).toArray⟩, .int .i64 W4.2]) rfl rfl (by kernel_rfl) ?_
  refine l_v (v := .string ⟨(W4.1).toArray⟩) rfl rfl (by kernel_rfl) ?_
  refine l_v (v := .int .i64 W4.2) rfl rfl (by kernel_rfl) ?_
  refine l_v (v := .string ⟨(W4.1).toArray⟩) rfl rfl (by kernel_rfl) ?_
  refine l_v (v := .int .i64 W4.2) rfl rfl (by kernel_rfl) ?_
  refine l_nil ?_
  refine n_then ?_
  refine wp_seq ?_
  refine r_start ?_
  refine l_v (v := .slice A1 m.length c1) rfl rfl (by kernel_rfl) ?_
  have hE6 : Fr [] w w3 := ((Fr.refl [] w).trans h1f)
  have hE6z := hE6.size
  have hd7 := hem.fr0 hE6
  have hq5E : El Rp.rw (fun g => g < w3.heap.size) w3 A1 m := El.weak hd7 (fun g hg_ _ => hg_)
  refine l_call rfl rfl (r_call (args := #[.slice A1 m.length c1]) rfl e8 (am rfl)) (told_calls w3 _ _ m ⟨_, _, rfl, hemc, hq5E⟩ (by omega)) (fun v9 w10 h8 => ?_)
  obtain ⟨h8o, h8f⟩ := h8
  have h8z := h8f.size
  have h8lt := OwnK.lt h8o
  refine l_call rfl rfl (r_call (args := #[v9]) rfl e7 (am rfl)) (rRows_calls w10 _ _ m (OwnK.sl h8o) (by omega) (by omega)) (fun v12 w13 h11 => ?_)
  rw [hW4] at h11
  obtain ⟨rfl, h11f⟩ := h11
  have h11z := h11f.size
  refine l_v (v := .tuple #[.string ⟨(W4.1).toArray⟩, .int .i64 W4.2]) rfl rfl (by kernel_rfl) ?_
  refine l_v (v := .string ⟨(W4.1).toArray⟩) rfl rfl (by kernel_rfl) ?_
  refine l_v (v := .int .i64 W4.2) rfl rfl (by kernel_rfl) ?_
  refine l_v (v := .string ⟨(W4.1).toArray⟩) rfl rfl (by kernel_rfl) ?_
  refine l_v (v := .int .i64 W4.2) rfl rfl (by kernel_rfl) ?_
  refine l_nil ?_
  refine n_then ?_
  refine wp_seq ?_
  refine r_start ?_
  refine l_v (v := .string ⟨(s).toArray⟩) rfl rfl (by kernel_rfl) ?_
  have hE14 : Fr [] w w13 := ((hE6.trans h8f).trans h11f)
  have hE14z := hE14.size
  have hd15 := hg.fr0 hE14
  refine l_call rfl rfl (r_call (args := #[.string ⟨(s).toArray⟩]) rfl e9 (am rfl)) (ParseRows_calls w13 hd15 s (by first | omega | (rw [List.length_append]; omega))) (fun v17 w18 h16 => ?_)
  have h16len := parse_len (f := parseRw) s
  have h16num := parse_num (f := parseRw) s
  obtain ⟨X19, hX19⟩ : ∃ x_, parseT parseRw s = x_ := ⟨_, rfl⟩
  rw [hX19] at h16 h16len h16num
  obtain ⟨h16v, rfl, h16s, h16f⟩ := h16
  have h16z := h16f.size
  obtain ⟨h16sA, h16sc, rfl, h16sl, h16sE⟩ := id h16s
  refine l_v (v := .tuple #[.slice h16sA ((X19.1).length) h16sc, .int .i64 X19.2.1, .int .i64 X19.2.2]) rfl rfl (by kernel_rfl) ?_
  refine l_v (v := .slice h16sA ((X19.1).length) h16sc) rfl rfl (by kernel_rfl) ?_
  refine l_v (v := .int .i64 X19.2.1) rfl rfl (by kernel_rfl) ?_
  refine l_v (v := .int .i64 X19.2.2) rfl rfl (by kernel_rfl) ?_
  refine l_v (v := .slice h16sA ((X19.1).length) h16sc) rfl rfl (by kernel_rfl) ?_
  refine l_v (v := .int .i64 X19.2.1) rfl rfl (by kernel_rfl) ?_
  refine l_v (v := .int .i64 X19.2.2) rfl rfl (by kernel_rfl) ?_
  refine l_nil ?_
  refine n_then ?_
  refine wp_seq ?_
  refine r_start ?_
  refine l_v (v := .string ⟨(s).toArray⟩) rfl rfl (by kernel_rfl) ?_
  refine l_call rfl rfl (r_call (args := #[.string ⟨(s).toArray⟩]) rfl e10 (am rfl)) (rParseRows_calls w18 s (by omega)) (fun v21 w22 h20 => ?_)
  rw [hX19] at h20
  obtain ⟨h20v, rfl, h20s, h20f⟩ := h20
  have h20z := h20f.size
  obtain ⟨h20sA, h20sc, rfl, h20sl, h20sE⟩ := id h20s
  refine l_v (v := .tuple #[.slice h20sA ((X19.1).length) h20sc, .int .i64 X19.2.1, .int .i64 X19.2.2]) rfl rfl (by kernel_rfl) ?_
  refine l_v (v := .slice h20sA ((X19.1).length) h20sc) rfl rfl (by kernel_rfl) ?_
  refine l_v (v := .int .i64 X19.2.1) rfl rfl (by kernel_rfl) ?_
  refine l_v (v := .int .i64 X19.2.2) rfl rfl (by kernel_rfl) ?_
  refine l_v (v := .slice h20sA ((X19.1).length) h20sc) rfl rfl (by kernel_rfl) ?_
  refine l_v (v := .int .i64 X19.2.1) rfl rfl (by kernel_rfl) ?_
  refine l_v (v := .int .i64 X19.2.2) rfl rfl (by kernel_rfl) ?_
  refine l_nil ?_
  refine n_then ?_
  refine wp_seq ?_
  refine r_start ?_
  refine l_v (v := .string ⟨(W4.1).toArray⟩) rfl rfl (by kernel_rfl) ?_
  refine l_v (v := .string ⟨(W4.1).toArray⟩) rfl rfl (by kernel_rfl) ?_
  refine l_v (v := .bool true) rfl rfl (r_str_same rfl rfl rfl) ?_
  refine l_v (v := .bool true) rfl rfl (by kernel_rfl) ?_
  refine l_wanted (want_1 rfl rfl rfl rfl) ((known_eq rfl true).trans rfl) ?_
  refine l_v (v := .int .i64 W4.2) rfl rfl (by kernel_rfl) ?_
  refine l_wanted (want_1 rfl rfl rfl rfl) ((known_eq rfl true).trans rfl) ?_
  refine l_v (v := .int .i64 W4.2) rfl rfl (by kernel_rfl) ?_
  refine l_wanted (want_1 rfl rfl rfl rfl) ((known_eq rfl true).trans rfl) ?_
  refine l_v (v := .bool true) rfl rfl (r_cmp rfl rfl rfl (by simp)) ?_
  refine l_v (v := .bool true) rfl rfl (r_pickT rfl rfl rfl rfl) ?_
  refine l_v (v := .bool true) rfl rfl (by kernel_rfl) ?_
  refine l_wanted (want_1 rfl rfl rfl rfl) ((known_eq rfl true).trans rfl) ?_
  refine l_v (v := .slice h16sA ((X19.1).length) h16sc) rfl rfl (by kernel_rfl) ?_
  refine l_wanted (want_1 rfl rfl rfl rfl) ((known_eq rfl true).trans rfl) ?_
  have hd24 := h16sE.fr0 ((Fr.refl [] w18).trans h20f)
  have hq23E : El Rp.rw (fun g => g < w22.heap.size) w22 h16sA X19.1 := El.weak hd24 (fun g hg_ _ => hg_)
  refine l_call rfl rfl (r_call (args := #[.slice h16sA ((X19.1).length) h16sc]) rfl e8 (am rfl)) (told_calls w22 _ _ X19.1 ⟨_, _, rfl, h16sl, hq23E⟩ (by omega)) (fun v26 w27 h25 => ?_)
  obtain ⟨h25o, h25f⟩ := h25
  have h25z := h25f.size
  have h25lt := OwnK.lt h25o
  refine l_wanted (want_1 rfl rfl rfl rfl) ((known_eq rfl true).trans rfl) ?_
  refine l_v (v := .slice h20sA ((X19.1).length) h20sc) rfl rfl (by kernel_rfl) ?_
  refine l_wanted (want_1 rfl rfl rfl rfl) ((known_eq rfl true).trans rfl) ?_
  have hd28 := h20sE.fr0 ((Fr.refl [] w22).trans h25f)
  refine l_call rfl rfl (r_call (args := #[v26, .slice h20sA ((X19.1).length) h20sc]) rfl e11 (am rfl)) (rows_calls w27 _ _ _ _ X19.1 X19.1 (OwnK.sl h25o) ⟨_, _, rfl, h20sl, hd28⟩ (by omega) (by first | omega | (rw [List.length_append]; omega))) (fun v30 w31 h29 => ?_)
  obtain ⟨h29b, rfl, h29iff, h29f⟩ := h29
  have h29z := h29f.size
  obtain rfl : h29b = true := h29iff.2 rfl
  refine l_v (v := .bool true) rfl rfl (r_pickT rfl rfl rfl rfl) ?_
  refine l_v (v := .bool true) rfl rfl (by kernel_rfl) ?_
  refine l_wanted (want_1 rfl rfl rfl rfl) ((known_eq rfl true).trans rfl) ?_
  refine l_v (v := .int .i64 X19.2.1) rfl rfl (by kernel_rfl) ?_
  refine l_wanted (want_1 rfl rfl rfl rfl) ((known_eq rfl true).trans rfl) ?_
  refine l_v (v := .int .i64 X19.2.1) rfl rfl (by kernel_rfl) ?_
  refine l_wanted (want_1 rfl rfl rfl rfl) ((known_eq rfl true).trans rfl) ?_
  refine l_v (v := .bool true) rfl rfl (r_cmp rfl rfl rfl (by simp)) ?_
  refine l_v (v := .bool true) rfl rfl (r_pickT rfl rfl rfl rfl) ?_
  refine l_v (v := .bool true) rfl rfl (by kernel_rfl) ?_
  refine l_wanted (want_1 rfl rfl rfl rfl) ((known_eq rfl true).trans rfl) ?_
  refine l_v (v := .int .i64 X19.2.2) rfl rfl (by kernel_rfl) ?_
  refine l_wanted (want_1 rfl rfl rfl rfl) ((known_eq rfl true).trans rfl) ?_
  refine l_v (v := .int .i64 X19.2.2) rfl rfl (by kernel_rfl) ?_
  refine l_wanted (want_1 rfl rfl rfl rfl) ((known_eq rfl true).trans rfl) ?_
  refine l_v (v := .bool true) rfl rfl (r_cmp rfl rfl rfl (by simp)) ?_
  refine l_v (v := .bool true) rfl rfl (r_pickT rfl rfl rfl rfl) ?_
  refine l_v (v := .bool true) rfl rfl (by kernel_rfl) ?_
  refine l_wanted (want_1 rfl rfl rfl rfl) ((known_eq rfl true).trans rfl) ?_
  have hE32 : Fr [] w w31 := ((((hE14.trans h16f).trans h20f).trans h25f).trans h29f)
  have hE32z := hE32.size
  have hd33 := hg.fr0 hE32
  refine l_call rfl rfl (r_call (args := #[]) rfl e12 (am rfl)) (wakes_calls w31 hd33) (fun v35 w36 h34 => ?_)
  obtain ⟨rfl, h34f⟩ := h34
  have h34z := h34f.size
  refine l_v (v := .bool true) rfl rfl (r_pickT rfl rfl rfl rfl) ?_
  refine l_v (v := .bool true) rfl rfl (by kernel_rfl) ?_
  refine l_nil ?_
  refine n_then ?_
  refine wp_ret ?_
  have hE37 : Fr [] w w36 := (hE32.trans h34f)
  have hE37z := hE37.size
  exact end_ret (v := .bool true) (res1 rfl rfl) ⟨_, rfl, ⟨rfl, hE37⟩⟩

end Go.Proofs.YtmhljojgdfmjaaaGreatDoor
