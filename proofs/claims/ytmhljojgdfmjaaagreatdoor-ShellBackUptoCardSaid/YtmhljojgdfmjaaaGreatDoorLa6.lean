/- walks -/
import Derived.Test.YtmhljojgdfmjaaaGreatDoorLa5
namespace Go.Proofs.YtmhljojgdfmjaaaGreatDoor
open Go.E
set_option linter.unusedVariables false
set_option linter.unusedSimpArgs false
set_option maxRecDepth 100000
set_option maxHeartbeats 1000000
open Go.Sh
set_option maxHeartbeats 2000000
/-- law31.ShellBack -/
theorem backs_calls (w : World) (hg : Glob w) (ok1 ok2 : Nat → Prop) (v0 v1 : Value) (l : List Ev) (m : List Rw) (s : List UInt8) (hv : Sl Rp.ev ok1 w v0 l) (hu : Sl Rp.rw ok2 w v1 m) (hl : l.length ≤ 1048576) (hm : m.length ≤ 1048576) (htl : total evWt l ≤ 1048576) (htm : total rwWt m ≤ 1048576) (hs : s.length ≤ 1048576) :
    Does Tryz.prog 4 #[v0, v1, .string ⟨(s).toArray⟩] w fun r w' => r = .bool true ∧ Fr [] w w' := by
  obtain ⟨A1, c1, rfl, hemc, hem⟩ := hu
  obtain ⟨A0, c0, rfl, helc, hel⟩ := hv
  have hgz := hg.sz
  refine Does.of (fn_in (l := [.slice A0 l.length c0, .slice A1 m.length c1, .string ⟨(s).toArray⟩]) Tryz.func4 rfl Tryz.ntmps4 rfl ?_)
  refine wp_seq ?_
  refine r_start ?_
  refine l_v (v := .bool false) rfl rfl (by kernel_rfl) ?_
  refine l_nil ?_
  refine n_then ?_
  refine wp_seq ?_
  refine r_start ?_
  refine l_v (v := .slice A0 l.length c0) rfl rfl (by kernel_rfl) ?_
  refine l_call rfl rfl (r_call (args := #[.slice A0 l.length c0]) rfl e13 (am rfl)) (Text_calls w hg _ _ l ⟨_, _, rfl, helc, hel⟩ (by omega) (by omega)) (fun v2 w3 h1 => ?_)
  obtain ⟨W4, hW4⟩ : ∃ x_, wr evLine l = x_ := ⟨_, rfl⟩
  rw [hW4] at h1
  obtain ⟨rfl, h1f⟩ := h1
  have h1z := h1f.size
  refine l_v (v := .tuple #[.string ⟨(W4.1).toArray⟩, .int .i64 W4.2]) rfl rfl (by kernel_rfl) ?_
  refine l_v (v := .string ⟨(W4.1).toArray⟩) rfl rfl (by kernel_rfl) ?_
  refine l_v (v := .int .i64 W4.2) rfl rfl (by kernel_rfl) ?_
  refine l_v (v := .string ⟨(W4.1).toArray⟩) rfl rfl (by kernel_rfl) ?_
  refine l_v (v := .int .i64 W4.2) rfl rfl (by kernel_rfl) ?_
  refine l_nil ?_
  refine n_then ?_
  refine c_cut (fun a_ w_ => ∃ u_ : Nat → Value, a_ = mk [] 168 u_ [(0, .slice A0 l.length c0), (1, .slice A1 m.length c1), (2, .string ⟨(s).toArray⟩), (7, .string ⟨(W4.1).toArray⟩), (8, .int .i64 W4.2), (24, .tuple #[.string ⟨(W4.1).toArray⟩, .int .i64 W4.2]), (25, .slice A0 l.length c0), (26, .tuple #[.string ⟨(W4.1).toArray⟩, .int .i64 W4.2]), (27, .string ⟨(W4.1).toArray⟩), (28, .int .i64 W4.2)] ∧ Fr [] w w_) ?_ ?_
  · refine wp_seq ?_
    refine r_start ?_
    refine l_v (v := .int .i64 W4.2) rfl rfl (by kernel_rfl) ?_
    refine l_v (v := .bool (W4.2 == (0 : Int))) rfl rfl (by kernel_rfl) ?_
    refine l_nil ?_
    refine n_then ?_
    have hfit : ∀ x ∈ l, x.fits := by
      intro x hx_
      obtain ⟨i_, hi_⟩ := List.getElem?_of_mem hx_
      obtain ⟨_, _, cs_, _, _, _, hK_, _⟩ := hel i_ x hi_
      exact EvK.fits hK_
    rcases wr_or evLine l with ⟨a_, ha_⟩ | ha_ | ha_
    · rw [hW4] at ha_
      subst ha_
      obtain ⟨hpw, hpl⟩ := parse_written (f := parseEv) hW4 ev_nl (fun x hx_ hb_ => parse_ev (hfit x hx_) hb_)
      refine c_condT (e := (0 == (0 : Int))) rfl rfl ?_
      refine wp_seq ?_
      refine r_start ?_
      refine l_v (v := .string ⟨(a_).toArray⟩) rfl rfl (by kernel_rfl) ?_
      have hE6 : Fr [] w w3 := ((Fr.refl [] w).trans h1f)
      have hE6z := hE6.size
      have hd7 := hg.fr0 hE6
      refine l_call rfl rfl (r_call (args := #[.string ⟨(a_).toArray⟩]) rfl e14 (am rfl)) (Parse_calls w3 hd7 a_ (by first | omega | (rw [List.length_append]; omega))) (fun v9 w10 h8 => ?_)
      rw [hpw] at h8
      obtain ⟨h8v, rfl, h8s, h8f⟩ := h8
      have h8z := h8f.size
      obtain ⟨h8sA, h8sc, rfl, h8sl, h8sE⟩ := id h8s
      refine l_v (v := .tuple #[.slice h8sA ((l).length) h8sc, .int .i64 0, .int .i64 0]) rfl rfl (by kernel_rfl) ?_
      refine l_v (v := .slice h8sA ((l).length) h8sc) rfl rfl (by kernel_rfl) ?_
      refine l_v (v := .int .i64 0) rfl rfl (by kernel_rfl) ?_
      refine l_v (v := .int .i64 0) rfl rfl (by kernel_rfl) ?_
      refine l_v (v := .slice h8sA ((l).length) h8sc) rfl rfl (by kernel_rfl) ?_
      refine l_v (v := .int .i64 0) rfl rfl (by kernel_rfl) ?_
      refine l_v (v := .int .i64 0) rfl rfl (by kernel_rfl) ?_
      refine l_nil ?_
      refine n_then ?_
      refine wp_seq ?_
      refine r_start ?_
      refine l_v (v := .int .i64 0) rfl rfl (by kernel_rfl) ?_
      refine l_v (v := .bool false) rfl rfl (by kernel_rfl) ?_
      refine l_v (v := .bool false) rfl rfl (by kernel_rfl) ?_
      refine l_wanted (want_1 rfl rfl rfl rfl) ((known_eq rfl false).trans rfl) ?_
      refine l_v (v := .int .i64 0) rfl rfl (by kernel_rfl) ?_
      refine l_wanted (want_1 rfl rfl rfl rfl) ((known_eq rfl false).trans rfl) ?_
      refine l_v (v := .bool false) rfl rfl (by kernel_rfl) ?_
      refine l_v (v := .bool false) rfl rfl (r_pickF rfl rfl rfl rfl) ?_
      refine l_v (v := .bool false) rfl rfl (by kernel_rfl) ?_
      refine l_wanted (want_1 rfl rfl rfl rfl) ((known_eq rfl false).trans rfl) ?_
      refine l_v (v := .slice h8sA ((l).length) h8sc) rfl rfl (by kernel_rfl) ?_
      refine l_wanted (want_1 rfl rfl rfl rfl) ((known_eq rfl false).trans rfl) ?_
      have hE12 : Fr [] w w10 := (hE6.trans h8f)
      have hE12z := hE12.size
      have hd13 := hel.fr0 hE12
      have hq11E : El Rp.ev (fun g => g < w10.heap.size) w10 A0 l := El.weak hd13 (fun g hg_ _ => hg_)
      have hq14E : El Rp.ev (fun g => g < w10.heap.size) w10 h8sA l := El.weak h8sE (fun g hg_ _ => hg_)
      refine l_call rfl rfl (r_call (args := #[.slice h8sA ((l).length) h8sc]) rfl e16 (am rfl)) (theirs_calls w10 _ _ l ⟨_, _, rfl, h8sl, hq14E⟩ (by omega)) (fun v16 w17 h15 => ?_)
      obtain ⟨h15o, h15f⟩ := h15
      have h15z := h15f.size
      have h15lt := OwnK.lt h15o
      refine l_wanted (want_1 rfl rfl rfl rfl) ((known_eq rfl false).trans rfl) ?_
      refine l_v (v := .slice A0 l.length c0) rfl rfl (by kernel_rfl) ?_
      refine l_wanted (want_1 rfl rfl rfl rfl) ((known_eq rfl false).trans rfl) ?_
      have hd18 := hq11E.fr0 ((Fr.refl [] w10).trans h15f)
      refine l_call rfl rfl (r_call (args := #[.slice A0 l.length c0]) rfl e16 (am rfl)) (theirs_calls w17 _ _ l ⟨_, _, rfl, helc, hd18⟩ (by omega)) (fun v20 w21 h19 => ?_)
      obtain ⟨h19o, h19f⟩ := h19
      have h19z := h19f.size
      have h19lt := OwnK.lt h19o
      refine l_wanted (want_1 rfl rfl rfl rfl) ((known_eq rfl false).trans rfl) ?_
      have hd22 := h15o.fr0 ((Fr.refl [] w17).trans h19f)
      refine l_call rfl rfl (r_call (args := #[v16, v20]) rfl e15 (am rfl)) (events_calls w21 _ _ _ _ l l (OwnK.sl hd22) (OwnK.sl h19o) (by omega) (by first | omega | (rw [List.length_append]; omega))) (fun v24 w25 h23 => ?_)
      obtain ⟨h23b, rfl, h23iff, h23f⟩ := h23
      have h23z := h23f.size
      obtain rfl : h23b = true := h23iff.2 rfl
      refine l_wanted (want_1 rfl rfl rfl rfl) ((known_eq rfl false).trans rfl) ?_
      refine l_v (v := .bool false) rfl rfl (by kernel_rfl) ?_
      refine l_v (v := .bool false) rfl rfl (r_pickF rfl rfl rfl rfl) ?_
      refine l_v (v := .bool false) rfl rfl (by kernel_rfl) ?_
      refine l_wanted (want_1 rfl rfl rfl rfl) ((known_eq rfl false).trans rfl) ?_
      refine l_v (v := .string ⟨(a_).toArray⟩) rfl rfl (by kernel_rfl) ?_
      refine l_wanted (want_1 rfl rfl rfl rfl) ((known_eq rfl false).trans rfl) ?_
      refine l_v (v := .int .i64 ((a_).length : Int)) rfl rfl (r_lens rfl rfl Tryz.underlying9) ?_
      refine l_wanted (want_1 rfl rfl rfl rfl) ((known_eq rfl false).trans rfl) ?_
      refine l_v (v := .bool (decide (((a_).length : Int) > (65536 : Int)))) rfl rfl (by kernel_rfl) ?_
      refine l_v (v := .bool (decide (((a_).length : Int) > (65536 : Int)))) rfl rfl (r_pickF rfl rfl rfl rfl) ?_
      refine l_nil ?_
      refine n_then ?_
      refine c_cond (e := decide (((a_).length : Int) > (65536 : Int))) rfl (fun hc26 => ?_) (fun hc26 => ?_)
      · exfalso
        simp only [decide_eq_true_eq] at hc26
        omega
      · refine wp_skip ?_
        refine n_then ?_
        have hE27 : Fr [] w w25 := (((hE12.trans h15f).trans h19f).trans h23f)
        have hE27z := hE27.size
        exact ⟨_, mk_eq (by kernel_rfl), hE27⟩
    · rw [hW4] at ha_
      subst ha_
      refine c_condF (e := (1 == (0 : Int))) rfl rfl ?_
      refine wp_seq ?_
      refine r_start ?_
      refine l_v (v := .string ⟨([] : List UInt8).toArray⟩) rfl rfl (by kernel_rfl) ?_
      refine l_v (v := .bool false) rfl rfl (by kernel_rfl) ?_
      refine l_v (v := .bool false) rfl rfl (by kernel_rfl) ?_
      refine l_wanted (want_1 rfl rfl rfl rfl) ((known_eq rfl false).trans rfl) ?_
      refine l_v (v := .int .i64 1) rfl rfl (by kernel_rfl) ?_
      refine l_wanted (want_1 rfl rfl rfl rfl) ((known_eq rfl false).trans rfl) ?_
      refine l_v (v := .bool false) rfl rfl (by kernel_rfl) ?_
      refine l_wanted (want_1 rfl rfl rfl rfl) ((known_eq rfl false).trans rfl) ?_
      refine l_v (v := .bool false) rfl rfl (by kernel_rfl) ?_
      refine l_unwg (want_1 rfl rfl rfl rfl) ((known_eq rfl true).trans rfl) rfl ?_
      refine l_unwg (want_1 rfl rfl rfl rfl) ((known_eq rfl true).trans rfl) rfl ?_
      refine l_wanted (want_1 rfl rfl rfl rfl) ((known_eq rfl false).trans rfl) ?_
      refine l_v (v := .bool false) rfl rfl (r_pickF rfl rfl rfl rfl) ?_
      refine l_v (v := .bool false) rfl rfl (r_pickF rfl rfl rfl rfl) ?_
      refine l_nil ?_
      refine n_then ?_
      refine c_condF (e := false) rfl rfl ?_
      refine wp_skip ?_
      refine n_then ?_
      have hE28 : Fr [] w w3 := ((Fr.refl [] w).trans h1f)
      have hE28z := hE28.size
      exact ⟨_, mk_eq (by kernel_rfl), hE28⟩
    · rw [hW4] at ha_
      subst ha_
      refine c_condF (e := (3 == (0 : Int))) rfl rfl ?_
      refine wp_seq ?_
      refine r_start ?_
      refine l_v (v := .string ⟨([] : List UInt8).toArray⟩) rfl rfl (by kernel_rfl) ?_
      refine l_v (v := .bool false) rfl rfl (by kernel_rfl) ?_
      refine l_v (v := .bool false) rfl rfl (by kernel_rfl) ?_
      refine l_wanted (want_1 rfl rfl rfl rfl) ((known_eq rfl false).trans rfl) ?_
      refine l_v (v := .int .i64 3) rfl rfl (by kernel_rfl) ?_
      refine l_wanted (want_1 rfl rfl rfl rfl) ((known_eq rfl false).trans rfl) ?_
      refine l_v (v := .bool true) rfl rfl (by kernel_rfl) ?_
      refine l_wanted (want_1 rfl rfl rfl rfl) ((known_eq rfl false).trans rfl) ?_
      refine l_v (v := .bool true) rfl rfl (by kernel_rfl) ?_
      refine l_wanted (want_1 rfl rfl rfl rfl) ((known_eq rfl true).trans rfl) ?_
      refine l_v (v := .int .i64 3) rfl rfl (by kernel_rfl) ?_
      refine l_wanted (want_1 rfl rfl rfl rfl) ((known_eq rfl true).trans rfl) ?_
      refine l_v (v := .bool false) rfl rfl (by kernel_rfl) ?_
      refine l_wanted (want_1 rfl rfl rfl rfl) ((known_eq rfl false).trans rfl) ?_
      refine l_v (v := .bool false) rfl rfl (r_pickT rfl rfl rfl rfl) ?_
      refine l_v (v := .bool false) rfl rfl (r_pickF rfl rfl rfl rfl) ?_
      refine l_nil ?_
      refine n_then ?_
      refine c_condF (e := false) rfl rfl ?_
      refine wp_skip ?_
      refine n_then ?_
      have hE29 : Fr [] w w3 := ((Fr.refl [] w).trans h1f)
      have hE29z := hE29.size
      exact ⟨_, mk_eq (by kernel_rfl), hE29⟩
  rintro _ wj5 ⟨u_, rfl, hE30⟩
  have hE30z := hE30.size
  refine wp_seq ?_
  refine r_start ?_
  refine l_v (v := .slice A1 m.length c1) rfl rfl (by kernel_rfl) ?_
  have hd31 := hem.fr0 hE30
  have hd32 := hg.fr0 hE30
  refine l_call rfl rfl (r_call (args := #[.slice A1 m.length c1]) rfl e6 (am rfl)) (Rows_calls wj5 hd32 _ _ m ⟨_, _, rfl, hemc, hd31⟩ (by omega) (by omega)) (fun v34 w35 h33 => ?_)
  obtain ⟨W36, hW36⟩ : ∃ x_, wr rwLine m = x_ := ⟨_, rfl⟩
  rw [hW36] at h33
  obtain ⟨rfl, h33f⟩ := h33
  have h33z := h33f.size
  refine l_v (v := .tuple #[.string ⟨(W36.1).toArray⟩, .int .i64 W36.2]) rfl rfl (by kernel_rfl) ?_
  refine l_v (v := .string ⟨(W36.1).toArray⟩) rfl rfl (by kernel_rfl) ?_
  refine l_v (v := .int .i64 W36.2) rfl rfl (by kernel_rfl) ?_
  refine l_v (v := .string ⟨(W36.1).toArray⟩) rfl rfl (by kernel_rfl) ?_
  refine l_v (v := .int .i64 W36.2) rfl rfl (by kernel_rfl) ?_
  refine l_nil ?_
  refine n_then ?_
  refine c_cut (fun a_ w_ => ∃ u_ : Nat → Value, a_ = mk [] 168 u_ [(0, .slice A0 l.length c0), (1, .slice A1 m.length c1), (2, .string ⟨(s).toArray⟩), (7, .string ⟨(W4.1).toArray⟩), (8, .int .i64 W36.2), (12, .string ⟨(W36.1).toArray⟩), (24, .tuple #[.string ⟨(W4.1).toArray⟩, .int .i64 W4.2]), (25, .slice A0 l.length c0), (26, .tuple #[.string ⟨(W4.1).toArray⟩, .int .i64 W4.2]), (27, .string ⟨(W4.1).toArray⟩), (28, .int .i64 W4.2), (66, .tuple #[.string ⟨(W36.1).toArray⟩, .int .i64 W36.2]), (67, .slice A1 m.length c1), (68, .tuple #[.string ⟨(W36.1).toArray⟩, .int .i64 W36.2]), (69, .string ⟨(W36.1).toArray⟩), (70, .int .i64 W36.2)] ∧ Fr [] w w_) ?_ ?_
  · refine wp_seq ?_
    refine r_start ?_
    refine l_v (v := .int .i64 W36.2) rfl rfl (by kernel_rfl) ?_
    refine l_v (v := .bool (W36.2 == (0 : Int))) rfl rfl (by kernel_rfl) ?_
    refine l_nil ?_
    refine n_then ?_
    have hfit : ∀ x ∈ m, x.fits := by
      intro x hx_
      obtain ⟨i_, hi_⟩ := List.getElem?_of_mem hx_
      obtain ⟨_, _, cs_, _, _, _, hK_, _⟩ := hem i_ x hi_
      exact RwK.fits hK_
    rcases wr_or rwLine m with ⟨a_, ha_⟩ | ha_ | ha_
    · rw [hW36] at ha_
      subst ha_
      obtain ⟨hpw, hpl⟩ := parse_written (f := parseRw) hW36 rw_nl (fun x hx_ hb_ => parse_rw (hfit x hx_) hb_)
      refine c_condT (e := (0 == (0 : Int))) rfl rfl ?_
      refine wp_seq ?_
      refine r_start ?_
      refine l_v (v := .string ⟨(a_).toArray⟩) rfl rfl (by kernel_rfl) ?_
      have hE38 : Fr [] w w35 := (hE30.trans h33f)
      have hE38z := hE38.size
      have hd39 := hg.fr0 hE38
      refine l_call rfl rfl (r_call (args := #[.string ⟨(a_).toArray⟩]) rfl e9 (am rfl)) (ParseRows_calls w35 hd39 a_ (by first | omega | (rw [List.length_append]; omega))) (fun v41 w42 h40 => ?_)
      rw [hpw] at h40
      obtain ⟨h40v, rfl, h40s, h40f⟩ := h40
      have h40z := h40f.size
      obtain ⟨h40sA, h40sc, rfl, h40sl, h40sE⟩ := id h40s
      refine l_v (v := .tuple #[.slice h40sA ((m).length) h40sc, .int .i64 0, .int .i64 0]) rfl rfl (by kernel_rfl) ?_
      refine l_v (v := .slice h40sA ((m).length) h40sc) rfl rfl (by kernel_rfl) ?_
      refine l_v (v := .int .i64 0) rfl rfl (by kernel_rfl) ?_
      refine l_v (v := .int .i64 0) rfl rfl (by kernel_rfl) ?_
      refine l_v (v := .slice h40sA ((m).length) h40sc) rfl rfl (by kernel_rfl) ?_
      refine l_v (v := .int .i64 0) rfl rfl (by kernel_rfl) ?_
      refine l_v (v := .int .i64 0) rfl rfl (by kernel_rfl) ?_
      refine l_nil ?_
      refine n_then ?_
      refine wp_seq ?_
      refine r_start ?_
      refine l_v (v := .int .i64 0) rfl rfl (by kernel_rfl) ?_
      refine l_v (v := .bool false) rfl rfl (by kernel_rfl) ?_
      refine l_v (v := .bool false) rfl rfl (by kernel_rfl) ?_
      refine l_wanted (want_1 rfl rfl rfl rfl) ((known_eq rfl false).trans rfl) ?_
      refine l_v (v := .int .i64 0) rfl rfl (by kernel_rfl) ?_
      refine l_wanted (want_1 rfl rfl rfl rfl) ((known_eq rfl false).trans rfl) ?_
      refine l_v (v := .bool false) rfl rfl (by kernel_rfl) ?_
      refine l_v (v := .bool false) rfl rfl (r_pickF rfl rfl rfl rfl) ?_
      refine l_v (v := .bool false) rfl rfl (by kernel_rfl) ?_
      refine l_wanted (want_1 rfl rfl rfl rfl) ((known_eq rfl false).trans rfl) ?_
      refine l_v (v := .slice h40sA ((m).length) h40sc) rfl rfl (by kernel_rfl) ?_
      refine l_wanted (want_1 rfl rfl rfl rfl) ((known_eq rfl false).trans rfl) ?_
      have hE44 : Fr [] w w42 := (hE38.trans h40f)
      have hE44z := hE44.size
      have hd45 := hem.fr0 hE44
      have hq43E : El Rp.rw (fun g => g < w42.heap.size) w42 A1 m := El.weak hd45 (fun g hg_ _ => hg_)
      have hq46E : El Rp.rw (fun g => g < w42.heap.size) w42 h40sA m := El.weak h40sE (fun g hg_ _ => hg_)
      refine l_call rfl rfl (r_call (args := #[.slice h40sA ((m).length) h40sc]) rfl e8 (am rfl)) (told_calls w42 _ _ m ⟨_, _, rfl, h40sl, hq46E⟩ (by omega)) (fun v48 w49 h47 => ?_)
      obtain ⟨h47o, h47f⟩ := h47
      have h47z := h47f.size
      have h47lt := OwnK.lt h47o
      refine l_wanted (want_1 rfl rfl rfl rfl) ((known_eq rfl false).trans rfl) ?_
      refine l_v (v := .slice A1 m.length c1) rfl rfl (by kernel_rfl) ?_
      refine l_wanted (want_1 rfl rfl rfl rfl) ((known_eq rfl false).trans rfl) ?_
      have hd50 := hq43E.fr0 ((Fr.refl [] w42).trans h47f)
      refine l_call rfl rfl (r_call (args := #[.slice A1 m.length c1]) rfl e8 (am rfl)) (told_calls w49 _ _ m ⟨_, _, rfl, hemc, hd50⟩ (by omega)) (fun v52 w53 h51 => ?_)
      obtain ⟨h51o, h51f⟩ := h51
      have h51z := h51f.size
      have h51lt := OwnK.lt h51o
      refine l_wanted (want_1 rfl rfl rfl rfl) ((known_eq rfl false).trans rfl) ?_
      have hd54 := h47o.fr0 ((Fr.refl [] w49).trans h51f)
      refine l_call rfl rfl (r_call (args := #[v48, v52]) rfl e11 (am rfl)) (rows_calls w53 _ _ _ _ m m (OwnK.sl hd54) (OwnK.sl h51o) (by omega) (by first | omega | (rw [List.length_append]; omega))) (fun v56 w57 h55 => ?_)
      obtain ⟨h55b, rfl, h55iff, h55f⟩ := h55
      have h55z := h55f.size
      obtain rfl : h55b = true := h55iff.2 rfl
      refine l_wanted (want_1 rfl rfl rfl rfl) ((known_eq rfl false).trans rfl) ?_
      refine l_v (v := .bool false) rfl rfl (by kernel_rfl) ?_
      refine l_v (v := .bool false) rfl rfl (r_pickF rfl rfl rfl rfl) ?_
      refine l_v (v := .bool false) rfl rfl (by kernel_rfl) ?_
      refine l_wanted (want_1 rfl rfl rfl rfl) ((known_eq rfl false).trans rfl) ?_
      refine l_v (v := .string ⟨(a_).toArray⟩) rfl rfl (by kernel_rfl) ?_
      refine l_wanted (want_1 rfl rfl rfl rfl) ((known_eq rfl false).trans rfl) ?_
      refine l_v (v := .int .i64 ((a_).length : Int)) rfl rfl (r_lens rfl rfl Tryz.underlying9) ?_
      refine l_wanted (want_1 rfl rfl rfl rfl) ((known_eq rfl false).trans rfl) ?_
      refine l_v (v := .bool (decide (((a_).length : Int) > (65536 : Int)))) rfl rfl (by kernel_rfl) ?_
      refine l_v (v := .bool (decide (((a_).length : Int) > (65536 : Int)))) rfl rfl (r_pickF rfl rfl rfl rfl) ?_
      refine l_nil ?_
      refine n_then ?_
      refine c_cond (e := decide (((a_).length : Int) > (65536 : Int))) rfl (fun hc58 => ?_) (fun hc58 => ?_)
      · exfalso
        simp only [decide_eq_true_eq] at hc58
        omega
      · refine wp_skip ?_
        refine n_then ?_
        have hE59 : Fr [] w w57 := (((hE44.trans h47f).trans h51f).trans h55f)
        have hE59z := hE59.size
        exact ⟨_, mk_eq (by kernel_rfl), hE59⟩
    · rw [hW36] at ha_
      subst ha_
      refine c_condF (e := (1 == (0 : Int))) rfl rfl ?_
      refine wp_seq ?_
      refine r_start ?_
      refine l_v (v := .string ⟨([] : List UInt8).toArray⟩) rfl rfl (by kernel_rfl) ?_
      refine l_v (v := .bool false) rfl rfl (by kernel_rfl) ?_
      refine l_v (v := .bool false) rfl rfl (by kernel_rfl) ?_
      refine l_wanted (want_1 rfl rfl rfl rfl) ((known_eq rfl false).trans rfl) ?_
      refine l_v (v := .int .i64 1) rfl rfl (by kernel_rfl) ?_
      refine l_wanted (want_1 rfl rfl rfl rfl) ((known_eq rfl false).trans rfl) ?_
      refine l_v (v := .bool false) rfl rfl (by kernel_rfl) ?_
      refine l_wanted (want_1 rfl rfl rfl rfl) ((known_eq rfl false).trans rfl) ?_
      refine l_v (v := .bool false) rfl rfl (by kernel_rfl) ?_
      refine l_unwg (want_1 rfl rfl rfl rfl) ((known_eq rfl true).trans rfl) rfl ?_
      refine l_unwg (want_1 rfl rfl rfl rfl) ((known_eq rfl true).trans rfl) rfl ?_
      refine l_wanted (want_1 rfl rfl rfl rfl) ((known_eq rfl false).trans rfl) ?_
      refine l_v (v := .bool false) rfl rfl (r_pickF rfl rfl rfl rfl) ?_
      refine l_v (v := .bool false) rfl rfl (r_pickF rfl rfl rfl rfl) ?_
      refine l_nil ?_
      refine n_then ?_
      refine c_condF (e := false) rfl rfl ?_
      refine wp_skip ?_
      refine n_then ?_
      have hE60 : Fr [] w w35 := (hE30.trans h33f)
      have hE60z := hE60.size
      exact ⟨_, mk_eq (by kernel_rfl), hE60⟩
    · rw [hW36] at ha_
      subst ha_
      refine c_condF (e := (3 == (0 : Int))) rfl rfl ?_
      refine wp_seq ?_
      refine r_start ?_
      refine l_v (v := .string ⟨([] : List UInt8).toArray⟩) rfl rfl (by kernel_rfl) ?_
      refine l_v (v := .bool false) rfl rfl (by kernel_rfl) ?_
      refine l_v (v := .bool false) rfl rfl (by kernel_rfl) ?_
      refine l_wanted (want_1 rfl rfl rfl rfl) ((known_eq rfl false).trans rfl) ?_
      refine l_v (v := .int .i64 3) rfl rfl (by kernel_rfl) ?_
      refine l_wanted (want_1 rfl rfl rfl rfl) ((known_eq rfl false).trans rfl) ?_
      refine l_v (v := .bool true) rfl rfl (by kernel_rfl) ?_
      refine l_wanted (want_1 rfl rfl rfl rfl) ((known_eq rfl false).trans rfl) ?_
      refine l_v (v := .bool true) rfl rfl (by kernel_rfl) ?_
      refine l_wanted (want_1 rfl rfl rfl rfl) ((known_eq rfl true).trans rfl) ?_
      refine l_v (v := .int .i64 3) rfl rfl (by kernel_rfl) ?_
      refine l_wanted (want_1 rfl rfl rfl rfl) ((known_eq rfl true).trans rfl) ?_
      refine l_v (v := .bool false) rfl rfl (by kernel_rfl) ?_
      refine l_wanted (want_1 rfl rfl rfl rfl) ((known_eq rfl false).trans rfl) ?_
      refine l_v (v := .bool false) rfl rfl (r_pickT rfl rfl rfl rfl) ?_
      refine l_v (v := .bool false) rfl rfl (r_pickF rfl rfl rfl rfl) ?_
      refine l_nil ?_
      refine n_then ?_
      refine c_condF (e := false) rfl rfl ?_
      refine wp_skip ?_
      refine n_then ?_
      have hE61 : Fr [] w w35 := (hE30.trans h33f)
      have hE61z := hE61.size
      exact ⟨_, mk_eq (by kernel_rfl), hE61⟩
  rintro _ wj37 ⟨u_, rfl, hE62⟩
  have hE62z := hE62.size
  refine wp_seq ?_
  refine r_start ?_
  refine l_v (v := .string ⟨(s).toArray⟩) rfl rfl (by kernel_rfl) ?_
  have hd63 := hg.fr0 hE62
  refine l_call rfl rfl (r_call (args := #[.string ⟨(s).toArray⟩]) rfl e14 (am rfl)) (Parse_calls wj37 hd63 s (by first | omega | (rw [List.length_append]; omega))) (fun v65 w66 h64 => ?_)
  have h64len := parse_len (f := parseEv) s
  have h64num := parse_num (f := parseEv) s
  obtain ⟨X67, hX67⟩ : ∃ x_, parseT parseEv s = x_ := ⟨_, rfl⟩
  rw [hX67] at h64 h64len h64num
  obtain ⟨h64v, rfl, h64s, h64f⟩ := h64
  have h64z := h64f.size
  obtain ⟨h64sA, h64sc, rfl, h64sl, h64sE⟩ := id h64s
  refine l_v (v := .tuple #[.slice h64sA ((X67.1).length) h64sc, .int .i64 X67.2.1, .int .i64 X67.2.2]) rfl rfl (by kernel_rfl) ?_
  refine l_v (v := .slice h64sA ((X67.1).length) h64sc) rfl rfl (by kernel_rfl) ?_
  refine l_v (v := .int .i64 X67.2.1) rfl rfl (by kernel_rfl) ?_
  refine l_v (v := .int .i64 X67.2.2) rfl rfl (by kernel_rfl) ?_
  refine l_v (v := .slice h64sA ((X67.1).length) h64sc) rfl rfl (by kernel_rfl) ?_
  refine l_v (v := .int .i64 X67.2.1) rfl rfl (by kernel_rfl) ?_
  refine l_v (v := .int .i64 X67.2.2) rfl rfl (by kernel_rfl) ?_
  refine l_nil ?_
  refine n_then ?_
  refine c_cut (fun a_ w_ => ∃ u_ : Nat → Value, a_ = mk [] 168 u_ [(0, .slice A0 l.length c0), (1, .slice A1 m.length c1), (2, .string ⟨(s).toArray⟩), (7, .string ⟨(W4.1).toArray⟩), (8, .int .i64 W36.2), (12, .string ⟨(W36.1).toArray⟩), (16, .slice h64sA ((X67.1).length) h64sc), (17, .int .i64 X67.2.1), (18, .int .i64 X67.2.2), (24, .tuple #[.string ⟨(W4.1).toArray⟩, .int .i64 W4.2]), (25, .slice A0 l.length c0), (26, .tuple #[.string ⟨(W4.1).toArray⟩, .int .i64 W4.2]), (27, .string ⟨(W4.1).toArray⟩), (28, .int .i64 W4.2), (66, .tuple #[.string ⟨(W36.1).toArray⟩, .int .i64 W36.2]), (67, .slice A1 m.length c1), (68, .tuple #[.string ⟨(W36.1).toArray⟩, .int .i64 W36.2]), (69, .string ⟨(W36.1).toArray⟩), (70, .int .i64 W36.2), (108, .tuple #[.slice h64sA ((X67.1).length) h64sc, .int .i64 X67.2.1, .int .i64 X67.2.2]), (109, .string ⟨(s).toArray⟩), (110, .tuple #[.slice h64sA ((X67.1).length) h64sc, .int .i64 X67.2.1, .int .i64 X67.2.2]), (111, .slice h64sA ((X67.1).length) h64sc), (112, .int .i64 X67.2.1), (113, .int .i64 X67.2.2)] ∧ Fr [] w w_) ?_ ?_
  · refine wp_seq ?_
    refine r_start ?_
    refine l_v (v := .int .i64 X67.2.2) rfl rfl (by kernel_rfl) ?_
    refine l_v (v := .bool (X67.2.2 == (0 : Int))) rfl rfl (by kernel_rfl) ?_
    refine l_nil ?_
    refine n_then ?_
    rcases sound_or (f := parseEv) (g := evLine) (fun x_ e_ h_ => parseEv_line h_) s with ⟨l9, hp_, hw_⟩ | ⟨n9, hp_⟩ | ⟨n9, hp_⟩
    · rw [hX67] at hp_
      subst hp_
      have hwt := wr_total (wt := evWt) hw_ (fun x_ h_ => evWt_le h_)
      refine c_condT (e := (0 == (0 : Int))) rfl rfl ?_
      refine wp_seq ?_
      refine r_start ?_
      refine l_v (v := .slice h64sA ((l9).length) h64sc) rfl rfl (by kernel_rfl) ?_
      have hE69 : Fr [] w w66 := (hE62.trans h64f)
      have hE69z := hE69.size
      have hd70 := hg.fr0 hE69
      refine l_call rfl rfl (r_call (args := #[.slice h64sA ((l9).length) h64sc]) rfl e13 (am rfl)) (Text_calls w66 hd70 _ _ l9 ⟨_, _, rfl, h64sl, h64sE⟩ (by omega) (by omega)) (fun v72 w73 h71 => ?_)
      rw [hw_] at h71
      obtain ⟨rfl, h71f⟩ := h71
      have h71z := h71f.size
      refine l_v (v := .tuple #[.string ⟨(s).toArray⟩, .int .i64 0]) rfl rfl (by kernel_rfl) ?_
      refine l_v (v := .string ⟨(s).toArray⟩) rfl rfl (by kernel_rfl) ?_
      refine l_v (v := .int .i64 0) rfl rfl (by kernel_rfl) ?_
      refine l_v (v := .string ⟨(s).toArray⟩) rfl rfl (by kernel_rfl) ?_
      refine l_v (v := .int .i64 0) rfl rfl (by kernel_rfl) ?_
      refine l_nil ?_
      refine n_then ?_
      refine wp_seq ?_
      refine r_start ?_
      refine l_v (v := .int .i64 0) rfl rfl (by kernel_rfl) ?_
      refine l_v (v := .bool false) rfl rfl (by kernel_rfl) ?_
      refine l_v (v := .bool false) rfl rfl (by kernel_rfl) ?_
      refine l_wanted (want_1 rfl rfl rfl rfl) ((known_eq rfl false).trans rfl) ?_
      refine l_v (v := .int .i64 0) rfl rfl (by kernel_rfl) ?_
      refine l_wanted (want_1 rfl rfl rfl rfl) ((known_eq rfl false).trans rfl) ?_
      refine l_v (v := .bool false) rfl rfl (by kernel_rfl) ?_
      refine l_v (v := .bool false) rfl rfl (r_pickF rfl rfl rfl rfl) ?_
      refine l_v (v := .bool false) rfl rfl (by kernel_rfl) ?_
      refine l_wanted (want_1 rfl rfl rfl rfl) ((known_eq rfl false).trans rfl) ?_
      refine l_v (v := .string ⟨(s).toArray⟩) rfl rfl (by kernel_rfl) ?_
      refine l_wanted (want_1 rfl rfl rfl rfl) ((known_eq rfl false).trans rfl) ?_
      refine l_v (v := .string ⟨(s).toArray⟩) rfl rfl (by kernel_rfl) ?_
      refine l_wanted (want_1 rfl rfl rfl rfl) ((known_eq rfl false).trans rfl) ?_
      refine l_v (v := .bool false) rfl rfl (r_str_nsame rfl rfl rfl) ?_
      refine l_v (v := .bool false) rfl rfl (r_pickF rfl rfl rfl rfl) ?_
      refine l_nil ?_
      refine n_then ?_
      refine c_condF (e := false) rfl rfl ?_
      refine wp_skip ?_
      refine n_then ?_
      have hE74 : Fr [] w w73 := (hE69.trans h71f)
      have hE74z := hE74.size
      exact ⟨_, mk_eq (by kernel_rfl), hE74⟩
    · rw [hX67] at hp_
      subst hp_
      refine c_condF (e := (3 == (0 : Int))) rfl rfl ?_
      refine wp_seq ?_
      refine r_start ?_
      refine l_v (v := .slice h64sA 0 h64sc) rfl rfl (by kernel_rfl) ?_
      refine l_v (v := .int .i64 0) rfl rfl (r_len rfl rfl Tryz.underlying37) ?_
      refine l_v (v := .bool false) rfl rfl (by kernel_rfl) ?_
      refine l_nil ?_
      refine n_then ?_
      refine c_condF (e := false) rfl rfl ?_
      refine wp_skip ?_
      refine n_then ?_
      have hE75 : Fr [] w w66 := (hE62.trans h64f)
      have hE75z := hE75.size
      exact ⟨_, mk_eq (by kernel_rfl), hE75⟩
    · rw [hX67] at hp_
      subst hp_
      refine c_condF (e := (5 == (0 : Int))) rfl rfl ?_
      refine wp_seq ?_
      refine r_start ?_
      refine l_v (v := .slice h64sA 0 h64sc) rfl rfl (by kernel_rfl) ?_
      refine l_v (v := .int .i64 0) rfl rfl (r_len rfl rfl Tryz.underlying37) ?_
      refine l_v (v := .bool false) rfl rfl (by kernel_rfl) ?_
      refine l_nil ?_
      refine n_then ?_
      refine c_condF (e := false) rfl rfl ?_
      refine wp_skip ?_
      refine n_then ?_
      have hE76 : Fr [] w w66 := (hE62.trans h64f)
      have hE76z := hE76.size
      exact ⟨_, mk_eq (by kernel_rfl), hE76⟩
  rintro _ wj68 ⟨u_, rfl, hE77⟩
  have hE77z := hE77.size
  refine wp_seq ?_
  refine r_start ?_
  refine l_v (v := .string ⟨(s).toArray⟩) rfl rfl (by kernel_rfl) ?_
  have hd78 := hg.fr0 hE77
  refine l_call rfl rfl (r_call (args := #[.string ⟨(s).toArray⟩]) rfl e9 (am rfl)) (ParseRows_calls wj68 hd78 s (by first | omega | (rw [List.length_append]; omega))) (fun v80 w81 h79 => ?_)
  have h79len := parse_len (f := parseRw) s
  have h79num := parse_num (f := parseRw) s
  obtain ⟨X82, hX82⟩ : ∃ x_, parseT parseRw s = x_ := ⟨_, rfl⟩
  rw [hX82] at h79 h79len h79num
  obtain ⟨h79v, rfl, h79s, h79f⟩ := h79
  have h79z := h79f.size
  obtain ⟨h79sA, h79sc, rfl, h79sl, h79sE⟩ := id h79s
  refine l_v (v := .tuple #[.slice h79sA ((X82.1).length) h79sc, .int .i64 X82.2.1, .int .i64 X82.2.2]) rfl rfl (by kernel_rfl) ?_
  refine l_v (v := .slice h79sA ((X82.1).length) h79sc) rfl rfl (by kernel_rfl) ?_
  refine l_v (v := .int .i64 X82.2.1) rfl rfl (by kernel_rfl) ?_
  refine l_v (v := .int .i64 X82.2.2) rfl rfl (by kernel_rfl) ?_
  refine l_v (v := .slice h79sA ((X82.1).length) h79sc) rfl rfl (by kernel_rfl) ?_
  refine l_v (v := .int .i64 X82.2.1) rfl rfl (by kernel_rfl) ?_
  refine l_v (v := .int .i64 X82.2.2) rfl rfl (by kernel_rfl) ?_
  refine l_nil ?_
  refine n_then ?_
  refine wp_seq ?_
  refine wp_seq ?_
  refine r_start ?_
  refine l_v (v := .int .i64 X82.2.2) rfl rfl (by kernel_rfl) ?_
  refine l_v (v := .bool (X82.2.2 == (0 : Int))) rfl rfl (by kernel_rfl) ?_
  refine l_nil ?_
  refine n_then ?_
  rcases sound_or (f := parseRw) (g := rwLine) (fun x_ e_ h_ => parseRw_line h_) s with ⟨l9, hp_, hw_⟩ | ⟨n9, hp_⟩ | ⟨n9, hp_⟩
  · rw [hX82] at hp_
    subst hp_
    have hwt := wr_total (wt := rwWt) hw_ (fun x_ h_ => rwWt_le h_)
    refine c_condT (e := (0 == (0 : Int))) rfl rfl ?_
    refine wp_seq ?_
    refine r_start ?_
    refine l_v (v := .slice h79sA ((l9).length) h79sc) rfl rfl (by kernel_rfl) ?_
    have hE83 : Fr [] w w81 := (hE77.trans h79f)
    have hE83z := hE83.size
    have hd84 := hg.fr0 hE83
    refine l_call rfl rfl (r_call (args := #[.slice h79sA ((l9).length) h79sc]) rfl e6 (am rfl)) (Rows_calls w81 hd84 _ _ l9 ⟨_, _, rfl, h79sl, h79sE⟩ (by omega) (by omega)) (fun v86 w87 h85 => ?_)
    rw [hw_] at h85
    obtain ⟨rfl, h85f⟩ := h85
    have h85z := h85f.size
    refine l_v (v := .tuple #[.string ⟨(s).toArray⟩, .int .i64 0]) rfl rfl (by kernel_rfl) ?_
    refine l_v (v := .string ⟨(s).toArray⟩) rfl rfl (by kernel_rfl) ?_
    refine l_v (v := .int .i64 0) rfl rfl (by kernel_rfl) ?_
    refine l_v (v := .string ⟨(s).toArray⟩) rfl rfl (by kernel_rfl) ?_
    refine l_v (v := .int .i64 0) rfl rfl (by kernel_rfl) ?_
    refine l_nil ?_
    refine n_then ?_
    refine wp_seq ?_
    refine r_start ?_
    refine l_v (v := .int .i64 0) rfl rfl (by kernel_rfl) ?_
    refine l_v (v := .bool true) rfl rfl (by kernel_rfl) ?_
    refine l_v (v := .bool true) rfl rfl (by kernel_rfl) ?_
    refine l_wanted (want_1 rfl rfl rfl rfl) ((known_eq rfl true).trans rfl) ?_
    refine l_v (v := .int .i64 0) rfl rfl (by kernel_rfl) ?_
    refine l_wanted (want_1 rfl rfl rfl rfl) ((known_eq rfl true).trans rfl) ?_
    refine l_v (v := .bool true) rfl rfl (by kernel_rfl) ?_
    refine l_v (v := .bool true) rfl rfl (r_pickT rfl rfl rfl rfl) ?_
    refine l_v (v := .bool true) rfl rfl (by kernel_rfl) ?_
    refine l_wanted (want_1 rfl rfl rfl rfl) ((known_eq rfl true).trans rfl) ?_
    refine l_v (v := .string ⟨(s).toArray⟩) rfl rfl (by kernel_rfl) ?_
    refine l_wanted (want_1 rfl rfl rfl rfl) ((known_eq rfl true).trans rfl) ?_
    refine l_v (v := .string ⟨(s).toArray⟩) rfl rfl (by kernel_rfl) ?_
    refine l_wanted (want_1 rfl rfl rfl rfl) ((known_eq rfl true).trans rfl) ?_
    refine l_v (v := .bool true) rfl rfl (r_str_same rfl rfl rfl) ?_
    refine l_v (v := .bool true) rfl rfl (r_pickT rfl rfl rfl rfl) ?_
    refine l_v (v := .bool true) rfl rfl (by kernel_rfl) ?_
    refine l_wanted (want_1 rfl rfl rfl rfl) ((known_eq rfl true).trans rfl) ?_
    have hE88 : Fr [] w w87 := (hE83.trans h85f)
    have hE88z := hE88.size
    have hd89 := hg.fr0 hE88
    refine l_call rfl rfl (r_call (args := #[]) rfl e12 (am rfl)) (wakes_calls w87 hd89) (fun v91 w92 h90 => ?_)
    obtain ⟨rfl, h90f⟩ := h90
    have h90z := h90f.size
    refine l_v (v := .bool true) rfl rfl (r_pickT rfl rfl rfl rfl) ?_
    refine l_v (v := .bool true) rfl rfl (by kernel_rfl) ?_
    refine l_nil ?_
    refine n_then ?_
    refine wp_ret ?_
    refine t_then ?_
    have hE93 : Fr [] w w92 := (hE88.trans h90f)
    have hE93z := hE93.size
    exact end_ret (v := .bool true) (res1 rfl rfl) ⟨_, rfl, ⟨rfl, hE93⟩⟩
  · rw [hX82] at hp_
    subst hp_
    refine c_condF (e := (3 == (0 : Int))) rfl rfl ?_
    refine wp_skip ?_
    refine n_then ?_
    refine wp_seq ?_
    refine r_start ?_
    refine l_v (v := .slice h79sA 0 h79sc) rfl rfl (by kernel_rfl) ?_
    refine l_v (v := .int .i64 0) rfl rfl (r_len rfl rfl Tryz.underlying22) ?_
    refine l_v (v := .bool true) rfl rfl (by kernel_rfl) ?_
    refine l_v (v := .bool true) rfl rfl (by kernel_rfl) ?_
    refine l_wanted (want_1 rfl rfl rfl rfl) ((known_eq rfl true).trans rfl) ?_
    have hE94 : Fr [] w w81 := (hE77.trans h79f)
    have hE94z := hE94.size
    have hd95 := hg.fr0 hE94
    refine l_call rfl rfl (r_call (args := #[]) rfl e12 (am rfl)) (wakes_calls w81 hd95) (fun v97 w98 h96 => ?_)
    obtain ⟨rfl, h96f⟩ := h96
    have h96z := h96f.size
    refine l_v (v := .bool true) rfl rfl (r_pickT rfl rfl rfl rfl) ?_
    refine l_v (v := .bool true) rfl rfl (by kernel_rfl) ?_
    refine l_nil ?_
    refine n_then ?_
    refine wp_ret ?_
    have hE99 : Fr [] w w98 := (hE94.trans h96f)
    have hE99z := hE99.size
    exact end_ret (v := .bool true) (res1 rfl rfl) ⟨_, rfl, ⟨rfl, hE99⟩⟩
  · rw [hX82] at hp_
    subst hp_
    refine c_condF (e := (5 == (0 : Int))) rfl rfl ?_
    refine wp_skip ?_
    refine n_then ?_
    refine wp_seq ?_
    refine r_start ?_
    refine l_v (v := .slice h79sA 0 h79sc) rfl rfl (by kernel_rfl) ?_
    refine l_v (v := .int .i64 0) rfl rfl (r_len rfl rfl Tryz.underlying22) ?_
    refine l_v (v := .bool true) rfl rfl (by kernel_rfl) ?_
    refine l_v (v := .bool true) rfl rfl (by kernel_rfl) ?_
    refine l_wanted (want_1 rfl rfl rfl rfl) ((known_eq rfl true).trans rfl) ?_
    have hE100 : Fr [] w w81 := (hE77.trans h79f)
    have hE100z := hE100.size
    have hd101 := hg.fr0 hE100
    refine l_call rfl rfl (r_call (args := #[]) rfl e12 (am rfl)) (wakes_calls w81 hd101) (fun v103 w104 h102 => ?_)
    obtain ⟨rfl, h102f⟩ := h102
    have h102z := h102f.size
    refine l_v (v := .bool true) rfl rfl (r_pickT rfl rfl rfl rfl) ?_
    refine l_v (v := .bool true) rfl rfl (by kernel_rfl) ?_
    refine l_nil ?_
    refine n_then ?_
    refine wp_ret ?_
    have hE105 : Fr [] w w104 := (hE100.trans h102f)
    have hE105z := hE105.size
    exact end_ret (v := .bool true) (res1 rfl rfl) ⟨_, rfl, ⟨rfl, hE105⟩⟩

end Go.Proofs.YtmhljojgdfmjaaaGreatDoor
