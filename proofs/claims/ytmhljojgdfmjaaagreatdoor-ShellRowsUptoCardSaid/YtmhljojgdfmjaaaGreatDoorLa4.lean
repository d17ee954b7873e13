/- walks -/
import Derived.Test.YtmhljojgdfmjaaaGreatDoorLa2
import Derived.Test.YtmhljojgdfmjaaaGreatDoorEngC
namespace Go.Proofs.YtmhljojgdfmjaaaGreatDoor
open Go.E
set_option linter.unusedVariables false
set_option linter.unusedSimpArgs false
set_option maxRecDepth 100000
set_option maxHeartbeats 1000000
open Go.Sh
/-- law31.wakes -/
theorem wakes_calls (w : World) (hg : Glob w) :
    Does Tryz.prog 12 #[] w fun r w' => r = .bool true ∧ Fr [] w w' := by
  have hgz := hg.sz
  refine Does.of (fn_in (l := []) Tryz.func12 rfl Tryz.ntmps12 rfl ?_)
  refine wp_seq ?_
  refine r_start ?_
  refine l_v (v := .bool false) rfl rfl (by kernel_rfl) ?_
  refine l_nil ?_
  refine n_then ?_
  refine wp_seq ?_
  refine r_start ?_
  refine l_call rfl rfl (r_call (args := #[.string ⟨([34, 97, 34, 120] : List UInt8).toArray⟩]) rfl e24 (am rfl)) (Unquote_calls w [34, 97, 34, 120] (by decide)) (fun v2 w3 h1 => ?_)
  have h1u : unqR [34, 97, 34, 120] = ([97], [120], true) := by decide +kernel
  rw [h1u] at h1
  obtain ⟨h1v, rfl, ⟨h1A, h1c, rfl, h1l, h1E⟩, h1f⟩ := h1
  have h1z := h1f.size
  refine l_v (v := .tuple #[.slice h1A 1 h1c, .string ⟨([120] : List UInt8).toArray⟩, .bool true]) rfl rfl (by kernel_rfl) ?_
  refine l_v (v := .slice h1A 1 h1c) rfl rfl (by kernel_rfl) ?_
  refine l_v (v := .string ⟨([120] : List UInt8).toArray⟩) rfl rfl (by kernel_rfl) ?_
  refine l_v (v := .bool true) rfl rfl (by kernel_rfl) ?_
  refine l_v (v := .slice h1A 1 h1c) rfl rfl (by kernel_rfl) ?_
  refine l_v (v := .string ⟨([120] : List UInt8).toArray⟩) rfl rfl (by kernel_rfl) ?_
  refine l_v (v := .bool true) rfl rfl (by kernel_rfl) ?_
  refine l_nil ?_
  refine n_then ?_
  refine wp_seq ?_
  refine r_start ?_
  refine l_call rfl rfl (r_call (args := #[.string ⟨([34, 92, 120, 54, 49, 34] : List UInt8).toArray⟩]) rfl e24 (am rfl)) (Unquote_calls w3 [34, 92, 120, 54, 49, 34] (by decide)) (fun v5 w6 h4 => ?_)
  have h4u : unqR [34, 92, 120, 54, 49, 34] = ([], [], false) := by decide +kernel
  rw [h4u] at h4
  obtain ⟨h4v, rfl, ⟨h4A, h4c, rfl, h4l, h4E⟩, h4f⟩ := h4
  have h4z := h4f.size
  refine l_v (v := .tuple #[.slice h4A 0 h4c, .string ⟨([] : List UInt8).toArray⟩, .bool false]) rfl rfl (by kernel_rfl) ?_
  refine l_v (v := .slice h4A 0 h4c) rfl rfl (by kernel_rfl) ?_
  refine l_v (v := .string ⟨([] : List UInt8).toArray⟩) rfl rfl (by kernel_rfl) ?_
  refine l_v (v := .bool false) rfl rfl (by kernel_rfl) ?_
  refine l_v (v := .slice h4A 0 h4c) rfl rfl (by kernel_rfl) ?_
  refine l_v (v := .string ⟨([] : List UInt8).toArray⟩) rfl rfl (by kernel_rfl) ?_
  refine l_v (v := .bool false) rfl rfl (by kernel_rfl) ?_
  refine l_nil ?_
  refine n_then ?_
  refine wp_seq ?_
  refine r_start ?_
  refine l_new (fun k_ => .slice (some ⟨k_, 0, none⟩) 2 2) rfl rfl (by kernel_rfl) (ob := .cells #[.int .u8 104, .int .u8 105] 5) (fun k7 w8 n9 => ?_)
  have hE10 : Fr [] w w6 := (((Fr.refl [] w).trans h1f).trans h4f)
  have hE10z := hE10.size
  have n9k := n9.hk; have n9z := n9.sz
  refine l_conv_mark rfl rfl rfl rfl Tryz.underlying47 Tryz.underlying5 n9.at_ (fun w11 p12 => ?_)
  have p12z := p12.sz
  refine l_v (v := .agg #[.int .i64 2, .int .i64 2, .int .i64 0, .slice (some ⟨k7, 0, none⟩) 2 2, .slice none 0 0]) rfl rfl (by kernel_rfl) ?_
  refine l_new (fun k_ => .slice (some ⟨k_, 0, none⟩) 2 2) rfl rfl (by kernel_rfl) (ob := .cells #[.int .u16 5, .int .u16 0] 67) (fun k13 w14 n15 => ?_)
  have hE16 : Fr [] w w11 := (Fr.step (hE10.trans n9.fr) p12.fr (by intro k_ hk_; simp only [List.mem_singleton] at hk_; omega))
  have hE16z := hE16.size
  have n15k := n15.hk; have n15z := n15.sz
  refine l_v (v := .agg #[.int .i64 8, .int .i64 0, .int .i64 3, .slice none 0 0, .slice (some ⟨k13, 0, none⟩) 2 2]) rfl rfl (by kernel_rfl) ?_
  refine l_v (v := .agg #[.int .i64 5, .int .i64 0, .int .i64 0, .slice none 0 0, .slice none 0 0]) rfl rfl (by kernel_rfl) ?_
  refine l_new (fun k_ => .slice (some ⟨k_, 0, none⟩) 3 3) rfl rfl (by kernel_rfl) (ob := .cells #[.int .i64 2, .int .i64 2, .int .i64 0, .slice (some ⟨k7, 0, none⟩) 2 2, .slice none 0 0, .int .i64 8, .int .i64 0, .int .i64 3, .slice none 0 0, .slice (some ⟨k13, 0, none⟩) 2 2, .int .i64 5, .int .i64 0, .int .i64 0, .slice none 0 0, .slice none 0 0] 66) (fun k17 w18 n19 => ?_)
  have hE20 : Fr [] w w14 := (hE16.trans n15.fr)
  have hE20z := hE20.size
  have n19k := n19.hk; have n19z := n19.sz
  have hb21 := (n19.fr.at0 (n15.fr.at0 p12.at_))
  have hb22 := (n19.fr.at0 n15.at_)
  have hs23 : Sl Rp.ev (fun _ => True) w18 (.slice (some ⟨k17, 0, none⟩) 3 3) [(⟨2, 2, 0, [104, 105], []⟩ : Ev), (⟨8, 0, 3, [], [5, 0]⟩ : Ev), (⟨5, 0, 0, [], []⟩ : Ev)] := sl_block (ok := fun _ => True) (css := [[.int .i64 2, .int .i64 2, .int .i64 0, .slice (some ⟨k7, 0, none⟩) 2 2, .slice none 0 0], [.int .i64 8, .int .i64 0, .int .i64 3, .slice none 0 0, .slice (some ⟨k13, 0, none⟩) 2 2], [.int .i64 5, .int .i64 0, .int .i64 0, .slice none 0 0, .slice none 0 0]]) (xs := [(⟨2, 2, 0, [104, 105], []⟩ : Ev), (⟨8, 0, 3, [], [5, 0]⟩ : Ev), (⟨5, 0, 0, [], []⟩ : Ev)]) n19.at_ rfl ⟨evK_mk (ev := (⟨2, 2, 0, [104, 105], []⟩ : Ev)) (sl_block (R := Rp.u8) (ok := fun _ => True) (ok' := fun _ => True) (css := [[.int .u8 104], [.int .u8 105]]) (xs := [104, 105]) hb21 rfl ⟨rfl, rfl, trivial⟩ trivial (fun _ h_ => h_)) (Sl.nil _ _ _) (by refine ⟨?_, ?_, ?_, by decide, by decide, by decide⟩ <;> (unfold i64; decide)), evK_mk (ev := (⟨8, 0, 3, [], [5, 0]⟩ : Ev)) (Sl.nil _ _ _) (sl_block (R := Rp.int .u16) (ok := fun _ => True) (ok' := fun _ => True) (css := [[.int .u16 5], [.int .u16 0]]) (xs := [5, 0]) hb22 rfl ⟨⟨rfl, by decide, by decide⟩, ⟨rfl, by decide, by decide⟩, trivial⟩ trivial (fun _ h_ => h_)) (by refine ⟨?_, ?_, ?_, by decide, by decide, by decide⟩ <;> (unfold i64; decide)), evK_mk (ev := (⟨5, 0, 0, [], []⟩ : Ev)) (Sl.nil _ _ _) (Sl.nil _ _ _) (by refine ⟨?_, ?_, ?_, by decide, by decide, by decide⟩ <;> (unfold i64; decide)), trivial⟩ trivial (fun _ h_ => h_)
  have hE24 : Fr [] w w18 := (hE20.trans n19.fr)
  have hE24z := hE24.size
  have hd25 := hg.fr0 hE24
  refine l_call rfl rfl (r_call (args := #[.slice (some ⟨k17, 0, none⟩) 3 3]) rfl e13 (am rfl)) (Text_calls w18 hd25 _ _ [(⟨2, 2, 0, [104, 105], []⟩ : Ev), (⟨8, 0, 3, [], [5, 0]⟩ : Ev), (⟨5, 0, 0, [], []⟩ : Ev)] hs23 (by decide) (by decide)) (fun v27 w28 h26 => ?_)
  have h26u : wr evLine [(⟨2, 2, 0, [104, 105], []⟩ : Ev), (⟨8, 0, 3, [], [5, 0]⟩ : Ev), (⟨5, 0, 0, [], []⟩ : Ev)] = ([112, 117, 115, 104, 32, 50, 32, 34, 104, 105, 34, 10, 99, 114, 97, 115, 104, 32, 51, 32, 53, 32, 48, 10, 115, 116, 101, 112, 10], 0) := by decide +kernel
  rw [h26u] at h26
  obtain ⟨rfl, h26f⟩ := h26
  have h26z := h26f.size
  refine l_v (v := .tuple #[.string ⟨([112, 117, 115, 104, 32, 50, 32, 34, 104, 105, 34, 10, 99, 114, 97, 115, 104, 32, 51, 32, 53, 32, 48, 10, 115, 116, 101, 112, 10] : List UInt8).toArray⟩, .int .i64 0]) rfl rfl (by kernel_rfl) ?_
  refine l_v (v := .string ⟨([112, 117, 115, 104, 32, 50, 32, 34, 104, 105, 34, 10, 99, 114, 97, 115, 104, 32, 51, 32, 53, 32, 48, 10, 115, 116, 101, 112, 10] : List UInt8).toArray⟩) rfl rfl (by kernel_rfl) ?_
  refine l_v (v := .int .i64 0) rfl rfl (by kernel_rfl) ?_
  refine l_v (v := .string ⟨([112, 117, 115, 104, 32, 50, 32, 34, 104, 105, 34, 10, 99, 114, 97, 115, 104, 32, 51, 32, 53, 32, 48, 10, 115, 116, 101, 112, 10] : List UInt8).toArray⟩) rfl rfl (by kernel_rfl) ?_
  refine l_v (v := .int .i64 0) rfl rfl (by kernel_rfl) ?_
  refine l_nil ?_
  refine n_then ?_
  refine wp_seq ?_
  refine r_start ?_
  refine l_new (fun k_ => .slice (some ⟨k_, 0, none⟩) 1 1) rfl rfl (by kernel_rfl) (ob := .cells #[.int .u8 120] 5) (fun k29 w30 n31 => ?_)
  have hE32 : Fr [] w w28 := (hE24.trans h26f)
  have hE32z := hE32.size
  have n31k := n31.hk; have n31z := n31.sz
  refine l_conv_mark rfl rfl rfl rfl Tryz.underlying47 Tryz.underlying5 n31.at_ (fun w33 p34 => ?_)
  have p34z := p34.sz
  refine l_v (v := .agg #[.int .i64 2, .int .i64 0, .int .i64 0, .int .i64 0, .slice (some ⟨k29, 0, none⟩) 1 1, .bool true]) rfl rfl (by kernel_rfl) ?_
  refine l_v (v := .agg #[.int .i64 5, .int .i64 0, .int .i64 0, .int .i64 4, .slice none 0 0, .bool false]) rfl rfl (by kernel_rfl) ?_
  refine l_v (v := .agg #[.int .i64 1, .int .i64 7, .int .i64 0, .int .i64 0, .slice none 0 0, .bool false]) rfl rfl (by kernel_rfl) ?_
  refine l_new (fun k_ => .slice (some ⟨k_, 0, none⟩) 3 3) rfl rfl (by kernel_rfl) (ob := .cells #[.int .i64 2, .int .i64 0, .int .i64 0, .int .i64 0, .slice (some ⟨k29, 0, none⟩) 1 1, .bool true, .int .i64 5, .int .i64 0, .int .i64 0, .int .i64 4, .slice none 0 0, .bool false, .int .i64 1, .int .i64 7, .int .i64 0, .int .i64 0, .slice none 0 0, .bool false] 49) (fun k35 w36 n37 => ?_)
  have hE38 : Fr [] w w33 := (Fr.step (hE32.trans n31.fr) p34.fr (by intro k_ hk_; simp only [List.mem_singleton] at hk_; omega))
  have hE38z := hE38.size
  have n37k := n37.hk; have n37z := n37.sz
  have hb39 := (n37.fr.at0 p34.at_)
  have hs40 : Sl Rp.rw (fun _ => True) w36 (.slice (some ⟨k35, 0, none⟩) 3 3) [(⟨2, 0, 0, 0, [120], true⟩ : Rw), (⟨5, 0, 0, 4, [], false⟩ : Rw), (⟨1, 7, 0, 0, [], false⟩ : Rw)] := sl_block (ok := fun _ => True) (css := [[.int .i64 2, .int .i64 0, .int .i64 0, .int .i64 0, .slice (some ⟨k29, 0, none⟩) 1 1, .bool true], [.int .i64 5, .int .i64 0, .int .i64 0, .int .i64 4, .slice none 0 0, .bool false], [.int .i64 1, .int .i64 7, .int .i64 0, .int .i64 0, .slice none 0 0, .bool false]]) (xs := [(⟨2, 0, 0, 0, [120], true⟩ : Rw), (⟨5, 0, 0, 4, [], false⟩ : Rw), (⟨1, 7, 0, 0, [], false⟩ : Rw)]) n37.at_ rfl ⟨rwK_mk (sl_block (R := Rp.u8) (ok := fun _ => True) (ok' := fun _ => True) (css := [[.int .u8 120]]) (xs := [120]) hb39 rfl ⟨rfl, trivial⟩ trivial (fun _ h_ => h_)) (by unfold i64; omega) (by unfold i64; omega) (by unfold i64; omega) (by unfold i64; omega) (by decide), rwK_mk (Sl.nil _ _ _) (by unfold i64; omega) (by unfold i64; omega) (by unfold i64; omega) (by unfold i64; omega) (by decide), rwK_mk (Sl.nil _ _ _) (by unfold i64; omega) (by unfold i64; omega) (by unfold i64; omega) (by unfold i64; omega) (by decide), trivial⟩ trivial (fun _ h_ => h_)
  have hE41 : Fr [] w w36 := (hE38.trans n37.fr)
  have hE41z := hE41.size
  have hd42 := hg.fr0 hE41
  refine l_call rfl rfl (r_call (args := #[.slice (some ⟨k35, 0, none⟩) 3 3]) rfl e6 (am rfl)) (Rows_calls w36 hd42 _ _ [(⟨2, 0, 0, 0, [120], true⟩ : Rw), (⟨5, 0, 0, 4, [], false⟩ : Rw), (⟨1, 7, 0, 0, [], false⟩ : Rw)] hs40 (by decide) (by decide)) (fun v44 w45 h43 => ?_)
  have h43u : wr rwLine [(⟨2, 0, 0, 0, [120], true⟩ : Rw), (⟨5, 0, 0, 4, [], false⟩ : Rw), (⟨1, 7, 0, 0, [], false⟩ : Rw)] = ([112, 117, 115, 104, 32, 111, 107, 32, 34, 120, 34, 32, 101, 110, 100, 101, 100, 10, 115, 116, 101, 112, 32, 111, 107, 32, 52, 10, 99, 111, 110, 110, 101, 99, 116, 32, 101, 114, 114, 111, 114, 32, 55, 10], 0) := by decide +kernel
  rw [h43u] at h43
  obtain ⟨rfl, h43f⟩ := h43
  have h43z := h43f.size
  refine l_v (v := .tuple #[.string ⟨([112, 117, 115, 104, 32, 111, 107, 32, 34, 120, 34, 32, 101, 110, 100, 101, 100, 10, 115, 116, 101, 112, 32, 111, 107, 32, 52, 10, 99, 111, 110, 110, 101, 99, 116, 32, 101, 114, 114, 111, 114, 32, 55, 10] : List UInt8).toArray⟩, .int .i64 0]) rfl rfl (by kernel_rfl) ?_
  refine l_v (v := .string ⟨([112, 117, 115, 104, 32, 111, 107, 32, 34, 120, 34, 32, 101, 110, 100, 101, 100, 10, 115, 116, 101, 112, 32, 111, 107, 32, 52, 10, 99, 111, 110, 110, 101, 99, 116, 32, 101, 114, 114, 111, 114, 32, 55, 10] : List UInt8).toArray⟩) rfl rfl (by kernel_rfl) ?_
  refine l_v (v := .int .i64 0) rfl rfl (by kernel_rfl) ?_
  refine l_v (v := .string ⟨([112, 117, 115, 104, 32, 111, 107, 32, 34, 120, 34, 32, 101, 110, 100, 101, 100, 10, 115, 116, 101, 112, 32, 111, 107, 32, 52, 10, 99, 111, 110, 110, 101, 99, 116, 32, 101, 114, 114, 111, 114, 32, 55, 10] : List UInt8).toArray⟩) rfl rfl (by kernel_rfl) ?_
  refine l_v (v := .int .i64 0) rfl rfl (by kernel_rfl) ?_
  refine l_nil ?_
  refine n_then ?_
  refine wp_seq ?_
  refine r_start ?_
  have hE46 : Fr [] w w45 := (hE41.trans h43f)
  have hE46z := hE46.size
  have hd47 := hg.fr0 hE46
  refine l_call rfl rfl (r_call (args := #[.string ⟨([116, 105, 99, 107, 32, 45, 49, 10, 111, 112, 101, 110, 10] : List UInt8).toArray⟩]) rfl e14 (am rfl)) (Parse_calls w45 hd47 [116, 105, 99, 107, 32, 45, 49, 10, 111, 112, 101, 110, 10] (by decide)) (fun v49 w50 h48 => ?_)
  have h48u : parseT parseEv [116, 105, 99, 107, 32, 45, 49, 10, 111, 112, 101, 110, 10] = ([⟨4, 0, -1, [], []⟩, ⟨9, 0, 0, [], []⟩], 0, 0) := by kernel_rfl
  rw [h48u] at h48
  obtain ⟨h48v, rfl, ⟨h48A, h48c, rfl, h48l, h48E⟩, h48f⟩ := h48
  have h48z := h48f.size
  refine l_v (v := .tuple #[.slice h48A 2 h48c, .int .i64 0, .int .i64 0]) rfl rfl (by kernel_rfl) ?_
  refine l_v (v := .slice h48A 2 h48c) rfl rfl (by kernel_rfl) ?_
  refine l_v (v := .int .i64 0) rfl rfl (by kernel_rfl) ?_
  refine l_v (v := .int .i64 0) rfl rfl (by kernel_rfl) ?_
  refine l_v (v := .slice h48A 2 h48c) rfl rfl (by kernel_rfl) ?_
  refine l_v (v := .int .i64 0) rfl rfl (by kernel_rfl) ?_
  refine l_v (v := .int .i64 0) rfl rfl (by kernel_rfl) ?_
  refine l_nil ?_
  refine n_then ?_
  refine wp_seq ?_
  refine r_start ?_
  have hE51 : Fr [] w w50 := (hE46.trans h48f)
  have hE51z := hE51.size
  have hd52 := hg.fr0 hE51
  refine l_call rfl rfl (r_call (args := #[.string ⟨([116, 105, 99, 107, 32, 48, 49, 10] : List UInt8).toArray⟩]) rfl e14 (am rfl)) (Parse_calls w50 hd52 [116, 105, 99, 107, 32, 48, 49, 10] (by decide)) (fun v54 w55 h53 => ?_)
  have h53u : parseT parseEv [116, 105, 99, 107, 32, 48, 49, 10] = ([], 1, 5) := by kernel_rfl
  rw [h53u] at h53
  obtain ⟨h53v, rfl, ⟨h53A, h53c, rfl, h53l, h53E⟩, h53f⟩ := h53
  have h53z := h53f.size
  refine l_v (v := .tuple #[.slice h53A 0 h53c, .int .i64 1, .int .i64 5]) rfl rfl (by kernel_rfl) ?_
  refine l_v (v := .slice h53A 0 h53c) rfl rfl (by kernel_rfl) ?_
  refine l_v (v := .int .i64 1) rfl rfl (by kernel_rfl) ?_
  refine l_v (v := .int .i64 5) rfl rfl (by kernel_rfl) ?_
  refine l_v (v := .slice h53A 0 h53c) rfl rfl (by kernel_rfl) ?_
  refine l_v (v := .int .i64 1) rfl rfl (by kernel_rfl) ?_
  refine l_v (v := .int .i64 5) rfl rfl (by kernel_rfl) ?_
  refine l_nil ?_
  refine n_then ?_
  refine wp_seq ?_
  refine r_start ?_
  refine l_new (fun k_ => .slice (some ⟨k_, 0, none⟩) 5 5) rfl rfl (by kernel_rfl) (ob := .cells #[.int .u8 97, .int .u8 32, .int .u8 34, .int .u8 13, .int .u8 255] 5) (fun k56 w57 n58 => ?_)
  have hE59 : Fr [] w w55 := (hE51.trans h53f)
  have hE59z := hE59.size
  have n58k := n58.hk; have n58z := n58.sz
  refine l_conv_mark rfl rfl rfl rfl Tryz.underlying47 Tryz.underlying5 n58.at_ (fun w60 p61 => ?_)
  have p61z := p61.sz
  refine l_call rfl rfl (r_call (args := #[.slice (some ⟨k56, 0, none⟩) 5 5]) rfl e25 (am rfl)) (Quote_calls w60 (fun _ => True) _ [97, 32, 34, 13, 255] (sl_block (R := Rp.u8) (ok := fun _ => True) (ok' := fun _ => True) (css := [[.int .u8 97], [.int .u8 32], [.int .u8 34], [.int .u8 13], [.int .u8 255]]) (xs := [97, 32, 34, 13, 255]) p61.at_ rfl ⟨rfl, rfl, rfl, rfl, rfl, trivial⟩ trivial (fun _ h_ => h_)) (by decide)) (fun v63 w64 h62 => ?_)
  have h62u : quoteL [97, 32, 34, 13, 255] = [34, 97, 32, 92, 34, 92, 120, 48, 100, 92, 120, 102, 102, 34] := by decide +kernel
  rw [h62u] at h62
  obtain ⟨rfl, h62f⟩ := h62
  have h62z := h62f.size
  refine l_v (v := .bool true) rfl rfl (by kernel_rfl) ?_
  refine l_v (v := .bool true) rfl rfl (by kernel_rfl) ?_
  refine l_wanted (want_1 rfl rfl rfl rfl) ((known_eq rfl true).trans rfl) ?_
  refine l_v (v := .slice h1A 1 h1c) rfl rfl (by kernel_rfl) ?_
  refine l_wanted (want_1 rfl rfl rfl rfl) ((known_eq rfl true).trans rfl) ?_
  have hd65 := h1E.fr0 ((Fr.step ((((((Fr.step (((((Fr.step (((Fr.refl [] w3).trans h4f).trans n9.fr) p12.fr (by intro k_ hk_; simp only [List.mem_singleton] at hk_; omega)).trans n15.fr).trans n19.fr).trans h26f).trans n31.fr) p34.fr (by intro k_ hk_; simp only [List.mem_singleton] at hk_; omega)).trans n37.fr).trans h43f).trans h48f).trans h53f).trans n58.fr) p61.fr (by intro k_ hk_; simp only [List.mem_singleton] at hk_; omega)).trans h62f)
  refine l_v (v := .string ⟨([97] : List UInt8).toArray⟩) rfl rfl (r_conv_str rfl rfl (conv_bytes hd65 Tryz.underlying47 Tryz.underlying5 Tryz.underlying9)) ?_
  refine l_wanted (want_1 rfl rfl rfl rfl) ((known_eq rfl true).trans rfl) ?_
  refine l_v (v := .bool true) rfl rfl (by kernel_rfl) ?_
  refine l_v (v := .bool true) rfl rfl (r_pickT rfl rfl rfl rfl) ?_
  refine l_v (v := .bool true) rfl rfl (by kernel_rfl) ?_
  refine l_wanted (want_1 rfl rfl rfl rfl) ((known_eq rfl true).trans rfl) ?_
  refine l_v (v := .string ⟨([120] : List UInt8).toArray⟩) rfl rfl (by kernel_rfl) ?_
  refine l_wanted (want_1 rfl rfl rfl rfl) ((known_eq rfl true).trans rfl) ?_
  refine l_v (v := .bool true) rfl rfl (by kernel_rfl) ?_
  refine l_v (v := .bool true) rfl rfl (r_pickT rfl rfl rfl rfl) ?_
  refine l_v (v := .bool true) rfl rfl (by kernel_rfl) ?_
  refine l_wanted (want_1 rfl rfl rfl rfl) ((known_eq rfl true).trans rfl) ?_
  refine l_v (v := .bool true) rfl rfl (by kernel_rfl) ?_
  refine l_v (v := .bool true) rfl rfl (r_pickT rfl rfl rfl rfl) ?_
  refine l_v (v := .bool true) rfl rfl (by kernel_rfl) ?_
  refine l_wanted (want_1 rfl rfl rfl rfl) ((known_eq rfl true).trans rfl) ?_
  refine l_v (v := .bool false) rfl rfl (by kernel_rfl) ?_
  refine l_wanted (want_1 rfl rfl rfl rfl) ((known_eq rfl true).trans rfl) ?_
  refine l_v (v := .bool true) rfl rfl (by kernel_rfl) ?_
  refine l_v (v := .bool true) rfl rfl (r_pickT rfl rfl rfl rfl) ?_
  refine l_v (v := .bool true) rfl rfl (by kernel_rfl) ?_
  refine l_wanted (want_1 rfl rfl rfl rfl) ((known_eq rfl true).trans rfl) ?_
  refine l_v (v := .int .i64 0) rfl rfl (by kernel_rfl) ?_
  refine l_wanted (want_1 rfl rfl rfl rfl) ((known_eq rfl true).trans rfl) ?_
  refine l_v (v := .bool true) rfl rfl (by kernel_rfl) ?_
  refine l_v (v := .bool true) rfl rfl (r_pickT rfl rfl rfl rfl) ?_
  refine l_v (v := .bool true) rfl rfl (by kernel_rfl) ?_
  refine l_wanted (want_1 rfl rfl rfl rfl) ((known_eq rfl true).trans rfl) ?_
  refine l_v (v := .string ⟨([112, 117, 115, 104, 32, 50, 32, 34, 104, 105, 34, 10, 99, 114, 97, 115, 104, 32, 51, 32, 53, 32, 48, 10, 115, 116, 101, 112, 10] : List UInt8).toArray⟩) rfl rfl (by kernel_rfl) ?_
  refine l_wanted (want_1 rfl rfl rfl rfl) ((known_eq rfl true).trans rfl) ?_
  refine l_v (v := .bool true) rfl rfl (by kernel_rfl) ?_
  refine l_v (v := .bool true) rfl rfl (r_pickT rfl rfl rfl rfl) ?_
  refine l_v (v := .bool true) rfl rfl (by kernel_rfl) ?_
  refine l_wanted (want_1 rfl rfl rfl rfl) ((known_eq rfl true).trans rfl) ?_
  refine l_v (v := .int .i64 0) rfl rfl (by kernel_rfl) ?_
  refine l_wanted (want_1 rfl rfl rfl rfl) ((known_eq rfl true).trans rfl) ?_
  refine l_v (v := .bool true) rfl rfl (by kernel_rfl) ?_
  refine l_v (v := .bool true) rfl rfl (r_pickT rfl rfl rfl rfl) ?_
  refine l_v (v := .bool true) rfl rfl (by kernel_rfl) ?_
  refine l_wanted (want_1 rfl rfl rfl rfl) ((known_eq rfl true).trans rfl) ?_
  refine l_v (v := .string ⟨([112, 117, 115, 104, 32, 111, 107, 32, 34, 120, 34, 32, 101, 110, 100, 101, 100, 10, 115, 116, 101, 112, 32, 111, 107, 32, 52, 10, 99, 111, 110, 110, 101, 99, 116, 32, 101, 114, 114, 111, 114, 32, 55, 10] : List UInt8).toArray⟩) rfl rfl (by kernel_rfl) ?_
  refine l_wanted (want_1 rfl rfl rfl rfl) ((known_eq rfl true).trans rfl) ?_
  refine l_v (v := .bool true) rfl rfl (by kernel_rfl) ?_
  refine l_v (v := .bool true) rfl rfl (r_pickT rfl rfl rfl rfl) ?_
  refine l_v (v := .bool true) rfl rfl (by kernel_rfl) ?_
  refine l_wanted (want_1 rfl rfl rfl rfl) ((known_eq rfl true).trans rfl) ?_
  refine l_v (v := .int .i64 0) rfl rfl (by kernel_rfl) ?_
  refine l_wanted (want_1 rfl rfl rfl rfl) ((known_eq rfl true).trans rfl) ?_
  refine l_v (v := .bool true) rfl rfl (by kernel_rfl) ?_
  refine l_v (v := .bool true) rfl rfl (r_pickT rfl rfl rfl rfl) ?_
  refine l_v (v := .bool true) rfl rfl (by kernel_rfl) ?_
  refine l_wanted (want_1 rfl rfl rfl rfl) ((known_eq rfl true).trans rfl) ?_
  refine l_v (v := .int .i64 0) rfl rfl (by kernel_rfl) ?_
  refine l_wanted (want_1 rfl rfl rfl rfl) ((known_eq rfl true).trans rfl) ?_
  refine l_v (v := .bool true) rfl rfl (by kernel_rfl) ?_
  refine l_v (v := .bool true) rfl rfl (r_pickT rfl rfl rfl rfl) ?_
  refine l_v (v := .bool true) rfl rfl (by kernel_rfl) ?_
  refine l_wanted (want_1 rfl rfl rfl rfl) ((known_eq rfl true).trans rfl) ?_
  refine l_v (v := .slice h48A 2 h48c) rfl rfl (by kernel_rfl) ?_
  refine l_wanted (want_1 rfl rfl rfl rfl) ((known_eq rfl true).trans rfl) ?_
  refine l_v (v := .int .i64 2) rfl rfl (r_len rfl rfl Tryz.underlying37) ?_
  refine l_wanted (want_1 rfl rfl rfl rfl) ((known_eq rfl true).trans rfl) ?_
  refine l_v (v := .bool true) rfl rfl (by kernel_rfl) ?_
  refine l_v (v := .bool true) rfl rfl (r_pickT rfl rfl rfl rfl) ?_
  refine l_v (v := .bool true) rfl rfl (by kernel_rfl) ?_
  refine l_wanted (want_1 rfl rfl rfl rfl) ((known_eq rfl true).trans rfl) ?_
  refine l_v (v := .slice h48A 2 h48c) rfl rfl (by kernel_rfl) ?_
  refine l_wanted (want_1 rfl rfl rfl rfl) ((known_eq rfl true).trans rfl) ?_
  have hd66 := h48E.fr0 ((Fr.step (((Fr.refl [] w50).trans h53f).trans n58.fr) p61.fr (by intro k_ hk_; simp only [List.mem_singleton] at hk_; omega)).trans h62f)
  obtain ⟨x67, g68, off69, cs70, hx71, hA72, hg73, hl74, hK75, hr76⟩ := El.get hd66 (i := 0) (by decide)
  obtain rfl : (⟨4, 0, -1, [], []⟩ : Ev) = x67 := Option.some.inj hx71
  obtain ⟨A78, c79, A80, c81, rfl, _⟩ := id hK75
  refine l_v (v := .pointer (some ⟨g68, off69 + 0 * 5, none⟩)) rfl rfl (r_elemn rfl rfl rfl hA72 Tryz.underlying37 (by kernel_rfl) (by decide)) ?_
  refine l_wanted (want_1 rfl rfl rfl rfl) ((known_eq rfl true).trans rfl) ?_
  refine l_v (v := .pointer (some ⟨g68, off69 + 0 * 5 + 2, none⟩)) rfl rfl (r_field rfl rfl Tryz.underlying66 rfl (by kernel_rfl) rfl) ?_
  refine l_wanted (want_1 rfl rfl rfl rfl) ((known_eq rfl true).trans rfl) ?_
  refine l_v (v := .int .i64 (-1)) rfl rfl (r_load rfl rfl Tryz.underlying3 rfl (range_get (j := 2) hr76 rfl)) ?_
  refine l_wanted (want_1 rfl rfl rfl rfl) ((known_eq rfl true).trans rfl) ?_
  refine l_v (v := .bool true) rfl rfl (by kernel_rfl) ?_
  refine l_v (v := .bool true) rfl rfl (r_pickT rfl rfl rfl rfl) ?_
  refine l_v (v := .bool true) rfl rfl (by kernel_rfl) ?_
  refine l_wanted (want_1 rfl rfl rfl rfl) ((known_eq rfl true).trans rfl) ?_
  refine l_v (v := .int .i64 1) rfl rfl (by kernel_rfl) ?_
  refine l_wanted (want_1 rfl rfl rfl rfl) ((known_eq rfl true).trans rfl) ?_
  refine l_v (v := .bool true) rfl rfl (by kernel_rfl) ?_
  refine l_v (v := .bool true) rfl rfl (r_pickT rfl rfl rfl rfl) ?_
  refine l_v (v := .bool true) rfl rfl (by kernel_rfl) ?_
  refine l_wanted (want_1 rfl rfl rfl rfl) ((known_eq rfl true).trans rfl) ?_
  refine l_v (v := .int .i64 5) rfl rfl (by kernel_rfl) ?_
  refine l_wanted (want_1 rfl rfl rfl rfl) ((known_eq rfl true).trans rfl) ?_
  refine l_v (v := .bool true) rfl rfl (by kernel_rfl) ?_
  refine l_v (v := .bool true) rfl rfl (r_pickT rfl rfl rfl rfl) ?_
  refine l_v (v := .bool true) rfl rfl (by kernel_rfl) ?_
  refine l_nil ?_
  refine n_then ?_
  refine wp_ret ?_
  have hE82 : Fr [] w w64 := ((Fr.step (hE59.trans n58.fr) p61.fr (by intro k_ hk_; simp only [List.mem_singleton] at hk_; omega)).trans h62f)
  have hE82z := hE82.size
  exact end_ret (v := .bool true) (res1 rfl rfl) ⟨_, rfl, ⟨rfl, hE82⟩⟩

end Go.Proofs.YtmhljojgdfmjaaaGreatDoor
