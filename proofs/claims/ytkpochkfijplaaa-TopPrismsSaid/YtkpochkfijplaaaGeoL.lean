/-
  The program's regions and the reference's, of a shape without holes.
-/
import Derived.Test.YtkpochkfijplaaaGeoK
import Derived.Laws.AppendOwnNone
import Derived.Laws.OwnMore
namespace Go.Proofs.Ytkpochkfijplaaa
set_option linter.all false
open Go Go.RowKit Wd
set_option maxRecDepth 100000
set_option maxHeartbeats 4000000 in
theorem gcheck_ok (b o n c : Nat) (X Y : Nat → Int) (hc : chkR X Y n = 0) (ha : 0 < arC X Y n n) (w : World) (hp : Pts w b o n X Y) :
    Calls Try.prog 22 #[.agg #[.slice (some ⟨b, o, none⟩) n c, .slice none 0 0]] w fun e w' => e = .returned (.int .i64 0) ∧ Below w.heap.size w w' := by
  have HP := Lib.hid hp
  have K1 := Lib.hid (fun W (h : Pts W b o n X Y) => pcheck_ok b o n c X Y hc (by omega) W h)
  have K2 := Lib.hid (fun W (h : Pts W b o n X Y) => parea2_ok b o n c X Y hc (by omega) W h)
  generalize arC X Y n n = t at *
  clear hc hp
  go_enter Try.func22, Try.ntmps22
  go_wp2_with fail
  ((with_reducible refine (K1.out _ (HP.out.later (by (repeat' (first | (with_reducible exact Below.refl _ _) | (with_reducible assumption) | (with_reducible refine below_alloc ?_ _) | (with_reducible refine Below.drew ?_) | (with_reducible refine Below.setCell ?_ ?_ _) | (with_reducible refine below_after ?_ (by assumption)) | go_size))))).mono ?_); rintro e w1 ⟨rfl, hb1⟩)
  obtain ⟨hc1, hf1⟩ := bcell hb1
  have hz1_w_0 : w.heap.size < w1.heap.size := by have h := hb1.size; (try simp at h); omega
  have P1 := Lib.hid (HP.out.later (show Below w.heap.size w w1 by (repeat' (first | (with_reducible exact Below.refl _ _) | (with_reducible assumption) | (with_reducible refine below_alloc ?_ _) | (with_reducible refine Below.drew ?_) | (with_reducible refine Below.setCell ?_ ?_ _) | (with_reducible refine below_after ?_ (by assumption)) | go_size))))
  go_wp2_with fail
  ((with_reducible refine (K2.out _ P1.out).mono ?_); rintro e w2 ⟨rfl, hb2⟩)
  obtain ⟨hc2, hf2⟩ := bcell hb2
  have hz2_w_0 : w.heap.size < w2.heap.size := by have h := hb2.size; (try simp at h); omega
  go_wp2
  refine wp_loop_rounds 1 ?_
  rw [rounds_succ]
  go_wp2
  go_returns
  exact ⟨rfl, by (repeat' (first | (with_reducible exact Below.refl _ _) | (with_reducible assumption) | (with_reducible refine below_alloc ?_ _) | (with_reducible refine Below.drew ?_) | (with_reducible refine Below.setCell ?_ ?_ _) | (with_reducible refine below_after ?_ (by assumption)) | go_size))⟩
theorem infoPs : (Try.prog.info? 22).map (fun i => (i.zero, i.size, i.bytes)) = some (some (.slice none 0 0), 1, 24) := by kernel_rfl
set_option maxHeartbeats 4000000 in
theorem contours_any (b o n c : Nat) (w : World) :
    Calls Try.prog 23 #[.agg #[.slice (some ⟨b, o, none⟩) n c, .slice none 0 0]] w fun e w' => e = .returned (.slice (some ⟨w.heap.size + 1, 0, none⟩) 1 1) ∧ Below w.heap.size w w' ∧ (∀ q, w'.cell? ⟨w.heap.size + 1, q, none⟩ = (#[.slice (some ⟨b, o, none⟩) n c] : Array Value)[q]?) ∧ w.heap.size + 1 < w'.heap.size := by
  obtain ⟨i0, hinf, hz0, hz1, hz2⟩ := info_parts infoPs
  have HO := Lib.hid (show ∀ W : World, (W.alloc (.cells #[.slice (some ⟨b, o, none⟩) n c] 22)).ownsRow W.heap.size 22 1 (.slice (some ⟨W.heap.size, 0, none⟩) 1 1) 1 [.slice (some ⟨b, o, none⟩) n c] from fun W => World.ownsRow_lit (base := W.heap.size) (e := 22) (size := 1) W #[.slice (some ⟨b, o, none⟩) n c] 1 (Nat.le_refl _) (by unfold maxLen; omega) rfl)
  go_enter Try.func23, Try.ntmps23
  go_wp2_with (first | (at_builtin; refine wpList_append_own_none rfl _ _ 29 rfl _ 22 i0 1 Try.underlying29 hinf _ 1 _ rfl (HO.out _) rfl ?_) | go_in)
  go_returns
  exact ⟨rfl, by (repeat' (first | (with_reducible exact Below.refl _ _) | (with_reducible assumption) | (with_reducible refine below_alloc ?_ _) | (with_reducible refine Below.drew ?_) | (with_reducible refine Below.setCell ?_ ?_ _) | (with_reducible refine below_after ?_ (by assumption)) | go_size)), fun q => by simp [go_sem], by simp⟩
set_option maxHeartbeats 4000000 in
theorem garea_ok (b o n c : Nat) (X Y : Nat → Int) (hc : chkR X Y n = 0) (ha : 0 < arC X Y n n) (w : World) (hp : Pts w b o n X Y) :
    Calls Try.prog 8 #[.agg #[.slice (some ⟨b, o, none⟩) n c, .slice none 0 0]] w fun e w' => e = .returned (.int .i64 (arC X Y n n)) ∧ Below w.heap.size w w' := by
  obtain ⟨h3, h32, hS, -⟩ := chkR_ok hc
  have hab := arC_abs hS n (Nat.le_refl _)
  have HP := Lib.hid hp
  have K1 := Lib.hid (fun W (h : Pts W b o n X Y) => gcheck_ok b o n c X Y hc ha W h)
  have K2 := Lib.hid (fun W (h : Pts W b o n X Y) => parea2_ok b o n c X Y hc (by omega) W h)
  have KC := Lib.hid (contours_any b o n c)
  generalize arC X Y n n = t at *
  have t1 : -68719476736 ≤ t := by omega
  have t2 : t ≤ 68719476736 := by omega
  clear hc hp hS hab
  go_enter Try.func8, Try.ntmps8
  go_wp2_with fail
  ((with_reducible refine (K1.out _ (HP.out.later (by (repeat' (first | (with_reducible exact Below.refl _ _) | (with_reducible assumption) | (with_reducible refine below_alloc ?_ _) | (with_reducible refine Below.drew ?_) | (with_reducible refine Below.setCell ?_ ?_ _) | (with_reducible refine below_after ?_ (by assumption)) | go_size))))).mono ?_); rintro e w1 ⟨rfl, hb1⟩)
  obtain ⟨hc1, hf1⟩ := bcell hb1
  have hz1_w_0 : w.heap.size < w1.heap.size := by have h := hb1.size; (try simp at h); omega
  have HB1 := Lib.hid (show Below w.heap.size w w1 by (repeat' (first | (with_reducible exact Below.refl _ _) | (with_reducible assumption) | (with_reducible refine below_alloc ?_ _) | (with_reducible refine Below.drew ?_) | (with_reducible refine Below.setCell ?_ ?_ _) | (with_reducible refine below_after ?_ (by assumption)) | go_size)))
  have P1 := Lib.hid (HP.out.later HB1.out)
  go_wp2_with fail
  ((with_reducible refine (KC.out _).mono ?_); rintro e w2 ⟨rfl, hb2, hcell, hlt⟩)
  have P2 := Lib.hid (P1.out.later hb2)
  have HB2 := Lib.hid (below_in HB1.out HB1.out.size hb2)
  clear hc1 hf1 hb1 hz1_w_0 HB1 P1
  go_wp2
  refine wp_loop_rounds 2 ?_
  rw [rounds_succ]
  go_wp2_with fail
  ((with_reducible refine (K2.out _ P2.out).mono ?_); rintro e w3 ⟨rfl, hb3⟩)
  obtain ⟨hc3, hf3⟩ := bcell hb3
  have HB3 := Lib.hid (below_in HB2.out HB2.out.size hb3)
  clear hb2 hcell hlt hc3 hf3 hb3
  go_wp2
  rw [rounds_succ]
  go_wp2
  go_returns
  exact ⟨rfl, HB3.out⟩
set_option maxHeartbeats 4000000 in
theorem gmoment_ok (b o n c : Nat) (X Y : Nat → Int) (hc : chkR X Y n = 0) (ha : 0 < arC X Y n n) (w : World) (hp : Pts w b o n X Y) :
    Calls Try.prog 9 #[.agg #[.slice (some ⟨b, o, none⟩) n c, .slice none 0 0]] w fun e w' => e = .returned (.tuple #[.int .i64 (moC X X Y n n), .int .i64 (moC Y X Y n n)]) ∧ Below w.heap.size w w' := by
  obtain ⟨h3, h32, hS, -⟩ := chkR_ok hc
  have hx := moC_abs (fun i hi => (hS i hi).1) hS n (Nat.le_refl _)
  have hy := moC_abs (fun i hi => (hS i hi).2) hS n (Nat.le_refl _)
  have HP := Lib.hid hp
  have K1 := Lib.hid (fun W (h : Pts W b o n X Y) => gcheck_ok b o n c X Y hc ha W h)
  have K2 := Lib.hid (fun W (h : Pts W b o n X Y) => pmoment_ok b o n c X Y hc (by omega) W h)
  have KC := Lib.hid (contours_any b o n c)
  generalize moC X X Y n n = t at *
  generalize moC Y X Y n n = s at *
  have t1 : -4503599627370496 ≤ t := by omega
  have t2 : t ≤ 4503599627370496 := by omega
  have t3 : -4503599627370496 ≤ s := by omega
  have t4 : s ≤ 4503599627370496 := by omega
  clear hc hp hS hx hy ha
  go_enter Try.func9, Try.ntmps9
  go_wp2_with fail
  ((with_reducible refine (K1.out _ (HP.out.later (by (repeat' (first | (with_reducible exact Below.refl _ _) | (with_reducible assumption) | (with_reducible refine below_alloc ?_ _) | (with_reducible refine Below.drew ?_) | (with_reducible refine Below.setCell ?_ ?_ _) | (with_reducible refine below_after ?_ (by assumption)) | go_size))))).mono ?_); rintro e w1 ⟨rfl, hb1⟩)
  obtain ⟨hc1, hf1⟩ := bcell hb1
  have hz1_w_0 : w.heap.size < w1.heap.size := by have h := hb1.size; (try simp at h); omega
  have HB1 := Lib.hid (show Below w.heap.size w w1 by (repeat' (first | (with_reducible exact Below.refl _ _) | (with_reducible assumption) | (with_reducible refine below_alloc ?_ _) | (with_reducible refine Below.drew ?_) | (with_reducible refine Below.setCell ?_ ?_ _) | (with_reducible refine below_after ?_ (by assumption)) | go_size)))
  have P1 := Lib.hid (HP.out.later HB1.out)
  go_wp2_with fail
  ((with_reducible refine (KC.out _).mono ?_); rintro e w2 ⟨rfl, hb2, hcell, hlt⟩)
  have P2 := Lib.hid (P1.out.later hb2)
  have HB2 := Lib.hid (below_in HB1.out HB1.out.size hb2)
  clear hc1 hf1 hb1 hz1_w_0 HB1 P1
  go_wp2
  refine wp_loop_rounds 2 ?_
  rw [rounds_succ]
  go_wp2_with fail
  ((with_reducible refine (K2.out _ P2.out).mono ?_); rintro e w3 ⟨rfl, hb3⟩)
  obtain ⟨hc3, hf3⟩ := bcell hb3
  have HB3 := Lib.hid (below_in HB2.out HB2.out.size hb3)
  clear hb2 hcell hlt hc3 hf3 hb3
  go_wp2
  rw [rounds_succ]
  go_wp2
  go_ret2
  exact ⟨rfl, HB3.out⟩
set_option maxHeartbeats 4000000 in
theorem r13check_ok (b o n c : Nat) (X Y : Nat → Int) (hc : chkR X Y n = 0) (ha : 0 < arC X Y n n) (w : World) (hp : Pts w b o n X Y) :
    Calls Try.prog 16 #[.agg #[.slice (some ⟨b, o, none⟩) n c, .slice none 0 0]] w fun e w' => e = .returned (.int .i64 0) ∧ Below w.heap.size w w' := by
  have HP := Lib.hid hp
  obtain ⟨h3, h32, hS, -⟩ := chkR_ok hc
  have K1 := Lib.hid (fun W (h : Pts W b o n X Y) => by have k := chkR_any (some ⟨b, o, none⟩) n c X Y (by unfold maxLen; omega) W (fun _ => ⟨b, o, rfl, h⟩); rw [hc] at k; exact k)
  have K2 := Lib.hid (fun W (h : Pts W b o n X Y) => rarea_any b o n c X Y hc W h)
  generalize arC X Y n n = t at *
  clear hc hp hS
  go_enter Try.func16, Try.ntmps16
  go_wp2_with fail
  ((with_reducible refine (K1.out _ (HP.out.later (by (repeat' (first | (with_reducible exact Below.refl _ _) | (with_reducible assumption) | (with_reducible refine below_alloc ?_ _) | (with_reducible refine Below.drew ?_) | (with_reducible refine Below.setCell ?_ ?_ _) | (with_reducible refine below_after ?_ (by assumption)) | go_size))))).mono ?_); rintro e w1 ⟨rfl, hb1⟩)
  obtain ⟨hc1, hf1⟩ := bcell hb1
  have hz1_w_0 : w.heap.size < w1.heap.size := by have h := hb1.size; (try simp at h); omega
  have P1 := Lib.hid (HP.out.later (show Below w.heap.size w w1 by (repeat' (first | (with_reducible exact Below.refl _ _) | (with_reducible assumption) | (with_reducible refine below_alloc ?_ _) | (with_reducible refine Below.drew ?_) | (with_reducible refine Below.setCell ?_ ?_ _) | (with_reducible refine below_after ?_ (by assumption)) | go_size))))
  go_wp2_with fail
  ((with_reducible refine (K2.out _ P1.out).mono ?_); rintro e w2 ⟨rfl, hb2⟩)
  obtain ⟨hc2, hf2⟩ := bcell hb2
  have hz2_w_0 : w.heap.size < w2.heap.size := by have h := hb2.size; (try simp at h); omega
  go_wp2
  refine wp_loop_rounds 1 ?_
  rw [rounds_succ]
  go_wp2
  go_returns
  exact ⟨rfl, by (repeat' (first | (with_reducible exact Below.refl _ _) | (with_reducible assumption) | (with_reducible refine below_alloc ?_ _) | (with_reducible refine Below.drew ?_) | (with_reducible refine Below.setCell ?_ ?_ _) | (with_reducible refine below_after ?_ (by assumption)) | go_size))⟩
end Go.Proofs.Ytkpochkfijplaaa
