/-
  The program's Check, Area2 and Moment6 of a contour that the reference takes.
-/
import Derived.Test.YtkpochkfijplaaaGeoJ
namespace Go.Proofs.Ytkpochkfijplaaa
set_option linter.all false
open Go Go.RowKit Wd
set_option maxRecDepth 100000
set_option maxHeartbeats 2000000 in
theorem far_in {x y : Int} (hx : Sm x) (hy : Sm y) (w : World) :
    Calls Try.prog 52 #[.agg #[.int .i64 x, .int .i64 y]] w fun e w' => e = .returned (.bool false) ∧ Below w.heap.size w w' := by
  obtain ⟨a1, a2⟩ := hx
  obtain ⟨b1, b2⟩ := hy
  go_enter Try.func52, Try.ntmps52
  go_wp2
  all_goals go_returns
  all_goals exact ⟨ret_bool (by first | rfl | (simp; done) | (simp; omega)), by (repeat' (first | (with_reducible exact Below.refl _ _) | (with_reducible assumption) | (with_reducible refine below_alloc ?_ _) | (with_reducible refine Below.drew ?_) | (with_reducible refine Below.setCell ?_ ?_ _) | (with_reducible refine below_after ?_ (by assumption)) | go_size))⟩
set_option maxHeartbeats 2000000 in
theorem pindex_in (b o n c : Nat) (X Y : Nat → Int) (hn : n ≤ 100) (hS : ∀ i, i < n → Sm (X i) ∧ Sm (Y i)) (w : World) (hp : Pts w b o n X Y) :
    Calls Try.prog 65 #[.slice (some ⟨b, o, none⟩) n c, .func (.func 52) #[] #[]] w fun e w' => e = .returned (.int .i64 (-1)) ∧ Below w.heap.size w w' := by
  have eg : ∀ args w, (callFunc 52 args).run Try.prog w = .ok (.enter 52 args) w := enters_of Try.func52 (by kernel_rfl) rfl
  have HS := Lib.hid hS
  have HP := Lib.hid hp
  clear hS hp
  go_enter Try.func65, Try.ntmps65
  go_wp2
  go_loopg [5, 8] n (fun gg _ v wr => ∃ j : Nat, j ≤ n ∧ n - j ≤ gg ∧ v = .int .i64 (j : Int) ∧ Hid (Below w.heap.size w wr))
  case atStart => exact ⟨0, by omega, by omega, rfl, Lib.hid (Below.refl _ _)⟩
  case round =>
    obtain ⟨j, hj, hgj, rfl, HB⟩ := hrel
    by_cases hlt : j < n
    · have hjn : (j : Int) < (n : Int) := by omega
      have P := HP.out.later HB.out
      have f0 := P.x j hlt
      have f1 := P.y j hlt
      have hlr := P.lt
      have s := HS.out j hlt
      have K := Lib.hid (far_in s.1 s.2)
      have hbr := HB.out
      clear P s
      go_wp2_with (go_at_fn 52; refine (K.out _).mono ?_; rintro e w' ⟨rfl, hb1⟩)
      go_roundg (n - (j + 1))
      case rel => exact ⟨j + 1, by omega, by omega, by go_num, Lib.hid (by (repeat' (first | (with_reducible exact Below.refl _ _) | (with_reducible assumption) | (with_reducible refine below_alloc ?_ _) | (with_reducible refine Below.drew ?_) | (with_reducible refine Below.setCell ?_ ?_ _) | (with_reducible refine below_after ?_ (by assumption)) | go_size)))⟩
      case measure => omega
    · obtain rfl : j = n := by omega
      have hjn : ¬ (j : Int) < (j : Int) := by omega
      have hbr := HB.out
      go_wp2
      go_returns
      exact ⟨rfl, hbr⟩
set_option maxHeartbeats 2000000 in
theorem pcontains_in (b o n c : Nat) (X Y : Nat → Int) (hn : n ≤ 100) (hS : ∀ i, i < n → Sm (X i) ∧ Sm (Y i)) (w : World) (hp : Pts w b o n X Y) :
    Calls Try.prog 51 #[.slice (some ⟨b, o, none⟩) n c, .func (.func 52) #[] #[]] w fun e w' => e = .returned (.bool false) ∧ Below w.heap.size w w' := by
  have K := Lib.hid (pindex_in b o n c X Y hn hS w hp)
  clear hS hp
  go_enter Try.func51, Try.ntmps51
  go_wp2_with fail
  ((with_reducible refine K.out.mono ?_); rintro e w1 ⟨rfl, hb1⟩)
  go_wp2
  go_returns
  exact ⟨rfl, by (repeat' (first | (with_reducible exact Below.refl _ _) | (with_reducible assumption) | (with_reducible refine below_alloc ?_ _) | (with_reducible refine Below.drew ?_) | (with_reducible refine Below.setCell ?_ ?_ _) | (with_reducible refine below_after ?_ (by assumption)) | go_size))⟩
set_option maxHeartbeats 4000000 in
theorem parea_any (b o n c : Nat) (X Y : Nat → Int) (h3 : 3 ≤ n) (h32 : n ≤ 32) (hS : ∀ i, i < n → Sm (X i) ∧ Sm (Y i)) (w : World) (hp : Pts w b o n X Y) :
    Calls Try.prog 43 #[.slice (some ⟨b, o, none⟩) n c] w fun e w' => e = .returned (.int .i64 (arC X Y n n)) ∧ Below w.heap.size w w' := by
  have HP := Lib.hid hp
  have HS := Lib.hid hS
  have HA := Lib.hid (arC_abs hS)
  have B0 := Lib.hid (Below.refl w.heap.size w)
  have A0 := Lib.hid (arC_zero X Y n)
  clear hp hS
  go_enter Try.func43, Try.ntmps43
  go_wp2
  go_loopg [3, 9] n (fun gg s v wr => ∃ i : Nat, i ≤ n ∧ n - i ≤ gg ∧ v = .int .i64 (i : Int) ∧ s = .int .i64 (arC X Y n i) ∧ Hid (Below w.heap.size w wr))
  case atStart => exact ⟨0, by omega, by omega, rfl, by rw [A0.out], B0⟩
  case round =>
    obtain ⟨i, hi, hgi, rfl, rfl, HI⟩ := hrel
    by_cases hlt : i < n
    · have hin : (i : Int) < (n : Int) := by omega
      have P := HP.out.later HI.out
      obtain ⟨j, hj⟩ : ∃ j, j = (i + 1) % n := ⟨_, rfl⟩
      have l1 : j < n := by rw [hj]; exact Nat.mod_lt _ (by omega)
      have q1 : ((i : Int) + 1).tmod (n : Int) = (j : Int) := by rw [hj]; exact tmod_nat i 1 n
      have q1' : ((i : Int) + 1) % (n : Int) = (j : Int) := by rw [hj]; exact emod_nat i 1 n
      have cx := P.x i hlt
      have cy := P.y i hlt
      have dx := P.x j l1
      have dy := P.y j l1
      have hz := P.lt
      have hz1 : b < wr.heap.size + 1 := by omega
      have hz2 : b < wr.heap.size + 1 + 1 := by omega
      have hi0 : n ≠ 0 := by omega
      have l1' : (j : Int) < (n : Int) := by omega
      have s0 := HS.out i hlt
      have s1 := HS.out j l1
      have p1 := prod_sm s0.1 s1.2
      have p2 := prod_sm s1.1 s0.2
      have p3 := HA.out i hi
      have ES := Lib.hid (show arC X Y n (i + 1) = arC X Y n i + (X i * Y j - X j * Y i) by rw [hj, arC_succ X Y n i, Int.mul_comm (Y i)])
      have p4 : -68719476736 ≤ arC X Y n i := by omega
      have p5 : arC X Y n i ≤ 68719476736 := by omega
      have hbw := HI.out
      clear hj P HI s0 s1 p3
      obtain ⟨p1, p1'⟩ := p1
      obtain ⟨p2, p2'⟩ := p2
      generalize arC X Y n i = s at *
      generalize X i = xi at *
      generalize Y i = yi at *
      generalize X j = xj at *
      generalize Y j = yj at *
      go_wp2
      go_roundg (n - (i + 1))
      case rel => exact ⟨i + 1, by omega, by omega, by go_num, by rw [ES.out], Lib.hid (by (repeat' (first | (with_reducible exact Below.refl _ _) | (with_reducible assumption) | (with_reducible refine below_alloc ?_ _) | (with_reducible refine Below.drew ?_) | (with_reducible refine Below.setCell ?_ ?_ _) | (with_reducible refine below_after ?_ (by assumption)) | go_size)))⟩
      case measure => omega
    · obtain rfl : i = n := by omega
      have hin : ¬ (i : Int) < (i : Int) := by omega
      have hb := HI.out
      clear HI
      go_wp2
      go_returns
      exact ⟨rfl, by (repeat' (first | (with_reducible exact Below.refl _ _) | (with_reducible assumption) | (with_reducible refine below_alloc ?_ _) | (with_reducible refine Below.drew ?_) | (with_reducible refine Below.setCell ?_ ?_ _) | (with_reducible refine below_after ?_ (by assumption)) | go_size))⟩
set_option maxHeartbeats 4000000 in
theorem pcheck_ok (b o n c : Nat) (X Y : Nat → Int) (hc : chkR X Y n = 0) (ha : arC X Y n n ≠ 0) (w : World) (hp : Pts w b o n X Y) :
    Calls Try.prog 40 #[.slice (some ⟨b, o, none⟩) n c] w fun e w' => e = .returned (.int .i64 0) ∧ Below w.heap.size w w' := by
  obtain ⟨h3, h32, hS, -⟩ := chkR_ok hc
  have HP := Lib.hid hp
  have K1 := Lib.hid (fun W (h : Pts W b o n X Y) => pcontains_in b o n c X Y (by omega) hS W h)
  have K2 := Lib.hid (fun W (h : Pts W b o n X Y) => psimple_ok b o n c X Y hc W h)
  have K3 := Lib.hid (fun W (h : Pts W b o n X Y) => parea_any b o n c X Y h3 h32 hS W h)
  generalize arC X Y n n = t at *
  have ha1 : (t == 0) = false := by rw [beq_eq_false_iff_ne]; exact ha
  clear hc hS hp
  go_enter Try.func40, Try.ntmps40
  go_wp2_with fail
  ((with_reducible refine (K1.out _ HP.out).mono ?_); rintro e w1 ⟨rfl, hb1⟩)
  obtain ⟨hc1, hf1⟩ := bcell hb1
  have P1 := Lib.hid (HP.out.later hb1)
  go_wp2_with fail
  ((with_reducible refine (K2.out _ P1.out).mono ?_); rintro e w2 ⟨rfl, hb2⟩)
  obtain ⟨hc2, hf2⟩ := bcell hb2
  have P2 := Lib.hid (P1.out.later hb2)
  go_wp2_with fail
  ((with_reducible refine (K3.out _ P2.out).mono ?_); rintro e w3 ⟨rfl, hb3⟩)
  obtain ⟨hc3, hf3⟩ := bcell hb3
  go_wp2
  go_returns
  exact ⟨rfl, by (repeat' (first | (with_reducible exact Below.refl _ _) | (with_reducible assumption) | (with_reducible refine below_alloc ?_ _) | (with_reducible refine Below.drew ?_) | (with_reducible refine Below.setCell ?_ ?_ _) | (with_reducible refine below_after ?_ (by assumption)) | go_size))⟩
set_option maxHeartbeats 4000000 in
theorem parea2_ok (b o n c : Nat) (X Y : Nat → Int) (hc : chkR X Y n = 0) (ha : arC X Y n n ≠ 0) (w : World) (hp : Pts w b o n X Y) :
    Calls Try.prog 24 #[.slice (some ⟨b, o, none⟩) n c] w fun e w' => e = .returned (.int .i64 (arC X Y n n)) ∧ Below w.heap.size w w' := by
  obtain ⟨h3, h32, hS, -⟩ := chkR_ok hc
  have HP := Lib.hid hp
  have K1 := Lib.hid (fun W (h : Pts W b o n X Y) => pcheck_ok b o n c X Y hc ha W h)
  have K3 := Lib.hid (fun W (h : Pts W b o n X Y) => parea_any b o n c X Y h3 h32 hS W h)
  clear hc hS hp ha
  generalize arC X Y n n = t at *
  go_enter Try.func24, Try.ntmps24
  go_wp2_with fail
  ((with_reducible refine (K1.out _ HP.out).mono ?_); rintro e w1 ⟨rfl, hb1⟩)
  obtain ⟨hc1, hf1⟩ := bcell hb1
  have P1 := Lib.hid (HP.out.later hb1)
  go_wp2_with fail
  ((with_reducible refine (K3.out _ P1.out).mono ?_); rintro e w2 ⟨rfl, hb2⟩)
  obtain ⟨hc2, hf2⟩ := bcell hb2
  go_wp2
  go_returns
  exact ⟨rfl, by (repeat' (first | (with_reducible exact Below.refl _ _) | (with_reducible assumption) | (with_reducible refine below_alloc ?_ _) | (with_reducible refine Below.drew ?_) | (with_reducible refine Below.setCell ?_ ?_ _) | (with_reducible refine below_after ?_ (by assumption)) | go_size))⟩
/-- Six times a first moment, after i edges. -/
@[irreducible] def moC (U X Y : Nat → Int) (n i : Nat) : Int := Sf.sr (fun m => (U m + U ((m + 1) % n)) * (X m * Y ((m + 1) % n) - X ((m + 1) % n) * Y m)) i
theorem moC_zero (U X Y : Nat → Int) (n : Nat) : moC U X Y n 0 = 0 := by unfold moC; rfl
theorem moC_succ (U X Y : Nat → Int) (n i : Nat) : moC U X Y n (i + 1) = moC U X Y n i + (U i + U ((i + 1) % n)) * (X i * Y ((i + 1) % n) - X ((i + 1) % n) * Y i) := by unfold moC; rfl
theorem mo_part {u v c : Int} (hu : Sm u) (hv : Sm v) (hc : -2147483648 ≤ c ∧ c ≤ 2147483648) : -140737488355328 ≤ (u + v) * c ∧ (u + v) * c ≤ 140737488355328 := by
  unfold Sm at *
  exact abs_mul_le (a := u + v) (b := c) (m := 65536) (k := 2147483648) (by omega) hc (by omega) (by omega)
theorem moC_abs {U X Y : Nat → Int} {n : Nat} (hU : ∀ i, i < n → Sm (U i)) (hS : ∀ i, i < n → Sm (X i) ∧ Sm (Y i)) : ∀ i, i ≤ n → -(140737488355328 * (i : Int)) ≤ moC U X Y n i ∧ moC U X Y n i ≤ 140737488355328 * (i : Int)
  | 0, _ => by rw [moC_zero]; omega
  | i + 1, h => by
    have h1 := moC_abs hU hS i (by omega)
    have hm : (i + 1) % n < n := Nat.mod_lt _ (by omega)
    have p1 := prod_sm (hS i (by omega)).1 (hS _ hm).2
    have p2 := prod_sm (hS _ hm).1 (hS i (by omega)).2
    have p3 := mo_part (hU i (by omega)) (hU _ hm) (c := X i * Y ((i + 1) % n) - X ((i + 1) % n) * Y i) (by omega)
    rw [moC_succ]
    omega
set_option maxHeartbeats 4000000 in
theorem pmoment_ok (b o n c : Nat) (X Y : Nat → Int) (hc : chkR X Y n = 0) (ha : arC X Y n n ≠ 0) (w : World) (hp : Pts w b o n X Y) :
    Calls Try.prog 25 #[.slice (some ⟨b, o, none⟩) n c] w fun e w' => e = .returned (.tuple #[.int .i64 (moC X X Y n n), .int .i64 (moC Y X Y n n)]) ∧ Below w.heap.size w w' := by
  obtain ⟨h3, h32, hS, -⟩ := chkR_ok hc
  have HP := Lib.hid hp
  have HS := Lib.hid hS
  have K1 := Lib.hid (pcheck_ok b o n c X Y hc ha w hp)
  have HX := Lib.hid (moC_abs (fun i hi => (hS i hi).1) hS)
  have HY := Lib.hid (moC_abs (fun i hi => (hS i hi).2) hS)
  have X0 := Lib.hid (moC_zero X X Y n)
  have Y0 := Lib.hid (moC_zero Y X Y n)
  clear hc ha hp hS
  go_enter Try.func25, Try.ntmps25
  go_wp2_with fail
  ((with_reducible refine (K1.out).mono ?_); rintro e w1 ⟨rfl, hb1⟩)
  obtain ⟨hc1, hf1⟩ := bcell hb1
  have HB1 := Lib.hid hb1
  clear hc1 hf1 hb1
  go_wp2
  go_loopg [2, 3, 13] n (fun gg s t v wr => ∃ i : Nat, i ≤ n ∧ n - i ≤ gg ∧ v = .int .i64 (i : Int) ∧ s = .int .i64 (moC X X Y n i) ∧ t = .int .i64 (moC Y X Y n i) ∧ Hid (Below w.heap.size w wr))
  case atStart => exact ⟨0, by omega, by omega, rfl, by rw [X0.out], by rw [Y0.out], HB1⟩
  case round =>
    obtain ⟨i, hi, hgi, rfl, rfl, rfl, HI⟩ := hrel
    by_cases hlt : i < n
    · have hin : (i : Int) < (n : Int) := by omega
      have P := HP.out.later HI.out
      obtain ⟨j, hj⟩ : ∃ j, j = (i + 1) % n := ⟨_, rfl⟩
      have l1 : j < n := by rw [hj]; exact Nat.mod_lt _ (by omega)
      have q1 : ((i : Int) + 1).tmod (n : Int) = (j : Int) := by rw [hj]; exact tmod_nat i 1 n
      have q1' : ((i : Int) + 1) % (n : Int) = (j : Int) := by rw [hj]; exact emod_nat i 1 n
      have cx := P.x i hlt
      have cy := P.y i hlt
      have dx := P.x j l1
      have dy := P.y j l1
      have hz := P.lt
      have hz1 : b < wr.heap.size + 1 := by omega
      have hz2 : b < wr.heap.size + 1 + 1 := by omega
      have hi0 : n ≠ 0 := by omega
      have l1' : (j : Int) < (n : Int) := by omega
      have s0 := HS.out i hlt
      have s1 := HS.out j l1
      have p1 := prod_sm s0.1 s1.2
      have p2 := prod_sm s1.1 s0.2
      have m1 := HX.out i hi
      have m2 := HY.out i hi
      have m3 : -4503599627370496 ≤ moC X X Y n i := by omega
      have m4 : moC X X Y n i ≤ 4503599627370496 := by omega
      have m5 : -4503599627370496 ≤ moC Y X Y n i := by omega
      have m6 : moC Y X Y n i ≤ 4503599627370496 := by omega
      have EX := Lib.hid (show moC X X Y n (i + 1) = moC X X Y n i + (X i + X j) * (X i * Y j - X j * Y i) by rw [hj, moC_succ X X Y n i])
      have EY := Lib.hid (show moC Y X Y n (i + 1) = moC Y X Y n i + (Y i + Y j) * (X i * Y j - X j * Y i) by rw [hj, moC_succ Y X Y n i])
      have m7 := mo_part s0.1 s1.1 (c := X i * Y j - X j * Y i) (by omega)
      have m8 := mo_part s0.2 s1.2 (c := X i * Y j - X j * Y i) (by omega)
      have hbw := HI.out
      unfold Sm at s0 s1
      obtain ⟨⟨a1, a2⟩, a3, a4⟩ := s0
      obtain ⟨⟨a5, a6⟩, a7, a8⟩ := s1
      clear hj P HI m1 m2
      obtain ⟨p1, p1'⟩ := p1
      obtain ⟨p2, p2'⟩ := p2
      obtain ⟨m7, m7'⟩ := m7
      obtain ⟨m8, m8'⟩ := m8
      generalize moC X X Y n i = s at *
      generalize moC Y X Y n i = t at *
      generalize X i = xi at *
      generalize Y i = yi at *
      generalize X j = xj at *
      generalize Y j = yj at *
      go_wp2
      go_roundg (n - (i + 1))
      case rel => exact ⟨i + 1, by omega, by omega, by go_num, by rw [EX.out], by rw [EY.out], Lib.hid (by (repeat' (first | (with_reducible exact Below.refl _ _) | (with_reducible assumption) | (with_reducible refine below_alloc ?_ _) | (with_reducible refine Below.drew ?_) | (with_reducible refine Below.setCell ?_ ?_ _) | (with_reducible refine below_after ?_ (by assumption)) | go_size)))⟩
      case measure => omega
    · obtain rfl : i = n := by omega
      have hin : ¬ (i : Int) < (i : Int) := by omega
      have hb := HI.out
      clear HI
      go_wp2
      go_ret2
      exact ⟨rfl, by (repeat' (first | (with_reducible exact Below.refl _ _) | (with_reducible assumption) | (with_reducible refine below_alloc ?_ _) | (with_reducible refine Below.drew ?_) | (with_reducible refine Below.setCell ?_ ?_ _) | (with_reducible refine below_after ?_ (by assumption)) | go_size))⟩
end Go.Proofs.Ytkpochkfijplaaa
