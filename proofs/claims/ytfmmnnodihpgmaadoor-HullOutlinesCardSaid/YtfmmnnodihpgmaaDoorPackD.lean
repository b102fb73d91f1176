/-
  The reference's fractions: wideOf, of a small number without a sign.
  The reference's fractions: Of, of two small numbers, the first not below 0, the second above.
  The reference's Of; the greatest waterline of a height, and the number between two.
  The reference's fraction between two waterlines.
  The reference's right and Band.
  The reference's Half: the same fraction as the program's.
  The reference's Section2: the same fraction as the program's; no program in sight.
  What the reference's Half returns.
  (Written by wip/pack.py out of XNatW, XNatO, XNatP, XNatQ, XNatR, XNatS, XNatX, XNatU.)
-/
import Derived.Test.YtfmmnnodihpgmaaDoorPackC
import Derived.Test.YtfmmnnodihpgmaaDoorRatB
import Derived.Test.YtfmmnnodihpgmaaDoorHullF
import Derived.Test.YtfmmnnodihpgmaaDoorHRefB
namespace Go.Proofs.YtfmmnnodihpgmaaDoor
set_option linter.all false
open Go Go.RowKit Wd
set_option maxRecDepth 100000
theorem or_low (x : Int) (h0 : 0 ≤ x) (h1 : x ≤ 4294967295) : bits .or .u64 0 x = x := by
  rw [u64_or _ _ (by omega) (by omega) (by omega) (by omega)]
  simp; omega
theorem or_high (x y : Int) (h0 : 0 ≤ x) (h1 : x ≤ 4294967295) (h2 : 0 ≤ y) (h3 : y ≤ 4294967295) : bits .or .u64 x (y * 4294967296) = x + y * 4294967296 := by
  rw [u64_or _ _ (by omega) (by omega) (by omega) (by omega), Nat.or_comm, nat_join 32 _ _ (by omega) (by omega)]
  omega
theorem two_words {n : Nat} (h : n < 18446744073709551616) : hw n 0 + hw n 1 * 4294967296 = (n : Int) := by
  obtain ⟨e0, e1⟩ := hw_word h
  rw [e0, e1]
  omega
set_option maxHeartbeats 4000000 in
theorem wideOf_any (n c : Nat) (a : Option Addr) (hn : n < 18446744073709551616) (w : World) (h : NatAt w a n (nl n)) :
    Calls Tryd.prog 102 #[.bool false, .slice a (nl n) c] w fun e w' => e = .returned (.tuple #[(.agg #[.bool false, .int .u64 (((n) : Nat) : Int), .int .u64 0, .int .u64 0, .int .u64 0]), .bool true]) ∧ Below w.heap.size w w' := by
  have hl := nl_small hn
  have W0 := Lib.hid (show ∀ i, 0 ≤ hw n i ∧ hw n i ≤ 4294967295 from fun i => ⟨hw_lo n i, hw_hi n i⟩)
  obtain ⟨N, hN⟩ : ∃ N : Int, N = (n : Int) := ⟨_, rfl⟩
  have V0 : nl n = 0 → N = 0 := fun h => by rw [hN, nl_none h]; rfl
  have V1 : nl n = 1 → N = hw n 0 := fun h => by
    rw [hN]
    have e := two_words hn
    rw [hw_past (n := n) (j := 1) (by omega)] at e
    omega
  have V2 : N = hw n 0 + hw n 1 * 4294967296 := by rw [hN]; exact (two_words hn).symm
  have HV := Lib.hid (And.intro V0 (And.intro V1 V2))
  have HA := Lib.hid h
  rw [← hN]
  clear V0 V1 V2 h hn hN
  generalize nl n = x at *
  go_enter Tryd.func102, Tryd.ntmps102
  go_upto_region 4 with (fail)
  refine wp_world (fun x => (∀ o, x.cell? ⟨w.heap.size, o, none⟩ = (#[.bool false, .int .u64 0, .int .u64 0, .int .u64 0, .int .u64 0] : Array Value)[o]?) ∧ (∀ o, x.cell? ⟨w.heap.size + 1, o, none⟩ = (#[.bool false, .int .u64 0, .int .u64 0, .int .u64 0, .int .u64 0] : Array Value)[o]?) ∧ (∀ o, x.frozen? ⟨w.heap.size, o, none⟩ = false) ∧ (∀ o, x.frozen? ⟨w.heap.size + 1, o, none⟩ = false) ∧ w.heap.size < x.heap.size ∧ w.heap.size + 1 < x.heap.size ∧ Below w.heap.size w x) ⟨fun o => by simp [go_sem], fun o => by simp [go_sem], fun o => by simp [go_sem], fun o => by simp [go_sem], by (first | omega | (simp [go_sem]; done) | (simp [go_sem]; omega)), by (first | omega | (simp [go_sem]; done) | (simp [go_sem]; omega)), by (repeat' (first | (with_reducible exact Below.refl _ _) | (with_reducible assumption) | (with_reducible refine below_alloc ?_ _) | (with_reducible refine Below.drew ?_) | (with_reducible refine Below.setCell ?_ ?_ _) | (with_reducible refine below_after ?_ (by assumption)) | go_size))⟩ ?_
  rintro G ⟨hGc0, hGc1, hGf0, hGf1, hGz0, hGz1, hGb⟩
  generalize hR : w.heap.size + 1 = B at *
  have hwB : w.heap.size ≤ B := by omega
  have hneB : w.heap.size ≠ B := by omega
  clear hR
  go_wp2
  go_loopg [7] x (fun gg iv wr => ∃ i : Nat, i ≤ x ∧ x - i ≤ gg ∧ iv = .int .i64 (i : Int) ∧ Hid (Below w.heap.size w wr ∧ (∀ o, wr.cell? ⟨w.heap.size, o, none⟩ = (#[.bool false, .int .u64 0, .int .u64 0, .int .u64 0, .int .u64 0] : Array Value)[o]?) ∧ (∀ o, wr.frozen? ⟨w.heap.size, o, none⟩ = false) ∧ w.heap.size < wr.heap.size ∧ (∀ o, wr.frozen? ⟨B, o, none⟩ = false) ∧ B < wr.heap.size) ∧
    Hid ((i = 0 → ∀ o, wr.cell? ⟨B, o, none⟩ = (#[.bool false, .int .u64 0, .int .u64 0, .int .u64 0, .int .u64 0] : Array Value)[o]?) ∧ (i = 1 → ∀ o, wr.cell? ⟨B, o, none⟩ = (#[.bool false, .int .u64 (hw n 0), .int .u64 0, .int .u64 0, .int .u64 0] : Array Value)[o]?) ∧ (i = 2 → ∀ o, wr.cell? ⟨B, o, none⟩ = (#[.bool false, .int .u64 (hw n 0 + hw n 1 * 4294967296), .int .u64 0, .int .u64 0, .int .u64 0] : Array Value)[o]?)))
  case atStart => exact ⟨0, by omega, by omega, rfl, Lib.hid ⟨hGb, hGc0, hGf0, hGz0, hGf1, hGz1⟩, Lib.hid ⟨fun _ => hGc1, fun h => by omega, fun h => by omega⟩⟩
  case round =>
    obtain ⟨i, hi, hgi, rfl, HI, HC⟩ := hrel
    obtain ⟨hb, rc, rf, rz, bf, bz⟩ := HI.out
    clear hGb hGc0 hGc1 hGf0 hGf1 hGz0 hGz1
    by_cases hlt : i < x
    · obtain ⟨ba, oa, ea, la, ca⟩ := HA.out (by omega)
      have c1 := (hb.cell (p := ⟨ba, oa + i, none⟩) la).trans (ca i hlt)
      have l1 := keep_lt hb la
      have b0 := W0.out 0
      have b1 := W0.out 1
      subst ea
      rcases (by omega : i = 0 ∨ i = 1) with rfl | rfl
      · have bc := HC.out.1 rfl
        have c0 : wr.cell? ⟨ba, oa, none⟩ = some (.int .u32 (hw n 0)) := c1
        have hlt' : ((0 : Nat) : Int) < (x : Int) := by omega
        have hlt2 : (0 : Int) < (x : Int) := by omega
        have r1 := or_low (hw n 0) b0.1 b0.2
        clear HI HC ca la HV
        generalize hw n 0 = p at *
        go_upto_region 7 with (fail)
        go_region
        have far : ∀ o, ((wr.setCell ⟨B, 1, none⟩ (.int .u64 p)).drew).cell? ⟨w.heap.size, o, none⟩ = (#[.bool false, .int .u64 0, .int .u64 0, .int .u64 0, .int .u64 0] : Array Value)[o]? := fun o => (World.cell?_setCell_other _ _ _ _ (by intro e; have := congrArg Addr.block e; simp at this; omega)).trans (rc o)
        have put := set_at (i := 1) (v := .int .u64 p) bc
        rw [show (#[.bool false, .int .u64 0, .int .u64 0, .int .u64 0, .int .u64 0] : Array Value).setIfInBounds 1 (.int .u64 p) = #[.bool false, .int .u64 p, .int .u64 0, .int .u64 0, .int .u64 0] from rfl] at put
        have NO := Lib.hid (show Below w.heap.size w (wr.setCell ⟨B, 1, none⟩ (.int .u64 p)).drew from by (repeat' (first | (with_reducible exact Below.refl _ _) | (with_reducible assumption) | (with_reducible refine below_alloc ?_ _) | (with_reducible refine Below.drew ?_) | (with_reducible refine Below.setCell ?_ ?_ _) | (with_reducible refine below_after ?_ (by assumption)) | go_size)))
        go_wp2
        go_roundg (x - (0 + 1))
        case rel => exact ⟨0 + 1, by omega, by omega, rfl, Lib.hid ⟨NO.out, far, fun o => by simp only [World.frozen?_drew, World.frozen?_setCell]; exact rf o, by simpa using rz, fun o => by simp only [World.frozen?_drew, World.frozen?_setCell]; exact bf o, by simpa using bz⟩, Lib.hid ⟨fun h => by omega, fun _ => put, fun h => by omega⟩⟩
        case measure => omega
      · have bc := HC.out.2.1 rfl
        have hlt' : ((1 : Nat) : Int) < (x : Int) := by omega
        have hlt2 : (1 : Int) < (x : Int) := by omega
        have r1 := or_high (hw n 0) (hw n 1) b0.1 b0.2 b1.1 b1.2
        clear HI HC ca la HV
        generalize hw n 0 = p at *
        generalize hw n 1 = q at *
        have r2 : IntKind.u64.wrap (q * 4294967296) = q * 4294967296 := by rw [IntKind.wrap_u64]; omega
        go_upto_region 7 with (fail)
        go_region
        have far : ∀ o, ((wr.setCell ⟨B, 1, none⟩ (.int .u64 (p + q * 4294967296))).drew).cell? ⟨w.heap.size, o, none⟩ = (#[.bool false, .int .u64 0, .int .u64 0, .int .u64 0, .int .u64 0] : Array Value)[o]? := fun o => (World.cell?_setCell_other _ _ _ _ (by intro e; have := congrArg Addr.block e; simp at this; omega)).trans (rc o)
        have put := set_at (i := 1) (v := .int .u64 (p + q * 4294967296)) bc
        rw [show (#[.bool false, .int .u64 p, .int .u64 0, .int .u64 0, .int .u64 0] : Array Value).setIfInBounds 1 (.int .u64 (p + q * 4294967296)) = #[.bool false, .int .u64 (p + q * 4294967296), .int .u64 0, .int .u64 0, .int .u64 0] from rfl] at put
        have NO := Lib.hid (show Below w.heap.size w (wr.setCell ⟨B, 1, none⟩ (.int .u64 (p + q * 4294967296))).drew from by (repeat' (first | (with_reducible exact Below.refl _ _) | (with_reducible assumption) | (with_reducible refine below_alloc ?_ _) | (with_reducible refine Below.drew ?_) | (with_reducible refine Below.setCell ?_ ?_ _) | (with_reducible refine below_after ?_ (by assumption)) | go_size)))
        go_wp2
        go_roundg (x - (1 + 1))
        case rel => exact ⟨1 + 1, by omega, by omega, rfl, Lib.hid ⟨NO.out, far, fun o => by simp only [World.frozen?_drew, World.frozen?_setCell]; exact rf o, by simpa using rz, fun o => by simp only [World.frozen?_drew, World.frozen?_setCell]; exact bf o, by simpa using bz⟩, Lib.hid ⟨fun h => by omega, fun h => by omega, fun _ => put⟩⟩
        case measure => omega
    · obtain rfl : i = x := by omega
      have hlt' : ¬ (i : Int) < (i : Int) := by omega
      have hv := HV.out
      clear HI HV HA W0
      rcases (by omega : i = 0 ∨ i = 1 ∨ i = 2) with rfl | rfl | rfl
      · have bc := HC.out.1 rfl
        obtain rfl := hv.1 rfl
        clear HC hv
        go_wp2_with ((with_reducible show bodyPost _ _ _ _ _ _); refine bodyPost_ret (by simp [results, Tryd.results102, go_sem, rc, bc, rf, rz, bz]; try rfl) rfl ?_; exact ⟨rfl, by (repeat' (first | (with_reducible exact Below.refl _ _) | (with_reducible assumption) | (with_reducible refine below_alloc ?_ _) | (with_reducible refine Below.drew ?_) | (with_reducible refine Below.setCell ?_ ?_ _) | (with_reducible refine below_after ?_ (by assumption)) | go_size))⟩)
      · have bc := HC.out.2.1 rfl
        obtain rfl := hv.2.1 rfl
        clear HC hv
        go_wp2_with ((with_reducible show bodyPost _ _ _ _ _ _); refine bodyPost_ret (by simp [results, Tryd.results102, go_sem, rc, bc, rf, rz, bz]; try rfl) rfl ?_; exact ⟨rfl, by (repeat' (first | (with_reducible exact Below.refl _ _) | (with_reducible assumption) | (with_reducible refine below_alloc ?_ _) | (with_reducible refine Below.drew ?_) | (with_reducible refine Below.setCell ?_ ?_ _) | (with_reducible refine below_after ?_ (by assumption)) | go_size))⟩)
      · have bc := HC.out.2.2 rfl
        obtain rfl := hv.2.2
        clear HC hv
        go_wp2_with ((with_reducible show bodyPost _ _ _ _ _ _); refine bodyPost_ret (by simp [results, Tryd.results102, go_sem, rc, bc, rf, rz, bz]; try rfl) rfl ?_; exact ⟨rfl, by (repeat' (first | (with_reducible exact Below.refl _ _) | (with_reducible assumption) | (with_reducible refine below_alloc ?_ _) | (with_reducible refine Below.drew ?_) | (with_reducible refine Below.setCell ?_ ?_ _) | (with_reducible refine below_after ?_ (by assumption)) | go_size))⟩)
end Go.Proofs.YtfmmnnodihpgmaaDoor
namespace Go.Proofs.YtfmmnnodihpgmaaDoor
set_option linter.all false
open Go Go.RowKit Wd
set_option maxRecDepth 100000
set_option maxHeartbeats 1000000 in
theorem ngcd_any (m n c d : Nat) (a b : Option Addr) (hn0 : 0 < n) (hm : m < 2 ^ 90) (hn : n < 2 ^ 90) (w : World) (h : NatAt w a m (nl m)) (h' : NatAt w b n (nl n)) :
    Calls Tryd.prog 100 #[.slice a (nl m) c, .slice b (nl n) d] w fun e w' => ∃ a' c', e = .returned (.slice a' (nl (Nat.gcd m n)) c') ∧ NatAt w' a' (Nat.gcd m n) (nl (Nat.gcd m n)) ∧ Below w.heap.size w w' := by
  by_cases hm0 : m = 0
  · subst hm0
    rw [Nat.gcd_zero_left, nl_zero]
    have HB := Lib.hid h'
    clear h h'
    generalize nl n = y at *
    go_enter Tryd.func100, Tryd.ntmps100
    go_wp2
    go_returns
    exact ⟨_, _, rfl, HB.out, Below.refl _ _⟩
  · exact ngcd_pos m n c d a b (Nat.pos_of_ne_zero hm0) hn0 hm hn w h h'
set_option maxHeartbeats 2000000 in
theorem ofInt_any (n : Nat) (hn : n < 9223372036854775808) (w : World) :
    Calls Tryd.prog 80 #[.int .i64 (n : Int)] w fun e w' => ∃ a c, e = .returned (.agg #[.bool false, .slice a (nl n) c]) ∧ NatAt w' a n (nl n) ∧ Below w.heap.size w w' := by
  have K := Lib.hid (fun v => nsmall_any n (by omega) v)
  have hge : ¬ (n : Int) < 0 := by omega
  have hw64 : IntKind.u64.wrap (n : Int) = (n : Int) := by rw [IntKind.wrap_u64]; omega
  generalize nl n = x at *
  go_enter Tryd.func80, Tryd.ntmps80
  go_wp2_with fail
  ((with_reducible refine (K.out _).mono ?_); rintro e w1 ⟨a1, c1, rfl, hN, hb1, hf1⟩)
  obtain ⟨hc1, hf1'⟩ := bcell hb1
  have hz : w.heap.size < w1.heap.size := by have := hb1.size; simp at this; omega
  have HN := Lib.hid (show ∀ u v, NatAt ((w1.setCell ⟨w.heap.size, 0, none⟩ u).setCell ⟨w.heap.size, 1, none⟩ v) a1 n x from fun u v h0 => by
    obtain ⟨b, o, e, hl, hc⟩ := hN h0
    have hne := hf1 _ e
    simp only [World.size_alloc] at hne
    refine ⟨b, o, e, by simpa using hl, fun j hj => ?_⟩
    rw [World.cell?_setCell_other _ _ _ _ (by intro e; have := congrArg Addr.block e; simp only [] at this; omega), World.cell?_setCell_other _ _ _ _ (by intro e; have := congrArg Addr.block e; simp only [] at this; omega)]
    exact hc j hj)
  clear hN hf1
  go_wp2
  refine bodyPost_ret (by simp [results, Tryd.results80, go_sem, hc1, hf1', hz]; try rfl) rfl ?_
  exact ⟨_, _, rfl, HN.out _ _, by (repeat' (first | (with_reducible exact Below.refl _ _) | (with_reducible assumption) | (with_reducible refine below_alloc ?_ _) | (with_reducible refine Below.drew ?_) | (with_reducible refine Below.setCell ?_ ?_ _) | (with_reducible refine below_after ?_ (by assumption)) | go_size))⟩
set_option maxHeartbeats 4000000 in
theorem lowest_any (N D c d : Nat) (a b : Option Addr) (hN : N < 9223372036854775808) (hD0 : 0 < D) (hD : D < 9223372036854775808) (w : World) (h : NatAt w a N (nl N)) (h' : NatAt w b D (nl D)) :
    Calls Tryd.prog 79 #[.agg #[.bool false, .slice a (nl N) c], .agg #[.bool false, .slice b (nl D) d]] w fun e w' => e = .returned (.tuple #[(.agg #[.bool false, .int .u64 (((N / Nat.gcd N D) : Nat) : Int), .int .u64 0, .int .u64 0, .int .u64 0, .bool false, .int .u64 (((D / Nat.gcd N D) : Nat) : Int), .int .u64 0, .int .u64 0, .int .u64 0]), .int .i64 0]) ∧ Below w.heap.size w w' := by
  have hg0 : 0 < Nat.gcd N D := Nat.gcd_pos_of_pos_right _ hD0
  have hgl : Nat.gcd N D ≤ D := Nat.le_of_dvd hD0 (Nat.gcd_dvd_right N D)
  have hq1 : N / Nat.gcd N D ≤ N := Nat.div_le_self _ _
  have hq2 : D / Nat.gcd N D ≤ D := Nat.div_le_self _ _
  have K1 := Lib.hid (fun v h1 h2 => ngcd_any N D c d a b hD0 (by omega) (by omega) v h1 h2)
  generalize Nat.gcd N D = g at *
  have K2 := Lib.hid (fun a' c' v h1 h2 => ndivide_any N g c c' a a' (nl8 (by omega)) hg0 (by omega) v h1 h2)
  have K3 := Lib.hid (fun a' c' v h1 h2 => ndivide_any D g d c' b a' (nl8 (by omega)) hg0 (by omega) v h1 h2)
  have K4 := Lib.hid (fun a' c' v h1 => wideOf_any (N / g) c' a' (by omega) v h1)
  have K5 := Lib.hid (fun a' c' v h1 => wideOf_any (D / g) c' a' (by omega) v h1)
  have p0 := nl_pos hD0
  have HA := Lib.hid h
  have HB := Lib.hid h'
  clear h h' hN hD0 hD hg0 hgl hq1 hq2
  generalize N / g = qn at *
  generalize D / g = qd at *
  have hne : ¬ (nl D : Int) = 0 := by omega
  have hne' : ((nl D : Int) == 0) = false := by simp only [beq_eq_false_iff_ne]; omega
  generalize nl N = nx at *
  generalize nl D = ny at *
  go_enter Tryd.func79, Tryd.ntmps79
  go_upto_region 3 with (fail)
  refine wp_world (fun x => (∀ o, x.cell? ⟨w.heap.size, o, none⟩ = (#[.bool false, .slice a nx c] : Array Value)[o]?) ∧ (∀ o, x.cell? ⟨w.heap.size + 1, o, none⟩ = (#[.bool false, .slice b ny d] : Array Value)[o]?) ∧ (∀ o, x.cell? ⟨w.heap.size + 1 + 1, o, none⟩ = (#[.bool false, .int .u64 0, .int .u64 0, .int .u64 0, .int .u64 0, .bool false, .int .u64 0, .int .u64 0, .int .u64 0, .int .u64 0] : Array Value)[o]?) ∧ (∀ o, x.frozen? ⟨w.heap.size, o, none⟩ = false) ∧ (∀ o, x.frozen? ⟨w.heap.size + 1, o, none⟩ = false) ∧ (∀ o, x.frozen? ⟨w.heap.size + 1 + 1, o, none⟩ = false) ∧ w.heap.size < x.heap.size ∧ w.heap.size + 1 < x.heap.size ∧ w.heap.size + 1 + 1 < x.heap.size ∧ Below w.heap.size w x) ⟨fun o => by simp [go_sem], fun o => by simp [go_sem], fun o => by simp [go_sem], fun o => by simp [go_sem], fun o => by simp [go_sem], fun o => by simp [go_sem], by (first | omega | (simp [go_sem]; done) | (simp [go_sem]; omega)), by (first | omega | (simp [go_sem]; done) | (simp [go_sem]; omega)), by (first | omega | (simp [go_sem]; done) | (simp [go_sem]; omega)), by (repeat' (first | (with_reducible exact Below.refl _ _) | (with_reducible assumption) | (with_reducible refine below_alloc ?_ _) | (with_reducible refine Below.drew ?_) | (with_reducible refine Below.setCell ?_ ?_ _) | (with_reducible refine below_after ?_ (by assumption)) | go_size))⟩ ?_
  rintro G ⟨hGc0, hGc1, hGc2, hGf0, hGf1, hGf2, hGz0, hGz1, hGz2, hGb⟩
  have HA1 := Lib.hid (HA.out.later hGb)
  have HB1 := Lib.hid (HB.out.later hGb)
  clear HA HB hne hne' p0
  go_wp2_with fail
  ((with_reducible refine (K1.out _ HA1.out HB1.out).mono ?_); rintro e w1 ⟨a1, c1, rfl, hN1, hb1⟩)
  have x0 := keep_cell hb1 hGz0 hGc0
  have x1 := keep_cell hb1 hGz1 hGc1
  have x2 := keep_cell hb1 hGz2 hGc2
  have y0 := keep_lt hb1 hGz0
  have y1 := keep_lt hb1 hGz1
  have y2 := keep_lt hb1 hGz2
  have f2 := keep_frozen hb1 hGz2 hGf2
  have hb01 := below_after hGb hb1
  have HA2 := Lib.hid (HA1.out.later hb1)
  have HB2 := Lib.hid (HB1.out.later hb1)
  clear hGc0 hGc1 hGc2 hGf0 hGf1 hGf2 hGz0 hGz1 hGz2 hGb hb1 HA1 HB1
  go_wp2_with fail
  ((with_reducible refine (K2.out _ _ _ HA2.out hN1).mono ?_); rintro e w2 ⟨a2, c2, b2, d2, rfl, hN2, hb2⟩)
  have X0 := keep_cell hb2 y0 x0
  have X1 := keep_cell hb2 y1 x1
  have X2 := keep_cell hb2 y2 x2
  have Y0 := keep_lt hb2 y0
  have Y1 := keep_lt hb2 y1
  have Y2 := keep_lt hb2 y2
  have F2 := keep_frozen hb2 y2 f2
  have hb02 := below_after hb01 hb2
  have HB3 := Lib.hid (HB2.out.later hb2)
  have HN1 := Lib.hid (hN1.later hb2)
  clear x0 x1 x2 y0 y1 y2 f2 hb01 hb2 HA2 HB2 hN1
  go_wp2_with fail
  ((with_reducible refine (K3.out _ _ _ HB3.out HN1.out).mono ?_); rintro e w3 ⟨a3, c3, b3, d3, rfl, hN3, hb3⟩)
  have x0 := keep_cell hb3 Y0 X0
  have x1 := keep_cell hb3 Y1 X1
  have x2 := keep_cell hb3 Y2 X2
  have y0 := keep_lt hb3 Y0
  have y1 := keep_lt hb3 Y1
  have y2 := keep_lt hb3 Y2
  have f2 := keep_frozen hb3 Y2 F2
  have hb03 := below_after hb02 hb3
  have HN2 := Lib.hid (hN2.later hb3)
  clear X0 X1 X2 Y0 Y1 Y2 F2 hb02 hb3 HB3 HN1 hN2
  go_wp2_with fail
  ((with_reducible refine (K4.out _ _ _ HN2.out).mono ?_); rintro e w4 ⟨rfl, hb4⟩)
  have X2 := keep_cell hb4 y2 x2
  have Y2 := keep_lt hb4 y2
  have F2 := keep_frozen hb4 y2 f2
  have hb04 := below_after hb03 hb4
  have HN3 := Lib.hid (hN3.later hb4)
  clear x0 x1 x2 y0 y1 y2 f2 hb03 hb4 HN2 hN3
  go_upto_region 7 with (fail)
  refine wp_world (fun x => (∀ o, x.cell? ⟨w.heap.size + 1 + 1, o, none⟩ = (#[.bool false, .int .u64 0, .int .u64 0, .int .u64 0, .int .u64 0, .bool false, .int .u64 0, .int .u64 0, .int .u64 0, .int .u64 0] : Array Value)[o]?) ∧ (∀ o, x.cell? ⟨w4.heap.size, o, none⟩ = (#[.bool false, .int .u64 (((qn) : Nat) : Int), .int .u64 0, .int .u64 0, .int .u64 0] : Array Value)[o]?) ∧ (∀ o, x.frozen? ⟨w.heap.size + 1 + 1, o, none⟩ = false) ∧ (∀ o, x.frozen? ⟨w4.heap.size, o, none⟩ = false) ∧ w.heap.size + 1 + 1 < x.heap.size ∧ w4.heap.size < x.heap.size ∧ Below w4.heap.size w4 x) ⟨fun o => by simp [go_sem, X2, Y2, F2], fun o => by simp [go_sem, X2, Y2, F2], fun o => by simp [go_sem, X2, Y2, F2], fun o => by simp [go_sem, X2, Y2, F2], by (first | omega | (simp [go_sem, X2, Y2, F2]; done) | (simp [go_sem, X2, Y2, F2]; omega)), by (first | omega | (simp [go_sem, X2, Y2, F2]; done) | (simp [go_sem, X2, Y2, F2]; omega)), by (repeat' (first | (with_reducible exact Below.refl _ _) | (with_reducible assumption) | (with_reducible refine below_alloc ?_ _) | (with_reducible refine Below.drew ?_) | (with_reducible refine Below.setCell ?_ ?_ _) | (with_reducible refine below_after ?_ (by assumption)) | go_size))⟩ ?_
  rintro E ⟨hEc0, hEc1, hEf0, hEf1, hEz0, hEz1, hEb⟩
  have HN4 := Lib.hid (HN3.out.later hEb)
  have hb05 := below_after hb04 hEb
  go_wp2_with fail
  ((with_reducible refine (K5.out _ _ _ HN4.out).mono ?_); rintro e w5 ⟨rfl, hb5⟩)
  have hk5 : Kp E.heap.size [] E w5 := (by (repeat (first | (with_reducible assumption) | (with_reducible exact Kp.refl (Nat.le_refl _)) | (with_reducible refine Kp.drew ?_) | (with_reducible refine Kp.alloc ?_ _) | ((with_reducible refine Kp.put ?_ ?_ _); focus (first | (left; go_size; done) | (right; simp; done))) | ((with_reducible apply Kp.later); (with_reducible assumption)))))
  have h5c0 := fun o => (hk5.cell _ o hEz0 (by simp)).trans (hEc0 o)
  have h5f0 := fun o => (hk5.froz _ o hEz0).trans (hEf0 o)
  have h5z0 := Nat.lt_of_lt_of_le hEz0 hk5.size
  have h5c1 := fun o => (hk5.cell _ o hEz1 (by simp)).trans (hEc1 o)
  have h5f1 := fun o => (hk5.froz _ o hEz1).trans (hEf1 o)
  have h5z1 := Nat.lt_of_lt_of_le hEz1 hk5.size
  go_upto_region 10 with (fail)
  refine wp_world (fun x => (∀ o, x.cell? ⟨w.heap.size + 1 + 1, o, none⟩ = (#[.bool false, .int .u64 0, .int .u64 0, .int .u64 0, .int .u64 0, .bool false, .int .u64 0, .int .u64 0, .int .u64 0, .int .u64 0] : Array Value)[o]?) ∧ (∀ o, x.cell? ⟨w4.heap.size, o, none⟩ = (#[.bool false, .int .u64 (((qn) : Nat) : Int), .int .u64 0, .int .u64 0, .int .u64 0] : Array Value)[o]?) ∧ (∀ o, x.cell? ⟨w5.heap.size, o, none⟩ = (#[.bool false, .int .u64 (((qd) : Nat) : Int), .int .u64 0, .int .u64 0, .int .u64 0] : Array Value)[o]?) ∧ (∀ o, x.frozen? ⟨w.heap.size + 1 + 1, o, none⟩ = false) ∧ (∀ o, x.frozen? ⟨w4.heap.size, o, none⟩ = false) ∧ (∀ o, x.frozen? ⟨w5.heap.size, o, none⟩ = false) ∧ w.heap.size + 1 + 1 < x.heap.size ∧ w4.heap.size < x.heap.size ∧ w5.heap.size < x.heap.size ∧ Below w5.heap.size w5 x) ⟨fun o => by simp [go_sem, h5c0, h5f0, h5z0, h5c1, h5f1, h5z1], fun o => by simp [go_sem, h5c0, h5f0, h5z0, h5c1, h5f1, h5z1], fun o => by simp [go_sem, h5c0, h5f0, h5z0, h5c1, h5f1, h5z1], fun o => by simp [go_sem, h5c0, h5f0, h5z0, h5c1, h5f1, h5z1], fun o => by simp [go_sem, h5c0, h5f0, h5z0, h5c1, h5f1, h5z1], fun o => by simp [go_sem, h5c0, h5f0, h5z0, h5c1, h5f1, h5z1], by (first | omega | (simp [go_sem, h5c0, h5f0, h5z0, h5c1, h5f1, h5z1]; done) | (simp [go_sem, h5c0, h5f0, h5z0, h5c1, h5f1, h5z1]; omega)), by (first | omega | (simp [go_sem, h5c0, h5f0, h5z0, h5c1, h5f1, h5z1]; done) | (simp [go_sem, h5c0, h5f0, h5z0, h5c1, h5f1, h5z1]; omega)), by (first | omega | (simp [go_sem, h5c0, h5f0, h5z0, h5c1, h5f1, h5z1]; done) | (simp [go_sem, h5c0, h5f0, h5z0, h5c1, h5f1, h5z1]; omega)), by (repeat' (first | (with_reducible exact Below.refl _ _) | (with_reducible assumption) | (with_reducible refine below_alloc ?_ _) | (with_reducible refine Below.drew ?_) | (with_reducible refine Below.setCell ?_ ?_ _) | (with_reducible refine below_after ?_ (by assumption)) | go_size))⟩ ?_
  rintro F ⟨hFc0, hFc1, hFc2, hFf0, hFf1, hFf2, hFz0, hFz1, hFz2, hFb⟩
  have hb06 := below_after (below_after hb05 hb5) hFb
  have hBw : w.heap.size ≤ w.heap.size + 1 + 1 := by omega
  clear hEb hFb hb5 hb04 hb05 hk5 h5c0 h5c1 h5f0 h5f1 h5z0 h5z1 hEc0 hEc1 hEf0 hEf1 hEz0 hEz1 HN3 HN4 X2 Y2 F2
  generalize w.heap.size + 1 + 1 = B at *
  generalize w4.heap.size = C at *
  generalize w5.heap.size = D' at *
  go_wp2_with ((with_reducible show bodyPost _ _ _ _ _ _); refine bodyPost_ret (by simp [results, Tryd.results79, go_sem, hFc0, hFc1, hFc2, hFf0, hFz0, hFz1, hFz2]; try rfl) rfl ?_; exact ⟨rfl, by (repeat' (first | (with_reducible exact Below.refl _ _) | (with_reducible assumption) | (with_reducible refine below_alloc ?_ _) | (with_reducible refine Below.drew ?_) | (with_reducible refine Below.setCell ?_ ?_ _) | (with_reducible refine below_after ?_ (by assumption)) | go_size))⟩)
end Go.Proofs.YtfmmnnodihpgmaaDoor
namespace Go.Proofs.YtfmmnnodihpgmaaDoor
set_option linter.all false
open Go Go.RowKit Wd
set_option maxRecDepth 100000
set_option maxHeartbeats 2000000 in
theorem refOf_any (N D : Nat) (hN : N < 9223372036854775808) (hD0 : 0 < D) (hD : D < 9223372036854775808) (w : World) :
    Calls Tryd.prog 47 #[.int .i64 (N : Int), .int .i64 (D : Int)] w fun e w' => e = .returned (.tuple #[(.agg #[.bool false, .int .u64 (((N / Nat.gcd N D) : Nat) : Int), .int .u64 0, .int .u64 0, .int .u64 0, .bool false, .int .u64 (((D / Nat.gcd N D) : Nat) : Int), .int .u64 0, .int .u64 0, .int .u64 0]), .int .i64 0]) ∧ Below w.heap.size w w' := by
  have K1 := Lib.hid (fun v => ofInt_any N hN v)
  have K2 := Lib.hid (fun v => ofInt_any D hD v)
  have K3 := Lib.hid (fun cA cB aA aB v h1 h2 => lowest_any N D cA cB aA aB hN hD0 hD v h1 h2)
  clear hN hD0 hD
  generalize N / Nat.gcd N D = qn at *
  generalize D / Nat.gcd N D = qd at *
  go_enter Tryd.func47, Tryd.ntmps47
  go_upto_region 1 with (fail)
  refine wp_world (fun x => (∀ o, x.cell? ⟨w.heap.size, o, none⟩ = (#[.bool false, .int .u64 0, .int .u64 0, .int .u64 0, .int .u64 0, .bool false, .int .u64 0, .int .u64 0, .int .u64 0, .int .u64 0] : Array Value)[o]?) ∧ (∀ o, x.frozen? ⟨w.heap.size, o, none⟩ = false) ∧ w.heap.size < x.heap.size ∧ Below w.heap.size w x) ⟨fun o => by simp [go_sem], fun o => by simp [go_sem], by (first | omega | (simp [go_sem]; done) | (simp [go_sem]; omega)), by (repeat' (first | (with_reducible exact Below.refl _ _) | (with_reducible assumption) | (with_reducible refine below_alloc ?_ _) | (with_reducible refine Below.drew ?_) | (with_reducible refine Below.setCell ?_ ?_ _) | (with_reducible refine below_after ?_ (by assumption)) | go_size))⟩ ?_
  rintro G ⟨hGc0, hGf0, hGz0, hGb⟩
  go_wp2_with fail
  ((with_reducible refine (K1.out _).mono ?_); rintro e w1 ⟨a1, c1, rfl, hN1, hb1⟩)
  go_wp2_with fail
  ((with_reducible refine (K2.out _).mono ?_); rintro e w2 ⟨a2, c2, rfl, hN2, hb2⟩)
  go_wp2_with fail
  ((with_reducible refine (K3.out _ _ _ _ _ (hN1.later hb2) hN2).mono ?_); rintro e w3 ⟨rfl, hb3⟩)
  have hb := below_after (below_after hb1 hb2) hb3
  have hbw := below_after hGb hb
  have x0 := keep_cell hb hGz0 hGc0
  have f0 := keep_frozen hb hGz0 hGf0
  have z0 := keep_lt hb hGz0
  clear hN1 hN2 hb1 hb2 hb3 hb hGb hGc0 hGf0 hGz0 K1 K2 K3
  go_wp2_with ((with_reducible show bodyPost _ _ _ _ _ _); refine bodyPost_ret (by simp [results, Tryd.results47, go_sem, x0, f0, z0]; try rfl) rfl ?_; exact ⟨rfl, by (repeat' (first | (with_reducible exact Below.refl _ _) | (with_reducible assumption) | (with_reducible refine below_alloc ?_ _) | (with_reducible refine Below.drew ?_) | (with_reducible refine Below.setCell ?_ ?_ _) | (with_reducible refine below_after ?_ (by assumption)) | go_size))⟩)
end Go.Proofs.YtfmmnnodihpgmaaDoor
namespace Go.Proofs.YtfmmnnodihpgmaaDoor
set_option linter.all false
open Go Go.RowKit Wd
set_option maxRecDepth 100000
set_option maxHeartbeats 4000000 in
theorem between_any (ax ah : Option Addr) (bz oz : Nat) (cx cz ch : Nat) (nx nz nh k : Nat) (z a b z0 z1 : Int) (h0 : 0 ≤ z0) (h01 : z0 < z1) (h1 : z1 ≤ 4096) (hz : z0 ≤ z) (hz' : z ≤ z1) (ha : 0 ≤ a) (ha' : a ≤ 32768) (hb : 0 ≤ b) (hb' : b ≤ 32768) (hk : k + 1 < nz) (hn : nz ≤ 16)
    (w : World) (hbz : bz < w.heap.size) (c0 : w.cell? ⟨bz, oz + k, none⟩ = some (.int .i64 z0)) (c1 : w.cell? ⟨bz, oz + (k + 1), none⟩ = some (.int .i64 z1)) :
    Calls Tryd.prog 42 #[.agg #[.slice ax nx cx, .slice (some ⟨bz, oz, none⟩) nz cz, .slice ah nh ch], .int .i64 (k : Int), .int .i64 z, .int .i64 a, .int .i64 b] w fun e w' => e = .returned (.agg #[.bool false, .int .u64 (((rnN (a * (z1 - z) + b * (z - z0)).toNat (z1 - z0).toNat) : Nat) : Int), .int .u64 0, .int .u64 0, .int .u64 0, .bool false, .int .u64 (((rdN (a * (z1 - z) + b * (z - z0)).toNat (z1 - z0).toNat) : Nat) : Int), .int .u64 0, .int .u64 0, .int .u64 0]) ∧ Below w.heap.size w w' := by
  obtain ⟨d, hd⟩ : ∃ d, d = z1 - z0 := ⟨_, rfl⟩
  obtain ⟨p, hp⟩ : ∃ p, p = a * (z1 - z) := ⟨_, rfl⟩
  obtain ⟨q, hq⟩ : ∃ q, q = b * (z - z0) := ⟨_, rfl⟩
  have b1 : 0 ≤ a * (z1 - z) := Int.mul_nonneg ha (by omega)
  have b2 : a * (z1 - z) ≤ 32768 * 4096 := Int.mul_le_mul ha' (by omega) (by omega) (by omega)
  have b3 : 0 ≤ b * (z - z0) := Int.mul_nonneg hb (by omega)
  have b4 : b * (z - z0) ≤ 32768 * 4096 := Int.mul_le_mul hb' (by omega) (by omega) (by omega)
  rw [← hp] at b1 b2
  rw [← hq] at b3 b4
  rw [← hd, ← hp, ← hq]
  have O := Lib.hid (show ∀ v, Calls Tryd.prog 47 #[.int .i64 (p + q), .int .i64 d] v fun e w' => e = .returned (.tuple #[(.agg #[.bool false, .int .u64 (((rnN (p + q).toNat d.toNat) : Nat) : Int), .int .u64 0, .int .u64 0, .int .u64 0, .bool false, .int .u64 (((rdN (p + q).toNat d.toNat) : Nat) : Int), .int .u64 0, .int .u64 0, .int .u64 0]), .int .i64 0]) ∧ Below v.heap.size v w' from fun v => by
    have K := refOf_any (p + q).toNat d.toNat (by omega) (by omega) (by omega) v
    rw [Int.toNat_of_nonneg (by omega), Int.toNat_of_nonneg (by omega)] at K
    unfold rnN rdN
    exact K)
  have hw : IntKind.i64.wrap (z1 - z0) = d := by rw [IntKind.wrap_i64]; omega
  have hw1 : IntKind.i64.wrap (z1 - z) = z1 - z := by rw [IntKind.wrap_i64]; omega
  have hw2 : IntKind.i64.wrap (z - z0) = z - z0 := by rw [IntKind.wrap_i64]; omega
  have hk1 : IntKind.i64.wrap ((k : Int) + 1) = (k : Int) + 1 := by rw [IntKind.wrap_i64]; omega
  have hk2 : (0 : Int) ≤ (k : Int) + 1 := by omega
  have hk3 : ((k : Int) + 1).toNat = k + 1 := by omega
  have hk4 : (0 : Int) ≤ (k : Int) := by omega
  have hw3 : IntKind.i64.wrap (p + q) = p + q := by rw [IntKind.wrap_i64]; omega
  have hw4 : IntKind.i64.wrap (a * (z1 - z)) = p := by rw [← hp, IntKind.wrap_i64]; omega
  have hw5 : IntKind.i64.wrap (b * (z - z0)) = q := by rw [← hq, IntKind.wrap_i64]; omega
  have hlt : (k : Int) + 1 < (nz : Int) := by omega
  have hlt0 : (k : Int) < (nz : Int) := by omega
  clear hp hq hd b1 b2 b3 b4
  generalize rnN (p + q).toNat d.toNat = x' at *
  generalize rdN (p + q).toNat d.toNat = y' at *
  go_enter Tryd.func42, Tryd.ntmps42
  go_upto_region 1 with (fail)
  refine wp_world (fun x => (∀ o, x.cell? ⟨w.heap.size, o, none⟩ = (#[.slice ax nx cx, .slice (some ⟨bz, oz, none⟩) nz cz, .slice ah nh ch] : Array Value)[o]?) ∧ (∀ o, x.cell? ⟨w.heap.size + 1, o, none⟩ = (#[.bool false, .int .u64 0, .int .u64 0, .int .u64 0, .int .u64 0, .bool false, .int .u64 0, .int .u64 0, .int .u64 0, .int .u64 0] : Array Value)[o]?) ∧ (∀ o, x.frozen? ⟨w.heap.size, o, none⟩ = false) ∧ (∀ o, x.frozen? ⟨w.heap.size + 1, o, none⟩ = false) ∧ w.heap.size < x.heap.size ∧ w.heap.size + 1 < x.heap.size ∧ Below w.heap.size w x) ⟨fun o => by simp [go_sem], fun o => by simp [go_sem], fun o => by simp [go_sem], fun o => by simp [go_sem], by (first | omega | (simp [go_sem]; done) | (simp [go_sem]; omega)), by (first | omega | (simp [go_sem]; done) | (simp [go_sem]; omega)), by (repeat' (first | (with_reducible exact Below.refl _ _) | (with_reducible assumption) | (with_reducible refine below_alloc ?_ _) | (with_reducible refine Below.drew ?_) | (with_reducible refine Below.setCell ?_ ?_ _) | (with_reducible refine below_after ?_ (by assumption)) | go_size))⟩ ?_
  rintro G ⟨hGc0, hGc1, hGf0, hGf1, hGz0, hGz1, hGb⟩
  have p0 := (hGb.cell (p := ⟨bz, oz + k, none⟩) hbz).trans c0
  have p1 := (hGb.cell (p := ⟨bz, oz + (k + 1), none⟩) hbz).trans c1
  have pz := keep_lt hGb hbz
  refine wp_world (fun x => (∀ o, x.cell? ⟨w.heap.size, o, none⟩ = (#[.slice ax nx cx, .slice (some ⟨bz, oz, none⟩) nz cz, .slice ah nh ch] : Array Value)[o]?) ∧ (x.cell? ⟨bz, oz + k, none⟩ = some (.int .i64 z0)) ∧ (x.cell? ⟨bz, oz + (k + 1), none⟩ = some (.int .i64 z1)) ∧ (∀ o, x.cell? ⟨w.heap.size + 1, o, none⟩ = (#[.bool false, .int .u64 0, .int .u64 0, .int .u64 0, .int .u64 0, .bool false, .int .u64 0, .int .u64 0, .int .u64 0, .int .u64 0] : Array Value)[o]?) ∧ (∀ o, x.frozen? ⟨w.heap.size + 1, o, none⟩ = false) ∧ w.heap.size < x.heap.size ∧ bz < x.heap.size ∧ w.heap.size + 1 < x.heap.size ∧ Below w.heap.size w x) ⟨fun o => by first | (simp [go_sem, hGc0, hGc1, hGf1, hGz0, hGz1, p0, p1, pz]; done) | (rcases o with _ | _ | _ | _ | _ | o <;> simp [go_sem, hGc0, hGc1, hGf1, hGz0, hGz1, p0, p1, pz]), by simp [go_sem, hGc0, hGc1, hGf1, hGz0, hGz1, p0, p1, pz], by simp [go_sem, hGc0, hGc1, hGf1, hGz0, hGz1, p0, p1, pz], fun o => by first | (simp [go_sem, hGc0, hGc1, hGf1, hGz0, hGz1, p0, p1, pz]; done) | (rcases o with _ | _ | _ | _ | _ | o <;> simp [go_sem, hGc0, hGc1, hGf1, hGz0, hGz1, p0, p1, pz]), fun o => by simp [go_sem, hGc0, hGc1, hGf1, hGz0, hGz1, p0, p1, pz], by (first | omega | (simp [go_sem, hGc0, hGc1, hGf1, hGz0, hGz1, p0, p1, pz]; done) | (simp [go_sem, hGc0, hGc1, hGf1, hGz0, hGz1, p0, p1, pz]; omega)), by (first | omega | (simp [go_sem, hGc0, hGc1, hGf1, hGz0, hGz1, p0, p1, pz]; done) | (simp [go_sem, hGc0, hGc1, hGf1, hGz0, hGz1, p0, p1, pz]; omega)), by (first | omega | (simp [go_sem, hGc0, hGc1, hGf1, hGz0, hGz1, p0, p1, pz]; done) | (simp [go_sem, hGc0, hGc1, hGf1, hGz0, hGz1, p0, p1, pz]; omega)), by (repeat' (first | (with_reducible exact Below.refl _ _) | (with_reducible assumption) | (with_reducible refine below_alloc ?_ _) | (with_reducible refine Below.drew ?_) | (with_reducible refine Below.setCell ?_ ?_ _) | (with_reducible refine below_after ?_ (by assumption)) | go_size))⟩ ?_
  rintro E ⟨hEc0, hEc1, hEc2, hEc3, hEf0, hEz0, hEz1, hEz2, hEb⟩
  have hEK := Lib.hid (show ∀ x : World, Kp E.heap.size [w.heap.size + 1] E x → ((∀ o, x.cell? ⟨w.heap.size, o, none⟩ = (#[.slice ax nx cx, .slice (some ⟨bz, oz, none⟩) nz cz, .slice ah nh ch] : Array Value)[o]?) ∧ (x.cell? ⟨bz, oz + k, none⟩ = some (.int .i64 z0)) ∧ (x.cell? ⟨bz, oz + (k + 1), none⟩ = some (.int .i64 z1)) ∧ (∀ o, x.frozen? ⟨w.heap.size + 1, o, none⟩ = false) ∧ w.heap.size < x.heap.size ∧ bz < x.heap.size ∧ w.heap.size + 1 < x.heap.size ∧ E.heap.size ≤ x.heap.size) from fun x k => ⟨fun o => (k.cell _ o hEz0 (by first | (simp; done) | (simp; omega))).trans (hEc0 o), (k.cell _ _ hEz1 (by first | (simp; done) | (simp; omega))).trans hEc1, (k.cell _ _ hEz1 (by first | (simp; done) | (simp; omega))).trans hEc2, fun o => (k.froz _ o hEz2).trans (hEf0 o), Nat.lt_of_lt_of_le hEz0 k.size, Nat.lt_of_lt_of_le hEz1 k.size, Nat.lt_of_lt_of_le hEz2 k.size, k.size⟩)
  go_region_held3 (fun x => (∀ o, x.cell? ⟨w.heap.size, o, none⟩ = (#[.slice ax nx cx, .slice (some ⟨bz, oz, none⟩) nz cz, .slice ah nh ch] : Array Value)[o]?) ∧ (x.cell? ⟨bz, oz + k, none⟩ = some (.int .i64 z0)) ∧ (x.cell? ⟨bz, oz + (k + 1), none⟩ = some (.int .i64 z1)) ∧ (∀ o, x.frozen? ⟨w.heap.size + 1, o, none⟩ = false) ∧ w.heap.size < x.heap.size ∧ bz < x.heap.size ∧ w.heap.size + 1 < x.heap.size ∧ E.heap.size ≤ x.heap.size) ((refine hEK.out _ ?_; (repeat (first | (with_reducible assumption) | (with_reducible exact Kp.refl (Nat.le_refl _)) | (with_reducible refine Kp.drew ?_) | (with_reducible refine Kp.alloc ?_ _) | ((with_reducible refine Kp.put ?_ ?_ _); focus (first | (left; go_size; done) | (right; simp; done))) | ((with_reducible apply Kp.later); (with_reducible assumption)))))) ((first | (go_at_call 47; (with_reducible refine (O.out _).mono ?_); rintro e E_1 ⟨rfl, hbE_1⟩; have hkE_1 : Kp E.heap.size [] E E_1 := (by (repeat (first | (with_reducible assumption) | (with_reducible exact Kp.refl (Nat.le_refl _)) | (with_reducible refine Kp.drew ?_) | (with_reducible refine Kp.alloc ?_ _) | ((with_reducible refine Kp.put ?_ ?_ _); focus (first | (left; go_size; done) | (right; simp; done))) | ((with_reducible apply Kp.later); (with_reducible assumption))))); have hE_1c3 := fun o => (hkE_1.cell _ o hEz2 (by simp)).trans (hEc3 o); have hE_1f0 := fun o => (hkE_1.froz _ o hEz2).trans (hEf0 o); have hE_1z2 := Nat.lt_of_lt_of_le hEz2 hkE_1.size; obtain ⟨hE_1k, hE_1g⟩ := bcell hbE_1; have hE_1r := hkE_1.size; have hE_1s := hbE_1.size; (try (have hE_1t : E.heap.size < E_1.heap.size := (by simp at hE_1s; omega))))))
  all_goals have hne : w.heap.size + 1 ≠ E.heap.size := Nat.ne_of_lt hEz2
  all_goals have hne1 : w.heap.size + 1 ≠ E_1.heap.size := Nat.ne_of_lt hE_1z2
  all_goals have hwE : w.heap.size ≤ E.heap.size := by omega
  all_goals have hwE1 : w.heap.size ≤ E_1.heap.size := by omega
  all_goals clear O hlt hlt0 hk1 hk2 hk3 hk4 hw hw1 hw2 hw3 hw4 hw5 p0 p1 pz hGc0 hGc1 hGf0 hGf1 hGz0 hGz1 hGb
  all_goals first
    | (have hg1 := hE_1g; have ht1 := hE_1t; (go_wp2_with ((with_reducible show bodyPost _ _ _ _ _ _); refine bodyPost_ret (by simp [results, Tryd.results42, go_sem, hE_1c3, hE_1f0, hE_1z2, hE_1k, hE_1g, hE_1t, hne, hne1]; try rfl) rfl ?_; exact ⟨rfl, by (repeat' (first | (with_reducible exact Below.refl _ _) | (with_reducible assumption) | (with_reducible refine below_alloc ?_ _) | (with_reducible refine Below.drew ?_) | (with_reducible refine Below.setCell ?_ ?_ _) | (with_reducible refine below_after ?_ (by assumption)) | go_size))⟩)))
    | (go_wp2_with ((with_reducible show bodyPost _ _ _ _ _ _); refine bodyPost_ret (by simp [results, Tryd.results42, go_sem, hE_1c3, hE_1f0, hE_1z2, hne, hne1]; try rfl) rfl ?_; exact ⟨rfl, by (repeat' (first | (with_reducible exact Below.refl _ _) | (with_reducible assumption) | (with_reducible refine below_alloc ?_ _) | (with_reducible refine Below.drew ?_) | (with_reducible refine Below.setCell ?_ ?_ _) | (with_reducible refine below_after ?_ (by assumption)) | go_size))⟩))
end Go.Proofs.YtfmmnnodihpgmaaDoor
namespace Go.Proofs.YtfmmnnodihpgmaaDoor
set_option linter.all false
open Go Go.RowKit Wd
set_option maxRecDepth 100000
set_option maxHeartbeats 4000000 in
theorem rright_any (ax az ah : Option Addr) (cx cz ch : Nat) (A : Nat → Option Addr) (C : Nat → Nat) (X Z : List Int) (H : List (List Int)) (i z : Int) (w : World) (hf : Frm w ax az ah A C X Z H) :
    Calls Tryd.prog 40 #[.agg #[.slice ax X.length cx, .slice az Z.length cz, .slice ah H.length ch], .int .i64 i, .int .i64 z] w fun e w' => e = .returned (.int .i64 (stn X Z H i z)) ∧ Below w.heap.size w w' := by
  have K1 := fun W hF => rcheck_any ax az ah cx cz ch A C X Z H W hF
  have HF := Lib.hid hf
  by_cases hs : chk X Z H = 0
  · have hv := chk_fine hs
    have x2 := hv.x2
    have z2 := hv.z2
    have x24 := hv.x24
    have z16 := hv.z16
    have K1' := K1
    rw [hs] at K1
    have K := Lib.hid K1
    obtain ⟨bz, oz, rfl, hzi⟩ := hf.z (by omega)
    have lz := hzi.lt
    have cz1 := hzi.cell (Z.length - 1) (by omega)
    obtain ⟨zl, hzl⟩ : ∃ v, v = ix Z (Z.length - 1) := ⟨_, rfl⟩
    rw [← hzl] at cz1
    have hx' : (X.length : Int) ≤ 24 ∧ (Z.length : Int) ≤ 16 := by omega
    clear hf hzi K1 K1' hv
    rcases (by omega : i < 0 ∨ (0 ≤ i ∧ (X.length : Int) ≤ i) ∨ (0 ≤ i ∧ i < (X.length : Int) ∧ z < 0) ∨ (0 ≤ i ∧ i < (X.length : Int) ∧ 0 ≤ z ∧ zl < z) ∨ (0 ≤ i ∧ i < (X.length : Int) ∧ 0 ≤ z ∧ z ≤ zl)) with hc | ⟨hc1, hc2⟩ | ⟨hc1, hc2, hc3⟩ | ⟨hc1, hc2, hc3, hc4⟩ | ⟨hc1, hc2, hc3, hc4⟩
    · have e : stn X Z H i z = 9 := by
        unfold stn rgt
        rw [if_pos hs, out_neg hc]
        split <;> simp_all
      rw [e]
      clear e hs hzl
      go_enter Tryd.func40, Tryd.ntmps40
      go_wp2_with fail
      ((with_reducible refine (K.out _ (HF.out.later (by (repeat' (first | (with_reducible exact Below.refl _ _) | (with_reducible assumption) | (with_reducible refine below_alloc ?_ _) | (with_reducible refine Below.drew ?_) | (with_reducible refine Below.setCell ?_ ?_ _) | (with_reducible refine below_after ?_ (by assumption)) | go_size))))).mono ?_); rintro e w1 ⟨rfl, hb1⟩)
      obtain ⟨hc1, hf1⟩ := bcell hb1
      have hz1_w_0 : w.heap.size < w1.heap.size := by have h := hb1.size; (try simp at h); omega
      go_wp2
      go_returns
      exact ⟨rfl, by (repeat' (first | (with_reducible exact Below.refl _ _) | (with_reducible assumption) | (with_reducible refine below_alloc ?_ _) | (with_reducible refine Below.drew ?_) | (with_reducible refine Below.setCell ?_ ?_ _) | (with_reducible refine below_after ?_ (by assumption)) | go_size))⟩
    · have e : stn X Z H i z = 9 := by
        unfold stn rgt
        rw [if_pos hs, out_big (by omega : (X.length : Int) - 1 < i)]
        split <;> simp_all
      rw [e]
      clear e hs hzl
      have hc3 : i ≥ (X.length : Int) := hc2
      go_enter Tryd.func40, Tryd.ntmps40
      go_wp2_with fail
      ((with_reducible refine (K.out _ (HF.out.later (by (repeat' (first | (with_reducible exact Below.refl _ _) | (with_reducible assumption) | (with_reducible refine below_alloc ?_ _) | (with_reducible refine Below.drew ?_) | (with_reducible refine Below.setCell ?_ ?_ _) | (with_reducible refine below_after ?_ (by assumption)) | go_size))))).mono ?_); rintro e w1 ⟨rfl, hb1⟩)
      obtain ⟨hc1, hf1⟩ := bcell hb1
      have hz1_w_0 : w.heap.size < w1.heap.size := by have h := hb1.size; (try simp at h); omega
      go_wp2
      go_returns
      exact ⟨rfl, by (repeat' (first | (with_reducible exact Below.refl _ _) | (with_reducible assumption) | (with_reducible refine below_alloc ?_ _) | (with_reducible refine Below.drew ?_) | (with_reducible refine Below.setCell ?_ ?_ _) | (with_reducible refine below_after ?_ (by assumption)) | go_size))⟩
    · have e : stn X Z H i z = 9 := by
        unfold stn rgt
        rw [if_pos hs, out_neg hc3]
        simp
      rw [e]
      clear e hs hzl
      go_enter Tryd.func40, Tryd.ntmps40
      go_wp2_with fail
      ((with_reducible refine (K.out _ (HF.out.later (by (repeat' (first | (with_reducible exact Below.refl _ _) | (with_reducible assumption) | (with_reducible refine below_alloc ?_ _) | (with_reducible refine Below.drew ?_) | (with_reducible refine Below.setCell ?_ ?_ _) | (with_reducible refine below_after ?_ (by assumption)) | go_size))))).mono ?_); rintro e w1 ⟨rfl, hb1⟩)
      obtain ⟨hc1, hf1⟩ := bcell hb1
      have hz1_w_0 : w.heap.size < w1.heap.size := by have h := hb1.size; (try simp at h); omega
      go_wp2
      go_returns
      exact ⟨rfl, by (repeat' (first | (with_reducible exact Below.refl _ _) | (with_reducible assumption) | (with_reducible refine below_alloc ?_ _) | (with_reducible refine Below.drew ?_) | (with_reducible refine Below.setCell ?_ ?_ _) | (with_reducible refine below_after ?_ (by assumption)) | go_size))⟩
    · have e : stn X Z H i z = 9 := by
        unfold stn rgt
        rw [if_pos hs, ← hzl, out_big hc4]
        simp
      rw [e]
      clear e hs hzl
      go_enter Tryd.func40, Tryd.ntmps40
      go_wp2_with fail
      ((with_reducible refine (K.out _ (HF.out.later (by (repeat' (first | (with_reducible exact Below.refl _ _) | (with_reducible assumption) | (with_reducible refine below_alloc ?_ _) | (with_reducible refine Below.drew ?_) | (with_reducible refine Below.setCell ?_ ?_ _) | (with_reducible refine below_after ?_ (by assumption)) | go_size))))).mono ?_); rintro e w1 ⟨rfl, hb1⟩)
      obtain ⟨hc1, hf1⟩ := bcell hb1
      have hz1_w_0 : w.heap.size < w1.heap.size := by have h := hb1.size; (try simp at h); omega
      have hb1' := hb1
      have d1 := ((below_after (below_alloc (Below.refl w.heap.size w) _) hb1').cell (p := ⟨bz, oz + (Z.length - 1), none⟩) lz).trans cz1
      go_wp2
      go_returns
      exact ⟨rfl, by (repeat' (first | (with_reducible exact Below.refl _ _) | (with_reducible assumption) | (with_reducible refine below_alloc ?_ _) | (with_reducible refine Below.drew ?_) | (with_reducible refine Below.setCell ?_ ?_ _) | (with_reducible refine below_after ?_ (by assumption)) | go_size))⟩
    · have e : stn X Z H i z = 0 := by
        unfold stn rgt
        rw [if_pos hs, ← hzl, out_in hc3 hc4, out_in hc1 (by omega : i ≤ (X.length : Int) - 1)]
        simp
      rw [e]
      clear e hs hzl
      go_enter Tryd.func40, Tryd.ntmps40
      go_wp2_with fail
      ((with_reducible refine (K.out _ (HF.out.later (by (repeat' (first | (with_reducible exact Below.refl _ _) | (with_reducible assumption) | (with_reducible refine below_alloc ?_ _) | (with_reducible refine Below.drew ?_) | (with_reducible refine Below.setCell ?_ ?_ _) | (with_reducible refine below_after ?_ (by assumption)) | go_size))))).mono ?_); rintro e w1 ⟨rfl, hb1⟩)
      obtain ⟨hc1, hf1⟩ := bcell hb1
      have hz1_w_0 : w.heap.size < w1.heap.size := by have h := hb1.size; (try simp at h); omega
      have hb1' := hb1
      have d1 := ((below_after (below_alloc (Below.refl w.heap.size w) _) hb1').cell (p := ⟨bz, oz + (Z.length - 1), none⟩) lz).trans cz1
      go_wp2
      go_returns
      exact ⟨rfl, by (repeat' (first | (with_reducible exact Below.refl _ _) | (with_reducible assumption) | (with_reducible refine below_alloc ?_ _) | (with_reducible refine Below.drew ?_) | (with_reducible refine Below.setCell ?_ ?_ _) | (with_reducible refine below_after ?_ (by assumption)) | go_size))⟩
  · have e : stn X Z H i z = chk X Z H := by
      unfold stn rgt
      rw [if_neg hs, if_neg hs]
    rw [e]
    have K := Lib.hid K1
    clear K1 hf e
    generalize chk X Z H = r at *
    go_enter Tryd.func40, Tryd.ntmps40
    go_wp2_with fail
    ((with_reducible refine (K.out _ (HF.out.later (by (repeat' (first | (with_reducible exact Below.refl _ _) | (with_reducible assumption) | (with_reducible refine below_alloc ?_ _) | (with_reducible refine Below.drew ?_) | (with_reducible refine Below.setCell ?_ ?_ _) | (with_reducible refine below_after ?_ (by assumption)) | go_size))))).mono ?_); rintro e w1 ⟨rfl, hb1⟩)
    obtain ⟨hc1, hf1⟩ := bcell hb1
    have hz1_w_0 : w.heap.size < w1.heap.size := by have h := hb1.size; (try simp at h); omega
    go_wp2
    go_returns
    exact ⟨rfl, by (repeat' (first | (with_reducible exact Below.refl _ _) | (with_reducible assumption) | (with_reducible refine below_alloc ?_ _) | (with_reducible refine Below.drew ?_) | (with_reducible refine Below.setCell ?_ ?_ _) | (with_reducible refine below_after ?_ (by assumption)) | go_size))⟩
/-- The greatest waterline, but the last one, that is not above a height. -/
structure BandAt (Z : List Int) (z : Int) (k : Nat) : Prop where
  lt : k + 1 < Z.length
  lo : ix Z k ≤ z
  hi : z ≤ ix Z (k + 1)
  last : z = ix Z (k + 1) → k + 2 = Z.length
set_option maxHeartbeats 4000000 in
theorem rBand_any (ax az ah : Option Addr) (cx cz ch : Nat) (A : Nat → Option Addr) (C : Nat → Nat) (X Z : List Int) (H : List (List Int)) (z : Int) (hv : Fine X Z H) (h0 : 0 ≤ z) (hz : z ≤ ix Z (Z.length - 1)) (w : World) (hf : Frm w ax az ah A C X Z H) :
    Calls Tryd.prog 41 #[.agg #[.slice ax X.length cx, .slice az Z.length cz, .slice ah H.length ch], .int .i64 z] w fun e w' => ∃ k : Nat, e = .returned (.int .i64 (k : Int)) ∧ BandAt Z z k ∧ Below w.heap.size w w' := by
  have z2 := hv.z2
  have z16 := hv.z16
  have hz0 := hv.z0
  obtain ⟨bz, oz, rfl, hzi⟩ := hf.z (by omega)
  have lz := hzi.lt
  have HZ := Lib.hid hzi
  have hlast := hz
  clear hf hzi hv hz
  go_enter Tryd.func41, Tryd.ntmps41
  go_upto_region 1 with (fail)
  refine wp_world (fun x => (∀ o, x.cell? ⟨w.heap.size, o, none⟩ = (#[.slice ax X.length cx, .slice (some ⟨bz, oz, none⟩) Z.length cz, .slice ah H.length ch] : Array Value)[o]?) ∧ (∀ o, x.frozen? ⟨w.heap.size, o, none⟩ = false) ∧ w.heap.size < x.heap.size ∧ Below w.heap.size w x) ⟨fun o => by simp [go_sem], fun o => by simp [go_sem], by (first | omega | (simp [go_sem]; done) | (simp [go_sem]; omega)), by (repeat' (first | (with_reducible exact Below.refl _ _) | (with_reducible assumption) | (with_reducible refine below_alloc ?_ _) | (with_reducible refine Below.drew ?_) | (with_reducible refine Below.setCell ?_ ?_ _) | (with_reducible refine below_after ?_ (by assumption)) | go_size))⟩ ?_
  rintro G ⟨hGc0, hGf0, hGz0, hGb⟩
  go_wp2
  go_loopg [5] Z.length (fun gg v wr => ∃ k : Nat, k + 2 ≤ Z.length ∧ Z.length - k ≤ gg ∧ v = .int .i64 (k : Int) ∧ ix Z k ≤ z ∧ Hid ((∀ o, wr.cell? ⟨w.heap.size, o, none⟩ = (#[.slice ax X.length cx, .slice (some ⟨bz, oz, none⟩) Z.length cz, .slice ah H.length ch] : Array Value)[o]?) ∧ w.heap.size < wr.heap.size ∧ Below w.heap.size w wr))
  case atStart => exact ⟨0, by omega, by omega, rfl, by omega, Lib.hid ⟨hGc0, hGz0, hGb⟩⟩
  case round =>
    obtain ⟨k, hk, hgk, rfl, hlo, HI⟩ := hrel
    obtain ⟨c0, l0, hb⟩ := HI.out
    clear hGc0 hGf0 hGz0 hGb HI
    by_cases hlt : k + 2 < Z.length
    · have g1 : (k : Int) + 2 < (Z.length : Int) := by omega
      have g2 : (k : Int) + 1 < (Z.length : Int) := by omega
      have c1 := (hb.cell (p := ⟨bz, oz + (k + 1), none⟩) lz).trans (HZ.out.cell (k + 1) (by omega))
      have l1 := keep_lt hb lz
      obtain ⟨z1, hz1⟩ : ∃ v, v = ix Z (k + 1) := ⟨_, rfl⟩
      rw [← hz1] at c1
      by_cases hle : z1 ≤ z
      · have HZ1 := Lib.hid hz1
        clear hz1 hlo hz0 hlast
        go_wp2
        go_roundg (Z.length - (k + 1))
        case rel => exact ⟨k + 1, by omega, by omega, by go_num, by rw [← HZ1.out]; exact hle, Lib.hid ⟨c0, l0, hb⟩⟩
        case measure => omega
      · have HB := Lib.hid (show BandAt Z z k from ⟨by omega, hlo, by omega, fun e => by omega⟩)
        clear hz1 hlo hz0 hlast
        go_wp2
        go_returns
        exact ⟨k, rfl, HB.out, hb⟩
    · have g1 : ¬ (k : Int) + 2 < (Z.length : Int) := by omega
      have HB := Lib.hid (show BandAt Z z k from ⟨by omega, hlo, by rw [show k + 1 = Z.length - 1 by omega]; exact hlast, fun _ => by omega⟩)
      clear hlo hz0 hlast
      go_wp2
      go_returns
      exact ⟨k, rfl, HB.out, hb⟩
end Go.Proofs.YtfmmnnodihpgmaaDoor
namespace Go.Proofs.YtfmmnnodihpgmaaDoor
set_option linter.all false
open Go Go.RowKit Wd
set_option maxRecDepth 100000
theorem red_scale (N D c : Nat) (hc : 0 < c) : rnN (N * c) (D * c) = rnN N D ∧ rdN (N * c) (D * c) = rdN N D := by
  unfold rnN rdN
  rw [Nat.gcd_mul_right]
  exact ⟨Nat.mul_div_mul_right _ _ hc, Nat.mul_div_mul_right _ _ hc⟩
theorem red_eq {N D n d : Nat} (hD : 0 < D) (hd : 0 < d) (h : N * d = n * D) : rnN N D = rnN n d ∧ rdN N D = rdN n d := by
  have h1 := red_scale N D d hd
  have h2 := red_scale n d D hD
  rw [h, Nat.mul_comm D d] at h1
  exact ⟨h1.1.symm.trans h2.1, h1.2.symm.trans h2.2⟩
theorem asc_mono {Z : List Int} (hz : ∀ j, j + 1 < Z.length → ix Z j < ix Z (j + 1)) : ∀ i j, i ≤ j → j < Z.length → ix Z i ≤ ix Z j := by
  intro i j hij
  induction j with
  | zero => intro _; rw [show i = 0 by omega]; exact Int.le_refl _
  | succ j ih =>
    intro hj
    by_cases e : i = j + 1
    · subst e; exact Int.le_refl _
    · have := ih (by omega) (by omega)
      have := hz j hj
      omega
theorem band_eq {X Z : List Int} {H : List (List Int)} (hv : Fine X Z H) {z : Int} {k : Nat} (h0 : 0 ≤ z) (hb : BandAt Z z k) :
    (z = ix Z (k + 1) ∧ bandN Z z (Z.length - 1) = k + 1) ∨ (z < ix Z (k + 1) ∧ bandN Z z (Z.length - 1) = k) := by
  have k1 := bandN_le Z z (Z.length - 1)
  have k2 := bandN_low Z z (by rw [hv.z0]; exact h0) (Z.length - 1)
  have k3 := bandN_high Z z (Z.length - 1)
  generalize bandN Z z (Z.length - 1) = kb at *
  have z2 := hv.z2
  have hlt := hb.lt
  have hhi := hb.hi
  have hlo := hb.lo
  by_cases e : z = ix Z (k + 1)
  · refine Or.inl ⟨e, ?_⟩
    have hl := hb.last e
    rcases Nat.lt_or_ge kb (k + 1) with h | h
    · have := k3 (k + 1) h (by omega); omega
    · omega
  · refine Or.inr ⟨by omega, ?_⟩
    rcases Nat.lt_or_ge kb k with h | h
    · have := k3 k h (by omega); omega
    · rcases Nat.lt_or_ge k kb with h' | h'
      · have := asc_mono hv.za (k + 1) kb (by omega) (by omega); omega
      · omega
@[irreducible] def btN (Z l : List Int) (z : Int) (k : Nat) : Nat := (ix l k * (ix Z (k + 1) - z) + ix l (k + 1) * (z - ix Z k)).toNat
@[irreducible] def btD (Z : List Int) (k : Nat) : Nat := (ix Z (k + 1) - ix Z k).toNat
theorem half_cross {X Z : List Int} {H : List (List Int)} (hv : Fine X Z H) {z : Int} {k : Nat} (h0 : 0 ≤ z) (hb : BandAt Z z k) (l : List Int) :
    (ix l k * (ix Z (k + 1) - z) + ix l (k + 1) * (z - ix Z k)) * hfD Z z (bandN Z z (Z.length - 1)) = hfN Z l z (bandN Z z (Z.length - 1)) * (ix Z (k + 1) - ix Z k) := by
  have hza := hv.za k hb.lt
  rcases band_eq hv h0 hb with ⟨e, ek⟩ | ⟨e, ek⟩
  · rw [ek]
    unfold hfN hfD
    rw [if_pos e.symm, if_pos e.symm, ← e]
    grind
  · rw [ek]
    unfold hfN hfD
    by_cases he : ix Z k = z
    · rw [if_pos he, if_pos he, he]
      grind
    · rw [if_neg he, if_neg he]
      grind
theorem half_same {X Z : List Int} {H : List (List Int)} (hv : Fine X Z H) {i : Nat} (hi : i < X.length) {z : Int} {k : Nat} (h0 : 0 ≤ z) (hz : z ≤ ix Z (Z.length - 1)) (hb : BandAt Z z k) :
    ((.agg #[.bool false, .int .u64 (((rnN (btN Z (row H i) z k) (btD Z k)) : Nat) : Int), .int .u64 0, .int .u64 0, .int .u64 0, .bool false, .int .u64 (((rdN (btN Z (row H i) z k) (btD Z k)) : Nat) : Int), .int .u64 0, .int .u64 0, .int .u64 0]) : Value) = (.agg #[.bool (zs (rn (hfN Z (row H i) z (bandN Z z (Z.length - 1))) (hfD Z z (bandN Z z (Z.length - 1))))), .int .u64 (wd (Int.natAbs (rn (hfN Z (row H i) z (bandN Z z (Z.length - 1))) (hfD Z z (bandN Z z (Z.length - 1))))) 0), .int .u64 (wd (Int.natAbs (rn (hfN Z (row H i) z (bandN Z z (Z.length - 1))) (hfD Z z (bandN Z z (Z.length - 1))))) 1), .int .u64 (wd (Int.natAbs (rn (hfN Z (row H i) z (bandN Z z (Z.length - 1))) (hfD Z z (bandN Z z (Z.length - 1))))) 2), .int .u64 (wd (Int.natAbs (rn (hfN Z (row H i) z (bandN Z z (Z.length - 1))) (hfD Z z (bandN Z z (Z.length - 1))))) 3), .bool (zs (rd (hfN Z (row H i) z (bandN Z z (Z.length - 1))) (hfD Z z (bandN Z z (Z.length - 1))))), .int .u64 (wd (Int.natAbs (rd (hfN Z (row H i) z (bandN Z z (Z.length - 1))) (hfD Z z (bandN Z z (Z.length - 1))))) 0), .int .u64 (wd (Int.natAbs (rd (hfN Z (row H i) z (bandN Z z (Z.length - 1))) (hfD Z z (bandN Z z (Z.length - 1))))) 1), .int .u64 (wd (Int.natAbs (rd (hfN Z (row H i) z (bandN Z z (Z.length - 1))) (hfD Z z (bandN Z z (Z.length - 1))))) 2), .int .u64 (wd (Int.natAbs (rd (hfN Z (row H i) z (bandN Z z (Z.length - 1))) (hfD Z z (bandN Z z (Z.length - 1))))) 3)]) := by
  have hc := half_cross hv h0 hb (row H i)
  obtain ⟨b1, b2, b3, b4⟩ := hf_bounds hv hi h0 hz
  have hl := hv.hl
  have r0 := hv.hv i (by omega) k (by have := hb.lt; omega)
  have r1 := hv.hv i (by omega) (k + 1) hb.lt
  have hza := hv.za k hb.lt
  have p1 : 0 ≤ ix (row H i) k * (ix Z (k + 1) - z) := Int.mul_nonneg r0.1 (by have := hb.hi; omega)
  have p2 : 0 ≤ ix (row H i) (k + 1) * (z - ix Z k) := Int.mul_nonneg r1.1 (by have := hb.lo; omega)
  generalize hfN Z (row H i) z (bandN Z z (Z.length - 1)) = n at *
  generalize hfD Z z (bandN Z z (Z.length - 1)) = d at *
  obtain ⟨n', rfl⟩ := Int.eq_ofNat_of_zero_le b1
  obtain ⟨d', rfl⟩ := Int.eq_ofNat_of_zero_le (Int.le_of_lt b3)
  have hN : ((btN Z (row H i) z k : Nat) : Int) = ix (row H i) k * (ix Z (k + 1) - z) + ix (row H i) (k + 1) * (z - ix Z k) := by unfold btN; omega
  have hD : ((btD Z k : Nat) : Int) = ix Z (k + 1) - ix Z k := by unfold btD; omega
  have hD0 : 0 < btD Z k := by omega
  have hcr : btN Z (row H i) z k * d' = n' * btD Z k := by
    have e := hc
    rw [← hN, ← hD] at e
    exact_mod_cast e
  have he := red_eq hD0 (by omega : 0 < d') hcr
  rw [he.1, he.2, rn_nat, rd_nat]
  have q1 := rnN_le n' d'
  have q2 := rdN_le n' d'
  exact (r_small (by omega) (by omega)).symm
end Go.Proofs.YtfmmnnodihpgmaaDoor
namespace Go.Proofs.YtfmmnnodihpgmaaDoor
set_option linter.all false
open Go Go.RowKit Wd
set_option maxRecDepth 100000
theorem rn_cross (N D : Nat) : rnN N D * D = N * rdN N D := by
  unfold rnN rdN
  obtain ⟨a, ha⟩ := Nat.gcd_dvd_left N D
  obtain ⟨b, hb⟩ := Nat.gcd_dvd_right N D
  by_cases h0 : Nat.gcd N D = 0
  · have h1 := Nat.eq_zero_of_gcd_eq_zero_left h0
    have h2 := Nat.eq_zero_of_gcd_eq_zero_right h0
    rw [h1, h2]; simp
  · generalize hg : Nat.gcd N D = g at *
    have hp : 0 < g := Nat.pos_of_ne_zero h0
    rw [ha, hb, Nat.mul_div_cancel_left _ hp, Nat.mul_div_cancel_left _ hp]
    grind
theorem mul_cross (n d c : Nat) : mulN n d c * d = n * c * mulD n d c := by
  unfold mulN mulD
  by_cases h : n = 0 ∨ c = 0
  · rw [if_pos h, if_pos h]
    rcases h with h | h <;> rw [h] <;> simp
  · rw [if_neg h, if_neg h]
    obtain ⟨a, ha⟩ := Nat.gcd_dvd_left c d
    obtain ⟨b, hb⟩ := Nat.gcd_dvd_right c d
    have hc : 0 < c := Nat.pos_of_ne_zero (fun e => h (Or.inr e))
    have hp : 0 < Nat.gcd c d := Nat.gcd_pos_of_pos_left _ hc
    generalize Nat.gcd c d = g at *
    have e1 : c / g = a := by rw [ha, Nat.mul_div_cancel_left _ hp]
    have e2 : d / g = b := by rw [hb, Nat.mul_div_cancel_left _ hp]
    rw [e1, e2, ha, hb]
    grind
theorem red_self {n d : Nat} (h : Nat.gcd n d = 1) : rnN n d = n ∧ rdN n d = d := by
  unfold rnN rdN
  rw [h, Nat.div_one, Nat.div_one]
  exact ⟨rfl, rfl⟩
theorem s2_cop {X Z : List Int} {H : List (List Int)} (hv : Fine X Z H) {i : Nat} (hi : i < X.length) {z : Int} (h0 : 0 ≤ z) (hz : z ≤ ix Z (Z.length - 1)) :
    Nat.gcd (s2N Z (row H i) z (bandN Z z (Z.length - 1))) (s2D Z (row H i) z (bandN Z z (Z.length - 1))) = 1 ∧ 0 < s2D Z (row H i) z (bandN Z z (Z.length - 1)) := by
  obtain ⟨b1, b2, b3, b4⟩ := hf_bounds hv hi h0 hz
  generalize hk : bandN Z z (Z.length - 1) = k at *
  have hd : 0 < rdN (hfN Z (row H i) z k).toNat (hfD Z z k).toNat := rdN_pos (by omega)
  have hg : Nat.gcd (s2T Z (row H i) z k) (rdN (hfN Z (row H i) z k).toNat (hfD Z z k).toNat) = 1 := by
    unfold s2T
    exact cop_add (rn_cop (by omega))
  unfold s2N s2D
  exact ⟨cop_add (mul_cop hd hg), mulD_pos hd⟩
@[irreducible] def sxN (Z l : List Int) (z : Int) (k : Nat) : Int := secTo Z l k * (ix Z (k + 1) - ix Z k) + 2 * (ix l k * (ix Z (k + 1) - ix Z k) + (ix l k * (ix Z (k + 1) - z) + ix l (k + 1) * (z - ix Z k))) * (z - ix Z k)
theorem s2_alg {M Dd a h c m hd hn T D : Int} (hd0 : 0 < hd) (e1 : hn * D = h * hd) (e2 : M * hd = T * c * m) (e3 : T = a * hd + hn) (_h : Dd = D) : M * D = (a * D + h) * c * m := by
  have key : M * D * hd = (a * D + h) * c * m * hd := by
    subst e3
    have e4 : M * D * hd = (M * hd) * D := by grind
    have e5 : (a * hd + hn) * c * m * D = (a * hd * D + hn * D) * c * m := by grind
    rw [e4, e2, e5, e1]
    grind
  exact Int.eq_of_mul_eq_mul_right (by omega) key
theorem hn_alg {hn d n hd h D : Int} (hd0 : 0 < d) (e1 : hn * d = n * hd) (e2 : h * d = n * D) : hn * D = h * hd := by
  have key : hn * D * d = h * hd * d := by
    have a : hn * D * d = (hn * d) * D := by grind
    have b : h * hd * d = (h * d) * hd := by grind
    rw [a, b, e1, e2]
    grind
  exact Int.eq_of_mul_eq_mul_right (by omega) key
theorem s2_cross {X Z : List Int} {H : List (List Int)} (hv : Fine X Z H) {i : Nat} (hi : i < X.length) {z : Int} {k : Nat} (h0 : 0 ≤ z) (hz : z ≤ ix Z (Z.length - 1)) (hb : BandAt Z z k) :
    ((s2N Z (row H i) z (bandN Z z (Z.length - 1)) : Nat) : Int) * (ix Z (k + 1) - ix Z k) = sxN Z (row H i) z k * ((s2D Z (row H i) z (bandN Z z (Z.length - 1)) : Nat) : Int) := by
  have hl := hv.hl
  have hc := half_cross hv h0 hb (row H i)
  have hlt := hb.lt
  have sb := fun j hj => sec_bounds (m := Z.length) hv.za hv.zr (fun j hj => hv.hv i (by omega) j hj) j hj
  obtain ⟨b1, b2, b3, b4⟩ := hf_bounds hv hi h0 hz
  have r0 := hv.hv i (by omega) k (by omega)
  rcases band_eq hv h0 hb with ⟨e, ek⟩ | ⟨e, ek⟩
  · rw [ek] at b1 b3 ⊢
    have s1 := sb (k + 1) hlt
    have hcz : (2 * (z - ix Z (k + 1))).toNat = 0 := by omega
    have eD : s2D Z (row H i) z (k + 1) = 1 := by unfold s2D mulD; rw [if_pos (Or.inr hcz)]
    have eN : ((s2N Z (row H i) z (k + 1) : Nat) : Int) = secTo Z (row H i) (k + 1) := by
      unfold s2N mulN
      rw [if_pos (Or.inr hcz), eD]
      omega
    rw [eN, eD, secTo_succ]
    unfold sxN
    rw [← e]
    generalize secTo Z (row H i) k = S
    generalize ix (row H i) k = a
    generalize ix (row H i) (k + 1) = b
    generalize ix Z k = u
    grind
  · rw [ek] at b1 b3 hc ⊢
    have s1 := sb k (by omega)
    have hlo := hb.lo
    have hd0 : 0 < rdN (hfN Z (row H i) z k).toNat (hfD Z z k).toNat := rdN_pos (by omega)
    have x1 := rn_cross (hfN Z (row H i) z k).toNat (hfD Z z k).toNat
    have x2 := mul_cross (s2T Z (row H i) z k) (rdN (hfN Z (row H i) z k).toNat (hfD Z z k).toNat) (2 * (z - ix Z k)).toNat
    have eT : ((s2T Z (row H i) z k : Nat) : Int) = ix (row H i) k * ((rdN (hfN Z (row H i) z k).toNat (hfD Z z k).toNat : Nat) : Int) + ((rnN (hfN Z (row H i) z k).toNat (hfD Z z k).toNat : Nat) : Int) := by
      unfold s2T
      rw [Int.natCast_add, Int.natCast_mul, Int.toNat_of_nonneg r0.1]
    have eN : ((s2N Z (row H i) z k : Nat) : Int) = secTo Z (row H i) k * ((s2D Z (row H i) z k : Nat) : Int) + ((mulN (s2T Z (row H i) z k) (rdN (hfN Z (row H i) z k).toNat (hfD Z z k).toNat) (2 * (z - ix Z k)).toNat : Nat) : Int) := by
      unfold s2N
      rw [Int.natCast_add, Int.natCast_mul, Int.toNat_of_nonneg s1.1]
    have eD : s2D Z (row H i) z k = mulD (s2T Z (row H i) z k) (rdN (hfN Z (row H i) z k).toNat (hfD Z z k).toNat) (2 * (z - ix Z k)).toNat := by unfold s2D; rfl
    rw [eN, eD]
    have x1' : ((rnN (hfN Z (row H i) z k).toNat (hfD Z z k).toNat : Nat) : Int) * hfD Z z k = hfN Z (row H i) z k * ((rdN (hfN Z (row H i) z k).toNat (hfD Z z k).toNat : Nat) : Int) := by
      have := congrArg (fun n : Nat => (n : Int)) x1
      simp only [Int.natCast_mul] at this
      rw [Int.toNat_of_nonneg b1, Int.toNat_of_nonneg (Int.le_of_lt b3)] at this
      exact this
    have x2' : ((mulN (s2T Z (row H i) z k) (rdN (hfN Z (row H i) z k).toNat (hfD Z z k).toNat) (2 * (z - ix Z k)).toNat : Nat) : Int) * ((rdN (hfN Z (row H i) z k).toNat (hfD Z z k).toNat : Nat) : Int) = ((s2T Z (row H i) z k : Nat) : Int) * (2 * (z - ix Z k)) * ((mulD (s2T Z (row H i) z k) (rdN (hfN Z (row H i) z k).toNat (hfD Z z k).toNat) (2 * (z - ix Z k)).toNat : Nat) : Int) := by
      have := congrArg (fun n : Nat => (n : Int)) x2
      simp only [Int.natCast_mul] at this
      rw [Int.toNat_of_nonneg (by omega : 0 ≤ 2 * (z - ix Z k))] at this
      exact this
    have y1 := hn_alg b3 x1' hc
    have y2 := s2_alg (a := ix (row H i) k) (Dd := ix Z (k + 1) - ix Z k) (D := ix Z (k + 1) - ix Z k) (by omega) y1 x2' eT rfl
    unfold sxN
    rw [Int.add_mul, y2]
    grind
theorem sec_same {X Z : List Int} {H : List (List Int)} (hv : Fine X Z H) {i : Nat} (hi : i < X.length) {z : Int} {k : Nat} (h0 : 0 ≤ z) (hz : z ≤ ix Z (Z.length - 1)) (hb : BandAt Z z k) (hN : 0 ≤ sxN Z (row H i) z k) :
    rnN (sxN Z (row H i) z k).toNat (btD Z k) = s2N Z (row H i) z (bandN Z z (Z.length - 1)) ∧ rdN (sxN Z (row H i) z k).toNat (btD Z k) = s2D Z (row H i) z (bandN Z z (Z.length - 1)) := by
  have hc := s2_cross hv hi h0 hz hb
  have hg := s2_cop hv hi h0 hz
  have hza := hv.za k hb.lt
  generalize s2N Z (row H i) z (bandN Z z (Z.length - 1)) = n at *
  generalize s2D Z (row H i) z (bandN Z z (Z.length - 1)) = d at *
  obtain ⟨N, eN⟩ := Int.eq_ofNat_of_zero_le hN
  have hD : ((btD Z k : Nat) : Int) = ix Z (k + 1) - ix Z k := by unfold btD; omega
  rw [eN, ← hD] at hc
  rw [eN, Int.toNat_natCast]
  have hcr : N * d = n * btD Z k := by exact_mod_cast hc.symm
  have he := red_eq (by omega : 0 < btD Z k) hg.2 hcr
  have hs := red_self hg.1
  rw [he.1, he.2]
  exact hs
end Go.Proofs.YtfmmnnodihpgmaaDoor
namespace Go.Proofs.YtfmmnnodihpgmaaDoor
set_option linter.all false
open Go Go.RowKit Wd
set_option maxRecDepth 100000
set_option maxHeartbeats 1000000 in
theorem rHalf_bad (ax az ah : Option Addr) (cx cz ch : Nat) (A : Nat → Option Addr) (C : Nat → Nat) (X Z : List Int) (H : List (List Int)) (i z : Int) (hs : stn X Z H i z ≠ 0) (w : World) (hf : Frm w ax az ah A C X Z H) :
    Calls Tryd.prog 14 #[.agg #[.slice ax X.length cx, .slice az Z.length cz, .slice ah H.length ch], .int .i64 i, .int .i64 z] w fun e w' => e = .returned (.tuple #[.agg #[.bool false, .int .u64 0, .int .u64 0, .int .u64 0, .int .u64 0, .bool false, .int .u64 0, .int .u64 0, .int .u64 0, .int .u64 0], .int .i64 (stn X Z H i z)]) ∧ Below w.heap.size w w' := by
  have K := Lib.hid (fun W hF => rright_any ax az ah cx cz ch A C X Z H i z W hF)
  generalize stn X Z H i z = r at *
  have HF := Lib.hid hf
  clear hf
  go_enter Tryd.func14, Tryd.ntmps14
  go_wp2_with fail
  ((with_reducible refine (K.out _ (HF.out.later (by (repeat' (first | (with_reducible exact Below.refl _ _) | (with_reducible assumption) | (with_reducible refine below_alloc ?_ _) | (with_reducible refine Below.drew ?_) | (with_reducible refine Below.setCell ?_ ?_ _) | (with_reducible refine below_after ?_ (by assumption)) | go_size))))).mono ?_); rintro e w1 ⟨rfl, hb1⟩)
  obtain ⟨hc1, hf1⟩ := bcell hb1
  have hz1_w_0 : w.heap.size < w1.heap.size := by have h := hb1.size; (try simp at h); omega
  have hz1_w_1 : w.heap.size + 1 < w1.heap.size := by have h := hb1.size; (try simp at h); omega
  go_wp2_with ((with_reducible show bodyPost _ _ _ _ _ _); refine bodyPost_ret (by simp [results, Tryd.results14, go_sem, hc1, hf1, hz1_w_0, hz1_w_1]; try rfl) rfl ?_; exact ⟨rfl, by (repeat' (first | (with_reducible exact Below.refl _ _) | (with_reducible assumption) | (with_reducible refine below_alloc ?_ _) | (with_reducible refine Below.drew ?_) | (with_reducible refine Below.setCell ?_ ?_ _) | (with_reducible refine below_after ?_ (by assumption)) | go_size))⟩)
set_option maxHeartbeats 4000000 in
theorem rHalf_ok (ax az ah : Option Addr) (cx cz ch : Nat) (A : Nat → Option Addr) (C : Nat → Nat) (X Z : List Int) (H : List (List Int)) (i : Nat) (z : Int) (hs : stn X Z H i z = 0) (w : World) (hf : Frm w ax az ah A C X Z H) :
    Calls Tryd.prog 14 #[.agg #[.slice ax X.length cx, .slice az Z.length cz, .slice ah H.length ch], .int .i64 (i : Int), .int .i64 z] w fun e w' => e = .returned (.tuple #[(.agg #[.bool (zs (rn (hfN Z (row H i) z (bandN Z z (Z.length - 1))) (hfD Z z (bandN Z z (Z.length - 1))))), .int .u64 (wd (Int.natAbs (rn (hfN Z (row H i) z (bandN Z z (Z.length - 1))) (hfD Z z (bandN Z z (Z.length - 1))))) 0), .int .u64 (wd (Int.natAbs (rn (hfN Z (row H i) z (bandN Z z (Z.length - 1))) (hfD Z z (bandN Z z (Z.length - 1))))) 1), .int .u64 (wd (Int.natAbs (rn (hfN Z (row H i) z (bandN Z z (Z.length - 1))) (hfD Z z (bandN Z z (Z.length - 1))))) 2), .int .u64 (wd (Int.natAbs (rn (hfN Z (row H i) z (bandN Z z (Z.length - 1))) (hfD Z z (bandN Z z (Z.length - 1))))) 3), .bool (zs (rd (hfN Z (row H i) z (bandN Z z (Z.length - 1))) (hfD Z z (bandN Z z (Z.length - 1))))), .int .u64 (wd (Int.natAbs (rd (hfN Z (row H i) z (bandN Z z (Z.length - 1))) (hfD Z z (bandN Z z (Z.length - 1))))) 0), .int .u64 (wd (Int.natAbs (rd (hfN Z (row H i) z (bandN Z z (Z.length - 1))) (hfD Z z (bandN Z z (Z.length - 1))))) 1), .int .u64 (wd (Int.natAbs (rd (hfN Z (row H i) z (bandN Z z (Z.length - 1))) (hfD Z z (bandN Z z (Z.length - 1))))) 2), .int .u64 (wd (Int.natAbs (rd (hfN Z (row H i) z (bandN Z z (Z.length - 1))) (hfD Z z (bandN Z z (Z.length - 1))))) 3)]), .int .i64 0]) ∧ Below w.heap.size w w' := by
  have K1 := fun W hF => rright_any ax az ah cx cz ch A C X Z H i z W hF
  rw [hs] at K1
  have K := Lib.hid K1
  obtain ⟨h1, -, h2⟩ := stn_rgt hs
  obtain ⟨h3, h4, h5⟩ := rgt_fine h1
  have hv := chk_fine h3
  have hi : i < X.length := by omega
  have B := Lib.hid (fun W hF => rBand_any ax az ah cx cz ch A C X Z H z hv h4 h5 W hF)
  have SM := Lib.hid (fun k hb => half_same hv hi (k := k) h4 h5 hb)
  have z2 := hv.z2
  have z16 := hv.z16
  have hl := hv.hl
  have hrl := hv.hr i (by omega)
  obtain ⟨bz, oz, rfl, hzi⟩ := hf.z (by omega)
  obtain ⟨bh, oh, rfl, hri⟩ := hf.h (by omega)
  have hrc := hri.cell i (by omega)
  obtain ⟨rb, ro, ea, hrow⟩ := hri.row i (by omega) (by omega)
  rw [ea, hrl] at hrc
  have HF := Lib.hid hf
  have lz := hzi.lt
  have lh := hri.lt
  have lr := hrow.lt
  have hiH : (i : Int) < (H.length : Int) := by omega
  have hiH0 : (0 : Int) ≤ (i : Int) := by omega
  have HV := Lib.hid hv
  have HZ := Lib.hid hzi
  have HW := Lib.hid hrow
  have HL := Lib.hid hl
  have HRL := Lib.hid hrl
  clear hf hzi hri hrow hv K1 hs h1 h3 h4 h5 h2 ea hl hrl
  generalize rn (hfN Z (row H i) z (bandN Z z (Z.length - 1))) (hfD Z z (bandN Z z (Z.length - 1))) = x' at *
  generalize rd (hfN Z (row H i) z (bandN Z z (Z.length - 1))) (hfD Z z (bandN Z z (Z.length - 1))) = y' at *
  go_enter Tryd.func14, Tryd.ntmps14
  go_wp2_with fail
  ((with_reducible refine (K.out _ (HF.out.later (by (repeat' (first | (with_reducible exact Below.refl _ _) | (with_reducible assumption) | (with_reducible refine below_alloc ?_ _) | (with_reducible refine Below.drew ?_) | (with_reducible refine Below.setCell ?_ ?_ _) | (with_reducible refine below_after ?_ (by assumption)) | go_size))))).mono ?_); rintro e w1 ⟨rfl, hb1⟩)
  obtain ⟨hc1, hf1⟩ := bcell hb1
  have hz1_w_0 : w.heap.size < w1.heap.size := by have h := hb1.size; (try simp at h); omega
  have hz1_w_1 : w.heap.size + 1 < w1.heap.size := by have h := hb1.size; (try simp at h); omega
  go_upto_region 4 with (fail)
  refine wp_world (fun x => (∀ o, x.cell? ⟨w.heap.size, o, none⟩ = (#[.slice ax X.length cx, .slice (some ⟨bz, oz, none⟩) Z.length cz, .slice (some ⟨bh, oh, none⟩) H.length ch] : Array Value)[o]?) ∧ (∀ o, x.cell? ⟨w.heap.size + 1, o, none⟩ = (#[.bool false, .int .u64 0, .int .u64 0, .int .u64 0, .int .u64 0, .bool false, .int .u64 0, .int .u64 0, .int .u64 0, .int .u64 0] : Array Value)[o]?) ∧ (∀ o, x.frozen? ⟨w.heap.size, o, none⟩ = false) ∧ (∀ o, x.frozen? ⟨w.heap.size + 1, o, none⟩ = false) ∧ w.heap.size < x.heap.size ∧ w.heap.size + 1 < x.heap.size ∧ Below w.heap.size w x) ⟨fun o => by simp [go_sem, hc1, hf1, hz1_w_0, hz1_w_1], fun o => by simp [go_sem, hc1, hf1, hz1_w_0, hz1_w_1], fun o => by simp [go_sem, hc1, hf1, hz1_w_0, hz1_w_1], fun o => by simp [go_sem, hc1, hf1, hz1_w_0, hz1_w_1], by (first | omega | (simp [go_sem, hc1, hf1, hz1_w_0, hz1_w_1]; done) | (simp [go_sem, hc1, hf1, hz1_w_0, hz1_w_1]; omega)), by (first | omega | (simp [go_sem, hc1, hf1, hz1_w_0, hz1_w_1]; done) | (simp [go_sem, hc1, hf1, hz1_w_0, hz1_w_1]; omega)), by (repeat' (first | (with_reducible exact Below.refl _ _) | (with_reducible assumption) | (with_reducible refine below_alloc ?_ _) | (with_reducible refine Below.drew ?_) | (with_reducible refine Below.setCell ?_ ?_ _) | (with_reducible refine below_after ?_ (by assumption)) | go_size))⟩ ?_
  rintro A ⟨hAc0, hAc1, hAf0, hAf1, hAz0, hAz1, hAb⟩
  clear hb1 hc1 hf1
  go_wp2_with fail
  ((with_reducible refine (B.out _ (HF.out.later (by (repeat' (first | (with_reducible exact Below.refl _ _) | (with_reducible assumption) | (with_reducible refine below_alloc ?_ _) | (with_reducible refine Below.drew ?_) | (with_reducible refine Below.setCell ?_ ?_ _) | (with_reducible refine below_after ?_ (by assumption)) | go_size))))).mono ?_); rintro e w2 ⟨k, rfl, hb, hb2⟩)
  have hb02 := below_after hAb hb2
  have x0 := keep_cell hb2 hAz0 hAc0
  have x1 := keep_cell hb2 hAz1 hAc1
  have x2 := keep_frozen hb2 hAz1 hAf1
  have x3 := keep_lt hb2 hAz0
  have x4 := keep_lt hb2 hAz1
  clear hAc0 hAc1 hAf0 hAf1 hAz0 hAz1 hAb hb2
  have hl := HL.out
  have hrl := HRL.out
  have hklt := hb.lt
  have r0 := HV.out.hv i (by omega) k (by omega)
  have r1 := HV.out.hv i (by omega) (k + 1) hklt
  have q0 := HV.out.zr k (by omega)
  have q1 := HV.out.zr (k + 1) hklt
  have q2 := HV.out.za k hklt
  have L := Lib.hid (fun w h1 h2 h3 => between_any ax (some ⟨bh, oh, none⟩) bz oz cx cz ch X.length Z.length H.length k z (ix (row H i) k) (ix (row H i) (k + 1)) (ix Z k) (ix Z (k + 1)) q0.1 q2 q1.2 hb.lo hb.hi r0.1 (by omega) r1.1 (by omega) hklt z16 w h1 h2 h3)
  have hsm := SM.out k hb
  unfold btN btD at hsm
  rw [hsm] at L
  have LK := Lib.hid (fun (W : World) (h1 : bz < W.heap.size) h2 h3 (x : World) (kk : Kp W.heap.size [] W x) => L.out x (Nat.lt_of_lt_of_le h1 kk.size) ((kk.cell _ _ h1 (by simp)).trans h2) ((kk.cell _ _ h1 (by simp)).trans h3))
  have c0 := HZ.out.cell k (by omega)
  have c1 := HZ.out.cell (k + 1) hklt
  have v0' := HW.out.cell k (by omega)
  have v1' := HW.out.cell (k + 1) (by omega)
  have hkZ0 : (k : Int) < (Z.length : Int) := by omega
  have hkZ1 : (k : Int) + 1 < (Z.length : Int) := by omega
  have hkZ2 : (0 : Int) ≤ (k : Int) + 1 := by omega
  have hkZ3 : ((k : Int) + 1).toNat = k + 1 := by omega
  have hkZ4 : (0 : Int) ≤ (k : Int) := by omega
  have hk1w : IntKind.i64.wrap ((k : Int) + 1) = (k : Int) + 1 := by rw [IntKind.wrap_i64]; omega
  clear L hsm SM hb
  generalize ix (row H i) k = v0 at *
  generalize ix (row H i) (k + 1) = v1 at *
  generalize ix Z k = u0 at *
  generalize ix Z (k + 1) = u1 at *
  clear r0 r1 q0 q1 q2 HV HZ HW B K HF hl hrl
  have p1 := (hb02.cell (p := ⟨bh, oh + i, none⟩) lh).trans hrc
  have p2 := (hb02.cell (p := ⟨rb, ro + k, none⟩) lr).trans v0'
  have p3 := (hb02.cell (p := ⟨rb, ro + (k + 1), none⟩) lr).trans v1'
  have p4 := (hb02.cell (p := ⟨bz, oz + k, none⟩) lz).trans c0
  have p5 := (hb02.cell (p := ⟨bz, oz + (k + 1), none⟩) lz).trans c1
  have s0 := keep_lt hb02 lz
  have s1 := keep_lt hb02 lh
  have s2 := keep_lt hb02 lr
  clear hrc v0' v1' c0 c1
  go_upto_region 5 with (fail)
  refine wp_world (fun x => (∀ o, x.cell? ⟨w.heap.size, o, none⟩ = (#[.slice ax X.length cx, .slice (some ⟨bz, oz, none⟩) Z.length cz, .slice (some ⟨bh, oh, none⟩) H.length ch] : Array Value)[o]?) ∧ (x.cell? ⟨bh, oh + i, none⟩ = some (.slice (some ⟨rb, ro, none⟩) Z.length (C i))) ∧ (x.cell? ⟨rb, ro + k, none⟩ = some (.int .i64 v0)) ∧ (x.cell? ⟨rb, ro + (k + 1), none⟩ = some (.int .i64 v1)) ∧ (x.cell? ⟨bz, oz + k, none⟩ = some (.int .i64 u0)) ∧ (x.cell? ⟨bz, oz + (k + 1), none⟩ = some (.int .i64 u1)) ∧ (∀ o, x.cell? ⟨w.heap.size + 1, o, none⟩ = (#[.bool false, .int .u64 0, .int .u64 0, .int .u64 0, .int .u64 0, .bool false, .int .u64 0, .int .u64 0, .int .u64 0, .int .u64 0] : Array Value)[o]?) ∧ (∀ o, x.frozen? ⟨w.heap.size + 1, o, none⟩ = false) ∧ w.heap.size < x.heap.size ∧ bh < x.heap.size ∧ rb < x.heap.size ∧ bz < x.heap.size ∧ w.heap.size + 1 < x.heap.size ∧ Below w.heap.size w x) ⟨fun o => by first | (simp [go_sem, x0, x1, x2, x3, x4, p1, p2, p3, p4, p5, s0, s1, s2]; done) | (rcases o with _ | _ | _ | _ | _ | o <;> simp [go_sem, x0, x1, x2, x3, x4, p1, p2, p3, p4, p5, s0, s1, s2]), by simp [go_sem, x0, x1, x2, x3, x4, p1, p2, p3, p4, p5, s0, s1, s2], by simp [go_sem, x0, x1, x2, x3, x4, p1, p2, p3, p4, p5, s0, s1, s2], by simp [go_sem, x0, x1, x2, x3, x4, p1, p2, p3, p4, p5, s0, s1, s2], by simp [go_sem, x0, x1, x2, x3, x4, p1, p2, p3, p4, p5, s0, s1, s2], by simp [go_sem, x0, x1, x2, x3, x4, p1, p2, p3, p4, p5, s0, s1, s2], fun o => by first | (simp [go_sem, x0, x1, x2, x3, x4, p1, p2, p3, p4, p5, s0, s1, s2]; done) | (rcases o with _ | _ | _ | _ | _ | o <;> simp [go_sem, x0, x1, x2, x3, x4, p1, p2, p3, p4, p5, s0, s1, s2]), fun o => by simp [go_sem, x0, x1, x2, x3, x4, p1, p2, p3, p4, p5, s0, s1, s2], by (first | omega | (simp [go_sem, x0, x1, x2, x3, x4, p1, p2, p3, p4, p5, s0, s1, s2]; done) | (simp [go_sem, x0, x1, x2, x3, x4, p1, p2, p3, p4, p5, s0, s1, s2]; omega)), by (first | omega | (simp [go_sem, x0, x1, x2, x3, x4, p1, p2, p3, p4, p5, s0, s1, s2]; done) | (simp [go_sem, x0, x1, x2, x3, x4, p1, p2, p3, p4, p5, s0, s1, s2]; omega)), by (first | omega | (simp [go_sem, x0, x1, x2, x3, x4, p1, p2, p3, p4, p5, s0, s1, s2]; done) | (simp [go_sem, x0, x1, x2, x3, x4, p1, p2, p3, p4, p5, s0, s1, s2]; omega)), by (first | omega | (simp [go_sem, x0, x1, x2, x3, x4, p1, p2, p3, p4, p5, s0, s1, s2]; done) | (simp [go_sem, x0, x1, x2, x3, x4, p1, p2, p3, p4, p5, s0, s1, s2]; omega)), by (first | omega | (simp [go_sem, x0, x1, x2, x3, x4, p1, p2, p3, p4, p5, s0, s1, s2]; done) | (simp [go_sem, x0, x1, x2, x3, x4, p1, p2, p3, p4, p5, s0, s1, s2]; omega)), by (repeat' (first | (with_reducible exact Below.refl _ _) | (with_reducible assumption) | (with_reducible refine below_alloc ?_ _) | (with_reducible refine Below.drew ?_) | (with_reducible refine Below.setCell ?_ ?_ _) | (with_reducible refine below_after ?_ (by assumption)) | go_size))⟩ ?_
  rintro W ⟨hWc0, hWc1, hWc2, hWc3, hWc4, hWc5, hWc6, hWf0, hWz0, hWz1, hWz2, hWz3, hWz4, hWb⟩
  have hWK := Lib.hid (show ∀ x : World, Kp W.heap.size [w.heap.size + 1] W x → ((∀ o, x.cell? ⟨w.heap.size, o, none⟩ = (#[.slice ax X.length cx, .slice (some ⟨bz, oz, none⟩) Z.length cz, .slice (some ⟨bh, oh, none⟩) H.length ch] : Array Value)[o]?) ∧ (x.cell? ⟨bh, oh + i, none⟩ = some (.slice (some ⟨rb, ro, none⟩) Z.length (C i))) ∧ (x.cell? ⟨rb, ro + k, none⟩ = some (.int .i64 v0)) ∧ (x.cell? ⟨rb, ro + (k + 1), none⟩ = some (.int .i64 v1)) ∧ (x.cell? ⟨bz, oz + k, none⟩ = some (.int .i64 u0)) ∧ (x.cell? ⟨bz, oz + (k + 1), none⟩ = some (.int .i64 u1)) ∧ (∀ o, x.frozen? ⟨w.heap.size + 1, o, none⟩ = false) ∧ w.heap.size < x.heap.size ∧ bh < x.heap.size ∧ rb < x.heap.size ∧ bz < x.heap.size ∧ w.heap.size + 1 < x.heap.size ∧ W.heap.size ≤ x.heap.size) from fun x k => ⟨fun o => (k.cell _ o hWz0 (by first | (simp; done) | (simp; omega))).trans (hWc0 o), (k.cell _ _ hWz1 (by first | (simp; done) | (simp; omega))).trans hWc1, (k.cell _ _ hWz2 (by first | (simp; done) | (simp; omega))).trans hWc2, (k.cell _ _ hWz2 (by first | (simp; done) | (simp; omega))).trans hWc3, (k.cell _ _ hWz3 (by first | (simp; done) | (simp; omega))).trans hWc4, (k.cell _ _ hWz3 (by first | (simp; done) | (simp; omega))).trans hWc5, fun o => (k.froz _ o hWz4).trans (hWf0 o), Nat.lt_of_lt_of_le hWz0 k.size, Nat.lt_of_lt_of_le hWz1 k.size, Nat.lt_of_lt_of_le hWz2 k.size, Nat.lt_of_lt_of_le hWz3 k.size, Nat.lt_of_lt_of_le hWz4 k.size, k.size⟩)
  go_region_held3 (fun x => (∀ o, x.cell? ⟨w.heap.size, o, none⟩ = (#[.slice ax X.length cx, .slice (some ⟨bz, oz, none⟩) Z.length cz, .slice (some ⟨bh, oh, none⟩) H.length ch] : Array Value)[o]?) ∧ (x.cell? ⟨bh, oh + i, none⟩ = some (.slice (some ⟨rb, ro, none⟩) Z.length (C i))) ∧ (x.cell? ⟨rb, ro + k, none⟩ = some (.int .i64 v0)) ∧ (x.cell? ⟨rb, ro + (k + 1), none⟩ = some (.int .i64 v1)) ∧ (x.cell? ⟨bz, oz + k, none⟩ = some (.int .i64 u0)) ∧ (x.cell? ⟨bz, oz + (k + 1), none⟩ = some (.int .i64 u1)) ∧ (∀ o, x.frozen? ⟨w.heap.size + 1, o, none⟩ = false) ∧ w.heap.size < x.heap.size ∧ bh < x.heap.size ∧ rb < x.heap.size ∧ bz < x.heap.size ∧ w.heap.size + 1 < x.heap.size ∧ W.heap.size ≤ x.heap.size) ((refine hWK.out _ ?_; (repeat (first | (with_reducible assumption) | (with_reducible exact Kp.refl (Nat.le_refl _)) | (with_reducible refine Kp.drew ?_) | (with_reducible refine Kp.alloc ?_ _) | ((with_reducible refine Kp.put ?_ ?_ _); focus (first | (left; go_size; done) | (right; simp; done))) | ((with_reducible apply Kp.later); (with_reducible assumption)))))) ((first | (go_at_call 42; (with_reducible refine (LK.out W hWz3 hWc4 hWc5 _ (by (repeat (first | (with_reducible assumption) | (with_reducible exact Kp.refl (Nat.le_refl _)) | (with_reducible refine Kp.drew ?_) | (with_reducible refine Kp.alloc ?_ _) | ((with_reducible refine Kp.put ?_ ?_ _); focus (first | (left; go_size; done) | (right; simp; done))) | ((with_reducible apply Kp.later); (with_reducible assumption)))))).mono ?_); rintro e W_1 ⟨rfl, hbW_1⟩; have hkW_1 : Kp W.heap.size [] W W_1 := (by (repeat (first | (with_reducible assumption) | (with_reducible exact Kp.refl (Nat.le_refl _)) | (with_reducible refine Kp.drew ?_) | (with_reducible refine Kp.alloc ?_ _) | ((with_reducible refine Kp.put ?_ ?_ _); focus (first | (left; go_size; done) | (right; simp; done))) | ((with_reducible apply Kp.later); (with_reducible assumption))))); have hW_1c6 := fun o => (hkW_1.cell _ o hWz4 (by simp)).trans (hWc6 o); have hW_1f0 := fun o => (hkW_1.froz _ o hWz4).trans (hWf0 o); have hW_1z4 := Nat.lt_of_lt_of_le hWz4 hkW_1.size)))
  all_goals go_wp2_with ((with_reducible show bodyPost _ _ _ _ _ _); refine bodyPost_ret (by simp [results, Tryd.results14, go_sem, hW_1c6, hW_1f0, hW_1z4]; try rfl) rfl ?_; exact ⟨rfl, by (repeat' (first | (with_reducible exact Below.refl _ _) | (with_reducible assumption) | (with_reducible refine below_alloc ?_ _) | (with_reducible refine Below.drew ?_) | (with_reducible refine Below.setCell ?_ ?_ _) | (with_reducible refine below_after ?_ (by assumption)) | go_size))⟩)
end Go.Proofs.YtfmmnnodihpgmaaDoor
