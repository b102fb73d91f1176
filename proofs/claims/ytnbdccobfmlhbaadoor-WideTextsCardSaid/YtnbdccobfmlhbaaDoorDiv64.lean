/-
  What math/bits.Div64 returns at the divisor 10^19, for all dividends whose quotient fits.
-/
import Derived.Test.YtnbdccobfmlhbaaDoorKeep
import Derived.Test.YtnbdccobfmlhbaaDoorShelf
namespace Go.Proofs.YtnbdccobfmlhbaaDoor
set_option linter.all false
open Go Go.RowKit Wd
set_option maxRecDepth 100000
/-- Quotient and remainder of hi 2^64 + lo by 10^19. -/
@[irreducible] def qd (hi lo : Int) : Int := (hi * 18446744073709551616 + lo) / 10000000000000000000
@[irreducible] def rd (hi lo : Int) : Int := (hi * 18446744073709551616 + lo) % 10000000000000000000
theorem qd_zero (lo : Int) : lo / 10000000000000000000 = qd 0 lo ∧ lo % 10000000000000000000 = rd 0 lo := by unfold qd rd; simp
set_option maxHeartbeats 1000000 in
theorem div64_low (lo : Int) (h0 : 0 ≤ lo) (h1 : lo ≤ 18446744073709551615) (w : World) :
    Calls Tryd.prog 60 #[.int .u64 0, .int .u64 lo, .int .u64 10000000000000000000] w fun e w' => e = .returned (.tuple #[.int .u64 (qd 0 lo), .int .u64 (rd 0 lo)]) ∧ Below w.heap.size w w' := by
  rw [← (qd_zero lo).1, ← (qd_zero lo).2]
  go_enter Tryd.func60, Tryd.ntmps60
  go_wp2
  go_region
  go_wp2
  go_ret2
  exact ⟨rfl, by (repeat' (first | (with_reducible exact Below.refl _ _) | (with_reducible assumption) | (with_reducible refine below_alloc ?_ _) | (with_reducible refine Below.drew ?_) | (with_reducible refine Below.setCell ?_ ?_ _) | (with_reducible refine below_after ?_ (by assumption)) | go_size))⟩
/-- what holds in the first loop, and in the second: q yn1 + r = u, and q is at least the digit -/
@[irreducible] def DigIn (u d q r : Int) : Prop := 0 ≤ q ∧ 0 ≤ r ∧ q * 2328306436 + r = u ∧ (u * 4294967296 + d) / 10000000000000000000 ≤ q ∧ r < 4294967296 ∧ q ≤ 4294967298
@[irreducible] def digOf (u d : Int) : Int := (u * 4294967296 + d) / 10000000000000000000
@[irreducible] def resOf (u d : Int) : Int := (u * 4294967296 + d) % 10000000000000000000
theorem DigIn.start {u d : Int} (hu : 0 ≤ u) (hu' : u < 10000000000000000000) (hd : 0 ≤ d) (hd' : d < 4294967296) : DigIn u d (u / 2328306436) (IntKind.u64.wrap (u - IntKind.u64.wrap (u / 2328306436 * 2328306436))) := by
  unfold DigIn
  rw [IntKind.wrap_u64, IntKind.wrap_u64]
  omega
theorem lz_y (w : World) : Calls Tryd.prog 76 #[.int .u64 10000000000000000000] w fun e w' => e = .returned (.int .i64 0) ∧ w' = w := by
  refine (Tryd.bits_LeadingZeros64 10000000000000000000 w (by omega) (by omega)).mono ?_
  rintro e w' ⟨rfl, rfl⟩
  exact ⟨ret_int (by decide +kernel), rfl⟩
theorem and_y : bits .and .u64 10000000000000000000 4294967295 = 2313682944 := by
  rw [u64_and _ _ (by omega) (by omega) (by omega) (by omega)]; rfl
theorem or_lo (hi lo : Int) (hh : 0 ≤ hi) (hh' : hi < 10000000000000000000) (h0 : 0 ≤ lo) (h1 : lo ≤ 18446744073709551615) : bits .or .u64 hi (lo / 18446744073709551616) = hi := by
  have : lo / 18446744073709551616 = 0 := by omega
  rw [this, u64_or _ _ (by omega) (by omega) (by omega) (by omega)]
  simp; omega
theorem and_lo (lo : Int) (h0 : 0 ≤ lo) (h1 : lo ≤ 18446744073709551615) : bits .and .u64 lo 4294967295 = lo % 4294967296 := by
  rw [u64_and _ _ (by omega) (by omega) (by omega) (by omega), show (4294967295 : Int).toNat = 4294967295 from rfl, nat_mask32]; omega
theorem DigIn.out {u d q r : Int} (h : DigIn u d q r) : 0 ≤ q ∧ 0 ≤ r ∧ r < 4294967296 ∧ q ≤ 4294967298 := by unfold DigIn at h; omega
theorem DigIn.stop {u d q r : Int} (hu : 0 ≤ u) (hd : 0 ≤ d) (hd' : d < 4294967296) (h : DigIn u d q r) (hs : q * 2313682944 ≤ 4294967296 * r + d) : q = digOf u d := by
  unfold DigIn digOf at *; omega
theorem DigIn.next {u d q r : Int} (hu : 0 ≤ u) (hu' : u < 10000000000000000000) (hd : 0 ≤ d) (hd' : d < 4294967296) (h : DigIn u d q r) (hs : 4294967296 ≤ q ∨ 4294967296 * r + d < q * 2313682944) :
    0 ≤ q - 1 ∧ (r + 2328306436 < 4294967296 → DigIn u d (q - 1) (r + 2328306436)) ∧ (4294967296 ≤ r + 2328306436 → q - 1 = digOf u d) := by
  unfold DigIn digOf at *; omega
theorem DigIn.start' {u d : Int} (hu : 0 ≤ u) (hu' : u < 10000000000000000000) (hd : 0 ≤ d) (hd' : d < 4294967296) : DigIn u d (u / 2328306436) (u - u / 2328306436 * 2328306436) := by
  unfold DigIn; omega
theorem dig_bounds (u d : Int) (hu : 0 ≤ u) (hu' : u < 10000000000000000000) (hd : 0 ≤ d) (hd' : d < 4294967296) : 0 ≤ digOf u d ∧ digOf u d < 4294967296 ∧ 0 ≤ resOf u d ∧ resOf u d < 10000000000000000000 := by
  unfold digOf resOf; omega
theorem res_wrap (u d : Int) (hu : 0 ≤ u) (hu' : u < 10000000000000000000) (hd : 0 ≤ d) (hd' : d < 4294967296) :
    IntKind.u64.wrap (IntKind.u64.wrap (IntKind.u64.wrap (u * 4294967296) + d) - IntKind.u64.wrap (digOf u d * 10000000000000000000)) = resOf u d := by
  unfold digOf resOf
  simp only [IntKind.wrap_u64]
  omega
theorem two_digits (hi lo : Int) (h0 : 0 ≤ lo) (h1 : lo ≤ 18446744073709551615) : digOf hi (lo / 4294967296) * 4294967296 + digOf (resOf hi (lo / 4294967296)) (lo % 4294967296) = qd hi lo ∧ resOf (resOf hi (lo / 4294967296)) (lo % 4294967296) = rd hi lo := by
  unfold digOf resOf qd rd
  omega
theorem div_close (hi lo q : Int) (hu : 0 ≤ hi) (hu' : hi < 10000000000000000000) (h0 : 0 ≤ lo) (h1 : lo ≤ 18446744073709551615) (e : q = digOf (resOf hi (lo / 4294967296)) (lo % 4294967296)) :
    IntKind.u64.wrap (digOf hi (lo / 4294967296) * 4294967296 + q) = qd hi lo ∧ digOf hi (lo / 4294967296) * 4294967296 + q = qd hi lo ∧
    IntKind.u64.wrap (IntKind.u64.wrap (IntKind.u64.wrap (resOf hi (lo / 4294967296) * 4294967296) + lo % 4294967296) - IntKind.u64.wrap (q * 10000000000000000000)) = rd hi lo := by
  obtain ⟨t1, t2⟩ := two_digits hi lo h0 h1
  obtain ⟨g1, g2, g3, g4⟩ := dig_bounds hi (lo / 4294967296) hu hu' (by omega) (by omega)
  have g5 := dig_bounds (resOf hi (lo / 4294967296)) (lo % 4294967296) g3 g4 (by omega) (by omega)
  have r := res_wrap (resOf hi (lo / 4294967296)) (lo % 4294967296) g3 g4 (by omega) (by omega)
  rw [e, r, t2]
  refine ⟨?_, t1, rfl⟩
  rw [← t1, IntKind.wrap_u64]
  omega
set_option maxHeartbeats 2000000 in
theorem div64_high (hi lo : Int) (hh : 0 < hi) (hh' : hi < 10000000000000000000) (h0 : 0 ≤ lo) (h1 : lo ≤ 18446744073709551615) (w : World) :
    Calls Tryd.prog 60 #[.int .u64 hi, .int .u64 lo, .int .u64 10000000000000000000] w fun e w' => e = .returned (.tuple #[.int .u64 (qd hi lo), .int .u64 (rd hi lo)]) ∧ Below w.heap.size w w' := by
  have e1 := and_y
  have e2 := or_lo hi lo (by omega) hh' h0 h1
  have e3 := and_lo lo h0 h1
  have hu0 : 0 ≤ hi := by omega
  have hu1 := hh'
  have hd0 : 0 ≤ lo / 4294967296 := by omega
  have hd1 : lo / 4294967296 < 4294967296 := by omega
  go_enter Tryd.func60, Tryd.ntmps60
  go_wp2_with fail
  ((with_reducible refine (lz_y _).mono ?_); rintro e w1 ⟨rfl, rfl⟩)
  go_upto_block 0 with (fail)
  go_cut [15] (fun q wx => q = .int .u64 (digOf hi (lo / 4294967296)) ∧ wx = w1)
  case first =>
    go_wp2_with fail
    go_loop [15, 16] (fun q r => ∃ q' r' : Int, q = .int .u64 q' ∧ r = .int .u64 r' ∧ DigIn hi (lo / 4294967296) q' r') (fun q _ => (intOf q).toNat)
    case atStart => exact ⟨_, _, rfl, rfl, DigIn.start' hu0 hu1 hd0 hd1⟩
    case round =>
      obtain ⟨q, r, rfl, rfl, HI⟩ := hrel
      obtain ⟨b1, b2, b3, b4⟩ := HI.out
      by_cases hq : 4294967296 ≤ q
      · obtain ⟨n1, n2, n3⟩ := HI.next hu0 hu1 hd0 hd1 (Or.inl hq)
        have N2 := Lib.hid n2
        have N3 := Lib.hid n3
        clear n2 n3 HI
        by_cases hr : r + 2328306436 < 4294967296
        · go_wp2
          go_round
          case rel => exact ⟨_, _, rfl, rfl, N2.out hr⟩
          case measure => simp [intOf]; omega
        · have e := Lib.hid (N3.out (by omega))
          go_wp2
          go_meet
          case rel => exact ⟨by rw [e.out], rfl⟩
      · by_cases hc : 4294967296 * r + (lo / 4294967296) < q * 2313682944
        · obtain ⟨n1, n2, n3⟩ := HI.next hu0 hu1 hd0 hd1 (Or.inr hc)
          have N2 := Lib.hid n2
          have N3 := Lib.hid n3
          clear n2 n3 HI
          by_cases hr : r + 2328306436 < 4294967296
          · go_wp2
            go_round
            case rel => exact ⟨_, _, rfl, rfl, N2.out hr⟩
            case measure => simp [intOf]; omega
          · have e := Lib.hid (N3.out (by omega))
            go_wp2
            go_meet
            case rel => exact ⟨by rw [e.out], rfl⟩
        · have e := Lib.hid (HI.stop hu0 hd0 hd1 (by omega))
          clear HI
          go_wp2
          go_meet
          case rel => exact ⟨by rw [e.out], rfl⟩
  case rest =>
    obtain ⟨rfl, rfl⟩ := hcut
    have r1 := res_wrap hi (lo / 4294967296) hu0 hu1 hd0 hd1
    obtain ⟨g1, g2, g3, g4⟩ := dig_bounds hi (lo / 4294967296) hu0 hu1 hd0 hd1
    have hu0' := Lib.hid hu0
    have hu1' := Lib.hid hu1
    have hd0' := Lib.hid hd0
    have hd1' := Lib.hid hd1
    clear hu0 hu1 hd0 hd1
    have hu0 := g3
    have hu1 := g4
    have hd0 : 0 ≤ lo % 4294967296 := by omega
    have hd1 : lo % 4294967296 < 4294967296 := by omega
    go_wp2
    go_loop [18, 16] (fun q r => ∃ q' r' : Int, q = .int .u64 q' ∧ r = .int .u64 r' ∧ DigIn (resOf hi (lo / 4294967296)) (lo % 4294967296) q' r') (fun q _ => (intOf q).toNat)
    case atStart => exact ⟨_, _, rfl, rfl, DigIn.start' hu0 hu1 hd0 hd1⟩
    case round =>
      obtain ⟨q, r, rfl, rfl, HI⟩ := hrel
      obtain ⟨b1, b2, b3, b4⟩ := HI.out
      by_cases hq : 4294967296 ≤ q
      · obtain ⟨n1, n2, n3⟩ := HI.next hu0 hu1 hd0 hd1 (Or.inl hq)
        have N2 := Lib.hid n2
        have N3 := Lib.hid n3
        clear n2 n3 HI
        by_cases hr : r + 2328306436 < 4294967296
        · go_wp2
          go_round
          case rel => exact ⟨_, _, rfl, rfl, N2.out hr⟩
          case measure => simp [intOf]; omega
        · have e := Lib.hid (N3.out (by omega))
          go_wp2
          go_ret2
          obtain ⟨k1, k2, k3⟩ := div_close hi lo _ hu0'.out hu1'.out h0 h1 e.out
          refine ⟨?_, by (repeat' (first | (with_reducible exact Below.refl _ _) | (with_reducible assumption) | (with_reducible refine below_alloc ?_ _) | (with_reducible refine Below.drew ?_) | (with_reducible refine Below.setCell ?_ ?_ _) | (with_reducible refine below_after ?_ (by assumption)) | go_size))⟩
          first | (rw [k1, k3]; rfl) | (rw [k2, k3]; rfl)
      · by_cases hc : 4294967296 * r + (lo % 4294967296) < q * 2313682944
        · obtain ⟨n1, n2, n3⟩ := HI.next hu0 hu1 hd0 hd1 (Or.inr hc)
          have N2 := Lib.hid n2
          have N3 := Lib.hid n3
          clear n2 n3 HI
          by_cases hr : r + 2328306436 < 4294967296
          · go_wp2
            go_round
            case rel => exact ⟨_, _, rfl, rfl, N2.out hr⟩
            case measure => simp [intOf]; omega
          · have e := Lib.hid (N3.out (by omega))
            go_wp2
            go_ret2
            obtain ⟨k1, k2, k3⟩ := div_close hi lo _ hu0'.out hu1'.out h0 h1 e.out
            refine ⟨?_, by (repeat' (first | (with_reducible exact Below.refl _ _) | (with_reducible assumption) | (with_reducible refine below_alloc ?_ _) | (with_reducible refine Below.drew ?_) | (with_reducible refine Below.setCell ?_ ?_ _) | (with_reducible refine below_after ?_ (by assumption)) | go_size))⟩
            first | (rw [k1, k3]; rfl) | (rw [k2, k3]; rfl)
        · have e := Lib.hid (HI.stop hu0 hd0 hd1 (by omega))
          clear HI
          go_wp2
          go_ret2
          obtain ⟨k1, k2, k3⟩ := div_close hi lo _ hu0'.out hu1'.out h0 h1 e.out
          refine ⟨?_, by (repeat' (first | (with_reducible exact Below.refl _ _) | (with_reducible assumption) | (with_reducible refine below_alloc ?_ _) | (with_reducible refine Below.drew ?_) | (with_reducible refine Below.setCell ?_ ?_ _) | (with_reducible refine below_after ?_ (by assumption)) | go_size))⟩
          first | (rw [k1, k3]; rfl) | (rw [k2, k3]; rfl)
/-- math/bits.Div64 at 10^19. -/
theorem div64_any (hi lo : Int) (hh : 0 ≤ hi) (hh' : hi < 10000000000000000000) (h0 : 0 ≤ lo) (h1 : lo ≤ 18446744073709551615) (w : World) :
    Calls Tryd.prog 60 #[.int .u64 hi, .int .u64 lo, .int .u64 10000000000000000000] w fun e w' => e = .returned (.tuple #[.int .u64 (qd hi lo), .int .u64 (rd hi lo)]) ∧ Below w.heap.size w w' := by
  by_cases h : hi = 0
  · subst h; exact div64_low lo h0 h1 w
  · exact div64_high hi lo (by omega) hh' h0 h1 w
end Go.Proofs.YtnbdccobfmlhbaaDoor
