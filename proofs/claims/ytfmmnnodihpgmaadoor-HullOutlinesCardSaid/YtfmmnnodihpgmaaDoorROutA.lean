/-
  The reference's Outline: what its parts return, and where a height is refused.
-/
import Derived.Test.YtfmmnnodihpgmaaDoorPackD
import Derived.Test.YtfmmnnodihpgmaaDoorOutA
namespace Go.Proofs.YtfmmnnodihpgmaaDoor
set_option linter.all false
open Go Go.RowKit Wd
set_option maxRecDepth 100000
theorem rgt_stn (X Z : List Int) (H : List (List Int)) (z : Int) : stn X Z H 0 z = rgt X Z H z := by
  unfold stn
  split
  · rename_i h
    rw [out_in (by omega) (by have := (chk_fine (rgt_fine h).1).x2; omega), if_neg (by simp), h]
  · rfl
set_option maxHeartbeats 1000000 in
theorem rOutline_bad (ax az ah : Option Addr) (cx cz ch : Nat) (A : Nat → Option Addr) (C : Nat → Nat) (X Z : List Int) (H : List (List Int)) (z : Int) (hs : rgt X Z H z ≠ 0) (w : World) (hf : Frm w ax az ah A C X Z H) :
    Calls Tryd.prog 18 #[.agg #[.slice ax X.length cx, .slice az Z.length cz, .slice ah H.length ch], .int .i64 z] w fun e w' => e = .returned (.tuple #[.slice none 0 0, .slice none 0 0, .int .i64 (rgt X Z H z)]) ∧ Below w.heap.size w w' := by
  have K1 := fun W hF => rright_any ax az ah cx cz ch A C X Z H 0 z W hF
  rw [rgt_stn] at K1
  have K := Lib.hid K1
  clear K1
  generalize rgt X Z H z = r at *
  have HF := Lib.hid hf
  clear hf
  go_enter Tryd.func18, Tryd.ntmps18
  go_wp2_with fail
  ((with_reducible refine (K.out _ (HF.out.later (by (repeat' (first | (with_reducible exact Below.refl _ _) | (with_reducible assumption) | (with_reducible refine below_alloc ?_ _) | (with_reducible refine Below.drew ?_) | (with_reducible refine Below.setCell ?_ ?_ _) | (with_reducible refine below_after ?_ (by assumption)) | go_size))))).mono ?_); rintro e w1 ⟨rfl, hb1⟩)
  obtain ⟨hc1, hf1⟩ := bcell hb1
  have hz1_w_0 : w.heap.size < w1.heap.size := by have h := hb1.size; (try simp at h); omega
  go_wp2_with ((with_reducible show bodyPost _ _ _ _ _ _); refine bodyPost_ret (by simp [results, Tryd.results18, go_sem, ]; try rfl) rfl ?_; exact ⟨rfl, by (repeat' (first | (with_reducible exact Below.refl _ _) | (with_reducible assumption) | (with_reducible refine below_alloc ?_ _) | (with_reducible refine Below.drew ?_) | (with_reducible refine Below.setCell ?_ ?_ _) | (with_reducible refine below_after ?_ (by assumption)) | go_size))⟩)
theorem between_is (ax ah : Option Addr) (bz oz : Nat) (cx cz ch : Nat) (nx nz nh k : Nat) (z a b z0 z1 n d : Int) (h0 : 0 ≤ z0) (h01 : z0 < z1) (h1 : z1 ≤ 4096) (hz : z0 ≤ z) (hz' : z ≤ z1) (ha : 0 ≤ a) (ha' : a ≤ 32768) (hb : 0 ≤ b) (hb' : b ≤ 32768) (hk : k + 1 < nz) (hn : nz ≤ 16)
    (hn0 : 0 ≤ n) (hn1 : n ≤ 4611686018427387904) (hd0 : 0 < d) (hd1 : d ≤ 4611686018427387904) (hc : (a * (z1 - z) + b * (z - z0)) * d = n * (z1 - z0))
    (w : World) (hbz : bz < w.heap.size) (c0 : w.cell? ⟨bz, oz + k, none⟩ = some (.int .i64 z0)) (c1 : w.cell? ⟨bz, oz + (k + 1), none⟩ = some (.int .i64 z1)) :
    Calls Tryd.prog 42 #[.agg #[.slice ax nx cx, .slice (some ⟨bz, oz, none⟩) nz cz, .slice ah nh ch], .int .i64 (k : Int), .int .i64 z, .int .i64 a, .int .i64 b] w fun e w' => e = .returned (.agg #[.bool (zs (rn n d)), .int .u64 (wd (Int.natAbs (rn n d)) 0), .int .u64 (wd (Int.natAbs (rn n d)) 1), .int .u64 (wd (Int.natAbs (rn n d)) 2), .int .u64 (wd (Int.natAbs (rn n d)) 3), .bool (zs (rd n d)), .int .u64 (wd (Int.natAbs (rd n d)) 0), .int .u64 (wd (Int.natAbs (rd n d)) 1), .int .u64 (wd (Int.natAbs (rd n d)) 2), .int .u64 (wd (Int.natAbs (rd n d)) 3)]) ∧ Below w.heap.size w w' := by
  have K := between_any ax ah bz oz cx cz ch nx nz nh k z a b z0 z1 h0 h01 h1 hz hz' ha ha' hb hb' hk hn w hbz c0 c1
  have p1 : 0 ≤ a * (z1 - z) := Int.mul_nonneg ha (by omega)
  have p2 : 0 ≤ b * (z - z0) := Int.mul_nonneg hb (by omega)
  obtain ⟨n', rfl⟩ := Int.eq_ofNat_of_zero_le hn0
  obtain ⟨d', rfl⟩ := Int.eq_ofNat_of_zero_le (Int.le_of_lt hd0)
  obtain ⟨N, hN⟩ : ∃ N : Nat, a * (z1 - z) + b * (z - z0) = (N : Int) := Int.eq_ofNat_of_zero_le (by omega)
  obtain ⟨D, hD⟩ : ∃ D : Nat, z1 - z0 = (D : Int) := Int.eq_ofNat_of_zero_le (by omega)
  rw [hN, hD, Int.toNat_natCast, Int.toNat_natCast] at K
  rw [hN, hD] at hc
  have hcr : N * d' = n' * D := by exact_mod_cast hc
  have he := red_eq (by omega : 0 < D) (by omega : 0 < d') hcr
  rw [he.1, he.2] at K
  have q1 := rnN_le n' d'
  have q2 := rdN_le n' d'
  rw [rn_nat, rd_nat, r_small (by omega) (by omega)]
  exact K
end Go.Proofs.YtfmmnnodihpgmaaDoor
