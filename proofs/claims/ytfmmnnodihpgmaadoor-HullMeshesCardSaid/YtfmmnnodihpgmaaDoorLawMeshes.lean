/-
  HullMeshes: the walk of the law: for any form it returns true.
-/
import Derived.Test.YtfmmnnodihpgmaaDoorHAwD
import Derived.Test.YtfmmnnodihpgmaaDoorMeshQ
import Derived.Test.YtfmmnnodihpgmaaDoorMeshS
namespace Go.Proofs.YtfmmnnodihpgmaaDoor
set_option linter.all false
open Go Go.RowKit Wd
set_option maxRecDepth 100000
set_option maxHeartbeats 2000000 in
theorem msame_nil (w : World) : Calls Tryd.prog 22 #[.agg #[.slice none 0 0, .slice none 0 0], .agg #[.slice none 0 0, .slice none 0 0]] w fun e w' => e = .returned (.bool true) ∧ Below w.heap.size w w' := by
  go_enter Tryd.func22, Tryd.ntmps22
  go_wp2
  go_loopw [5] (fun i wr => i = .int .i64 0 ∧ wr = (w.alloc (.cells #[.slice none 0 0, .slice none 0 0] 47)).alloc (.cells #[.slice none 0 0, .slice none 0 0] 47)) (fun i _ => 0)
  case atStart => exact ⟨rfl, rfl⟩
  case round =>
    obtain ⟨rfl, rfl⟩ := hrel
    go_wp2
    go_loopw [6] (fun i wr => i = .int .i64 0 ∧ wr = (w.alloc (.cells #[.slice none 0 0, .slice none 0 0] 47)).alloc (.cells #[.slice none 0 0, .slice none 0 0] 47)) (fun i _ => 0)
    case atStart => exact ⟨rfl, rfl⟩
    case round =>
      obtain ⟨rfl, rfl⟩ := hrel
      go_wp2
      go_returns
      exact ⟨rfl, by (repeat' (first | (with_reducible exact Below.refl _ _) | (with_reducible assumption) | (with_reducible refine below_alloc ?_ _) | (with_reducible refine Below.drew ?_) | (with_reducible refine Below.setCell ?_ ?_ _) | (with_reducible refine below_after ?_ (by assumption)) | go_size))⟩
theorem sideP_len (X Z : List Int) (H : List (List Int)) (s : Int) : ∀ i, (sideP X Z H s i).length = 3 * (i * Z.length)
  | 0 => by rw [sideP_zero]; simp
  | i + 1 => by rw [sideP_succ, List.length_append, sideP_len X Z H s i, rowP_len, Nat.add_mul]; omega
theorem ptsP_pos (X Z : List Int) (H : List (List Int)) (hx : 0 < X.length) (hz : 0 < Z.length) : 0 < (ptsP X Z H 2).length := by
  rw [show (2 : Nat) = 1 + 1 from rfl, ptsP_succ, List.length_append]
  have := sideP_pos X Z H (sg 1) hx hz
  omega
theorem ptsP_int (X Z : List Int) (H : List (List Int)) : ∀ t, ∀ u ∈ ptsP X Z H t, ∃ z, u = .int .i64 z
  | 0 => by rw [ptsP_zero]; simp
  | t + 1 => by
    rw [ptsP_succ]
    intro u hu
    rcases List.mem_append.1 hu with h | h
    · exact ptsP_int X Z H t u h
    · exact sideP_int X Z H _ _ u h
theorem face4_int (n m : Nat) (i k : Int) : ∀ u ∈ face4 n m i k, ∃ z, u = .int .i64 z := by
  unfold face4 iv
  intro u hu
  rw [← List.map_append] at hu
  obtain ⟨z, -, rfl⟩ := List.mem_map.1 hu
  exact ⟨z, rfl⟩
theorem faces_int (n m a b c : Nat) : ∀ u ∈ sidesF n m a ++ flatsF n m b ++ endsF n m c, ∃ z, u = .int .i64 z := by
  intro u hu
  rcases List.mem_append.1 hu with h | h
  · rcases List.mem_append.1 h with h | h
    · unfold sidesF at h
      obtain ⟨i, -, h⟩ := List.mem_flatMap.1 h
      unfold innerF at h
      obtain ⟨k, -, h⟩ := List.mem_flatMap.1 h
      exact face4_int _ _ _ _ u h
    · unfold flatsF at h
      obtain ⟨i, -, h⟩ := List.mem_flatMap.1 h
      unfold flatsF1 at h
      simp at h
      rcases h with h | h | h | h | h | h | h | h | h | h | h | h <;> exact ⟨_, h⟩
  · unfold endsF at h
    obtain ⟨i, -, h⟩ := List.mem_flatMap.1 h
    unfold endsF1 at h
    simp at h
    rcases h with h | h | h | h | h | h | h | h | h | h | h | h <;> exact ⟨_, h⟩
theorem flats_pos (n m : Nat) (hn : 2 ≤ n) : 0 < (flatsF n m (n - 1)).length := by
  obtain ⟨k, hk⟩ : ∃ k, n - 1 = k + 1 := ⟨n - 2, by omega⟩
  rw [hk, flatsF_succ, List.length_append]
  unfold flatsF1
  simp
theorem innerF_len (n m i : Nat) : ∀ k, (innerF n m i k).length = 12 * k
  | 0 => by rw [innerF_zero]; rfl
  | k + 1 => by rw [innerF_succ, List.length_append, innerF_len n m i k]; unfold face4 iv; simp; omega
theorem sidesF_len (n m : Nat) : ∀ i, (sidesF n m i).length = 12 * (i * (m - 1))
  | 0 => by rw [sidesF_zero]; simp
  | i + 1 => by rw [sidesF_succ, List.length_append, sidesF_len n m i, innerF_len, Nat.add_mul]; omega
theorem flatsF_len (n m : Nat) : ∀ i, (flatsF n m i).length = 12 * i
  | 0 => by rw [flatsF_zero]; rfl
  | i + 1 => by rw [flatsF_succ, List.length_append, flatsF_len n m i]; unfold flatsF1; simp; omega
theorem endsF_len (n m : Nat) : ∀ i, (endsF n m i).length = 12 * i
  | 0 => by rw [endsF_zero]; rfl
  | i + 1 => by rw [endsF_succ, List.length_append, endsF_len n m i]; unfold endsF1; simp; omega
theorem faces_len (n m : Nat) (hn : n ≤ 24) (hm : m ≤ 16) : (sidesF n m (n - 1) ++ flatsF n m (n - 1) ++ endsF n m (m - 1)).length ≤ 6000 := by
  rw [List.length_append, List.length_append, sidesF_len, flatsF_len, endsF_len]
  have := Nat.mul_le_mul (show n - 1 ≤ 23 by omega) (show m - 1 ≤ 15 by omega)
  omega
set_option maxHeartbeats 4000000 in
theorem meshes_any (ax az ah : Option Addr) (cx cz ch : Nat) (A : Nat → Option Addr) (C : Nat → Nat) (X Z : List Int) (H : List (List Int)) (hx : X.length ≤ 9223372036854775807) (_hz : Z.length ≤ 9223372036854775807) (w : World) (hf : Frm w ax az ah A C X Z H) (hT : Tab64 w) :
    Calls Tryd.prog 6 #[.agg #[.slice ax X.length cx, .slice az Z.length cz, .slice ah H.length ch]] w fun e w' => e = .returned (.bool true) ∧ Below w.heap.size w w' := by
  have HT := Lib.hid hT
  have HF := Lib.hid hf
  rcases (by cases lightB X Z H <;> simp : lightB X Z H = true ∨ lightB X Z H = false) with hl | hl
  · have HL := Lib.hid (show ∀ W : World, Frm W ax az ah A C X Z H → Calls Tryd.prog 9 #[.agg #[.slice ax X.length cx, .slice az Z.length cz, .slice ah H.length ch]] W fun e w' => e = .returned (.bool true) ∧ Below W.heap.size W w' from by rw [← hl]; exact fun W h => light_any ax az ah cx cz ch A C X Z H hx W h)
    by_cases hs : chk X Z H = 0
    · have MA := Lib.hid (fun W hF => Mesh_ok ax az ah cx cz ch A C X Z H hs W hF)
      have MB := Lib.hid (fun W hF => rMesh_ok ax az ah cx cz ch A C X Z H hs W hF)
      have hv := chk_fine hs
      have x2 := hv.x2
      have z2 := hv.z2
      have x24 := hv.x24
      have z16 := hv.z16
      have PP := Lib.hid (ptsP_pos X Z H (by omega) (by omega))
      have PL := Lib.hid (show (ptsP X Z H 2).length ≤ 3000 from by
        rw [show (2 : Nat) = 0 + 1 + 1 from rfl, ptsP_succ, ptsP_succ, ptsP_zero, List.nil_append, List.length_append, sideP_len, sideP_len]
        have := Nat.mul_le_mul x24 z16
        omega)
      have PI := Lib.hid (ptsP_int X Z H 2)
      have FP := Lib.hid (show 0 < (sidesF X.length Z.length (X.length - 1) ++ flatsF X.length Z.length (X.length - 1) ++ endsF X.length Z.length (Z.length - 1)).length from by
        rw [List.length_append, List.length_append]; have := flats_pos X.length Z.length x2; omega)
      have FI := Lib.hid (faces_int X.length Z.length (X.length - 1) (X.length - 1) (Z.length - 1))
      have FL := Lib.hid (faces_len X.length Z.length x24 z16)
      generalize ptsP X Z H 2 = ps at *
      generalize sidesF X.length Z.length (X.length - 1) ++ flatsF X.length Z.length (X.length - 1) ++ endsF X.length Z.length (Z.length - 1) = fs at *
      clear hT hf hl hx hv x2 z2 x24 z16 hs
      go_enter Tryd.func6, Tryd.ntmps6
      go_wp2_with fail
      ((with_reducible refine (HL.out _ (HF.out.later (by (repeat' (first | (with_reducible exact Below.refl _ _) | (with_reducible assumption) | (with_reducible refine below_alloc ?_ _) | (with_reducible refine Below.drew ?_) | (with_reducible refine Below.setCell ?_ ?_ _) | (with_reducible refine below_after ?_ (by assumption)) | go_size))))).mono ?_); rintro e w1 ⟨rfl, hb1⟩)
      obtain ⟨hc1, hf1⟩ := bcell hb1
      have hz1_w_0 : w.heap.size < w1.heap.size := by have h := hb1.size; (try simp at h); omega
      go_upto_region 3 with (fail)
      refine wp_world (fun x => (∀ o, x.cell? ⟨w.heap.size, o, none⟩ = (#[.slice ax X.length cx, .slice az Z.length cz, .slice ah H.length ch] : Array Value)[o]?) ∧ (∀ o, x.frozen? ⟨w.heap.size, o, none⟩ = false) ∧ w.heap.size < x.heap.size ∧ Below w.heap.size w x) ⟨fun o => by simp [go_sem, hc1, hf1, hz1_w_0], fun o => by simp [go_sem, hc1, hf1, hz1_w_0], by (first | omega | (simp [go_sem, hc1, hf1, hz1_w_0]; done) | (simp [go_sem, hc1, hf1, hz1_w_0]; omega)), by (repeat' (first | (with_reducible exact Below.refl _ _) | (with_reducible assumption) | (with_reducible refine below_alloc ?_ _) | (with_reducible refine Below.drew ?_) | (with_reducible refine Below.setCell ?_ ?_ _) | (with_reducible refine below_after ?_ (by assumption)) | go_size))⟩ ?_
      rintro G ⟨hGc0, hGf0, hGz0, hGb⟩
      clear hb1 hc1 hf1
      go_wp2_with fail
      ((with_reducible refine (MA.out _ (HF.out.later (by (repeat' (first | (with_reducible exact Below.refl _ _) | (with_reducible assumption) | (with_reducible refine below_alloc ?_ _) | (with_reducible refine Below.drew ?_) | (with_reducible refine Below.setCell ?_ ?_ _) | (with_reducible refine below_after ?_ (by assumption)) | go_size))))).mono ?_); rintro e w2 ⟨pv, fv, np, nf, rfl, hb2, op, of⟩)
      have hnp : np ≤ 1000 := by have h1 := op.1; have h2 := PL.out; omega
      have hnf : nf ≤ 2000 := by have h1 := of.1; have h2 := FL.out; omega
      obtain ⟨g1, c1, rfl, l1, e1, r1⟩ := own_row op PP.out PI.out
      obtain ⟨h1, d1, rfl, l2, e2, r2⟩ := own_row of FP.out FI.out
      have hGc : ∀ o, w2.cell? ⟨w.heap.size, o, none⟩ = (#[.slice ax X.length cx, .slice az Z.length cz, .slice ah H.length ch] : Array Value)[o]? := keep_cell hb2 hGz0 hGc0
      have hGz := keep_lt hb2 hGz0
      have R1 := Lib.hid r1
      have R2 := Lib.hid r2
      clear op of r1 r2 hGc0 hGf0
      go_upto_region 4 with (fail)
      refine wp_world (fun x => (∀ o, x.cell? ⟨w.heap.size, o, none⟩ = (#[.slice ax X.length cx, .slice az Z.length cz, .slice ah H.length ch] : Array Value)[o]?) ∧ (∀ o, x.cell? ⟨w2.heap.size, o, none⟩ = (#[.slice (some ⟨g1, 0, none⟩) np c1, .slice (some ⟨h1, 0, none⟩) nf d1] : Array Value)[o]?) ∧ w.heap.size < x.heap.size ∧ w2.heap.size < x.heap.size ∧ g1 < x.heap.size ∧ h1 < x.heap.size ∧ RowI x g1 (np * 3) (fun j => intOf (ps.getD j (.int .i64 0))) ∧ RowI x h1 (nf * 3) (fun j => intOf (fs.getD j (.int .i64 0))) ∧ Below w.heap.size w x)
        ⟨fun o => by simp [go_sem, hGc, hGz], fun o => by simp [go_sem], by simp; omega, by simp, by simp; omega, by simp; omega, fun j hj => (World.cell?_alloc_past _ _ _ l1).trans (R1.out j hj), fun j hj => (World.cell?_alloc_past _ _ _ l2).trans (R2.out j hj), by (repeat' (first | (with_reducible exact Below.refl _ _) | (with_reducible assumption) | (with_reducible refine below_alloc ?_ _) | (with_reducible refine Below.drew ?_) | (with_reducible refine Below.setCell ?_ ?_ _) | (with_reducible refine below_after ?_ (by assumption)) | go_size))⟩ ?_
      rintro E ⟨k0, k1, y0, y1, y2, y3, s1, s2, hE⟩
      have S1 := Lib.hid s1
      have S2 := Lib.hid s2
      clear hGc hGz s1 s2 R1 R2
      go_wp2_with fail
      ((with_reducible refine (MB.out _ (HF.out.later (by (repeat' (first | (with_reducible exact Below.refl _ _) | (with_reducible assumption) | (with_reducible refine below_alloc ?_ _) | (with_reducible refine Below.drew ?_) | (with_reducible refine Below.setCell ?_ ?_ _) | (with_reducible refine below_after ?_ (by assumption)) | go_size))))).mono ?_); rintro e w3 ⟨pv, fv, np', nf', rfl, hb3, op, of⟩)
      obtain ⟨g2, c2, rfl, l3, e3, r3⟩ := own_row op PP.out PI.out
      obtain ⟨h2, d2, rfl, l4, e4, r4⟩ := own_row of FP.out FI.out
      obtain rfl : np' = np := by omega
      obtain rfl : nf' = nf := by omega
      have q1 : ∀ o, w3.cell? ⟨w2.heap.size, o, none⟩ = (#[.slice (some ⟨g1, 0, none⟩) np' c1, .slice (some ⟨h1, 0, none⟩) nf' d1] : Array Value)[o]? := keep_cell hb3 y1 k1
      have z1 := keep_lt hb3 y1
      have R3 := Lib.hid r3
      have R4 := Lib.hid r4
      have S3 := Lib.hid (show RowI w3 g1 (np' * 3) (fun j => intOf (ps.getD j (.int .i64 0))) from fun j hj => (hb3.cell (p := ⟨g1, j, none⟩) y2).trans (S1.out j hj))
      have S4 := Lib.hid (show RowI w3 h1 (nf' * 3) (fun j => intOf (fs.getD j (.int .i64 0))) from fun j hj => (hb3.cell (p := ⟨h1, j, none⟩) y3).trans (S2.out j hj))
      have y4 := keep_lt hb3 y2
      have y5 := keep_lt hb3 y3
      clear op of r3 r4 S1 S2 k0 k1
      go_upto_region 5 with (fail)
      refine wp_world (fun x => (∀ o, x.cell? ⟨w2.heap.size, o, none⟩ = (#[.slice (some ⟨g1, 0, none⟩) np' c1, .slice (some ⟨h1, 0, none⟩) nf' d1] : Array Value)[o]?) ∧ (∀ o, x.cell? ⟨w3.heap.size, o, none⟩ = (#[.slice (some ⟨g2, 0, none⟩) np' c2, .slice (some ⟨h2, 0, none⟩) nf' d2] : Array Value)[o]?) ∧ w2.heap.size < x.heap.size ∧ w3.heap.size < x.heap.size ∧ Hid ((g1 < x.heap.size ∧ h1 < x.heap.size ∧ g2 < x.heap.size ∧ h2 < x.heap.size) ∧ RowI x g1 (np' * 3) (fun j => intOf (ps.getD j (.int .i64 0))) ∧ RowI x h1 (nf' * 3) (fun j => intOf (fs.getD j (.int .i64 0))) ∧ RowI x g2 (np' * 3) (fun j => intOf (ps.getD j (.int .i64 0))) ∧ RowI x h2 (nf' * 3) (fun j => intOf (fs.getD j (.int .i64 0)))) ∧ Below w.heap.size w x)
        ⟨fun o => by simp [go_sem, q1, z1], fun o => by simp [go_sem], by simp; omega, by simp, Lib.hid ⟨⟨by simp; omega, by simp; omega, by simp; omega, by simp; omega⟩, fun j hj => (World.cell?_alloc_past _ _ _ y4).trans (S3.out j hj), fun j hj => (World.cell?_alloc_past _ _ _ y5).trans (S4.out j hj), fun j hj => (World.cell?_alloc_past _ _ _ l3).trans (R3.out j hj), fun j hj => (World.cell?_alloc_past _ _ _ l4).trans (R4.out j hj)⟩, by (repeat' (first | (with_reducible exact Below.refl _ _) | (with_reducible assumption) | (with_reducible refine below_alloc ?_ _) | (with_reducible refine Below.drew ?_) | (with_reducible refine Below.setCell ?_ ?_ _) | (with_reducible refine below_after ?_ (by assumption)) | go_size))⟩ ?_
      rintro F ⟨k1, k2, x1, x2, HS, hF⟩
      clear q1 z1 R3 R4 S3 S4 y0 y1 y2 y3 y4 y5 l1 l2 l3 l4 hE
      go_wp2_with fail
      ((with_reducible refine (msame_true g1 g2 h1 h2 np' nf' c1 c2 d1 d2 _ _ (by omega) (by omega) _ HS.out.2.1 HS.out.2.2.2.1 HS.out.2.2.1 HS.out.2.2.2.2 HS.out.1.1 HS.out.1.2.2.1 HS.out.1.2.1 HS.out.1.2.2.2).mono ?_); rintro e w4 ⟨rfl, hb4⟩)
      have hW4 : Below w.heap.size w w4 := hF.trans (hb4.mono hF.size)
      clear HS k1 k2 x1 x2 hb4 hF
      go_wp2_with fail
      ((with_reducible refine (awake54 _ (HT.out.later (by (repeat' (first | (with_reducible exact Below.refl _ _) | (with_reducible assumption) | (with_reducible refine below_alloc ?_ _) | (with_reducible refine Below.drew ?_) | (with_reducible refine Below.setCell ?_ ?_ _) | (with_reducible refine below_after ?_ (by assumption)) | go_size))))).mono ?_); rintro e w5 ⟨rfl, hb5⟩)
      go_wp2
      go_returns
      exact ⟨rfl, by (repeat' (first | (with_reducible exact Below.refl _ _) | (with_reducible assumption) | (with_reducible refine below_alloc ?_ _) | (with_reducible refine Below.drew ?_) | (with_reducible refine Below.setCell ?_ ?_ _) | (with_reducible refine below_after ?_ (by assumption)) | go_size))⟩
    · have MA := Lib.hid (fun W hF => Mesh_bad ax az ah cx cz ch A C X Z H hs W hF)
      have MB := Lib.hid (fun W hF => rMesh_bad ax az ah cx cz ch A C X Z H hs W hF)
      generalize chk X Z H = c at *
      clear hT hf hl hx hs
      go_enter Tryd.func6, Tryd.ntmps6
      go_wp2_with fail
      ((with_reducible refine (HL.out _ (HF.out.later (by (repeat' (first | (with_reducible exact Below.refl _ _) | (with_reducible assumption) | (with_reducible refine below_alloc ?_ _) | (with_reducible refine Below.drew ?_) | (with_reducible refine Below.setCell ?_ ?_ _) | (with_reducible refine below_after ?_ (by assumption)) | go_size))))).mono ?_); rintro e w1 ⟨rfl, hb1⟩)
      obtain ⟨hc1, hf1⟩ := bcell hb1
      have hz1_w_0 : w.heap.size < w1.heap.size := by have h := hb1.size; (try simp at h); omega
      go_upto_region 3 with (fail)
      refine wp_world (fun x => (∀ o, x.cell? ⟨w.heap.size, o, none⟩ = (#[.slice ax X.length cx, .slice az Z.length cz, .slice ah H.length ch] : Array Value)[o]?) ∧ (∀ o, x.frozen? ⟨w.heap.size, o, none⟩ = false) ∧ w.heap.size < x.heap.size ∧ Below w.heap.size w x) ⟨fun o => by simp [go_sem, hc1, hf1, hz1_w_0], fun o => by simp [go_sem, hc1, hf1, hz1_w_0], by (first | omega | (simp [go_sem, hc1, hf1, hz1_w_0]; done) | (simp [go_sem, hc1, hf1, hz1_w_0]; omega)), by (repeat' (first | (with_reducible exact Below.refl _ _) | (with_reducible assumption) | (with_reducible refine below_alloc ?_ _) | (with_reducible refine Below.drew ?_) | (with_reducible refine Below.setCell ?_ ?_ _) | (with_reducible refine below_after ?_ (by assumption)) | go_size))⟩ ?_
      rintro G ⟨hGc0, hGf0, hGz0, hGb⟩
      clear hb1 hc1 hf1
      go_wp2_with fail
      ((with_reducible refine (MA.out _ (HF.out.later (by (repeat' (first | (with_reducible exact Below.refl _ _) | (with_reducible assumption) | (with_reducible refine below_alloc ?_ _) | (with_reducible refine Below.drew ?_) | (with_reducible refine Below.setCell ?_ ?_ _) | (with_reducible refine below_after ?_ (by assumption)) | go_size))))).mono ?_); rintro e w2 ⟨rfl, hb2⟩)
      have hk2 : Kp G.heap.size [] G w2 := (by (repeat (first | (with_reducible assumption) | (with_reducible exact Kp.refl (Nat.le_refl _)) | (with_reducible refine Kp.drew ?_) | (with_reducible refine Kp.alloc ?_ _) | ((with_reducible refine Kp.put ?_ ?_ _); focus (first | (left; go_size; done) | (right; simp; done))) | ((with_reducible apply Kp.later); (with_reducible assumption)))))
      have h2c0 := fun o => (hk2.cell _ o hGz0 (by simp)).trans (hGc0 o)
      have h2f0 := fun o => (hk2.froz _ o hGz0).trans (hGf0 o)
      have h2z0 := Nat.lt_of_lt_of_le hGz0 hk2.size
      go_upto_region 4 with (fail)
      refine wp_world (fun x => (∀ o, x.cell? ⟨w.heap.size, o, none⟩ = (#[.slice ax X.length cx, .slice az Z.length cz, .slice ah H.length ch] : Array Value)[o]?) ∧ (∀ o, x.cell? ⟨w2.heap.size, o, none⟩ = (#[.slice none 0 0, .slice none 0 0] : Array Value)[o]?) ∧ (∀ o, x.frozen? ⟨w.heap.size, o, none⟩ = false) ∧ (∀ o, x.frozen? ⟨w2.heap.size, o, none⟩ = false) ∧ w.heap.size < x.heap.size ∧ w2.heap.size < x.heap.size ∧ Below w.heap.size w x) ⟨fun o => by simp [go_sem, h2c0, h2f0, h2z0], fun o => by simp [go_sem, h2c0, h2f0, h2z0], fun o => by simp [go_sem, h2c0, h2f0, h2z0], fun o => by simp [go_sem, h2c0, h2f0, h2z0], by (first | omega | (simp [go_sem, h2c0, h2f0, h2z0]; done) | (simp [go_sem, h2c0, h2f0, h2z0]; omega)), by (first | omega | (simp [go_sem, h2c0, h2f0, h2z0]; done) | (simp [go_sem, h2c0, h2f0, h2z0]; omega)), by (repeat' (first | (with_reducible exact Below.refl _ _) | (with_reducible assumption) | (with_reducible refine below_alloc ?_ _) | (with_reducible refine Below.drew ?_) | (with_reducible refine Below.setCell ?_ ?_ _) | (with_reducible refine below_after ?_ (by assumption)) | go_size))⟩ ?_
      rintro E ⟨hEc0, hEc1, hEf0, hEf1, hEz0, hEz1, hEb⟩
      go_wp2_with fail
      ((with_reducible refine (MB.out _ (HF.out.later (by (repeat' (first | (with_reducible exact Below.refl _ _) | (with_reducible assumption) | (with_reducible refine below_alloc ?_ _) | (with_reducible refine Below.drew ?_) | (with_reducible refine Below.setCell ?_ ?_ _) | (with_reducible refine below_after ?_ (by assumption)) | go_size))))).mono ?_); rintro e w3 ⟨rfl, hb3⟩)
      have hk3 : Kp E.heap.size [] E w3 := (by (repeat (first | (with_reducible assumption) | (with_reducible exact Kp.refl (Nat.le_refl _)) | (with_reducible refine Kp.drew ?_) | (with_reducible refine Kp.alloc ?_ _) | ((with_reducible refine Kp.put ?_ ?_ _); focus (first | (left; go_size; done) | (right; simp; done))) | ((with_reducible apply Kp.later); (with_reducible assumption)))))
      have h3c0 := fun o => (hk3.cell _ o hEz0 (by simp)).trans (hEc0 o)
      have h3f0 := fun o => (hk3.froz _ o hEz0).trans (hEf0 o)
      have h3z0 := Nat.lt_of_lt_of_le hEz0 hk3.size
      have h3c1 := fun o => (hk3.cell _ o hEz1 (by simp)).trans (hEc1 o)
      have h3f1 := fun o => (hk3.froz _ o hEz1).trans (hEf1 o)
      have h3z1 := Nat.lt_of_lt_of_le hEz1 hk3.size
      go_upto_region 5 with (fail)
      refine wp_world (fun x => (∀ o, x.cell? ⟨w2.heap.size, o, none⟩ = (#[.slice none 0 0, .slice none 0 0] : Array Value)[o]?) ∧ (∀ o, x.cell? ⟨w3.heap.size, o, none⟩ = (#[.slice none 0 0, .slice none 0 0] : Array Value)[o]?) ∧ (∀ o, x.frozen? ⟨w2.heap.size, o, none⟩ = false) ∧ (∀ o, x.frozen? ⟨w3.heap.size, o, none⟩ = false) ∧ w2.heap.size < x.heap.size ∧ w3.heap.size < x.heap.size ∧ Below w.heap.size w x) ⟨(fun o => by simp [go_sem, h3c0, h3f0, h3z0, h3c1, h3f1, h3z1]), fun o => by simp [go_sem, h3c0, h3f0, h3z0, h3c1, h3f1, h3z1], fun o => by simp [go_sem, h3c0, h3f0, h3z0, h3c1, h3f1, h3z1], fun o => by simp [go_sem, h3c0, h3f0, h3z0, h3c1, h3f1, h3z1], by (first | omega | (simp [go_sem, h3c0, h3f0, h3z0, h3c1, h3f1, h3z1]; done) | (simp [go_sem, h3c0, h3f0, h3z0, h3c1, h3f1, h3z1]; omega)), by (first | omega | (simp [go_sem, h3c0, h3f0, h3z0, h3c1, h3f1, h3z1]; done) | (simp [go_sem, h3c0, h3f0, h3z0, h3c1, h3f1, h3z1]; omega)), by (repeat' (first | (with_reducible exact Below.refl _ _) | (with_reducible assumption) | (with_reducible refine below_alloc ?_ _) | (with_reducible refine Below.drew ?_) | (with_reducible refine Below.setCell ?_ ?_ _) | (with_reducible refine below_after ?_ (by assumption)) | go_size))⟩ ?_
      rintro F ⟨hFc0, hFc1, hFf0, hFf1, hFz0, hFz1, hFb⟩
      go_wp2_with fail
      ((with_reducible refine (msame_nil _).mono ?_); rintro e w4 ⟨rfl, hb4⟩)
      have hk4 : Kp F.heap.size [] F w4 := (by (repeat (first | (with_reducible assumption) | (with_reducible exact Kp.refl (Nat.le_refl _)) | (with_reducible refine Kp.drew ?_) | (with_reducible refine Kp.alloc ?_ _) | ((with_reducible refine Kp.put ?_ ?_ _); focus (first | (left; go_size; done) | (right; simp; done))) | ((with_reducible apply Kp.later); (with_reducible assumption)))))
      have h4c0 := fun o => (hk4.cell _ o hFz0 (by simp)).trans (hFc0 o)
      have h4f0 := fun o => (hk4.froz _ o hFz0).trans (hFf0 o)
      have h4z0 := Nat.lt_of_lt_of_le hFz0 hk4.size
      have h4c1 := fun o => (hk4.cell _ o hFz1 (by simp)).trans (hFc1 o)
      have h4f1 := fun o => (hk4.froz _ o hFz1).trans (hFf1 o)
      have h4z1 := Nat.lt_of_lt_of_le hFz1 hk4.size
      go_wp2_with fail
      ((with_reducible refine (awake54 _ (HT.out.later (by (repeat' (first | (with_reducible exact Below.refl _ _) | (with_reducible assumption) | (with_reducible refine below_alloc ?_ _) | (with_reducible refine Below.drew ?_) | (with_reducible refine Below.setCell ?_ ?_ _) | (with_reducible refine below_after ?_ (by assumption)) | go_size))))).mono ?_); rintro e w5 ⟨rfl, hb5⟩)
      have hk5 : Kp F.heap.size [] F w5 := (by (repeat (first | (with_reducible assumption) | (with_reducible exact Kp.refl (Nat.le_refl _)) | (with_reducible refine Kp.drew ?_) | (with_reducible refine Kp.alloc ?_ _) | ((with_reducible refine Kp.put ?_ ?_ _); focus (first | (left; go_size; done) | (right; simp; done))) | ((with_reducible apply Kp.later); (with_reducible assumption)))))
      have h5c0 := fun o => (hk5.cell _ o hFz0 (by simp)).trans (hFc0 o)
      have h5f0 := fun o => (hk5.froz _ o hFz0).trans (hFf0 o)
      have h5z0 := Nat.lt_of_lt_of_le hFz0 hk5.size
      have h5c1 := fun o => (hk5.cell _ o hFz1 (by simp)).trans (hFc1 o)
      have h5f1 := fun o => (hk5.froz _ o hFz1).trans (hFf1 o)
      have h5z1 := Nat.lt_of_lt_of_le hFz1 hk5.size
      go_wp2
      go_returns
      exact ⟨rfl, by (repeat' (first | (with_reducible exact Below.refl _ _) | (with_reducible assumption) | (with_reducible refine below_alloc ?_ _) | (with_reducible refine Below.drew ?_) | (with_reducible refine Below.setCell ?_ ?_ _) | (with_reducible refine below_after ?_ (by assumption)) | go_size))⟩
  · have HL := Lib.hid (show ∀ W : World, Frm W ax az ah A C X Z H → Calls Tryd.prog 9 #[.agg #[.slice ax X.length cx, .slice az Z.length cz, .slice ah H.length ch]] W fun e w' => e = .returned (.bool false) ∧ Below W.heap.size W w' from by rw [← hl]; exact fun W h => light_any ax az ah cx cz ch A C X Z H hx W h)
    clear hT hf hl hx
    go_enter Tryd.func6, Tryd.ntmps6
    go_wp2_with fail
    ((with_reducible refine (HL.out _ (HF.out.later (by (repeat' (first | (with_reducible exact Below.refl _ _) | (with_reducible assumption) | (with_reducible refine below_alloc ?_ _) | (with_reducible refine Below.drew ?_) | (with_reducible refine Below.setCell ?_ ?_ _) | (with_reducible refine below_after ?_ (by assumption)) | go_size))))).mono ?_); rintro e w1 ⟨rfl, hb1⟩)
    obtain ⟨hc1, hf1⟩ := bcell hb1
    have hz1_w_0 : w.heap.size < w1.heap.size := by have h := hb1.size; (try simp at h); omega
    go_wp2_with fail
    ((with_reducible refine (awake54 _ (HT.out.later (by (repeat' (first | (with_reducible exact Below.refl _ _) | (with_reducible assumption) | (with_reducible refine below_alloc ?_ _) | (with_reducible refine Below.drew ?_) | (with_reducible refine Below.setCell ?_ ?_ _) | (with_reducible refine below_after ?_ (by assumption)) | go_size))))).mono ?_); rintro e w2 ⟨rfl, hb2⟩)
    obtain ⟨hc2, hf2⟩ := bcell hb2
    have hz2_w_0 : w.heap.size < w2.heap.size := by have h := hb2.size; (try simp at h); omega
    go_wp2
    go_returns
    exact ⟨rfl, by (repeat' (first | (with_reducible exact Below.refl _ _) | (with_reducible assumption) | (with_reducible refine below_alloc ?_ _) | (with_reducible refine Below.drew ?_) | (with_reducible refine Below.setCell ?_ ?_ _) | (with_reducible refine below_after ?_ (by assumption)) | go_size))⟩
end Go.Proofs.YtfmmnnodihpgmaaDoor
