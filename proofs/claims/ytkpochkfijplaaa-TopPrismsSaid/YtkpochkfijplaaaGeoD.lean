/-
  The reference's simple: when a contour is simple.
-/
import Derived.Test.YtkpochkfijplaaaGeoC
import Derived.BigRegion
namespace Go.Proofs.Ytkpochkfijplaaa
set_option linter.all false
open Go Go.RowKit Wd
set_option maxRecDepth 100000
/-- Whether two points are the same. -/
@[irreducible] def eqP (a b c d : Int) : Bool := a == c && b == d
theorem eq_pt (a b c d : Int) (w : World) : (Op.equalIn 10000 54 (.agg #[.int .i64 a, .int .i64 b]) (.agg #[.int .i64 c, .int .i64 d])).run Try.prog w = .ok (eqP a b c d) w := by
  rw [run_equalIn_agg (P := Try.prog) w 9999 54 _ _ (by kernel_rfl) (by kernel_rfl)]
  unfold eqP
  simp [Op.eqFields, go_sem]
  by_cases h0 : a = c <;> by_cases h1 : b = d <;> simp [h0, h1]
/-- Whether edge i and the next one are spikes. -/
@[irreducible] def edR (X Y : Nat → Int) (n i : Nat) : Bool :=
  onB (X i) (Y i) (X ((i + 1) % n)) (Y ((i + 1) % n)) (X ((i + 2) % n)) (Y ((i + 2) % n)) || onB (X ((i + 2) % n)) (Y ((i + 2) % n)) (X i) (Y i) (X ((i + 1) % n)) (Y ((i + 1) % n))
/-- Whether edges i and k, which are not neighbours, meet. -/
@[irreducible] def crB (X Y : Nat → Int) (n i k : Nat) : Bool :=
  decide ((k + 1) % n ≠ i) && mtB (X i) (Y i) (X ((i + 1) % n)) (Y ((i + 1) % n)) (X k) (Y k) (X ((k + 1) % n)) (Y ((k + 1) % n))
@[irreducible] def simR (X Y : Nat → Int) (n : Nat) : Bool :=
  allN n (fun i => allN i fun k => !eqP (X i) (Y i) (X k) (Y k)) && allN n (fun i => !edR X Y n i && allN n fun k => decide (k < i + 2) || !crB X Y n i k)
theorem simR_no1 {X Y : Nat → Int} {n : Nat} (i k : Nat) (hi : i < n) (hk : k < i) (h : eqP (X i) (Y i) (X k) (Y k) = true) : simR X Y n = false := by
  unfold simR
  rw [allN_no hi (allN_no hk (by rw [h]; rfl)), Bool.false_and]
theorem simR_no2 {X Y : Nat → Int} {n : Nat} (i : Nat) (hi : i < n) (h : edR X Y n i = true) : simR X Y n = false := by
  unfold simR
  rw [allN_no (n := n) (f := fun i => !edR X Y n i && allN n fun k => decide (k < i + 2) || !crB X Y n i k) hi (by rw [h]; rfl), Bool.and_false]
theorem simR_no3 {X Y : Nat → Int} {n : Nat} (i k : Nat) (hi : i < n) (hk : k < n) (hik : i + 2 ≤ k) (h : crB X Y n i k = true) : simR X Y n = false := by
  unfold simR
  rw [allN_no (n := n) (f := fun i => !edR X Y n i && allN n fun k => decide (k < i + 2) || !crB X Y n i k) hi (by rw [allN_no hk (by rw [h, decide_eq_false (by omega)]; rfl), Bool.and_false]), Bool.and_false]
theorem simR_yes {X Y : Nat → Int} {n : Nat} (h1 : ∀ i, i < n → ∀ k, k < i → eqP (X i) (Y i) (X k) (Y k) = false) (h2 : ∀ i, i < n → edR X Y n i = false ∧ ∀ k, k < n → i + 2 ≤ k → crB X Y n i k = false) : simR X Y n = true := by
  unfold simR
  rw [Bool.and_eq_true]
  refine ⟨allN_iff.2 fun i hi => allN_iff.2 fun k hk => by rw [h1 i hi k hk]; rfl, allN_iff.2 fun i hi => ?_⟩
  rw [(h2 i hi).1, Bool.not_false, Bool.true_and]
  refine allN_iff.2 fun k hk => ?_
  by_cases hik : k < i + 2
  · rw [decide_eq_true hik]; rfl
  · rw [(h2 i hi).2 k hk (by omega)]; simp
set_option maxHeartbeats 8000000 in
theorem simpleR_any (b o n c : Nat) (X Y : Nat → Int) (h3 : 3 ≤ n) (hn : n ≤ 100) (hS : ∀ i, i < n → Sm (X i) ∧ Sm (Y i)) (w : World) (hp : Pts w b o n X Y) :
    Calls Try.prog 18 #[.slice (some ⟨b, o, none⟩) n c] w fun e w' => e = .returned (.bool (simR X Y n)) ∧ Below w.heap.size w w' := by
  have HP := Lib.hid hp
  have HS := Lib.hid hS
  have N1 := Lib.hid (@simR_no1 X Y n)
  have N2 := Lib.hid (@simR_no2 X Y n)
  have N3 := Lib.hid (@simR_no3 X Y n)
  have NY := Lib.hid (@simR_yes X Y n)
  generalize simR X Y n = r at *
  have B0 := Lib.hid (Below.refl w.heap.size w)
  clear hp hS
  go_enter Try.func18, Try.ntmps18
  go_wp2
  go_loopg [4] n (fun gg v wr => ∃ i : Nat, i ≤ n ∧ n - i ≤ gg ∧ v = .int .i64 (i : Int) ∧ Hid (Below w.heap.size w wr ∧ ∀ i', i' < i → ∀ k, k < i' → eqP (X i') (Y i') (X k) (Y k) = false))
  case atStart => exact ⟨0, by omega, by omega, rfl, Lib.hid ⟨B0.out, fun i hi => by omega⟩⟩
  case round =>
    obtain ⟨i, hi, hgi, rfl, HI⟩ := hrel
    by_cases hlt : i < n
    · have hin : (i : Int) < (n : Int) := by omega
      have HB := Lib.hid HI.out.1
      have B1 := Lib.hid (Below.refl wr.heap.size wr)
      go_wp2
      obtain ⟨wo, rfl⟩ : ∃ wo : World, wo = wr := ⟨_, rfl⟩
      go_loopg [5] i (fun gg v wi => ∃ k : Nat, k ≤ i ∧ i - k ≤ gg ∧ v = .int .i64 (k : Int) ∧ Hid (Below w.heap.size w wi ∧ ∀ k', k' < k → eqP (X i) (Y i) (X k') (Y k') = false))
      case atStart => exact ⟨0, by omega, by omega, rfl, Lib.hid ⟨HB.out, fun i hi => by omega⟩⟩
      case round =>
        obtain ⟨k, hk, hgk, rfl, HK⟩ := hrel
        by_cases hkt : k < i
        · have hki : (k : Int) < (i : Int) := by omega
          have hkn : (k : Int) < (n : Int) := by omega
          have P := HP.out.later HK.out.1
          have cx := P.x i hlt
          have cy := P.y i hlt
          have dx := P.x k (by omega)
          have dy := P.y k (by omega)
          have hz := P.lt
          have HE := Lib.hid (N1.out i k hlt hkt)
          have HE2 := Lib.hid (show eqP (X i) (Y i) (X k) (Y k) = false → ∀ k', k' < k + 1 → eqP (X i) (Y i) (X k') (Y k') = false from fun h k' hk' => by
            rcases (by omega : k' < k ∨ k' = k) with h1 | rfl
            · exact HK.out.2 k' h1
            · exact h)
          have heq := eq_pt (X i) (Y i) (X k) (Y k)
          have HBk := Lib.hid HK.out.1
          clear P HK
          generalize eqP (X i) (Y i) (X k) (Y k) = q at *
          generalize X i = xi at *
          generalize Y i = yi at *
          generalize X k = xk at *
          generalize Y k = yk at *
          go_wp2
          go_quiet (fail)
          have hb := HBk.out
          have hb := below_drewq hb nq
          cases q
          · go_wp2
            go_roundg (i - (k + 1))
            case rel => exact ⟨k + 1, by omega, by omega, by go_num, Lib.hid ⟨by (repeat' (first | (with_reducible exact Below.refl _ _) | (with_reducible assumption) | (with_reducible refine below_alloc ?_ _) | (with_reducible refine Below.drew ?_) | (with_reducible refine Below.setCell ?_ ?_ _) | (with_reducible refine below_after ?_ (by assumption)) | go_size)), HE2.out (by trivial)⟩⟩
            case measure => omega
          · obtain rfl : r = false := HE.out (by trivial)
            go_wp2
            go_returns
            exact ⟨rfl, by (repeat' (first | (with_reducible exact Below.refl _ _) | (with_reducible assumption) | (with_reducible refine below_alloc ?_ _) | (with_reducible refine Below.drew ?_) | (with_reducible refine Below.setCell ?_ ?_ _) | (with_reducible refine below_after ?_ (by assumption)) | go_size))⟩
        · obtain rfl : k = i := by omega
          have hki : ¬ (k : Int) < (k : Int) := by omega
          have hb := HK.out.1
          have HN := Lib.hid (show ∀ i', i' < k + 1 → ∀ k', k' < i' → eqP (X i') (Y i') (X k') (Y k') = false from fun i' hi' => by
            rcases (by omega : i' < k ∨ i' = k) with h1 | rfl
            · exact HI.out.2 i' h1
            · exact HK.out.2)
          clear HI HK
          go_wp2
          go_roundg (n - (k + 1))
          case rel => exact ⟨k + 1, by omega, by omega, by go_num, Lib.hid ⟨by (repeat' (first | (with_reducible exact Below.refl _ _) | (with_reducible assumption) | (with_reducible refine below_alloc ?_ _) | (with_reducible refine Below.drew ?_) | (with_reducible refine Below.setCell ?_ ?_ _) | (with_reducible refine below_after ?_ (by assumption)) | go_size)), HN.out⟩⟩
          case measure => omega
    · obtain rfl : i = n := by omega
      have hin : ¬ (i : Int) < (i : Int) := by omega
      have HB := Lib.hid HI.out.1
      have NY1 := Lib.hid (NY.out HI.out.2)
      clear HI NY N1
      go_wp2
      go_loopg [6] i (fun gg v wr => ∃ j : Nat, j ≤ i ∧ i - j ≤ gg ∧ v = .int .i64 (j : Int) ∧ Hid (Below w.heap.size w wr ∧ ∀ i', i' < j → edR X Y i i' = false ∧ ∀ k, k < i → i' + 2 ≤ k → crB X Y i i' k = false))
      case atStart => exact ⟨0, by omega, by omega, rfl, Lib.hid ⟨HB.out, fun i hi => by omega⟩⟩
      case round =>
        obtain ⟨j, hj, hgj, rfl, HJ⟩ := hrel
        by_cases hjt : j < i
        · have hji : (j : Int) < (i : Int) := by omega
          have P := HP.out.later HJ.out.1
          have HBj := Lib.hid HJ.out.1
          have HEd := Lib.hid (N2.out j hjt)
          obtain ⟨j1, hj1⟩ : ∃ j1, j1 = (j + 1) % i := ⟨_, rfl⟩
          obtain ⟨j2, hj2⟩ : ∃ j2, j2 = (j + 2) % i := ⟨_, rfl⟩
          have l1 : j1 < i := by rw [hj1]; exact Nat.mod_lt _ (by omega)
          have l2 : j2 < i := by rw [hj2]; exact Nat.mod_lt _ (by omega)
          have q1 : ((j : Int) + 1).tmod (i : Int) = (j1 : Int) := by rw [hj1]; exact (Int.ofNat_tmod (j + 1) i).symm
          have q2 : ((j : Int) + 2).tmod (i : Int) = (j2 : Int) := by rw [hj2]; exact (Int.ofNat_tmod (j + 2) i).symm
          have q1' : ((j : Int) + 1) % (i : Int) = (j1 : Int) := by rw [hj1, Int.natCast_emod]; rfl
          have q2' : ((j : Int) + 2) % (i : Int) = (j2 : Int) := by rw [hj2, Int.natCast_emod]; rfl
          have cx := P.x j hjt
          have cy := P.y j hjt
          have dx := P.x j1 l1
          have dy := P.y j1 l1
          have ex := P.x j2 l2
          have ey := P.y j2 l2
          have hz := P.lt
          have hz1 : b < wr.heap.size + 1 := by omega
          have hz2 : b < wr.heap.size + 1 + 1 := by omega
          have hz3 : b < wr.heap.size + 1 + 1 + 1 := by omega
          have hi0 : i ≠ 0 := by omega
          have l1' : (j1 : Int) < (i : Int) := by omega
          have l2' : (j2 : Int) < (i : Int) := by omega
          have w1 : IntKind.i64.wrap ((j : Int) + 1) = (j : Int) + 1 := by rw [IntKind.wrap_i64]; omega
          have w2 : IntKind.i64.wrap ((j : Int) + 2) = (j : Int) + 2 := by rw [IntKind.wrap_i64]; omega
          have HQ := Lib.hid (And.intro hj1 hj2)
          have HJN := Lib.hid HJ.out.2
          clear hj1 hj2 P HJ
          go_upto_region 13 with (fail)
          go_cut [7, 8, 9] (fun v7 v8 v9 wx => ∃ b7 b8 b9, v7 = .pointer (some ⟨b7, 0, none⟩) ∧ v8 = .pointer (some ⟨b8, 0, none⟩) ∧ v9 = .pointer (some ⟨b9, 0, none⟩) ∧ (∀ o, wx.cell? ⟨b7, o, none⟩ = (#[.int .i64 (X j), .int .i64 (Y j)] : Array Value)[o]?) ∧ (∀ o, wx.cell? ⟨b8, o, none⟩ = (#[.int .i64 (X j1), .int .i64 (Y j1)] : Array Value)[o]?) ∧ (∀ o, wx.cell? ⟨b9, o, none⟩ = (#[.int .i64 (X j2), .int .i64 (Y j2)] : Array Value)[o]?) ∧ b7 < wx.heap.size ∧ b8 < wx.heap.size ∧ b9 < wx.heap.size ∧ Below wr.heap.size wr wx)
          case first =>
            go_region
            all_goals
              go_wp2
              go_meet
              case rel => exact ⟨_, _, _, rfl, rfl, rfl, fun o => by simp [go_sem], fun o => by simp [go_sem], fun o => by simp [go_sem], by simp; first | done | omega, by simp; first | done | omega, by simp; first | done | omega, by (repeat' (first | (with_reducible exact Below.refl _ _) | (with_reducible assumption) | (with_reducible refine below_alloc ?_ _) | (with_reducible refine Below.drew ?_) | (with_reducible refine Below.setCell ?_ ?_ _) | (with_reducible refine below_after ?_ (by assumption)) | go_size))⟩
          case rest =>
            obtain ⟨b7, b8, b9, rfl, rfl, rfl, k7, k8, k9, z7, z8, z9, hbx⟩ := hcut
            have s0 := HS.out j hjt
            have s1 := HS.out j1 l1
            have s2 := HS.out j2 l2
            have K1 := Lib.hid (On_any s0.1 s0.2 s1.1 s1.2 s2.1 s2.2)
            have K2 := Lib.hid (On_any s2.1 s2.2 s0.1 s0.2 s1.1 s1.2)
            have HM := Lib.hid (fun (k k1 : Nat) (hk : k < i) (hk1 : k1 < i) => Meet_any s0.1 s0.2 s1.1 s1.2 (HS.out k hk).1 (HS.out k hk).2 (HS.out k1 hk1).1 (HS.out k1 hk1).2)
            have EE := Lib.hid (show edR X Y i j = (onB (X j) (Y j) (X j1) (Y j1) (X j2) (Y j2) || onB (X j2) (Y j2) (X j) (Y j) (X j1) (Y j1)) by unfold edR; rw [← HQ.out.1, ← HQ.out.2])
            have EC := Lib.hid (fun (k : Nat) => show crB X Y i j k = (decide ((k + 1) % i ≠ j) && mtB (X j) (Y j) (X j1) (Y j1) (X k) (Y k) (X ((k + 1) % i)) (Y ((k + 1) % i))) by unfold crB; rw [← HQ.out.1])
            have hBx := Lib.hid (HBj.out.trans (hbx.mono HBj.out.size))
            clear s0 s1 s2 q1 q2 q1' q2' w1 w2 cx cy dx dy ex ey hz hz1 hz2 hz3 l1' l2'
            generalize onB (X j) (Y j) (X j1) (Y j1) (X j2) (Y j2) = o1 at *
            generalize onB (X j2) (Y j2) (X j) (Y j) (X j1) (Y j1) = o2 at *
            have HEd' : Hid ((o1 || o2) = true → r = false) := Lib.hid (fun h => HEd.out (by rw [EE.out]; exact h))
            have EdN : Hid ((o1 || o2) = false → edR X Y i j = false) := Lib.hid (fun h => by rw [EE.out]; exact h)
            clear EE HEd
            go_upto_region 14 with (fail)
            refine wp_world (fun x => Hid (Below w.heap.size w x) ∧ ((∀ o, x.cell? ⟨b7, o, none⟩ = (#[.int .i64 (X j), .int .i64 (Y j)] : Array Value)[o]?) ∧ (∀ o, x.cell? ⟨b8, o, none⟩ = (#[.int .i64 (X j1), .int .i64 (Y j1)] : Array Value)[o]?) ∧ (∀ o, x.cell? ⟨b9, o, none⟩ = (#[.int .i64 (X j2), .int .i64 (Y j2)] : Array Value)[o]?)) ∧ b7 < x.heap.size ∧ b8 < x.heap.size ∧ b9 < x.heap.size) ⟨hBx, ⟨k7, k8, k9⟩, z7, z8, z9⟩ ?_
            clear k7 k8 k9 z7 z8 z9 hbx hBx HBj
            rintro G ⟨HG, ⟨k7, k8, k9⟩, z7, z8, z9⟩
            have hbG := HG.out
            go_wp2_with fail
            ((with_reducible refine (K1.out _).mono ?_); rintro e w1 ⟨rfl, hb1⟩)
            obtain ⟨hc1, hf1⟩ := bcell hb1
            cases o1
            case true =>
              obtain rfl : r = false := HEd'.out (by simp)
              go_wp2
              go_returns
              exact ⟨rfl, by (repeat' (first | (with_reducible exact Below.refl _ _) | (with_reducible assumption) | (with_reducible refine below_alloc ?_ _) | (with_reducible refine Below.drew ?_) | (with_reducible refine Below.setCell ?_ ?_ _) | (with_reducible refine below_after ?_ (by assumption)) | go_size))⟩
            have k7' := keep_cell hb1 z7 k7
            have k8' := keep_cell hb1 z8 k8
            have k9' := keep_cell hb1 z9 k9
            have z7' := keep_lt hb1 z7
            have z8' := keep_lt hb1 z8
            have z9' := keep_lt hb1 z9
            have hbG1 := below_after hbG hb1
            clear k7 k8 k9 z7 z8 z9 hb1 hc1 hf1 hbG HG
            go_wp2_with fail
            ((with_reducible refine (K2.out _).mono ?_); rintro e w2 ⟨rfl, hb2⟩)
            obtain ⟨hc2, hf2⟩ := bcell hb2
            cases o2
            case true =>
              obtain rfl : r = false := HEd'.out (by simp)
              go_wp2
              go_returns
              exact ⟨rfl, by (repeat' (first | (with_reducible exact Below.refl _ _) | (with_reducible assumption) | (with_reducible refine below_alloc ?_ _) | (with_reducible refine Below.drew ?_) | (with_reducible refine Below.setCell ?_ ?_ _) | (with_reducible refine below_after ?_ (by assumption)) | go_size))⟩
            have EdN' := Lib.hid (EdN.out (by simp))
            have k7 := keep_cell hb2 z7' k7'
            have k8 := keep_cell hb2 z8' k8'
            have z7 := keep_lt hb2 z7'
            have z8 := keep_lt hb2 z8'
            have HG2 := Lib.hid (below_after hbG1 hb2)
            have B2 := Lib.hid (Below.refl w2.heap.size w2)
            have C7 := Lib.hid k7
            have C8 := Lib.hid k8
            clear k7' k8' k9' z7' z8' z9' hb2 hc2 hf2 hbG1 EdN HEd' K1 K2 k7 k8
            go_wp2
            go_loopg [10] i (fun gg v wr => ∃ k : Nat, j + 2 ≤ k ∧ (k ≤ i ∨ k = j + 2) ∧ i - k ≤ gg ∧ v = .int .i64 (k : Int) ∧ Hid (Below w2.heap.size w2 wr ∧ ∀ k', k' < k → k' < i → j + 2 ≤ k' → crB X Y i j k' = false))
            case atStart => exact ⟨j + 2, by omega, by omega, by omega, by go_num, Lib.hid ⟨B2.out, fun k' h1 h2 h3 => by omega⟩⟩
            case round =>
              obtain ⟨k, hk2, hki, hgk, rfl, HK⟩ := hrel
              by_cases hkt : k < i
              · have hki' : (k : Int) < (i : Int) := by omega
                have hBk := HG2.out.trans (HK.out.1.mono HG2.out.size)
                have P := HP.out.later hBk
                obtain ⟨k1, hk1⟩ : ∃ k1, k1 = (k + 1) % i := ⟨_, rfl⟩
                have l3 : k1 < i := by rw [hk1]; exact Nat.mod_lt _ (by omega)
                have q3 : ((k : Int) + 1).tmod (i : Int) = (k1 : Int) := by rw [hk1]; exact (Int.ofNat_tmod (k + 1) i).symm
                have q3' : ((k : Int) + 1) % (i : Int) = (k1 : Int) := by rw [hk1, Int.natCast_emod]; rfl
                have w3 : IntKind.i64.wrap ((k : Int) + 1) = (k : Int) + 1 := by rw [IntKind.wrap_i64]; omega
                have l3' : (k1 : Int) < (i : Int) := by omega
                have hi0 : i ≠ 0 := by omega
                have hKk := Lib.hid (show ∀ x : World, Below wr.heap.size wr x → (∀ o, x.cell? ⟨b7, o, none⟩ = (#[.int .i64 (X j), .int .i64 (Y j)] : Array Value)[o]?) ∧ (∀ o, x.cell? ⟨b8, o, none⟩ = (#[.int .i64 (X j1), .int .i64 (Y j1)] : Array Value)[o]?) ∧ x.cell? ⟨b, o + k * 2, none⟩ = some (.int .i64 (X k)) ∧ x.cell? ⟨b, o + k * 2 + 1, none⟩ = some (.int .i64 (Y k)) ∧ x.cell? ⟨b, o + k1 * 2, none⟩ = some (.int .i64 (X k1)) ∧ x.cell? ⟨b, o + k1 * 2 + 1, none⟩ = some (.int .i64 (Y k1)) from
                  fun x hx => ⟨keep_cell hx (keep_lt HK.out.1 z7) (keep_cell HK.out.1 z7 C7.out), keep_cell hx (keep_lt HK.out.1 z8) (keep_cell HK.out.1 z8 C8.out), (P.later hx).x k hkt, (P.later hx).y k hkt, (P.later hx).x k1 l3, (P.later hx).y k1 l3⟩)
                have KM := Lib.hid (HM.out k k1 hkt l3)
                have EC1 := Lib.hid (show crB X Y i j k = (decide (k1 ≠ j) && mtB (X j) (Y j) (X j1) (Y j1) (X k) (Y k) (X k1) (Y k1)) from by rw [hk1]; exact EC.out k)
                have HC := Lib.hid (fun h => N3.out j k hjt hkt hk2 h)
                have HCN := Lib.hid (show crB X Y i j k = false → ∀ k', k' < k + 1 → k' < i → j + 2 ≤ k' → crB X Y i j k' = false from fun h k' h1 h2 h3 => by
                  rcases (by omega : k' < k ∨ k' = k) with h4 | rfl
                  · exact HK.out.2 k' h4 h2 h3
                  · exact h)
                have HBk := Lib.hid HK.out.1
                generalize crB X Y i j k = cr at *
                generalize mtB (X j) (Y j) (X j1) (Y j1) (X k) (Y k) (X k1) (Y k1) = m at *
                clear hk1 hBk P HK
                by_cases g : k1 = j
                · subst g
                  obtain rfl : cr = false := by rw [EC1.out]; simp
                  clear EC1 KM
                  go_upto_region 19 with (fail)
                  refine wp_region_lin (S := fun x => Below wr.heap.size wr x) (by kernel_rfl) (by kernel_rfl) ((Below.refl _ _).drew) ?_
                  (first | (refine lin_take (i := 0) (v := undef) rfl (by kernel_rfl) (by kernel_rfl) (gives_no (by rfl)) ?_; (try simp only [List.getElem_toArray, List.getElem_cons_succ, List.getElem_cons_zero, Act.put, List.setIfInBounds_toArray, List.set_cons_zero, List.set_cons_succ])) | (refine lin_take (i := 0) (v := ?lv258) rfl (by kernel_rfl) (by kernel_rfl) (gives_val (by rfl) (fun x hx => ?lh258)) ?lr258; (case lh258 => ((have hk := hKk.out x hx); clear hx; go_simp; (try with_reducible rfl))); (try simp only [List.getElem_toArray, List.getElem_cons_succ, List.getElem_cons_zero, Act.put, List.setIfInBounds_toArray, List.set_cons_zero, List.set_cons_succ])))
                  (first | (refine lin_take (i := 1) (v := undef) rfl (by kernel_rfl) (by kernel_rfl) (gives_no (by rfl)) ?_; (try simp only [List.getElem_toArray, List.getElem_cons_succ, List.getElem_cons_zero, Act.put, List.setIfInBounds_toArray, List.set_cons_zero, List.set_cons_succ])) | (refine lin_take (i := 1) (v := ?lv259) rfl (by kernel_rfl) (by kernel_rfl) (gives_val (by rfl) (fun x hx => ?lh259)) ?lr259; (case lh259 => ((have hk := hKk.out x hx); clear hx; go_simp; (try with_reducible rfl))); (try simp only [List.getElem_toArray, List.getElem_cons_succ, List.getElem_cons_zero, Act.put, List.setIfInBounds_toArray, List.set_cons_zero, List.set_cons_succ])))
                  (first | (refine lin_take (i := 2) (v := undef) rfl (by kernel_rfl) (by kernel_rfl) (gives_no (by rfl)) ?_; (try simp only [List.getElem_toArray, List.getElem_cons_succ, List.getElem_cons_zero, Act.put, List.setIfInBounds_toArray, List.set_cons_zero, List.set_cons_succ])) | (refine lin_take (i := 2) (v := ?lv260) rfl (by kernel_rfl) (by kernel_rfl) (gives_val (by rfl) (fun x hx => ?lh260)) ?lr260; (case lh260 => ((have hk := hKk.out x hx); clear hx; go_simp; (try with_reducible rfl))); (try simp only [List.getElem_toArray, List.getElem_cons_succ, List.getElem_cons_zero, Act.put, List.setIfInBounds_toArray, List.set_cons_zero, List.set_cons_succ])))
                  (first | (refine lin_take (i := 3) (v := undef) rfl (by kernel_rfl) (by kernel_rfl) (gives_no (by rfl)) ?_; (try simp only [List.getElem_toArray, List.getElem_cons_succ, List.getElem_cons_zero, Act.put, List.setIfInBounds_toArray, List.set_cons_zero, List.set_cons_succ])) | (refine lin_take (i := 3) (v := ?lv261) rfl (by kernel_rfl) (by kernel_rfl) (gives_val (by rfl) (fun x hx => ?lh261)) ?lr261; (case lh261 => ((have hk := hKk.out x hx); clear hx; go_simp; (try with_reducible rfl))); (try simp only [List.getElem_toArray, List.getElem_cons_succ, List.getElem_cons_zero, Act.put, List.setIfInBounds_toArray, List.set_cons_zero, List.set_cons_succ])))
                  (first | (refine lin_take (i := 4) (v := undef) rfl (by kernel_rfl) (by kernel_rfl) (gives_no (by rfl)) ?_; (try simp only [List.getElem_toArray, List.getElem_cons_succ, List.getElem_cons_zero, Act.put, List.setIfInBounds_toArray, List.set_cons_zero, List.set_cons_succ])) | (refine lin_take (i := 4) (v := ?lv262) rfl (by kernel_rfl) (by kernel_rfl) (gives_val (by rfl) (fun x hx => ?lh262)) ?lr262; (case lh262 => ((have hk := hKk.out x hx); clear hx; go_simp; (try with_reducible rfl))); (try simp only [List.getElem_toArray, List.getElem_cons_succ, List.getElem_cons_zero, Act.put, List.setIfInBounds_toArray, List.set_cons_zero, List.set_cons_succ])))
                  (first | (refine lin_take (i := 5) (v := undef) rfl (by kernel_rfl) (by kernel_rfl) (gives_no (by rfl)) ?_; (try simp only [List.getElem_toArray, List.getElem_cons_succ, List.getElem_cons_zero, Act.put, List.setIfInBounds_toArray, List.set_cons_zero, List.set_cons_succ])) | (refine lin_take (i := 5) (v := ?lv263) rfl (by kernel_rfl) (by kernel_rfl) (gives_val (by rfl) (fun x hx => ?lh263)) ?lr263; (case lh263 => ((have hk := hKk.out x hx); clear hx; go_simp; (try with_reducible rfl))); (try simp only [List.getElem_toArray, List.getElem_cons_succ, List.getElem_cons_zero, Act.put, List.setIfInBounds_toArray, List.set_cons_zero, List.set_cons_succ])))
                  (first | (refine lin_take (i := 6) (v := undef) rfl (by kernel_rfl) (by kernel_rfl) (gives_no (by rfl)) ?_; (try simp only [List.getElem_toArray, List.getElem_cons_succ, List.getElem_cons_zero, Act.put, List.setIfInBounds_toArray, List.set_cons_zero, List.set_cons_succ])) | (refine lin_take (i := 6) (v := ?lv264) rfl (by kernel_rfl) (by kernel_rfl) (gives_val (by rfl) (fun x hx => ?lh264)) ?lr264; (case lh264 => ((have hk := hKk.out x hx); clear hx; go_simp; (try with_reducible rfl))); (try simp only [List.getElem_toArray, List.getElem_cons_succ, List.getElem_cons_zero, Act.put, List.setIfInBounds_toArray, List.set_cons_zero, List.set_cons_succ])))
                  (first | (refine lin_take (i := 7) (v := undef) rfl (by kernel_rfl) (by kernel_rfl) (gives_no (by rfl)) ?_; (try simp only [List.getElem_toArray, List.getElem_cons_succ, List.getElem_cons_zero, Act.put, List.setIfInBounds_toArray, List.set_cons_zero, List.set_cons_succ])) | (refine lin_take (i := 7) (v := ?lv265) rfl (by kernel_rfl) (by kernel_rfl) (gives_val (by rfl) (fun x hx => ?lh265)) ?lr265; (case lh265 => ((have hk := hKk.out x hx); clear hx; go_simp; (try with_reducible rfl))); (try simp only [List.getElem_toArray, List.getElem_cons_succ, List.getElem_cons_zero, Act.put, List.setIfInBounds_toArray, List.set_cons_zero, List.set_cons_succ])))
                  (first | (refine lin_take (i := 8) (v := undef) rfl (by kernel_rfl) (by kernel_rfl) (gives_no (by rfl)) ?_; (try simp only [List.getElem_toArray, List.getElem_cons_succ, List.getElem_cons_zero, Act.put, List.setIfInBounds_toArray, List.set_cons_zero, List.set_cons_succ])) | (refine lin_take (i := 8) (v := ?lv266) rfl (by kernel_rfl) (by kernel_rfl) (gives_val (by rfl) (fun x hx => ?lh266)) ?lr266; (case lh266 => ((have hk := hKk.out x hx); clear hx; go_simp; (try with_reducible rfl))); (try simp only [List.getElem_toArray, List.getElem_cons_succ, List.getElem_cons_zero, Act.put, List.setIfInBounds_toArray, List.set_cons_zero, List.set_cons_succ])))
                  (first | (refine lin_take (i := 9) (v := undef) rfl (by kernel_rfl) (by kernel_rfl) (gives_no (by rfl)) ?_; (try simp only [List.getElem_toArray, List.getElem_cons_succ, List.getElem_cons_zero, Act.put, List.setIfInBounds_toArray, List.set_cons_zero, List.set_cons_succ])) | (refine lin_take (i := 9) (v := ?lv267) rfl (by kernel_rfl) (by kernel_rfl) (gives_val (by rfl) (fun x hx => ?lh267)) ?lr267; (case lh267 => ((have hk := hKk.out x hx); clear hx; go_simp; (try with_reducible rfl))); (try simp only [List.getElem_toArray, List.getElem_cons_succ, List.getElem_cons_zero, Act.put, List.setIfInBounds_toArray, List.set_cons_zero, List.set_cons_succ])))
                  (first | (refine lin_take (i := 10) (v := undef) rfl (by kernel_rfl) (by kernel_rfl) (gives_no (by rfl)) ?_; (try simp only [List.getElem_toArray, List.getElem_cons_succ, List.getElem_cons_zero, Act.put, List.setIfInBounds_toArray, List.set_cons_zero, List.set_cons_succ])) | (refine lin_take (i := 10) (v := ?lv268) rfl (by kernel_rfl) (by kernel_rfl) (gives_val (by rfl) (fun x hx => ?lh268)) ?lr268; (case lh268 => ((have hk := hKk.out x hx); clear hx; go_simp; (try with_reducible rfl))); (try simp only [List.getElem_toArray, List.getElem_cons_succ, List.getElem_cons_zero, Act.put, List.setIfInBounds_toArray, List.set_cons_zero, List.set_cons_succ])))
                  (first | (refine lin_take (i := 11) (v := undef) rfl (by kernel_rfl) (by kernel_rfl) (gives_no (by rfl)) ?_; (try simp only [List.getElem_toArray, List.getElem_cons_succ, List.getElem_cons_zero, Act.put, List.setIfInBounds_toArray, List.set_cons_zero, List.set_cons_succ])) | (refine lin_take (i := 11) (v := ?lv269) rfl (by kernel_rfl) (by kernel_rfl) (gives_val (by rfl) (fun x hx => ?lh269)) ?lr269; (case lh269 => ((have hk := hKk.out x hx); clear hx; go_simp; (try with_reducible rfl))); (try simp only [List.getElem_toArray, List.getElem_cons_succ, List.getElem_cons_zero, Act.put, List.setIfInBounds_toArray, List.set_cons_zero, List.set_cons_succ])))
                  (first | (refine lin_take (i := 12) (v := undef) rfl (by kernel_rfl) (by kernel_rfl) (gives_no (by rfl)) ?_; (try simp only [List.getElem_toArray, List.getElem_cons_succ, List.getElem_cons_zero, Act.put, List.setIfInBounds_toArray, List.set_cons_zero, List.set_cons_succ])) | (refine lin_take (i := 12) (v := ?lv270) rfl (by kernel_rfl) (by kernel_rfl) (gives_val (by rfl) (fun x hx => ?lh270)) ?lr270; (case lh270 => ((have hk := hKk.out x hx); clear hx; go_simp; (try with_reducible rfl))); (try simp only [List.getElem_toArray, List.getElem_cons_succ, List.getElem_cons_zero, Act.put, List.setIfInBounds_toArray, List.set_cons_zero, List.set_cons_succ])))
                  (first | (refine lin_take (i := 13) (v := undef) rfl (by kernel_rfl) (by kernel_rfl) (gives_no (by rfl)) ?_; (try simp only [List.getElem_toArray, List.getElem_cons_succ, List.getElem_cons_zero, Act.put, List.setIfInBounds_toArray, List.set_cons_zero, List.set_cons_succ])) | (refine lin_take (i := 13) (v := ?lv271) rfl (by kernel_rfl) (by kernel_rfl) (gives_val (by rfl) (fun x hx => ?lh271)) ?lr271; (case lh271 => ((have hk := hKk.out x hx); clear hx; go_simp; (try with_reducible rfl))); (try simp only [List.getElem_toArray, List.getElem_cons_succ, List.getElem_cons_zero, Act.put, List.setIfInBounds_toArray, List.set_cons_zero, List.set_cons_succ])))
                  (first | (refine lin_take (i := 14) (v := undef) rfl (by kernel_rfl) (by kernel_rfl) (gives_no (by rfl)) ?_; (try simp only [List.getElem_toArray, List.getElem_cons_succ, List.getElem_cons_zero, Act.put, List.setIfInBounds_toArray, List.set_cons_zero, List.set_cons_succ])) | (refine lin_take (i := 14) (v := ?lv272) rfl (by kernel_rfl) (by kernel_rfl) (gives_val (by rfl) (fun x hx => ?lh272)) ?lr272; (case lh272 => ((have hk := hKk.out x hx); clear hx; go_simp; (try with_reducible rfl))); (try simp only [List.getElem_toArray, List.getElem_cons_succ, List.getElem_cons_zero, Act.put, List.setIfInBounds_toArray, List.set_cons_zero, List.set_cons_succ])))
                  (first | (refine lin_take (i := 15) (v := undef) rfl (by kernel_rfl) (by kernel_rfl) (gives_no (by rfl)) ?_; (try simp only [List.getElem_toArray, List.getElem_cons_succ, List.getElem_cons_zero, Act.put, List.setIfInBounds_toArray, List.set_cons_zero, List.set_cons_succ])) | (refine lin_take (i := 15) (v := ?lv273) rfl (by kernel_rfl) (by kernel_rfl) (gives_val (by rfl) (fun x hx => ?lh273)) ?lr273; (case lh273 => ((have hk := hKk.out x hx); clear hx; go_simp; (try with_reducible rfl))); (try simp only [List.getElem_toArray, List.getElem_cons_succ, List.getElem_cons_zero, Act.put, List.setIfInBounds_toArray, List.set_cons_zero, List.set_cons_succ])))
                  (first | (refine lin_take (i := 16) (v := undef) rfl (by kernel_rfl) (by kernel_rfl) (gives_no (by rfl)) ?_; (try simp only [List.getElem_toArray, List.getElem_cons_succ, List.getElem_cons_zero, Act.put, List.setIfInBounds_toArray, List.set_cons_zero, List.set_cons_succ])) | (refine lin_take (i := 16) (v := ?lv274) rfl (by kernel_rfl) (by kernel_rfl) (gives_val (by rfl) (fun x hx => ?lh274)) ?lr274; (case lh274 => ((have hk := hKk.out x hx); clear hx; go_simp; (try with_reducible rfl))); (try simp only [List.getElem_toArray, List.getElem_cons_succ, List.getElem_cons_zero, Act.put, List.setIfInBounds_toArray, List.set_cons_zero, List.set_cons_succ])))
                  (first | (refine lin_take (i := 17) (v := undef) rfl (by kernel_rfl) (by kernel_rfl) (gives_no (by rfl)) ?_; (try simp only [List.getElem_toArray, List.getElem_cons_succ, List.getElem_cons_zero, Act.put, List.setIfInBounds_toArray, List.set_cons_zero, List.set_cons_succ])) | (refine lin_take (i := 17) (v := ?lv275) rfl (by kernel_rfl) (by kernel_rfl) (gives_val (by rfl) (fun x hx => ?lh275)) ?lr275; (case lh275 => ((have hk := hKk.out x hx); clear hx; go_simp; (try with_reducible rfl))); (try simp only [List.getElem_toArray, List.getElem_cons_succ, List.getElem_cons_zero, Act.put, List.setIfInBounds_toArray, List.set_cons_zero, List.set_cons_succ])))
                  (first | (refine lin_take (i := 18) (v := undef) rfl (by kernel_rfl) (by kernel_rfl) (gives_no (by rfl)) ?_; (try simp only [List.getElem_toArray, List.getElem_cons_succ, List.getElem_cons_zero, Act.put, List.setIfInBounds_toArray, List.set_cons_zero, List.set_cons_succ])) | (refine lin_take (i := 18) (v := ?lv276) rfl (by kernel_rfl) (by kernel_rfl) (gives_val (by rfl) (fun x hx => ?lh276)) ?lr276; (case lh276 => ((have hk := hKk.out x hx); clear hx; go_simp; (try with_reducible rfl))); (try simp only [List.getElem_toArray, List.getElem_cons_succ, List.getElem_cons_zero, Act.put, List.setIfInBounds_toArray, List.set_cons_zero, List.set_cons_succ])))
                  (first | (refine lin_take (i := 19) (v := undef) rfl (by kernel_rfl) (by kernel_rfl) (gives_no (by rfl)) ?_; (try simp only [List.getElem_toArray, List.getElem_cons_succ, List.getElem_cons_zero, Act.put, List.setIfInBounds_toArray, List.set_cons_zero, List.set_cons_succ])) | (refine lin_take (i := 19) (v := ?lv277) rfl (by kernel_rfl) (by kernel_rfl) (gives_val (by rfl) (fun x hx => ?lh277)) ?lr277; (case lh277 => ((have hk := hKk.out x hx); clear hx; go_simp; (try with_reducible rfl))); (try simp only [List.getElem_toArray, List.getElem_cons_succ, List.getElem_cons_zero, Act.put, List.setIfInBounds_toArray, List.set_cons_zero, List.set_cons_succ])))
                  (first | (refine lin_take (i := 20) (v := undef) rfl (by kernel_rfl) (by kernel_rfl) (gives_no (by rfl)) ?_; (try simp only [List.getElem_toArray, List.getElem_cons_succ, List.getElem_cons_zero, Act.put, List.setIfInBounds_toArray, List.set_cons_zero, List.set_cons_succ])) | (refine lin_take (i := 20) rfl (by kernel_rfl) (by kernel_rfl) (gives_call (by rfl) (fun x hx => ?lh278) (lin_below KM.out)) ?lr278; (case lh278 => go_simp); (try simp only [List.getElem_toArray, List.getElem_cons_succ, List.getElem_cons_zero, Act.put, List.setIfInBounds_toArray, List.set_cons_zero, List.set_cons_succ])))
                  (first | (refine lin_take (i := 21) (v := undef) rfl (by kernel_rfl) (by kernel_rfl) (gives_no (by rfl)) ?_; (try simp only [List.getElem_toArray, List.getElem_cons_succ, List.getElem_cons_zero, Act.put, List.setIfInBounds_toArray, List.set_cons_zero, List.set_cons_succ])) | (refine lin_take (i := 21) (v := ?lv279) rfl (by kernel_rfl) (by kernel_rfl) (gives_val (by rfl) (fun x hx => ?lh279)) ?lr279; (case lh279 => ((have hk := hKk.out x hx); clear hx; go_simp; (try with_reducible rfl))); (try simp only [List.getElem_toArray, List.getElem_cons_succ, List.getElem_cons_zero, Act.put, List.setIfInBounds_toArray, List.set_cons_zero, List.set_cons_succ])))
                  refine lin_done (by kernel_rfl) (fun wrx hwrx => ?_)
                  have hbk := below_in HBk.out HBk.out.size hwrx
                  go_wp2
                  go_roundg (i - (k + 1))
                  case rel => exact ⟨k + 1, by omega, by omega, by omega, by go_num, Lib.hid ⟨hbk, HCN.out (by trivial)⟩⟩
                  case measure => omega
                · have g' : ((k1 : Int) == (j : Int)) = false := by rw [beq_eq_false_iff_ne]; omega
                  have g2 : ¬ (k1 : Int) = (j : Int) := by omega
                  have g3 : ((k1 : Int) != (j : Int)) = true := by rw [bne_iff_ne]; omega
                  have g4 : (k1 != j) = true := by rw [bne_iff_ne]; exact g
                  have g5 : (k1 == j) = false := by rw [beq_eq_false_iff_ne]; exact g
                  obtain rfl : cr = m := by rw [EC1.out, decide_eq_true g, Bool.true_and]
                  clear EC1
                  go_upto_region 19 with (fail)
                  refine wp_region_lin (S := fun x => Below wr.heap.size wr x) (by kernel_rfl) (by kernel_rfl) ((Below.refl _ _).drew) ?_
                  (first | (refine lin_take (i := 0) (v := undef) rfl (by kernel_rfl) (by kernel_rfl) (gives_no (by rfl)) ?_; (try simp only [List.getElem_toArray, List.getElem_cons_succ, List.getElem_cons_zero, Act.put, List.setIfInBounds_toArray, List.set_cons_zero, List.set_cons_succ])) | (refine lin_take (i := 0) (v := ?lv295) rfl (by kernel_rfl) (by kernel_rfl) (gives_val (by rfl) (fun x hx => ?lh295)) ?lr295; (case lh295 => ((have hk := hKk.out x hx); clear hx; go_simp; (try with_reducible rfl))); (try simp only [List.getElem_toArray, List.getElem_cons_succ, List.getElem_cons_zero, Act.put, List.setIfInBounds_toArray, List.set_cons_zero, List.set_cons_succ])))
                  (first | (refine lin_take (i := 1) (v := undef) rfl (by kernel_rfl) (by kernel_rfl) (gives_no (by rfl)) ?_; (try simp only [List.getElem_toArray, List.getElem_cons_succ, List.getElem_cons_zero, Act.put, List.setIfInBounds_toArray, List.set_cons_zero, List.set_cons_succ])) | (refine lin_take (i := 1) (v := ?lv296) rfl (by kernel_rfl) (by kernel_rfl) (gives_val (by rfl) (fun x hx => ?lh296)) ?lr296; (case lh296 => ((have hk := hKk.out x hx); clear hx; go_simp; (try with_reducible rfl))); (try simp only [List.getElem_toArray, List.getElem_cons_succ, List.getElem_cons_zero, Act.put, List.setIfInBounds_toArray, List.set_cons_zero, List.set_cons_succ])))
                  (first | (refine lin_take (i := 2) (v := undef) rfl (by kernel_rfl) (by kernel_rfl) (gives_no (by rfl)) ?_; (try simp only [List.getElem_toArray, List.getElem_cons_succ, List.getElem_cons_zero, Act.put, List.setIfInBounds_toArray, List.set_cons_zero, List.set_cons_succ])) | (refine lin_take (i := 2) (v := ?lv297) rfl (by kernel_rfl) (by kernel_rfl) (gives_val (by rfl) (fun x hx => ?lh297)) ?lr297; (case lh297 => ((have hk := hKk.out x hx); clear hx; go_simp; (try with_reducible rfl))); (try simp only [List.getElem_toArray, List.getElem_cons_succ, List.getElem_cons_zero, Act.put, List.setIfInBounds_toArray, List.set_cons_zero, List.set_cons_succ])))
                  (first | (refine lin_take (i := 3) (v := undef) rfl (by kernel_rfl) (by kernel_rfl) (gives_no (by rfl)) ?_; (try simp only [List.getElem_toArray, List.getElem_cons_succ, List.getElem_cons_zero, Act.put, List.setIfInBounds_toArray, List.set_cons_zero, List.set_cons_succ])) | (refine lin_take (i := 3) (v := ?lv298) rfl (by kernel_rfl) (by kernel_rfl) (gives_val (by rfl) (fun x hx => ?lh298)) ?lr298; (case lh298 => ((have hk := hKk.out x hx); clear hx; go_simp; (try with_reducible rfl))); (try simp only [List.getElem_toArray, List.getElem_cons_succ, List.getElem_cons_zero, Act.put, List.setIfInBounds_toArray, List.set_cons_zero, List.set_cons_succ])))
                  (first | (refine lin_take (i := 4) (v := undef) rfl (by kernel_rfl) (by kernel_rfl) (gives_no (by rfl)) ?_; (try simp only [List.getElem_toArray, List.getElem_cons_succ, List.getElem_cons_zero, Act.put, List.setIfInBounds_toArray, List.set_cons_zero, List.set_cons_succ])) | (refine lin_take (i := 4) (v := ?lv299) rfl (by kernel_rfl) (by kernel_rfl) (gives_val (by rfl) (fun x hx => ?lh299)) ?lr299; (case lh299 => ((have hk := hKk.out x hx); clear hx; go_simp; (try with_reducible rfl))); (try simp only [List.getElem_toArray, List.getElem_cons_succ, List.getElem_cons_zero, Act.put, List.setIfInBounds_toArray, List.set_cons_zero, List.set_cons_succ])))
                  (first | (refine lin_take (i := 5) (v := undef) rfl (by kernel_rfl) (by kernel_rfl) (gives_no (by rfl)) ?_; (try simp only [List.getElem_toArray, List.getElem_cons_succ, List.getElem_cons_zero, Act.put, List.setIfInBounds_toArray, List.set_cons_zero, List.set_cons_succ])) | (refine lin_take (i := 5) (v := ?lv300) rfl (by kernel_rfl) (by kernel_rfl) (gives_val (by rfl) (fun x hx => ?lh300)) ?lr300; (case lh300 => ((have hk := hKk.out x hx); clear hx; go_simp; (try with_reducible rfl))); (try simp only [List.getElem_toArray, List.getElem_cons_succ, List.getElem_cons_zero, Act.put, List.setIfInBounds_toArray, List.set_cons_zero, List.set_cons_succ])))
                  (first | (refine lin_take (i := 6) (v := undef) rfl (by kernel_rfl) (by kernel_rfl) (gives_no (by rfl)) ?_; (try simp only [List.getElem_toArray, List.getElem_cons_succ, List.getElem_cons_zero, Act.put, List.setIfInBounds_toArray, List.set_cons_zero, List.set_cons_succ])) | (refine lin_take (i := 6) (v := ?lv301) rfl (by kernel_rfl) (by kernel_rfl) (gives_val (by rfl) (fun x hx => ?lh301)) ?lr301; (case lh301 => ((have hk := hKk.out x hx); clear hx; go_simp; (try with_reducible rfl))); (try simp only [List.getElem_toArray, List.getElem_cons_succ, List.getElem_cons_zero, Act.put, List.setIfInBounds_toArray, List.set_cons_zero, List.set_cons_succ])))
                  (first | (refine lin_take (i := 7) (v := undef) rfl (by kernel_rfl) (by kernel_rfl) (gives_no (by rfl)) ?_; (try simp only [List.getElem_toArray, List.getElem_cons_succ, List.getElem_cons_zero, Act.put, List.setIfInBounds_toArray, List.set_cons_zero, List.set_cons_succ])) | (refine lin_take (i := 7) (v := ?lv302) rfl (by kernel_rfl) (by kernel_rfl) (gives_val (by rfl) (fun x hx => ?lh302)) ?lr302; (case lh302 => ((have hk := hKk.out x hx); clear hx; go_simp; (try with_reducible rfl))); (try simp only [List.getElem_toArray, List.getElem_cons_succ, List.getElem_cons_zero, Act.put, List.setIfInBounds_toArray, List.set_cons_zero, List.set_cons_succ])))
                  (first | (refine lin_take (i := 8) (v := undef) rfl (by kernel_rfl) (by kernel_rfl) (gives_no (by rfl)) ?_; (try simp only [List.getElem_toArray, List.getElem_cons_succ, List.getElem_cons_zero, Act.put, List.setIfInBounds_toArray, List.set_cons_zero, List.set_cons_succ])) | (refine lin_take (i := 8) (v := ?lv303) rfl (by kernel_rfl) (by kernel_rfl) (gives_val (by rfl) (fun x hx => ?lh303)) ?lr303; (case lh303 => ((have hk := hKk.out x hx); clear hx; go_simp; (try with_reducible rfl))); (try simp only [List.getElem_toArray, List.getElem_cons_succ, List.getElem_cons_zero, Act.put, List.setIfInBounds_toArray, List.set_cons_zero, List.set_cons_succ])))
                  (first | (refine lin_take (i := 9) (v := undef) rfl (by kernel_rfl) (by kernel_rfl) (gives_no (by rfl)) ?_; (try simp only [List.getElem_toArray, List.getElem_cons_succ, List.getElem_cons_zero, Act.put, List.setIfInBounds_toArray, List.set_cons_zero, List.set_cons_succ])) | (refine lin_take (i := 9) (v := ?lv304) rfl (by kernel_rfl) (by kernel_rfl) (gives_val (by rfl) (fun x hx => ?lh304)) ?lr304; (case lh304 => ((have hk := hKk.out x hx); clear hx; go_simp; (try with_reducible rfl))); (try simp only [List.getElem_toArray, List.getElem_cons_succ, List.getElem_cons_zero, Act.put, List.setIfInBounds_toArray, List.set_cons_zero, List.set_cons_succ])))
                  (first | (refine lin_take (i := 10) (v := undef) rfl (by kernel_rfl) (by kernel_rfl) (gives_no (by rfl)) ?_; (try simp only [List.getElem_toArray, List.getElem_cons_succ, List.getElem_cons_zero, Act.put, List.setIfInBounds_toArray, List.set_cons_zero, List.set_cons_succ])) | (refine lin_take (i := 10) (v := ?lv305) rfl (by kernel_rfl) (by kernel_rfl) (gives_val (by rfl) (fun x hx => ?lh305)) ?lr305; (case lh305 => ((have hk := hKk.out x hx); clear hx; go_simp; (try with_reducible rfl))); (try simp only [List.getElem_toArray, List.getElem_cons_succ, List.getElem_cons_zero, Act.put, List.setIfInBounds_toArray, List.set_cons_zero, List.set_cons_succ])))
                  (first | (refine lin_take (i := 11) (v := undef) rfl (by kernel_rfl) (by kernel_rfl) (gives_no (by rfl)) ?_; (try simp only [List.getElem_toArray, List.getElem_cons_succ, List.getElem_cons_zero, Act.put, List.setIfInBounds_toArray, List.set_cons_zero, List.set_cons_succ])) | (refine lin_take (i := 11) (v := ?lv306) rfl (by kernel_rfl) (by kernel_rfl) (gives_val (by rfl) (fun x hx => ?lh306)) ?lr306; (case lh306 => ((have hk := hKk.out x hx); clear hx; go_simp; (try with_reducible rfl))); (try simp only [List.getElem_toArray, List.getElem_cons_succ, List.getElem_cons_zero, Act.put, List.setIfInBounds_toArray, List.set_cons_zero, List.set_cons_succ])))
                  (first | (refine lin_take (i := 12) (v := undef) rfl (by kernel_rfl) (by kernel_rfl) (gives_no (by rfl)) ?_; (try simp only [List.getElem_toArray, List.getElem_cons_succ, List.getElem_cons_zero, Act.put, List.setIfInBounds_toArray, List.set_cons_zero, List.set_cons_succ])) | (refine lin_take (i := 12) (v := ?lv307) rfl (by kernel_rfl) (by kernel_rfl) (gives_val (by rfl) (fun x hx => ?lh307)) ?lr307; (case lh307 => ((have hk := hKk.out x hx); clear hx; go_simp; (try with_reducible rfl))); (try simp only [List.getElem_toArray, List.getElem_cons_succ, List.getElem_cons_zero, Act.put, List.setIfInBounds_toArray, List.set_cons_zero, List.set_cons_succ])))
                  (first | (refine lin_take (i := 13) (v := undef) rfl (by kernel_rfl) (by kernel_rfl) (gives_no (by rfl)) ?_; (try simp only [List.getElem_toArray, List.getElem_cons_succ, List.getElem_cons_zero, Act.put, List.setIfInBounds_toArray, List.set_cons_zero, List.set_cons_succ])) | (refine lin_take (i := 13) (v := ?lv308) rfl (by kernel_rfl) (by kernel_rfl) (gives_val (by rfl) (fun x hx => ?lh308)) ?lr308; (case lh308 => ((have hk := hKk.out x hx); clear hx; go_simp; (try with_reducible rfl))); (try simp only [List.getElem_toArray, List.getElem_cons_succ, List.getElem_cons_zero, Act.put, List.setIfInBounds_toArray, List.set_cons_zero, List.set_cons_succ])))
                  (first | (refine lin_take (i := 14) (v := undef) rfl (by kernel_rfl) (by kernel_rfl) (gives_no (by rfl)) ?_; (try simp only [List.getElem_toArray, List.getElem_cons_succ, List.getElem_cons_zero, Act.put, List.setIfInBounds_toArray, List.set_cons_zero, List.set_cons_succ])) | (refine lin_take (i := 14) (v := ?lv309) rfl (by kernel_rfl) (by kernel_rfl) (gives_val (by rfl) (fun x hx => ?lh309)) ?lr309; (case lh309 => ((have hk := hKk.out x hx); clear hx; go_simp; (try with_reducible rfl))); (try simp only [List.getElem_toArray, List.getElem_cons_succ, List.getElem_cons_zero, Act.put, List.setIfInBounds_toArray, List.set_cons_zero, List.set_cons_succ])))
                  (first | (refine lin_take (i := 15) (v := undef) rfl (by kernel_rfl) (by kernel_rfl) (gives_no (by rfl)) ?_; (try simp only [List.getElem_toArray, List.getElem_cons_succ, List.getElem_cons_zero, Act.put, List.setIfInBounds_toArray, List.set_cons_zero, List.set_cons_succ])) | (refine lin_take (i := 15) (v := ?lv310) rfl (by kernel_rfl) (by kernel_rfl) (gives_val (by rfl) (fun x hx => ?lh310)) ?lr310; (case lh310 => ((have hk := hKk.out x hx); clear hx; go_simp; (try with_reducible rfl))); (try simp only [List.getElem_toArray, List.getElem_cons_succ, List.getElem_cons_zero, Act.put, List.setIfInBounds_toArray, List.set_cons_zero, List.set_cons_succ])))
                  (first | (refine lin_take (i := 16) (v := undef) rfl (by kernel_rfl) (by kernel_rfl) (gives_no (by rfl)) ?_; (try simp only [List.getElem_toArray, List.getElem_cons_succ, List.getElem_cons_zero, Act.put, List.setIfInBounds_toArray, List.set_cons_zero, List.set_cons_succ])) | (refine lin_take (i := 16) (v := ?lv311) rfl (by kernel_rfl) (by kernel_rfl) (gives_val (by rfl) (fun x hx => ?lh311)) ?lr311; (case lh311 => ((have hk := hKk.out x hx); clear hx; go_simp; (try with_reducible rfl))); (try simp only [List.getElem_toArray, List.getElem_cons_succ, List.getElem_cons_zero, Act.put, List.setIfInBounds_toArray, List.set_cons_zero, List.set_cons_succ])))
                  (first | (refine lin_take (i := 17) (v := undef) rfl (by kernel_rfl) (by kernel_rfl) (gives_no (by rfl)) ?_; (try simp only [List.getElem_toArray, List.getElem_cons_succ, List.getElem_cons_zero, Act.put, List.setIfInBounds_toArray, List.set_cons_zero, List.set_cons_succ])) | (refine lin_take (i := 17) (v := ?lv312) rfl (by kernel_rfl) (by kernel_rfl) (gives_val (by rfl) (fun x hx => ?lh312)) ?lr312; (case lh312 => ((have hk := hKk.out x hx); clear hx; go_simp; (try with_reducible rfl))); (try simp only [List.getElem_toArray, List.getElem_cons_succ, List.getElem_cons_zero, Act.put, List.setIfInBounds_toArray, List.set_cons_zero, List.set_cons_succ])))
                  (first | (refine lin_take (i := 18) (v := undef) rfl (by kernel_rfl) (by kernel_rfl) (gives_no (by rfl)) ?_; (try simp only [List.getElem_toArray, List.getElem_cons_succ, List.getElem_cons_zero, Act.put, List.setIfInBounds_toArray, List.set_cons_zero, List.set_cons_succ])) | (refine lin_take (i := 18) (v := ?lv313) rfl (by kernel_rfl) (by kernel_rfl) (gives_val (by rfl) (fun x hx => ?lh313)) ?lr313; (case lh313 => ((have hk := hKk.out x hx); clear hx; go_simp; (try with_reducible rfl))); (try simp only [List.getElem_toArray, List.getElem_cons_succ, List.getElem_cons_zero, Act.put, List.setIfInBounds_toArray, List.set_cons_zero, List.set_cons_succ])))
                  (first | (refine lin_take (i := 19) (v := undef) rfl (by kernel_rfl) (by kernel_rfl) (gives_no (by rfl)) ?_; (try simp only [List.getElem_toArray, List.getElem_cons_succ, List.getElem_cons_zero, Act.put, List.setIfInBounds_toArray, List.set_cons_zero, List.set_cons_succ])) | (refine lin_take (i := 19) (v := ?lv314) rfl (by kernel_rfl) (by kernel_rfl) (gives_val (by rfl) (fun x hx => ?lh314)) ?lr314; (case lh314 => ((have hk := hKk.out x hx); clear hx; go_simp; (try with_reducible rfl))); (try simp only [List.getElem_toArray, List.getElem_cons_succ, List.getElem_cons_zero, Act.put, List.setIfInBounds_toArray, List.set_cons_zero, List.set_cons_succ])))
                  (first | (refine lin_take (i := 20) (v := undef) rfl (by kernel_rfl) (by kernel_rfl) (gives_no (by rfl)) ?_; (try simp only [List.getElem_toArray, List.getElem_cons_succ, List.getElem_cons_zero, Act.put, List.setIfInBounds_toArray, List.set_cons_zero, List.set_cons_succ])) | (refine lin_take (i := 20) rfl (by kernel_rfl) (by kernel_rfl) (gives_call (by rfl) (fun x hx => ?lh315) (lin_below KM.out)) ?lr315; (case lh315 => go_simp); (try simp only [List.getElem_toArray, List.getElem_cons_succ, List.getElem_cons_zero, Act.put, List.setIfInBounds_toArray, List.set_cons_zero, List.set_cons_succ])))
                  (first | (refine lin_take (i := 21) (v := undef) rfl (by kernel_rfl) (by kernel_rfl) (gives_no (by rfl)) ?_; (try simp only [List.getElem_toArray, List.getElem_cons_succ, List.getElem_cons_zero, Act.put, List.setIfInBounds_toArray, List.set_cons_zero, List.set_cons_succ])) | (refine lin_take (i := 21) (v := ?lv316) rfl (by kernel_rfl) (by kernel_rfl) (gives_val (by rfl) (fun x hx => ?lh316)) ?lr316; (case lh316 => ((have hk := hKk.out x hx); clear hx; go_simp; (try with_reducible rfl))); (try simp only [List.getElem_toArray, List.getElem_cons_succ, List.getElem_cons_zero, Act.put, List.setIfInBounds_toArray, List.set_cons_zero, List.set_cons_succ])))
                  refine lin_done (by kernel_rfl) (fun wrx hwrx => ?_)
                  have hbk := below_in HBk.out HBk.out.size hwrx
                  cases cr
                  · go_wp2
                    go_roundg (i - (k + 1))
                    case rel => exact ⟨k + 1, by omega, by omega, by omega, by go_num, Lib.hid ⟨hbk, HCN.out (by trivial)⟩⟩
                    case measure => omega
                  · obtain rfl : r = false := HC.out (by trivial)
                    have hbw := HG2.out.trans (hbk.mono HG2.out.size)
                    go_wp2
                    go_returns
                    exact ⟨rfl, hbw⟩
              · have hki' : ¬ (k : Int) < (i : Int) := by omega
                have hb := HG2.out.trans (HK.out.1.mono HG2.out.size)
                have HN := Lib.hid (show ∀ i', i' < j + 1 → edR X Y i i' = false ∧ ∀ k, k < i → i' + 2 ≤ k → crB X Y i i' k = false from fun i' hi' => by
                  rcases (by omega : i' < j ∨ i' = j) with h1 | rfl
                  · exact HJN.out i' h1
                  · exact ⟨EdN'.out, fun k' h2 h3 => HK.out.2 k' (by omega) h2 h3⟩)
                clear HK
                go_wp2
                go_roundg (i - (j + 1))
                case rel => exact ⟨j + 1, by omega, by omega, by go_num, Lib.hid ⟨by (repeat' (first | (with_reducible exact Below.refl _ _) | (with_reducible assumption) | (with_reducible refine below_alloc ?_ _) | (with_reducible refine Below.drew ?_) | (with_reducible refine Below.setCell ?_ ?_ _) | (with_reducible refine below_after ?_ (by assumption)) | go_size)), HN.out⟩⟩
                case measure => omega
        · obtain rfl : j = i := by omega
          have hji : ¬ (j : Int) < (j : Int) := by omega
          have hb := HJ.out.1
          obtain rfl : r = true := NY1.out HJ.out.2
          clear HJ
          go_wp2
          go_returns
          exact ⟨rfl, by (repeat' (first | (with_reducible exact Below.refl _ _) | (with_reducible assumption) | (with_reducible refine below_alloc ?_ _) | (with_reducible refine Below.drew ?_) | (with_reducible refine Below.setCell ?_ ?_ _) | (with_reducible refine below_after ?_ (by assumption)) | go_size))⟩
end Go.Proofs.Ytkpochkfijplaaa
