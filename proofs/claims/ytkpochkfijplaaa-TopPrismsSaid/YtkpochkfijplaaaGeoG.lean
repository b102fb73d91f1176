/-
  The reference's Convex, Before and span.
-/
import Derived.Test.YtkpochkfijplaaaGeoE
namespace Go.Proofs.Ytkpochkfijplaaa
set_option linter.all false
open Go Go.RowKit Wd
set_option maxRecDepth 100000
def SomeBool (w : World) (e : Ending) (w' : World) : Prop := ∃ r : Bool, e = .returned (.bool r) ∧ Below w.heap.size w w'
set_option maxHeartbeats 4000000 in
theorem convex_any (b o n c : Nat) (X Y : Nat → Int) (hc : chkR X Y n = 0) (w : World) (hp : Pts w b o n X Y) :
    Calls Try.prog 6 #[.slice (some ⟨b, o, none⟩) n c] w (SomeBool w) := by
  obtain ⟨h3, h32, hS, -⟩ := chkR_ok hc
  have K1 := chkR_any (some ⟨b, o, none⟩) n c X Y (by unfold maxLen; omega) w (fun _ => ⟨b, o, rfl, hp⟩)
  rw [hc] at K1
  have K := Lib.hid K1
  have HP := Lib.hid hp
  have HS := Lib.hid hS
  clear hc K1 hp hS
  go_enter Try.func6, Try.ntmps6
  go_wp2_with fail
  ((with_reducible refine (K.out).mono ?_); rintro e w1 ⟨rfl, hb1⟩)
  obtain ⟨hc1, hf1⟩ := bcell hb1
  have HB1 := Lib.hid hb1
  clear hc1 hf1 hb1
  go_wp2
  go_loopg [3, 4, 5] n (fun gg l r v wr => ∃ i : Nat, i ≤ n ∧ n - i ≤ gg ∧ v = .int .i64 (i : Int) ∧ ∃ p q : Bool, l = .bool p ∧ r = .bool q ∧ Hid (Below w.heap.size w wr))
  case atStart => exact ⟨0, by omega, by omega, rfl, false, false, rfl, rfl, HB1⟩
  case round =>
    obtain ⟨i, hi, hgi, rfl, p, q, rfl, rfl, HI⟩ := hrel
    by_cases hlt : i < n
    · have hin : (i : Int) < (n : Int) := by omega
      have P := HP.out.later HI.out
      obtain ⟨j, hj⟩ : ∃ j, j = (i + 1) % n := ⟨_, rfl⟩
      obtain ⟨k, hk⟩ : ∃ k, k = (i + 2) % n := ⟨_, rfl⟩
      have l1 : j < n := by rw [hj]; exact Nat.mod_lt _ (by omega)
      have l2 : k < n := by rw [hk]; exact Nat.mod_lt _ (by omega)
      have q1 : ((i : Int) + 1).tmod (n : Int) = (j : Int) := by rw [hj]; exact tmod_nat i 1 n
      have q1' : ((i : Int) + 1) % (n : Int) = (j : Int) := by rw [hj]; exact emod_nat i 1 n
      have q2 : ((i : Int) + 2).tmod (n : Int) = (k : Int) := by rw [hk]; exact tmod_nat i 2 n
      have q2' : ((i : Int) + 2) % (n : Int) = (k : Int) := by rw [hk]; exact emod_nat i 2 n
      have w1 : IntKind.i64.wrap ((i : Int) + 1) = (i : Int) + 1 := by rw [IntKind.wrap_i64]; omega
      have w2 : IntKind.i64.wrap ((i : Int) + 2) = (i : Int) + 2 := by rw [IntKind.wrap_i64]; omega
      have l1' : (j : Int) < (n : Int) := by omega
      have l2' : (k : Int) < (n : Int) := by omega
      have hi0 : n ≠ 0 := by omega
      have hK := Lib.hid (show ∀ x : World, Below wr.heap.size wr x → x.cell? ⟨b, o + i * 2, none⟩ = some (.int .i64 (X i)) ∧ x.cell? ⟨b, o + i * 2 + 1, none⟩ = some (.int .i64 (Y i)) ∧ x.cell? ⟨b, o + j * 2, none⟩ = some (.int .i64 (X j)) ∧ x.cell? ⟨b, o + j * 2 + 1, none⟩ = some (.int .i64 (Y j)) ∧ x.cell? ⟨b, o + k * 2, none⟩ = some (.int .i64 (X k)) ∧ x.cell? ⟨b, o + k * 2 + 1, none⟩ = some (.int .i64 (Y k)) from
        fun x hx => ⟨(P.later hx).x i hlt, (P.later hx).y i hlt, (P.later hx).x j l1, (P.later hx).y j l1, (P.later hx).x k l2, (P.later hx).y k l2⟩)
      have s0 := HS.out i hlt
      have s1 := HS.out j l1
      have s2 := HS.out k l2
      have T := Lib.hid (turn_any s0.1 s0.2 s1.1 s1.2 s2.1 s2.2)
      have HBk := Lib.hid HI.out
      clear hj hk P HI s0 s1 s2
      generalize trn (X i) (Y i) (X j) (Y j) (X k) (Y k) = t at *
      generalize X i = xi at *
      generalize Y i = yi at *
      generalize X j = xj at *
      generalize Y j = yj at *
      generalize X k = xk at *
      generalize Y k = yk at *
      go_upto_region 7 with (fail)
      refine wp_region_lin (S := fun x => Below wr.heap.size wr x) (by kernel_rfl) (by kernel_rfl) ((Below.refl _ _).drew) ?_
      (first | (refine lin_take (i := 0) (v := undef) rfl (by kernel_rfl) (by kernel_rfl) (gives_no (by rfl)) ?_; (try simp only [List.getElem_toArray, List.getElem_cons_succ, List.getElem_cons_zero, Act.put, List.setIfInBounds_toArray, List.set_cons_zero, List.set_cons_succ])) | (refine lin_take (i := 0) (v := ?lv62) rfl (by kernel_rfl) (by kernel_rfl) (gives_val (by rfl) (fun x hx => ?lh62)) ?lr62; (case lh62 => ((have hk := hK.out x hx); clear hx; go_simp; (try with_reducible rfl))); (try simp only [List.getElem_toArray, List.getElem_cons_succ, List.getElem_cons_zero, Act.put, List.setIfInBounds_toArray, List.set_cons_zero, List.set_cons_succ])))
      (first | (refine lin_take (i := 1) (v := undef) rfl (by kernel_rfl) (by kernel_rfl) (gives_no (by rfl)) ?_; (try simp only [List.getElem_toArray, List.getElem_cons_succ, List.getElem_cons_zero, Act.put, List.setIfInBounds_toArray, List.set_cons_zero, List.set_cons_succ])) | (refine lin_take (i := 1) (v := ?lv63) rfl (by kernel_rfl) (by kernel_rfl) (gives_val (by rfl) (fun x hx => ?lh63)) ?lr63; (case lh63 => ((have hk := hK.out x hx); clear hx; go_simp; (try with_reducible rfl))); (try simp only [List.getElem_toArray, List.getElem_cons_succ, List.getElem_cons_zero, Act.put, List.setIfInBounds_toArray, List.set_cons_zero, List.set_cons_succ])))
      (first | (refine lin_take (i := 2) (v := undef) rfl (by kernel_rfl) (by kernel_rfl) (gives_no (by rfl)) ?_; (try simp only [List.getElem_toArray, List.getElem_cons_succ, List.getElem_cons_zero, Act.put, List.setIfInBounds_toArray, List.set_cons_zero, List.set_cons_succ])) | (refine lin_take (i := 2) (v := ?lv64) rfl (by kernel_rfl) (by kernel_rfl) (gives_val (by rfl) (fun x hx => ?lh64)) ?lr64; (case lh64 => ((have hk := hK.out x hx); clear hx; go_simp; (try with_reducible rfl))); (try simp only [List.getElem_toArray, List.getElem_cons_succ, List.getElem_cons_zero, Act.put, List.setIfInBounds_toArray, List.set_cons_zero, List.set_cons_succ])))
      (first | (refine lin_take (i := 3) (v := undef) rfl (by kernel_rfl) (by kernel_rfl) (gives_no (by rfl)) ?_; (try simp only [List.getElem_toArray, List.getElem_cons_succ, List.getElem_cons_zero, Act.put, List.setIfInBounds_toArray, List.set_cons_zero, List.set_cons_succ])) | (refine lin_take (i := 3) (v := ?lv65) rfl (by kernel_rfl) (by kernel_rfl) (gives_val (by rfl) (fun x hx => ?lh65)) ?lr65; (case lh65 => ((have hk := hK.out x hx); clear hx; go_simp; (try with_reducible rfl))); (try simp only [List.getElem_toArray, List.getElem_cons_succ, List.getElem_cons_zero, Act.put, List.setIfInBounds_toArray, List.set_cons_zero, List.set_cons_succ])))
      (first | (refine lin_take (i := 4) (v := undef) rfl (by kernel_rfl) (by kernel_rfl) (gives_no (by rfl)) ?_; (try simp only [List.getElem_toArray, List.getElem_cons_succ, List.getElem_cons_zero, Act.put, List.setIfInBounds_toArray, List.set_cons_zero, List.set_cons_succ])) | (refine lin_take (i := 4) (v := ?lv66) rfl (by kernel_rfl) (by kernel_rfl) (gives_val (by rfl) (fun x hx => ?lh66)) ?lr66; (case lh66 => ((have hk := hK.out x hx); clear hx; go_simp; (try with_reducible rfl))); (try simp only [List.getElem_toArray, List.getElem_cons_succ, List.getElem_cons_zero, Act.put, List.setIfInBounds_toArray, List.set_cons_zero, List.set_cons_succ])))
      (first | (refine lin_take (i := 5) (v := undef) rfl (by kernel_rfl) (by kernel_rfl) (gives_no (by rfl)) ?_; (try simp only [List.getElem_toArray, List.getElem_cons_succ, List.getElem_cons_zero, Act.put, List.setIfInBounds_toArray, List.set_cons_zero, List.set_cons_succ])) | (refine lin_take (i := 5) (v := ?lv67) rfl (by kernel_rfl) (by kernel_rfl) (gives_val (by rfl) (fun x hx => ?lh67)) ?lr67; (case lh67 => ((have hk := hK.out x hx); clear hx; go_simp; (try with_reducible rfl))); (try simp only [List.getElem_toArray, List.getElem_cons_succ, List.getElem_cons_zero, Act.put, List.setIfInBounds_toArray, List.set_cons_zero, List.set_cons_succ])))
      (first | (refine lin_take (i := 6) (v := undef) rfl (by kernel_rfl) (by kernel_rfl) (gives_no (by rfl)) ?_; (try simp only [List.getElem_toArray, List.getElem_cons_succ, List.getElem_cons_zero, Act.put, List.setIfInBounds_toArray, List.set_cons_zero, List.set_cons_succ])) | (refine lin_take (i := 6) (v := ?lv68) rfl (by kernel_rfl) (by kernel_rfl) (gives_val (by rfl) (fun x hx => ?lh68)) ?lr68; (case lh68 => ((have hk := hK.out x hx); clear hx; go_simp; (try with_reducible rfl))); (try simp only [List.getElem_toArray, List.getElem_cons_succ, List.getElem_cons_zero, Act.put, List.setIfInBounds_toArray, List.set_cons_zero, List.set_cons_succ])))
      (first | (refine lin_take (i := 7) (v := undef) rfl (by kernel_rfl) (by kernel_rfl) (gives_no (by rfl)) ?_; (try simp only [List.getElem_toArray, List.getElem_cons_succ, List.getElem_cons_zero, Act.put, List.setIfInBounds_toArray, List.set_cons_zero, List.set_cons_succ])) | (refine lin_take (i := 7) (v := ?lv69) rfl (by kernel_rfl) (by kernel_rfl) (gives_val (by rfl) (fun x hx => ?lh69)) ?lr69; (case lh69 => ((have hk := hK.out x hx); clear hx; go_simp; (try with_reducible rfl))); (try simp only [List.getElem_toArray, List.getElem_cons_succ, List.getElem_cons_zero, Act.put, List.setIfInBounds_toArray, List.set_cons_zero, List.set_cons_succ])))
      (first | (refine lin_take (i := 8) (v := undef) rfl (by kernel_rfl) (by kernel_rfl) (gives_no (by rfl)) ?_; (try simp only [List.getElem_toArray, List.getElem_cons_succ, List.getElem_cons_zero, Act.put, List.setIfInBounds_toArray, List.set_cons_zero, List.set_cons_succ])) | (refine lin_take (i := 8) (v := ?lv70) rfl (by kernel_rfl) (by kernel_rfl) (gives_val (by rfl) (fun x hx => ?lh70)) ?lr70; (case lh70 => ((have hk := hK.out x hx); clear hx; go_simp; (try with_reducible rfl))); (try simp only [List.getElem_toArray, List.getElem_cons_succ, List.getElem_cons_zero, Act.put, List.setIfInBounds_toArray, List.set_cons_zero, List.set_cons_succ])))
      (first | (refine lin_take (i := 9) (v := undef) rfl (by kernel_rfl) (by kernel_rfl) (gives_no (by rfl)) ?_; (try simp only [List.getElem_toArray, List.getElem_cons_succ, List.getElem_cons_zero, Act.put, List.setIfInBounds_toArray, List.set_cons_zero, List.set_cons_succ])) | (refine lin_take (i := 9) (v := ?lv71) rfl (by kernel_rfl) (by kernel_rfl) (gives_val (by rfl) (fun x hx => ?lh71)) ?lr71; (case lh71 => ((have hk := hK.out x hx); clear hx; go_simp; (try with_reducible rfl))); (try simp only [List.getElem_toArray, List.getElem_cons_succ, List.getElem_cons_zero, Act.put, List.setIfInBounds_toArray, List.set_cons_zero, List.set_cons_succ])))
      (first | (refine lin_take (i := 10) (v := undef) rfl (by kernel_rfl) (by kernel_rfl) (gives_no (by rfl)) ?_; (try simp only [List.getElem_toArray, List.getElem_cons_succ, List.getElem_cons_zero, Act.put, List.setIfInBounds_toArray, List.set_cons_zero, List.set_cons_succ])) | (refine lin_take (i := 10) (v := ?lv72) rfl (by kernel_rfl) (by kernel_rfl) (gives_val (by rfl) (fun x hx => ?lh72)) ?lr72; (case lh72 => ((have hk := hK.out x hx); clear hx; go_simp; (try with_reducible rfl))); (try simp only [List.getElem_toArray, List.getElem_cons_succ, List.getElem_cons_zero, Act.put, List.setIfInBounds_toArray, List.set_cons_zero, List.set_cons_succ])))
      (first | (refine lin_take (i := 11) (v := undef) rfl (by kernel_rfl) (by kernel_rfl) (gives_no (by rfl)) ?_; (try simp only [List.getElem_toArray, List.getElem_cons_succ, List.getElem_cons_zero, Act.put, List.setIfInBounds_toArray, List.set_cons_zero, List.set_cons_succ])) | (refine lin_take (i := 11) (v := ?lv73) rfl (by kernel_rfl) (by kernel_rfl) (gives_val (by rfl) (fun x hx => ?lh73)) ?lr73; (case lh73 => ((have hk := hK.out x hx); clear hx; go_simp; (try with_reducible rfl))); (try simp only [List.getElem_toArray, List.getElem_cons_succ, List.getElem_cons_zero, Act.put, List.setIfInBounds_toArray, List.set_cons_zero, List.set_cons_succ])))
      (first | (refine lin_take (i := 12) (v := undef) rfl (by kernel_rfl) (by kernel_rfl) (gives_no (by rfl)) ?_; (try simp only [List.getElem_toArray, List.getElem_cons_succ, List.getElem_cons_zero, Act.put, List.setIfInBounds_toArray, List.set_cons_zero, List.set_cons_succ])) | (refine lin_take (i := 12) (v := ?lv74) rfl (by kernel_rfl) (by kernel_rfl) (gives_val (by rfl) (fun x hx => ?lh74)) ?lr74; (case lh74 => ((have hk := hK.out x hx); clear hx; go_simp; (try with_reducible rfl))); (try simp only [List.getElem_toArray, List.getElem_cons_succ, List.getElem_cons_zero, Act.put, List.setIfInBounds_toArray, List.set_cons_zero, List.set_cons_succ])))
      (first | (refine lin_take (i := 13) (v := undef) rfl (by kernel_rfl) (by kernel_rfl) (gives_no (by rfl)) ?_; (try simp only [List.getElem_toArray, List.getElem_cons_succ, List.getElem_cons_zero, Act.put, List.setIfInBounds_toArray, List.set_cons_zero, List.set_cons_succ])) | (refine lin_take (i := 13) (v := ?lv75) rfl (by kernel_rfl) (by kernel_rfl) (gives_val (by rfl) (fun x hx => ?lh75)) ?lr75; (case lh75 => ((have hk := hK.out x hx); clear hx; go_simp; (try with_reducible rfl))); (try simp only [List.getElem_toArray, List.getElem_cons_succ, List.getElem_cons_zero, Act.put, List.setIfInBounds_toArray, List.set_cons_zero, List.set_cons_succ])))
      (first | (refine lin_take (i := 14) (v := undef) rfl (by kernel_rfl) (by kernel_rfl) (gives_no (by rfl)) ?_; (try simp only [List.getElem_toArray, List.getElem_cons_succ, List.getElem_cons_zero, Act.put, List.setIfInBounds_toArray, List.set_cons_zero, List.set_cons_succ])) | (refine lin_take (i := 14) (v := ?lv76) rfl (by kernel_rfl) (by kernel_rfl) (gives_val (by rfl) (fun x hx => ?lh76)) ?lr76; (case lh76 => ((have hk := hK.out x hx); clear hx; go_simp; (try with_reducible rfl))); (try simp only [List.getElem_toArray, List.getElem_cons_succ, List.getElem_cons_zero, Act.put, List.setIfInBounds_toArray, List.set_cons_zero, List.set_cons_succ])))
      (first | (refine lin_take (i := 15) (v := undef) rfl (by kernel_rfl) (by kernel_rfl) (gives_no (by rfl)) ?_; (try simp only [List.getElem_toArray, List.getElem_cons_succ, List.getElem_cons_zero, Act.put, List.setIfInBounds_toArray, List.set_cons_zero, List.set_cons_succ])) | (refine lin_take (i := 15) (v := ?lv77) rfl (by kernel_rfl) (by kernel_rfl) (gives_val (by rfl) (fun x hx => ?lh77)) ?lr77; (case lh77 => ((have hk := hK.out x hx); clear hx; go_simp; (try with_reducible rfl))); (try simp only [List.getElem_toArray, List.getElem_cons_succ, List.getElem_cons_zero, Act.put, List.setIfInBounds_toArray, List.set_cons_zero, List.set_cons_succ])))
      (first | (refine lin_take (i := 16) (v := undef) rfl (by kernel_rfl) (by kernel_rfl) (gives_no (by rfl)) ?_; (try simp only [List.getElem_toArray, List.getElem_cons_succ, List.getElem_cons_zero, Act.put, List.setIfInBounds_toArray, List.set_cons_zero, List.set_cons_succ])) | (refine lin_take (i := 16) (v := ?lv78) rfl (by kernel_rfl) (by kernel_rfl) (gives_val (by rfl) (fun x hx => ?lh78)) ?lr78; (case lh78 => ((have hk := hK.out x hx); clear hx; go_simp; (try with_reducible rfl))); (try simp only [List.getElem_toArray, List.getElem_cons_succ, List.getElem_cons_zero, Act.put, List.setIfInBounds_toArray, List.set_cons_zero, List.set_cons_succ])))
      (first | (refine lin_take (i := 17) (v := undef) rfl (by kernel_rfl) (by kernel_rfl) (gives_no (by rfl)) ?_; (try simp only [List.getElem_toArray, List.getElem_cons_succ, List.getElem_cons_zero, Act.put, List.setIfInBounds_toArray, List.set_cons_zero, List.set_cons_succ])) | (refine lin_take (i := 17) (v := ?lv79) rfl (by kernel_rfl) (by kernel_rfl) (gives_val (by rfl) (fun x hx => ?lh79)) ?lr79; (case lh79 => ((have hk := hK.out x hx); clear hx; go_simp; (try with_reducible rfl))); (try simp only [List.getElem_toArray, List.getElem_cons_succ, List.getElem_cons_zero, Act.put, List.setIfInBounds_toArray, List.set_cons_zero, List.set_cons_succ])))
      (first | (refine lin_take (i := 18) (v := undef) rfl (by kernel_rfl) (by kernel_rfl) (gives_no (by rfl)) ?_; (try simp only [List.getElem_toArray, List.getElem_cons_succ, List.getElem_cons_zero, Act.put, List.setIfInBounds_toArray, List.set_cons_zero, List.set_cons_succ])) | (refine lin_take (i := 18) (v := ?lv80) rfl (by kernel_rfl) (by kernel_rfl) (gives_val (by rfl) (fun x hx => ?lh80)) ?lr80; (case lh80 => ((have hk := hK.out x hx); clear hx; go_simp; (try with_reducible rfl))); (try simp only [List.getElem_toArray, List.getElem_cons_succ, List.getElem_cons_zero, Act.put, List.setIfInBounds_toArray, List.set_cons_zero, List.set_cons_succ])))
      (first | (refine lin_take (i := 19) (v := undef) rfl (by kernel_rfl) (by kernel_rfl) (gives_no (by rfl)) ?_; (try simp only [List.getElem_toArray, List.getElem_cons_succ, List.getElem_cons_zero, Act.put, List.setIfInBounds_toArray, List.set_cons_zero, List.set_cons_succ])) | (refine lin_take (i := 19) (v := ?lv81) rfl (by kernel_rfl) (by kernel_rfl) (gives_val (by rfl) (fun x hx => ?lh81)) ?lr81; (case lh81 => ((have hk := hK.out x hx); clear hx; go_simp; (try with_reducible rfl))); (try simp only [List.getElem_toArray, List.getElem_cons_succ, List.getElem_cons_zero, Act.put, List.setIfInBounds_toArray, List.set_cons_zero, List.set_cons_succ])))
      (first | (refine lin_take (i := 20) (v := undef) rfl (by kernel_rfl) (by kernel_rfl) (gives_no (by rfl)) ?_; (try simp only [List.getElem_toArray, List.getElem_cons_succ, List.getElem_cons_zero, Act.put, List.setIfInBounds_toArray, List.set_cons_zero, List.set_cons_succ])) | (refine lin_take (i := 20) rfl (by kernel_rfl) (by kernel_rfl) (gives_call (by rfl) (fun x hx => ?lh82) (lin_below T.out)) ?lr82; (case lh82 => go_simp); (try simp only [List.getElem_toArray, List.getElem_cons_succ, List.getElem_cons_zero, Act.put, List.setIfInBounds_toArray, List.set_cons_zero, List.set_cons_succ])))
      (first | (refine lin_take (i := 21) (v := undef) rfl (by kernel_rfl) (by kernel_rfl) (gives_no (by rfl)) ?_; (try simp only [List.getElem_toArray, List.getElem_cons_succ, List.getElem_cons_zero, Act.put, List.setIfInBounds_toArray, List.set_cons_zero, List.set_cons_succ])) | (refine lin_take (i := 21) (v := ?lv83) rfl (by kernel_rfl) (by kernel_rfl) (gives_val (by rfl) (fun x hx => ?lh83)) ?lr83; (case lh83 => ((have hk := hK.out x hx); clear hx; go_simp; (try with_reducible rfl))); (try simp only [List.getElem_toArray, List.getElem_cons_succ, List.getElem_cons_zero, Act.put, List.setIfInBounds_toArray, List.set_cons_zero, List.set_cons_succ])))
      refine lin_done (by kernel_rfl) (fun wrx hwrx => ?_)
      have hbk := Lib.hid (below_in HBk.out HBk.out.size hwrx)
      clear q1 q1' q2 q2' w1 w2 hwrx hK T
      cases p <;> cases q
      all_goals
        go_wp2
        go_roundg (n - (i + 1))
        case rel => exact ⟨i + 1, by omega, by omega, by go_num, _, _, rfl, rfl, hbk⟩
        case measure => omega
    · obtain rfl : i = n := by omega
      have hin : ¬ (i : Int) < (i : Int) := by omega
      have hb := HI.out
      clear HI
      cases p <;> cases q
      all_goals
        go_wp2
        go_returns
        exact ⟨_, rfl, by (repeat' (first | (with_reducible exact Below.refl _ _) | (with_reducible assumption) | (with_reducible refine below_alloc ?_ _) | (with_reducible refine Below.drew ?_) | (with_reducible refine Below.setCell ?_ ?_ _) | (with_reducible refine below_after ?_ (by assumption)) | go_size))⟩
/-- Whether a point comes before another one. -/
@[irreducible] def bfB (ax ay bx b_y : Int) : Bool := decide (ax < bx) || (decide (ax = bx) && decide (ay < b_y))
set_option maxHeartbeats 1000000 in
theorem before_any (ax ay bx b_y : Int) (w : World) : Calls Try.prog 20 #[.agg #[.int .i64 ax, .int .i64 ay], .agg #[.int .i64 bx, .int .i64 b_y]] w fun e w' => e = .returned (.bool (bfB ax ay bx b_y)) ∧ Below w.heap.size w w' := by
  have E := Lib.hid (show bfB ax ay bx b_y = (decide (ax < bx) || (decide (ax = bx) && decide (ay < b_y))) by unfold bfB; rfl)
  go_enter Try.func20, Try.ntmps20
  go_wp2
  all_goals
    go_returns
    refine ⟨ret_bool (E.out.trans ?_).symm, by (repeat' (first | (with_reducible exact Below.refl _ _) | (with_reducible assumption) | (with_reducible refine below_alloc ?_ _) | (with_reducible refine Below.drew ?_) | (with_reducible refine Below.setCell ?_ ?_ _) | (with_reducible refine below_after ?_ (by assumption)) | go_size))⟩
    first | (simp [*]; done) | (simp [*]; omega)
/-- The square of a distance. -/
@[irreducible] def spN (ax ay bx b_y : Int) : Int := (ax - bx) * (ax - bx) + (ay - b_y) * (ay - b_y)
set_option maxHeartbeats 1000000 in
theorem span_any {ax ay bx b_y : Int} (h0 : Sm ax) (h1 : Sm ay) (h2 : Sm bx) (h3 : Sm b_y) (w : World) :
    Calls Try.prog 21 #[.agg #[.int .i64 ax, .int .i64 ay], .agg #[.int .i64 bx, .int .i64 b_y]] w fun e w' => e = .returned (.int .i64 (spN ax ay bx b_y)) ∧ Below w.heap.size w w' := by
  have E := Lib.hid (show spN ax ay bx b_y = (ax - bx) * (ax - bx) + (ay - b_y) * (ay - b_y) by unfold spN; rfl)
  unfold Sm at *
  have p1 := abs_mul_le (a := ax - bx) (b := ax - bx) (m := 65536) (k := 65536) (by omega) (by omega) (by omega) (by omega)
  have p2 := abs_mul_le (a := ay - b_y) (b := ay - b_y) (m := 65536) (k := 65536) (by omega) (by omega) (by omega) (by omega)
  have q1 : -4294967296 ≤ (ax - bx) * (ax - bx) ∧ (ax - bx) * (ax - bx) ≤ 4294967296 := by omega
  have q2 : -4294967296 ≤ (ay - b_y) * (ay - b_y) ∧ (ay - b_y) * (ay - b_y) ≤ 4294967296 := by omega
  clear p1 p2
  obtain ⟨q1, q3⟩ := q1
  obtain ⟨q2, q4⟩ := q2
  obtain ⟨a1, a2⟩ := h0
  obtain ⟨b1, b2⟩ := h1
  obtain ⟨c1, c2⟩ := h2
  obtain ⟨d1, d2⟩ := h3
  go_enter Try.func21, Try.ntmps21
  go_wp2
  go_returns
  exact ⟨ret_int E.out.symm, by (repeat' (first | (with_reducible exact Below.refl _ _) | (with_reducible assumption) | (with_reducible refine below_alloc ?_ _) | (with_reducible refine Below.drew ?_) | (with_reducible refine Below.setCell ?_ ?_ _) | (with_reducible refine below_after ?_ (by assumption)) | go_size))⟩
end Go.Proofs.Ytkpochkfijplaaa
