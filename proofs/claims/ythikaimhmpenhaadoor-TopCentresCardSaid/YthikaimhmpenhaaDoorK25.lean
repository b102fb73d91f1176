/-
  What hull.Check returns, for all forms: the walk.
  (Written by wip/pack.py out of XFHullC.)
-/
import Derived.Test.YthikaimhmpenhaaDoorK01

namespace Go.Proofs.YthikaimhmpenhaaDoor
set_option linter.all false
open Go Go.RowKit Wd
set_option maxRecDepth 100000
theorem Ints.has {w : World} {b o : Nat} {l : List Int} (h : Ints w b o l) : Has w (some ⟨b, o, none⟩) l := fun _ => ⟨_, _, rfl, h⟩
theorem out_kp {A w1 : World} {m : Int} {x : World} (hc : w1.cell? ⟨A.heap.size, 0, none⟩ = some (.int .i64 m)) (hs : w1.heap.size = A.heap.size + 1) (k : Kp w1.heap.size [] w1 x) : x.cell? ⟨A.heap.size, 0, none⟩ = some (.int .i64 m) :=
  (k.cell _ _ (by omega) (by simp)).trans hc
theorem out_lt {A w1 : World} {x : World} (hs : w1.heap.size = A.heap.size + 1) (k : Kp w1.heap.size [] w1 x) : A.heap.size < x.heap.size := Nat.lt_of_lt_of_le (by omega) k.size
set_option maxHeartbeats 4000000 in
theorem check_any (ax az ah : Option Addr) (cx cz ch : Nat) (A : Nat → Option Addr) (C : Nat → Nat) (X Z : List Int) (H : List (List Int)) (w : World) (hf : Frm w ax az ah A C X Z H) :
    Calls Tryd.prog 13 #[.agg #[.slice ax X.length cx, .slice az Z.length cz, .slice ah H.length ch]] w fun e w' => e = .returned (.int .i64 (chk X Z H)) ∧ Below w.heap.size w w' := by
  by_cases g1 : X.length < 2 ∨ Z.length < 2
  · rw [show chk X Z H = 3 by unfold chk; rw [if_pos g1]]
    rcases (by omega : X.length < 2 ∨ (¬ X.length < 2 ∧ Z.length < 2)) with h | ⟨h, h'⟩
    · have HF := Lib.hid hf
      clear hf
      go_enter Tryd.func13, Tryd.ntmps13
      go_wp2_with ((with_reducible show bodyPost _ _ _ _ _ _); refine bodyPost_ret (by simp [results, Tryd.results13, go_sem, ]; try rfl) rfl ?_; exact ⟨rfl, by (repeat' first | (with_reducible first | exact Bq0 | assumption | refine Bq1 ?_ | refine Bq2 ?_ | refine Bq3 ?_ ?_ | refine Bq4 ?_ (by assumption)) | go_size)⟩)
    · have HF := Lib.hid hf
      clear hf
      go_enter Tryd.func13, Tryd.ntmps13
      go_wp2_with ((with_reducible show bodyPost _ _ _ _ _ _); refine bodyPost_ret (by simp [results, Tryd.results13, go_sem, ]; try rfl) rfl ?_; exact ⟨rfl, by (repeat' first | (with_reducible first | exact Bq0 | assumption | refine Bq1 ?_ | refine Bq2 ?_ | refine Bq3 ?_ ?_ | refine Bq4 ?_ (by assumption)) | go_size)⟩)
  by_cases g2 : 24 < X.length ∨ 16 < Z.length
  · rw [show chk X Z H = 4 by unfold chk; rw [if_neg g1, if_pos g2]]
    rcases (by omega : (24 < X.length ∧ 2 ≤ X.length ∧ 2 ≤ Z.length) ∨ (X.length ≤ 24 ∧ 2 ≤ X.length ∧ 2 ≤ Z.length ∧ 16 < Z.length)) with ⟨h1, h2, h3⟩ | ⟨h1, h2, h3, h4⟩
    · clear g1 g2
      have HF := Lib.hid hf
      clear hf
      go_enter Tryd.func13, Tryd.ntmps13
      go_wp2_with ((with_reducible show bodyPost _ _ _ _ _ _); refine bodyPost_ret (by simp [results, Tryd.results13, go_sem, ]; try rfl) rfl ?_; exact ⟨rfl, by (repeat' first | (with_reducible first | exact Bq0 | assumption | refine Bq1 ?_ | refine Bq2 ?_ | refine Bq3 ?_ ?_ | refine Bq4 ?_ (by assumption)) | go_size)⟩)
    · clear g1 g2
      have HF := Lib.hid hf
      clear hf
      go_enter Tryd.func13, Tryd.ntmps13
      go_wp2_with ((with_reducible show bodyPost _ _ _ _ _ _); refine bodyPost_ret (by simp [results, Tryd.results13, go_sem, ]; try rfl) rfl ?_; exact ⟨rfl, by (repeat' first | (with_reducible first | exact Bq0 | assumption | refine Bq1 ?_ | refine Bq2 ?_ | refine Bq3 ?_ ?_ | refine Bq4 ?_ (by assumption)) | go_size)⟩)
  have h1 : 2 ≤ X.length := by omega
  have h2 : 2 ≤ Z.length := by omega
  have h3 : X.length ≤ 24 := by omega
  have h4 : Z.length ≤ 16 := by omega
  by_cases g3 : H.length ≠ X.length
  · rw [show chk X Z H = 17 by unfold chk; rw [if_neg g1, if_neg g2, if_pos (Or.inl g3)]]
    have h5 : ¬ ((H.length : Int) = (X.length : Int)) := by omega
    clear g1 g2 g3
    have HF := Lib.hid hf
    clear hf
    go_enter Tryd.func13, Tryd.ntmps13
    go_wp2_with ((with_reducible show bodyPost _ _ _ _ _ _); refine bodyPost_ret (by simp [results, Tryd.results13, go_sem, ]; try rfl) rfl ?_; exact ⟨rfl, by (repeat' first | (with_reducible first | exact Bq0 | assumption | refine Bq1 ?_ | refine Bq2 ?_ | refine Bq3 ?_ ?_ | refine Bq4 ?_ (by assumption)) | go_size)⟩)
  have h5 : H.length = X.length := by omega
  obtain ⟨r, hr⟩ : ∃ r, r = chk X Z H := ⟨_, rfl⟩
  have R := hr
  unfold chk at R
  rw [if_neg g1, if_neg g2] at R
  rw [← hr]
  clear hr g1 g2 g3
  have h6 : ((H.length : Int) = (X.length : Int)) := by omega
  have C1 := Lib.hid (fun (W : World) (h : Frm W ax az ah A C X Z H) (B : Nat) hB hc => badRows_call Z.length az cz B H ah A C ch (by omega) W h.h hB hc)
  have C2 := Lib.hid (fun (W : World) (h : Frm W ax az ah A C X Z H) (B : Nat) hB hc => anyOut_call 32768 X ax cx B (by omega) W h.x hB hc)
  have C3 := Lib.hid (fun (W : World) (h : Frm W ax az ah A C X Z H) (B : Nat) hB hc => anyOut_call 4096 Z az cz B (by omega) W h.z hB hc)
  have C4 := Lib.hid (fun (W : World) (h : Frm W ax az ah A C X Z H) => ascending_any X ax cx (by omega) W h.x)
  have C5 := Lib.hid (fun (W : World) (h : Frm W ax az ah A C X Z H) => ascending_any Z az cz (by omega) W h.z)
  obtain ⟨bz, oz, rfl, hzi⟩ := hf.z (by omega)
  obtain ⟨bh, oh, rfl, hri⟩ := hf.h (by omega)
  clear hzi hri
  have RR := Lib.hid R
  clear R
  have HL := Lib.hid h5
  clear h5
  have HF := Lib.hid hf
  clear hf
  go_enter Tryd.func13, Tryd.ntmps13
  go_upto_region 5 with (fail)
  refine wp_world (fun x => (∀ o, x.cell? ⟨w.heap.size, o, none⟩ = (#[.slice ax X.length cx, .slice (some ⟨bz, oz, none⟩) Z.length cz, .slice (some ⟨bh, oh, none⟩) H.length ch] : Array Value)[o]?) ∧ (∀ o, x.frozen? ⟨w.heap.size, o, none⟩ = false) ∧ w.heap.size < x.heap.size ∧ Below w.heap.size w x) (by (repeat' apply And.intro) <;> first | (intro o; simp [go_sem]; done) | ((repeat' first | (with_reducible first | exact Bq0 | assumption | refine Bq1 ?_ | refine Bq2 ?_ | refine Bq3 ?_ ?_ | refine Bq4 ?_ (by assumption)) | go_size); done) | omega | (simp [go_sem]; done) | (simp [go_sem]; omega)) ?_
  rintro G ⟨hGc0, hGf0, hGz0, hGb⟩
  have HFG := Lib.hid (HF.out.later hGb)
  go_wp2_with fail
  ((with_reducible refine (C1.out _ HFG.out w.heap.size hGz0 (by rw [hGc0]; simp)).mono ?_); rintro e w1 ⟨rfl, hb1⟩)
  have hk1 : Kp G.heap.size [] G w1 := (by (repeat first | (with_reducible first | assumption | exact Kq0 | refine Kq1 ?_ | refine Kq2 ?_) | ((with_reducible refine Kq3 ?_ ?_); focus first | (left; go_size; done) | (right; simp; done)) | (with_reducible apply Kp.later; assumption)))
  have h1c0 := fun o => (hk1.cell _ o hGz0 (by simp)).trans (hGc0 o)
  have h1f0 := fun o => (hk1.froz _ o hGz0).trans (hGf0 o)
  have h1z0 := Nat.lt_of_lt_of_le hGz0 hk1.size
  have HF1 := Lib.hid (HFG.out.later hb1)
  obtain ⟨b1, e1⟩ : ∃ b1, b1 = badRows Z.length H := ⟨_, rfl⟩
  rw [← e1]
  have E1 := Lib.hid e1
  clear e1
  cases b1
  case true =>
    obtain rfl : r = 17 := by have := RR.out; rw [← E1.out, if_pos (Or.inr rfl)] at this; exact this
    go_wp2_with ((with_reducible show bodyPost _ _ _ _ _ _); refine bodyPost_ret (by simp [results, Tryd.results13, go_sem, ]; try rfl) rfl ?_; exact ⟨rfl, by (repeat' first | (with_reducible first | exact Bq0 | assumption | refine Bq1 ?_ | refine Bq2 ?_ | refine Bq3 ?_ ?_ | refine Bq4 ?_ (by assumption)) | go_size)⟩)
  have RR2 := RR.out
  rw [← E1.out, if_neg (by simp [HL.out])] at RR2
  have RS := Lib.hid RR2
  clear RR2 RR
  go_upto_region 7 with (fail)
  refine wp_world (fun x => (∀ o, x.cell? ⟨w.heap.size, o, none⟩ = (#[.slice ax X.length cx, .slice (some ⟨bz, oz, none⟩) Z.length cz, .slice (some ⟨bh, oh, none⟩) H.length ch] : Array Value)[o]?) ∧ (∀ o, x.frozen? ⟨w.heap.size, o, none⟩ = false) ∧ w.heap.size < x.heap.size ∧ Below w1.heap.size w1 x) (by (repeat' apply And.intro) <;> first | (intro o; simp [go_sem, h1c0, h1f0, h1z0]; done) | ((repeat' first | (with_reducible first | exact Bq0 | assumption | refine Bq1 ?_ | refine Bq2 ?_ | refine Bq3 ?_ ?_ | refine Bq4 ?_ (by assumption)) | go_size); done) | omega | (simp [go_sem, h1c0, h1f0, h1z0]; done) | (simp [go_sem, h1c0, h1f0, h1z0]; omega)) ?_
  rintro M ⟨hMc0, hMf0, hMz0, hMb⟩
  have HFM := Lib.hid (HF1.out.later hMb)
  have hMw : Below w.heap.size w M := below_after (below_after hGb hb1) hMb
  clear HF1 HFG HF hGc0 hGf0 h1c0 h1f0 hb1 hk1 hMb
  have hMK := Lib.hid (show ∀ x : World, Kp M.heap.size [] M x → (∀ o, x.cell? ⟨w.heap.size, o, none⟩ = (#[.slice ax X.length cx, .slice (some ⟨bz, oz, none⟩) Z.length cz, .slice (some ⟨bh, oh, none⟩) H.length ch] : Array Value)[o]?) ∧ w.heap.size < x.heap.size ∧ M.heap.size ≤ x.heap.size from
    fun x k => ⟨fun o => (k.cell _ o hMz0 (by simp)).trans (hMc0 o), Nat.lt_of_lt_of_le hMz0 k.size, k.size⟩)
  obtain ⟨b2, e2⟩ : ∃ b2, b2 = anyOut 32768 X := ⟨_, rfl⟩
  rw [← e2] at C2
  have E2 := Lib.hid e2
  clear e2
  cases b2
  case true =>
    obtain rfl : r = 9 := by have := RS.out; rw [← E2.out, if_pos (Or.inl rfl)] at this; exact this
    refine wp_region_held_drew (S := fun x => (∀ o, x.cell? ⟨w.heap.size, o, none⟩ = (#[.slice ax X.length cx, .slice (some ⟨bz, oz, none⟩) Z.length cz, .slice (some ⟨bh, oh, none⟩) H.length ch] : Array Value)[o]?) ∧ w.heap.size < x.heap.size ∧ M.heap.size ≤ x.heap.size) (by kernel_rfl) (by (refine hMK.out _ ?_; (repeat first | (with_reducible first | assumption | exact Kq0 | refine Kq1 ?_ | refine Kq2 ?_) | ((with_reducible refine Kq3 ?_ ?_); focus first | (left; go_size; done) | (right; simp; done)) | (with_reducible apply Kp.later; assumption)))) (fun hHeld => ?_)
    iterate 11 (all_goals (first
      | ((refine wpAnyH_take (i := 0) (v := .pointer (some ⟨w.heap.size, 0, none⟩)) rfl (by kernel_rfl) (by decide +kernel) (by decide +kernel) (fun _ _ _ h => h) (Or.inl ⟨rfl, fun x hx => (by ((try dsimp only at hx); go_simp))⟩) hHeld ?_); (try simp only [Nq1, Nq2, Nq3, Act.put, Nq4, Nq5, Nq6]))
      | ((refine wpAnyH_take (i := 1) (v := .slice ax X.length cx) rfl (by kernel_rfl) (by decide +kernel) (by decide +kernel) (fun _ _ _ h => h) (Or.inl ⟨rfl, fun x hx => (by ((try dsimp only at hx); go_simp))⟩) hHeld ?_); (try simp only [Nq1, Nq2, Nq3, Act.put, Nq4, Nq5, Nq6]))
      | ((refine wpAnyH_take (i := 4) (v := .bool true) rfl (by kernel_rfl) (by decide +kernel) (by decide +kernel) (fun _ _ _ h => h) (Or.inl ⟨rfl, fun x hx => (by ((try dsimp only at hx); go_simp))⟩) hHeld ?_); (try simp only [Nq1, Nq2, Nq3, Act.put, Nq4, Nq5, Nq6]))
      | ((refine wpAnyH_take (i := 5) (v := undef) rfl (by kernel_rfl) (by decide +kernel) (by decide +kernel) (fun _ _ _ h => h) (Or.inr ⟨rfl, rfl⟩) hHeld ?_); (try simp only [Nq1, Nq2, Nq3, Act.put, Nq4, Nq5, Nq6]))
      | ((refine wpAnyH_take (i := 6) (v := undef) rfl (by kernel_rfl) (by decide +kernel) (by decide +kernel) (fun _ _ _ h => h) (Or.inr ⟨rfl, rfl⟩) hHeld ?_); (try simp only [Nq1, Nq2, Nq3, Act.put, Nq4, Nq5, Nq6]))
      | ((refine wpAnyH_take (i := 7) (v := undef) rfl (by kernel_rfl) (by decide +kernel) (by decide +kernel) (fun _ _ _ h => h) (Or.inr ⟨rfl, rfl⟩) hHeld ?_); (try simp only [Nq1, Nq2, Nq3, Act.put, Nq4, Nq5, Nq6]))
      | ((refine wpAnyH_take (i := 8) (v := undef) rfl (by kernel_rfl) (by decide +kernel) (by decide +kernel) (fun _ _ _ h => h) (Or.inr ⟨rfl, rfl⟩) hHeld ?_); (try simp only [Nq1, Nq2, Nq3, Act.put, Nq4, Nq5, Nq6]))
      | ((refine wpAnyH_take (i := 9) (v := .bool true) rfl (by kernel_rfl) (by decide +kernel) (by decide +kernel) (fun _ _ _ h => h) (Or.inl ⟨rfl, fun x hx => (by ((try dsimp only at hx); go_simp))⟩) hHeld ?_); (try simp only [Nq1, Nq2, Nq3, Act.put, Nq4, Nq5, Nq6]))
      | ((refine wpAnyH_take (i := 10) (v := .bool true) rfl (by kernel_rfl) (by decide +kernel) (by decide +kernel) (fun _ _ _ h => h) (Or.inl ⟨rfl, fun x hx => (by ((try dsimp only at hx); go_simp))⟩) hHeld ?_); (try simp only [Nq1, Nq2, Nq3, Act.put, Nq4, Nq5, Nq6]))
      | ((refine wpAnyH_ready (rs := [2]) (by decide +kernel) (by simp) (AllReadyH.cons rfl (fun K hK => ?_) AllReadyH.nil)) <;> (go_simp; (first | (go_at_call 31; (with_reducible refine (outside_any 32768 _).mono ?_); rintro e M_1 ⟨rfl, hs1, hq1, hbM_1⟩; (try simp only [World.size_drew] at hs1 hq1); have hkM_1 : Kp M.heap.size [] M M_1 := (by (repeat first | (with_reducible first | assumption | exact Kq0 | refine Kq1 ?_ | refine Kq2 ?_) | ((with_reducible refine Kq3 ?_ ?_); focus first | (left; go_size; done) | (right; simp; done)) | (with_reducible apply Kp.later; assumption)))) | (go_at_call 30; (with_reducible refine (C2.out _ (HFM.out.kp (by (repeat first | (with_reducible first | assumption | exact Kq0 | refine Kq1 ?_ | refine Kq2 ?_) | ((with_reducible refine Kq3 ?_ ?_); focus first | (left; go_size; done) | (right; simp; done)) | (with_reducible apply Kp.later; assumption)))) _ (out_lt hs1 (by (repeat first | (with_reducible first | assumption | exact Kq0 | refine Kq1 ?_ | refine Kq2 ?_) | ((with_reducible refine Kq3 ?_ ?_); focus first | (left; go_size; done) | (right; simp; done)) | (with_reducible apply Kp.later; assumption)))) (out_kp hq1 hs1 (by (repeat first | (with_reducible first | assumption | exact Kq0 | refine Kq1 ?_ | refine Kq2 ?_) | ((with_reducible refine Kq3 ?_ ?_); focus first | (left; go_size; done) | (right; simp; done)) | (with_reducible apply Kp.later; assumption))))).mono ?_); rintro e M_2 ⟨rfl, hbM_2⟩; have hkM_2 : Kp M.heap.size [] M M_2 := (by (repeat first | (with_reducible first | assumption | exact Kq0 | refine Kq1 ?_ | refine Kq2 ?_) | ((with_reducible refine Kq3 ?_ ?_); focus first | (left; go_size; done) | (right; simp; done)) | (with_reducible apply Kp.later; assumption)))) | skip); (refine hK.out _ _ ?_ (fun hNew => ?_)); (focus (refine hMK.out _ ?_; (repeat first | (with_reducible first | assumption | exact Kq0 | refine Kq1 ?_ | refine Kq2 ?_) | ((with_reducible refine Kq3 ?_ ?_); focus first | (left; go_size; done) | (right; simp; done)) | (with_reducible apply Kp.later; assumption)))); clear hHeld hK K; have hHeld := hNew; clear hNew; (try simp only [Nq1, Nq2, Nq3, Act.put, Nq4, Nq5, Nq6])))
      | ((refine wpAnyH_ready (rs := [3]) (by decide +kernel) (by simp) (AllReadyH.cons rfl (fun K hK => ?_) AllReadyH.nil)) <;> (go_simp; (first | (go_at_call 31; (with_reducible refine (outside_any 32768 _).mono ?_); rintro e M_1 ⟨rfl, hs1, hq1, hbM_1⟩; (try simp only [World.size_drew] at hs1 hq1); have hkM_1 : Kp M.heap.size [] M M_1 := (by (repeat first | (with_reducible first | assumption | exact Kq0 | refine Kq1 ?_ | refine Kq2 ?_) | ((with_reducible refine Kq3 ?_ ?_); focus first | (left; go_size; done) | (right; simp; done)) | (with_reducible apply Kp.later; assumption)))) | (go_at_call 30; (with_reducible refine (C2.out _ (HFM.out.kp (by (repeat first | (with_reducible first | assumption | exact Kq0 | refine Kq1 ?_ | refine Kq2 ?_) | ((with_reducible refine Kq3 ?_ ?_); focus first | (left; go_size; done) | (right; simp; done)) | (with_reducible apply Kp.later; assumption)))) _ (out_lt hs1 (by (repeat first | (with_reducible first | assumption | exact Kq0 | refine Kq1 ?_ | refine Kq2 ?_) | ((with_reducible refine Kq3 ?_ ?_); focus first | (left; go_size; done) | (right; simp; done)) | (with_reducible apply Kp.later; assumption)))) (out_kp hq1 hs1 (by (repeat first | (with_reducible first | assumption | exact Kq0 | refine Kq1 ?_ | refine Kq2 ?_) | ((with_reducible refine Kq3 ?_ ?_); focus first | (left; go_size; done) | (right; simp; done)) | (with_reducible apply Kp.later; assumption))))).mono ?_); rintro e M_2 ⟨rfl, hbM_2⟩; have hkM_2 : Kp M.heap.size [] M M_2 := (by (repeat first | (with_reducible first | assumption | exact Kq0 | refine Kq1 ?_ | refine Kq2 ?_) | ((with_reducible refine Kq3 ?_ ?_); focus first | (left; go_size; done) | (right; simp; done)) | (with_reducible apply Kp.later; assumption)))) | skip); (refine hK.out _ _ ?_ (fun hNew => ?_)); (focus (refine hMK.out _ ?_; (repeat first | (with_reducible first | assumption | exact Kq0 | refine Kq1 ?_ | refine Kq2 ?_) | ((with_reducible refine Kq3 ?_ ?_); focus first | (left; go_size; done) | (right; simp; done)) | (with_reducible apply Kp.later; assumption)))); clear hHeld hK K; have hHeld := hNew; clear hNew; (try simp only [Nq1, Nq2, Nq3, Act.put, Nq4, Nq5, Nq6])))
      | ((refine wpAnyH_ready (rs := [2, 3]) (by decide +kernel) (by simp) (AllReadyH.cons rfl (fun K hK => ?_) (AllReadyH.cons rfl (fun K hK => ?_) AllReadyH.nil))) <;> (go_simp; (first | (go_at_call 31; (with_reducible refine (outside_any 32768 _).mono ?_); rintro e M_1 ⟨rfl, hs1, hq1, hbM_1⟩; (try simp only [World.size_drew] at hs1 hq1); have hkM_1 : Kp M.heap.size [] M M_1 := (by (repeat first | (with_reducible first | assumption | exact Kq0 | refine Kq1 ?_ | refine Kq2 ?_) | ((with_reducible refine Kq3 ?_ ?_); focus first | (left; go_size; done) | (right; simp; done)) | (with_reducible apply Kp.later; assumption)))) | (go_at_call 30; (with_reducible refine (C2.out _ (HFM.out.kp (by (repeat first | (with_reducible first | assumption | exact Kq0 | refine Kq1 ?_ | refine Kq2 ?_) | ((with_reducible refine Kq3 ?_ ?_); focus first | (left; go_size; done) | (right; simp; done)) | (with_reducible apply Kp.later; assumption)))) _ (out_lt hs1 (by (repeat first | (with_reducible first | assumption | exact Kq0 | refine Kq1 ?_ | refine Kq2 ?_) | ((with_reducible refine Kq3 ?_ ?_); focus first | (left; go_size; done) | (right; simp; done)) | (with_reducible apply Kp.later; assumption)))) (out_kp hq1 hs1 (by (repeat first | (with_reducible first | assumption | exact Kq0 | refine Kq1 ?_ | refine Kq2 ?_) | ((with_reducible refine Kq3 ?_ ?_); focus first | (left; go_size; done) | (right; simp; done)) | (with_reducible apply Kp.later; assumption))))).mono ?_); rintro e M_2 ⟨rfl, hbM_2⟩; have hkM_2 : Kp M.heap.size [] M M_2 := (by (repeat first | (with_reducible first | assumption | exact Kq0 | refine Kq1 ?_ | refine Kq2 ?_) | ((with_reducible refine Kq3 ?_ ?_); focus first | (left; go_size; done) | (right; simp; done)) | (with_reducible apply Kp.later; assumption)))) | skip); (refine hK.out _ _ ?_ (fun hNew => ?_)); (focus (refine hMK.out _ ?_; (repeat first | (with_reducible first | assumption | exact Kq0 | refine Kq1 ?_ | refine Kq2 ?_) | ((with_reducible refine Kq3 ?_ ?_); focus first | (left; go_size; done) | (right; simp; done)) | (with_reducible apply Kp.later; assumption)))); clear hHeld hK K; have hHeld := hNew; clear hNew; (try simp only [Nq1, Nq2, Nq3, Act.put, Nq4, Nq5, Nq6])))))
    all_goals (refine wpAnyH_done (by kernel_rfl) ?_ _; clear hHeld)
    all_goals (go_wp2_with ((with_reducible show bodyPost _ _ _ _ _ _); refine bodyPost_ret (by simp [results, Tryd.results13, go_sem, ]; try rfl) rfl ?_; exact ⟨rfl, by (repeat' first | (with_reducible first | exact Bq0 | assumption | refine Bq1 ?_ | refine Bq2 ?_ | refine Bq3 ?_ ?_ | refine Bq4 ?_ (by assumption)) | go_size)⟩))
  have RS2 := RS.out
  rw [← E2.out] at RS2
  have RT := Lib.hid RS2
  clear RS2 RS E2
  obtain ⟨b3, e3⟩ : ∃ b3, b3 = anyOut 4096 Z := ⟨_, rfl⟩
  rw [← e3] at C3
  have E3 := Lib.hid e3
  clear e3
  go_cut [42] (fun v wx => v = .bool b3 ∧ Below M.heap.size M wx)
  case first =>
    first | (go_region_held3 (fun x => (∀ o, x.cell? ⟨w.heap.size, o, none⟩ = (#[.slice ax X.length cx, .slice (some ⟨bz, oz, none⟩) Z.length cz, .slice (some ⟨bh, oh, none⟩) H.length ch] : Array Value)[o]?) ∧ w.heap.size < x.heap.size ∧ M.heap.size ≤ x.heap.size) ((refine hMK.out _ ?_; (repeat first | (with_reducible first | assumption | exact Kq0 | refine Kq1 ?_ | refine Kq2 ?_) | ((with_reducible refine Kq3 ?_ ?_); focus first | (left; go_size; done) | (right; simp; done)) | (with_reducible apply Kp.later; assumption)))) ((first | (go_at_call 31; (with_reducible refine (outside_any 32768 _).mono ?_); rintro e M_1 ⟨rfl, hs1, hq1, hbM_1⟩; (try simp only [World.size_drew] at hs1 hq1); have hkM_1 : Kp M.heap.size [] M M_1 := (by (repeat first | (with_reducible first | assumption | exact Kq0 | refine Kq1 ?_ | refine Kq2 ?_) | ((with_reducible refine Kq3 ?_ ?_); focus first | (left; go_size; done) | (right; simp; done)) | (with_reducible apply Kp.later; assumption)))) | (go_at_call 30; (with_reducible refine (C2.out _ (HFM.out.kp (by (repeat first | (with_reducible first | assumption | exact Kq0 | refine Kq1 ?_ | refine Kq2 ?_) | ((with_reducible refine Kq3 ?_ ?_); focus first | (left; go_size; done) | (right; simp; done)) | (with_reducible apply Kp.later; assumption)))) _ (out_lt hs1 (by (repeat first | (with_reducible first | assumption | exact Kq0 | refine Kq1 ?_ | refine Kq2 ?_) | ((with_reducible refine Kq3 ?_ ?_); focus first | (left; go_size; done) | (right; simp; done)) | (with_reducible apply Kp.later; assumption)))) (out_kp hq1 hs1 (by (repeat first | (with_reducible first | assumption | exact Kq0 | refine Kq1 ?_ | refine Kq2 ?_) | ((with_reducible refine Kq3 ?_ ?_); focus first | (left; go_size; done) | (right; simp; done)) | (with_reducible apply Kp.later; assumption))))).mono ?_); rintro e M_2 ⟨rfl, hbM_2⟩; have hkM_2 : Kp M.heap.size [] M M_2 := (by (repeat first | (with_reducible first | assumption | exact Kq0 | refine Kq1 ?_ | refine Kq2 ?_) | ((with_reducible refine Kq3 ?_ ?_); focus first | (left; go_size; done) | (right; simp; done)) | (with_reducible apply Kp.later; assumption)))) | (go_at_call 31; (with_reducible refine (outside_any 4096 _).mono ?_); rintro e M_3 ⟨rfl, hs3, hq3, hbM_3⟩; (try simp only [World.size_drew] at hs3 hq3); have hkM_3 : Kp M.heap.size [] M M_3 := (by (repeat first | (with_reducible first | assumption | exact Kq0 | refine Kq1 ?_ | refine Kq2 ?_) | ((with_reducible refine Kq3 ?_ ?_); focus first | (left; go_size; done) | (right; simp; done)) | (with_reducible apply Kp.later; assumption)))) | (go_at_call 30; (with_reducible refine (C3.out _ (HFM.out.kp (by (repeat first | (with_reducible first | assumption | exact Kq0 | refine Kq1 ?_ | refine Kq2 ?_) | ((with_reducible refine Kq3 ?_ ?_); focus first | (left; go_size; done) | (right; simp; done)) | (with_reducible apply Kp.later; assumption)))) _ (out_lt hs3 (by (repeat first | (with_reducible first | assumption | exact Kq0 | refine Kq1 ?_ | refine Kq2 ?_) | ((with_reducible refine Kq3 ?_ ?_); focus first | (left; go_size; done) | (right; simp; done)) | (with_reducible apply Kp.later; assumption)))) (out_kp hq3 hs3 (by (repeat first | (with_reducible first | assumption | exact Kq0 | refine Kq1 ?_ | refine Kq2 ?_) | ((with_reducible refine Kq3 ?_ ?_); focus first | (left; go_size; done) | (right; simp; done)) | (with_reducible apply Kp.later; assumption))))).mono ?_); rintro e M_4 ⟨rfl, hbM_4⟩; have hkM_4 : Kp M.heap.size [] M M_4 := (by (repeat first | (with_reducible first | assumption | exact Kq0 | refine Kq1 ?_ | refine Kq2 ?_) | ((with_reducible refine Kq3 ?_ ?_); focus first | (left; go_size; done) | (right; simp; done)) | (with_reducible apply Kp.later; assumption))))))) | fail
    all_goals go_wp2
    all_goals go_meet
    all_goals (case rel => exact ⟨rfl, by (repeat' first | (with_reducible first | exact Bq0 | assumption | refine Bq1 ?_ | refine Bq2 ?_ | refine Bq3 ?_ ?_ | refine Bq4 ?_ (by assumption)) | go_size)⟩)
  case rest =>
    obtain ⟨rfl, hBc⟩ := hcut
    have HFC := Lib.hid (HFM.out.later hBc)
    have hwc : Below w.heap.size w wc := below_after hMw hBc
    have c0 : ∀ o, wc.cell? ⟨w.heap.size, o, none⟩ = (#[.slice ax X.length cx, .slice (some ⟨bz, oz, none⟩) Z.length cz, .slice (some ⟨bh, oh, none⟩) H.length ch] : Array Value)[o]? := keep_cell hBc hMz0 hMc0
    have z0 : w.heap.size < wc.heap.size := keep_lt hBc hMz0
    clear hMK hMc0 hMf0 hMz0 hMw HFM hBc C1 C2 C3
    cases b3
    case true =>
      obtain rfl : r = 9 := by have := RT.out; rw [← E3.out, if_pos (Or.inr rfl)] at this; exact this
      go_wp2_with ((with_reducible show bodyPost _ _ _ _ _ _); refine bodyPost_ret (by simp [results, Tryd.results13, go_sem, ]; try rfl) rfl ?_; exact ⟨rfl, by (repeat' first | (with_reducible first | exact Bq0 | assumption | refine Bq1 ?_ | refine Bq2 ?_ | refine Bq3 ?_ ?_ | refine Bq4 ?_ (by assumption)) | go_size)⟩)
    have RT2 := RT.out
    rw [← E3.out, if_neg (by simp)] at RT2
    have RU := Lib.hid RT2
    clear RT2
    clear RT E3
    go_wp2
    go_loopg [3, 56] H.length (fun gg v i wr => ∃ k : Nat, k ≤ H.length ∧ H.length - k ≤ gg ∧ i = .int .i64 (k : Int) ∧ v = .bool (rowsNil H k) ∧ Hid (rowsOut 4096 H k = false) ∧ Hid (Below wc.heap.size wc wr))
    case atStart => exact ⟨0, by omega, by omega, rfl, by first | rfl | rw [rowsNil_zero], Lib.hid (rowsOut_zero _ _), Lib.hid (Below.refl _ _)⟩
    case round =>
      obtain ⟨k, hk, hgk, rfl, rfl, HO, HB⟩ := hrel
      by_cases hlt : k < H.length
      · have hltX : k < X.length := by have := HL.out; omega
        obtain ⟨b', o', e', hri⟩ := HFC.out.h (by omega)
        obtain ⟨rfl, rfl⟩ : bh = b' ∧ oh = o' := by simpa using e'
        have hri' := hri.later HB.out
        have hcell := hri'.cell k hlt
        have hlen : (row H k).length = Z.length := badRows_at E1.out.symm hlt
        obtain ⟨rb, ro, ea, hi⟩ := hri'.row k hlt (by omega)
        rw [ea] at hcell
        have HI := Lib.hid hi
        have hrb := hi.lt
        have HS1 := Lib.hid (rowsOut_succ 4096 hlt)
        have HS2 := Lib.hid (rowsNil_succ hlt)
        have HE := Lib.hid (fun h : rowsOut 4096 H (k + 1) = true => rowsOut_more (by omega) h)
        obtain ⟨l, hl⟩ : ∃ l, l = row H k := ⟨_, rfl⟩
        rw [← hl] at HI hcell hlen HS1 HS2
        have c0' : ∀ o, wr.cell? ⟨w.heap.size, o, none⟩ = (#[.slice ax X.length cx, .slice (some ⟨bz, oz, none⟩) Z.length cz, .slice (some ⟨bh, oh, none⟩) H.length ch] : Array Value)[o]? := keep_cell HB.out z0 c0
        have K0 := anyOut_call 4096 l (some ⟨rb, ro, none⟩) (C k)
        have M1 := max_any l rb ro (C k) (by omega) (by omega)
        have M2 := max_nil (m := 4096) (l := l) (by omega)
        rw [hlen] at K0 hcell M1 M2
        have K0' := Lib.hid K0
        have M1' := Lib.hid M1
        have M2' := Lib.hid M2
        clear hl hri hri' hi e' ea hlen K0 M1 M2
        go_wp2_with fail
        ((with_reducible refine (outside_any 4096 _).mono ?_); rintro e w1 ⟨rfl, hs1, hq1, hb1⟩)
        go_wp2_with fail
        ((with_reducible refine (K0'.out _ (by omega) _ (HI.out.later hb1).has (by omega) hq1).mono ?_); rintro e w2 ⟨rfl, hb2⟩)
        obtain ⟨b5, e5⟩ : ∃ b5, b5 = anyOut 4096 l := ⟨_, rfl⟩
        rw [← e5] at HS1 ⊢
        have E5 := Lib.hid e5
        clear e5
        have hbb : Below wr.heap.size wr w2 := below_after hb1 hb2
        cases b5
        case true =>
          obtain rfl : r = 9 := by have := RU.out; rw [if_pos (HE.out (by rw [HS1.out]; simp))] at this; exact this
          have hB := HB.out
          go_wp2_with ((with_reducible show bodyPost _ _ _ _ _ _); refine bodyPost_ret (by simp [results, Tryd.results13, go_sem, ]; try rfl) rfl ?_; exact ⟨rfl, by (repeat' first | (with_reducible first | exact Bq0 | assumption | refine Bq1 ?_ | refine Bq2 ?_ | refine Bq3 ?_ ?_ | refine Bq4 ?_ (by assumption)) | go_size)⟩)
        obtain ⟨b6, e6⟩ : ∃ b6, b6 = rowsNil H k := ⟨_, rfl⟩
        rw [← e6] at HS2 ⊢
        clear e6
        have HI2 := Lib.hid (HI.out.later hbb)
        have HB2 := Lib.hid (below_after HB.out hbb)
        have HR2 := Lib.hid (show rowsOut 4096 H (k + 1) = false by rw [HS1.out, HO.out]; rfl)
        have M1 := M1'.out
        have M2 := M2'.out E5.out.symm
        clear M1' M2'
        generalize maxTo l (Z.length - 1) = mx at M1 M2
        have K1 := Lib.hid M1
        have K2 := Lib.hid M2
        clear M1 M2 HI HB HO HS1 HE hbb hb1 hb2 hq1 hs1
        cases b6
        case false =>
          go_wp2
          go_roundg (H.length - (k + 1))
          case rel => exact ⟨k + 1, by omega, by omega, by go_num, by rw [HS2.out]; rfl, HR2, HB2⟩
          case measure => omega
        case true =>
          go_wp2_with fail
          ((with_reducible refine (K1.out _ HI2.out).mono ?_); rintro e w3 ⟨rfl, hb3⟩)
          have HB3 := Lib.hid (below_after HB2.out hb3)
          go_wp2
          go_roundg (H.length - (k + 1))
          case rel => exact ⟨k + 1, by omega, by omega, by go_num, by rw [HS2.out, ← K2.out]; simp, HR2, HB3⟩
          case measure => omega
      · obtain rfl : k = H.length := by omega
        have hgX : ¬ H.length < X.length := by have := HL.out; omega
        have RU2 := RU.out
        rw [if_neg (by rw [HO.out]; simp)] at RU2
        have RV := Lib.hid RU2
        clear RU2 RU HO
        have hB := HB.out
        have HFW := Lib.hid (HFC.out.later hB)
        have c0' : ∀ o, wr.cell? ⟨w.heap.size, o, none⟩ = (#[.slice ax X.length cx, .slice (some ⟨bz, oz, none⟩) Z.length cz, .slice (some ⟨bh, oh, none⟩) H.length ch] : Array Value)[o]? := keep_cell hB z0 c0
        have z0' := keep_lt hB z0
        obtain ⟨b', o', e', hzi⟩ := HFC.out.z (by omega)
        obtain ⟨rfl, rfl⟩ : bz = b' ∧ oz = o' := by simpa using e'
        have HZ := Lib.hid (hzi.later hB)
        have hzl := hzi.lt
        have hzs := hB.size
        have hwr : Below w.heap.size w wr := below_after hwc hB
        have K4 := Lib.hid (C4.out)
        clear e' hzi c0 z0 HB hB hwc
        obtain ⟨b7, e7⟩ : ∃ b7, b7 = asc X := ⟨_, rfl⟩
        obtain ⟨b8, e8⟩ : ∃ b8, b8 = asc Z := ⟨_, rfl⟩
        obtain ⟨b9, e9⟩ : ∃ b9, b9 = rowsNil H H.length := ⟨_, rfl⟩
        rw [← e7] at C4 K4
        rw [← e8] at C5
        rw [← e9]
        have E7 := Lib.hid e7
        have E8 := Lib.hid e8
        have E9 := Lib.hid e9
        have R4 := RV.out
        rw [← e7, ← e8, ← e9] at R4
        have RW' := Lib.hid R4
        clear e7 e8 e9 R4 RV
        go_wp2_with fail
        ((with_reducible refine (C4.out _ HFW.out).mono ?_); rintro e w1 ⟨rfl, hb1⟩)
        have HF2 := Lib.hid (HFW.out.later hb1)
        have c1 : ∀ o, w1.cell? ⟨w.heap.size, o, none⟩ = (#[.slice ax X.length cx, .slice (some ⟨bz, oz, none⟩) Z.length cz, .slice (some ⟨bh, oh, none⟩) H.length ch] : Array Value)[o]? := keep_cell hb1 z0' c0'
        have z1 := keep_lt hb1 z0'
        have HZ1 := Lib.hid (HZ.out.later hb1)
        cases b7
        case false =>
          obtain rfl : r = 11 := by have := RW'.out; rw [if_pos (Or.inl rfl)] at this; exact this
          go_wp2_with ((with_reducible show bodyPost _ _ _ _ _ _); refine bodyPost_ret (by simp [results, Tryd.results13, go_sem, ]; try rfl) rfl ?_; exact ⟨rfl, by (repeat' first | (with_reducible first | exact Bq0 | assumption | refine Bq1 ?_ | refine Bq2 ?_ | refine Bq3 ?_ ?_ | refine Bq4 ?_ (by assumption)) | go_size)⟩)
        go_wp2_with fail
        ((with_reducible refine (C5.out _ HF2.out).mono ?_); rintro e w2 ⟨rfl, hb2⟩)
        have c2 : ∀ o, w2.cell? ⟨w.heap.size, o, none⟩ = (#[.slice ax X.length cx, .slice (some ⟨bz, oz, none⟩) Z.length cz, .slice (some ⟨bh, oh, none⟩) H.length ch] : Array Value)[o]? := keep_cell hb2 z1 c1
        have z2 := keep_lt hb2 z1
        have HZ2 := Lib.hid (HZ1.out.later hb2)
        have cz0 := HZ2.out.first (by omega)
        cases b8
        case false =>
          obtain rfl : r = 11 := by have := RW'.out; rw [if_pos (Or.inr (Or.inl rfl))] at this; exact this
          go_wp2_with ((with_reducible show bodyPost _ _ _ _ _ _); refine bodyPost_ret (by simp [results, Tryd.results13, go_sem, ]; try rfl) rfl ?_; exact ⟨rfl, by (repeat' first | (with_reducible first | exact Bq0 | assumption | refine Bq1 ?_ | refine Bq2 ?_ | refine Bq3 ?_ ?_ | refine Bq4 ?_ (by assumption)) | go_size)⟩)
        by_cases h0 : ix Z 0 = 0
        · rw [h0] at cz0
          cases b9
          case false =>
            obtain rfl : r = 0 := by have := RW'.out; rw [if_neg (by simp [h0]), if_neg (by simp)] at this; exact this
            go_wp2_with ((with_reducible show bodyPost _ _ _ _ _ _); refine bodyPost_ret (by simp [results, Tryd.results13, go_sem, ]; try rfl) rfl ?_; exact ⟨rfl, by (repeat' first | (with_reducible first | exact Bq0 | assumption | refine Bq1 ?_ | refine Bq2 ?_ | refine Bq3 ?_ ?_ | refine Bq4 ?_ (by assumption)) | go_size)⟩)
          case true =>
            obtain rfl : r = 17 := by have := RW'.out; rw [if_neg (by simp [h0]), if_pos rfl] at this; exact this
            go_wp2_with ((with_reducible show bodyPost _ _ _ _ _ _); refine bodyPost_ret (by simp [results, Tryd.results13, go_sem, ]; try rfl) rfl ?_; exact ⟨rfl, by (repeat' first | (with_reducible first | exact Bq0 | assumption | refine Bq1 ?_ | refine Bq2 ?_ | refine Bq3 ?_ ?_ | refine Bq4 ?_ (by assumption)) | go_size)⟩)
        · obtain rfl : r = 11 := by have := RW'.out; rw [if_pos (Or.inr (Or.inr h0))] at this; exact this
          go_wp2_with ((with_reducible show bodyPost _ _ _ _ _ _); refine bodyPost_ret (by simp [results, Tryd.results13, go_sem, ]; try rfl) rfl ?_; exact ⟨rfl, by (repeat' first | (with_reducible first | exact Bq0 | assumption | refine Bq1 ?_ | refine Bq2 ?_ | refine Bq3 ?_ ?_ | refine Bq4 ?_ (by assumption)) | go_size)⟩)
end Go.Proofs.YthikaimhmpenhaaDoor
