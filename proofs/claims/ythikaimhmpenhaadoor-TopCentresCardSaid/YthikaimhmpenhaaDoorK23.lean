/-
  What package hydro's over returns: an integrand's sum over the strips between a waterline's corners.
  (Written by wip/pack.py out of XFHyF.)
-/
import Derived.Test.YthikaimhmpenhaaDoorK22

namespace Go.Proofs.YthikaimhmpenhaaDoor
set_option linter.all false
open Go Go.RowKit Wd
set_option maxRecDepth 100000
theorem Rf.get {w : World} {b n : Nat} {g : Nat → Fr} (h : Rf w b n g) {i : Nat} (hi : i < n) : w.cell? ⟨b, i * 10, none⟩ = some (.bool (g i).s) ∧ w.cell? ⟨b, i * 10 + 1, none⟩ = some (.int .u64 ((g i).a : Int)) ∧ w.cell? ⟨b, i * 10 + 2, none⟩ = some (.int .u64 0) ∧ w.cell? ⟨b, i * 10 + 3, none⟩ = some (.int .u64 0) ∧ w.cell? ⟨b, i * 10 + 4, none⟩ = some (.int .u64 0) ∧ w.cell? ⟨b, i * 10 + 5, none⟩ = some (.bool false) ∧ w.cell? ⟨b, i * 10 + 6, none⟩ = some (.int .u64 ((g i).d : Int)) ∧ w.cell? ⟨b, i * 10 + 7, none⟩ = some (.int .u64 0) ∧ w.cell? ⟨b, i * 10 + 8, none⟩ = some (.int .u64 0) ∧ w.cell? ⟨b, i * 10 + 9, none⟩ = some (.int .u64 0) := by
  have h1 := Rs.get h hi
  simp only [Nat.zero_add] at h1
  exact h1
def OvM (w : World) (B : Nat) (f : FuncId) (s : Fr) (wr : World) : Prop :=
  (∀ o, wr.cell? ⟨w.heap.size, o, none⟩ = (#[.func (.func f) #[] #[]] : Array Value)[o]?) ∧ (∀ o, wr.cell? ⟨w.heap.size + 1, o, none⟩ = (#[.bool false, .int .u64 0, .int .u64 0, .int .u64 0, .int .u64 0, .bool false, .int .u64 0, .int .u64 0, .int .u64 0, .int .u64 0] : Array Value)[o]?) ∧ (∀ o, wr.cell? ⟨B, o, none⟩ = (#[.bool ((s).s), .int .u64 ↑s.a, .int .u64 0, .int .u64 0, .int .u64 0, .bool false, .int .u64 ↑s.d, .int .u64 0, .int .u64 0, .int .u64 0] : Array Value)[o]?)
  ∧ (∀ o, wr.frozen? ⟨w.heap.size, o, none⟩ = false) ∧ (∀ o, wr.frozen? ⟨w.heap.size + 1, o, none⟩ = false) ∧ (∀ o, wr.frozen? ⟨B, o, none⟩ = false) ∧ w.heap.size + 1 < B ∧ B < wr.heap.size ∧ Below w.heap.size w wr
theorem OvM.later {w wr x : World} {B : Nat} {f : FuncId} {s : Fr} (h : OvM w B f s wr) (hb : Below wr.heap.size wr x) : OvM w B f s x := by
  obtain ⟨c0, c1, c2, f0, f1, f2, z1, z2, b⟩ := h
  exact ⟨keep_cell hb (by omega) c0, keep_cell hb (by omega) c1, keep_cell hb (by omega) c2, keep_frozen hb (by omega) f0, keep_frozen hb (by omega) f1, keep_frozen hb (by omega) f2, z1, keep_lt hb z2, below_after b hb⟩
def Enters (f : FuncId) : Prop := ∀ (args : Array Value) (w : World), (callFunc f args).run Tryd.prog w = .ok (.enter f args) w
theorem enters_area : Enters 43 := fun args w => by go_simp
theorem enters_long : Enters 49 := fun args w => by go_simp
set_option maxHeartbeats 8000000 in
theorem overH (f : FuncId) (hcf : Enters f) (n : Nat) (gx gy S t : Nat → Fr) (hn : 1 ≤ n) (hn' : n ≤ 100) (h0 : OfC 0 1 (S 0)) (ht : ∀ i, i + 1 < n → StripC f (gx i) (gy i) (gx (i + 1)) (gy (i + 1)) (t i)) (hs : ∀ i, i + 1 < n → SumC 2 (pk2 (S i) (t i)) (S (i + 1)))
    (r : Fr) (hr : S (n - 1) = r) (bx cx b2 cy : Nat) (w : World) (hT : Tab64 w) (hx : Rf w bx n gx) (hy : Rf w b2 n gy) :
    Calls Tryd.prog 39 #[.agg #[.func (.func f) #[] #[]], .slice (some ⟨bx, 0, none⟩) n cx, .slice (some ⟨b2, 0, none⟩) n cy] w fun e w' => e = .returned (.agg #[.bool ((r).s), .int .u64 ↑r.a, .int .u64 0, .int .u64 0, .int .u64 0, .bool false, .int .u64 ↑r.d, .int .u64 0, .int .u64 0, .int .u64 0]) ∧ Below w.heap.size w w' := by
  have H0 := Lib.hid (fun w hT => h0 w hT)
  have HS := Lib.hid ht
  have HA := Lib.hid hs
  have HX := Lib.hid hx
  have HY := Lib.hid hy
  have HT := Lib.hid hT
  have hnn : (n : Int) ≤ 100 := by omega
  have HRr := Lib.hid (show ∀ j, n = j + 1 → S j = r from fun j hj => by rw [← hr, hj, Nat.add_sub_cancel])
  clear h0 ht hs hx hy hT hr
  go_enter Tryd.func39, Tryd.ntmps39
  go_wp2_with fail
  ((with_reducible refine (H0.out _ (HT.out.later (by (repeat' first | (with_reducible first | exact Bq0 | assumption | refine Bq1 ?_ | refine Bq2 ?_ | refine Bq3 ?_ ?_ | refine Bq4 ?_ (by assumption)) | go_size)))).mono ?_); rintro e w0 ⟨rfl, hb0⟩)
  obtain ⟨hc0, hf0⟩ := bcell hb0
  have hz0_w_0 : w.heap.size < w0.heap.size := by have h := hb0.size; (try simp at h); omega
  have hz0_w_1 : w.heap.size + 1 < w0.heap.size := by have h := hb0.size; (try simp at h); omega
  have M0 : OvM w w0.heap.size f (S 0) (w0.alloc (.cells #[.bool ((S 0).s), .int .u64 ((((S 0).a) : Nat) : Int), .int .u64 0, .int .u64 0, .int .u64 0, .bool false, .int .u64 ((((S 0).d) : Nat) : Int), .int .u64 0, .int .u64 0, .int .u64 0] 39)) := by
    have q2 : w.heap.size + 1 < w0.heap.size := by have := hb0.size; simp at this; omega
    have q3 : Below w.heap.size w w0 := by (repeat' first | (with_reducible first | exact Bq0 | assumption | refine Bq1 ?_ | refine Bq2 ?_ | refine Bq3 ?_ ?_ | refine Bq4 ?_ (by assumption)) | go_size)
    refine ⟨keep_cell_a (by omega) (fun o => by rw [hc0 _ _ (by first | (simp; done) | (simp; omega))]; simp [go_sem]), keep_cell_a q2 (fun o => by rw [hc0 _ _ (by first | (simp; done) | (simp; omega))]; simp [go_sem]), fun o => new_cells _ _ _ o, keep_frozen_a (by omega) (fun o => by rw [hf0 _ _ (by first | (simp; done) | (simp; omega))]; simp [go_sem]), keep_frozen_a q2 (fun o => by rw [hf0 _ _ (by first | (simp; done) | (simp; omega))]; simp [go_sem]), fun o => new_frozen _ _ _ o, q2, by simp, below_alloc q3 _⟩
  have HM0 := Lib.hid M0
  clear M0
  go_wp2
  go_loopg [8] n (fun gg v wr => ∃ j : Nat, j < n ∧ n - j ≤ gg ∧ v = .int .i64 ((j : Int) + 1) ∧ Hid (OvM w w0.heap.size f (S j) wr))
  case atStart => exact ⟨0, by omega, by omega, rfl, Lib.hid (by have := HM0.out; exact this)⟩
  case round =>
    obtain ⟨j, hj, hgj, rfl, HI⟩ := hrel
    clear hb0 hc0 hf0 HM0
    generalize w0.heap.size = B at *
    by_cases hlt : j + 1 < n
    · have hjn : (j : Int) + 1 < (n : Int) := by omega
      have hin : j < n := by omega
      have KA := fun (x : World) (hx : Below wr.heap.size wr x) => And.intro (HI.out.later hx).1 (And.intro (And.intro (HI.out.later hx).2.2.1 (And.intro (HI.out.later hx).2.2.2.2.2.1 (HI.out.later hx).2.2.2.2.2.2.2.1)) (And.intro (((HX.out.later HI.out.2.2.2.2.2.2.2.2).later hx).get hin) (And.intro (((HY.out.later HI.out.2.2.2.2.2.2.2.2).later hx).get hin) (And.intro (((HX.out.later HI.out.2.2.2.2.2.2.2.2).later hx).get hlt) (((HY.out.later HI.out.2.2.2.2.2.2.2.2).later hx).get hlt)))))
      have ST := Lib.hid (HS.out j hlt)
      have SM := Lib.hid (HA.out j hlt)
      have TA := Lib.hid (HT.out.later HI.out.2.2.2.2.2.2.2.2)
      have hcf' : ∀ (args : Array Value) (w : World), (callFunc f args).run Tryd.prog w = .ok (.enter f args) w := hcf
      go_upto_region 5 with (fail)
      refine wp_region_kn 24 [.val ((.agg #[.bool ((S j).s), .int .u64 ((((S j).a) : Nat) : Int), .int .u64 0, .int .u64 0, .int .u64 0, .bool false, .int .u64 ((((S j).d) : Nat) : Int), .int .u64 0, .int .u64 0, .int .u64 0])), .val (.pointer (some ⟨w.heap.size, 0, none⟩)), .val (.func (.func f) #[] #[]), .val (.slice (some ⟨bx, 0, none⟩) n cx), .val (.int .i64 ((j : Int) + 1)), .val (.int .i64 (j : Int)), .val (.pointer (some ⟨bx, j * 10, none⟩)), .val ((.agg #[.bool ((gx j).s), .int .u64 ((((gx j).a) : Nat) : Int), .int .u64 0, .int .u64 0, .int .u64 0, .bool false, .int .u64 ((((gx j).d) : Nat) : Int), .int .u64 0, .int .u64 0, .int .u64 0])), .val (.slice (some ⟨b2, 0, none⟩) n cy), .val (.int .i64 ((j : Int) + 1)), .val (.int .i64 (j : Int)), .val (.pointer (some ⟨b2, j * 10, none⟩)), .val ((.agg #[.bool ((gy j).s), .int .u64 ((((gy j).a) : Nat) : Int), .int .u64 0, .int .u64 0, .int .u64 0, .bool false, .int .u64 ((((gy j).d) : Nat) : Int), .int .u64 0, .int .u64 0, .int .u64 0])), .val (.slice (some ⟨bx, 0, none⟩) n cx), .val (.int .i64 ((j : Int) + 1)), .val (.pointer (some ⟨bx, (j + 1) * 10, none⟩)), .val ((.agg #[.bool ((gx (j + 1)).s), .int .u64 ((((gx (j + 1)).a) : Nat) : Int), .int .u64 0, .int .u64 0, .int .u64 0, .bool false, .int .u64 ((((gx (j + 1)).d) : Nat) : Int), .int .u64 0, .int .u64 0, .int .u64 0])), .val (.slice (some ⟨b2, 0, none⟩) n cy), .val (.int .i64 ((j : Int) + 1)), .val (.pointer (some ⟨b2, (j + 1) * 10, none⟩)), .val ((.agg #[.bool ((gy (j + 1)).s), .int .u64 ((((gy (j + 1)).a) : Nat) : Int), .int .u64 0, .int .u64 0, .int .u64 0, .bool false, .int .u64 ((((gy (j + 1)).d) : Nat) : Int), .int .u64 0, .int .u64 0, .int .u64 0])), .val ((.agg #[.bool ((t j).s), .int .u64 ((((t j).a) : Nat) : Int), .int .u64 0, .int .u64 0, .int .u64 0, .bool false, .int .u64 ((((t j).d) : Nat) : Int), .int .u64 0, .int .u64 0, .int .u64 0])), .row (2) (pk2 (S j) (t j)), .val ((.agg #[.bool ((S (j + 1)).s), .int .u64 ((((S (j + 1)).a) : Nat) : Int), .int .u64 0, .int .u64 0, .int .u64 0, .bool false, .int .u64 ((((S (j + 1)).d) : Nat) : Int), .int .u64 0, .int .u64 0, .int .u64 0]))] wr (by kernel_rfl) (by kernel_rfl) (by kernel_rfl) (by kernel_rfl) (by kernel_rfl) (by decide) (Below.refl _ _) ?_ ?_
      · refine steps_next (n := 0) ⟨_, by rfl, fun vals x hx hj => ?_⟩ ?_
        · have hk := KA x hx; clear hj; refine kn_val hx ?_; simp only [putF, dstO, Act.put]; go_simp
        refine steps_next (n := 1) ⟨_, by rfl, fun vals x hx hj => ?_⟩ ?_
        · have hk := KA x hx; clear hj; refine kn_val hx ?_; simp only [putF, dstO, Act.put]; go_simp
        refine steps_next (n := 2) ⟨_, by rfl, fun vals x hx hj => ?_⟩ ?_
        · have hk := KA x hx; have e1 : _ = _ := hj 1 (by decide +kernel); clear hj; refine kn_val hx ?_; simp only [putF, dstO, Act.put]; (try simp only [e1]); go_simp
        refine steps_next (n := 3) ⟨_, by rfl, fun vals x hx hj => ?_⟩ ?_
        · have hk := KA x hx; clear hj; refine kn_val hx ?_; simp only [putF, dstO, Act.put]; go_simp
        refine steps_next (n := 4) ⟨_, by rfl, fun vals x hx hj => ?_⟩ ?_
        · have hk := KA x hx; clear hj; refine kn_val hx ?_; simp only [putF, dstO, Act.put]; go_simp; (try first | with_reducible rfl | (intros; omega) | (simp only [IntKind.wrap_i64]; omega))
        refine steps_next (n := 5) ⟨_, by rfl, fun vals x hx hj => ?_⟩ ?_
        · have hk := KA x hx; have e4 : _ = _ := hj 4 (by decide +kernel); clear hj; refine kn_val hx ?_; simp only [putF, dstO, Act.put]; (try simp only [e4]); go_simp; (try first | with_reducible rfl | (intros; omega) | (simp only [IntKind.wrap_i64]; omega))
        refine steps_next (n := 6) ⟨_, by rfl, fun vals x hx hj => ?_⟩ ?_
        · have hk := KA x hx; have e3 : _ = _ := hj 3 (by decide +kernel); have e5 : _ = _ := hj 5 (by decide +kernel); clear hj; refine kn_val hx ?_; simp only [putF, dstO, Act.put]; (try simp only [e3, e5]); go_simp; (try first | with_reducible rfl | (intros; omega) | (simp only [IntKind.wrap_i64]; omega))
        refine steps_next (n := 7) ⟨_, by rfl, fun vals x hx hj => ?_⟩ ?_
        · have hk := KA x hx; have e6 : _ = _ := hj 6 (by decide +kernel); clear hj; refine kn_val hx ?_; simp only [putF, dstO, Act.put]; (try simp only [e6]); go_simp
        refine steps_next (n := 8) ⟨_, by rfl, fun vals x hx hj => ?_⟩ ?_
        · have hk := KA x hx; clear hj; refine kn_val hx ?_; simp only [putF, dstO, Act.put]; go_simp
        refine steps_next (n := 9) ⟨_, by rfl, fun vals x hx hj => ?_⟩ ?_
        · have hk := KA x hx; clear hj; refine kn_val hx ?_; simp only [putF, dstO, Act.put]; go_simp; (try first | with_reducible rfl | (intros; omega) | (simp only [IntKind.wrap_i64]; omega))
        refine steps_next (n := 10) ⟨_, by rfl, fun vals x hx hj => ?_⟩ ?_
        · have hk := KA x hx; have e9 : _ = _ := hj 9 (by decide +kernel); clear hj; refine kn_val hx ?_; simp only [putF, dstO, Act.put]; (try simp only [e9]); go_simp; (try first | with_reducible rfl | (intros; omega) | (simp only [IntKind.wrap_i64]; omega))
        refine steps_next (n := 11) ⟨_, by rfl, fun vals x hx hj => ?_⟩ ?_
        · have hk := KA x hx; have e8 : _ = _ := hj 8 (by decide +kernel); have e10 : _ = _ := hj 10 (by decide +kernel); clear hj; refine kn_val hx ?_; simp only [putF, dstO, Act.put]; (try simp only [e8, e10]); go_simp; (try first | with_reducible rfl | (intros; omega) | (simp only [IntKind.wrap_i64]; omega))
        refine steps_next (n := 12) ⟨_, by rfl, fun vals x hx hj => ?_⟩ ?_
        · have hk := KA x hx; have e11 : _ = _ := hj 11 (by decide +kernel); clear hj; refine kn_val hx ?_; simp only [putF, dstO, Act.put]; (try simp only [e11]); go_simp
        refine steps_next (n := 13) ⟨_, by rfl, fun vals x hx hj => ?_⟩ ?_
        · have hk := KA x hx; clear hj; refine kn_val hx ?_; simp only [putF, dstO, Act.put]; go_simp
        refine steps_next (n := 14) ⟨_, by rfl, fun vals x hx hj => ?_⟩ ?_
        · have hk := KA x hx; clear hj; refine kn_val hx ?_; simp only [putF, dstO, Act.put]; go_simp; (try first | with_reducible rfl | (intros; omega) | (simp only [IntKind.wrap_i64]; omega))
        refine steps_next (n := 15) ⟨_, by rfl, fun vals x hx hj => ?_⟩ ?_
        · have hk := KA x hx; have e13 : _ = _ := hj 13 (by decide +kernel); have e14 : _ = _ := hj 14 (by decide +kernel); clear hj; refine kn_val hx ?_; simp only [putF, dstO, Act.put]; (try simp only [e13, e14]); go_simp; (try first | with_reducible rfl | (intros; omega) | (simp only [IntKind.wrap_i64]; omega))
        refine steps_next (n := 16) ⟨_, by rfl, fun vals x hx hj => ?_⟩ ?_
        · have hk := KA x hx; have e15 : _ = _ := hj 15 (by decide +kernel); clear hj; refine kn_val hx ?_; simp only [putF, dstO, Act.put]; (try simp only [e15]); go_simp; (try first | with_reducible rfl | (intros; omega) | (simp only [IntKind.wrap_i64]; omega))
        refine steps_next (n := 17) ⟨_, by rfl, fun vals x hx hj => ?_⟩ ?_
        · have hk := KA x hx; clear hj; refine kn_val hx ?_; simp only [putF, dstO, Act.put]; go_simp
        refine steps_next (n := 18) ⟨_, by rfl, fun vals x hx hj => ?_⟩ ?_
        · have hk := KA x hx; clear hj; refine kn_val hx ?_; simp only [putF, dstO, Act.put]; go_simp; (try first | with_reducible rfl | (intros; omega) | (simp only [IntKind.wrap_i64]; omega))
        refine steps_next (n := 19) ⟨_, by rfl, fun vals x hx hj => ?_⟩ ?_
        · have hk := KA x hx; have e17 : _ = _ := hj 17 (by decide +kernel); have e18 : _ = _ := hj 18 (by decide +kernel); clear hj; refine kn_val hx ?_; simp only [putF, dstO, Act.put]; (try simp only [e17, e18]); go_simp; (try first | with_reducible rfl | (intros; omega) | (simp only [IntKind.wrap_i64]; omega))
        refine steps_next (n := 20) ⟨_, by rfl, fun vals x hx hj => ?_⟩ ?_
        · have hk := KA x hx; have e19 : _ = _ := hj 19 (by decide +kernel); clear hj; refine kn_val hx ?_; simp only [putF, dstO, Act.put]; (try simp only [e19]); go_simp; (try first | with_reducible rfl | (intros; omega) | (simp only [IntKind.wrap_i64]; omega))
        refine steps_next (n := 21) ⟨_, by rfl, fun vals x hx hj => ?_⟩ ?_
        · have hk := KA x hx; have e2 : _ = _ := hj 2 (by decide +kernel); have e7 : _ = _ := hj 7 (by decide +kernel); have e12 : _ = _ := hj 12 (by decide +kernel); have e16 : _ = _ := hj 16 (by decide +kernel); have e20 : _ = _ := hj 20 (by decide +kernel); clear hj; refine kn_call hx (ST.out x (TA.out.later hx)) ?_; simp only [putF, dstO, Act.put]; (try simp only [e2, e7, e12, e16, e20]); go_simp
        refine steps_next (n := 22) ⟨_, by rfl, fun vals x hx hj => ?_⟩ ?_
        · have hk := KA x hx; have e0 : _ = _ := hj 0 (by decide +kernel); have e21 : _ = _ := hj 21 (by decide +kernel); clear hj; refine kn_row (c := 2) hx (rf2_new x 39 (S j) (t j)) ?_; simp only [putF, dstO, Act.put]; (try simp only [e0, e21]); go_simp
        refine steps_next (n := 23) ⟨_, by rfl, fun vals x hx hj => ?_⟩ ?_
        · have hk := KA x hx; obtain ⟨b22, c22, e22, R22⟩ := hj 22 (by decide +kernel); clear hj; refine kn_call hx (SM.out b22 c22 x (TA.out.later hx) R22) ?_; simp only [putF, dstO, Act.put]; (try simp only [e22]); go_simp
        exact steps_end
      intro vals wrx hwrx hv
      have hkwrx := KA wrx hwrx
      have e0 : _ = _ := hv 0 (by omega)
      have e1 : _ = _ := hv 1 (by omega)
      have e2 : _ = _ := hv 2 (by omega)
      have e3 : _ = _ := hv 3 (by omega)
      have e4 : _ = _ := hv 4 (by omega)
      have e5 : _ = _ := hv 5 (by omega)
      have e6 : _ = _ := hv 6 (by omega)
      have e7 : _ = _ := hv 7 (by omega)
      have e8 : _ = _ := hv 8 (by omega)
      have e9 : _ = _ := hv 9 (by omega)
      have e10 : _ = _ := hv 10 (by omega)
      have e11 : _ = _ := hv 11 (by omega)
      have e12 : _ = _ := hv 12 (by omega)
      have e13 : _ = _ := hv 13 (by omega)
      have e14 : _ = _ := hv 14 (by omega)
      have e15 : _ = _ := hv 15 (by omega)
      have e16 : _ = _ := hv 16 (by omega)
      have e17 : _ = _ := hv 17 (by omega)
      have e18 : _ = _ := hv 18 (by omega)
      have e19 : _ = _ := hv 19 (by omega)
      have e20 : _ = _ := hv 20 (by omega)
      have e21 : _ = _ := hv 21 (by omega)
      obtain ⟨b22, c22, e22, R22⟩ := hv 22 (by omega)
      have e23 : _ = _ := hv 23 (by omega)
      clear hv
      simp only [putF, dstO, Act.put]
      (try simp only [e0, e1, e2, e3, e4, e5, e6, e7, e8, e9, e10, e11, e12, e13, e14, e15, e16, e17, e18, e19, e20, e21, e22, e23])
      refine wpAny_ready (rs := [24]) (by decide +kernel) (by simp) (AllReady.cons rfl (fun KK hKK => ?_) AllReady.nil)
      go_simp
      (refine hKK _ _ ?_); clear hKK KK; (try simp only [Nq1, Nq2, Nq3, Act.put, Nq4, Nq5, Nq6])
      refine wpAny_done (by kernel_rfl) ?_ _
      have M2 := HI.out.later hwrx
      obtain ⟨c0, c1, c2, f0, f1, f2, z1, z2, hb⟩ := M2
      clear hkwrx KA ST SM TA R22 HI HS HA H0 HX HY
      go_wp2
      go_roundg (n - (j + 1))
      case measure => omega
      case rel => exact ⟨j + 1, by omega, by omega, by go_num, Lib.hid ⟨set10_far (by omega) c0, set10_far (by omega) c1, set10_at c2, fun o => by simp only [World.frozen?_setCell]; exact f0 o, fun o => by simp only [World.frozen?_setCell]; exact f1 o, fun o => by simp only [World.frozen?_setCell]; exact f2 o, z1, by simpa using z2, by (repeat' first | (with_reducible first | exact Bq0 | assumption | refine Bq1 ?_ | refine Bq2 ?_ | refine Bq3 ?_ ?_ | refine Bq4 ?_ (by assumption)) | go_size)⟩⟩
    · obtain rfl : n = j + 1 := by omega
      obtain ⟨c0, c1, c2, f0, f1, f2, z1, z2, hb⟩ := HI.out
      clear HI HS HA H0 HX HY HT
      have z0 : w.heap.size + 1 < wr.heap.size := by omega
      have hrj : S j = r := HRr.out j rfl
      rw [hrj] at c2
      clear hrj HRr
      go_wp2_with ((with_reducible show bodyPost _ _ _ _ _ _); refine bodyPost_ret (by simp [results, Tryd.results39, go_sem, c0, c1, c2, f0, f1, f2, z1, z2, z0]; try rfl) rfl ?_; exact ⟨rfl, by (repeat' first | (with_reducible first | exact Bq0 | assumption | refine Bq1 ?_ | refine Bq2 ?_ | refine Bq3 ?_ ?_ | refine Bq4 ?_ (by assumption)) | go_size)⟩)
end Go.Proofs.YthikaimhmpenhaaDoor
