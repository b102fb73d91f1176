/-
  The reference's natural numbers: half.
  Plain arithmetic of the schoolbook product of words, and of setting one word of a number; no program in sight: half-words.
  The reference's natural numbers: times.
  (Written by wip/pack.py out of XFNatC, XFHMulM, XFNatT.)
-/
import Derived.Test.YthikaimhmpenhaaDoorK40
import Derived.Test.YthikaimhmpenhaaDoorK28
import Derived.Deep.OwnRows

namespace Go.Proofs.YthikaimhmpenhaaDoor
set_option linter.all false
open Go Go.RowKit Wd
set_option maxRecDepth 100000
set_option maxHeartbeats 2000000 in
theorem nhalf_any (n c : Nat) (a : Option Addr) (hn : n < 2 ^ 256) (w : World) (h : NatAt w a n (nl n)) :
    Calls Tryd.prog 60 #[.slice a (nl n) c] w fun e w' => ∃ a' c', e = .returned (.slice a' (nl (n / 2)) c') ∧ NatAt w' a' (n / 2) (nl (n / 2)) ∧ Below w.heap.size w w' := by
  have hn8 : nl n ≤ 8 := nl_lt256.2 hn
  have AD := Lib.hid (fun i => hw_half n i)
  have HW := Lib.hid (show ∀ x i, 0 ≤ hw x i ∧ hw x i ≤ 4294967295 from fun x i => ⟨hw_lo x i, hw_hi x i⟩)
  have SUM2 := Lib.hid (nl_half (n := n))
  have DA := Lib.hid (fun (i : Nat) (hi : i ≤ 64) x (hb : Below w.heap.size w x) => ndigit_any n i c a (by omega) hi x (h.later hb))
  have TR := Lib.hid (fun k c a (hk : k ≤ 64) (hkc : k ≤ c) (hcm : c ≤ maxLen) hl w h => ntrim_any (n / 2) k c a hk hkc hcm hl w h)
  have D0 := Lib.hid (Dg.start w (n / 2))
  have HML := Lib.hid (show ∀ q : Nat, q ≤ 1000 → q + 1 ≤ maxLen from fun q hq => by unfold maxLen; omega)
  have HN := Lib.hid h
  obtain ⟨i0, hinf, hz0, hz1, hz2⟩ := info_parts infoU
  clear hn h
  generalize n / 2 = s at *
  generalize nl n = x at *
  go_enter Tryd.func60, Tryd.ntmps60
  go_wp2
  go_loopg [3, 4] x (fun gg ov iv wr => ∃ i : Nat, i ≤ x ∧ x - i ≤ gg ∧ iv = .int .i64 (i : Int) ∧ Hid (Dg w.heap.size w wr ov s i))
  case atStart => exact ⟨0, by omega, by omega, rfl, D0⟩
  case round =>
    obtain ⟨i, hi, hgi, rfl, hD⟩ := hrel
    have hB0 := hD.out.below
    have hba := hD.out.base
    by_cases hlt : i < x
    · obtain ⟨b, o, ea, lb, hc⟩ := HN.out (by omega)
      have A := AD.out i
      have b1 := HW.out n i
      have b2 := HW.out n (i + 1)
      have KD := Lib.hid (show ∀ v, Below w.heap.size w v → Calls Tryd.prog 81 #[.slice (some ⟨b, o, none⟩) x c, .int .i64 ((i : Int) + 1)] v fun e w' => e = .returned (.int .u64 (hw n (i + 1))) ∧ w' = v from by
        have K := DA.out (i + 1) (by omega)
        rw [ea] at K
        simpa using K)
      have ci := hc i hlt
      have hS := Lib.hid (show ∀ v, Below w.heap.size w v → v.cell? ⟨b, o + i, none⟩ = some (.int .u32 (hw n i)) ∧ b < v.heap.size from fun v hb => ⟨(hb.cell (p := ⟨b, o + i, none⟩) lb).trans ci, keep_lt hb lb⟩)
      obtain ⟨dg, hdg⟩ : ∃ z, z = hw s i := ⟨_, rfl⟩
      have HDG := Lib.hid hdg
      rw [← hdg] at A
      clear hdg ci hc AD HW SUM2 DA TR D0 HN
      generalize hw n i = p at *
      generalize hw n (i + 1) = q at *
      subst ea
      have g1 : (i : Int) < (x : Int) := by omega
      have r1 : bits .and .u64 q 1 = q % 2 := low1 q b2.1 (by omega)
      have r2 : bits .or .u32 (p / 2) (q % 2 * 2147483648) = dg := by rw [high_or p (q % 2) b1.1 b1.2 (by omega) (by omega), ← A]
      have r3 : IntKind.i64.wrap ((i : Int) + 1) = (i : Int) + 1 := by rw [IntKind.wrap_i64]; omega
      have r4 : IntKind.u32.wrap (q % 2) = q % 2 := by rw [IntKind.wrap_u32]; omega
      have r5 : IntKind.u32.wrap (q % 2 * 2147483648) = q % 2 * 2147483648 := by rw [IntKind.wrap_u32]; omega
      clear A
      have s0 := (hS.out wr hB0).1
      have s1 := (hS.out wr hB0).2
      go_upto_region 5 with (fail)
      refine wp_region_held_drew (S := fun x => x.cell? ⟨b, o + i, none⟩ = some (.int .u32 p) ∧ b < x.heap.size) (by kernel_rfl) (by (refine hS.out _ ?_; (repeat (first | (with_reducible assumption) | (with_reducible refine Below.drew ?_) | ((with_reducible refine below_alloc' ?_ ?_ _); (focus (first | omega | (simp; done) | (simp; omega)))))))) (fun hHeld => ?_)
      iterate 17 (all_goals (first
        | ((refine wpAnyH_take (i := 0) (v := u3) rfl (by kernel_rfl) (by decide +kernel) (by decide +kernel) (fun _ _ _ h => h) (Or.inl ⟨rfl, fun x hx => (by ((try dsimp only at hx); go_simp))⟩) hHeld ?_); (try simp only [Nq1, Nq2, Nq3, Act.put, Nq4, Nq5, Nq6]))
        | ((refine wpAnyH_take (i := 1) (v := .slice (some ⟨b, o, none⟩) x c) rfl (by kernel_rfl) (by decide +kernel) (by decide +kernel) (fun _ _ _ h => h) (Or.inl ⟨rfl, fun x hx => (by ((try dsimp only at hx); go_simp))⟩) hHeld ?_); (try simp only [Nq1, Nq2, Nq3, Act.put, Nq4, Nq5, Nq6]))
        | ((refine wpAnyH_take (i := 2) (v := .int .i64 (i : Int)) rfl (by kernel_rfl) (by decide +kernel) (by decide +kernel) (fun _ _ _ h => h) (Or.inl ⟨rfl, fun x hx => (by ((try dsimp only at hx); go_simp))⟩) hHeld ?_); (try simp only [Nq1, Nq2, Nq3, Act.put, Nq4, Nq5, Nq6]))
        | ((refine wpAnyH_take (i := 3) (v := .pointer (some ⟨b, o + i, none⟩)) rfl (by kernel_rfl) (by decide +kernel) (by decide +kernel) (fun _ _ _ h => h) (Or.inl ⟨rfl, fun x hx => (by ((try dsimp only at hx); go_simp))⟩) hHeld ?_); (try simp only [Nq1, Nq2, Nq3, Act.put, Nq4, Nq5, Nq6]))
        | ((refine wpAnyH_take (i := 4) (v := .int .u32 p) rfl (by kernel_rfl) (by decide +kernel) (by decide +kernel) (fun _ _ _ h => h) (Or.inl ⟨rfl, fun x hx => (by ((try dsimp only at hx); go_simp))⟩) hHeld ?_); (try simp only [Nq1, Nq2, Nq3, Act.put, Nq4, Nq5, Nq6]))
        | ((refine wpAnyH_take (i := 5) (v := .int .u32 (p / 2)) rfl (by kernel_rfl) (by decide +kernel) (by decide +kernel) (fun _ _ _ h => h) (Or.inl ⟨rfl, fun x hx => (by ((try dsimp only at hx); go_simp))⟩) hHeld ?_); (try simp only [Nq1, Nq2, Nq3, Act.put, Nq4, Nq5, Nq6]))
        | ((refine wpAnyH_take (i := 6) (v := .slice (some ⟨b, o, none⟩) x c) rfl (by kernel_rfl) (by decide +kernel) (by decide +kernel) (fun _ _ _ h => h) (Or.inl ⟨rfl, fun x hx => (by ((try dsimp only at hx); go_simp))⟩) hHeld ?_); (try simp only [Nq1, Nq2, Nq3, Act.put, Nq4, Nq5, Nq6]))
        | ((refine wpAnyH_take (i := 7) (v := .int .i64 (i : Int)) rfl (by kernel_rfl) (by decide +kernel) (by decide +kernel) (fun _ _ _ h => h) (Or.inl ⟨rfl, fun x hx => (by ((try dsimp only at hx); go_simp))⟩) hHeld ?_); (try simp only [Nq1, Nq2, Nq3, Act.put, Nq4, Nq5, Nq6]))
        | ((refine wpAnyH_take (i := 8) (v := .int .i64 ((i : Int) + 1)) rfl (by kernel_rfl) (by decide +kernel) (by decide +kernel) (fun _ _ _ h => h) (Or.inl ⟨rfl, fun x hx => (by ((try dsimp only at hx); go_simp))⟩) hHeld ?_); (try simp only [Nq1, Nq2, Nq3, Act.put, Nq4, Nq5, Nq6]))
        | ((refine wpAnyH_take (i := 10) (v := .int .u64 (q % 2)) rfl (by kernel_rfl) (by decide +kernel) (by decide +kernel) (fun _ _ _ h => h) (Or.inl ⟨rfl, fun x hx => (by ((try dsimp only at hx); go_simp))⟩) hHeld ?_); (try simp only [Nq1, Nq2, Nq3, Act.put, Nq4, Nq5, Nq6]))
        | ((refine wpAnyH_take (i := 11) (v := .int .u32 (q % 2)) rfl (by kernel_rfl) (by decide +kernel) (by decide +kernel) (fun _ _ _ h => h) (Or.inl ⟨rfl, fun x hx => (by ((try dsimp only at hx); go_simp))⟩) hHeld ?_); (try simp only [Nq1, Nq2, Nq3, Act.put, Nq4, Nq5, Nq6]))
        | ((refine wpAnyH_take (i := 12) (v := .int .u32 (q % 2 * 2147483648)) rfl (by kernel_rfl) (by decide +kernel) (by decide +kernel) (fun _ _ _ h => h) (Or.inl ⟨rfl, fun x hx => (by ((try dsimp only at hx); go_simp))⟩) hHeld ?_); (try simp only [Nq1, Nq2, Nq3, Act.put, Nq4, Nq5, Nq6]))
        | ((refine wpAnyH_take (i := 13) (v := .int .u32 dg) rfl (by kernel_rfl) (by decide +kernel) (by decide +kernel) (fun _ _ _ h => h) (Or.inl ⟨rfl, fun x hx => (by ((try dsimp only at hx); go_simp))⟩) hHeld ?_); (try simp only [Nq1, Nq2, Nq3, Act.put, Nq4, Nq5, Nq6]))
        | ((refine wpAnyH_ready (rs := [9]) (by decide +kernel) (by simp) (AllReadyH.cons rfl (fun K hK => ?_) AllReadyH.nil)) <;> ((first | (first | (go_at_call 81; (with_reducible refine (KD.out _ (by (repeat' first | (with_reducible first | exact Bq0 | assumption | refine Bq1 ?_ | refine Bq2 ?_ | refine Bq3 ?_ ?_ | refine Bq4 ?_ (by assumption)) | go_size))).mono ?_); rintro e v1 ⟨rfl, rfl⟩) | (refine step_append_lies _ (by rfl) _ _ _ (by rfl) w.heap.size 106 i0 (.int .u32 0) 1 4 Tryd.underlying71 hinf hz0 hz1 hz2 rfl (by decide) _ i (digs s i) (by rfl) ((hD.out.own.alloc _).drew) ⟨wr.heap.size, 0, none⟩ 1 1 [.int .u32 dg] (by rfl) (by rfl) (World.news_of_block (cs := #[.int .u32 dg]) (t := 106) (fr := (0, 0)) (heap_alloc_new wr _)) (by simp [Value.oneCell']) (by omega) (HML.out i (by omega)) (by omega) (by simp; omega) (wr.heap.size + 1) (by simp) ?_; intro g cap w1 hown hgrow hat hlt1; have HP := Lib.hid (hD.out.pushD (by rw [← HDG.out]; exact hown) hgrow); have hbel1 := HP.out.below)) | (go_simp; (first | (go_at_call 81; (with_reducible refine (KD.out _ (by (repeat' first | (with_reducible first | exact Bq0 | assumption | refine Bq1 ?_ | refine Bq2 ?_ | refine Bq3 ?_ ?_ | refine Bq4 ?_ (by assumption)) | go_size))).mono ?_); rintro e v1 ⟨rfl, rfl⟩) | (refine step_append_lies _ (by rfl) _ _ _ (by rfl) w.heap.size 106 i0 (.int .u32 0) 1 4 Tryd.underlying71 hinf hz0 hz1 hz2 rfl (by decide) _ i (digs s i) (by rfl) ((hD.out.own.alloc _).drew) ⟨wr.heap.size, 0, none⟩ 1 1 [.int .u32 dg] (by rfl) (by rfl) (World.news_of_block (cs := #[.int .u32 dg]) (t := 106) (fr := (0, 0)) (heap_alloc_new wr _)) (by simp [Value.oneCell']) (by omega) (HML.out i (by omega)) (by omega) (by simp; omega) (wr.heap.size + 1) (by simp) ?_; intro g cap w1 hown hgrow hat hlt1; have HP := Lib.hid (hD.out.pushD (by rw [← HDG.out]; exact hown) hgrow); have hbel1 := HP.out.below) | skip))); (refine hK.out _ _ ?_ (fun hNew => ?_)); (focus (refine hS.out _ ?_; (repeat (first | (with_reducible assumption) | (with_reducible refine Below.drew ?_) | ((with_reducible refine below_alloc' ?_ ?_ _); (focus (first | omega | (simp; done) | (simp; omega)))))))); clear hHeld hK K; have hHeld := hNew; clear hNew; (try simp only [Nq1, Nq2, Nq3, Act.put, Nq4, Nq5, Nq6])))
        | ((refine wpAnyH_ready (rs := [14]) (by decide +kernel) (by simp) (AllReadyH.cons rfl (fun K hK => ?_) AllReadyH.nil)) <;> ((first | (first | (go_at_call 81; (with_reducible refine (KD.out _ (by (repeat' first | (with_reducible first | exact Bq0 | assumption | refine Bq1 ?_ | refine Bq2 ?_ | refine Bq3 ?_ ?_ | refine Bq4 ?_ (by assumption)) | go_size))).mono ?_); rintro e v1 ⟨rfl, rfl⟩) | (refine step_append_lies _ (by rfl) _ _ _ (by rfl) w.heap.size 106 i0 (.int .u32 0) 1 4 Tryd.underlying71 hinf hz0 hz1 hz2 rfl (by decide) _ i (digs s i) (by rfl) ((hD.out.own.alloc _).drew) ⟨wr.heap.size, 0, none⟩ 1 1 [.int .u32 dg] (by rfl) (by rfl) (World.news_of_block (cs := #[.int .u32 dg]) (t := 106) (fr := (0, 0)) (heap_alloc_new wr _)) (by simp [Value.oneCell']) (by omega) (HML.out i (by omega)) (by omega) (by simp; omega) (wr.heap.size + 1) (by simp) ?_; intro g cap w1 hown hgrow hat hlt1; have HP := Lib.hid (hD.out.pushD (by rw [← HDG.out]; exact hown) hgrow); have hbel1 := HP.out.below)) | (go_simp; (first | (go_at_call 81; (with_reducible refine (KD.out _ (by (repeat' first | (with_reducible first | exact Bq0 | assumption | refine Bq1 ?_ | refine Bq2 ?_ | refine Bq3 ?_ ?_ | refine Bq4 ?_ (by assumption)) | go_size))).mono ?_); rintro e v1 ⟨rfl, rfl⟩) | (refine step_append_lies _ (by rfl) _ _ _ (by rfl) w.heap.size 106 i0 (.int .u32 0) 1 4 Tryd.underlying71 hinf hz0 hz1 hz2 rfl (by decide) _ i (digs s i) (by rfl) ((hD.out.own.alloc _).drew) ⟨wr.heap.size, 0, none⟩ 1 1 [.int .u32 dg] (by rfl) (by rfl) (World.news_of_block (cs := #[.int .u32 dg]) (t := 106) (fr := (0, 0)) (heap_alloc_new wr _)) (by simp [Value.oneCell']) (by omega) (HML.out i (by omega)) (by omega) (by simp; omega) (wr.heap.size + 1) (by simp) ?_; intro g cap w1 hown hgrow hat hlt1; have HP := Lib.hid (hD.out.pushD (by rw [← HDG.out]; exact hown) hgrow); have hbel1 := HP.out.below) | skip))); (refine hK.out _ _ ?_ (fun hNew => ?_)); (focus (refine hS.out _ ?_; (repeat (first | (with_reducible assumption) | (with_reducible refine Below.drew ?_) | ((with_reducible refine below_alloc' ?_ ?_ _); (focus (first | omega | (simp; done) | (simp; omega)))))))); clear hHeld hK K; have hHeld := hNew; clear hNew; (try simp only [Nq1, Nq2, Nq3, Act.put, Nq4, Nq5, Nq6])))
        | ((refine wpAnyH_ready (rs := [15]) (by decide +kernel) (by simp) (AllReadyH.cons rfl (fun K hK => ?_) AllReadyH.nil)) <;> ((first | (first | (go_at_call 81; (with_reducible refine (KD.out _ (by (repeat' first | (with_reducible first | exact Bq0 | assumption | refine Bq1 ?_ | refine Bq2 ?_ | refine Bq3 ?_ ?_ | refine Bq4 ?_ (by assumption)) | go_size))).mono ?_); rintro e v1 ⟨rfl, rfl⟩) | (refine step_append_lies _ (by rfl) _ _ _ (by rfl) w.heap.size 106 i0 (.int .u32 0) 1 4 Tryd.underlying71 hinf hz0 hz1 hz2 rfl (by decide) _ i (digs s i) (by rfl) ((hD.out.own.alloc _).drew) ⟨wr.heap.size, 0, none⟩ 1 1 [.int .u32 dg] (by rfl) (by rfl) (World.news_of_block (cs := #[.int .u32 dg]) (t := 106) (fr := (0, 0)) (heap_alloc_new wr _)) (by simp [Value.oneCell']) (by omega) (HML.out i (by omega)) (by omega) (by simp; omega) (wr.heap.size + 1) (by simp) ?_; intro g cap w1 hown hgrow hat hlt1; have HP := Lib.hid (hD.out.pushD (by rw [← HDG.out]; exact hown) hgrow); have hbel1 := HP.out.below)) | (go_simp; (first | (go_at_call 81; (with_reducible refine (KD.out _ (by (repeat' first | (with_reducible first | exact Bq0 | assumption | refine Bq1 ?_ | refine Bq2 ?_ | refine Bq3 ?_ ?_ | refine Bq4 ?_ (by assumption)) | go_size))).mono ?_); rintro e v1 ⟨rfl, rfl⟩) | (refine step_append_lies _ (by rfl) _ _ _ (by rfl) w.heap.size 106 i0 (.int .u32 0) 1 4 Tryd.underlying71 hinf hz0 hz1 hz2 rfl (by decide) _ i (digs s i) (by rfl) ((hD.out.own.alloc _).drew) ⟨wr.heap.size, 0, none⟩ 1 1 [.int .u32 dg] (by rfl) (by rfl) (World.news_of_block (cs := #[.int .u32 dg]) (t := 106) (fr := (0, 0)) (heap_alloc_new wr _)) (by simp [Value.oneCell']) (by omega) (HML.out i (by omega)) (by omega) (by simp; omega) (wr.heap.size + 1) (by simp) ?_; intro g cap w1 hown hgrow hat hlt1; have HP := Lib.hid (hD.out.pushD (by rw [← HDG.out]; exact hown) hgrow); have hbel1 := HP.out.below) | skip))); (refine hK.out _ _ ?_ (fun hNew => ?_)); (focus (refine hS.out _ ?_; (repeat (first | (with_reducible assumption) | (with_reducible refine Below.drew ?_) | ((with_reducible refine below_alloc' ?_ ?_ _); (focus (first | omega | (simp; done) | (simp; omega)))))))); clear hHeld hK K; have hHeld := hNew; clear hNew; (try simp only [Nq1, Nq2, Nq3, Act.put, Nq4, Nq5, Nq6])))
        | ((refine wpAnyH_ready (rs := [16]) (by decide +kernel) (by simp) (AllReadyH.cons rfl (fun K hK => ?_) AllReadyH.nil)) <;> ((first | (first | (go_at_call 81; (with_reducible refine (KD.out _ (by (repeat' first | (with_reducible first | exact Bq0 | assumption | refine Bq1 ?_ | refine Bq2 ?_ | refine Bq3 ?_ ?_ | refine Bq4 ?_ (by assumption)) | go_size))).mono ?_); rintro e v1 ⟨rfl, rfl⟩) | (refine step_append_lies _ (by rfl) _ _ _ (by rfl) w.heap.size 106 i0 (.int .u32 0) 1 4 Tryd.underlying71 hinf hz0 hz1 hz2 rfl (by decide) _ i (digs s i) (by rfl) ((hD.out.own.alloc _).drew) ⟨wr.heap.size, 0, none⟩ 1 1 [.int .u32 dg] (by rfl) (by rfl) (World.news_of_block (cs := #[.int .u32 dg]) (t := 106) (fr := (0, 0)) (heap_alloc_new wr _)) (by simp [Value.oneCell']) (by omega) (HML.out i (by omega)) (by omega) (by simp; omega) (wr.heap.size + 1) (by simp) ?_; intro g cap w1 hown hgrow hat hlt1; have HP := Lib.hid (hD.out.pushD (by rw [← HDG.out]; exact hown) hgrow); have hbel1 := HP.out.below)) | (go_simp; (first | (go_at_call 81; (with_reducible refine (KD.out _ (by (repeat' first | (with_reducible first | exact Bq0 | assumption | refine Bq1 ?_ | refine Bq2 ?_ | refine Bq3 ?_ ?_ | refine Bq4 ?_ (by assumption)) | go_size))).mono ?_); rintro e v1 ⟨rfl, rfl⟩) | (refine step_append_lies _ (by rfl) _ _ _ (by rfl) w.heap.size 106 i0 (.int .u32 0) 1 4 Tryd.underlying71 hinf hz0 hz1 hz2 rfl (by decide) _ i (digs s i) (by rfl) ((hD.out.own.alloc _).drew) ⟨wr.heap.size, 0, none⟩ 1 1 [.int .u32 dg] (by rfl) (by rfl) (World.news_of_block (cs := #[.int .u32 dg]) (t := 106) (fr := (0, 0)) (heap_alloc_new wr _)) (by simp [Value.oneCell']) (by omega) (HML.out i (by omega)) (by omega) (by simp; omega) (wr.heap.size + 1) (by simp) ?_; intro g cap w1 hown hgrow hat hlt1; have HP := Lib.hid (hD.out.pushD (by rw [← HDG.out]; exact hown) hgrow); have hbel1 := HP.out.below) | skip))); (refine hK.out _ _ ?_ (fun hNew => ?_)); (focus (refine hS.out _ ?_; (repeat (first | (with_reducible assumption) | (with_reducible refine Below.drew ?_) | ((with_reducible refine below_alloc' ?_ ?_ _); (focus (first | omega | (simp; done) | (simp; omega)))))))); clear hHeld hK K; have hHeld := hNew; clear hNew; (try simp only [Nq1, Nq2, Nq3, Act.put, Nq4, Nq5, Nq6])))
        | ((refine wpAnyH_ready (rs := [9, 14]) (by decide +kernel) (by simp) (AllReadyH.cons rfl (fun K hK => ?_) (AllReadyH.cons rfl (fun K hK => ?_) AllReadyH.nil))) <;> ((first | (first | (go_at_call 81; (with_reducible refine (KD.out _ (by (repeat' first | (with_reducible first | exact Bq0 | assumption | refine Bq1 ?_ | refine Bq2 ?_ | refine Bq3 ?_ ?_ | refine Bq4 ?_ (by assumption)) | go_size))).mono ?_); rintro e v1 ⟨rfl, rfl⟩) | (refine step_append_lies _ (by rfl) _ _ _ (by rfl) w.heap.size 106 i0 (.int .u32 0) 1 4 Tryd.underlying71 hinf hz0 hz1 hz2 rfl (by decide) _ i (digs s i) (by rfl) ((hD.out.own.alloc _).drew) ⟨wr.heap.size, 0, none⟩ 1 1 [.int .u32 dg] (by rfl) (by rfl) (World.news_of_block (cs := #[.int .u32 dg]) (t := 106) (fr := (0, 0)) (heap_alloc_new wr _)) (by simp [Value.oneCell']) (by omega) (HML.out i (by omega)) (by omega) (by simp; omega) (wr.heap.size + 1) (by simp) ?_; intro g cap w1 hown hgrow hat hlt1; have HP := Lib.hid (hD.out.pushD (by rw [← HDG.out]; exact hown) hgrow); have hbel1 := HP.out.below)) | (go_simp; (first | (go_at_call 81; (with_reducible refine (KD.out _ (by (repeat' first | (with_reducible first | exact Bq0 | assumption | refine Bq1 ?_ | refine Bq2 ?_ | refine Bq3 ?_ ?_ | refine Bq4 ?_ (by assumption)) | go_size))).mono ?_); rintro e v1 ⟨rfl, rfl⟩) | (refine step_append_lies _ (by rfl) _ _ _ (by rfl) w.heap.size 106 i0 (.int .u32 0) 1 4 Tryd.underlying71 hinf hz0 hz1 hz2 rfl (by decide) _ i (digs s i) (by rfl) ((hD.out.own.alloc _).drew) ⟨wr.heap.size, 0, none⟩ 1 1 [.int .u32 dg] (by rfl) (by rfl) (World.news_of_block (cs := #[.int .u32 dg]) (t := 106) (fr := (0, 0)) (heap_alloc_new wr _)) (by simp [Value.oneCell']) (by omega) (HML.out i (by omega)) (by omega) (by simp; omega) (wr.heap.size + 1) (by simp) ?_; intro g cap w1 hown hgrow hat hlt1; have HP := Lib.hid (hD.out.pushD (by rw [← HDG.out]; exact hown) hgrow); have hbel1 := HP.out.below) | skip))); (refine hK.out _ _ ?_ (fun hNew => ?_)); (focus (refine hS.out _ ?_; (repeat (first | (with_reducible assumption) | (with_reducible refine Below.drew ?_) | ((with_reducible refine below_alloc' ?_ ?_ _); (focus (first | omega | (simp; done) | (simp; omega)))))))); clear hHeld hK K; have hHeld := hNew; clear hNew; (try simp only [Nq1, Nq2, Nq3, Act.put, Nq4, Nq5, Nq6])))
        | ((refine wpAnyH_ready (rs := [9, 15]) (by decide +kernel) (by simp) (AllReadyH.cons rfl (fun K hK => ?_) (AllReadyH.cons rfl (fun K hK => ?_) AllReadyH.nil))) <;> ((first | (first | (go_at_call 81; (with_reducible refine (KD.out _ (by (repeat' first | (with_reducible first | exact Bq0 | assumption | refine Bq1 ?_ | refine Bq2 ?_ | refine Bq3 ?_ ?_ | refine Bq4 ?_ (by assumption)) | go_size))).mono ?_); rintro e v1 ⟨rfl, rfl⟩) | (refine step_append_lies _ (by rfl) _ _ _ (by rfl) w.heap.size 106 i0 (.int .u32 0) 1 4 Tryd.underlying71 hinf hz0 hz1 hz2 rfl (by decide) _ i (digs s i) (by rfl) ((hD.out.own.alloc _).drew) ⟨wr.heap.size, 0, none⟩ 1 1 [.int .u32 dg] (by rfl) (by rfl) (World.news_of_block (cs := #[.int .u32 dg]) (t := 106) (fr := (0, 0)) (heap_alloc_new wr _)) (by simp [Value.oneCell']) (by omega) (HML.out i (by omega)) (by omega) (by simp; omega) (wr.heap.size + 1) (by simp) ?_; intro g cap w1 hown hgrow hat hlt1; have HP := Lib.hid (hD.out.pushD (by rw [← HDG.out]; exact hown) hgrow); have hbel1 := HP.out.below)) | (go_simp; (first | (go_at_call 81; (with_reducible refine (KD.out _ (by (repeat' first | (with_reducible first | exact Bq0 | assumption | refine Bq1 ?_ | refine Bq2 ?_ | refine Bq3 ?_ ?_ | refine Bq4 ?_ (by assumption)) | go_size))).mono ?_); rintro e v1 ⟨rfl, rfl⟩) | (refine step_append_lies _ (by rfl) _ _ _ (by rfl) w.heap.size 106 i0 (.int .u32 0) 1 4 Tryd.underlying71 hinf hz0 hz1 hz2 rfl (by decide) _ i (digs s i) (by rfl) ((hD.out.own.alloc _).drew) ⟨wr.heap.size, 0, none⟩ 1 1 [.int .u32 dg] (by rfl) (by rfl) (World.news_of_block (cs := #[.int .u32 dg]) (t := 106) (fr := (0, 0)) (heap_alloc_new wr _)) (by simp [Value.oneCell']) (by omega) (HML.out i (by omega)) (by omega) (by simp; omega) (wr.heap.size + 1) (by simp) ?_; intro g cap w1 hown hgrow hat hlt1; have HP := Lib.hid (hD.out.pushD (by rw [← HDG.out]; exact hown) hgrow); have hbel1 := HP.out.below) | skip))); (refine hK.out _ _ ?_ (fun hNew => ?_)); (focus (refine hS.out _ ?_; (repeat (first | (with_reducible assumption) | (with_reducible refine Below.drew ?_) | ((with_reducible refine below_alloc' ?_ ?_ _); (focus (first | omega | (simp; done) | (simp; omega)))))))); clear hHeld hK K; have hHeld := hNew; clear hNew; (try simp only [Nq1, Nq2, Nq3, Act.put, Nq4, Nq5, Nq6])))
        | ((refine wpAnyH_ready (rs := [9, 16]) (by decide +kernel) (by simp) (AllReadyH.cons rfl (fun K hK => ?_) (AllReadyH.cons rfl (fun K hK => ?_) AllReadyH.nil))) <;> ((first | (first | (go_at_call 81; (with_reducible refine (KD.out _ (by (repeat' first | (with_reducible first | exact Bq0 | assumption | refine Bq1 ?_ | refine Bq2 ?_ | refine Bq3 ?_ ?_ | refine Bq4 ?_ (by assumption)) | go_size))).mono ?_); rintro e v1 ⟨rfl, rfl⟩) | (refine step_append_lies _ (by rfl) _ _ _ (by rfl) w.heap.size 106 i0 (.int .u32 0) 1 4 Tryd.underlying71 hinf hz0 hz1 hz2 rfl (by decide) _ i (digs s i) (by rfl) ((hD.out.own.alloc _).drew) ⟨wr.heap.size, 0, none⟩ 1 1 [.int .u32 dg] (by rfl) (by rfl) (World.news_of_block (cs := #[.int .u32 dg]) (t := 106) (fr := (0, 0)) (heap_alloc_new wr _)) (by simp [Value.oneCell']) (by omega) (HML.out i (by omega)) (by omega) (by simp; omega) (wr.heap.size + 1) (by simp) ?_; intro g cap w1 hown hgrow hat hlt1; have HP := Lib.hid (hD.out.pushD (by rw [← HDG.out]; exact hown) hgrow); have hbel1 := HP.out.below)) | (go_simp; (first | (go_at_call 81; (with_reducible refine (KD.out _ (by (repeat' first | (with_reducible first | exact Bq0 | assumption | refine Bq1 ?_ | refine Bq2 ?_ | refine Bq3 ?_ ?_ | refine Bq4 ?_ (by assumption)) | go_size))).mono ?_); rintro e v1 ⟨rfl, rfl⟩) | (refine step_append_lies _ (by rfl) _ _ _ (by rfl) w.heap.size 106 i0 (.int .u32 0) 1 4 Tryd.underlying71 hinf hz0 hz1 hz2 rfl (by decide) _ i (digs s i) (by rfl) ((hD.out.own.alloc _).drew) ⟨wr.heap.size, 0, none⟩ 1 1 [.int .u32 dg] (by rfl) (by rfl) (World.news_of_block (cs := #[.int .u32 dg]) (t := 106) (fr := (0, 0)) (heap_alloc_new wr _)) (by simp [Value.oneCell']) (by omega) (HML.out i (by omega)) (by omega) (by simp; omega) (wr.heap.size + 1) (by simp) ?_; intro g cap w1 hown hgrow hat hlt1; have HP := Lib.hid (hD.out.pushD (by rw [← HDG.out]; exact hown) hgrow); have hbel1 := HP.out.below) | skip))); (refine hK.out _ _ ?_ (fun hNew => ?_)); (focus (refine hS.out _ ?_; (repeat (first | (with_reducible assumption) | (with_reducible refine Below.drew ?_) | ((with_reducible refine below_alloc' ?_ ?_ _); (focus (first | omega | (simp; done) | (simp; omega)))))))); clear hHeld hK K; have hHeld := hNew; clear hNew; (try simp only [Nq1, Nq2, Nq3, Act.put, Nq4, Nq5, Nq6])))
        | ((refine wpAnyH_ready (rs := [14, 15]) (by decide +kernel) (by simp) (AllReadyH.cons rfl (fun K hK => ?_) (AllReadyH.cons rfl (fun K hK => ?_) AllReadyH.nil))) <;> ((first | (first | (go_at_call 81; (with_reducible refine (KD.out _ (by (repeat' first | (with_reducible first | exact Bq0 | assumption | refine Bq1 ?_ | refine Bq2 ?_ | refine Bq3 ?_ ?_ | refine Bq4 ?_ (by assumption)) | go_size))).mono ?_); rintro e v1 ⟨rfl, rfl⟩) | (refine step_append_lies _ (by rfl) _ _ _ (by rfl) w.heap.size 106 i0 (.int .u32 0) 1 4 Tryd.underlying71 hinf hz0 hz1 hz2 rfl (by decide) _ i (digs s i) (by rfl) ((hD.out.own.alloc _).drew) ⟨wr.heap.size, 0, none⟩ 1 1 [.int .u32 dg] (by rfl) (by rfl) (World.news_of_block (cs := #[.int .u32 dg]) (t := 106) (fr := (0, 0)) (heap_alloc_new wr _)) (by simp [Value.oneCell']) (by omega) (HML.out i (by omega)) (by omega) (by simp; omega) (wr.heap.size + 1) (by simp) ?_; intro g cap w1 hown hgrow hat hlt1; have HP := Lib.hid (hD.out.pushD (by rw [← HDG.out]; exact hown) hgrow); have hbel1 := HP.out.below)) | (go_simp; (first | (go_at_call 81; (with_reducible refine (KD.out _ (by (repeat' first | (with_reducible first | exact Bq0 | assumption | refine Bq1 ?_ | refine Bq2 ?_ | refine Bq3 ?_ ?_ | refine Bq4 ?_ (by assumption)) | go_size))).mono ?_); rintro e v1 ⟨rfl, rfl⟩) | (refine step_append_lies _ (by rfl) _ _ _ (by rfl) w.heap.size 106 i0 (.int .u32 0) 1 4 Tryd.underlying71 hinf hz0 hz1 hz2 rfl (by decide) _ i (digs s i) (by rfl) ((hD.out.own.alloc _).drew) ⟨wr.heap.size, 0, none⟩ 1 1 [.int .u32 dg] (by rfl) (by rfl) (World.news_of_block (cs := #[.int .u32 dg]) (t := 106) (fr := (0, 0)) (heap_alloc_new wr _)) (by simp [Value.oneCell']) (by omega) (HML.out i (by omega)) (by omega) (by simp; omega) (wr.heap.size + 1) (by simp) ?_; intro g cap w1 hown hgrow hat hlt1; have HP := Lib.hid (hD.out.pushD (by rw [← HDG.out]; exact hown) hgrow); have hbel1 := HP.out.below) | skip))); (refine hK.out _ _ ?_ (fun hNew => ?_)); (focus (refine hS.out _ ?_; (repeat (first | (with_reducible assumption) | (with_reducible refine Below.drew ?_) | ((with_reducible refine below_alloc' ?_ ?_ _); (focus (first | omega | (simp; done) | (simp; omega)))))))); clear hHeld hK K; have hHeld := hNew; clear hNew; (try simp only [Nq1, Nq2, Nq3, Act.put, Nq4, Nq5, Nq6])))
        | ((refine wpAnyH_ready (rs := [14, 16]) (by decide +kernel) (by simp) (AllReadyH.cons rfl (fun K hK => ?_) (AllReadyH.cons rfl (fun K hK => ?_) AllReadyH.nil))) <;> ((first | (first | (go_at_call 81; (with_reducible refine (KD.out _ (by (repeat' first | (with_reducible first | exact Bq0 | assumption | refine Bq1 ?_ | refine Bq2 ?_ | refine Bq3 ?_ ?_ | refine Bq4 ?_ (by assumption)) | go_size))).mono ?_); rintro e v1 ⟨rfl, rfl⟩) | (refine step_append_lies _ (by rfl) _ _ _ (by rfl) w.heap.size 106 i0 (.int .u32 0) 1 4 Tryd.underlying71 hinf hz0 hz1 hz2 rfl (by decide) _ i (digs s i) (by rfl) ((hD.out.own.alloc _).drew) ⟨wr.heap.size, 0, none⟩ 1 1 [.int .u32 dg] (by rfl) (by rfl) (World.news_of_block (cs := #[.int .u32 dg]) (t := 106) (fr := (0, 0)) (heap_alloc_new wr _)) (by simp [Value.oneCell']) (by omega) (HML.out i (by omega)) (by omega) (by simp; omega) (wr.heap.size + 1) (by simp) ?_; intro g cap w1 hown hgrow hat hlt1; have HP := Lib.hid (hD.out.pushD (by rw [← HDG.out]; exact hown) hgrow); have hbel1 := HP.out.below)) | (go_simp; (first | (go_at_call 81; (with_reducible refine (KD.out _ (by (repeat' first | (with_reducible first | exact Bq0 | assumption | refine Bq1 ?_ | refine Bq2 ?_ | refine Bq3 ?_ ?_ | refine Bq4 ?_ (by assumption)) | go_size))).mono ?_); rintro e v1 ⟨rfl, rfl⟩) | (refine step_append_lies _ (by rfl) _ _ _ (by rfl) w.heap.size 106 i0 (.int .u32 0) 1 4 Tryd.underlying71 hinf hz0 hz1 hz2 rfl (by decide) _ i (digs s i) (by rfl) ((hD.out.own.alloc _).drew) ⟨wr.heap.size, 0, none⟩ 1 1 [.int .u32 dg] (by rfl) (by rfl) (World.news_of_block (cs := #[.int .u32 dg]) (t := 106) (fr := (0, 0)) (heap_alloc_new wr _)) (by simp [Value.oneCell']) (by omega) (HML.out i (by omega)) (by omega) (by simp; omega) (wr.heap.size + 1) (by simp) ?_; intro g cap w1 hown hgrow hat hlt1; have HP := Lib.hid (hD.out.pushD (by rw [← HDG.out]; exact hown) hgrow); have hbel1 := HP.out.below) | skip))); (refine hK.out _ _ ?_ (fun hNew => ?_)); (focus (refine hS.out _ ?_; (repeat (first | (with_reducible assumption) | (with_reducible refine Below.drew ?_) | ((with_reducible refine below_alloc' ?_ ?_ _); (focus (first | omega | (simp; done) | (simp; omega)))))))); clear hHeld hK K; have hHeld := hNew; clear hNew; (try simp only [Nq1, Nq2, Nq3, Act.put, Nq4, Nq5, Nq6])))
        | ((refine wpAnyH_ready (rs := [15, 16]) (by decide +kernel) (by simp) (AllReadyH.cons rfl (fun K hK => ?_) (AllReadyH.cons rfl (fun K hK => ?_) AllReadyH.nil))) <;> ((first | (first | (go_at_call 81; (with_reducible refine (KD.out _ (by (repeat' first | (with_reducible first | exact Bq0 | assumption | refine Bq1 ?_ | refine Bq2 ?_ | refine Bq3 ?_ ?_ | refine Bq4 ?_ (by assumption)) | go_size))).mono ?_); rintro e v1 ⟨rfl, rfl⟩) | (refine step_append_lies _ (by rfl) _ _ _ (by rfl) w.heap.size 106 i0 (.int .u32 0) 1 4 Tryd.underlying71 hinf hz0 hz1 hz2 rfl (by decide) _ i (digs s i) (by rfl) ((hD.out.own.alloc _).drew) ⟨wr.heap.size, 0, none⟩ 1 1 [.int .u32 dg] (by rfl) (by rfl) (World.news_of_block (cs := #[.int .u32 dg]) (t := 106) (fr := (0, 0)) (heap_alloc_new wr _)) (by simp [Value.oneCell']) (by omega) (HML.out i (by omega)) (by omega) (by simp; omega) (wr.heap.size + 1) (by simp) ?_; intro g cap w1 hown hgrow hat hlt1; have HP := Lib.hid (hD.out.pushD (by rw [← HDG.out]; exact hown) hgrow); have hbel1 := HP.out.below)) | (go_simp; (first | (go_at_call 81; (with_reducible refine (KD.out _ (by (repeat' first | (with_reducible first | exact Bq0 | assumption | refine Bq1 ?_ | refine Bq2 ?_ | refine Bq3 ?_ ?_ | refine Bq4 ?_ (by assumption)) | go_size))).mono ?_); rintro e v1 ⟨rfl, rfl⟩) | (refine step_append_lies _ (by rfl) _ _ _ (by rfl) w.heap.size 106 i0 (.int .u32 0) 1 4 Tryd.underlying71 hinf hz0 hz1 hz2 rfl (by decide) _ i (digs s i) (by rfl) ((hD.out.own.alloc _).drew) ⟨wr.heap.size, 0, none⟩ 1 1 [.int .u32 dg] (by rfl) (by rfl) (World.news_of_block (cs := #[.int .u32 dg]) (t := 106) (fr := (0, 0)) (heap_alloc_new wr _)) (by simp [Value.oneCell']) (by omega) (HML.out i (by omega)) (by omega) (by simp; omega) (wr.heap.size + 1) (by simp) ?_; intro g cap w1 hown hgrow hat hlt1; have HP := Lib.hid (hD.out.pushD (by rw [← HDG.out]; exact hown) hgrow); have hbel1 := HP.out.below) | skip))); (refine hK.out _ _ ?_ (fun hNew => ?_)); (focus (refine hS.out _ ?_; (repeat (first | (with_reducible assumption) | (with_reducible refine Below.drew ?_) | ((with_reducible refine below_alloc' ?_ ?_ _); (focus (first | omega | (simp; done) | (simp; omega)))))))); clear hHeld hK K; have hHeld := hNew; clear hNew; (try simp only [Nq1, Nq2, Nq3, Act.put, Nq4, Nq5, Nq6])))))
      all_goals (refine wpAnyH_done (by kernel_rfl) ?_ _; clear hHeld)
      clear hown hgrow hat hlt1 hbel1 hB0 hba hD s0 s1
      go_wp2
      go_roundg (x - (i + 1))
      case rel => exact ⟨i + 1, by omega, by omega, by go_num, HP⟩
      case measure => omega
    · obtain rfl : i = x := by omega
      have g1 : ¬ (i : Int) < (i : Int) := by omega
      obtain ⟨a2, c2, rfl, h6, h7, h8⟩ := hD.out.nat
      have HR := Lib.hid h8
      have H7 := Lib.hid h7
      clear h8 h7 hba AD HW DA D0
      go_wp2_with fail
      ((with_reducible refine (TR.out i c2 _ (by omega) h6 H7.out SUM2.out _ HR.out).mono ?_); rintro e w2 ⟨rfl, hb2⟩)
      have HS := Lib.hid ((HR.out.less SUM2.out).later hb2)
      go_wp2
      go_returns
      exact ⟨_, _, rfl, HS.out, by (repeat' first | (with_reducible first | exact Bq0 | assumption | refine Bq1 ?_ | refine Bq2 ?_ | refine Bq3 ?_ ?_ | refine Bq4 ?_ (by assumption)) | go_size)⟩
end Go.Proofs.YthikaimhmpenhaaDoor

namespace Go.Proofs.YthikaimhmpenhaaDoor.Wd
set_option linter.all false
@[irreducible] def seth (T s v : Nat) : Nat := T % 2 ^ (32 * s) + 2 ^ (32 * s) * (v + 4294967296 * (T / 2 ^ (32 * s) / 4294967296))
@[irreducible] def hn (T s : Nat) : Nat := T / 2 ^ (32 * s) % 4294967296
theorem hn_lt (T s : Nat) : hn T s < 4294967296 := by unfold hn; exact Nat.mod_lt _ (by omega)
theorem hw_hn (T s : Nat) : hw T s = (hn T s : Int) := by unfold hw hn; rfl
theorem hw_set_same (T s v : Nat) (hv : v < 4294967296) : hw (seth T s v) s = (v : Int) := by
  unfold hw seth
  have hp : 0 < 2 ^ (32 * s) := Nat.pow_pos (by omega)
  generalize 2 ^ (32 * s) = p at *
  rw [Nat.add_mul_div_left _ _ hp, Nat.div_eq_of_lt (Nat.mod_lt _ hp), Nat.zero_add, Nat.add_mul_mod_self_left, Nat.mod_eq_of_lt hv]
theorem hw_set_high (T s v j : Nat) (hv : v < 4294967296) (h : s < j) : hw (seth T s v) j = hw T j := by
  unfold hw seth
  have hp : 0 < 2 ^ (32 * s) := Nat.pow_pos (by omega)
  have e : 2 ^ (32 * j) = 2 ^ (32 * s) * 4294967296 * 2 ^ (32 * (j - s - 1)) := by
    rw [← pow32_next, ← Nat.pow_add]; congr 1; omega
  rw [e]
  generalize 2 ^ (32 * s) = p at *
  generalize 2 ^ (32 * (j - s - 1)) = q
  rw [← Nat.div_div_eq_div_mul, ← Nat.div_div_eq_div_mul, ← Nat.div_div_eq_div_mul, ← Nat.div_div_eq_div_mul]
  rw [Nat.add_mul_div_left _ _ hp, Nat.div_eq_of_lt (Nat.mod_lt _ hp), Nat.zero_add, Nat.add_mul_div_left _ _ (by omega), Nat.div_eq_of_lt hv, Nat.zero_add]
theorem hw_set_low (T s v j : Nat) (h : j < s) : hw (seth T s v) j = hw T j := by
  unfold hw seth
  have hq : 0 < 2 ^ (32 * j) := Nat.pow_pos (by omega)
  have e : 2 ^ (32 * s) = 2 ^ (32 * j) * (4294967296 * 2 ^ (32 * (s - j - 1))) := by
    rw [← Nat.mul_assoc, ← pow32_next, ← Nat.pow_add]; congr 1; omega
  rw [e]
  generalize 2 ^ (32 * j) = q at *
  generalize 2 ^ (32 * (s - j - 1)) = r
  generalize T / (q * (4294967296 * r)) / 4294967296 = H
  have e2 : q * (4294967296 * r) * (v + 4294967296 * H) = q * (4294967296 * (r * (v + 4294967296 * H))) := by
    simp [Nat.mul_assoc]
  rw [e2, Nat.add_mul_div_left _ _ hq, Nat.add_mul_mod_self_left, Nat.mod_mul_right_div_self, Nat.mod_mul_right_mod]
theorem hsplit_at (T s : Nat) : T = T % 2 ^ (32 * s) + 2 ^ (32 * s) * (hn T s + 4294967296 * (T / 2 ^ (32 * s) / 4294967296)) := by
  unfold hn
  have h1 := Nat.mod_add_div T (2 ^ (32 * s))
  have h2 := Nat.mod_add_div (T / 2 ^ (32 * s)) 4294967296
  rw [h2, h1]
theorem hmul_step (T s xy c : Nat) : seth T s ((xy + hn T s + c) % 4294967296) + ((xy + hn T s + c) / 4294967296) * 2 ^ (32 * (s + 1)) = T + (xy + c) * 2 ^ (32 * s) := by
  have h := hsplit_at T s
  conv => rhs; rw [h]
  unfold seth
  rw [pow32_next]
  generalize 2 ^ (32 * s) = p
  generalize T / p / 4294967296 = H
  generalize T % p = L
  generalize hn T s = t
  have hv := Nat.mod_add_div (xy + t + c) 4294967296
  generalize (xy + t + c) % 4294967296 = v at *
  generalize (xy + t + c) / 4294967296 = d at *
  have e : xy + c = v + 4294967296 * d - t := by omega
  have e1 : d * (p * 4294967296) = p * (4294967296 * d) := by
    rw [Nat.mul_comm d, Nat.mul_assoc]
  have e2 : (xy + c) * p = p * (xy + c) := Nat.mul_comm _ _
  rw [e1, e2, Nat.add_assoc, Nat.add_assoc, ← Nat.mul_add, ← Nat.mul_add]
  congr 2; omega
theorem seth_lt (T s v m : Nat) (hv : v < 4294967296) (hs : s < m) (hT : T < 2 ^ (32 * m)) : seth T s v < 2 ^ (32 * m) := by
  unfold seth
  have e : 2 ^ (32 * m) = 2 ^ (32 * s) * (4294967296 * 2 ^ (32 * (m - s - 1))) := by
    rw [← Nat.mul_assoc, ← pow32_next, ← Nat.pow_add]; congr 1; omega
  rw [e] at hT ⊢
  have hp : 0 < 2 ^ (32 * s) := Nat.pow_pos (by omega)
  generalize 2 ^ (32 * s) = p at *
  generalize 2 ^ (32 * (m - s - 1)) = r at *
  have h1 : T / p / 4294967296 < r := by
    rw [Nat.div_div_eq_div_mul, Nat.div_lt_iff_lt_mul (by omega)]
    rw [Nat.mul_comm r, Nat.mul_assoc]; exact hT
  generalize T / p / 4294967296 = H at *
  have h2 : v + 4294967296 * H + 1 ≤ 4294967296 * r := by
    have := Nat.mul_le_mul_left 4294967296 (by omega : H + 1 ≤ r)
    omega
  have h3 := Nat.mul_le_mul_left p h2
  rw [Nat.mul_add, Nat.mul_one] at h3
  have h4 := Nat.mod_lt T hp
  omega
theorem seth_high (T s v : Nat) (hT : T < 2 ^ (32 * s)) : seth T s v = T + v * 2 ^ (32 * s) := by
  unfold seth
  rw [Nat.div_eq_of_lt hT, Nat.mod_eq_of_lt hT]; simp [Nat.mul_comm]
theorem hmod_next (b j : Nat) : b % 2 ^ (32 * (j + 1)) = b % 2 ^ (32 * j) + 2 ^ (32 * j) * hn b j := by
  unfold hn; rw [pow32_next, Nat.mod_mul]
theorem hmul_inv {T0 T c x b k j : Nat} (h : T + c * 2 ^ (32 * (k + j)) = T0 + x * (b % 2 ^ (32 * j)) * 2 ^ (32 * k)) :
    seth T (k + j) ((x * hn b j + hn T (k + j) + c) % 4294967296) + (x * hn b j + hn T (k + j) + c) / 4294967296 * 2 ^ (32 * (k + (j + 1))) = T0 + x * (b % 2 ^ (32 * (j + 1))) * 2 ^ (32 * k) := by
  rw [show k + (j + 1) = (k + j) + 1 by omega, hmul_step, hmod_next]
  have e : 2 ^ (32 * (k + j)) = 2 ^ (32 * k) * 2 ^ (32 * j) := by rw [← Nat.pow_add]; congr 1; omega
  rw [e] at h ⊢
  generalize 2 ^ (32 * k) = K at *
  generalize 2 ^ (32 * j) = J at *
  generalize b % J = m at *
  generalize hn b j = y at *
  have e1 : T + (x * y + c) * (K * J) = (T + c * (K * J)) + x * y * (K * J) := by rw [Nat.add_mul]; omega
  have e2 : x * (m + J * y) * K = x * m * K + x * y * (K * J) := by
    rw [Nat.mul_add, Nat.add_mul]
    congr 1
    rw [Nat.mul_comm J y, ← Nat.mul_assoc, Nat.mul_assoc, Nat.mul_comm J K]
  rw [e1, h, e2]; omega
@[irreducible] def hrows (a b k : Nat) : Nat := (a % 2 ^ (32 * k)) * b
theorem hrows_zero (a b : Nat) : hrows a b 0 = 0 := by unfold hrows; simp [Nat.mod_one]
end Go.Proofs.YthikaimhmpenhaaDoor.Wd

namespace Go.Proofs.YthikaimhmpenhaaDoor
set_option linter.all false
open Go Go.RowKit Wd
set_option maxRecDepth 100000
structure Outd (w : World) (B T K : Nat) : Prop where
  cell : ∀ j, j < K → w.cell? ⟨B, j, none⟩ = some (.int .u32 (hw T j))
  froz : ∀ o, w.frozen? ⟨B, o, none⟩ = false
  lt : B < w.heap.size
theorem Outd.drew {w : World} {B T K : Nat} (h : Outd w B T K) : Outd w.drew B T K := ⟨h.cell, h.froz, h.lt⟩
theorem Outd.set {w : World} {B T K s v : Nat} (h : Outd w B T K) (hs : s < K) (hv : v < 4294967296) : Outd (w.setCell ⟨B, s, none⟩ (.int .u32 (v : Int))) B (seth T s v) K :=
  ⟨fun j hj => by
    by_cases e : j = s
    · subst e
      rw [World.cell?_setCell_same _ _ _ (u := .int .u32 (hw T j)) (h.cell j hj), hw_set_same _ _ _ hv]
    · rw [World.cell?_setCell_other _ _ _ _ (fun e2 => e (congrArg Addr.off e2).symm), h.cell j hj]
      rcases Nat.lt_or_ge j s with h1 | h1
      · rw [hw_set_low _ _ _ _ h1]
      · rw [hw_set_high _ _ _ _ hv (by omega)], fun o => by rw [World.frozen?_setCell]; exact h.froz o, by simpa using h.lt⟩
theorem Outd.nat {w : World} {B T K : Nat} (h : Outd w B T K) : NatAt w (some ⟨B, 0, none⟩) T K := fun _ => ⟨B, 0, rfl, h.lt, fun j hj => by rw [Nat.zero_add]; exact h.cell j hj⟩
theorem hw_none (j : Nat) : hw 0 j = 0 := by unfold hw; simp
theorem Outd.made (w : World) (K : Nat) (T : TypeId) : Outd (w.alloc (.cells (madeCells #[.int .u32 0] K) T)) w.heap.size 0 K :=
  ⟨fun j hj => by rw [World.cell?_alloc_new, hw_none]; simp [madeCells, hj, Nat.mod_one], fun o => World.frozen?_alloc_new _ _ _ _, by simp⟩
@[irreducible] def NRow (a b y k j T d : Nat) : Prop := T < 2 ^ (32 * (k + y)) ∧ T + d * 2 ^ (32 * (k + j)) = (a % 2 ^ (32 * k)) * b + hn a k * (b % 2 ^ (32 * j)) * 2 ^ (32 * k) ∧ d < 4294967296
theorem NRow.start {a b y k : Nat} (hb : b < 2 ^ (32 * y)) : NRow a b y k 0 (hrows a b k) 0 := by
  unfold NRow hrows
  refine ⟨?_, by simp [Nat.mod_one], by omega⟩
  have e : 2 ^ (32 * (k + y)) = 2 ^ (32 * k) * 2 ^ (32 * y) := by rw [← Nat.pow_add]; congr 1; omega
  rw [e]
  exact Nat.mul_lt_mul_of_lt_of_le (Nat.mod_lt _ (Nat.pow_pos (by omega))) (Nat.le_of_lt hb) (Nat.pow_pos (by omega))
theorem word_le {x y t d : Nat} (hx : x < 4294967296) (hy : y < 4294967296) (ht : t < 4294967296) (hd : d < 4294967296) : x * y ≤ 18446744065119617025 ∧ x * y + t + d ≤ 18446744073709551615 := by
  have := Nat.mul_le_mul (by omega : x ≤ 4294967295) (by omega : y ≤ 4294967295)
  omega
theorem NRow.next {a b y k j T d : Nat} (hj : j < y) (h : NRow a b y k j T d) :
    NRow a b y k (j + 1) (seth T (k + j) ((hn a k * hn b j + hn T (k + j) + d) % 4294967296)) ((hn a k * hn b j + hn T (k + j) + d) / 4294967296) := by
  unfold NRow at *
  have := word_le (hn_lt a k) (hn_lt b j) (hn_lt T (k + j)) h.2.2
  exact ⟨seth_lt _ _ _ _ (Nat.mod_lt _ (by omega)) (by omega) h.1, hmul_inv h.2.1, by omega⟩
theorem NRow.carry {a b y k j T d : Nat} (h : NRow a b y k j T d) : d < 4294967296 := by unfold NRow at h; exact h.2.2
theorem NRow.done {a b y k T d : Nat} (hb : b < 2 ^ (32 * y)) (h : NRow a b y k y T d) : seth T (k + y) d = hrows a b (k + 1) := by
  unfold NRow hrows at *
  obtain ⟨hT, h, -⟩ := h
  rw [seth_high _ _ _ hT, h, Nat.mod_eq_of_lt hb, hmod_next a k, Nat.add_mul]
  generalize 2 ^ (32 * k) = K
  exact congrArg (a % K * b + ·) ((Nat.mul_comm _ _).trans (Nat.mul_assoc _ _ _).symm)
theorem hrows_all {a b x : Nat} (ha : a < 2 ^ (32 * x)) : hrows a b x = a * b := by unfold hrows; rw [Nat.mod_eq_of_lt ha]
theorem info_u : (Tryd.prog.info? 106).map (fun i => (i.zero, i.size, i.bytes)) = some (some (.int .u32 0), 1, 4) := by kernel_rfl
set_option maxHeartbeats 4000000 in
theorem ntimes_any (m n c d : Nat) (a b : Option Addr) (hm : nl m ≤ 8) (hn8 : nl n ≤ 8) (w : World) (h : NatAt w a m (nl m)) (h' : NatAt w b n (nl n)) :
    Calls Tryd.prog 64 #[.slice a (nl m) c, .slice b (nl n) d] w fun e w' => ∃ a' c', e = .returned (.slice a' (nl (m * n)) c') ∧ NatAt w' a' (m * n) (nl (m * n)) ∧ Below w.heap.size w w' := by
  have hml := nl_le.1 (Nat.le_refl (nl m))
  have hnl := nl_le.1 (Nat.le_refl (nl n))
  have hpl : nl (m * n) ≤ nl m + nl n := nl_le.2 (by rw [Nat.mul_add, Nat.pow_add]; exact Nat.mul_lt_mul_of_lt_of_le hml (Nat.le_of_lt hnl) (Nat.pow_pos (by omega)))
  have R0 := Lib.hid (fun k => NRow.start (a := m) (k := k) hnl)
  have R1 := Lib.hid (fun (k j T d : Nat) hj h => NRow.next (a := m) (b := n) (y := nl n) (k := k) (j := j) (T := T) (d := d) hj h)
  have R2 := Lib.hid (fun (k T d : Nat) h => NRow.done (a := m) (b := n) (y := nl n) (k := k) (T := T) (d := d) hnl h)
  have RZ := Lib.hid (hrows_zero m n)
  have RA := Lib.hid (hrows_all (a := m) (b := n) (x := nl m) hml)
  have TR := Lib.hid (fun k c a (hk : k ≤ 64) (hkc : k ≤ c) (hcm : c ≤ maxLen) hl w h => ntrim_any (m * n) k c a hk hkc hcm hl w h)
  have HA := Lib.hid h
  have HB := Lib.hid h'
  have HP := Lib.hid hpl
  clear hml hnl hpl h h'
  generalize nl m = x at *
  generalize nl n = y at *
  have hmk := run_make_row' (P := Tryd.prog) 71 106 (.int .u32 0) 4 Tryd.underlying71 info_u rfl .i64 .i64 (x + y) (by omega) (by omega)
  rw [show ((x + y : Nat) : Int) = (x : Int) + (y : Int) by omega] at hmk
  go_enter Tryd.func64, Tryd.ntmps64
  go_upto_region 2 with (fail)
  refine wp_world (fun v => Hid (Outd v w.heap.size 0 (x + y) ∧ Below w.heap.size w v)) (Lib.hid ⟨Outd.made _ _ _, by (repeat' first | (with_reducible first | exact Bq0 | assumption | refine Bq1 ?_ | refine Bq2 ?_ | refine Bq3 ?_ ?_ | refine Bq4 ?_ (by assumption)) | go_size)⟩) ?_
  intro G HG
  go_wp2
  go_loopg [6] x (fun gg iv wr => ∃ i : Nat, i ≤ x ∧ x - i ≤ gg ∧ iv = .int .i64 (i : Int) ∧ Hid (Outd wr w.heap.size (hrows m n i) (x + y) ∧ Below w.heap.size w wr))
  case atStart => exact ⟨0, by omega, by omega, rfl, by rw [RZ.out]; exact HG⟩
  case round =>
    obtain ⟨i, hi, hgi, rfl, HI⟩ := hrel
    by_cases hlt : i < x
    · have hlt' : (i : Int) < (x : Int) := by omega
      obtain ⟨W1, rfl⟩ : ∃ v, v = wr := ⟨_, rfl⟩
      obtain ⟨ba, oa, ea, la, ca⟩ := HA.out (by omega)
      have cai := ca i hlt
      rw [hw_hn] at cai
      have xi := hn_lt m i
      have S0 := Lib.hid (R0.out i)
      have S1 := Lib.hid (fun (j T d : Nat) hj h => R1.out i j T d hj h)
      have S2 := Lib.hid (fun (T d : Nat) h => R2.out i T d h)
      have KA := Lib.hid (show ∀ v, Below w.heap.size w v → v.cell? ⟨ba, oa + i, none⟩ = some (.int .u32 (hn m i : Int)) ∧ ba < v.heap.size from fun v hb => ⟨(hb.cell (p := ⟨ba, oa + i, none⟩) la).trans cai, keep_lt hb la⟩)
      clear ca cai R0 R1 R2 HG la
      generalize hn m i = p at *
      subst ea
      go_wp2
      go_loopg [7, 8] y (fun gg cv kv wr => ∃ k : Nat, k ≤ y ∧ y - k ≤ gg ∧ kv = .int .i64 (k : Int) ∧ ∃ T d : Nat, cv = .int .u64 (d : Int) ∧ Hid (NRow m n y i k T d) ∧ Hid (Outd wr w.heap.size T (x + y) ∧ Below w.heap.size w wr))
      case atStart => exact ⟨0, by omega, by omega, rfl, _, 0, rfl, S0, HI⟩
      case round =>
        obtain ⟨k, hk, hgk, rfl, T, dd, rfl, HR, HO⟩ := hrel
        clear HI
        have hd := HR.out.carry
        by_cases hltk : k < y
        · have hltk' : (k : Int) < (y : Int) := by omega
          obtain ⟨bb, ob, eb, lb, cb⟩ := HB.out (by omega)
          have cbk := cb k hltk
          rw [hw_hn] at cbk
          have yk := hn_lt n k
          have tk := hn_lt T (i + k)
          have ct := HO.out.1.cell (i + k) (by omega)
          rw [hw_hn] at ct
          have NX := Lib.hid (S1.out k T dd hltk HR.out)
          have c1 := (HO.out.2.cell (p := ⟨bb, ob + k, none⟩) lb).trans cbk
          have l1 := keep_lt HO.out.2 lb
          have c2 := (KA.out wr HO.out.2).1
          have l2 := (KA.out wr HO.out.2).2
          clear cb cbk HR
          generalize hn n k = q at *
          generalize hn T (i + k) = t0 at *
          have hwl := word_le xi yk tk hd
          obtain ⟨pq, hpq⟩ : ∃ z : Nat, z = p * q := ⟨_, rfl⟩
          rw [← hpq] at hwl NX
          have r1 : IntKind.u64.wrap ((p : Int) * (q : Int)) = (pq : Int) := by rw [hpq, ← Int.natCast_mul, IntKind.wrap_u64]; omega
          have r2 : IntKind.u64.wrap ((pq : Int) + (t0 : Int)) = (pq : Int) + (t0 : Int) := by rw [IntKind.wrap_u64]; omega
          have r3 : IntKind.u64.wrap ((pq : Int) + (t0 : Int) + (dd : Int)) = (pq : Int) + (t0 : Int) + (dd : Int) := by rw [IntKind.wrap_u64]; omega
          obtain ⟨lo, hlo⟩ : ∃ z : Nat, z = (pq + t0 + dd) % 4294967296 := ⟨_, rfl⟩
          obtain ⟨hi', hhi⟩ : ∃ z : Nat, z = (pq + t0 + dd) / 4294967296 := ⟨_, rfl⟩
          rw [← hlo, ← hhi] at NX
          have r4 : bits .and .u64 ((pq : Int) + (t0 : Int) + (dd : Int)) 4294967295 = (lo : Int) := by rw [low32 _ (by omega) (by omega)]; omega
          have r5 : ((pq : Int) + (t0 : Int) + (dd : Int)) / 4294967296 = (hi' : Int) := by omega
          have hlo2 : lo < 4294967296 := by omega
          have r6 : (lo : Int) % 4294967296 = (lo : Int) := by omega
          clear hlo hhi
          have hpq' := Lib.hid hpq
          clear hpq
          subst eb
          have fz := HO.out.1.froz
          have lz := HO.out.1.lt
          have hik : (i : Int) + (k : Int) < (x : Int) + (y : Int) := by omega
          go_upto_region 9 with (fail)
          go_region
          have NO := Lib.hid ((HO.out.1.drew).set (s := i + k) (v := lo) (by omega) hlo2)
          have HB' := Lib.hid HO.out.2
          clear HO c1 l1 c2 l2
          go_wp2
          go_roundg (y - (k + 1))
          case rel => exact ⟨k + 1, by omega, by omega, by go_num, _, _, rfl, NX, Lib.hid ⟨NO.out, by have := HB'.out; (repeat' first | (with_reducible first | exact Bq0 | assumption | refine Bq1 ?_ | refine Bq2 ?_ | refine Bq3 ?_ ?_ | refine Bq4 ?_ (by assumption)) | go_size)⟩⟩
          case measure => omega
        · obtain rfl : k = y := by omega
          have hltk' : ¬ (k : Int) < (k : Int) := by omega
          have NX := Lib.hid (S2.out T dd HR.out)
          have ct := HO.out.1.cell (i + k) (by omega)
          have fz := HO.out.1.froz
          have lz := HO.out.1.lt
          have hik : (i : Int) + (k : Int) < (x : Int) + (k : Int) := by omega
          have r6 : (dd : Int) % 4294967296 = (dd : Int) := by omega
          have NO := Lib.hid (HO.out.1.set (s := i + k) (v := dd) (by omega) hd)
          have HB' := Lib.hid HO.out.2
          generalize hw T (i + k) = t0 at *
          clear HR S1 S2 KA HO
          go_wp2
          go_roundg (x - (i + 1))
          case rel => exact ⟨i + 1, by omega, by omega, by go_num, Lib.hid ⟨by rw [← NX.out]; exact NO.out, by have := HB'.out; (repeat' first | (with_reducible first | exact Bq0 | assumption | refine Bq1 ?_ | refine Bq2 ?_ | refine Bq3 ?_ ?_ | refine Bq4 ?_ (by assumption)) | go_size)⟩⟩
          case measure => omega
    · obtain rfl : i = x := by omega
      have hlt' : ¬ (i : Int) < (i : Int) := by omega
      have HO := HI.out.1
      rw [RA.out] at HO
      have HN := Lib.hid HO.nat
      have HB' := Lib.hid HI.out.2
      clear HI HO R0 R1 R2 HG RA RZ
      go_wp2_with fail
      ((with_reducible refine (TR.out (i + y) (i + y) _ (by omega) (Nat.le_refl _) (by unfold maxLen; omega) HP.out _ HN.out).mono ?_); rintro e w2 ⟨rfl, hb2⟩)
      have HS := Lib.hid ((HN.out.less HP.out).later hb2)
      have hbw := below_after HB'.out hb2
      go_wp2
      go_returns
      exact ⟨_, _, rfl, HS.out, by (repeat' first | (with_reducible first | exact Bq0 | assumption | refine Bq1 ?_ | refine Bq2 ?_ | refine Bq3 ?_ ?_ | refine Bq4 ?_ (by assumption)) | go_size)⟩
end Go.Proofs.YthikaimhmpenhaaDoor
