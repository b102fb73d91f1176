/-
  The law's function sums: a fan of tetrahedra, face by face.
  What hull.Mesh leaves in memory, and what sums makes of it: the closed surface's sums; bounds.
  (Written by wip/pack.py out of XFTopC, XFTopE.)
-/
import Derived.Test.YthikaimhmpenhaaDoorK38
import Derived.Deep.QuietTactic
import Derived.BigQuiet
import Derived.Test.YthikaimhmpenhaaDoorK34
namespace Go.Proofs.YthikaimhmpenhaaDoor
set_option linter.all false
open Go Go.RowKit Wd
open Fa (P3 W10 und1 und dt dl dh ap fan fanA tri)
open Sf (sr)
set_option maxRecDepth 100000
theorem sr_shift (f : Nat → Int) : ∀ n, sr f (n + 1) = f 0 + sr (fun j => f (j + 1)) n
  | 0 => by simp [sr]
  | n + 1 => by
    rw [sr, sr_shift f n]
    simp only [sr]
    omega
def pt0 : P3 := (0, 0, 0)
def fs (u : W10) (Z : Int) (L : List P3) (n : Nat) : Int := sr (fun j => ap u Z (L.getD 0 pt0) (L.getD (j + 1) pt0) (L.getD (j + 2) pt0)) n
theorem fan_is (u : W10) (Z : Int) (p : P3) : ∀ l : List P3, fan u Z p l = sr (fun j => ap u Z p (l.getD j pt0) (l.getD (j + 1) pt0)) (l.length - 1)
  | [] => rfl
  | [_] => rfl
  | a :: b :: l => by
    rw [fan, fan_is u Z p (b :: l)]
    simp only [List.length_cons, Nat.add_sub_cancel]
    rw [sr_shift]
    simp
theorem fanA_is (u : W10) (Z : Int) (L : List P3) : fanA u Z L = fs u Z L (L.length - 2) := by
  cases L with
  | nil => rfl
  | cons p l =>
    rw [fanA, fan_is, fs]
    simp only [List.length_cons, List.getD_cons_zero, List.getD_cons_succ]
    rfl
theorem dt_cg {a b c p q r x y u z a' b' c' p' q' r' x' y' u' z' : Int} (h0 : Cg a a') (h1 : Cg b b') (h2 : Cg c c') (h3 : Cg p p') (h4 : Cg q q') (h5 : Cg r r') (h6 : Cg x x') (h7 : Cg y y') (h8 : Cg u u') (h9 : Cg z z') : Cg (dt a b c p q r x y u z) (dt a' b' c' p' q' r' x' y' u' z') := by
  unfold dt
  exact (((h0.mul ((h4.mul (h8.sub h9)).sub ((h5.sub h9).mul h7))).sub (h1.mul ((h3.mul (h8.sub h9)).sub ((h5.sub h9).mul h6)))).add ((h2.sub h9).mul ((h3.mul h7).sub (h4.mul h6))))
theorem detW (p a b : P3) (Z : Int) (w : World) :
    Calls Tryd.prog 21 #[.agg #[.int .i64 (w64 p.1), .int .i64 (w64 p.2.1), .int .i64 (w64 p.2.2)], .agg #[.int .i64 (w64 a.1), .int .i64 (w64 a.2.1), .int .i64 (w64 a.2.2)], .agg #[.int .i64 (w64 b.1), .int .i64 (w64 b.2.1), .int .i64 (w64 b.2.2)], .int .i64 (IntKind.i64.wrap Z)] w fun e w' =>
      e = .returned (.int .i64 (w64 (ap dt Z p a b))) ∧ Below w.heap.size w w' := by
  have h := detH (w64 p.1) (w64 p.2.1) (w64 p.2.2) (w64 a.1) (w64 a.2.1) (w64 a.2.2) (w64 b.1) (w64 b.2.1) (w64 b.2.2) (IntKind.i64.wrap Z) w
  have e : w64 (dt (w64 p.1) (w64 p.2.1) (w64 p.2.2) (w64 a.1) (w64 a.2.1) (w64 a.2.2) (w64 b.1) (w64 b.2.1) (w64 b.2.2) (IntKind.i64.wrap Z)) = w64 (ap dt Z p a b) := by
    rw [← w64_of (Cg.refl (dt _ _ _ _ _ _ _ _ _ _))]
    exact w64_of (dt_cg (w64_cg _) (w64_cg _) (w64_cg _) (w64_cg _) (w64_cg _) (w64_cg _) (w64_cg _) (w64_cg _) (w64_cg _) (Cg.refl Z).wrap)
  rw [e] at h
  exact h
structure Pts (w : World) (ao : Option Addr) (L : List P3) : Prop where
  at' : ∀ i, i < L.length → ∃ g, ao = some ⟨g, 0, none⟩ ∧ g < w.heap.size ∧ w.cell? ⟨g, i * 3, none⟩ = some (.int .i64 (w64 (L.getD i pt0).1)) ∧ w.cell? ⟨g, i * 3 + 1, none⟩ = some (.int .i64 (w64 (L.getD i pt0).2.1)) ∧ w.cell? ⟨g, i * 3 + 2, none⟩ = some (.int .i64 (w64 (L.getD i pt0).2.2))
theorem Pts.later {w x : World} {ao : Option Addr} {L : List P3} (h : Pts w ao L) (hb : Below w.heap.size w x) : Pts x ao L :=
  ⟨fun i hi => by obtain ⟨g, e, l, c0, c1, c2⟩ := h.at' i hi; exact ⟨g, e, keep_lt hb l, keep_one hb l c0, keep_one hb l c1, keep_one hb l c2⟩⟩
theorem own_pts {w : World} {base : Nat} {v : Value} {L : List P3} (h : w.ownsRow base 68 3 v L.length (ptC L)) : ∃ ao c, v = .slice ao L.length c ∧ Pts w ao L := by
  by_cases h0 : 0 < L.length
  · obtain ⟨g, c, rfl, -, hg⟩ := h.form h0
    refine ⟨_, c, rfl, ⟨fun i hi => ⟨g, rfl, hg, ?_⟩⟩⟩
    obtain ⟨c0, c1, c2⟩ := ptC_at L i hi
    have e : L.getD i pt0 = L[i] := by simp [hi]
    rw [e]
    exact ⟨(h.cellAt _ (by omega)).trans c0, (h.cellAt _ (by omega)).trans c1, (h.cellAt _ (by omega)).trans c2⟩
  · rcases h.2 with ⟨rfl, hn⟩ | ⟨g, c, cur, rfl, -⟩
    · exact ⟨none, 0, by rw [hn], ⟨fun i hi => by omega⟩⟩
    · exact ⟨_, c, rfl, ⟨fun i hi => by omega⟩⟩
def fpt (P F : Nat → Int) (i k : Nat) : P3 := (P ((F (i * 3 + k)).toNat * 3), P ((F (i * 3 + k)).toNat * 3 + 1), P ((F (i * 3 + k)).toNat * 3 + 2))
def trF (u : W10) (P F : Nat → Int) (z d : Int) (i : Nat) : Int := tri u z d (fpt P F i 0) (fpt P F i 1) (fpt P F i 2)
def l9 (a b c : P3) (k : Nat) : Array Value := if k = 0 then #[.int .i64 0, .int .i64 0, .int .i64 0, .int .i64 0, .int .i64 0, .int .i64 0, .int .i64 0, .int .i64 0, .int .i64 0]
  else if k = 1 then #[.int .i64 a.1, .int .i64 a.2.1, .int .i64 a.2.2, .int .i64 0, .int .i64 0, .int .i64 0, .int .i64 0, .int .i64 0, .int .i64 0]
  else if k = 2 then #[.int .i64 a.1, .int .i64 a.2.1, .int .i64 a.2.2, .int .i64 b.1, .int .i64 b.2.1, .int .i64 b.2.2, .int .i64 0, .int .i64 0, .int .i64 0]
  else #[.int .i64 a.1, .int .i64 a.2.1, .int .i64 a.2.2, .int .i64 b.1, .int .i64 b.2.1, .int .i64 b.2.2, .int .i64 c.1, .int .i64 c.2.1, .int .i64 c.2.2]
structure SmM (w : World) (pv fv : Value) (wr : World) : Prop where
  c : ∀ o, wr.cell? ⟨w.heap.size, o, none⟩ = (#[pv, fv] : Array Value)[o]?
  l : w.heap.size < wr.heap.size
  b : Below w.heap.size w wr
theorem SmM.later {w wr x : World} {pv fv : Value} (h : SmM w pv fv wr) (hb : Below wr.heap.size wr x) : SmM w pv fv x := ⟨keep_cell hb h.l h.c, keep_lt hb h.l, below_after h.b hb⟩
set_option maxHeartbeats 16000000 in
theorem sumsH (g k np nf cp cf : Nat) (P F : Nat → Int) (z d : Int) (hz : 0 ≤ z) (hz' : z ≤ 1000000) (hF : ∀ j, j < nf * 3 → 0 ≤ F j ∧ F j < np) (hP : ∀ i, i < nf → ∀ q, q < 3 → 0 ≤ (fpt P F i q).2.2 ∧ (fpt P F i q).2.2 ≤ 1000000) (hnp : np ≤ 100000) (hnf : nf ≤ 100000) (w : World) (hr : RowI w g (np * 3) P) (lg : g < w.heap.size) (hq : RowI w k (nf * 3) F) (lk : k < w.heap.size) :
    Calls Tryd.prog 9 #[.agg #[.slice (some ⟨g, 0, none⟩) np cp, .slice (some ⟨k, 0, none⟩) nf cf], .int .i64 z, .int .i64 d] w fun e w' =>
      e = .returned (.tuple #[.int .i64 (w64 (sr (trF dt P F z d) nf)), .int .i64 (w64 (sr (trF dl P F z d) nf)), .int .i64 (w64 (sr (trF dh P F z d) nf))]) ∧ Below w.heap.size w w' := by
  have HR := Lib.hid (show ∀ x : World, Below w.heap.size w x → ∀ j, j < np * 3 → x.cell? ⟨g, j, none⟩ = some (.int .i64 (P j)) from fun x hb j hj => keep_one hb lg (hr j hj))
  have HQ := Lib.hid (show ∀ x : World, Below w.heap.size w x → ∀ j, j < nf * 3 → x.cell? ⟨k, j, none⟩ = some (.int .i64 (F j)) from fun x hb j hj => keep_one hb lk (hq j hj))
  have HF := Lib.hid hF
  have HP := Lib.hid hP
  have w0 : w64 0 = 0 := w64_small (by omega) (by omega)
  have hnp' : (np : Int) ≤ 100000 := by omega
  have hnf' : (nf : Int) ≤ 100000 := by omega
  clear hr hq hF hP
  go_enter Tryd.func9, Tryd.ntmps9
  go_wp2
  go_loopg [9, 10, 11, 12] nf (fun gg v9 v10 v11 v12 wr => ∃ i : Nat, i ≤ nf ∧ nf - i ≤ gg ∧ v12 = .int .i64 (i : Int) ∧ v9 = .int .i64 (w64 (sr (trF dt P F z d) i)) ∧ v10 = .int .i64 (w64 (sr (trF dl P F z d) i)) ∧ v11 = .int .i64 (w64 (sr (trF dh P F z d) i)) ∧ Hid (SmM w (.slice (some ⟨g, 0, none⟩) np cp) (.slice (some ⟨k, 0, none⟩) nf cf) wr))
  case atStart => exact ⟨0, by omega, by omega, rfl, by rw [sr, w0], by rw [sr, w0], by rw [sr, w0], Lib.hid ⟨fun o => by simp [go_sem], by simp, by (repeat' first | (with_reducible first | exact Bq0 | assumption | refine Bq1 ?_ | refine Bq2 ?_ | refine Bq3 ?_ ?_ | refine Bq4 ?_ (by assumption)) | go_size)⟩⟩
  case round =>
    obtain ⟨i, hi, hgi, rfl, rfl, rfl, rfl, HI⟩ := hrel
    by_cases hlt : i < nf
    · have hin : (i : Int) < (nf : Int) := by omega
      have e1 : sr (trF dt P F z d) (i + 1) = sr (trF dt P F z d) i + tri dt z d (fpt P F i 0) (fpt P F i 1) (fpt P F i 2) := rfl
      have e2 : sr (trF dl P F z d) (i + 1) = sr (trF dl P F z d) i + tri dl z d (fpt P F i 0) (fpt P F i 1) (fpt P F i 2) := rfl
      have e3 : sr (trF dh P F z d) (i + 1) = sr (trF dh P F z d) i + tri dh z d (fpt P F i 0) (fpt P F i 1) (fpt P F i 2) := rfl
      have E1 := Lib.hid e1
      have E2 := Lib.hid e2
      have E3 := Lib.hid e3
      clear e1 e2 e3
      have f0 := HF.out (i * 3 + 0) (by omega)
      have f1 := HF.out (i * 3 + 1) (by omega)
      have f2 := HF.out (i * 3 + 2) (by omega)
      have HC := Lib.hid (show ∀ q, q < 3 → ∃ n : Nat, F (i * 3 + q) = (n : Int) ∧ n < np ∧ ∀ x : World, Below w.heap.size w x → x.cell? ⟨k, i * 3 + q, none⟩ = some (.int .i64 (n : Int)) ∧ x.cell? ⟨g, n * 3, none⟩ = some (.int .i64 (fpt P F i q).1) ∧ x.cell? ⟨g, n * 3 + 1, none⟩ = some (.int .i64 (fpt P F i q).2.1) ∧ x.cell? ⟨g, n * 3 + 2, none⟩ = some (.int .i64 (fpt P F i q).2.2) from fun q hq => by
        have h := HF.out (i * 3 + q) (by omega)
        obtain ⟨n, hn⟩ : ∃ n : Nat, F (i * 3 + q) = (n : Int) := ⟨(F (i * 3 + q)).toNat, by omega⟩
        refine ⟨n, hn, by omega, fun x hb => ⟨by rw [HQ.out x hb _ (by omega), hn], ?_, ?_, ?_⟩⟩
        · rw [HR.out x hb _ (by omega)]; unfold fpt; rw [hn]; rfl
        · rw [HR.out x hb _ (by omega)]; unfold fpt; rw [hn]; rfl
        · rw [HR.out x hb _ (by omega)]; unfold fpt; rw [hn]; rfl)
      have HZ := Lib.hid (HP.out i hlt)
      clear f0 f1 f2
      generalize hpa : fpt P F i 0 = pa at *
      generalize hpb : fpt P F i 1 = pb at *
      generalize hpc : fpt P F i 2 = pc at *
      have za := HZ.out 0 (by omega)
      have zb := HZ.out 1 (by omega)
      have zc := HZ.out 2 (by omega)
      rw [hpa] at za
      rw [hpb] at zb
      rw [hpc] at zc
      have hbM := HI.out.b
      have cM := HI.out.c
      have lM := HI.out.l
      obtain ⟨wo, rfl⟩ : ∃ x, x = wr := ⟨_, rfl⟩
      go_wp2
      go_loopg [14] 3 (fun gg v wr => ∃ q : Nat, q ≤ 3 ∧ 3 - q ≤ gg ∧ v = .int .i64 (q : Int) ∧ Hid ((∀ o, wr.cell? ⟨wo.heap.size, o, none⟩ = (l9 pa pb pc q)[o]?) ∧ (∀ o, wr.frozen? ⟨wo.heap.size, o, none⟩ = false) ∧ wo.heap.size < wr.heap.size ∧ Below wo.heap.size wo wr))
      case atStart => exact ⟨0, by omega, by omega, rfl, Lib.hid ⟨fun o => by simp [go_sem, l9], fun o => by simp [go_sem], by simp, (Below.refl _ _).alloc (Nat.le_refl _) _⟩⟩
      case round =>
        obtain ⟨q, hq, hgq, rfl, HL⟩ := hrel
        obtain ⟨cL, fL, lL, bL⟩ := HL.out
        have hM2 := HI.out.later bL
        have cM := hM2.c
        have lM := hM2.l
        by_cases hq3 : q < 3
        · obtain ⟨n, hn, hnn, hrd⟩ := HC.out q hq3
          obtain ⟨r0, r1, r2, r3⟩ := hrd wr hM2.b
          have hnI : (n : Int) < (np : Int) := by omega
          clear hrd hn HC HZ HF HP HQ HR E1 E2 E3 hbM HI hM2
          rcases (by omega : q = 0 ∨ q = 1 ∨ q = 2) with rfl | rfl | rfl
          · rw [hpa] at r1 r2 r3
            rw [Nat.add_zero] at r0
            have cL0 : ∀ o, wr.cell? ⟨wo.heap.size, o, none⟩ = (#[.int .i64 0, .int .i64 0, .int .i64 0, .int .i64 0, .int .i64 0, .int .i64 0, .int .i64 0, .int .i64 0, .int .i64 0] : Array Value)[o]? := fun o => (cL o).trans (by simp [l9])
            clear cL HL
            go_wp2
            go_roundg (3 - (0 + 1))
            case measure => omega
            case rel => exact ⟨1, by omega, by omega, by go_num, Lib.hid ⟨fun o => (set_at (set_at (set_at cL0)) o).trans (by simp [l9]), fun o => by simp only [World.frozen?_setCell]; exact fL o, by simpa using lL, by (repeat' first | (with_reducible first | exact Bq0 | assumption | refine Bq1 ?_ | refine Bq2 ?_ | refine Bq3 ?_ ?_ | refine Bq4 ?_ (by assumption)) | go_size)⟩⟩
          · rw [hpb] at r1 r2 r3
            have cL1 : ∀ o, wr.cell? ⟨wo.heap.size, o, none⟩ = (#[.int .i64 pa.1, .int .i64 pa.2.1, .int .i64 pa.2.2, .int .i64 0, .int .i64 0, .int .i64 0, .int .i64 0, .int .i64 0, .int .i64 0] : Array Value)[o]? := fun o => (cL o).trans (by simp [l9])
            clear cL HL
            go_wp2
            go_roundg (3 - (1 + 1))
            case measure => omega
            case rel => exact ⟨2, by omega, by omega, by go_num, Lib.hid ⟨fun o => (set_at (set_at (set_at cL1)) o).trans (by simp [l9]), fun o => by simp only [World.frozen?_setCell]; exact fL o, by simpa using lL, by (repeat' first | (with_reducible first | exact Bq0 | assumption | refine Bq1 ?_ | refine Bq2 ?_ | refine Bq3 ?_ ?_ | refine Bq4 ?_ (by assumption)) | go_size)⟩⟩
          · rw [hpc] at r1 r2 r3
            have cL2 : ∀ o, wr.cell? ⟨wo.heap.size, o, none⟩ = (#[.int .i64 pa.1, .int .i64 pa.2.1, .int .i64 pa.2.2, .int .i64 pb.1, .int .i64 pb.2.1, .int .i64 pb.2.2, .int .i64 0, .int .i64 0, .int .i64 0] : Array Value)[o]? := fun o => (cL o).trans (by simp [l9])
            clear cL HL
            go_wp2
            go_roundg (3 - (2 + 1))
            case measure => omega
            case rel => exact ⟨3, by omega, by omega, by go_num, Lib.hid ⟨fun o => (set_at (set_at (set_at cL2)) o).trans (by simp [l9]), fun o => by simp only [World.frozen?_setCell]; exact fL o, by simpa using lL, by (repeat' first | (with_reducible first | exact Bq0 | assumption | refine Bq1 ?_ | refine Bq2 ?_ | refine Bq3 ?_ ?_ | refine Bq4 ?_ (by assumption)) | go_size)⟩⟩
        · obtain rfl : q = 3 := by omega
          have c13 : ∀ o, wr.cell? ⟨wo.heap.size, o, none⟩ = (#[.int .i64 pa.1, .int .i64 pa.2.1, .int .i64 pa.2.2, .int .i64 pb.1, .int .i64 pb.2.1, .int .i64 pb.2.2, .int .i64 pc.1, .int .i64 pc.2.1, .int .i64 pc.2.2] : Array Value)[o]? := fun o => (cL o).trans (by simp [l9])
          have HM2 := Lib.hid hM2
          clear HC HZ HF HP HQ HR hbM HI hM2 cL HL
          go_wp2_with fail
          ((with_reducible refine (underH pa pb pc z d hz hz' za zb zc _).mono ?_); rintro e w1 ⟨v, rfl, hown, hb1⟩)
          have HM3 := Lib.hid (HM2.out.later hb1)
          obtain ⟨ao, cc, rfl, hpts⟩ := own_pts hown
          have hlen : (Fa.und z d pa pb pc).length ≤ 6 := by rw [← undTo_3]; exact undTo_len z d pa pb pc 3
          have t1 : tri dt z d pa pb pc = fs dt (d * z) (Fa.und z d pa pb pc) ((Fa.und z d pa pb pc).length - 2) := by unfold Fa.tri; exact fanA_is _ _ _
          have t2 : tri dl z d pa pb pc = fs dl (d * z) (Fa.und z d pa pb pc) ((Fa.und z d pa pb pc).length - 2) := by unfold Fa.tri; exact fanA_is _ _ _
          have t3 : tri dh z d pa pb pc = fs dh (d * z) (Fa.und z d pa pb pc) ((Fa.und z d pa pb pc).length - 2) := by unfold Fa.tri; exact fanA_is _ _ _
          generalize tri dt z d pa pb pc = T1 at *
          generalize tri dl z d pa pb pc = T2 at *
          generalize tri dh z d pa pb pc = T3 at *
          generalize Fa.und z d pa pb pc = L at *
          have HPT := Lib.hid hpts
          have G1 := Lib.hid t1
          have G2 := Lib.hid t2
          have G3 := Lib.hid t3
          generalize sr (trF dt P F z d) i = V1 at *
          generalize sr (trF dl P F z d) i = V2 at *
          generalize sr (trF dh P F z d) i = V3 at *
          clear hown hpts t1 t2 t3 HM2 hb1 c13 fL lL bL cM lM hpa hpb hpc za zb zc
          obtain ⟨wi, rfl⟩ : ∃ x, x = wr := ⟨_, rfl⟩
          generalize hm : L.length = m at *
          have HPA := Lib.hid (show ∀ x, Below w1.heap.size w1 x → ∀ i, i < m → ∃ g, ao = some ⟨g, 0, none⟩ ∧ g < x.heap.size ∧ x.cell? ⟨g, i * 3, none⟩ = some (.int .i64 (w64 (L.getD i pt0).1)) ∧ x.cell? ⟨g, i * 3 + 1, none⟩ = some (.int .i64 (w64 (L.getD i pt0).2.1)) ∧ x.cell? ⟨g, i * 3 + 2, none⟩ = some (.int .i64 (w64 (L.getD i pt0).2.2)) from fun x hb i hi => (HPT.out.later hb).at' i (by omega))
          clear HPT hm
          have hlI : (m : Int) ≤ 6 := by omega
          go_wp2
          go_loopg [9, 10, 11, 17] m (fun gg v9 v10 v11 v wr => ∃ j : Nat, (2 ≤ m → j + 2 ≤ m) ∧ (m < 2 → j = 0) ∧ m - j ≤ gg ∧ v = .int .i64 ((j : Int) + 1) ∧ v9 = .int .i64 (w64 (V1 + fs dt (d * z) L j)) ∧ v10 = .int .i64 (w64 (V2 + fs dl (d * z) L j)) ∧ v11 = .int .i64 (w64 (V3 + fs dh (d * z) L j)) ∧ Hid (Below w1.heap.size w1 wr))
          case atStart => exact ⟨0, by omega, by omega, by omega, rfl, by rw [fs, sr, Int.add_zero], by rw [fs, sr, Int.add_zero], by rw [fs, sr, Int.add_zero], Lib.hid (Below.refl _ _)⟩
          case round =>
            obtain ⟨j, hj, hj0, hgj, rfl, rfl, rfl, rfl, HB⟩ := hrel
            by_cases hjl : j + 2 < m
            · have hjI : (j : Int) + 1 + 1 < (m : Int) := by omega
              have hm0 : (0 : Int) < (m : Int) := by omega
              have hm1 : 0 < m := by omega
              have hj2 : 0 ≤ (j : Int) + 1 + 1 := by omega
              have hj3 : ((j : Int) + 1 + 1).toNat = j + 2 := by omega
              obtain ⟨gb, eb, lgb, p0, p1, p2⟩ := HPA.out _ HB.out 0 (by omega)
              obtain ⟨ga, ea, -, a0, a1, a2⟩ := HPA.out _ HB.out (j + 1) (by omega)
              obtain ⟨gc, ec, -, b0, b1, b2⟩ := HPA.out _ HB.out (j + 2) (by omega)
              subst eb
              obtain rfl : ga = gb := by simpa using ea.symm
              obtain rfl : gc = ga := by simpa using ec.symm
              have s1 : fs dt (d * z) L (j + 1) = fs dt (d * z) L j + ap dt (d * z) (L.getD 0 pt0) (L.getD (j + 1) pt0) (L.getD (j + 2) pt0) := rfl
              have s2 : fs dl (d * z) L (j + 1) = fs dl (d * z) L j + ap dt (d * z) (L.getD 0 pt0) (L.getD (j + 1) pt0) (L.getD (j + 2) pt0) * ((L.getD 0 pt0).1 + (L.getD (j + 1) pt0).1 + (L.getD (j + 2) pt0).1) := rfl
              have s3 : fs dh (d * z) L (j + 1) = fs dh (d * z) L j + ap dt (d * z) (L.getD 0 pt0) (L.getD (j + 1) pt0) (L.getD (j + 2) pt0) * ((L.getD 0 pt0).2.2 + (L.getD (j + 1) pt0).2.2 + (L.getD (j + 2) pt0).2.2 + d * z) := rfl
              have HD := Lib.hid (fun x => detW (L.getD 0 pt0) (L.getD (j + 1) pt0) (L.getD (j + 2) pt0) (d * z) x)
              generalize ap dt (d * z) (L.getD 0 pt0) (L.getD (j + 1) pt0) (L.getD (j + 2) pt0) = T at *
              generalize L.getD 0 pt0 = p at *
              generalize L.getD (j + 1) pt0 = a at *
              generalize L.getD (j + 2) pt0 = b at *
              have S1 := Lib.hid s1
              have S2 := Lib.hid s2
              have S3 := Lib.hid s3
              clear s1 s2 s3 ea ec E1 E2 E3 G1 G2 G3 HPA HM3
              have KA := fun (x : World) (hx : Below wr.heap.size wr x) => And.intro (And.intro (keep_one hx lgb p0) (And.intro (keep_one hx lgb p1) (keep_one hx lgb p2))) (And.intro (And.intro (keep_one hx lgb a0) (And.intro (keep_one hx lgb a1) (keep_one hx lgb a2))) (And.intro (keep_one hx lgb b0) (And.intro (keep_one hx lgb b1) (keep_one hx lgb b2))))
              clear p0 p1 p2 a0 a1 a2 b0 b1 b2
              go_upto_region 16 with (fail)
              refine wp_region_kn 17 [.val (.slice (some ⟨gc, 0, none⟩) m cc), .val (.pointer (some ⟨gc, 0, none⟩)), .val (.agg #[.int .i64 (w64 p.1), .int .i64 (w64 p.2.1), .int .i64 (w64 p.2.2)]), .val (.slice (some ⟨gc, 0, none⟩) m cc), .val (.int .i64 ((j : Int) + 1)), .val (.pointer (some ⟨gc, (j + 1) * 3, none⟩)), .val (.agg #[.int .i64 (w64 a.1), .int .i64 (w64 a.2.1), .int .i64 (w64 a.2.2)]), .val (.slice (some ⟨gc, 0, none⟩) m cc), .val (.int .i64 ((j : Int) + 1)), .val (.int .i64 ((j : Int) + 1 + 1)), .val (.pointer (some ⟨gc, (j + 2) * 3, none⟩)), .val (.agg #[.int .i64 (w64 b.1), .int .i64 (w64 b.2.1), .int .i64 (w64 b.2.2)]), .val (.int .i64 d), .val (.int .i64 z), .val (.int .i64 (IntKind.i64.wrap (d * z))), .val (.int .i64 (w64 T)), .val (.int .i64 (w64 T))] wr (by kernel_rfl) (by kernel_rfl) (by kernel_rfl) (by kernel_rfl) (by kernel_rfl) (by decide) (Below.refl _ _) ?_ ?_
              · refine steps_next (n := 0) ⟨_, by rfl, fun vals x hx hj => ?_⟩ ?_
                · have hk := KA x hx; clear hj; refine kn_val hx ?_; simp only [putF, dstO, Act.put]; go_simp
                refine steps_next (n := 1) ⟨_, by rfl, fun vals x hx hj => ?_⟩ ?_
                · have hk := KA x hx; have e0 : _ = _ := hj 0 (by decide +kernel); clear hj; refine kn_val hx ?_; simp only [putF, dstO, Act.put]; (try simp only [e0]); go_simp
                refine steps_next (n := 2) ⟨_, by rfl, fun vals x hx hj => ?_⟩ ?_
                · have hk := KA x hx; have e1 : _ = _ := hj 1 (by decide +kernel); clear hj; refine kn_val hx ?_; simp only [putF, dstO, Act.put]; (try simp only [e1]); go_simp; (try first | with_reducible rfl | (intros; omega) | (simp only [IntKind.wrap_i64]; omega))
                refine steps_next (n := 3) ⟨_, by rfl, fun vals x hx hj => ?_⟩ ?_
                · have hk := KA x hx; clear hj; refine kn_val hx ?_; simp only [putF, dstO, Act.put]; go_simp
                refine steps_next (n := 4) ⟨_, by rfl, fun vals x hx hj => ?_⟩ ?_
                · have hk := KA x hx; clear hj; refine kn_val hx ?_; simp only [putF, dstO, Act.put]; go_simp; (try first | with_reducible rfl | (intros; omega) | (simp only [IntKind.wrap_i64]; omega))
                refine steps_next (n := 5) ⟨_, by rfl, fun vals x hx hj => ?_⟩ ?_
                · have hk := KA x hx; have e3 : _ = _ := hj 3 (by decide +kernel); have e4 : _ = _ := hj 4 (by decide +kernel); clear hj; refine kn_val hx ?_; simp only [putF, dstO, Act.put]; (try simp only [e3, e4]); go_simp; (try first | with_reducible rfl | (intros; omega) | (simp only [IntKind.wrap_i64]; omega))
                refine steps_next (n := 6) ⟨_, by rfl, fun vals x hx hj => ?_⟩ ?_
                · have hk := KA x hx; have e5 : _ = _ := hj 5 (by decide +kernel); clear hj; refine kn_val hx ?_; simp only [putF, dstO, Act.put]; (try simp only [e5]); go_simp; (try first | with_reducible rfl | (intros; omega) | (simp only [IntKind.wrap_i64]; omega))
                refine steps_next (n := 7) ⟨_, by rfl, fun vals x hx hj => ?_⟩ ?_
                · have hk := KA x hx; clear hj; refine kn_val hx ?_; simp only [putF, dstO, Act.put]; go_simp
                refine steps_next (n := 8) ⟨_, by rfl, fun vals x hx hj => ?_⟩ ?_
                · have hk := KA x hx; clear hj; refine kn_val hx ?_; simp only [putF, dstO, Act.put]; go_simp; (try first | with_reducible rfl | (intros; omega) | (simp only [IntKind.wrap_i64]; omega))
                refine steps_next (n := 9) ⟨_, by rfl, fun vals x hx hj => ?_⟩ ?_
                · have hk := KA x hx; have e8 : _ = _ := hj 8 (by decide +kernel); clear hj; refine kn_val hx ?_; simp only [putF, dstO, Act.put]; (try simp only [e8]); go_simp; (try first | with_reducible rfl | (intros; omega) | (simp only [IntKind.wrap_i64]; omega))
                refine steps_next (n := 10) ⟨_, by rfl, fun vals x hx hj => ?_⟩ ?_
                · have hk := KA x hx; have e7 : _ = _ := hj 7 (by decide +kernel); have e9 : _ = _ := hj 9 (by decide +kernel); clear hj; refine kn_val hx ?_; simp only [putF, dstO, Act.put]; (try simp only [e7, e9]); go_simp; (try first | with_reducible rfl | (intros; omega) | (simp only [IntKind.wrap_i64]; omega))
                refine steps_next (n := 11) ⟨_, by rfl, fun vals x hx hj => ?_⟩ ?_
                · have hk := KA x hx; have e10 : _ = _ := hj 10 (by decide +kernel); clear hj; refine kn_val hx ?_; simp only [putF, dstO, Act.put]; (try simp only [e10]); go_simp; (try first | with_reducible rfl | (intros; omega) | (simp only [IntKind.wrap_i64]; omega))
                refine steps_next (n := 12) ⟨_, by rfl, fun vals x hx hj => ?_⟩ ?_
                · have hk := KA x hx; clear hj; refine kn_val hx ?_; simp only [putF, dstO, Act.put]; go_simp; (try first | with_reducible rfl | (intros; omega) | (simp only [IntKind.wrap_i64]; omega))
                refine steps_next (n := 13) ⟨_, by rfl, fun vals x hx hj => ?_⟩ ?_
                · have hk := KA x hx; clear hj; refine kn_val hx ?_; simp only [putF, dstO, Act.put]; go_simp; (try first | with_reducible rfl | (intros; omega) | (simp only [IntKind.wrap_i64]; omega))
                refine steps_next (n := 14) ⟨_, by rfl, fun vals x hx hj => ?_⟩ ?_
                · have hk := KA x hx; have e12 : _ = _ := hj 12 (by decide +kernel); have e13 : _ = _ := hj 13 (by decide +kernel); clear hj; refine kn_val hx ?_; simp only [putF, dstO, Act.put]; (try simp only [e12, e13]); go_simp; (try first | with_reducible rfl | (intros; omega) | (simp only [IntKind.wrap_i64]; omega))
                refine steps_next (n := 15) ⟨_, by rfl, fun vals x hx hj => ?_⟩ ?_
                · have hk := KA x hx; have e2 : _ = _ := hj 2 (by decide +kernel); have e6 : _ = _ := hj 6 (by decide +kernel); have e11 : _ = _ := hj 11 (by decide +kernel); have e14 : _ = _ := hj 14 (by decide +kernel); clear hj; refine kn_call hx (HD.out x) ?_; simp only [putF, dstO, Act.put]; (try simp only [e2, e6, e11, e14]); go_simp
                refine steps_next (n := 16) ⟨_, by rfl, fun vals x hx hj => ?_⟩ ?_
                · have hk := KA x hx; have e15 : _ = _ := hj 15 (by decide +kernel); clear hj; refine kn_val hx ?_; simp only [putF, dstO, Act.put]; (try simp only [e15]); go_simp; (try first | with_reducible rfl | (intros; omega) | (simp only [IntKind.wrap_i64]; omega))
                exact steps_end
              intro vals wrx hwrx hv
              have hkwrx := KA wrx hwrx
              have e0 : _ = _ := hv 0 (by omega)
              have e1 : _ = _ := hv 1 (by omega)
              have e2 : _ = _ := hv 2 (by omega)
              have e3 : _ = _ := hv 3 (by omega)
              have e4 : _ = _ := hv 4 (by omega)
              have e5 : _ = _ := hv 5 (by omega)
              have e6 : _ = _ := hv 6 (by omega)
              have e7 : _ = _ := hv 7 (by omega)
              have e8 : _ = _ := hv 8 (by omega)
              have e9 : _ = _ := hv 9 (by omega)
              have e10 : _ = _ := hv 10 (by omega)
              have e11 : _ = _ := hv 11 (by omega)
              have e12 : _ = _ := hv 12 (by omega)
              have e13 : _ = _ := hv 13 (by omega)
              have e14 : _ = _ := hv 14 (by omega)
              have e15 : _ = _ := hv 15 (by omega)
              have e16 : _ = _ := hv 16 (by omega)
              clear hv
              simp only [putF, dstO, Act.put]
              (try simp only [e0, e1, e2, e3, e4, e5, e6, e7, e8, e9, e10, e11, e12, e13, e14, e15, e16])
              refine wpAny_done (by kernel_rfl) ?_ _
              obtain ⟨⟨p0, p1, p2⟩, ⟨a0, a1, a2⟩, b0, b1, b2⟩ := hkwrx
              have lgx := keep_lt hwrx lgb
              have HB2 := Lib.hid (below_after HB.out hwrx)
              have Q1 : wrap64 (w64 (V1 + fs dt (d * z) L j) + w64 T) = w64 (V1 + fs dt (d * z) L (j + 1)) := by
                rw [S1.out, ← Int.add_assoc]
                exact w64_of ((w64_cg _).add (w64_cg _))
              have Q2 : ∀ u, Cg u (w64 p.1 + w64 a.1 + w64 b.1) → wrap64 (w64 (V2 + fs dl (d * z) L j) + wrap64 (w64 T * u)) = w64 (V2 + fs dl (d * z) L (j + 1)) := fun u hu => by
                rw [S2.out, ← Int.add_assoc]
                exact w64_of ((w64_cg _).add ((w64_cg T).mul (hu.trans (((w64_cg _).add (w64_cg _)).add (w64_cg _)))).w)
              have Q3 : ∀ u, Cg u (w64 p.2.2 + w64 a.2.2 + w64 b.2.2 + d * z) → wrap64 (w64 (V3 + fs dh (d * z) L j) + wrap64 (w64 T * u)) = w64 (V3 + fs dh (d * z) L (j + 1)) := fun u hu => by
                rw [S3.out, ← Int.add_assoc]
                exact w64_of ((w64_cg _).add ((w64_cg T).mul (hu.trans ((((w64_cg _).add (w64_cg _)).add (w64_cg _)).add (Cg.refl _)))).w)
              have HQ1 := Lib.hid Q1
              have HQ2 := Lib.hid Q2
              have HQ3 := Lib.hid Q3
              clear Q1 Q2 Q3 KA S1 S2 S3 HD HB
              go_upto_region 18 with (fail)
              go_quiet (fail)
              go_upto_region 19 with (fail)
              go_quiet (fail)
              go_wp2
              go_roundg (m - (j + 1))
              case measure => omega
              case rel => exact ⟨j + 1, by omega, by omega, by omega, by go_num, by rw [HQ1.out], by rw [HQ2.out _ ((((Cg.refl _).add (Cg.refl _)).w.add (Cg.refl _)).w)], by rw [HQ3.out _ ((((((Cg.refl _).add (Cg.refl _)).w.add (Cg.refl _)).w).add ((Cg.refl _).w)).w)], Lib.hid (below_drewN' HB2.out _)⟩
            · have hjI : ¬ (j : Int) + 1 + 1 < (m : Int) := by omega
              have ej : m - 2 = j := by omega
              have E1' := E1.out
              have E2' := E2.out
              have E3' := E3.out
              rw [G1.out, ej] at E1'
              rw [G2.out, ej] at E2'
              rw [G3.out, ej] at E3'
              have HM4 := Lib.hid (HM3.out.later HB.out)
              clear E1 E2 E3 G1 G2 G3 HM3 HPA HB
              go_wp2
              go_roundg (nf - (i + 1))
              case measure => omega
              case rel => exact ⟨i + 1, by omega, by omega, by go_num, by rw [E1'], by rw [E2'], by rw [E3'], HM4⟩
    · obtain rfl : i = nf := by omega
      obtain ⟨cM, lM, hb⟩ := HI.out
      go_wp2_with ((with_reducible show bodyPost _ _ _ _ _ _); refine bodyPost_ret (by simp [results, Tryd.results9, go_sem, ]; try rfl) rfl ?_; exact ⟨rfl, by (repeat' first | (with_reducible first | exact Bq0 | assumption | refine Bq1 ?_ | refine Bq2 ?_ | refine Bq3 ?_ ?_ | refine Bq4 ?_ (by assumption)) | go_size)⟩)
end Go.Proofs.YthikaimhmpenhaaDoor
namespace Go.Proofs.YthikaimhmpenhaaDoor
set_option linter.all false
open Go Go.RowKit Wd
open Fa (P3 W10 dt dl dh)
open Sf (sr su sr_congr sr_add sr_mul sr_nonneg su_take)
set_option maxRecDepth 100000
theorem mesh_in {X Z : List Int} {H : List (List Int)} (h : chk X Z H = 0) {w : World} {np nf b : Nat} {pv fv : Value} (op : w.ownsRow b 55 3 pv np (ptsP X Z H 2))
    (of : w.ownsRow b 63 3 fv nf (sidesF X.length Z.length (X.length - 1) ++ flatsF X.length Z.length (X.length - 1) ++ endsF X.length Z.length (Z.length - 1))) :
    ∃ g c k d, pv = .slice (some ⟨g, 0, none⟩) np c ∧ fv = .slice (some ⟨k, 0, none⟩) nf d ∧ g < w.heap.size ∧ k < w.heap.size ∧ RowI w g (np * 3) (pP X Z H) ∧ RowI w k (nf * 3) (Sf.cF (X.length - 1) (Z.length - 1)) ∧
      nf = (Sf.faces (X.length - 1) (Z.length - 1)).length ∧ np ≤ 1024 ∧ nf ≤ 2048 ∧ ∀ j, j < nf * 3 → 0 ≤ Sf.cF (X.length - 1) (Z.length - 1) j ∧ Sf.cF (X.length - 1) (Z.length - 1) j < np := by
  have hv := chk_fine h
  have x2 := hv.x2
  have z2 := hv.z2
  have S := surf_of h
  obtain ⟨g, c, e1, l1, n1, r1⟩ := own_row op (ptsP_pos X Z H (by omega) (by omega)) (ptsP_int X Z H 2)
  obtain ⟨k, d, e2, l2, n2, r2⟩ := own_row of (by rw [List.length_append, List.length_append]; have := flats_pos X.length Z.length x2; omega) (faces_int X.length Z.length (X.length - 1) (X.length - 1) (Z.length - 1))
  have hnp : np = 2 * (X.length * Z.length) := by rw [ptsP_len] at n1; omega
  obtain ⟨N, hN⟩ : ∃ N, X.length = N + 1 := ⟨X.length - 1, by omega⟩
  obtain ⟨M, hM⟩ : ∃ M, Z.length = M + 1 := ⟨Z.length - 1, by omega⟩
  have eX : X.length - 1 = N := by omega
  have eZ : Z.length - 1 = M := by omega
  have ef : sidesF X.length Z.length (X.length - 1) ++ flatsF X.length Z.length (X.length - 1) ++ endsF X.length Z.length (Z.length - 1) = (Sf.corners N M).map (vI N M) := by rw [eX, eZ, hN, hM]; exact faces_vals N M
  rw [ef] at n2 r2
  rw [List.length_map, Sf.corners_len] at n2
  have hnf : nf = (Sf.faces N M).length := by omega
  rw [eX, eZ] at S
  have hS := S
  rw [← Sf.faces_len, ← hnf, ← hnp] at hS
  refine ⟨g, c, k, d, e1, e2, l1, l2, fun j hj => ?_, fun j hj => ?_, by rw [eX, eZ]; exact hnf, hS.hp, hS.hf, by rw [eX, eZ]; exact hS.inn⟩
  · have := r1 j hj
    unfold pP
    exact this
  · have h1 := r2 j hj
    have h2 := faces_get N M j (by omega)
    rw [h1, eX, eZ]
    simp only [h2]
theorem sr_su (T : Nat → Int) (g : Sf.Fc → Int) (l : List Sf.Fc) (h : ∀ j (hj : j < l.length), T j = g l[j]) : sr T l.length = su g l := by
  have key : ∀ k, k ≤ l.length → sr T k = su g (l.take k) := by
    intro k
    induction k with
    | zero => intro _; rfl
    | succ k ih =>
      intro hk
      rw [sr, su_take g l k (by omega), ih (by omega), h k (by omega)]
  rw [key _ (Nat.le_refl _), List.take_length]
variable {X Z : List Int} {H : List (List Int)}
theorem fpt_is {N M : Nat} (hN : X.length = N + 1) (hM : Z.length = M + 1) (j : Nat) (hj : j < (Sf.faces N M).length) :
    fpt (pP X Z H) (Sf.cF N M) j 0 = Fa.pt (ix X) (ix Z) (hf H) (Sf.faces N M)[j].1 ∧ fpt (pP X Z H) (Sf.cF N M) j 1 = Fa.pt (ix X) (ix Z) (hf H) (Sf.faces N M)[j].2.1 ∧ fpt (pP X Z H) (Sf.cF N M) j 2 = Fa.pt (ix X) (ix Z) (hf H) (Sf.faces N M)[j].2.2 := by
  have ok := Sf.face_ok (List.getElem_mem hj)
  have py : ∀ p, Sf.py (fun i k => ix (row H i) k) p = (Fa.pt (ix X) (ix Z) (hf H) p).2.1 := fun p => by
    unfold Sf.py Fa.pt hf
    split <;> simp
  unfold fpt
  rw [Nat.mul_comm j 3, Nat.add_zero, Sf.cF_0 N M j hj, Sf.cF_1 N M j hj, Sf.cF_2 N M j hj]
  simp only [Int.toNat_natCast]
  rw [pP_0 X Z H N M hN hM _ ok.1, pP_1 X Z H N M hN hM _ ok.1, pP_2 X Z H N M hN hM _ ok.1, pP_0 X Z H N M hN hM _ ok.2.1, pP_1 X Z H N M hN hM _ ok.2.1, pP_2 X Z H N M hN hM _ ok.2.1, pP_0 X Z H N M hN hM _ ok.2.2, pP_1 X Z H N M hN hM _ ok.2.2, pP_2 X Z H N M hN hM _ ok.2.2, py, py, py]
  exact ⟨rfl, rfl, rfl⟩
theorem trF_su (u : W10) (z d : Int) {N M : Nat} (hN : X.length = N + 1) (hM : Z.length = M + 1) : sr (trF u (pP X Z H) (Sf.cF N M) z d) (Sf.faces N M).length = su (Fa.ftri u (ix X) (ix Z) (hf H) z d) (Sf.faces N M) :=
  sr_su _ _ _ (fun j hj => by
    obtain ⟨h0, h1, h2⟩ := fpt_is (H := H) hN hM j hj
    unfold trF Fa.ftri
    rw [h0, h1, h2])
theorem fpt_z {N M : Nat} (hN : X.length = N + 1) (hM : Z.length = M + 1) (hz : ∀ k, k < Z.length → 0 ≤ ix Z k ∧ ix Z k ≤ 1000000) (j : Nat) (hj : j < (Sf.faces N M).length) : ∀ q, q < 3 → 0 ≤ (fpt (pP X Z H) (Sf.cF N M) j q).2.2 ∧ (fpt (pP X Z H) (Sf.cF N M) j q).2.2 ≤ 1000000 := by
  obtain ⟨h0, h1, h2⟩ := fpt_is (H := H) hN hM j hj
  have ok := Sf.face_ok (List.getElem_mem hj)
  intro q hq
  match q, hq with
  | 0, _ => rw [h0]; exact hz _ (by have := ok.1.2.2; omega)
  | 1, _ => rw [h1]; exact hz _ (by have := ok.2.1.2.2; omega)
  | 2, _ => rw [h2]; exact hz _ (by have := ok.2.2.2.2; omega)
variable {C b : Int}
theorem Gd.of {most band : Int} (h : chk X Z H = 0) (x8 : X.length ≤ 8) (z8 : Z.length ≤ 8) (xm : ix X (X.length - 1) ≤ most) (zm : ix Z (Z.length - 1) ≤ most) (hm : ∀ i, i < X.length → ∀ k, k < Z.length → ix (row H i) k ≤ most) (zb : ∀ k, k + 1 < Z.length → ix Z (k + 1) - ix Z k ≤ band) : Gd X Z H most band := by
  have hv := chk_fine h
  have mono : ∀ (l : List Int), (∀ i, i + 1 < l.length → ix l i < ix l (i + 1)) → ∀ n, n < l.length → ∀ j, j ≤ n → ix l j ≤ ix l n := by
    intro l hl n
    induction n with
    | zero => intro _ j hj; obtain rfl : j = 0 := by omega
              exact Int.le_refl _
    | succ k ih =>
      intro h j hj
      by_cases e : j = k + 1
      · subst e; exact Int.le_refl _
      · have h1 := ih (by omega) j (by omega)
        have h2 := hl k h
        omega
  exact ⟨hv.x2, x8, hv.z2, z8, fun i hi => ⟨(hv.xr i hi).1, by have := mono X hv.xa (X.length - 1) (by omega) i (by omega); omega⟩, hv.xa, fun k hk => ⟨(hv.zr k hk).1, by have := mono Z hv.za (Z.length - 1) (by omega) k (by omega); omega⟩, fun k hk => ⟨hv.za k hk, zb k hk⟩, hv.hl, hv.hr, fun i hi k hk => ⟨(hv.hv i (by rw [hv.hl]; exact hi) k hk).1, hm i hi k hk⟩⟩
theorem at_of (g : Gd X Z H C b) {z : Int} (h0 : ix Z 0 ≤ z) (h1 : z ≤ ix Z (Z.length - 1)) : ∃ K d, At Z z K d := by
  have z2 := g.z2
  have key : ∀ n, n < Z.length → ∃ K, K ≤ n ∧ ix Z K ≤ z ∧ ∀ k, K < k → k ≤ n → z < ix Z k := by
    intro n
    induction n with
    | zero => intro _; exact ⟨0, by omega, h0, fun k hk hk2 => by omega⟩
    | succ n ih =>
      intro hn
      by_cases e : ix Z (n + 1) ≤ z
      · exact ⟨n + 1, by omega, e, fun k hk hk2 => by omega⟩
      · obtain ⟨K, hK, hle, hk⟩ := ih (by omega)
        exact ⟨K, by omega, hle, fun k h1 h2 => by
          by_cases e2 : k = n + 1
          · subst e2; omega
          · exact hk k h1 (by omega)⟩
  obtain ⟨K, hK, hle, hk⟩ := key (Z.length - 1) (by omega)
  by_cases e : ix Z K = z
  · exact ⟨K, 1, by omega, hle, fun _ => rfl, fun h => by omega⟩
  · have hKl : K + 1 < Z.length := by
      apply Decidable.byContradiction
      intro hn
      have : K = Z.length - 1 := by omega
      subst this
      omega
    refine ⟨K, (ix Z (K + 1) - ix Z K).toNat, by omega, hle, fun h => absurd h e, fun _ => ⟨hKl, hk (K + 1) (by omega) (by omega), ?_⟩⟩
    have := (g.zu K hKl).1
    omega
end Go.Proofs.YthikaimhmpenhaaDoor
