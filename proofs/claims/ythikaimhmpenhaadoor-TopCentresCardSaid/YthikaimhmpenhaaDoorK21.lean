/-
  What package hydro's of and less return.
  A region that draws its order, whose operations (but for the last ones) are each known by an invariant of its value: what each yields, from what those yield that it is bound behind. One walk, each operation once; what is left at the end comes behind all of them.
  What package hydro's sum and times return: a chain of ratio's Add, of Mul.
  What package hydro's times returns: a chain of ratio's Mul.
  Fractions as triples (sign, numerator, denominator); what hydro's small functions return of them, said as laws; sums and products by their values.
  The law of XFInv for regions whose values are known as such, or as rows of fractions in new memory.
  What the integrands of package hydro return: area's strip, long's.
  (Written by wip/pack.py out of XFHyA, XFInv, XFHyB, XFHyC, XFFr, XFKn, XFHyD.)
-/
import Derived.Test.YthikaimhmpenhaaDoorK18
import Derived.Test.YthikaimhmpenhaaDoorK20
import Derived.Test.YthikaimhmpenhaaDoorK16

namespace Go.Proofs.YthikaimhmpenhaaDoor
set_option linter.all false
open Go Go.RowKit Wd
set_option maxRecDepth 100000
theorem rn_abs {n d : Int} (hd : 0 < d) : (rn n d).natAbs = qn n.natAbs d.natAbs := by
  unfold rn qn gI
  have h0 : 0 < Nat.gcd n.natAbs d.natAbs := Nat.gcd_pos_of_pos_right _ (by omega)
  obtain ⟨c, hc⟩ : ((Nat.gcd n.natAbs d.natAbs : Nat) : Int) ∣ n := Int.ofNat_dvd_left.2 (Nat.gcd_dvd_left _ _)
  generalize Nat.gcd n.natAbs d.natAbs = g at *
  rw [hc, Int.mul_ediv_cancel_left _ (by omega), Int.natAbs_mul, Int.natAbs_natCast, Nat.mul_div_cancel_left _ h0]
theorem rn_sign {n d : Int} (hd : 0 < d) : zs (rn n d) = zs n := by
  unfold rn gI
  have h0 : 0 < Nat.gcd n.natAbs d.natAbs := Nat.gcd_pos_of_pos_right _ (by omega)
  obtain ⟨c, hc⟩ : ((Nat.gcd n.natAbs d.natAbs : Nat) : Int) ∣ n := Int.ofNat_dvd_left.2 (Nat.gcd_dvd_left _ _)
  generalize Nat.gcd n.natAbs d.natAbs = g at *
  rw [hc, Int.mul_ediv_cancel_left _ (by omega), zs_pos_mul h0]
theorem rd_abs {n d : Int} (hd : 0 < d) : (rd n d).natAbs = qd n.natAbs d.natAbs := by
  unfold rd qd gI
  have h0 : 0 < Nat.gcd n.natAbs d.natAbs := Nat.gcd_pos_of_pos_right _ (by omega)
  obtain ⟨c, hc⟩ : ((Nat.gcd n.natAbs d.natAbs : Nat) : Int) ∣ d := Int.ofNat_dvd_left.2 (Nat.gcd_dvd_right _ _)
  generalize Nat.gcd n.natAbs d.natAbs = g at *
  rw [hc, Int.mul_ediv_cancel_left _ (by omega), Int.natAbs_mul, Int.natAbs_natCast, Nat.mul_div_cancel_left _ h0]
theorem zs_nn {x : Int} (h : 0 ≤ x) : zs x = false := by unfold zs; simpa using h
theorem ratOfI (n d : Int) (hn : -9223372036854775808 ≤ n) (hn' : n ≤ 9223372036854775807) (hd : 0 < d) (hd' : d ≤ 9223372036854775807) (w : World) (hT : Tab64 w) :
    Calls Tryd.prog 54 #[.int .i64 n, .int .i64 d] w fun e w' => e = .returned (.tuple #[(.agg #[.bool (zs n), .int .u64 (((qn n.natAbs d.natAbs) : Nat) : Int), .int .u64 0, .int .u64 0, .int .u64 0, .bool false, .int .u64 (((qd n.natAbs d.natAbs) : Nat) : Int), .int .u64 0, .int .u64 0, .int .u64 0]), .int .i64 0]) ∧ Below w.heap.size w w' := by
  have h := rof_any n d hn hn' hd hd' w hT
  have e1 := wd_small (n := (rn n d).natAbs) (by rw [rn_abs hd]; have := qn_le n.natAbs d.natAbs; omega)
  have e2 := wd_small (n := (rd n d).natAbs) (by rw [rd_abs hd]; have := qd_le n.natAbs d.natAbs; omega)
  rw [e1.1, e1.2.1, e1.2.2.1, e1.2.2.2, e2.1, e2.2.1, e2.2.2.1, e2.2.2.2, rn_abs hd, rd_abs hd, rn_sign hd, zs_nn (Int.le_of_lt (rd_pos hd))] at h
  exact h
set_option maxHeartbeats 1000000 in
theorem ofH (n d : Int) (hn : -9223372036854775808 ≤ n) (hn' : n ≤ 9223372036854775807) (hd : 0 < d) (hd' : d ≤ 9223372036854775807) (w : World) (hT : Tab64 w) :
    Calls Tryd.prog 37 #[.int .i64 n, .int .i64 d] w fun e w' => e = .returned (.agg #[.bool (zs n), .int .u64 (((qn n.natAbs d.natAbs) : Nat) : Int), .int .u64 0, .int .u64 0, .int .u64 0, .bool false, .int .u64 (((qd n.natAbs d.natAbs) : Nat) : Int), .int .u64 0, .int .u64 0, .int .u64 0]) ∧ Below w.heap.size w w' := by
  have H := Lib.hid (fun w hT => ratOfI n d hn hn' hd hd' w hT)
  have HT := Lib.hid hT
  clear hn hn' hd hd' hT
  generalize qn n.natAbs d.natAbs = a at *
  generalize qd n.natAbs d.natAbs = b at *
  generalize zs n = s at *
  go_enter Tryd.func37, Tryd.ntmps37
  go_wp2_with fail
  ((with_reducible refine (H.out _ (HT.out.later (by (repeat' first | (with_reducible first | exact Bq0 | assumption | refine Bq1 ?_ | refine Bq2 ?_ | refine Bq3 ?_ ?_ | refine Bq4 ?_ (by assumption)) | go_size)))).mono ?_); rintro e w1 ⟨rfl, hb1⟩)
  obtain ⟨hc1, hf1⟩ := bcell hb1
  have hz1_w_0 : w.heap.size < w1.heap.size := by have h := hb1.size; (try simp at h); omega
  go_wp2_with ((with_reducible show bodyPost _ _ _ _ _ _); refine bodyPost_ret (by simp [results, Tryd.results37, go_sem, hc1, hf1, hz1_w_0]; try rfl) rfl ?_; exact ⟨rfl, by (repeat' first | (with_reducible first | exact Bq0 | assumption | refine Bq1 ?_ | refine Bq2 ?_ | refine Bq3 ?_ ?_ | refine Bq4 ?_ (by assumption)) | go_size)⟩)
set_option maxHeartbeats 1000000 in
theorem lessH {s1 s2 s : Bool} {a p b q n d : Nat} (h : ∀ w, Tab64 w → Calls Tryd.prog 58 #[(.agg #[.bool (s1), .int .u64 ↑a, .int .u64 0, .int .u64 0, .int .u64 0, .bool false, .int .u64 ↑p, .int .u64 0, .int .u64 0, .int .u64 0]), (.agg #[.bool (s2), .int .u64 ↑b, .int .u64 0, .int .u64 0, .int .u64 0, .bool false, .int .u64 ↑q, .int .u64 0, .int .u64 0, .int .u64 0])] w fun e w' => e = .returned (.tuple #[(.agg #[.bool (s), .int .u64 ↑n, .int .u64 0, .int .u64 0, .int .u64 0, .bool false, .int .u64 ↑d, .int .u64 0, .int .u64 0, .int .u64 0]), .int .i64 0]) ∧ Below w.heap.size w w') (w : World) (hT : Tab64 w) :
    Calls Tryd.prog 44 #[(.agg #[.bool (s1), .int .u64 ↑a, .int .u64 0, .int .u64 0, .int .u64 0, .bool false, .int .u64 ↑p, .int .u64 0, .int .u64 0, .int .u64 0]), (.agg #[.bool (s2), .int .u64 ↑b, .int .u64 0, .int .u64 0, .int .u64 0, .bool false, .int .u64 ↑q, .int .u64 0, .int .u64 0, .int .u64 0])] w fun e w' => e = .returned (.agg #[.bool (s), .int .u64 ↑n, .int .u64 0, .int .u64 0, .int .u64 0, .bool false, .int .u64 ↑d, .int .u64 0, .int .u64 0, .int .u64 0]) ∧ Below w.heap.size w w' := by
  have H := Lib.hid h
  have HT := Lib.hid hT
  clear h hT
  go_enter Tryd.func44, Tryd.ntmps44
  go_wp2_with fail
  ((with_reducible refine (H.out _ (HT.out.later (by (repeat' first | (with_reducible first | exact Bq0 | assumption | refine Bq1 ?_ | refine Bq2 ?_ | refine Bq3 ?_ ?_ | refine Bq4 ?_ (by assumption)) | go_size)))).mono ?_); rintro e w1 ⟨rfl, hb1⟩)
  obtain ⟨hc1, hf1⟩ := bcell hb1
  have hz1_w_0 : w.heap.size < w1.heap.size := by have h := hb1.size; (try simp at h); omega
  have hz1_w_1 : w.heap.size + 1 < w1.heap.size := by have h := hb1.size; (try simp at h); omega
  have hz1_w_2 : w.heap.size + 1 + 1 < w1.heap.size := by have h := hb1.size; (try simp at h); omega
  go_wp2_with ((with_reducible show bodyPost _ _ _ _ _ _); refine bodyPost_ret (by simp [results, Tryd.results44, go_sem, hc1, hf1, hz1_w_0, hz1_w_1, hz1_w_2]; try rfl) rfl ?_; exact ⟨rfl, by (repeat' first | (with_reducible first | exact Bq0 | assumption | refine Bq1 ?_ | refine Bq2 ?_ | refine Bq3 ?_ ?_ | refine Bq4 ?_ (by assumption)) | go_size)⟩)
end Go.Proofs.YthikaimhmpenhaaDoor
namespace Go.Proofs.YthikaimhmpenhaaDoor
set_option linter.all false
open Go Go.RowKit Wd
set_option maxRecDepth 100000
section
variable {P : Program} {ops : Array Oper} {Q : Exit → Act → World → Prop} {md : Region.Mode} {S : World → Prop}
def dstO (ops : Array Oper) (n : Nat) : Option Tmp := (ops[n]?).bind (·.dst)
def looksO (ops : Array Oper) (n : Nat) : List Tmp := match ops[n]? with | some o => o.looksAt ops | none => []
def putL (ops : Array Oper) (vals : Nat → Value) (listed : Array Bool) : Nat → Act → Act
  | 0, a => a
  | n + 1, a => if listed.getD n false then (putL ops vals listed n a).put (dstO ops n) (vals n) else putL ops vals listed n a
def putF (ops : Array Oper) (vals : Nat → Value) : Nat → Act → Act
  | 0, a => a
  | n + 1, a => (putF ops vals n a).put (dstO ops n) (vals n)
def upd (vals : Nat → Value) (i : Nat) (v : Value) : Nat → Value := fun j => if j = i then v else vals j
def cntU (listed : Array Bool) : Nat → Nat
  | 0 => 0
  | n + 1 => cntU listed n + if listed.getD n false then 0 else 1
theorem getD_set_same {listed : Array Bool} {i : Nat} (h : i < listed.size) : (listed.setIfInBounds i true).getD i false = true := by simp [h]
theorem cntU_set_low {listed : Array Bool} {i : Nat} : ∀ n, n ≤ i → cntU (listed.setIfInBounds i true) n = cntU listed n
  | 0, _ => rfl
  | n + 1, h => by unfold cntU; rw [cntU_set_low n (by omega), getD_set_ne false (by omega)]
theorem cntU_set {listed : Array Bool} {i : Nat} (hs : i < listed.size) (hi : listed.getD i false = false) : ∀ n, i < n → cntU (listed.setIfInBounds i true) n + 1 = cntU listed n
  | 0, h => by omega
  | n + 1, h => by
    unfold cntU
    by_cases e : i = n
    · subst e
      rw [cntU_set_low i (by omega), getD_set_same hs, hi]; simp
    · have := cntU_set hs hi n (by omega)
      rw [getD_set_ne false (by omega)]; omega
theorem cntU_zero {listed : Array Bool} : ∀ n, cntU listed n = 0 → ∀ i, i < n → listed.getD i false = true
  | 0, _, _, h => by omega
  | n + 1, h, i, hi => by
    unfold cntU at h
    by_cases e : i = n
    · subst e
      cases hb : listed.getD i false
      · rw [hb] at h; simp at h
      · rfl
    · exact cntU_zero n (by omega) i (by omega)
theorem cntU_pos {listed : Array Bool} : ∀ n, 0 < cntU listed n → ∃ i, i < n ∧ listed.getD i false = false ∧ ∀ j, j < i → listed.getD j false = true
  | 0, h => by unfold cntU at h; omega
  | n + 1, h => by
    by_cases e : 0 < cntU listed n
    · obtain ⟨i, hi, h1, h2⟩ := cntU_pos n e
      exact ⟨i, by omega, h1, h2⟩
    · unfold cntU at h
      cases hb : listed.getD n false
      · exact ⟨n, by omega, hb, fun j hj => cntU_zero n (by omega) j hj⟩
      · rw [hb] at h; simp at h; omega
def dstOk (ops : Array Oper) (c : Nat) : Bool := (List.range c).all fun i => (List.range c).all fun j => i == j || (match dstO ops i with | some d => dstO ops j != some d | none => true)
def readOk (md : Region.Mode) (ops : Array Oper) (c : Nat) : Bool := (List.range c).all fun i => ((deps md ops i).all fun x => decide (x < i)) && (match ops[i]? with | some o => o.guard.isNone | none => false) &&
  (List.range c).all fun j => (deps md ops i).contains j || (match dstO ops j with | some d => !(looksO ops i).contains d | none => true)
def tailOk (md : Region.Mode) (ops : Array Oper) (c : Nat) : Bool := (List.range ops.size).all fun k => decide (k < c) || ((fun s : List Nat => (List.range c).all fun i => s.contains i) (ances md ops k))
theorem dst_ne {c i j : Nat} (h : dstOk ops c = true) (hi : i < c) (hj : j < c) (hij : i ≠ j) : ∀ d, dstO ops i = some d → dstO ops j ≠ some d := by
  intro d hd
  have h1 := List.all_eq_true.1 (List.all_eq_true.1 h i (List.mem_range.2 hi)) j (List.mem_range.2 hj)
  rw [hd] at h1
  simpa [hij] using h1
theorem putL_low {vals : Nat → Value} {listed : Array Bool} {i : Nat} {v : Value} {a : Act} : ∀ n, n ≤ i → putL ops (upd vals i v) (listed.setIfInBounds i true) n a = putL ops vals listed n a
  | 0, _ => rfl
  | n + 1, h => by
    unfold putL
    rw [putL_low n (by omega), getD_set_ne false (by omega)]
    rw [show upd vals i v n = vals n by unfold upd; rw [if_neg (by omega)]]
theorem putL_set {c : Nat} (hd : dstOk ops c = true) {vals : Nat → Value} {listed : Array Bool} {i : Nat} {v : Value} {a : Act} (hs : i < listed.size) (hi : listed.getD i false = false) (hic : i < c) :
    ∀ n, i < n → n ≤ c → putL ops (upd vals i v) (listed.setIfInBounds i true) n a = (putL ops vals listed n a).put (dstO ops i) v
  | 0, h, _ => by omega
  | n + 1, h, hn => by
    unfold putL
    by_cases e : i = n
    · subst e
      rw [putL_low i (by omega), getD_set_same hs, hi, if_pos rfl]
      rw [show upd vals i v i = v by unfold upd; rw [if_pos rfl]]
      simp
    · rw [putL_set hd hs hi hic n (by omega) (by omega), getD_set_ne false (by omega)]
      rw [show upd vals i v n = vals n by unfold upd; rw [if_neg (by omega)]]
      by_cases hl : listed.getD n false = true
      · rw [if_pos hl, if_pos hl]
        exact Act.put_comm _ _ _ (dst_ne hd hic (by omega) e)
      · rw [if_neg hl, if_neg hl]
theorem putL_all {vals : Nat → Value} {listed : Array Bool} {a : Act} : ∀ n, (∀ i, i < n → listed.getD i false = true) → putL ops vals listed n a = putF ops vals n a
  | 0, _ => rfl
  | n + 1, h => by
    unfold putL putF
    rw [if_pos (h n (by omega)), putL_all n (fun i hi => h i (by omega))]
theorem eval_put_same {a b : Act} {d : Option Tmp} {v : Value} {t : Tmp} (hs : a.tmps.size = b.tmps.size) (h : a.eval (.tmp t) = b.eval (.tmp t)) : (a.put d v).eval (.tmp t) = (b.put d v).eval (.tmp t) := by
  cases d with
  | none => exact h
  | some d =>
    simp only [Act.eval, Act.put] at *
    by_cases e : d = t
    · subst e
      rcases Nat.lt_or_ge d a.tmps.size with h1 | h1
      · simp [h1, hs ▸ h1]
      · have h2 : b.tmps.size ≤ d := by omega
        simp [Array.getElem?_eq_none, h1, h2]
    · simpa [Array.getElem?_setIfInBounds_ne e] using h
theorem size_putO (a : Act) (d : Option Tmp) (v : Value) : (a.put d v).tmps.size = a.tmps.size := by
  cases d <;> simp [Act.put]
theorem size_putL {vals : Nat → Value} {listed : Array Bool} {a : Act} : ∀ n, (putL ops vals listed n a).tmps.size = a.tmps.size
  | 0 => rfl
  | n + 1 => by
    unfold putL
    split
    · rw [size_putO]; exact size_putL n
    · exact size_putL n
theorem size_putF {vals : Nat → Value} {a : Act} : ∀ n, (putF ops vals n a).tmps.size = a.tmps.size
  | 0 => rfl
  | n + 1 => by unfold putF; rw [size_putO]; exact size_putF n
theorem eval_full {vals : Nat → Value} {listed : Array Bool} {a : Act} {t : Tmp} : ∀ n, (∀ j, j < n → listed.getD j false = true ∨ dstO ops j ≠ some t) → (putL ops vals listed n a).eval (.tmp t) = (putF ops vals n a).eval (.tmp t)
  | 0, _ => rfl
  | n + 1, h => by
    have ih := eval_full (vals := vals) (a := a) n (fun j hj => h j (by omega))
    unfold putL putF
    by_cases hl : listed.getD n false = true
    · rw [if_pos hl]
      exact eval_put_same (by rw [size_putL, size_putF]) ih
    · rw [if_neg hl, ih]
      have h1 := (h n (by omega)).resolve_left hl
      exact (Act.eval_put fun d hd hxd => h1 (by rw [hd]; cases hxd; rfl)).symm
def Does (P : Program) (i : Sem Next) (w : World) (K : Value → World → Prop) : Prop :=
  (∃ v w', i.run P w = .ok (.value v) w' ∧ K v w') ∨ (∃ f args, i.run P w = .ok (.enter f args) w ∧ Calls P f args w fun e w' => ∃ v, e = .returned v ∧ K v w')
theorem Does.mono {i : Sem Next} {w : World} {K K' : Value → World → Prop} (h : Does P i w K) (hk : ∀ v w', K v w' → K' v w') : Does P i w K' := by
  rcases h with ⟨v, w', h1, h2⟩ | ⟨f, args, h1, h2⟩
  · exact Or.inl ⟨v, w', h1, hk v w' h2⟩
  · exact Or.inr ⟨f, args, h1, h2.mono fun e w' ⟨v, he, h⟩ => ⟨v, he, hk v w' h⟩⟩
theorem Does.wpOp {i : Nat} {o : Oper} {a : Act} {K : Act → World → Prop} {w : World} (hi : ops[i]? = some o) (hw : Region.wanted o (yielded ops a.tmps) = true)
    (h : Does P (execOp a.eval o) w fun v w' => K (a.put o.dst v) w') : wpOp P ops Q i K a w := by
  unfold Go.wpOp
  simp only [hi]
  rcases h with ⟨v, w', h1, h2⟩ | ⟨f, args, h1, h2⟩
  · simp only [hw, if_true, Oper.wp, h1, Oper.upon]; exact .inl h2
  · simp only [hw, if_true, Oper.wp, h1, Oper.upon]
    refine .inl (h2.mono fun e w' he => ?_)
    obtain ⟨v, rfl, hk⟩ := he
    exact hk
theorem down_size {listed : Array Bool} (hs : listed.size = ops.size) {c k : Nat} (hk : k ∈ Region.ready md ops listed) : k < ops.size := by
  obtain ⟨-, o, ho, -⟩ := mem_ready.1 hk
  exact (Array.getElem?_eq_some_iff.1 ho).1
variable {I : Nat → Value → World → Prop}
theorem wpAny_inv {c : Nat} {base : Act} (hsel : ∀ (j : Nat) (o : Oper) cs b, ops[j]? = some o → o.op ≠ .select cs b)
    (hd : dstOk ops c = true) (hr : readOk md ops c = true) (ht : tailOk md ops c = true) (hc : c ≤ ops.size)
    (hI : ∀ i, i < c → ∀ v w w', I i v w → Below w.heap.size w w' → I i v w')
    (step : ∀ i, i < c → ∀ o, ops[i]? = some o → ∀ vals w, S w → (∀ j ∈ deps md ops i, I j (vals j) w) → Does P (execOp (putF ops vals c base).eval o) w fun v w' => S w' ∧ Below w.heap.size w w' ∧ I i v w')
    (last : ∀ vals w listed, S w → (∀ i, i < c → I i (vals i) w) → listed = (Array.range ops.size).map (fun i => decide (i < c)) → wpAny P md ops Q (ops.size - c) listed (putF ops vals c base) w) :
    ∀ m listed vals w, cntU listed c = m → listed.size = ops.size → Down md ops listed → (∀ k, c ≤ k → listed.getD k false = false) → S w → (∀ i, i < c → listed.getD i false = true → I i (vals i) w) →
      wpAny P md ops Q (m + (ops.size - c)) listed (putL ops vals listed c base) w
  | 0, listed, vals, w, hm, hs, hdn, htl, hS, hv => by
    have hall := cntU_zero c hm
    rw [putL_all c hall, Nat.zero_add]
    refine last vals w listed hS (fun i hi => hv i hi (hall i hi)) ?_
    apply Array.ext
    · simpa using hs
    · intro i h1 h2
      by_cases hic : i < c
      · have h3 := hall i hic
        simp [h1] at h3 ⊢
        simp [h3, hic]
      · have h3 := htl i (by omega)
        simp [h1] at h3 ⊢
        simp [h3, hic]
  | m + 1, listed, vals, w, hm, hs, hdn, htl, hS, hv => by
    obtain ⟨i0, hi0, hu, hlow⟩ := cntU_pos c (show 0 < cntU listed c by omega)
    rw [show m + 1 + (ops.size - c) = m + (ops.size - c) + 1 by omega]
    refine ⟨fun h0 => ?_, fun j hj => ?_⟩
    · exfalso
      have hsz : i0 < ops.size := by omega
      have hr0 := List.all_eq_true.1 hr i0 (List.mem_range.2 hi0)
      simp only [Bool.and_eq_true] at hr0
      have hmem : i0 ∈ Region.ready md ops listed := by
        refine mem_ready.2 ⟨by simp [hs ▸ hsz] at hu ⊢; exact hu, ops[i0], Array.getElem?_eq_getElem hsz, fun e he hb => ?_⟩
        have hx : e.on ∈ deps md ops i0 := by
          unfold deps
          rw [Array.getElem?_eq_getElem hsz]
          exact List.mem_map.2 ⟨e, List.mem_filter.2 ⟨by simpa using he, hb⟩, rfl⟩
        have := List.all_eq_true.1 hr0.1.1 _ hx
        exact hlow _ (by simpa using this)
      rw [h0] at hmem
      cases hmem
    · have hjs : j < ops.size := down_size hs (c := c) hj
      have hjc : j < c := by
        apply Decidable.byContradiction
        intro hn
        have h1 := List.all_eq_true.1 ht j (List.mem_range.2 hjs)
        rw [decide_eq_false hn, Bool.false_or] at h1
        have h2 := List.all_eq_true.1 h1 i0 (List.mem_range.2 hi0)
        have h3 := ances_listed hdn (ready_deps hj) i0 (by simpa using h2)
        rw [hu] at h3
        cases h3
      obtain ⟨hjun, o, ho, -⟩ := mem_ready.1 hj
      have hjl : listed.getD j false = false := by
        have : j < listed.size := by omega
        simp [this] at hjun ⊢
        exact hjun
      have hr0 := List.all_eq_true.1 hr j (List.mem_range.2 hjc)
      simp only [Bool.and_eq_true] at hr0
      have hg : o.guard = none := by
        have h := hr0.1.2
        rw [ho] at h
        simpa using h
      have hdeps := ready_deps hj
      have hlooks : ∀ t ∈ o.looksAt ops, ∀ k, k < c → listed.getD k false = true ∨ dstO ops k ≠ some t := fun t ht' k hk => by
        have h1 := List.all_eq_true.1 hr0.2 k (List.mem_range.2 hk)
        rw [Bool.or_eq_true] at h1
        rcases h1 with h2 | h2
        · exact Or.inl (hdeps k (by simpa using h2))
        · refine Or.inr fun hdk => ?_
          rw [hdk] at h2
          unfold looksO at h2
          rw [ho] at h2
          simp at h2
          exact h2 ht'
      have hex : execOp (putL ops vals listed c base).eval o = execOp (putF ops vals c base).eval o := by
        apply execOp_congr o (hsel j o · · ho)
        intro x hx
        cases x with
        | tmp t => exact eval_full c (hlooks t (List.mem_append_left _ (List.mem_filterMap.2 ⟨.tmp t, by simpa using hx, rfl⟩)))
        | _ => rfl
      refine Does.wpOp ho (by unfold Region.wanted; rw [hg]) ?_
      rw [hex]
      refine (step j hjc o ho vals w hS (fun k hk => hv k (by have := List.all_eq_true.1 hr0.1.1 k hk; simp at this; omega) (hdeps k hk))).mono ?_
      rintro v w' ⟨hS', hb, hi⟩
      have hsj : j < listed.size := by omega
      rw [show o.dst = dstO ops j by unfold dstO; rw [ho]; rfl, ← putL_set hd hsj hjl hjc c hjc (Nat.le_refl c)]
      refine wpAny_inv hsel hd hr ht hc hI step last m _ _ w' ?_ (by simpa using hs) (hdn.set hj) ?_ hS' ?_
      · have := cntU_set hsj hjl c hjc; omega
      · intro k hk; rw [getD_set_ne false (by omega)]; exact htl k hk
      · intro k hk hl
        by_cases e : k = j
        · subst e; unfold upd; rw [if_pos rfl]; exact hi
        · rw [getD_set_ne false (by omega)] at hl
          unfold upd; rw [if_neg e]; exact hI k hk _ _ _ (hv k hk hl) hb
theorem wp_region_inv {id c : Nat} {a : Act} {w : World} (hm : P.follows .mixedOrders = true) (hs : Region.noSelect ops = true)
    (hd : dstOk ops c = true) (hr : readOk .any ops c = true) (ht : tailOk .any ops c = true) (hc : c ≤ ops.size)
    (hI : ∀ i, i < c → ∀ v w w', I i v w → Below w.heap.size w w' → I i v w') (hS : S w.drew)
    (step : ∀ i, i < c → ∀ o, ops[i]? = some o → ∀ vals w, S w → (∀ j ∈ deps .any ops i, I j (vals j) w) → Does P (execOp (putF ops vals c a).eval o) w fun v w' => S w' ∧ Below w.heap.size w w' ∧ I i v w')
    (last : ∀ vals w listed, S w → (∀ i, i < c → I i (vals i) w) → listed = (Array.range ops.size).map (fun i => decide (i < c)) → wpAny P .any ops Q (ops.size - c) listed (putF ops vals c a) w) :
    (Code.region id ops true).wp P Q a w := by
  refine wp_region_any hm ?_
  have h0 : ∀ n, cntU (Array.replicate ops.size false) n = n := fun n => by
    induction n with
    | zero => rfl
    | succ n ih => unfold cntU; rw [ih]; by_cases h : n < ops.size <;> simp [h, Array.getElem?_eq_none]
  have h1 : putL ops (fun _ => undef) (Array.replicate ops.size false) c a = a := by
    have : ∀ n, putL ops (fun _ => undef) (Array.replicate ops.size false) n a = a := fun n => by
      induction n with
      | zero => rfl
      | succ n ih => unfold putL; rw [ih]; by_cases h : n < ops.size <;> simp [h, Array.getElem?_eq_none]
    exact this c
  have h := wpAny_inv (Q := Q) (Region.noSelect_spec hs) hd hr ht hc hI step last c (Array.replicate ops.size false) (fun _ => undef) w.drew (h0 c) (by simp) (Down.start _) (fun k _ => by by_cases h : k < ops.size <;> simp [h, Array.getElem?_eq_none]) hS (fun i hi hl => by
    by_cases h : i < ops.size <;> simp [h, Array.getElem?_eq_none] at hl)
  rw [h1, show c + (ops.size - c) = ops.size by omega] at h
  exact h
end
end Go.Proofs.YthikaimhmpenhaaDoor

namespace Go.Proofs.YthikaimhmpenhaaDoor
set_option linter.all false
open Go Go.RowKit Wd
set_option maxRecDepth 100000
structure Rs (w : World) (b o n : Nat) (s : Nat → Bool) (a d : Nat → Nat) : Prop where
  lt : b < w.heap.size
  at' : ∀ i, i < n → ∀ k, k < 10 → w.cell? ⟨b, o + i * 10 + k, none⟩ = (#[.bool (s i), .int .u64 (((a i) : Nat) : Int), .int .u64 0, .int .u64 0, .int .u64 0, .bool false, .int .u64 (((d i) : Nat) : Int), .int .u64 0, .int .u64 0, .int .u64 0] : Array Value)[k]?
theorem Rs.later {w w' : World} {b o n : Nat} {s : Nat → Bool} {a d : Nat → Nat} (h : Rs w b o n s a d) (hb : Below w.heap.size w w') : Rs w' b o n s a d :=
  ⟨keep_lt hb h.lt, fun i hi k hk => (hb.cell (p := ⟨b, o + i * 10 + k, none⟩) h.lt).trans (h.at' i hi k hk)⟩
theorem Rs.get {w : World} {b o n : Nat} {s : Nat → Bool} {a d : Nat → Nat} (h : Rs w b o n s a d) {i : Nat} (hi : i < n) : w.cell? ⟨b, o + i * 10, none⟩ = some (.bool (s i)) ∧ w.cell? ⟨b, o + i * 10 + 1, none⟩ = some (.int .u64 (a i : Int)) ∧ w.cell? ⟨b, o + i * 10 + 2, none⟩ = some (.int .u64 0) ∧ w.cell? ⟨b, o + i * 10 + 3, none⟩ = some (.int .u64 0) ∧ w.cell? ⟨b, o + i * 10 + 4, none⟩ = some (.int .u64 0) ∧ w.cell? ⟨b, o + i * 10 + 5, none⟩ = some (.bool false) ∧ w.cell? ⟨b, o + i * 10 + 6, none⟩ = some (.int .u64 (d i : Int)) ∧ w.cell? ⟨b, o + i * 10 + 7, none⟩ = some (.int .u64 0) ∧ w.cell? ⟨b, o + i * 10 + 8, none⟩ = some (.int .u64 0) ∧ w.cell? ⟨b, o + i * 10 + 9, none⟩ = some (.int .u64 0) :=
  ⟨h.at' i hi 0 (by omega), h.at' i hi 1 (by omega), h.at' i hi 2 (by omega), h.at' i hi 3 (by omega), h.at' i hi 4 (by omega), h.at' i hi 5 (by omega), h.at' i hi 6 (by omega), h.at' i hi 7 (by omega), h.at' i hi 8 (by omega), h.at' i hi 9 (by omega)⟩
def SumM (w : World) (s : Bool) (a d : Nat) (wr : World) : Prop :=
  (∀ o, wr.cell? ⟨w.heap.size, o, none⟩ = (#[.bool (false), .int .u64 (((0) : Nat) : Int), .int .u64 0, .int .u64 0, .int .u64 0, .bool false, .int .u64 (((0) : Nat) : Int), .int .u64 0, .int .u64 0, .int .u64 0] : Array Value)[o]?) ∧ (∀ o, wr.cell? ⟨w.heap.size + 1, o, none⟩ = (#[.bool (s), .int .u64 ↑a, .int .u64 0, .int .u64 0, .int .u64 0, .bool false, .int .u64 ↑d, .int .u64 0, .int .u64 0, .int .u64 0] : Array Value)[o]?)
  ∧ (∀ o, wr.frozen? ⟨w.heap.size, o, none⟩ = false) ∧ (∀ o, wr.frozen? ⟨w.heap.size + 1, o, none⟩ = false) ∧ w.heap.size + 1 < wr.heap.size ∧ Below w.heap.size w wr
set_option maxHeartbeats 2000000 in
theorem sumH (b o n c : Nat) (s ts : Nat → Bool) (a d ta td : Nat → Nat) (hn : n ≤ 100) (h0 : ts 0 = false ∧ ta 0 = 0 ∧ td 0 = 0)
    (hadd : ∀ i, i < n → ∀ w, Tab64 w → Calls Tryd.prog 57 #[(.agg #[.bool (ts i), .int .u64 (((ta i) : Nat) : Int), .int .u64 0, .int .u64 0, .int .u64 0, .bool false, .int .u64 (((td i) : Nat) : Int), .int .u64 0, .int .u64 0, .int .u64 0]), (.agg #[.bool (s i), .int .u64 (((a i) : Nat) : Int), .int .u64 0, .int .u64 0, .int .u64 0, .bool false, .int .u64 (((d i) : Nat) : Int), .int .u64 0, .int .u64 0, .int .u64 0])] w fun e w' => e = .returned (.tuple #[(.agg #[.bool (ts (i + 1)), .int .u64 (((ta (i + 1)) : Nat) : Int), .int .u64 0, .int .u64 0, .int .u64 0, .bool false, .int .u64 (((td (i + 1)) : Nat) : Int), .int .u64 0, .int .u64 0, .int .u64 0]), .int .i64 0]) ∧ Below w.heap.size w w')
    (w : World) (hT : Tab64 w) (hR : Rs w b o n s a d) :
    Calls Tryd.prog 42 #[.slice (some ⟨b, o, none⟩) n c] w fun e w' => e = .returned (.agg #[.bool (ts n), .int .u64 (((ta n) : Nat) : Int), .int .u64 0, .int .u64 0, .int .u64 0, .bool false, .int .u64 (((td n) : Nat) : Int), .int .u64 0, .int .u64 0, .int .u64 0]) ∧ Below w.heap.size w w' := by
  have HP := Lib.hid hR
  have HA := Lib.hid hadd
  have HT := Lib.hid hT
  have H0 := Lib.hid h0
  clear hR hadd hT h0
  go_enter Tryd.func42, Tryd.ntmps42
  go_wp2
  go_loopg [8] n (fun gg v wr => ∃ j : Nat, j ≤ n ∧ n - j ≤ gg ∧ v = .int .i64 (j : Int) ∧ Hid (SumM w (ts j) (ta j) (td j) wr))
  case atStart =>
    refine ⟨0, by omega, by omega, rfl, Lib.hid ⟨fun o => by simp [go_sem], fun o => ?_, fun o => by simp [go_sem], fun o => by simp [go_sem], by simp, by (repeat' first | (with_reducible first | exact Bq0 | assumption | refine Bq1 ?_ | refine Bq2 ?_ | refine Bq3 ?_ ?_ | refine Bq4 ?_ (by assumption)) | go_size)⟩⟩
    rw [H0.out.1, H0.out.2.1, H0.out.2.2]
    simp [go_sem]
  case round =>
    obtain ⟨j, hj, hgj, rfl, HI⟩ := hrel
    obtain ⟨c0, c1, f0, f1, hz, hb⟩ := HI.out
    clear HI
    have z0 : w.heap.size < wr.heap.size := by omega
    by_cases hlt : j < n
    · have hjn : (j : Int) < (n : Int) := by omega
      have P := HP.out.later hb
      obtain ⟨x0, x1, x2, x3, x4, x5, x6, x7, x8, x9⟩ := P.get hlt
      have hzb := P.lt
      have AJ := Lib.hid (HA.out j hlt)
      have TJ := Lib.hid (HT.out.later hb)
      clear P
      go_wp2_with fail
      ((with_reducible refine (AJ.out _ (TJ.out.later (by (repeat' first | (with_reducible first | exact Bq0 | assumption | refine Bq1 ?_ | refine Bq2 ?_ | refine Bq3 ?_ ?_ | refine Bq4 ?_ (by assumption)) | go_size)))).mono ?_); rintro e w1 ⟨rfl, hb1⟩)
      have y0 := keep_lt hb1 (keep_lt_a z0)
      have y1 := keep_lt hb1 (keep_lt_a hz)
      have d0 := keep_cell hb1 (keep_lt_a z0) (keep_cell_a z0 c0)
      have d1 := keep_cell hb1 (keep_lt_a hz) (keep_cell_a hz c1)
      have k0 := keep_frozen hb1 (keep_lt_a z0) (keep_frozen_a z0 f0)
      have k1 := keep_frozen hb1 (keep_lt_a hz) (keep_frozen_a hz f1)
      have hw := below_after (below_alloc hb _) hb1
      clear c0 c1 f0 f1 x0 x1 x2 x3 x4 x5 x6 x7 x8 x9 hz z0 AJ TJ hb hb1 hzb
      go_wp2
      go_roundg (n - (j + 1))
      case measure => omega
      case rel =>
        refine ⟨j + 1, by omega, by omega, by go_num, Lib.hid ⟨set10_far (by omega) d0, set10_at d1, fun o => by simp only [World.frozen?_setCell]; exact k0 o, fun o => by simp only [World.frozen?_setCell]; exact k1 o, by simpa using y1, by (repeat' first | (with_reducible first | exact Bq0 | assumption | refine Bq1 ?_ | refine Bq2 ?_ | refine Bq3 ?_ ?_ | refine Bq4 ?_ (by assumption)) | go_size)⟩⟩
    · obtain rfl : j = n := by omega
      go_wp2_with ((with_reducible show bodyPost _ _ _ _ _ _); refine bodyPost_ret (by simp [results, Tryd.results42, go_sem, c0, c1, f0, f1, hz, z0]; try rfl) rfl ?_; exact ⟨rfl, by (repeat' first | (with_reducible first | exact Bq0 | assumption | refine Bq1 ?_ | refine Bq2 ?_ | refine Bq3 ?_ ?_ | refine Bq4 ?_ (by assumption)) | go_size)⟩)
end Go.Proofs.YthikaimhmpenhaaDoor

namespace Go.Proofs.YthikaimhmpenhaaDoor
set_option linter.all false
open Go Go.RowKit Wd
set_option maxRecDepth 100000
def TimM (w : World) (B : Nat) (s : Bool) (a d : Nat) (wr : World) : Prop :=
  (∀ o, wr.cell? ⟨w.heap.size, o, none⟩ = (#[.bool (false), .int .u64 (((0) : Nat) : Int), .int .u64 0, .int .u64 0, .int .u64 0, .bool false, .int .u64 (((0) : Nat) : Int), .int .u64 0, .int .u64 0, .int .u64 0] : Array Value)[o]?) ∧ (∀ o, wr.cell? ⟨B, o, none⟩ = (#[.bool (s), .int .u64 ↑a, .int .u64 0, .int .u64 0, .int .u64 0, .bool false, .int .u64 ↑d, .int .u64 0, .int .u64 0, .int .u64 0] : Array Value)[o]?)
  ∧ (∀ o, wr.frozen? ⟨w.heap.size, o, none⟩ = false) ∧ (∀ o, wr.frozen? ⟨B, o, none⟩ = false) ∧ w.heap.size < B ∧ B < wr.heap.size ∧ Below w.heap.size w wr
set_option maxHeartbeats 2000000 in
theorem timesH (b o n c : Nat) (s ts : Nat → Bool) (a d ta td : Nat → Nat) (hn : n ≤ 100) (h0 : ts 0 = false ∧ ta 0 = 1 ∧ td 0 = 1)
    (hadd : ∀ i, i < n → ∀ w, Tab64 w → Calls Tryd.prog 56 #[(.agg #[.bool (ts i), .int .u64 (((ta i) : Nat) : Int), .int .u64 0, .int .u64 0, .int .u64 0, .bool false, .int .u64 (((td i) : Nat) : Int), .int .u64 0, .int .u64 0, .int .u64 0]), (.agg #[.bool (s i), .int .u64 (((a i) : Nat) : Int), .int .u64 0, .int .u64 0, .int .u64 0, .bool false, .int .u64 (((d i) : Nat) : Int), .int .u64 0, .int .u64 0, .int .u64 0])] w fun e w' => e = .returned (.tuple #[(.agg #[.bool (ts (i + 1)), .int .u64 (((ta (i + 1)) : Nat) : Int), .int .u64 0, .int .u64 0, .int .u64 0, .bool false, .int .u64 (((td (i + 1)) : Nat) : Int), .int .u64 0, .int .u64 0, .int .u64 0]), .int .i64 0]) ∧ Below w.heap.size w w')
    (w : World) (hT : Tab64 w) (hR : Rs w b o n s a d) :
    Calls Tryd.prog 41 #[.slice (some ⟨b, o, none⟩) n c] w fun e w' => e = .returned (.agg #[.bool (ts n), .int .u64 (((ta n) : Nat) : Int), .int .u64 0, .int .u64 0, .int .u64 0, .bool false, .int .u64 (((td n) : Nat) : Int), .int .u64 0, .int .u64 0, .int .u64 0]) ∧ Below w.heap.size w w' := by
  have HP := Lib.hid hR
  have HA := Lib.hid hadd
  have HT := Lib.hid hT
  have H0 := Lib.hid h0
  clear hR hadd hT h0
  have O1 := Lib.hid (fun w hT => ofH 1 1 (by omega) (by omega) (by omega) (by omega) w hT)
  rw [show zs 1 = false by unfold zs; rfl, show qn (Int.natAbs 1) (Int.natAbs 1) = 1 from by unfold qn; rfl, show qd (Int.natAbs 1) (Int.natAbs 1) = 1 from by unfold qd; rfl] at O1
  simp only [Int.natCast_one] at O1
  go_enter Tryd.func41, Tryd.ntmps41
  go_wp2_with fail
  ((with_reducible refine (O1.out _ (HT.out.later (by (repeat' first | (with_reducible first | exact Bq0 | assumption | refine Bq1 ?_ | refine Bq2 ?_ | refine Bq3 ?_ ?_ | refine Bq4 ?_ (by assumption)) | go_size)))).mono ?_); rintro e w0 ⟨rfl, hb0⟩)
  obtain ⟨hc0, hf0⟩ := bcell hb0
  have hz0_w_0 : w.heap.size < w0.heap.size := by have h := hb0.size; (try simp at h); omega
  have q0 : ∀ o, w0.cell? ⟨w.heap.size, o, none⟩ = (#[.bool (false), .int .u64 (((0) : Nat) : Int), .int .u64 0, .int .u64 0, .int .u64 0, .bool false, .int .u64 (((0) : Nat) : Int), .int .u64 0, .int .u64 0, .int .u64 0] : Array Value)[o]? := fun o => by rw [hc0 _ _ (by simp)]; simp [go_sem]
  have q1 : ∀ o, w0.frozen? ⟨w.heap.size, o, none⟩ = false := fun o => by rw [hf0 _ _ (by simp)]; simp [go_sem]
  have q2 : w.heap.size < w0.heap.size := by have := hb0.size; simp at this; omega
  have q3 : Below w.heap.size w w0 := by (repeat' first | (with_reducible first | exact Bq0 | assumption | refine Bq1 ?_ | refine Bq2 ?_ | refine Bq3 ?_ ?_ | refine Bq4 ?_ (by assumption)) | go_size)
  go_wp2
  go_loopg [9] n (fun gg v wr => ∃ j : Nat, j ≤ n ∧ n - j ≤ gg ∧ v = .int .i64 (j : Int) ∧ Hid (TimM w w0.heap.size (ts j) (ta j) (td j) wr))
  case atStart =>
    refine ⟨0, by omega, by omega, rfl, Lib.hid ⟨?_, ?_, ?_, ?_, ?_, ?_, ?_⟩⟩
    · exact keep_cell_a q2 q0
    · intro o
      rw [H0.out.1, H0.out.2.1, H0.out.2.2]
      simp [go_sem]
    · exact keep_frozen_a q2 q1
    · intro o; simp [go_sem]
    · omega
    · simp
    · exact below_alloc q3 _
  case round =>
    obtain ⟨j, hj, hgj, rfl, HI⟩ := hrel
    obtain ⟨c0, c1, f0, f1, hwB, hz, hb⟩ := HI.out
    clear HI
    have z0 : w.heap.size < wr.heap.size := by omega
    clear hb0 hc0 hf0 q0 q1 q2 q3
    by_cases hlt : j < n
    · have hjn : (j : Int) < (n : Int) := by omega
      have P := HP.out.later hb
      obtain ⟨x0, x1, x2, x3, x4, x5, x6, x7, x8, x9⟩ := P.get hlt
      have hzb := P.lt
      have AJ := Lib.hid (HA.out j hlt)
      have TJ := Lib.hid (HT.out.later hb)
      clear P
      go_wp2_with fail
      ((with_reducible refine (AJ.out _ (TJ.out.later (by (repeat' first | (with_reducible first | exact Bq0 | assumption | refine Bq1 ?_ | refine Bq2 ?_ | refine Bq3 ?_ ?_ | refine Bq4 ?_ (by assumption)) | go_size)))).mono ?_); rintro e w1 ⟨rfl, hb1⟩)
      have y0 := keep_lt hb1 (keep_lt_a z0)
      have y1 := keep_lt hb1 (keep_lt_a hz)
      have d0 := keep_cell hb1 (keep_lt_a z0) (keep_cell_a z0 c0)
      have d1 := keep_cell hb1 (keep_lt_a hz) (keep_cell_a hz c1)
      have k0 := keep_frozen hb1 (keep_lt_a z0) (keep_frozen_a z0 f0)
      have k1 := keep_frozen hb1 (keep_lt_a hz) (keep_frozen_a hz f1)
      have hw := below_after (below_alloc hb _) hb1
      clear c0 c1 f0 f1 x0 x1 x2 x3 x4 x5 x6 x7 x8 x9 hz z0 AJ TJ hb hb1 hzb
      go_wp2
      go_roundg (n - (j + 1))
      case measure => omega
      case rel =>
        refine ⟨j + 1, by omega, by omega, by go_num, Lib.hid ⟨set10_far (by omega) d0, set10_at d1, fun o => by simp only [World.frozen?_setCell]; exact k0 o, fun o => by simp only [World.frozen?_setCell]; exact k1 o, hwB, by simpa using y1, by (repeat' first | (with_reducible first | exact Bq0 | assumption | refine Bq1 ?_ | refine Bq2 ?_ | refine Bq3 ?_ ?_ | refine Bq4 ?_ (by assumption)) | go_size)⟩⟩
    · obtain rfl : j = n := by omega
      go_wp2_with ((with_reducible show bodyPost _ _ _ _ _ _); refine bodyPost_ret (by simp [results, Tryd.results41, go_sem, c0, c1, f0, f1, hz, z0]; try rfl) rfl ?_; exact ⟨rfl, by (repeat' first | (with_reducible first | exact Bq0 | assumption | refine Bq1 ?_ | refine Bq2 ?_ | refine Bq3 ?_ ?_ | refine Bq4 ?_ (by assumption)) | go_size)⟩)
end Go.Proofs.YthikaimhmpenhaaDoor

namespace Go.Proofs.YthikaimhmpenhaaDoor
set_option linter.all false
open Go Go.RowKit Wd
set_option maxRecDepth 100000
structure Fr where
  s : Bool
  a : Nat
  d : Nat
def Rf (w : World) (b n : Nat) (g : Nat → Fr) : Prop := Rs w b 0 n (fun i => (g i).s) (fun i => (g i).a) (fun i => (g i).d)
theorem Rf.later {w w' : World} {b n : Nat} {g : Nat → Fr} (h : Rf w b n g) (hb : Below w.heap.size w w') : Rf w' b n g := Rs.later h hb
@[irreducible] def pk2 (x y : Fr) (i : Nat) : Fr := if i = 0 then x else y
@[irreducible] def pk3 (x y z : Fr) (i : Nat) : Fr := if i = 0 then x else if i = 1 then y else z
theorem pk2_0 (x y : Fr) : pk2 x y 0 = x := by unfold pk2; rfl
theorem pk2_1 (x y : Fr) : pk2 x y 1 = y := by unfold pk2; rfl
theorem pk3_0 (x y z : Fr) : pk3 x y z 0 = x := by unfold pk3; rfl
theorem pk3_1 (x y z : Fr) : pk3 x y z 1 = y := by unfold pk3; rfl
theorem pk3_2 (x y z : Fr) : pk3 x y z 2 = z := by unfold pk3; rfl
theorem rf2_new (x : World) (T : TypeId) (u v : Fr) : Rf (x.alloc (.cells #[.bool ((u).s), .int .u64 ↑u.a, .int .u64 0, .int .u64 0, .int .u64 0, .bool false, .int .u64 ↑u.d, .int .u64 0, .int .u64 0, .int .u64 0, .bool ((v).s), .int .u64 ↑v.a, .int .u64 0, .int .u64 0, .int .u64 0, .bool false, .int .u64 ↑v.d, .int .u64 0, .int .u64 0, .int .u64 0] T)) x.heap.size 2 (pk2 u v) := by
  refine ⟨by simp, fun i hi k hk => ?_⟩
  rw [new_cells]
  match i, hi with
  | 0, _ =>
    simp only [pk2_0]
    match k, hk with
    | 0, _ | 1, _ | 2, _ | 3, _ | 4, _ | 5, _ | 6, _ | 7, _ | 8, _ | 9, _ => rfl
  | 1, _ =>
    simp only [pk2_1]
    match k, hk with
    | 0, _ | 1, _ | 2, _ | 3, _ | 4, _ | 5, _ | 6, _ | 7, _ | 8, _ | 9, _ => rfl
theorem rf3_new (x : World) (T : TypeId) (u v y : Fr) : Rf (x.alloc (.cells #[.bool ((u).s), .int .u64 ↑u.a, .int .u64 0, .int .u64 0, .int .u64 0, .bool false, .int .u64 ↑u.d, .int .u64 0, .int .u64 0, .int .u64 0, .bool ((v).s), .int .u64 ↑v.a, .int .u64 0, .int .u64 0, .int .u64 0, .bool false, .int .u64 ↑v.d, .int .u64 0, .int .u64 0, .int .u64 0, .bool ((y).s), .int .u64 ↑y.a, .int .u64 0, .int .u64 0, .int .u64 0, .bool false, .int .u64 ↑y.d, .int .u64 0, .int .u64 0, .int .u64 0] T)) x.heap.size 3 (pk3 u v y) := by
  refine ⟨by simp, fun i hi k hk => ?_⟩
  rw [new_cells]
  match i, hi with
  | 0, _ =>
    simp only [pk3_0]
    match k, hk with
    | 0, _ | 1, _ | 2, _ | 3, _ | 4, _ | 5, _ | 6, _ | 7, _ | 8, _ | 9, _ => rfl
  | 1, _ =>
    simp only [pk3_1]
    match k, hk with
    | 0, _ | 1, _ | 2, _ | 3, _ | 4, _ | 5, _ | 6, _ | 7, _ | 8, _ | 9, _ => rfl
  | 2, _ =>
    simp only [pk3_2]
    match k, hk with
    | 0, _ | 1, _ | 2, _ | 3, _ | 4, _ | 5, _ | 6, _ | 7, _ | 8, _ | 9, _ => rfl
def AddC (x y z : Fr) : Prop := ∀ w, Tab64 w → Calls Tryd.prog 57 #[(.agg #[.bool ((x).s), .int .u64 ↑x.a, .int .u64 0, .int .u64 0, .int .u64 0, .bool false, .int .u64 ↑x.d, .int .u64 0, .int .u64 0, .int .u64 0]), (.agg #[.bool ((y).s), .int .u64 ↑y.a, .int .u64 0, .int .u64 0, .int .u64 0, .bool false, .int .u64 ↑y.d, .int .u64 0, .int .u64 0, .int .u64 0])] w fun e w' => e = .returned (.tuple #[(.agg #[.bool ((z).s), .int .u64 ↑z.a, .int .u64 0, .int .u64 0, .int .u64 0, .bool false, .int .u64 ↑z.d, .int .u64 0, .int .u64 0, .int .u64 0]), .int .i64 0]) ∧ Below w.heap.size w w'
def MulC (x y z : Fr) : Prop := ∀ w, Tab64 w → Calls Tryd.prog 56 #[(.agg #[.bool ((x).s), .int .u64 ↑x.a, .int .u64 0, .int .u64 0, .int .u64 0, .bool false, .int .u64 ↑x.d, .int .u64 0, .int .u64 0, .int .u64 0]), (.agg #[.bool ((y).s), .int .u64 ↑y.a, .int .u64 0, .int .u64 0, .int .u64 0, .bool false, .int .u64 ↑y.d, .int .u64 0, .int .u64 0, .int .u64 0])] w fun e w' => e = .returned (.tuple #[(.agg #[.bool ((z).s), .int .u64 ↑z.a, .int .u64 0, .int .u64 0, .int .u64 0, .bool false, .int .u64 ↑z.d, .int .u64 0, .int .u64 0, .int .u64 0]), .int .i64 0]) ∧ Below w.heap.size w w'
def LessC (x y z : Fr) : Prop := ∀ w, Tab64 w → Calls Tryd.prog 44 #[(.agg #[.bool ((x).s), .int .u64 ↑x.a, .int .u64 0, .int .u64 0, .int .u64 0, .bool false, .int .u64 ↑x.d, .int .u64 0, .int .u64 0, .int .u64 0]), (.agg #[.bool ((y).s), .int .u64 ↑y.a, .int .u64 0, .int .u64 0, .int .u64 0, .bool false, .int .u64 ↑y.d, .int .u64 0, .int .u64 0, .int .u64 0])] w fun e w' => e = .returned (.agg #[.bool ((z).s), .int .u64 ↑z.a, .int .u64 0, .int .u64 0, .int .u64 0, .bool false, .int .u64 ↑z.d, .int .u64 0, .int .u64 0, .int .u64 0]) ∧ Below w.heap.size w w'
def OfC (n d : Int) (z : Fr) : Prop := ∀ w, Tab64 w → Calls Tryd.prog 37 #[.int .i64 n, .int .i64 d] w fun e w' => e = .returned (.agg #[.bool ((z).s), .int .u64 ↑z.a, .int .u64 0, .int .u64 0, .int .u64 0, .bool false, .int .u64 ↑z.d, .int .u64 0, .int .u64 0, .int .u64 0]) ∧ Below w.heap.size w w'
def SumC (n : Nat) (g : Nat → Fr) (z : Fr) : Prop := ∀ b c w, Tab64 w → Rf w b n g → Calls Tryd.prog 42 #[.slice (some ⟨b, 0, none⟩) n c] w fun e w' => e = .returned (.agg #[.bool ((z).s), .int .u64 ↑z.a, .int .u64 0, .int .u64 0, .int .u64 0, .bool false, .int .u64 ↑z.d, .int .u64 0, .int .u64 0, .int .u64 0]) ∧ Below w.heap.size w w'
def TimC (n : Nat) (g : Nat → Fr) (z : Fr) : Prop := ∀ b c w, Tab64 w → Rf w b n g → Calls Tryd.prog 41 #[.slice (some ⟨b, 0, none⟩) n c] w fun e w' => e = .returned (.agg #[.bool ((z).s), .int .u64 ↑z.a, .int .u64 0, .int .u64 0, .int .u64 0, .bool false, .int .u64 ↑z.d, .int .u64 0, .int .u64 0, .int .u64 0]) ∧ Below w.heap.size w w'
def fr0 : Fr := ⟨false, 0, 0⟩
def fr1 : Fr := ⟨false, 1, 1⟩
theorem SumC.of {n : Nat} {g t : Nat → Fr} (hn : n ≤ 100) (h0 : t 0 = fr0) (h : ∀ i, i < n → AddC (t i) (g i) (t (i + 1))) : SumC n g (t n) := fun b c w hT hR =>
  sumH b 0 n c (fun i => (g i).s) (fun i => (t i).s) (fun i => (g i).a) (fun i => (g i).d) (fun i => (t i).a) (fun i => (t i).d) hn (by simp only [h0]; exact ⟨rfl, rfl, rfl⟩) (fun i hi w hT => h i hi w hT) w hT hR
theorem TimC.of {n : Nat} {g t : Nat → Fr} (hn : n ≤ 100) (h0 : t 0 = fr1) (h : ∀ i, i < n → MulC (t i) (g i) (t (i + 1))) : TimC n g (t n) := fun b c w hT hR =>
  timesH b 0 n c (fun i => (g i).s) (fun i => (t i).s) (fun i => (g i).a) (fun i => (g i).d) (fun i => (t i).a) (fun i => (t i).d) hn (by simp only [h0]; exact ⟨rfl, rfl, rfl⟩) (fun i hi w hT => h i hi w hT) w hT hR
def ch2 (p x z : Fr) : Nat → Fr
  | 0 => p
  | 1 => x
  | _ => z
def ch3 (p x y z : Fr) : Nat → Fr
  | 0 => p
  | 1 => x
  | 2 => y
  | _ => z
theorem SumC.two {x y z : Fr} (h0 : AddC fr0 x x) (h : AddC x y z) : SumC 2 (pk2 x y) z := SumC.of (t := ch2 fr0 x z) (by omega) rfl (fun i hi => by
  match i, hi with
  | 0, _ => rw [pk2_0]; exact h0
  | 1, _ => rw [pk2_1]; exact h)
theorem SumC.three {x y u v z : Fr} (h0 : AddC fr0 x x) (h : AddC x y u) (h2 : AddC u v z) : SumC 3 (pk3 x y v) z := SumC.of (t := ch3 fr0 x u z) (by omega) rfl (fun i hi => by
  match i, hi with
  | 0, _ => rw [pk3_0]; exact h0
  | 1, _ => rw [pk3_1]; exact h
  | 2, _ => rw [pk3_2]; exact h2)
theorem TimC.two {x y z : Fr} (h0 : MulC fr1 x x) (h : MulC x y z) : TimC 2 (pk2 x y) z := TimC.of (t := ch2 fr1 x z) (by omega) rfl (fun i hi => by
  match i, hi with
  | 0, _ => rw [pk2_0]; exact h0
  | 1, _ => rw [pk2_1]; exact h)
theorem TimC.three {x y u v z : Fr} (h0 : MulC fr1 x x) (h : MulC x y u) (h2 : MulC u v z) : TimC 3 (pk3 x y v) z := TimC.of (t := ch3 fr1 x u z) (by omega) rfl (fun i hi => by
  match i, hi with
  | 0, _ => rw [pk3_0]; exact h0
  | 1, _ => rw [pk3_1]; exact h
  | 2, _ => rw [pk3_2]; exact h2)
@[irreducible] def q (z : Int) (m : Nat) : Fr := ⟨zs z, qn z.natAbs m, qd z.natAbs m⟩
theorem q_s (z : Int) (m : Nat) : (q z m).s = zs z := by unfold q; rfl
theorem q_a (z : Int) (m : Nat) : (q z m).a = qn z.natAbs m := by unfold q; rfl
theorem q_d (z : Int) (m : Nat) : (q z m).d = qd z.natAbs m := by unfold q; rfl
theorem q_eq {z y : Int} {m n : Nat} (hm : 0 < m) (hn : 0 < n) (h : z * (n : Int) = y * (m : Int)) : q z m = q y n := by
  have h1 : z.natAbs * n = y.natAbs * m := by
    have := congrArg Int.natAbs h
    simpa [Int.natAbs_mul] using this
  have h2 : zs z = zs y := by
    unfold zs
    have hm' : (0 : Int) < (m : Int) := by omega
    have hn' : (0 : Int) < (n : Int) := by omega
    by_cases hz : z < 0
    · have : z * (n : Int) < 0 := Int.mul_neg_of_neg_of_pos hz hn'
      have hy : y < 0 := by
        apply Decidable.byContradiction
        intro hc
        have := Int.mul_nonneg (show 0 ≤ y by omega) (Int.le_of_lt hm')
        omega
      simp [hz, hy]
    · have : 0 ≤ z * (n : Int) := Int.mul_nonneg (by omega) (Int.le_of_lt hn')
      have hy : ¬ y < 0 := by
        intro hc
        have := Int.mul_neg_of_neg_of_pos hc hm'
        omega
      simp [hz, hy]
  obtain ⟨h3, h4⟩ := q_same hm hn h1
  unfold q
  rw [h2, h3, h4]
theorem val_q {z : Int} {m : Nat} : val (q z m).s (q z m).a * (m : Int) = z * ((q z m).d : Int) := by
  rw [q_s, q_a, q_d]
  have h := @q_val z.natAbs m
  have hz := val_zs z
  unfold val at *
  split
  · rename_i hs
    rw [if_pos hs] at hz
    have h2 : ((qn z.natAbs m : Nat) : Int) * (m : Int) = (z.natAbs : Int) * ((qd z.natAbs m : Nat) : Int) := by exact_mod_cast h
    generalize qn z.natAbs m = a at *
    generalize qd z.natAbs m = b at *
    generalize z.natAbs = c at *
    subst hz
    rw [Int.neg_mul, Int.neg_mul, h2]
  · rename_i hs
    rw [if_neg hs] at hz
    have h2 : ((qn z.natAbs m : Nat) : Int) * (m : Int) = (z.natAbs : Int) * ((qd z.natAbs m : Nat) : Int) := by exact_mod_cast h
    generalize qn z.natAbs m = a at *
    generalize qd z.natAbs m = b at *
    generalize z.natAbs = c at *
    subst hz
    rw [h2]
theorem q_sn {z : Int} {m : Nat} (hm : 0 < m) : (q z m).s = true → (q z m).a ≠ 0 := by
  rw [q_s, q_a]
  intro hs h0
  have h := @q_val z.natAbs m
  rw [h0, Nat.zero_mul] at h
  have hd := @qd_pos z.natAbs m hm
  have : z.natAbs = 0 := by
    rcases Nat.mul_eq_zero.1 h.symm with h | h
    · exact h
    · omega
  have hz : z = 0 := by omega
  subst hz
  rw [zs_zero] at hs
  cases hs
structure Bd (z : Int) (m B M : Nat) : Prop where
  zb : z.natAbs ≤ B
  mb : m ≤ M
  pos : 0 < m
theorem Bd.a {z : Int} {m B M : Nat} (h : Bd z m B M) : (q z m).a ≤ B := by rw [q_a]; exact Nat.le_trans (qn_le _ _) h.zb
theorem Bd.d {z : Int} {m B M : Nat} (h : Bd z m B M) : (q z m).d ≤ M := by rw [q_d]; exact Nat.le_trans (qd_le _ _) h.mb
theorem Bd.d0 {z : Int} {m B M : Nat} (h : Bd z m B M) : 0 < (q z m).d := by rw [q_d]; exact qd_pos h.pos
theorem Bd.g {z : Int} {m B M : Nat} (h : Bd z m B M) : Nat.gcd (q z m).a (q z m).d = 1 := by rw [q_a, q_d]; exact q_gcd h.pos
theorem cross {z y c e : Int} {m n p r : Nat} (hm : 0 < m) (hn : 0 < n) (h1 : c * (m : Int) = z * (p : Int)) (h2 : e * (n : Int) = y * (r : Int)) :
    (c * (r : Int) + e * (p : Int)) * ((m * n : Nat) : Int) = (z * (n : Int) + y * (m : Int)) * ((p * r : Nat) : Int) := by
  rw [Int.natCast_mul, Int.natCast_mul]
  have a1 : (c * (r : Int) + e * (p : Int)) * ((m : Int) * (n : Int)) = (c * (m : Int)) * ((r : Int) * (n : Int)) + (e * (n : Int)) * ((p : Int) * (m : Int)) := by
    generalize (m : Int) = m' at *
    generalize (n : Int) = n' at *
    generalize (p : Int) = p' at *
    generalize (r : Int) = r' at *
    grind
  rw [a1, h1, h2]
  generalize (m : Int) = m' at *
  generalize (n : Int) = n' at *
  generalize (p : Int) = p' at *
  generalize (r : Int) = r' at *
  grind
theorem addQ {z y : Int} {m n B M B' M' : Nat} (hz : Bd z m B M) (hy : Bd y n B' M') (n1 : B < 18446744073709551616) (n2 : B' < 18446744073709551616) (n3 : M < 4611686018427387904) (n4 : M' < 18446744073709551616) (n5 : B * M' + B' * M < 18446744073709551616) (n6 : M * M' < 18446744073709551616) :
    AddC (q z m) (q y n) (q (z * (n : Int) + y * (m : Int)) (m * n)) := fun w hT => by
  have ha := hz.a
  have hd := hz.d
  have ha' := hy.a
  have hd' := hy.d
  have h0 := hz.d0
  have h0' := hy.d0
  have g1 := Nat.div_le_self (q z m).d (Nat.gcd (q z m).d (q y n).d)
  have g2 := Nat.div_le_self (q y n).d (Nat.gcd (q z m).d (q y n).d)
  have hs := fun w hT => soundI (q z m).s (q z m).a (q z m).d (by omega) (by omega) h0 (q_sn hz.pos) hz.g w hT
  have b1 : (q z m).a * ((q y n).d / Nat.gcd (q z m).d (q y n).d) ≤ B * M' := Nat.mul_le_mul ha (by omega)
  have b2 : (q y n).a * ((q z m).d / Nat.gcd (q z m).d (q y n).d) ≤ B' * M := Nat.mul_le_mul ha' (by omega)
  have b3 : ((q z m).d / Nat.gcd (q z m).d (q y n).d) * (q y n).d ≤ M * M' := Nat.mul_le_mul (by omega) hd'
  have h := addI (q z m).s (q z m).a (q z m).d (q z m).s (q y n).s (q z m).a (q z m).d (q y n).a (q y n).d hs (by omega) (by omega) (by omega) (by omega) h0 h0' (q_sn hz.pos) (q_sn hy.pos) hz.g hy.g (by omega) (by omega) _ rfl w hT
  have e : q (val (q z m).s (q z m).a * ((q y n).d : Int) + val (q y n).s (q y n).a * ((q z m).d : Int)) ((q z m).d * (q y n).d) = q (z * (n : Int) + y * (m : Int)) (m * n) :=
    q_eq (Nat.mul_pos h0 h0') (Nat.mul_pos hz.pos hy.pos) (cross hz.pos hy.pos val_q val_q)
  rw [← q_s _ ((q z m).d * (q y n).d), ← q_a _ ((q z m).d * (q y n).d), ← q_d _ ((q z m).d * (q y n).d), e] at h
  exact h
theorem addQ0 {y : Int} {n B' M' : Nat} (hy : Bd y n B' M') (n2 : B' < 18446744073709551616) (n4 : M' < 18446744073709551616) : AddC fr0 (q y n) (q y n) := fun w hT => by
  have ha' := hy.a
  have hd' := hy.d
  have h0' := hy.d0
  have g2 := Nat.div_le_self (q y n).d (Nat.gcd 1 (q y n).d)
  have e1 : Nat.gcd 1 (q y n).d = 1 := Nat.gcd_one_left _
  have hs := fun (w : World) (hT : Tab64 w) => sound0 w
  have h := addI false 0 0 false (q y n).s 0 1 (q y n).a (q y n).d hs (by omega) (by omega) (by omega) (by omega) (by omega) h0' (fun h => by cases h) (q_sn hy.pos) (by rfl) hy.g (by rw [e1, Nat.zero_mul]; omega) (by rw [e1]; omega) _ rfl w hT
  have e : q (val false 0 * ((q y n).d : Int) + val (q y n).s (q y n).a * ((1 : Nat) : Int)) (1 * (q y n).d) = q y n :=
    q_eq (by omega) hy.pos (by
      have := @val_q y n
      unfold val at *
      simp only [Int.natCast_zero, Nat.one_mul, Int.natCast_one, Int.mul_one]
      simpa using this)
  rw [← q_s _ (1 * (q y n).d), ← q_a _ (1 * (q y n).d), ← q_d _ (1 * (q y n).d), e] at h
  exact h
theorem mulQ {z y : Int} {m n B M B' M' : Nat} (hz : Bd z m B M) (hy : Bd y n B' M') (n1 : B < 18446744073709551616) (n2 : B' < 18446744073709551616) (n3 : M < 18446744073709551616) (n4 : M' < 18446744073709551616) (n5 : B * B' < 18446744073709551616) (n6 : M * M' < 18446744073709551616) :
    MulC (q z m) (q y n) (q (z * y) (m * n)) := fun w hT => by
  have ha := hz.a
  have hd := hz.d
  have ha' := hy.a
  have hd' := hy.d
  have h0 := hz.d0
  have h0' := hy.d0
  have b1 : (q z m).a / Nat.gcd (q z m).a (q y n).d * ((q y n).a / Nat.gcd (q y n).a (q z m).d) ≤ B * B' := Nat.mul_le_mul (Nat.le_trans (Nat.div_le_self _ _) ha) (Nat.le_trans (Nat.div_le_self _ _) ha')
  have b2 : (q z m).d / Nat.gcd (q y n).a (q z m).d * ((q y n).d / Nat.gcd (q z m).a (q y n).d) ≤ M * M' := Nat.mul_le_mul (Nat.le_trans (Nat.div_le_self _ _) hd) (Nat.le_trans (Nat.div_le_self _ _) hd')
  have h := mulI (q z m).s (q y n).s (q z m).a (q z m).d (q y n).a (q y n).d (by omega) (by omega) (by omega) (by omega) h0 h0' (q_sn hz.pos) (q_sn hy.pos) hz.g hy.g (by omega) (by omega) _ rfl w hT
  have e : q (val (q z m).s (q z m).a * val (q y n).s (q y n).a) ((q z m).d * (q y n).d) = q (z * y) (m * n) :=
    q_eq (Nat.mul_pos h0 h0') (Nat.mul_pos hz.pos hy.pos) (by
      have h1 := @val_q z m
      have h2 := @val_q y n
      rw [Int.natCast_mul, Int.natCast_mul]
      generalize val (q z m).s (q z m).a = c at *
      generalize val (q y n).s (q y n).a = e at *
      generalize ((q z m).d : Int) = p at *
      generalize ((q y n).d : Int) = r at *
      generalize (m : Int) = m' at *
      generalize (n : Int) = n' at *
      have : c * e * (m' * n') = (c * m') * (e * n') := by grind
      rw [this, h1, h2]
      grind)
  rw [← q_s _ ((q z m).d * (q y n).d), ← q_a _ ((q z m).d * (q y n).d), ← q_d _ ((q z m).d * (q y n).d), e] at h
  exact h
theorem fr1_q : fr1 = q 1 1 := by unfold fr1 q qn qd zs; rfl
theorem mulQ1 {y : Int} {n B' M' : Nat} (hy : Bd y n B' M') (n2 : B' < 18446744073709551616) (n4 : M' < 18446744073709551616) : MulC fr1 (q y n) (q y n) := by
  have h := mulQ (z := 1) (m := 1) (B := 1) (M := 1) ⟨by omega, by omega, by omega⟩ hy (by omega) n2 (by omega) n4 (by omega) (by omega)
  rw [fr1_q]
  rwa [Int.one_mul, Nat.one_mul] at h
theorem lessQ {z y : Int} {m n B M B' M' : Nat} (hz : Bd z m B M) (hy : Bd y n B' M') (n1 : B < 18446744073709551616) (n2 : B' < 18446744073709551616) (n3 : M < 4611686018427387904) (n4 : M' < 18446744073709551616) (n5 : B * M' + B' * M < 18446744073709551616) (n6 : M * M' < 18446744073709551616) :
    LessC (q z m) (q y n) (q (z * (n : Int) - y * (m : Int)) (m * n)) := fun w hT => by
  have ha := hz.a
  have hd := hz.d
  have ha' := hy.a
  have hd' := hy.d
  have h0 := hz.d0
  have h0' := hy.d0
  have g1 := Nat.div_le_self (q z m).d (Nat.gcd (q z m).d (q y n).d)
  have g2 := Nat.div_le_self (q y n).d (Nat.gcd (q z m).d (q y n).d)
  have b1 : (q z m).a * ((q y n).d / Nat.gcd (q z m).d (q y n).d) ≤ B * M' := Nat.mul_le_mul ha (by omega)
  have b2 : (q y n).a * ((q z m).d / Nat.gcd (q z m).d (q y n).d) ≤ B' * M := Nat.mul_le_mul ha' (by omega)
  have b3 : ((q z m).d / Nat.gcd (q z m).d (q y n).d) * (q y n).d ≤ M * M' := Nat.mul_le_mul (by omega) hd'
  have h := fun w hT => subI (q z m).s (q y n).s (q z m).a (q z m).d (q y n).a (q y n).d (by omega) (by omega) (by omega) (by omega) h0 h0' (q_sn hz.pos) (q_sn hy.pos) hz.g hy.g (by omega) (by omega) _ rfl w hT
  have e : q (val (q z m).s (q z m).a * ((q y n).d : Int) - val (q y n).s (q y n).a * ((q z m).d : Int)) ((q z m).d * (q y n).d) = q (z * (n : Int) - y * (m : Int)) (m * n) :=
    q_eq (Nat.mul_pos h0 h0') (Nat.mul_pos hz.pos hy.pos) (by
      have h3 := @val_q y n
      have := cross (c := val (q z m).s (q z m).a) (e := -val (q y n).s (q y n).a) (y := -y) hz.pos hy.pos (@val_q z m) (by rw [Int.neg_mul, Int.neg_mul, h3])
      rw [Int.neg_mul, Int.neg_mul] at this
      rw [Int.sub_eq_add_neg, Int.sub_eq_add_neg]
      exact this)
  rw [← q_s _ ((q z m).d * (q y n).d), ← q_a _ ((q z m).d * (q y n).d), ← q_d _ ((q z m).d * (q y n).d), e] at h
  exact lessH h w hT
theorem ofQ (n : Int) (d : Nat) (hn : -9223372036854775808 ≤ n) (hn' : n ≤ 9223372036854775807) (hd : 0 < d) (hd' : d ≤ 9223372036854775807) : OfC n (d : Int) (q n d) := fun w hT => by
  have h := ofH n (d : Int) hn hn' (by omega) (by omega) w hT
  rw [Int.natAbs_natCast, ← q_s n d, ← q_a n d, ← q_d n d] at h
  exact h
end Go.Proofs.YthikaimhmpenhaaDoor

namespace Go.Proofs.YthikaimhmpenhaaDoor
set_option linter.all false
open Go Go.RowKit Wd
set_option maxRecDepth 100000
inductive Kn where
  | val (v : Value)
  | row (n : Nat) (g : Nat → Fr)
  | two (n : Nat) (g h : Nat → Fr)
  | new (H : Nat) (xs : Array Value)
  | any
def Kn.holds : Kn → Value → World → Prop
  | .val u, v, _ => v = u
  | .row n g, v, w => ∃ b c, v = .slice (some ⟨b, 0, none⟩) n c ∧ Rf w b n g
  | .two n g h, v, w => ∃ b c b' c', v = .tuple #[.slice (some ⟨b, 0, none⟩) n c, .slice (some ⟨b', 0, none⟩) n c'] ∧ Rf w b n g ∧ Rf w b' n h
  | .new H xs, v, w => ∃ b, v = .pointer (some ⟨b, 0, none⟩) ∧ H ≤ b ∧ b < w.heap.size ∧ (∀ o, w.cell? ⟨b, o, none⟩ = xs[o]?) ∧ (∀ o, w.frozen? ⟨b, o, none⟩ = false)
  | .any, _, _ => True
theorem Kn.later {k : Kn} {v : Value} {w w' : World} (h : k.holds v w) (hb : Below w.heap.size w w') : k.holds v w' := by
  cases k with
  | val u => exact h
  | row n g => obtain ⟨b, c, e, r⟩ := h; exact ⟨b, c, e, r.later hb⟩
  | two n g h' => obtain ⟨b, c, b', c', e, r, r'⟩ := h; exact ⟨b, c, b', c', e, r.later hb, r'.later hb⟩
  | new H xs => obtain ⟨b, e, h1, h2, h3, h4⟩ := h; exact ⟨b, e, h1, keep_lt hb h2, keep_cell hb h2 h3, keep_frozen hb h2 h4⟩
  | any => trivial
section
variable {P : Program} {ops : Array Oper} {Q : Exit → Act → World → Prop}
def StepK (P : Program) (ops : Array Oper) (L : List Kn) (A : World) (a : Act) (c i : Nat) : Prop :=
  ∃ o, (ops.toList.drop i).head? = some o ∧ ∀ vals x, Below A.heap.size A x → (∀ j ∈ deps .any ops i, (L.getD j .any).holds (vals j) x) →
    Does P (execOp (putF ops vals c a).eval o) x fun v x' => Below A.heap.size A x' ∧ Below x.heap.size x x' ∧ (L.getD i .any).holds v x'
def StepsK (P : Program) (ops : Array Oper) (L : List Kn) (A : World) (a : Act) (c n : Nat) : Prop := ∀ i, n ≤ i → i < c → StepK P ops L A a c i
theorem steps_next {L : List Kn} {A : World} {a : Act} {c n : Nat} (h : StepK P ops L A a c n) (h' : StepsK P ops L A a c (n + 1)) : StepsK P ops L A a c n := fun i h1 h2 => by
  by_cases e : i = n
  · subst e; exact h
  · exact h' i (by omega) h2
theorem steps_end {L : List Kn} {A : World} {a : Act} {c : Nat} : StepsK P ops L A a c c := fun i h1 h2 => by omega
theorem wp_region_kn {id : Nat} (c : Nat) (L : List Kn) (A : World) {a : Act} {w : World} (hm : P.follows .mixedOrders = true) (hs : Region.noSelect ops = true)
    (hd : dstOk ops c = true) (hr : readOk .any ops c = true) (ht : tailOk .any ops c = true) (hc : c ≤ ops.size) (hS : Below A.heap.size A w)
    (step : StepsK P ops L A a c 0)
    (last : ∀ vals x, Below A.heap.size A x → (∀ i, i < c → (L.getD i .any).holds (vals i) x) → wpAny P .any ops Q (ops.size - c) ((Array.range ops.size).map (fun i => decide (i < c))) (putF ops vals c a) x) :
    (Code.region id ops true).wp P Q a w :=
  wp_region_inv (c := c) (S := fun x => Below A.heap.size A x) (I := fun i v x => (L.getD i .any).holds v x) hm hs hd hr ht hc (fun i hi v w w' h hb => Kn.later h hb) hS.drew
    (fun i hi o ho vals x hx hj => by
      obtain ⟨o', ho', h⟩ := step i (Nat.zero_le _) hi
      have : o = o' := by
        rw [List.head?_drop] at ho'
        have : ops[i]? = some o' := by simpa using ho'
        rw [ho] at this
        exact Option.some.inj this
      subst this
      exact h vals x hx hj)
    (fun vals x listed hx hv hl => by subst hl; exact last vals x hx hv)
theorem kn_val {i : Sem Next} {A x : World} {v : Value} (hx : Below A.heap.size A x) (h : i.run P x = .ok (.value v) x) : Does P i x fun v' x' => Below A.heap.size A x' ∧ Below x.heap.size x x' ∧ (Kn.val v).holds v' x' :=
  Or.inl ⟨v, x, h, hx, Below.refl _ _, rfl⟩
theorem kn_call {i : Sem Next} {A x : World} {v : Value} {f : FuncId} {args : Array Value} (hx : Below A.heap.size A x) (h2 : Calls P f args x fun e w' => e = .returned v ∧ Below x.heap.size x w') (h : i.run P x = .ok (.enter f args) x) :
    Does P i x fun v' x' => Below A.heap.size A x' ∧ Below x.heap.size x x' ∧ (Kn.val v).holds v' x' :=
  Or.inr ⟨f, args, h, h2.mono fun e w' ⟨he, hb⟩ => ⟨v, he, hx.trans (hb.mono hx.size), hb, rfl⟩⟩
theorem kn_two {i : Sem Next} {A x : World} {n : Nat} {g h : Nat → Fr} {f : FuncId} {args : Array Value} (hx : Below A.heap.size A x)
    (h2 : Calls P f args x fun e w' => ∃ b c b' c', e = .returned (.tuple #[.slice (some ⟨b, 0, none⟩) n c, .slice (some ⟨b', 0, none⟩) n c']) ∧ Below x.heap.size x w' ∧ Rf w' b n g ∧ Rf w' b' n h) (h1 : i.run P x = .ok (.enter f args) x) :
    Does P i x fun v' x' => Below A.heap.size A x' ∧ Below x.heap.size x x' ∧ (Kn.two n g h).holds v' x' :=
  Or.inr ⟨f, args, h1, h2.mono fun e w' ⟨b, c, b', c', he, hb, r, r'⟩ => ⟨_, he, hx.trans (hb.mono hx.size), hb, b, c, b', c', rfl, r, r'⟩⟩
theorem kn_row {i : Sem Next} {A x : World} {n b c : Nat} {g : Nat → Fr} {ob : Obj} (hx : Below A.heap.size A x) (hR : Rf (x.alloc ob) b n g) (h : i.run P x = .ok (.value (.slice (some ⟨b, 0, none⟩) n c)) (x.alloc ob)) :
    Does P i x fun v' x' => Below A.heap.size A x' ∧ Below x.heap.size x x' ∧ (Kn.row n g).holds v' x' :=
  Or.inl ⟨_, _, h, hx.alloc hx.size ob, (Below.refl _ _).alloc (Nat.le_refl _) ob, b, c, rfl, hR⟩
theorem kn_rowv {i : Sem Next} {A x : World} {n b c : Nat} {g : Nat → Fr} (hx : Below A.heap.size A x) (hR : Rf x b n g) (h : i.run P x = .ok (.value (.slice (some ⟨b, 0, none⟩) n c)) x) :
    Does P i x fun v' x' => Below A.heap.size A x' ∧ Below x.heap.size x x' ∧ (Kn.row n g).holds v' x' :=
  Or.inl ⟨_, _, h, hx, Below.refl _ _, b, c, rfl, hR⟩
theorem kn_new {i : Sem Next} {A x : World} {H : Nat} {xs : Array Value} {T : TypeId} (hx : Below A.heap.size A x) (hH : H ≤ x.heap.size) (h : i.run P x = .ok (.value (.pointer (some ⟨x.heap.size, 0, none⟩))) (x.alloc (.cells xs T))) :
    Does P i x fun v' x' => Below A.heap.size A x' ∧ Below x.heap.size x x' ∧ (Kn.new H xs).holds v' x' :=
  Or.inl ⟨_, _, h, hx.alloc hx.size _, (Below.refl _ _).alloc (Nat.le_refl _) _, x.heap.size, rfl, hH, by simp, fun o => new_cells _ _ _ o, fun o => new_frozen _ _ _ o⟩
end
end Go.Proofs.YthikaimhmpenhaaDoor

namespace Go.Proofs.YthikaimhmpenhaaDoor
set_option linter.all false
open Go Go.RowKit Wd
set_option maxRecDepth 100000
def StripC (f : FuncId) (x0 y0 x1 y1 r : Fr) : Prop := ∀ w, Tab64 w → Calls Tryd.prog f #[(.agg #[.bool ((x0).s), .int .u64 ↑x0.a, .int .u64 0, .int .u64 0, .int .u64 0, .bool false, .int .u64 ↑x0.d, .int .u64 0, .int .u64 0, .int .u64 0]), (.agg #[.bool ((y0).s), .int .u64 ↑y0.a, .int .u64 0, .int .u64 0, .int .u64 0, .bool false, .int .u64 ↑y0.d, .int .u64 0, .int .u64 0, .int .u64 0]), (.agg #[.bool ((x1).s), .int .u64 ↑x1.a, .int .u64 0, .int .u64 0, .int .u64 0, .bool false, .int .u64 ↑x1.d, .int .u64 0, .int .u64 0, .int .u64 0]), (.agg #[.bool ((y1).s), .int .u64 ↑y1.a, .int .u64 0, .int .u64 0, .int .u64 0, .bool false, .int .u64 ↑y1.d, .int .u64 0, .int .u64 0, .int .u64 0])] w fun e w' => e = .returned (.agg #[.bool ((r).s), .int .u64 ↑r.a, .int .u64 0, .int .u64 0, .int .u64 0, .bool false, .int .u64 ↑r.d, .int .u64 0, .int .u64 0, .int .u64 0]) ∧ Below w.heap.size w w'
set_option maxHeartbeats 4000000 in
theorem areaH {x0 y0 x1 y1 u v r : Fr} (hu : LessC x1 x0 u) (hv : SumC 2 (pk2 y0 y1) v) (hr : TimC 2 (pk2 u v) r) : StripC 43 x0 y0 x1 y1 r := fun w hT => by
  have HU := Lib.hid hu
  have HV := Lib.hid hv
  have HR := Lib.hid hr
  have HT := Lib.hid hT
  clear hu hv hr hT
  go_enter Tryd.func43, Tryd.ntmps43
  go_upto_region 1 with (fail)
  refine wp_world (fun x => (∀ o, x.cell? ⟨w.heap.size, o, none⟩ = (#[.bool ((x0).s), .int .u64 ↑x0.a, .int .u64 0, .int .u64 0, .int .u64 0, .bool false, .int .u64 ↑x0.d, .int .u64 0, .int .u64 0, .int .u64 0] : Array Value)[o]?) ∧ (∀ o, x.cell? ⟨w.heap.size + 1, o, none⟩ = (#[.bool ((y0).s), .int .u64 ↑y0.a, .int .u64 0, .int .u64 0, .int .u64 0, .bool false, .int .u64 ↑y0.d, .int .u64 0, .int .u64 0, .int .u64 0] : Array Value)[o]?) ∧ (∀ o, x.cell? ⟨w.heap.size + 1 + 1, o, none⟩ = (#[.bool ((x1).s), .int .u64 ↑x1.a, .int .u64 0, .int .u64 0, .int .u64 0, .bool false, .int .u64 ↑x1.d, .int .u64 0, .int .u64 0, .int .u64 0] : Array Value)[o]?) ∧ (∀ o, x.cell? ⟨w.heap.size + 1 + 1 + 1, o, none⟩ = (#[.bool ((y1).s), .int .u64 ↑y1.a, .int .u64 0, .int .u64 0, .int .u64 0, .bool false, .int .u64 ↑y1.d, .int .u64 0, .int .u64 0, .int .u64 0] : Array Value)[o]?) ∧ (∀ o, x.cell? ⟨w.heap.size + 1 + 1 + 1 + 1, o, none⟩ = (#[.bool (false), .int .u64 (((0) : Nat) : Int), .int .u64 0, .int .u64 0, .int .u64 0, .bool false, .int .u64 (((0) : Nat) : Int), .int .u64 0, .int .u64 0, .int .u64 0] : Array Value)[o]?) ∧ (∀ o, x.frozen? ⟨w.heap.size, o, none⟩ = false) ∧ (∀ o, x.frozen? ⟨w.heap.size + 1, o, none⟩ = false) ∧ (∀ o, x.frozen? ⟨w.heap.size + 1 + 1, o, none⟩ = false) ∧ (∀ o, x.frozen? ⟨w.heap.size + 1 + 1 + 1, o, none⟩ = false) ∧ (∀ o, x.frozen? ⟨w.heap.size + 1 + 1 + 1 + 1, o, none⟩ = false) ∧ w.heap.size < x.heap.size ∧ w.heap.size + 1 < x.heap.size ∧ w.heap.size + 1 + 1 < x.heap.size ∧ w.heap.size + 1 + 1 + 1 < x.heap.size ∧ w.heap.size + 1 + 1 + 1 + 1 < x.heap.size ∧ Below w.heap.size w x) (by (repeat' apply And.intro) <;> first | (intro o; simp [go_sem]; done) | ((repeat' first | (with_reducible first | exact Bq0 | assumption | refine Bq1 ?_ | refine Bq2 ?_ | refine Bq3 ?_ ?_ | refine Bq4 ?_ (by assumption)) | go_size); done) | omega | (simp [go_sem]; done) | (simp [go_sem]; omega)) ?_
  rintro A ⟨hAc0, hAc1, hAc2, hAc3, hAc4, hAf0, hAf1, hAf2, hAf3, hAf4, hAz0, hAz1, hAz2, hAz3, hAz4, hAb⟩
  have KA := fun (x : World) (hx : Below A.heap.size A x) => And.intro (keep_cell hx hAz0 hAc0) (And.intro (keep_cell hx hAz1 hAc1) (And.intro (keep_cell hx hAz2 hAc2) (keep_cell hx hAz3 hAc3)))
  have J4 := fun (x : World) (hx : Below A.heap.size A x) => And.intro (keep_cell hx hAz4 hAc4) (And.intro (keep_frozen hx hAz4 hAf4) (keep_lt hx hAz4))
  have TA := Lib.hid (HT.out.later hAb)
  refine wp_region_kn 9 [.val ((.agg #[.bool ((x1).s), .int .u64 ↑x1.a, .int .u64 0, .int .u64 0, .int .u64 0, .bool false, .int .u64 ↑x1.d, .int .u64 0, .int .u64 0, .int .u64 0])), .val ((.agg #[.bool ((x0).s), .int .u64 ↑x0.a, .int .u64 0, .int .u64 0, .int .u64 0, .bool false, .int .u64 ↑x0.d, .int .u64 0, .int .u64 0, .int .u64 0])), .val ((.agg #[.bool ((u).s), .int .u64 ↑u.a, .int .u64 0, .int .u64 0, .int .u64 0, .bool false, .int .u64 ↑u.d, .int .u64 0, .int .u64 0, .int .u64 0])), .val ((.agg #[.bool ((y0).s), .int .u64 ↑y0.a, .int .u64 0, .int .u64 0, .int .u64 0, .bool false, .int .u64 ↑y0.d, .int .u64 0, .int .u64 0, .int .u64 0])), .val ((.agg #[.bool ((y1).s), .int .u64 ↑y1.a, .int .u64 0, .int .u64 0, .int .u64 0, .bool false, .int .u64 ↑y1.d, .int .u64 0, .int .u64 0, .int .u64 0])), .row (2) (pk2 y0 y1), .val ((.agg #[.bool ((v).s), .int .u64 ↑v.a, .int .u64 0, .int .u64 0, .int .u64 0, .bool false, .int .u64 ↑v.d, .int .u64 0, .int .u64 0, .int .u64 0])), .row (2) (pk2 u v), .val ((.agg #[.bool ((r).s), .int .u64 ↑r.a, .int .u64 0, .int .u64 0, .int .u64 0, .bool false, .int .u64 ↑r.d, .int .u64 0, .int .u64 0, .int .u64 0]))] A (by kernel_rfl) (by kernel_rfl) (by kernel_rfl) (by kernel_rfl) (by kernel_rfl) (by decide) (Below.refl _ _) ?_ ?_
  · refine steps_next (n := 0) ⟨_, by rfl, fun vals x hx hj => ?_⟩ ?_
    · have hk := KA x hx; clear hj; refine kn_val hx ?_; simp only [putF, dstO, Act.put]; go_simp
    refine steps_next (n := 1) ⟨_, by rfl, fun vals x hx hj => ?_⟩ ?_
    · have hk := KA x hx; clear hj; refine kn_val hx ?_; simp only [putF, dstO, Act.put]; go_simp
    refine steps_next (n := 2) ⟨_, by rfl, fun vals x hx hj => ?_⟩ ?_
    · have hk := KA x hx; have e0 : _ = _ := hj 0 (by decide +kernel); have e1 : _ = _ := hj 1 (by decide +kernel); clear hj; refine kn_call hx (HU.out x (TA.out.later hx)) ?_; simp only [putF, dstO, Act.put]; (try simp only [e0, e1]); go_simp
    refine steps_next (n := 3) ⟨_, by rfl, fun vals x hx hj => ?_⟩ ?_
    · have hk := KA x hx; clear hj; refine kn_val hx ?_; simp only [putF, dstO, Act.put]; go_simp
    refine steps_next (n := 4) ⟨_, by rfl, fun vals x hx hj => ?_⟩ ?_
    · have hk := KA x hx; clear hj; refine kn_val hx ?_; simp only [putF, dstO, Act.put]; go_simp
    refine steps_next (n := 5) ⟨_, by rfl, fun vals x hx hj => ?_⟩ ?_
    · have hk := KA x hx; have e3 : _ = _ := hj 3 (by decide +kernel); have e4 : _ = _ := hj 4 (by decide +kernel); clear hj; refine kn_row (c := 2) hx (rf2_new x 39 y0 y1) ?_; simp only [putF, dstO, Act.put]; (try simp only [e3, e4]); go_simp
    refine steps_next (n := 6) ⟨_, by rfl, fun vals x hx hj => ?_⟩ ?_
    · have hk := KA x hx; obtain ⟨b5, c5, e5, R5⟩ := hj 5 (by decide +kernel); clear hj; refine kn_call hx (HV.out b5 c5 x (TA.out.later hx) R5) ?_; simp only [putF, dstO, Act.put]; (try simp only [e5]); go_simp
    refine steps_next (n := 7) ⟨_, by rfl, fun vals x hx hj => ?_⟩ ?_
    · have hk := KA x hx; have e2 : _ = _ := hj 2 (by decide +kernel); have e6 : _ = _ := hj 6 (by decide +kernel); clear hj; refine kn_row (c := 2) hx (rf2_new x 39 u v) ?_; simp only [putF, dstO, Act.put]; (try simp only [e2, e6]); go_simp
    refine steps_next (n := 8) ⟨_, by rfl, fun vals x hx hj => ?_⟩ ?_
    · have hk := KA x hx; obtain ⟨b7, c7, e7, R7⟩ := hj 7 (by decide +kernel); clear hj; refine kn_call hx (HR.out b7 c7 x (TA.out.later hx) R7) ?_; simp only [putF, dstO, Act.put]; (try simp only [e7]); go_simp
    exact steps_end
  intro vals Ax hAx hv
  have hkAx := KA Ax hAx
  have e0 : _ = _ := hv 0 (by omega)
  have e1 : _ = _ := hv 1 (by omega)
  have e2 : _ = _ := hv 2 (by omega)
  have e3 : _ = _ := hv 3 (by omega)
  have e4 : _ = _ := hv 4 (by omega)
  obtain ⟨b5, c5, e5, R5⟩ := hv 5 (by omega)
  have e6 : _ = _ := hv 6 (by omega)
  obtain ⟨b7, c7, e7, R7⟩ := hv 7 (by omega)
  have e8 : _ = _ := hv 8 (by omega)
  clear hv
  simp only [putF, dstO, Act.put]
  (try simp only [e0, e1, e2, e3, e4, e5, e6, e7, e8])
  refine wpAny_ready (rs := [9]) (by decide +kernel) (by simp) (AllReady.cons rfl (fun KK hKK => ?_) AllReady.nil)
  go_simp
  (refine hKK _ _ ?_); clear hKK KK; (try simp only [Nq1, Nq2, Nq3, Act.put, Nq4, Nq5, Nq6])
  refine wpAny_done (by kernel_rfl) ?_ _
  obtain ⟨hBc4, hBf4, hBz4⟩ := J4 Ax hAx
  have hB := below_after hAb hAx
  clear J4 KA TA hkAx R5 R7
  go_wp2_with ((with_reducible show bodyPost _ _ _ _ _ _); refine bodyPost_ret (by simp [results, Tryd.results43, go_sem, hBc4, hBf4, hBz4]; try rfl) rfl ?_; exact ⟨rfl, by (repeat' first | (with_reducible first | exact Bq0 | assumption | refine Bq1 ?_ | refine Bq2 ?_ | refine Bq3 ?_ ?_ | refine Bq4 ?_ (by assumption)) | go_size)⟩)
end Go.Proofs.YthikaimhmpenhaaDoor
