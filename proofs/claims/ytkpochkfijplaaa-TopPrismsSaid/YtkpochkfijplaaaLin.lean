/-
  A region that draws its order and whose operations all yield the same values in every world that meets S, S holding behind each of them: one walk, in any order that its edges allow.
-/
import Derived.Test.YtkpochkfijplaaaQKeep
namespace Go.Proofs.Ytkpochkfijplaaa
set_option linter.all false
open Go Go.RowKit Wd
set_option maxRecDepth 100000
section
variable {P : Program} {ops : Array Oper} {Q : Exit → Act → World → Prop} {md : Region.Mode} {S : World → Prop}
/-- In state a, in every world that meets S, operation o yields v, and S holds behind it. -/
def Gives (P : Program) (ops : Array Oper) (S : World → Prop) (o : Oper) (v : Value) (a : Act) : Prop :=
  (Region.wanted o (yielded ops a.tmps) = true ∧ ∀ w, S w → (execOp a.eval o).run P w = .ok (.value v) w) ∨
  (Region.wanted o (yielded ops a.tmps) = true ∧ ∃ f args, (∀ w, S w → (execOp a.eval o).run P w = .ok (.enter f args) w) ∧ ∀ w, S w → Calls P f args w fun e w' => e = .returned v ∧ S w') ∨
  (Region.wanted o (yielded ops a.tmps) = false ∧ v = undef)
theorem Gives.of_same {o : Oper} {v : Value} {a a' : Act} (h : Gives P ops S o v a) (he : execOp a'.eval o = execOp a.eval o)
    (hw : Region.wanted o (yielded ops a'.tmps) = Region.wanted o (yielded ops a.tmps)) : Gives P ops S o v a' := by
  unfold Gives at *
  rw [he, hw]
  exact h
theorem Gives.wpOp {i : Nat} {o : Oper} {v : Value} {a : Act} (hi : ops[i]? = some o) (hy : Gives P ops S o v a)
    {K : Act → World → Prop} {w : World} (hS : S w) (h : ∀ w', S w' → K (a.put o.dst v) w') : wpOp P ops Q i K a w := by
  unfold Go.wpOp
  simp only [hi]
  rcases hy with ⟨hw, hv⟩ | ⟨hw, f, args, hrun, hc⟩ | ⟨hw, rfl⟩
  · simp only [hw, if_true, Oper.wp, hv w hS, Oper.upon]; exact .inl (h w hS)
  · simp only [hw, if_true, Oper.wp, hrun w hS, Oper.upon]
    refine .inl ((hc w hS).mono fun e w' he => ?_)
    obtain ⟨rfl, hS'⟩ := he
    exact h w' hS'
  · simp only [hw, Bool.false_eq_true, if_false]; exact h w hS
/-- A chain of operations, each of which may come up, is apart from the others, and gives a value. -/
def wpLin (P : Program) (md : Region.Mode) (ops : Array Oper) (Q : Exit → Act → World → Prop) (S : World → Prop) : Nat → Array Bool → Act → Prop
  | 0, listed, a => Region.ready md ops listed = [] ∧ ∀ w, S w → Q .normal a w
  | fuel + 1, listed, a =>
    (Region.ready md ops listed = [] ∧ ∀ w, S w → Q .normal a w) ∨
    ∃ i oi v, ops[i]? = some oi ∧ (∀ j oj, ops[j]? = some oj → j ≠ i → listed.getD j true = false → (∀ e ∈ oj.after, Region.binds md e = true → e.on ≠ i) → oi.apart ops oj = true) ∧
      i ∈ Region.ready md ops listed ∧ Gives P ops S oi v a ∧ wpLin P md ops Q S fuel (listed.setIfInBounds i true) (a.put oi.dst v)
theorem wpLin_swap (hsel : ∀ (j : Nat) (o : Oper) cs b, ops[j]? = some o → o.op ≠ .select cs b) : ∀ (fuel : Nat) (listed : Array Bool) (a : Act), wpLin P md ops Q S fuel listed a → ∀ j, j ∈ Region.ready md ops listed →
    ∃ n, fuel = n + 1 ∧ ∃ oj u, ops[j]? = some oj ∧ Gives P ops S oj u a ∧ wpLin P md ops Q S n (listed.setIfInBounds j true) (a.put oj.dst u) := by
  intro fuel
  induction fuel with
  | zero =>
    intro listed a h j hj
    rw [h.1] at hj
    cases hj
  | succ fuel ih =>
    intro listed a h j hj
    rcases h with ⟨h0, -⟩ | ⟨i, oi, v, hi, hfree, hr, hy, hrest⟩
    · rw [h0] at hj
      cases hj
    · by_cases hji : j = i
      · subst hji
        exact ⟨fuel, rfl, oi, v, hi, hy, hrest⟩
      · obtain ⟨n, rfl, oj, u, hoj, hyj, hrj⟩ := ih _ _ hrest j (ready_mono hj hji)
        obtain ⟨hjun, oj', hoj', hall⟩ := mem_ready.1 hj
        obtain rfl : oj' = oj := by rw [hoj] at hoj'; exact (Option.some.inj hoj').symm
        have hnot : ∀ e ∈ oj'.after, Region.binds md e = true → e.on ≠ i := fun e he hb heq => by
          have h1 := hall e he hb
          have h0 := (mem_ready.1 hr).1
          rw [heq] at h1
          rcases Nat.lt_or_ge i listed.size with h' | h'
          · simp [h'] at h0 h1; rw [h0] at h1; cases h1
          · simp [Array.getElem?_eq_none h'] at h1
        obtain ⟨h1, h2, h3⟩ := Oper.apart_spec (hfree j oj' hoj hji hjun hnot)
        have hfree' : ∀ k ok, ops[k]? = some ok → k ≠ i → (listed.setIfInBounds j true).getD k true = false →
            (∀ e ∈ ok.after, Region.binds md e = true → e.on ≠ i) → oi.apart ops ok = true := fun k ok hk hki hun hno => by
          refine hfree k ok hk hki ?_ hno
          by_cases hjk : j = k
          · subst hjk; exact hjun
          · rw [getD_set_ne true hjk] at hun; exact hun
        refine ⟨n + 1, rfl, oj', u, hoj, hyj.of_same (execOp_put oj' (fun cs b => hsel j oj' cs b hoj) a oi.dst v h1).symm (wanted_put oj' a oi.dst v h1).symm, ?_⟩
        refine Or.inr ⟨i, oi, v, hi, hfree', ready_mono hr (Ne.symm hji), hy.of_same (execOp_put oi (fun cs b => hsel i oi cs b hi) a oj'.dst u h3) (wanted_put oi a oj'.dst u h3), ?_⟩
        rw [Array.setIfInBounds_comm _ _ hji, ← Act.put_comm a v u h2]
        exact hrj
theorem wpAny_of_lin (hsel : ∀ (j : Nat) (o : Oper) cs b, ops[j]? = some o → o.op ≠ .select cs b) : ∀ (fuel : Nat) (listed : Array Bool) (a : Act), wpLin P md ops Q S fuel listed a → ∀ w, S w → wpAny P md ops Q fuel listed a w := by
  intro fuel
  induction fuel with
  | zero => exact fun listed a h w hS => ⟨h.1, h.2 w hS⟩
  | succ fuel ih =>
    intro listed a h w hS
    refine ⟨fun h0 => ?_, fun j hj => ?_⟩
    · rcases h with ⟨-, h⟩ | ⟨i, oi, v, -, -, hr, -⟩
      · exact h w hS
      · rw [h0] at hr
        cases hr
    · obtain ⟨n, hn, oj, u, hoj, hyj, hrj⟩ := wpLin_swap hsel (fuel + 1) listed a h j hj
      obtain rfl : n = fuel := by omega
      exact hyj.wpOp hoj hS (fun w' hS' => ih _ _ hrj w' hS')
/-- The beginning. -/
theorem wp_region_lin {id : Nat} {a : Act} {w : World} (hm : P.follows .mixedOrders = true) (hs : Region.noSelect ops = true) (hS : S w.drew)
    (h : wpLin P .any ops Q S ops.size (Array.replicate ops.size false) a) : (Code.region id ops true).wp P Q a w :=
  wp_region_any hm (wpAny_of_lin (Region.noSelect_spec hs) _ _ _ h _ hS)
theorem lin_done {fuel : Nat} {listed : Array Bool} {a : Act} (hr : Region.ready md ops listed = []) (h : ∀ w, S w → Q .normal a w) : wpLin P md ops Q S fuel listed a := by
  cases fuel with
  | zero => exact ⟨hr, h⟩
  | succ n => exact Or.inl ⟨hr, h⟩
theorem lin_take {i : Nat} {oi : Oper} {v : Value} {fuel : Nat} {listed : Array Bool} {a : Act} (hi : ops[i]? = some oi) (hf : Region.free md ops listed i = true) (hr : (Region.ready md ops listed).contains i = true)
    (hy : Gives P ops S oi v a) (h : wpLin P md ops Q S fuel (listed.setIfInBounds i true) (a.put oi.dst v)) : wpLin P md ops Q S (fuel + 1) listed a :=
  Or.inr ⟨i, oi, v, hi, Region.free_spec hi hf, by simpa using hr, hy, h⟩
theorem gives_val {o : Oper} {v : Value} {a : Act} (hw : Region.wanted o (yielded ops a.tmps) = true) (h : ∀ w, S w → (execOp a.eval o).run P w = .ok (.value v) w) : Gives P ops S o v a := Or.inl ⟨hw, h⟩
theorem gives_no {o : Oper} {a : Act} (hw : Region.wanted o (yielded ops a.tmps) = false) : Gives P ops S o undef a := Or.inr (Or.inr ⟨hw, rfl⟩)
theorem gives_call {o : Oper} {v : Value} {a : Act} {f : FuncId} {args : Array Value} (hw : Region.wanted o (yielded ops a.tmps) = true) (hrun : ∀ w, S w → (execOp a.eval o).run P w = .ok (.enter f args) w)
    (hc : ∀ w, S w → Calls P f args w fun e w' => e = .returned v ∧ S w') : Gives P ops S o v a := Or.inr (Or.inl ⟨hw, f, args, hrun, hc⟩)
end
theorem lin_below {P : Program} {f : FuncId} {args : Array Value} {v : Value} {W : World} (hc : ∀ w, Calls P f args w fun e w' => e = .returned v ∧ Below w.heap.size w w') :
    ∀ w, Below W.heap.size W w → Calls P f args w fun e w' => e = .returned v ∧ Below W.heap.size W w' :=
  fun w hk => (hc w).mono fun _ _ ⟨he, hb⟩ => ⟨he, below_after hk hb⟩
theorem below_drewq {B : Nat} {a w : World} (h : Below B a w) (q : Nat) : Below B a (w.drewN q) := h.trans ⟨rfl, rfl, rfl, Nat.le_refl _, fun _ _ => rfl⟩
/-- Below a number that is not above the heap. -/
theorem below_in {b0 : Nat} {a W x : World} (h : Below b0 a W) (hs : b0 ≤ W.heap.size) (hb : Below W.heap.size W x) : Below b0 a x := h.trans (hb.mono hs)
end Go.Proofs.Ytkpochkfijplaaa
