/-
  A region whose order is open, walked in one order that is checked once: reads and numbers first, calls and stores each where it alone may come up. And small lemmas on worlds. No program in sight; no condition.
-/
import Derived.Test.YtdooadomkifbbaaWLast
import Derived.WalkKit
import Derived.Below
namespace Go.Proofs.Ytdooadomkifbbaa
open Go.RowKit
open Go.Proofs.YtdooadomkifbbaaW.PrintLast

section
variable {P : Program} {ops : Array Oper} {Q : Exit → Act → World → Prop} {S : World → Prop} {ds : List Nat}

/-- An order: what comes next, of which kind; where two, three or four that call or make memory may come up, each way. -/
inductive OT where
  | nil
  | cons (i k : Nat) (r : OT)
  | fork2 (i : Nat) (r : OT) (j : Nat) (s : OT)
  | fork3 (i : Nat) (r : OT) (j : Nat) (s : OT) (k : Nat) (t : OT)
  | fork4 (i : Nat) (r : OT) (j : Nat) (s : OT) (k : Nat) (t : OT) (m : Nat) (u : OT)
def OT.size : OT → Nat
  | .nil => 0
  | .cons _ _ r => r.size + 1
  | .fork2 _ r _ _ => r.size + 1
  | .fork3 _ r _ _ _ _ => r.size + 1
  | .fork4 _ r _ _ _ _ _ _ => r.size + 1
/-- A list of what comes next, ahead of the rest. -/
def OT.pre : List (Nat × Nat) → OT → OT
  | [], r => r
  | (i, k) :: l, r => .cons i k (OT.pre l r)

/-- The order fits: kind 0 a number (taken in any world), 1 a read (taken in a world that meets S), 2 what alone may come up, 3 the same behind which S is not shown. -/
def ordOk (ops : Array Oper) (ds : List Nat) : OT → Array Bool → Bool
  | .nil, l => Region.ready .any ops l == []
  | .cons i k r, l => (match k with
      | 0 => anyB .any ops l (l.setIfInBounds i true) i
      | 1 => takeB .any ops ds l (l.setIfInBounds i true) i
      | 2 => readyB .any ops l (l.setIfInBounds i true) i && !ds.contains i
      | _ => readyB .any ops l (l.setIfInBounds i true) i && ds.contains i) && ordOk ops ds r (l.setIfInBounds i true)
  | .fork2 i r j s, l => (Region.ready .any ops l == [i, j]) && !ds.contains i && !ds.contains j && (r.size == s.size) && ordOk ops ds r (l.setIfInBounds i true) && ordOk ops ds s (l.setIfInBounds j true)
  | .fork3 i r j s k t, l => (Region.ready .any ops l == [i, j, k]) && !ds.contains i && !ds.contains j && !ds.contains k && (r.size == s.size) && (r.size == t.size) && ordOk ops ds r (l.setIfInBounds i true) && ordOk ops ds s (l.setIfInBounds j true) && ordOk ops ds t (l.setIfInBounds k true)
  | .fork4 i r j s k t m u, l => (Region.ready .any ops l == [i, j, k, m]) && !ds.contains i && !ds.contains j && !ds.contains k && !ds.contains m && (r.size == s.size) && (r.size == t.size) && (r.size == u.size) && ordOk ops ds r (l.setIfInBounds i true) && ordOk ops ds s (l.setIfInBounds j true) && ordOk ops ds t (l.setIfInBounds k true) && ordOk ops ds u (l.setIfInBounds m true)

/-- What is left of a region, in an order that fits. -/
def WpO (P : Program) (ops : Array Oper) (Q : Exit → Act → World → Prop) (S : World → Prop) (ds : List Nat) (r : OT) (a : Act) (w : World) : Prop :=
  (∀ c a d v w, Q (.panic c) (Act.put a d v) w → Q (.panic c) a w) → ∀ l, ordOk ops ds r l = true → wpAnyLast P .any ops Q S ds r.size l a w
/-- One operation that calls or makes memory, and what is left behind it. -/
def StepO (P : Program) (ops : Array Oper) (Q : Exit → Act → World → Prop) (S : World → Prop) (ds : List Nat) (oi : Oper) (r : OT) (a : Act) (w : World) : Prop :=
  ∀ K : Act → World → Prop, Shut (∀ a' w', S w' → (S w' → WpO P ops Q S ds r a' w') → K a' w') → if Region.wanted oi (yielded ops a.tmps) = true then Oper.wp P oi a w K Q else K (a.put oi.dst undef) w

def nth {α : Type} : List α → Nat → Option α
  | [], _ => none
  | x :: _, 0 => some x
  | _ :: r, n + 1 => nth r n
theorem nth_eq {α : Type} : ∀ (l : List α) (n : Nat), nth l n = l[n]?
  | [], _ => by simp [nth]
  | _ :: _, 0 => by simp [nth]
  | _ :: r, n + 1 => by simp [nth, nth_eq r n]
theorem at_nth {ops : Array Oper} {i : Nat} {o : Oper} (h : nth ops.toList i = some o) : ops[i]? = some o := by
  rw [nth_eq] at h; simpa using h

theorem o_start {id : Nat} {a : Act} {w : World} (r : OT) (hm : P.follows .mixedOrders = true) (hn : (ordOk ops ds r (Array.replicate ops.size false) && r.size == ops.size) = true)
    (hQ : ∀ c a d v w, Q (.panic c) (Act.put a d v) w → Q (.panic c) a w) (hS : S w.drew) (h : ∀ w1, S w1 → WpO P ops Q S ds r a w1) : (Code.region id ops true).wp P Q a w := by
  simp only [Bool.and_eq_true, beq_iff_eq] at hn
  refine start_ (n := ops.size) (S := S) (ds := ds) (Array.replicate ops.size false) hm rfl rfl hS (fun hS' => ?_)
  rw [← hn.2]
  have := h w.drew hS' hQ (Array.replicate ops.size false) hn.1
  rwa [hn.2] at this ⊢
theorem o_done {a : Act} {w : World} (h : Q .normal a w) : WpO P ops Q S ds .nil a w := fun _ l hl => by
  exact done_ (by simpa [ordOk] using hl) h
/-- Behind the region: what is known of the world is handed on, the world by a name. -/
theorem o_close {S' : World → Prop} {a : Act} {w : World} (hS : S' w) (h : ∀ w2, S' w2 → Q .normal a w2) : WpO P ops Q S ds .nil a w := o_done (h w hS)
theorem o_pure {i : Nat} {n : Tmp} {oi : Oper} {v : Value} {r : OT} {a a' : Act} {w : World} (hi' : nth ops.toList i = some oi) (hN : oi.dst = some n)
    (hw : Region.wanted oi (yielded ops a.tmps) = true) (hy : ∀ w, (execOp a.eval oi).run P w = .ok (.value v) w) (ha : a.put (some n) v = a') (h : WpO P ops Q S ds r a' w) : WpO P ops Q S ds (.cons i 0 r) a w := fun hQ l hl => by
  simp only [ordOk, Bool.and_eq_true] at hl
  exact pure_ (l.setIfInBounds i true) (at_nth hi') hN hl.1 (fun c a w => hQ c a oi.dst v w) (Or.inl ⟨hw, hy⟩) ha (h hQ _ hl.2)
theorem o_off {i : Nat} {n : Tmp} {oi : Oper} {r : OT} {a a' : Act} {w : World} (hi' : nth ops.toList i = some oi) (hN : oi.dst = some n)
    (hw : Region.wanted oi (yielded ops a.tmps) = false) (ha : a.put (some n) undef = a') (h : WpO P ops Q S ds r a' w) : WpO P ops Q S ds (.cons i 0 r) a w := fun hQ l hl => by
  simp only [ordOk, Bool.and_eq_true] at hl
  exact pure_ (l.setIfInBounds i true) (at_nth hi') hN hl.1 (fun c a w => hQ c a oi.dst undef w) (Or.inr ⟨hw, rfl⟩) ha (h hQ _ hl.2)
theorem o_load {i : Nat} {n : Tmp} {oi : Oper} {v : Value} {r : OT} {a a' : Act} {w : World} (hi' : nth ops.toList i = some oi) (hN : oi.dst = some n)
    (hw : Region.wanted oi (yielded ops a.tmps) = true) (hS : S w) (hy : ∀ w, S w → (execOp a.eval oi).run P w = .ok (.value v) w) (ha : a.put (some n) v = a') (h : WpO P ops Q S ds r a' w) : WpO P ops Q S ds (.cons i 1 r) a w := fun hQ l hl => by
  simp only [ordOk, Bool.and_eq_true] at hl
  exact take_ (l.setIfInBounds i true) (at_nth hi') hN hl.1 (fun c a w => hQ c a oi.dst v w) (Or.inl ⟨hw, hy⟩) hS ha (h hQ _ hl.2)
theorem o_loadoff {i : Nat} {n : Tmp} {oi : Oper} {r : OT} {a a' : Act} {w : World} (hi' : nth ops.toList i = some oi) (hN : oi.dst = some n)
    (hw : Region.wanted oi (yielded ops a.tmps) = false) (hS : S w) (ha : a.put (some n) undef = a') (h : WpO P ops Q S ds r a' w) : WpO P ops Q S ds (.cons i 1 r) a w := fun hQ l hl => by
  simp only [ordOk, Bool.and_eq_true] at hl
  exact take_ (l.setIfInBounds i true) (at_nth hi') hN hl.1 (fun c a w => hQ c a oi.dst undef w) (Or.inr ⟨hw, rfl⟩) hS ha (h hQ _ hl.2)
theorem o_one {i : Nat} {oi : Oper} {r : OT} {a : Act} {w : World} (hi' : nth ops.toList i = some oi) (h : StepO P ops Q S ds oi r a w) :
    WpO P ops Q S ds (.cons i 2 r) a w := fun hQ l hl => by
  simp only [ordOk, Bool.and_eq_true] at hl
  exact one_ (l.setIfInBounds i true) (at_nth hi') rfl hl.1.1 (by simpa using hl.1.2) (fun K hK => h K (show Shut _ from fun a' w' hS hW => hK.out a' w' hS (fun hS' => hW hS' hQ _ hl.2)))
theorem o_last {i : Nat} {n : Option Tmp} {oi : Oper} {r : OT} {a : Act} {w : World} (hi' : nth ops.toList i = some oi) (hN : oi.dst = n)
    (h : ∀ K : Act → World → Prop, Shut (∀ a' w', WpO P ops Q S ds r a' w' → K a' w') → if Region.wanted oi (yielded ops a.tmps) = true then Oper.wp P oi a w K Q else K (a.put n undef) w) :
    WpO P ops Q S ds (.cons i 3 r) a w := fun hQ l hl => by
  simp only [ordOk, Bool.and_eq_true] at hl
  exact last_ (l.setIfInBounds i true) (at_nth hi') hN hl.1.1 (by simpa using hl.1.2) (fun K hK => h K (show Shut _ from fun a' w' hW => hK.out a' w' (hW hQ _ hl.2)))
theorem step_in {oi : Oper} {r : OT} {a : Act} {w : World} (h : StepO P ops Q S ds oi r a w) (hQ : ∀ c a d v w, Q (.panic c) (Act.put a d v) w → Q (.panic c) a w) {l : Array Bool} (hl : ordOk ops ds r l = true) {fuel : Nat} (hf : r.size = fuel) :
    ∀ K : Act → World → Prop, Shut (∀ a' w', S w' → (S w' → wpAnyLast P .any ops Q S ds fuel l a' w') → K a' w') → if Region.wanted oi (yielded ops a.tmps) = true then Oper.wp P oi a w K Q else K (a.put oi.dst undef) w := by
  subst hf
  exact fun K hK => h K (show Shut _ from fun a' w' hS hW => hK.out a' w' hS (fun hS' => hW hS' hQ _ hl))
theorem o_fork2 {i j : Nat} {oi oj : Oper} {r s : OT} {a : Act} {w : World} (hi : nth ops.toList i = some oi) (hj : nth ops.toList j = some oj) (h1 : StepO P ops Q S ds oi r a w) (h2 : StepO P ops Q S ds oj s a w) :
    WpO P ops Q S ds (.fork2 i r j s) a w := fun hQ l hl => by
  simp only [ordOk, Bool.and_eq_true, beq_iff_eq, Bool.not_eq_true', List.contains_eq_mem, decide_eq_false_iff_not] at hl
  obtain ⟨⟨⟨⟨⟨e, di⟩, dj⟩, z⟩, o1⟩, o2⟩ := hl
  exact wpAnyLast_ready e (by simp) (AllReadyL.cons (at_nth hi) di (step_in h1 hQ o1 rfl) (AllReadyL.cons (at_nth hj) dj (step_in h2 hQ o2 z.symm) AllReadyL.nil))
theorem o_fork3 {i j k : Nat} {oi oj ok : Oper} {r s t : OT} {a : Act} {w : World} (hi : nth ops.toList i = some oi) (hj : nth ops.toList j = some oj) (hk : nth ops.toList k = some ok) (h1 : StepO P ops Q S ds oi r a w) (h2 : StepO P ops Q S ds oj s a w) (h3 : StepO P ops Q S ds ok t a w) :
    WpO P ops Q S ds (.fork3 i r j s k t) a w := fun hQ l hl => by
  simp only [ordOk, Bool.and_eq_true, beq_iff_eq, Bool.not_eq_true', List.contains_eq_mem, decide_eq_false_iff_not] at hl
  obtain ⟨⟨⟨⟨⟨⟨⟨⟨e, di⟩, dj⟩, dk⟩, z⟩, z'⟩, o1⟩, o2⟩, o3⟩ := hl
  exact wpAnyLast_ready e (by simp) (AllReadyL.cons (at_nth hi) di (step_in h1 hQ o1 rfl) (AllReadyL.cons (at_nth hj) dj (step_in h2 hQ o2 z.symm) (AllReadyL.cons (at_nth hk) dk (step_in h3 hQ o3 z'.symm) AllReadyL.nil)))
theorem o_fork4 {i j k m : Nat} {oi oj ok om : Oper} {r s t u : OT} {a : Act} {w : World} (hi : nth ops.toList i = some oi) (hj : nth ops.toList j = some oj) (hk : nth ops.toList k = some ok) (hm : nth ops.toList m = some om) (h1 : StepO P ops Q S ds oi r a w) (h2 : StepO P ops Q S ds oj s a w) (h3 : StepO P ops Q S ds ok t a w) (h4 : StepO P ops Q S ds om u a w) :
    WpO P ops Q S ds (.fork4 i r j s k t m u) a w := fun hQ l hl => by
  simp only [ordOk, Bool.and_eq_true, beq_iff_eq, Bool.not_eq_true', List.contains_eq_mem, decide_eq_false_iff_not] at hl
  obtain ⟨⟨⟨⟨⟨⟨⟨⟨⟨⟨⟨e, di⟩, dj⟩, dk⟩, dm⟩, z⟩, z'⟩, z''⟩, o1⟩, o2⟩, o3⟩, o4⟩ := hl
  exact wpAnyLast_ready e (by simp) (AllReadyL.cons (at_nth hi) di (step_in h1 hQ o1 rfl) (AllReadyL.cons (at_nth hj) dj (step_in h2 hQ o2 z.symm) (AllReadyL.cons (at_nth hk) dk (step_in h3 hQ o3 z'.symm) (AllReadyL.cons (at_nth hm) dm (step_in h4 hQ o4 z''.symm) AllReadyL.nil))))
/-- A call, by a contract 'it returns v; below the heap's end the world is as it was'. -/
theorem s_call {n : Tmp} {oi : Oper} {v : Value} {r : OT} {a a' : Act} {w : World} {f : FuncId} {fn : Func} {as : Array Operand} {ts : Array TypeId} {args : Array Value} (hN : oi.dst = some n)
    (hw : Region.wanted oi (yielded ops a.tmps) = true) (hop : oi.op = .call { callee := .value (.func f), args := as, argTypes := ts }) (hf : P.funcs[f]? = some fn) (hname : (fn.name == "runtime.NumGoroutine") = false) (hb : fn.body.isSome = true)
    (hc : Calls P f args w fun e w' => e = .returned v ∧ Below w.heap.size w w') (hargs : as.map a.eval = args) (hS : ∀ w', Below w.heap.size w w' → S w') (ha : a.put (some n) v = a') (h : ∀ w', Below w.heap.size w w' → S w' → WpO P ops Q S ds r a' w') :
    StepO P ops Q S ds oi r a w := fun K hK => by
  rw [hN]
  refine goes_ hf hname hb args hw hN hop hargs (hc.mono ?_)
  rintro e w' ⟨rfl, hbl⟩
  refine ⟨v, rfl, ?_⟩
  rw [ha]
  exact hK.out _ _ (hS w' hbl) (fun hs => h w' hbl hs)
/-- What has its guard off. -/
theorem s_off {n : Tmp} {oi : Oper} {r : OT} {a a' : Act} {w : World} (hN : oi.dst = some n)
    (hw : Region.wanted oi (yielded ops a.tmps) = false) (hS : S w) (ha : a.put (some n) undef = a') (h : WpO P ops Q S ds r a' w) : StepO P ops Q S ds oi r a w := fun K hK => by
  rw [hN]
  refine off_ hw ?_
  rw [ha]
  exact hK.out _ _ hS (fun _ => h)
/-- What yields a value and makes memory (an alloc, a box, a slice built). -/
theorem s_value {n : Tmp} {oi : Oper} {v : Value} {r : OT} {a a' : Act} {w w1 : World} (hN : oi.dst = some n)
    (hw : Region.wanted oi (yielded ops a.tmps) = true) (hrun : (execOp a.eval oi).run P w = .ok (.value v) w1) (hS : S w1) (ha : a.put (some n) v = a') (h : S w1 → WpO P ops Q S ds r a' w1) : StepO P ops Q S ds oi r a w := fun K hK => by
  rw [hN]
  refine value_ hw hN hrun ?_
  rw [ha]
  exact hK.out _ _ hS h
/-- A store behind which S is not shown. -/
theorem o_store {i : Nat} {oi : Oper} {r : OT} {a : Act} {w w1 : World} (hi' : nth ops.toList i = some oi) (hN : oi.dst = none)
    (hw : Region.wanted oi (yielded ops a.tmps) = true) (hrun : (execOp a.eval oi).run P w = .ok .skip w1) (h : WpO P ops Q S ds r a w1) : WpO P ops Q S ds (.cons i 3 r) a w := by
  refine o_last hi' hN (fun K hK => ?_)
  refine skip_ hw hN hrun ?_
  exact hK.out _ _ h
end

/-! ### Worlds -/
theorem keep_cell {w1 w' : World} (hb : Below w1.heap.size w1 w') {g o : Nat} {v : Value} (h : w1.cell? ⟨g, o, none⟩ = some v) : w'.cell? ⟨g, o, none⟩ = some v :=
  (hb.cell (p := ⟨g, o, none⟩) (World.block_lt_of_cell? w1 _ h)).trans h
theorem below_call {w0 w1 w2 : World} (h : Below w0.heap.size w0 w1) (hb : Below w1.heap.size w1 w2) : Below w0.heap.size w0 w2 := h.trans (hb.mono h.size)
theorem bcell {W w1 : World} (hb : Below W.heap.size W w1) : (∀ b o, b < W.heap.size → w1.cell? ⟨b, o, none⟩ = W.cell? ⟨b, o, none⟩) ∧ (∀ b o, b < W.heap.size → w1.frozen? ⟨b, o, none⟩ = W.frozen? ⟨b, o, none⟩) :=
  ⟨fun b o h => hb.cell (p := ⟨b, o, none⟩) h, fun b o h => hb.frozen (p := ⟨b, o, none⟩) h⟩
theorem below_set {w0 w : World} (h : Below w0.heap.size w0 w) {g o : Nat} (hg : w0.heap.size ≤ g) (v : Value) : Below w0.heap.size w0 (w.setCell ⟨g, o, none⟩ v) := h.setCell hg v
/-- Block g holds an interval. -/
def IB (w : World) (g : Nat) (lo hi : Int) : Prop := w.heap[g]? = some (.cells #[.int .i64 lo, .int .i64 hi] 23 (0, 0))
section
variable {w : World} {g : Nat} {lo hi : Int}
theorem IB.lt (h : IB w g lo hi) : g < w.heap.size := by
  unfold IB at h
  rcases Nat.lt_or_ge g w.heap.size with h' | h'
  · exact h'
  · rw [Array.getElem?_eq_none h'] at h; cases h
theorem IB.c0 (h : IB w g lo hi) : w.cell? ⟨g, 0, none⟩ = some (.int .i64 lo) := by unfold IB at h; simp [World.cell?, h]
theorem IB.c1 (h : IB w g lo hi) : w.cell? ⟨g, 1, none⟩ = some (.int .i64 hi) := by unfold IB at h; simp [World.cell?, h]
theorem IB.f0 (h : IB w g lo hi) (o : Nat) : w.frozen? ⟨g, o, none⟩ = false := by unfold IB at h; simp [World.frozen?, h]
theorem IB.below (h : IB w g lo hi) {w' : World} (hb : Below w.heap.size w w') : IB w' g lo hi := (hb.block g h.lt).trans h
theorem IB.drew (h : IB w g lo hi) : IB w.drew g lo hi := h
theorem IB.alloc (h : IB w g lo hi) (o : Obj) : IB (w.alloc o) g lo hi := (Below.heap_alloc w o g h.lt).trans h
theorem IB.far (h : IB w g lo hi) {g' o : Nat} (hne : g ≠ g') (v : Value) : IB (w.setCell ⟨g', o, none⟩ v) g lo hi := (Below.heap_setCell w _ v g hne).trans h
theorem IB.set0 (h : IB w g lo hi) (x : Int) : IB (w.setCell ⟨g, 0, none⟩ (.int .i64 x)) g x hi := by
  unfold IB at h ⊢; simp [World.setCell, Array.getElem?_modify, h]
theorem IB.set1 (h : IB w g lo hi) (x : Int) : IB (w.setCell ⟨g, 1, none⟩ (.int .i64 x)) g lo x := by
  unfold IB at h ⊢; simp [World.setCell, Array.getElem?_modify, h]
theorem IB.new (w : World) (lo hi : Int) : IB (w.alloc (.cells #[.int .i64 lo, .int .i64 hi] 23)) w.heap.size lo hi := by
  show (w.heap.push _)[w.heap.size]? = _; simp
theorem IB.at {w : World} {n : Nat} (hn : w.heap.size = n) (lo hi : Int) : IB (w.alloc (.cells #[.int .i64 lo, .int .i64 hi] 23)) n lo hi := by subst hn; exact IB.new w lo hi
end

/-- Block g holds a list of ints. -/
def SB (w : World) (g : Nat) (xs : List Int) : Prop := w.heap[g]? = some (.cells (xs.map (Value.int .i64)).toArray 3 (0, 0))
section
variable {w : World} {g : Nat} {xs : List Int}
theorem SB.lt (h : SB w g xs) : g < w.heap.size := by
  unfold SB at h
  rcases Nat.lt_or_ge g w.heap.size with h' | h'
  · exact h'
  · rw [Array.getElem?_eq_none h'] at h; cases h
theorem SB.at0 {x : Int} (h : SB w g (x :: xs)) : w.cell? ⟨g, 0, none⟩ = some (.int .i64 x) := by unfold SB at h; simp [World.cell?, h]
theorem SB.at1 {x y : Int} (h : SB w g (x :: y :: xs)) : w.cell? ⟨g, 1, none⟩ = some (.int .i64 y) := by unfold SB at h; simp [World.cell?, h]
theorem SB.at2 {x y z : Int} (h : SB w g (x :: y :: z :: xs)) : w.cell? ⟨g, 2, none⟩ = some (.int .i64 z) := by unfold SB at h; simp [World.cell?, h]
theorem SB.below (h : SB w g xs) {w' : World} (hb : Below w.heap.size w w') : SB w' g xs := (hb.block g h.lt).trans h
theorem SB.alloc (h : SB w g xs) (o : Obj) : SB (w.alloc o) g xs := (Below.heap_alloc w o g h.lt).trans h
theorem SB.new1 (w : World) (x : Int) : SB (w.alloc (.cells #[.int .i64 x] 3)) w.heap.size [x] := by
  show (w.heap.push _)[w.heap.size]? = _; simp
theorem SB.new3 (w : World) (x y z : Int) : SB (w.alloc (.cells #[.int .i64 x, .int .i64 y, .int .i64 z] 3)) w.heap.size [x, y, z] := by
  show (w.heap.push _)[w.heap.size]? = _; simp
end

section
variable {P : Program} {ops : Array Oper} {Q : Exit → Act → World → Prop} {S : World → Prop} {ds : List Nat}
theorem below_alloc (w : World) (o : Obj) : Below w.heap.size w (w.alloc o) := (Below.refl _ _).alloc (Nat.le_refl _) _
/-- A slice of one int is built. -/
theorem s_slice1 {n : Tmp} {oi : Oper} {x : Int} {r : OT} {a a' : Act} {w : World} (hN : oi.dst = some n)
    (hw : Region.wanted oi (yielded ops a.tmps) = true) (hrun : (execOp a.eval oi).run P w = .ok (.value (.slice (some ⟨w.heap.size, 0, none⟩) 1 1)) (w.alloc (.cells #[.int .i64 x] 3))) (hS : ∀ w', Below w.heap.size w w' → S w') (ha : a.put (some n) (.slice (some ⟨w.heap.size, 0, none⟩) 1 1) = a')
    (h : ∀ w', Below w.heap.size w w' → SB w' w.heap.size [x] → S w' → WpO P ops Q S ds r a' w') : StepO P ops Q S ds oi r a w :=
  s_value hN hw hrun (hS _ (below_alloc w _)) ha (fun hs => h _ (below_alloc w _) (SB.new1 w x) hs)
/-- A slice of three ints is built. -/
theorem s_slice3 {n : Tmp} {oi : Oper} {x y z : Int} {r : OT} {a a' : Act} {w : World} (hN : oi.dst = some n)
    (hw : Region.wanted oi (yielded ops a.tmps) = true) (hrun : (execOp a.eval oi).run P w = .ok (.value (.slice (some ⟨w.heap.size, 0, none⟩) 3 3)) (w.alloc (.cells #[.int .i64 x, .int .i64 y, .int .i64 z] 3))) (hS : ∀ w', Below w.heap.size w w' → S w') (ha : a.put (some n) (.slice (some ⟨w.heap.size, 0, none⟩) 3 3) = a')
    (h : ∀ w', Below w.heap.size w w' → SB w' w.heap.size [x, y, z] → S w' → WpO P ops Q S ds r a' w') : StepO P ops Q S ds oi r a w :=
  s_value hN hw hrun (hS _ (below_alloc w _)) ha (fun hs => h _ (below_alloc w _) (SB.new3 w x y z) hs)
/-- A variable of an interval is made. -/
theorem s_alloc {n : Tmp} {oi : Oper} {r : OT} {a a' : Act} {w : World} (hN : oi.dst = some n)
    (hw : Region.wanted oi (yielded ops a.tmps) = true) (hrun : (execOp a.eval oi).run P w = .ok (.value (.pointer (some ⟨w.heap.size, 0, none⟩))) (w.alloc (.cells #[.int .i64 0, .int .i64 0] 23))) (hS : ∀ w', Below w.heap.size w w' → S w') (ha : a.put (some n) (.pointer (some ⟨w.heap.size, 0, none⟩)) = a')
    (h : ∀ w', Below w.heap.size w w' → IB w' w.heap.size 0 0 → S w' → WpO P ops Q S ds r a' w') : StepO P ops Q S ds oi r a w :=
  s_value hN hw hrun (hS _ (below_alloc w _)) ha (fun hs => h _ (below_alloc w _) (IB.new w 0 0) hs)
end

end Go.Proofs.Ytdooadomkifbbaa
