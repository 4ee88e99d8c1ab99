import Derived.Test.YtoaicheopcojoaaDoorP0
import Derived.ChangeSame
import Derived.Carry
import Derived.LaidLaws
import Derived.Deep.Slices
import Derived.SizedLaws
import Derived.LaidMore
import Derived.OpenShut
namespace Go.Proofs.YtoaicheopcojoaaDoor.P
open Go.RowKit Go.Proofs.YtoaicheopcojoaaDoorW.PrintWords Go.Proofs.YtoaicheopcojoaaDoorW.PrintLast Go.Proofs.YtoaicheopcojoaaDoorW.PrintMore
set_option linter.unusedVariables false
set_option linter.unusedSimpArgs false

/-! From what the statement says of an argument to what the walks ask of it. -/
section
variable {H : Type} {P : Program} {w : World}
/-- What a type's cells say, read off the datum. -/
def Opens (enc : TypeId × Value → H) (P : Program) (w : World) (t : TypeId) {α : Type} (d : Kd α) (wf : α → Prop) : Prop :=
  ∀ (fuel : Nat) (cs : List Value) (x : DataW H × List MemPlace), DataW.trod enc P w 0 (fun _ => true) true fuel t cs = some x → ∃ y, d.K w y cs ∧ wf y
variable {enc : TypeId × Value → H}
theorem opens_int {t : TypeId} {k : IntKind} (ht : P.underlying t = some (.int k)) : Opens enc P w t (Kd.int k) (fun n => (Lit.int k n).wf = true) := by
  intro fuel cs x h
  obtain ⟨n, rfl, _, hw⟩ := DataW.trod_int ht h
  exact ⟨n, rfl, hw⟩
theorem open_row {t e : TypeId} {α : Type} [Inhabited α] {d : Kd α} {wf : α → Prop} (ht : P.underlying t = some (.slice e)) (he : Opens enc P w e d wf) (hz : P.cellsOf e = d.sz) {fuel : Nat} {cs : List Value} {x : DataW H × List MemPlace}
    (h : DataW.trod enc P w 0 (fun _ => true) true fuel t cs = some x) :
    ∃ (A : Option Addr) (xs : List α) (c : Nat), cs = [.slice A xs.length c] ∧ xs.length ≤ c ∧ c ≤ 9223372036854775807 ∧ d.C w A xs.length xs ∧ ∀ y ∈ xs, wf y := by
  rcases Go.Deep.open_slice ht h with ⟨rfl, _⟩ | ⟨a, len, cap, m, n, D, Pl, rfl, _, hl, hm, hmm, _, hx⟩
  · exact ⟨none, [], 0, rfl, Nat.le_refl _, by decide, ⟨rfl, by simp, fun h => by simp at h⟩, by simp⟩
  · simp only [if_true] at hmm
    subst hmm
    have hx' : ∀ i, i < len → ∃ y, wf y ∧ ∃ cs', w.cells? 0 (a.add (i * P.cellsOf e)) (P.cellsOf e) = some cs' ∧ d.K w y cs' := by
      intro i hi
      obtain ⟨cs', h1, h2⟩ := hx i (by omega)
      obtain ⟨y, h3, h4⟩ := he _ _ _ h2
      exact ⟨y, h4, cs', h1, h3⟩
    obtain ⟨f, hf⟩ := Go.Deep.choose_lt hx'
    have el : ((List.range len).map f).length = len := by simp
    have hM : m ≤ 9223372036854775807 := by unfold maxLen at hm; omega
    refine ⟨some a, (List.range len).map f, m, by rw [el], by omega, hM, ⟨rfl, by rw [el]; omega, fun _ => ⟨a, rfl, ?_⟩⟩, ?_⟩
    · intro j p hj
      have hjl : j < len := by
        have := (List.getElem?_eq_some_iff.mp hj).1
        omega
      have hp : p = f j := by simpa [hjl] using hj.symm
      subst hp
      obtain ⟨_, cs', h1, h2⟩ := hf j hjl
      rw [hz] at h1
      obtain ⟨_, h3, h4⟩ := World.cells?_some h1
      refine ⟨cs', h3, h2, fun i u hu => ?_⟩
      have hi : i < d.sz := by rw [← h3]; exact (List.getElem?_eq_some_iff.mp hu).1
      have := h4 i hi
      rw [Go.Deep.add_add, hu] at this
      exact this
    · intro y hy
      obtain ⟨i, hi, rfl⟩ := List.mem_map.1 hy
      exact (hf i (by simpa using hi)).1
theorem opens_slice {t e : TypeId} {α : Type} [Inhabited α] {d : Kd α} {wf : α → Prop} (e' : Nat) (ht : P.underlying t = some (.slice e)) (he : Opens enc P w e d wf) (hz : P.cellsOf e = d.sz) : Opens enc P w t (Kd.slice e' d) (fun l => ∀ y ∈ l, wf y) := by
  intro fuel cs x h
  obtain ⟨A, xs, c, rfl, hl, _, hC, hw⟩ := open_row ht he hz h
  exact ⟨xs, ⟨A, c, rfl, hl, hC⟩, hw⟩

/-! The plain wrap with a condition on the first world, and that world's shape. -/
theorem returns_laid {a : Assume} {C : Checked} {os : Os} {f : FuncId} {fn : Func} {s : ChangeSpec} {conds : List PathCond} {apart fresh handsOn again : Bool} {X : World → Array Value → Prop}
    (hX : ∀ (w w' : World) (args : Array Value), w.heap = w'.heap → X w args → X w' args)
    (own : ownKnob C.prog.godebug = none) (started : os.Started) (noInit : C.prog.inits.idxOf? f = none) (hfn : C.prog.funcs[f]? = some fn)
    (witness : ∃ (w : World) (tape : Tape) (i : Input), w.os = os ∧ (w.forCall tape i).Shaped C.prog ∧ i.vars = [] ∧ Input.okWide C.prog (w.forCall tape i) .any w.heap.size f i ∧
      ((s.pre enc C.prog fn conds apart (w.forCall tape i).memory i.args ∧ X (w.forCall tape i).memory i.args) ∧ sizedMet enc C.prog fn (OpenSpec.ofChange s) apart (w.forCall tape i).memory i.args) ∧ a.holds C.prog (lone (Frame.enter C.prog f i.args .normal) [] (w.forCall tape i)))
    (contract : ∀ (W : World) (base : Nat) (args : Array Value) (ds gs : List (DataW H)) (before : List MemPlace),
      (∀ (j : Nat) t v, fn.params[j]? = some t → args[j]? = some v → Value.okWide C.prog W .any base t v) →
      DataW.Whole enc C.prog fn.params.toList s.vars apart W args.toList ds gs before →
      conds.all (PathCond.test C.prog ⟨fn.params.toList, ds, s.plain.varTypes C.prog, gs⟩) = true →
      (DataW.weightsEach C.prog (fn.params.toList ++ s.plain.varTypes C.prog) (ds ++ gs)).all (· ≤ reachBytes) = true → X W args → W.ShapedOpen C.prog →
      a.holds C.prog (lone (Frame.enter C.prog f args .normal) [] W) →
      Calls C.prog f args W fun e W' => ∃ v, e = .returned v ∧ s.post enc C.prog fn apart fresh handsOn again W args v W') :
    ReturnsInHanded a C os f .any (fun w args => (s.pre enc C.prog fn conds apart w args ∧ X w args) ∧ sizedMet enc C.prog fn (OpenSpec.ofChange s) apart w args) (s.post enc C.prog fn apart fresh handsOn again) := by
  refine returnsInHanded_of_calls own started noInit witness ?_
  intro w tape i _ hsh _ hok hpre hholds
  obtain ⟨_, _, _, fn', hfn', _, _, _, _, hval⟩ := hok
  have e : fn' = fn := Option.some.inj (hfn'.symm.trans hfn)
  subst e
  obtain ⟨⟨⟨ds, gs, before, hw, hc⟩, hx⟩, hz⟩ := hpre
  have hw' := DataW.Whole.of_heap (w' := w.forCall tape i) (by rfl) hw
  refine (contract (w.forCall tape i) w.heap.size i.args ds gs before hval hw' hc (hz.weights hw) (hX _ _ _ (by rfl) hx) hsh hholds).mono fun e W' ⟨v, he, hp⟩ => ?_
  subst he
  exact ChangeSpec.post_blind hp
end

theorem opens_i {H : Type} (enc : TypeId × Value → H) (W : World) : Opens enc Tryd.prog W 3 (Kd.int .i64) (fun n => (Lit.int .i64 n).wf = true) := opens_int Tryd.underlying3
theorem opens_is {H : Type} (enc : TypeId × Value → H) (W : World) : Opens enc Tryd.prog W 22 (Kd.slice 3 (Kd.int .i64)) (fun l => ∀ n ∈ l, (Lit.int .i64 n).wf = true) := opens_slice 3 Tryd.underlying22 (opens_i enc W) (by kernel_rfl)
/-- What the numbers of a line are. -/
def wf25 (x : S25) : Prop := ((Lit.int .i64 x.f0).wf = true ∧ (Lit.int .i64 x.f1).wf = true ∧ (Lit.int .i64 x.f2).wf = true) ∧ (∀ n ∈ x.f3, (Lit.int .i64 n).wf = true) ∧ (∀ r ∈ x.f4, ∀ n ∈ r, (Lit.int .i64 n).wf = true) ∧ (∀ n ∈ x.f5, (Lit.int .i64 n).wf = true) ∧ (∀ n ∈ x.f6, (Lit.int .i64 n).wf = true)

set_option maxRecDepth 100000 in
theorem opens_line {H : Type} (enc : TypeId × Value → H) (W : World) : Opens enc Tryd.prog W 25 k25 wf25 := by
  intro fuel cs x h
  obtain ⟨xs, n, _, _, hl, hx, hf⟩ := DataW.trod_struct Tryd.underlying25 h
  have c25 : Tryd.prog.cellsOf 25 = 7 := by kernel_rfl
  have c3 : Tryd.prog.cellsOf 3 = 1 := by kernel_rfl
  have c22 : Tryd.prog.cellsOf 22 = 1 := by kernel_rfl
  rw [c25] at hl
  match xs, hx with
  | [x0, x1, x2, x3, x4, x5, x6], _ =>
  match cs, hl with
  | [v0, v1, v2, v3, v4, v5, v6], _ =>
    have c23 : Tryd.prog.cellsOf 23 = 1 := by kernel_rfl
    have h0 := hf 0 _ rfl
    have h1 := hf 1 _ rfl
    have h2 := hf 2 _ rfl
    have h3 := hf 3 _ rfl
    have h4 := hf 4 _ rfl
    have h5 := hf 5 _ rfl
    have h6 := hf 6 _ rfl
    simp [c3, c22, c23] at h0 h1 h2 h3 h4 h5 h6
    obtain ⟨n0, e0, w0⟩ := opens_i enc W _ _ _ h0
    obtain ⟨n1, e1, w1⟩ := opens_i enc W _ _ _ h1
    obtain ⟨n2, e2, w2⟩ := opens_i enc W _ _ _ h2
    obtain ⟨l3, e3, w3⟩ := opens_is enc W _ _ _ h3
    obtain ⟨l4, e4, w4⟩ := opens_slice 22 Tryd.underlying23 (opens_is enc W) (by kernel_rfl) _ _ _ h4
    obtain ⟨l5, e5, w5⟩ := opens_is enc W _ _ _ h5
    obtain ⟨l6, e6, w6⟩ := opens_is enc W _ _ _ h6
    exact ⟨⟨n0, n1, n2, l3, l4, l5, l6⟩, ⟨[v0], [v1, v2, v3, v4, v5, v6], rfl, e0, ⟨[v1], [v2, v3, v4, v5, v6], rfl, e1, ⟨[v2], [v3, v4, v5, v6], rfl, e2, ⟨[v3], [v4, v5, v6], rfl, e3, ⟨[v4], [v5, v6], rfl, e4, ⟨[v5], [v6], rfl, e5, e6⟩⟩⟩⟩⟩⟩, ⟨w0, w1, w2⟩, w3, w4, w5, w6⟩
/-- A piece: two numbers. -/
def wf69 (x : S69) : Prop := (Lit.int .i64 x.f0).wf = true ∧ (Lit.int .i64 x.f1).wf = true
set_option maxRecDepth 100000 in
theorem opens_piece {H : Type} (enc : TypeId × Value → H) (W : World) : Opens enc Tryd.prog W 69 k69 wf69 := by
  intro fuel cs x h
  obtain ⟨xs, n, _, _, hl, hx, hf⟩ := DataW.trod_struct Tryd.underlying69 h
  have c69 : Tryd.prog.cellsOf 69 = 2 := by kernel_rfl
  have c3 : Tryd.prog.cellsOf 3 = 1 := by kernel_rfl
  rw [c69] at hl
  match xs, hx with
  | [x0, x1], _ =>
  match cs, hl with
  | [v0, v1], _ =>
    have h0 := hf 0 _ rfl
    have h1 := hf 1 _ rfl
    simp [c3] at h0 h1
    obtain ⟨n0, e0, w0⟩ := opens_i enc W _ _ _ h0
    obtain ⟨n1, e1, w1⟩ := opens_i enc W _ _ _ h1
    exact ⟨⟨n0, n1⟩, ⟨[v0], [v1], rfl, e0, e1⟩, w0, w1⟩
/-- An argument that is a struct of one kind. -/
theorem open_struct {H : Type} {enc : TypeId × Value → H} {P : Program} {W : World} {base : Nat} {t : TypeId} {fs : Array Field} {α : Type} {d : Kd α} {wf : α → Prop} {v : Value} {dd : DataW H} {p : List MemPlace} (hu : P.underlying t = some (.struct fs)) (ho : Opens enc P W t d wf)
    (hv : Value.okWide P W .any base t v) (h : DataW.Trod enc P W 0 (fun _ => true) true t v dd p) : ∃ x cs, v = .agg cs ∧ d.K W x cs.toList ∧ wf x := by
  obtain ⟨cs, rfl, _⟩ := Go.WideShapes.okWide_struct hu hv
  obtain ⟨fuel, h⟩ := h
  obtain ⟨x, h1, h2⟩ := ho _ _ _ h
  exact ⟨x, cs, rfl, h1, h2⟩
/-- An argument that is a row. -/
theorem open_rowarg {H : Type} {enc : TypeId × Value → H} {P : Program} {W : World} {base : Nat} {t e : TypeId} {α : Type} [Inhabited α] {d : Kd α} {wf : α → Prop} {v : Value} {dd : DataW H} {p : List MemPlace} (hu : P.underlying t = some (.slice e)) (ho : Opens enc P W e d wf) (hz : P.cellsOf e = d.sz)
    (hv : Value.okWide P W .any base t v) (h : DataW.Trod enc P W 0 (fun _ => true) true t v dd p) : ∃ (A : Option Addr) (xs : List α) (c : Nat), v = .slice A xs.length c ∧ xs.length ≤ c ∧ c ≤ 9223372036854775807 ∧ d.C W A xs.length xs ∧ ∀ y ∈ xs, wf y := by
  obtain ⟨a, l, c, rfl⟩ := Go.WideShapes.okWide_slice hu hv
  obtain ⟨fuel, h⟩ := h
  obtain ⟨A, xs, c', e, r⟩ := open_row hu ho hz h
  exact ⟨A, xs, c', by simpa [Value.cells] using e, r⟩
instance : Inhabited S69 := ⟨⟨0, 0⟩⟩
theorem lt_of_trod {H : Type} {enc : TypeId × Value → H} {P : Program} {W : World} {t : TypeId} {v : Value} {dd : DataW H} {p : List MemPlace} (h : DataW.Trod enc P W 0 (fun _ => true) true t v dd p) : ∀ x ∈ p, x.block < W.heap.size := by
  obtain ⟨m, hm⟩ := h
  exact DataW.trod_lt m _ _ _ hm
theorem own : ownKnob Tryd.prog.godebug = none := by kernel_rfl
theorem laidOut : laidOutB Tryd.prog = true := by kernel_rfl
end Go.Proofs.YtoaicheopcojoaaDoor.P
