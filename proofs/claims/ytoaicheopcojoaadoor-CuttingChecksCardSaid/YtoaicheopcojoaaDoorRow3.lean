import Derived.Test.YtoaicheopcojoaaDoorHLaid
import Derived.Test.YtoaicheopcojoaaDoorTie
import Derived.Test.YtoaicheopcojoaaDoorCards
import Derived.SevenTiedAt
namespace Go.Proofs.YtoaicheopcojoaaDoor.P
open Go.RowKit Go.ChangeShapes Go.WideShapes Go.Proofs.YtoaicheopcojoaaDoorW.PrintWords Go.Proofs.YtoaicheopcojoaaDoorW.PrintLast Go.Proofs.YtoaicheopcojoaaDoorW.PrintMore
set_option linter.unusedVariables false

/-- What the walk of a law over a line has to say. -/
def LineLaw (f : FuncId) : Prop := ∀ (a0_0 a0_1 a0_2 : Int) (A0_3 : Option Addr) (c0_3 : Nat) (l0_3 : List Int) (A0_4 : Option Addr) (c0_4 : Nat) (l0_4 : List (List Int)) (A0_5 : Option Addr) (c0_5 : Nat) (l0_5 : List Int) (A0_6 : Option Addr) (c0_6 : Nat) (l0_6 : List Int) (w : World),
  wf25 ⟨a0_0, a0_1, a0_2, l0_3, l0_4, l0_5, l0_6⟩ →
  Kd.C (Kd.int .i64) w A0_3 l0_3.length l0_3 → l0_3.length ≤ c0_3 → Kd.C (Kd.slice 3 (Kd.int .i64)) w A0_4 l0_4.length l0_4 → l0_4.length ≤ c0_4 → Kd.C (Kd.int .i64) w A0_5 l0_5.length l0_5 → l0_5.length ≤ c0_5 → Kd.C (Kd.int .i64) w A0_6 l0_6.length l0_6 → l0_6.length ≤ c0_6 →
  w.heap[0]? = some (.cells #[.int .i64 (-1), .int .i64 (-1), .int .i64 0] 97 (0, 0)) →
  Calls Tryd.prog f #[.agg #[.int .i64 a0_0, .int .i64 a0_1, .int .i64 a0_2, .slice A0_3 l0_3.length c0_3, .slice A0_4 l0_4.length c0_4, .slice A0_5 l0_5.length c0_5, .slice A0_6 l0_6.length c0_6]] w fun e w' => e = .returned (.bool true) ∧ Below w.heap.size w w'

set_option maxRecDepth 100000 in
theorem lifted3 (L : LineLaw 3) (os : Os) (started : os.Started) (H : Type) (enc : TypeId × Value → H) :
    ReturnsInHanded {} Tryd.checked os 3 .any (fun w args => (Rows.cuttingChecksSpec.pre enc Tryd.prog Tryd.f3 [] false w args ∧ laidMetH Tryd.prog theLaid w) ∧ sizedMet enc Tryd.prog Tryd.f3 (OpenSpec.ofChange Rows.cuttingChecksSpec) false w args)
      (Rows.cuttingChecksSpec.post enc Tryd.prog Tryd.f3 false true false false) := by
  refine returns_laid (C := Tryd.checked) (X := fun w _ => laidMetH Tryd.prog theLaid w) (fun _ _ _ hh h => h.of_heap hh) own started (by kernel_rfl) Tryd.func3
    (ChangeSpec.witness_shaped (enc := enc) (C := Tryd.checked) (os := os) (X := fun w _ => laidMetH Tryd.prog theLaid w) false (World.doorLaid Tryd.prog 400 os) #[.agg #[.int .i64 0, .int .i64 0, .int .i64 0, .slice none 0 0, .slice none 0 0, .slice none 0 0, .slice none 0 0]] 8 rfl (door_shaped os _) (by kernel_rfl) (by kernel_rfl) (by kernel_rfl) (door_met os _)) ?_
  intro W base args ds gs before hval0 hW _ _ hX hS _
  have hval : ∀ (j : Nat) t v, Tryd.f3.params[j]? = some t → args[j]? = some v → Value.okWide Tryd.prog W .any base t v := hval0
  have hW' := hW
  obtain ⟨p, q, hA0, hV, rfl, hfz, hnd⟩ := hW
  have hA : DataW.TrodAll enc Tryd.prog W 0 (fun _ => true) true Tryd.f3.params.toList args.toList ds p := hA0
  rw [Tryd.params3] at hA hval
  obtain ⟨v0, d0, rfl, rfl, h0⟩ := trodAll_one hA
  obtain ⟨rfl, rfl⟩ := trodVars_none hV
  have hG := of_laid hX hS
  obtain ⟨⟨a0, a1, a2, l3, l4, l5, l6⟩, cs, rfl, hK, hwf⟩ := open_struct Tryd.underlying25 (opens_line enc W) (hval 0 25 v0 rfl rfl) h0
  obtain ⟨A3, c3, A4, c4, A5, c5, A6, c6, hcs, e3, g3, e4, g4, e5, g5, e6, g6⟩ := k25_open hK
  obtain ⟨cl⟩ := cs
  simp only at hcs
  subst hcs
  clear hA0 hval0
  simp only [List.append_nil] at hW'
  refine (L a0 a1 a2 A3 c3 l3 A4 c4 l4 A5 c5 l5 A6 c6 l6 W hwf g3 e3 g4 e4 g5 e5 g6 e6 hG).mono fun e W' ⟨he, bel⟩ => ?_
  subst he
  exact ⟨_, rfl, _, _, _, [], _, [], hW', trodAll_mk1 (shut_bool Tryd.underlying4 _), trodAll_mk1 (Below.trod laidOut (by kernel_rfl) (of_decide_eq_true (by kernel_rfl)) h0 bel (lt_of_trod h0)), rfl, bel.frame _, fun h => by cases h⟩
theorem over3 (L : LineLaw 3) : Rows.CuttingChecksSaid :=
  OpenClaim.holds_of_wide 3 Tryd.f3 rfl rfl rfl rfl rfl rfl rfl ⟨rfl, rfl, rfl, rfl, rfl⟩ rfl rfl rfl rfl rfl (by kernel_rfl) Tryd.func3 (by kernel_rfl)
    (of_decide_eq_true (by kernel_rfl)) (by unfold Func.isWrapper; first | (rw [if_pos (by decide +kernel)]; kernel_rfl) | (rw [if_neg (by decide +kernel)]; exact ⟨rfl, rfl⟩))
    (fun os started H enc _ => lifted3 L os started H enc)
theorem card3 (L : LineLaw 3) : Rows.CuttingChecksCardSaid :=
  Claim7.holds_tied_plain_at .later [] [.data] true (true, "df568437ed562e3e874a2ec7138deb532c4d9c5a739b197c6dc2755ff5b8cd58") false
    (over3 L) (fun _ h => by cases h) (by kernel_rfl) (fun _ h => by cases h) cuttingChecks_row_tie rfl ⟨rfl, rfl⟩ (by kernel_rfl) rfl
    (fun f fn hf hfn => by
      obtain rfl : f = 3 := Option.some.inj ((show Tryd.prog.funcNamed "sawmill/sawmilllaw17.CuttingChecks" = some 3 by kernel_rfl).symm.trans hf) |>.symm
      obtain rfl : fn = Tryd.f3 := (Option.some.inj (Tryd.func3.symm.trans hfn)).symm
      exact ⟨by kernel_rfl, fun j t ht => by
        rw [Tryd.params3] at ht
        have hm : t ∈ [25] := by simpa using Array.mem_of_getElem? ht
        have hall : ([25].all fun u => !Tryd.prog.wantsStandIn u) = true := by kernel_rfl
        exact (show Tryd.prog.wantsStandIn t = false by simpa using List.all_eq_true.1 hall t hm)⟩)
    (by kernel_rfl)
end Go.Proofs.YtoaicheopcojoaaDoor.P
