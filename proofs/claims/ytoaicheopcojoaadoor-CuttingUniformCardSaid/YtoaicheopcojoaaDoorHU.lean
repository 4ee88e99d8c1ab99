import Derived.Test.YtoaicheopcojoaaDoorHC1
import Derived.Test.YtoaicheopcojoaaDoorF30
import Derived.Test.YtoaicheopcojoaaDoorF31
import Derived.Test.YtoaicheopcojoaaDoorF32
namespace Go.Proofs.YtoaicheopcojoaaDoor.P
open Go.RowKit Go.Proofs.YtoaicheopcojoaaDoorW.PrintWords Go.Proofs.YtoaicheopcojoaaDoorW.PrintLast Go.Proofs.YtoaicheopcojoaaDoorW.PrintMore
set_option linter.unusedVariables false
set_option linter.unusedSimpArgs false

/-! Uniform's plain law: both answer the same line, or the same error. -/
abbrev LineR := Int × Int × Int × List Int × (List (List Int)) × List Int × List Int × Int
def errU (t : Int) : LineR := (0, 0, 0, [], [], [], [], t)
def finU (len kerf pitch : Int) (sizes : List Int) (gain : List (List Int)) (chip dust : List Int) : LineR :=
  if checkL len kerf pitch sizes gain chip dust = 0 then (len, kerf, pitch, sizes, gain, chip, dust, 0) else errU (checkL len kerf pitch sizes gain chip dust)
def rowsU (len : Int) (sizes gains : List Int) : List (List Int) := List.zipWith (fun s g => List.replicate (len - s + 1).toNat g) sizes gains
def uniL (len kerf pitch : Int) (sizes gains : List Int) (chip dust : Int) : LineR :=
  if sizes.length = gains.length then
    if headL len kerf pitch sizes = 0 then finU len kerf pitch sizes (rowsU len sizes gains) (List.replicate len.toNat chip) (List.replicate len.toNat dust) else errU (headL len kerf pitch sizes)
  else errU 19

theorem fill_l0 (v : Int) (n : Nat) (hn : n < 1000000000000000000) : ∀ j i : Nat, i + j = n → Ev (fun k => cutting_Uniform_1.l0 k v (List.replicate i v ++ List.replicate j 0) (n : Int) (i : Int)) (List.replicate n v)
  | 0, i, h => by
    refine Ev.step (f := fun _ => some (List.replicate n v)) (fun k => ?_) (Ev.now _)
    rw [cutting_Uniform_1.l0, if_neg (by omega)]
    obtain rfl : i = n := by omega
    simp
  | j + 1, i, h => by
    refine Ev.step (fun k => ?_) (fill_l0 v n hn j (i + 1) (by omega))
    rw [cutting_Uniform_1.l0, if_pos (by omega), if_pos (by omega), if_pos (by simp; omega), wr1 i n (by omega) hn]
    congr 1
    rw [Int.toNat_natCast, List.set_append_right _ _ (by simp), List.length_replicate, Nat.sub_self, List.replicate_succ, List.set_cons_zero, List.replicate_succ', List.append_assoc]
    rfl
theorem fill_ev (n v : Int) (hn : n < 1000000) : Ev (fun k => cutting_Uniform_1.f k n v) (List.replicate n.toNat v) := by
  have e : (mx 0 n : Int).toNat = n.toNat := by unfold mx; split <;> omega
  have h0 : 0 ≤ mx 0 n := by unfold mx; split <;> omega
  have hm := fill_l0 v n.toNat (by omega) n.toNat 0 (by omega)
  unfold cutting_Uniform_1.f
  refine Ev.congr (fun k => by rw [if_pos h0, e, if_pos (by omega), Option.bind_some, List.length_replicate]) ?_
  simpa using hm
theorem fin_ev (len kerf pitch : Int) (sizes : List Int) (gain : List (List Int)) (chip dust : List Int) :
    Ev (fun k => (cutting_Check.f k len kerf pitch sizes gain chip dust).bind fun t144 => (if t144 = 0 then (some ((len, kerf, pitch, sizes, gain, chip, dust, 0) : LineR)) else (some (0, 0, 0, ([] : List Int), ([] : List (List Int)), ([] : List Int), ([] : List Int), t144)))) (finU len kerf pitch sizes gain chip dust) := by
  refine Ev.bind (check_ev len kerf pitch sizes gain chip dust) ?_
  unfold finU
  by_cases h : checkL len kerf pitch sizes gain chip dust = 0
  · simp only [h, if_true]
    exact Ev.now _
  · simp only [h, if_false]
    exact Ev.now _
theorem rowsU_take (len : Int) (sizes gains : List Int) (i : Nat) (h : i < sizes.length) (h' : i < gains.length) : (rowsU len sizes gains).take i ++ [List.replicate (len - rd sizes i + 1).toNat (rd gains i)] = (rowsU len sizes gains).take (i + 1) := by
  have hl : i < (rowsU len sizes gains).length := by simp [rowsU]; omega
  rw [List.take_succ_eq_append_getElem hl]
  congr 2
  simp [rowsU, rd_eq _ _ h, rd_eq _ _ h']
theorem uni_l0 (len kerf pitch : Int) (sizes gains : List Int) (chip dust : Int) (h0 : 0 ≤ len) (h1 : len ≤ 2000) (hs : sizes.length ≤ 40) (hg : sizes.length = gains.length) (hok : sizes.all okS = true) :
    ∀ j i : Nat, i + j = sizes.length → Ev (fun k => cutting_Uniform.l0 k len gains chip dust sizes (sizes.length : Int) (i : Int) len kerf pitch sizes ((rowsU len sizes gains).take i)) (finU len kerf pitch sizes (rowsU len sizes gains) (List.replicate len.toNat chip) (List.replicate len.toNat dust))
  | 0, i, h => by
    have hl : (rowsU len sizes gains).length = sizes.length := by simp [rowsU]; omega
    have e : (rowsU len sizes gains).take i = rowsU len sizes gains := List.take_of_length_le (by omega)
    rw [e]
    refine Ev.step (fun k => by rw [cutting_Uniform.l0, if_neg (by omega)]) ?_
    refine Ev.bind (fill_ev len chip (by omega)) ?_
    refine Ev.bind (fill_ev len dust (by omega)) ?_
    exact fin_ev _ _ _ _ _ _ _
  | j + 1, i, h => by
    have hi : i < sizes.length := by omega
    have hq : okS (rd sizes i) = true := by rw [rd_eq _ _ hi]; exact List.all_eq_true.mp hok _ (List.getElem_mem _)
    simp only [okS, Bool.and_eq_true, decide_eq_true_eq] at hq
    have hw : wrap64 (wrap64 (len - rd sizes i) + 1) = len - rd sizes i + 1 := by
      rw [IntWalk.wrap64_in (len - rd sizes i) (by omega), IntWalk.wrap64_in _ (by omega)]
    refine Ev.step (fun k => by rw [cutting_Uniform.l0, if_pos (by omega), if_pos (by omega), if_pos (by omega), if_pos (by omega), hw, wr1 _ _ hi (by omega)]) ?_
    refine Ev.bind (fill_ev _ _ (by omega)) ?_
    rw [rowsU_take len sizes gains i hi (by omega)]
    refine Ev.congr (fun k => if_pos (by simp [rowsU]; omega)) ?_
    exact uni_l0 len kerf pitch sizes gains chip dust h0 h1 hs hg hok j (i + 1) (by omega)
theorem uni_ev (len kerf pitch : Int) (sizes gains : List Int) (chip dust : Int) (hs : sizes.length ≤ 40) : Ev (fun k => sawmilllaw17_uniform.f k len kerf pitch sizes gains chip dust) (uniL len kerf pitch sizes gains chip dust) := by
  have key : Ev (fun k => cutting_Uniform.f k len kerf pitch sizes gains chip dust) (uniL len kerf pitch sizes gains chip dust) := by
    unfold cutting_Uniform.f uniL
    by_cases hg : sizes.length = gains.length
    · rw [if_pos hg]
      refine Ev.congr (fun k => by rw [if_pos (by omega), if_pos (by simp; omega), Option.bind_some, List.nil_append]) ?_
      refine Ev.bind (head_ev len kerf pitch sizes [] [] []) ?_
      by_cases h0 : headL len kerf pitch sizes = 0
      · simp only [h0, if_true]
        obtain ⟨k1, k2, k3, k4, k5, k6, k7, k8⟩ := headL_zero h0
        exact uni_l0 len kerf pitch sizes gains chip dust k1 k2 hs hg k8 sizes.length 0 (by omega)
      · simp only [h0, if_false]
        exact Ev.now _
    · rw [if_neg hg]
      exact Ev.congr (fun k => if_neg (by omega)) (Ev.now _)
  unfold sawmilllaw17_uniform.f
  refine Ev.bind key ?_
  exact Ev.now _

/-! The specification's Uniform. -/
theorem rfin_ev (len kerf pitch : Int) (sizes : List Int) (gain : List (List Int)) (chip dust : List Int) :
    Ev (fun k => (sawmillref17_Check.f k len kerf pitch sizes gain chip dust).bind fun t144 => (if t144 = 0 then (some ((len, kerf, pitch, sizes, gain, chip, dust, 0) : LineR)) else (some (0, 0, 0, ([] : List Int), ([] : List (List Int)), ([] : List Int), ([] : List Int), t144)))) (finU len kerf pitch sizes gain chip dust) := by
  refine Ev.bind (rcheck_ev len kerf pitch sizes gain chip dust) ?_
  unfold finU
  by_cases h : checkL len kerf pitch sizes gain chip dust = 0
  · simp only [h, if_true]
    exact Ev.now _
  · simp only [h, if_false]
    exact Ev.now _
def clampS (s : Int) : Int := mx 1 (mn s 2000)
theorem clampS_le (s : Int) : 1 ≤ clampS s ∧ clampS s ≤ 2000 := by unfold clampS mx mn; split <;> split at * <;> omega
section
variable (len kerf pitch : Int) (sizes gains : List Int) (chip dust : List Int)
theorem run_l2 (h0 : 0 ≤ len) (h1 : len ≤ 2000) (hs : sizes.length ≤ 40) (hg : sizes.length = gains.length) (i : Nat) (hi : i < sizes.length) (acc : List (List Int)) (ha : acc.length ≤ 40) (res : LineR)
    (E : Ev (fun k => sawmillref17_Uniform.l1 k len sizes gains ((i + 1 : Nat) : Int) len kerf pitch sizes (acc ++ [List.replicate (len - clampS (rd sizes i) + 1).toNat (rd gains i)]) chip dust) res) :
    ∀ j p : Nat, p + j = (len - clampS (rd sizes i) + 1).toNat → Ev (fun k => sawmillref17_Uniform.l2 k len sizes gains (i : Int) (List.replicate p (rd gains i)) (p : Int) len kerf pitch sizes acc chip dust) res
  | 0, p, h => by
    have hc := clampS_le (rd sizes i)
    have hw : wrap64 (wrap64 (len - mx 1 (mn (rd sizes i) 2000)) + 1) = len - clampS (rd sizes i) + 1 := by
      rw [show mx 1 (mn (rd sizes i) 2000) = clampS (rd sizes i) from rfl, IntWalk.wrap64_in (len - clampS (rd sizes i)) (by omega), IntWalk.wrap64_in _ (by omega)]
    obtain rfl : p = (len - clampS (rd sizes i) + 1).toNat := by omega
    refine Ev.step (fun k => ?_) E
    rw [sawmillref17_Uniform.l2, if_pos (by omega), if_pos (by omega), hw, if_neg (by omega), if_pos (by omega), wr1 i sizes.length hi (by omega)]
  | j + 1, p, h => by
    have hc := clampS_le (rd sizes i)
    have hw : wrap64 (wrap64 (len - mx 1 (mn (rd sizes i) 2000)) + 1) = len - clampS (rd sizes i) + 1 := by
      rw [show mx 1 (mn (rd sizes i) 2000) = clampS (rd sizes i) from rfl, IntWalk.wrap64_in (len - clampS (rd sizes i)) (by omega), IntWalk.wrap64_in _ (by omega)]
    refine Ev.step (fun k => ?_) (run_l2 h0 h1 hs hg i hi acc ha res E j (p + 1) (by omega))
    rw [sawmillref17_Uniform.l2, if_pos (by omega), if_pos (by omega), hw, if_pos (by omega), if_pos (by omega), if_pos (by simp; omega), wr1 p 3000 (by omega) (by omega), List.replicate_succ']
def rowsR : List (List Int) := List.zipWith (fun s g => List.replicate (len - clampS s + 1).toNat g) sizes gains
theorem rowsR_take (i : Nat) (h : i < sizes.length) (h' : i < gains.length) : (rowsR len sizes gains).take i ++ [List.replicate (len - clampS (rd sizes i) + 1).toNat (rd gains i)] = (rowsR len sizes gains).take (i + 1) := by
  have hl : i < (rowsR len sizes gains).length := by simp [rowsR]; omega
  rw [List.take_succ_eq_append_getElem hl]
  congr 2
  simp [rowsR, rd_eq _ _ h, rd_eq _ _ h']
theorem run_l1 (h0 : 0 ≤ len) (h1 : len ≤ 2000) (hs : sizes.length ≤ 40) (hg : sizes.length = gains.length) :
    ∀ j i : Nat, i + j = sizes.length → Ev (fun k => sawmillref17_Uniform.l1 k len sizes gains (i : Int) len kerf pitch sizes ((rowsR len sizes gains).take i) chip dust) (finU len kerf pitch sizes (rowsR len sizes gains) chip dust)
  | 0, i, h => by
    have hl : (rowsR len sizes gains).length = sizes.length := by simp [rowsR]; omega
    have e : (rowsR len sizes gains).take i = rowsR len sizes gains := List.take_of_length_le (by omega)
    rw [e]
    refine Ev.step (fun k => by rw [sawmillref17_Uniform.l1, if_neg (by omega)]) ?_
    exact rfin_ev _ _ _ _ _ _ _
  | j + 1, i, h => by
    have hi : i < sizes.length := by omega
    refine Ev.step (fun k => by rw [sawmillref17_Uniform.l1, if_pos (by omega)]) ?_
    have E := run_l1 h0 h1 hs hg j (i + 1) (by omega)
    rw [← rowsR_take len sizes gains i hi (by omega)] at E
    have := run_l2 len kerf pitch sizes gains chip dust h0 h1 hs hg i hi ((rowsR len sizes gains).take i) (by simp [rowsR]; omega) _ E (len - clampS (rd sizes i) + 1).toNat 0 (by omega)
    simpa using this
end
theorem run_l0 (len kerf pitch : Int) (sizes gains : List Int) (chip dust : Int) (h0 : 0 ≤ len) (h1 : len ≤ 2000) (hs : sizes.length ≤ 40) (hg : sizes.length = gains.length) (n : Nat) (hn : len = n) :
    ∀ j i : Nat, i + j = n → Ev (fun k => sawmillref17_Uniform.l0 k len sizes gains chip dust (i : Int) len kerf pitch sizes (List.replicate i chip) (List.replicate i dust))
      (if 32 < sizes.length then errU (if ¬ (0 ≤ kerf ∧ kerf ≤ 20 ∧ 1 ≤ pitch ∧ pitch ≤ 2000) then 9 else 4) else finU len kerf pitch sizes (rowsR len sizes gains) (List.replicate n chip) (List.replicate n dust))
  | 0, i, h => by
    obtain rfl : i = n := by omega
    by_cases hb : 32 < sizes.length
    · rw [if_pos hb]
      refine Ev.step (f := fun _ => some (errU (if ¬ (0 ≤ kerf ∧ kerf ≤ 20 ∧ 1 ≤ pitch ∧ pitch ≤ 2000) then 9 else 4))) (fun k => ?_) (Ev.now _)
      rw [sawmillref17_Uniform.l0, if_neg (by omega), if_pos (by omega)]
      unfold sawmillref17_headless.f
      by_cases c1 : kerf < 0
      · rw [if_pos c1, if_pos (by omega)]; rfl
      rw [if_neg c1]
      by_cases c2 : kerf > 20
      · rw [if_pos c2, if_pos (by omega)]; rfl
      rw [if_neg c2]
      by_cases c3 : pitch < 1
      · rw [if_pos c3, if_pos (by omega)]; rfl
      rw [if_neg c3]
      by_cases c4 : pitch > 2000
      · rw [if_pos c4, if_pos (by omega)]; rfl
      rw [if_neg c4, if_neg (by omega)]; rfl
    · rw [if_neg hb]
      refine Ev.step (fun k => by rw [sawmillref17_Uniform.l0, if_neg (by omega), if_neg (by omega)]) ?_
      have := run_l1 len kerf pitch sizes gains (List.replicate i chip) (List.replicate i dust) h0 h1 hs hg sizes.length 0 (by omega)
      exact this
  | j + 1, i, h => by
    refine Ev.step (fun k => ?_) (run_l0 len kerf pitch sizes gains chip dust h0 h1 hs hg n hn j (i + 1) (by omega))
    rw [sawmillref17_Uniform.l0, if_pos (by omega), if_pos (by simp; omega), if_pos (by simp; omega), wr1 i 3000 (by omega) (by omega), List.replicate_succ', List.replicate_succ']
theorem rowsR_eq {len : Int} {sizes gains : List Int} (h : sizes.all okS = true) : rowsR len sizes gains = rowsU len sizes gains := by
  unfold rowsR rowsU
  induction sizes generalizing gains with
  | nil => rfl
  | cons s l ih =>
    cases gains with
    | nil => rfl
    | cons g m =>
      rw [List.all_cons, Bool.and_eq_true] at h
      have hs := h.1
      simp only [okS, Bool.and_eq_true, decide_eq_true_eq] at hs
      have : clampS s = s := by unfold clampS mx mn; split <;> split at * <;> omega
      rw [List.zipWith_cons_cons, List.zipWith_cons_cons, ih h.2, this]
theorem runi_ev (len kerf pitch : Int) (sizes gains : List Int) (chip dust : Int) (hs : sizes.length ≤ 40) : Ev (fun k => sawmillref17_Uniform.f k len kerf pitch sizes gains chip dust) (uniL len kerf pitch sizes gains chip dust) := by
  unfold sawmillref17_Uniform.f uniL
  by_cases hg : sizes.length = gains.length
  · rw [if_pos hg]
    refine Ev.congr (fun k => by rw [if_pos (by omega), Option.bind_some, if_pos (by simp; omega), Option.bind_some, List.nil_append]) ?_
    by_cases hl : 0 ≤ len ∧ len ≤ 2000
    · refine Ev.congr (fun k => by rw [if_neg (by omega), decide_eq_false (by omega)]) ?_
      refine Ev.step (fun k => by rw [sawmillref17_Uniform.j0, if_neg (by decide)]) ?_
      have := run_l0 len kerf pitch sizes gains chip dust hl.1 hl.2 hs hg len.toNat (by omega) len.toNat 0 (by omega)
      simp only [List.replicate_zero, Int.ofNat_zero] at this
      have e : (if 32 < sizes.length then errU (if ¬ (0 ≤ kerf ∧ kerf ≤ 20 ∧ 1 ≤ pitch ∧ pitch ≤ 2000) then 9 else 4) else finU len kerf pitch sizes (rowsR len sizes gains) (List.replicate len.toNat chip) (List.replicate len.toNat dust)) =
          (if headL len kerf pitch sizes = 0 then finU len kerf pitch sizes (rowsU len sizes gains) (List.replicate len.toNat chip) (List.replicate len.toNat dust) else errU (headL len kerf pitch sizes)) := by
        by_cases h0 : headL len kerf pitch sizes = 0
        · obtain ⟨k1, k2, k3, k4, k5, k6, k7, k8⟩ := headL_zero h0
          rw [if_pos h0, if_neg (by omega), rowsR_eq k8]
        · rw [if_neg h0]
          by_cases hb : 32 < sizes.length
          · rw [if_pos hb]
            congr 1
            unfold headL
            by_cases c : 0 ≤ kerf ∧ kerf ≤ 20 ∧ 1 ≤ pitch ∧ pitch ≤ 2000
            · rw [if_neg (fun h => h c), if_neg (fun h => h ⟨hl.1, hl.2, c⟩), if_pos hb]
            · rw [if_pos c, if_pos (fun h => c h.2.2)]
          · rw [if_neg hb]
            unfold finU
            have : ∀ g c d, checkL len kerf pitch sizes g c d = headL len kerf pitch sizes := by intro g c d; unfold checkL; rw [if_pos h0]
            rw [this, if_neg h0]
      rw [e] at this
      exact this
    · have hH : headL len kerf pitch sizes = 9 := by rw [headL, if_pos (fun h => hl ⟨h.1, h.2.1⟩)]
      rw [hH, if_neg (by decide)]
      have h9 : Ev (fun k => sawmillref17_Uniform.j0 k len sizes gains chip dust true len kerf pitch sizes) (errU 9) := Ev.step (f := fun _ => some (errU 9)) (fun k => by rw [sawmillref17_Uniform.j0]; rfl) (Ev.now _)
      by_cases h1 : len < 0
      · exact Ev.congr (fun k => if_pos h1) h9
      · exact Ev.congr (fun k => by rw [if_neg h1, decide_eq_true (by omega)]) h9
  · rw [if_neg hg]
    exact Ev.congr (fun k => if_neg (by omega)) (Ev.now _)

/-! SameLine of a line and itself. -/
theorem sameInts_l0 (l : List Int) (hn : l.length < 1000000000000000000) : ∀ j i : Nat, i + j = l.length → Ev (fun k => sawmillref17_sameInts.l0 k l l (i : Int)) true
  | 0, i, h => Ev.step (f := fun _ => some true) (fun k => by rw [sawmillref17_sameInts.l0, if_neg (by omega)]) (Ev.now _)
  | j + 1, i, h => by
    refine Ev.step (fun k => ?_) (sameInts_l0 l hn j (i + 1) (by omega))
    rw [sawmillref17_sameInts.l0, if_pos (by omega), if_pos (by omega), if_pos (by omega), if_pos rfl, wr1 i l.length (by omega) hn]
theorem sameInts_ev (l : List Int) (hn : l.length < 1000000000000000000) : Ev (fun k => sawmillref17_sameInts.f k l l) true := by
  unfold sawmillref17_sameInts.f
  exact Ev.congr (fun k => if_pos rfl) (sameInts_l0 l hn l.length 0 (by omega))
section
variable (len kerf pitch : Int) (sizes : List Int) (gain : List (List Int)) (chip dust : List Int)
theorem sameLine_l0 (hn : gain.length < 1000000000000000000) (hr : ∀ r ∈ gain, r.length < 1000000000000000000) : ∀ j i : Nat, i + j = gain.length → Ev (fun k => sawmillref17_SameLine.l0 k (i : Int) len kerf pitch sizes gain chip dust len kerf pitch sizes gain chip dust) true
  | 0, i, h => Ev.step (f := fun _ => some true) (fun k => by rw [sawmillref17_SameLine.l0, if_neg (by omega)]) (Ev.now _)
  | j + 1, i, h => by
    refine Ev.step (fun k => by rw [sawmillref17_SameLine.l0, if_pos (by omega), if_pos (by omega), if_pos (by omega), wr1 i gain.length (by omega) hn]) ?_
    refine Ev.bind (sameInts_ev _ (by rw [rd_L1_eq _ _ (by omega)]; exact hr _ (List.getElem_mem _))) ?_
    simp only [if_true]
    exact sameLine_l0 hn hr j (i + 1) (by omega)
theorem sameLine_ev (hs : sizes.length < 1000000000000000000) (hc : chip.length < 1000000000000000000) (hd : dust.length < 1000000000000000000) (hn : gain.length < 1000000000000000000) (hr : ∀ r ∈ gain, r.length < 1000000000000000000) :
    Ev (fun k => sawmillref17_SameLine.f k len kerf pitch sizes gain chip dust len kerf pitch sizes gain chip dust) true := by
  unfold sawmillref17_SameLine.f
  simp only [if_true]
  refine Ev.bind (sameInts_ev _ hs) ?_
  simp only [if_true]
  refine Ev.bind (sameInts_ev _ hc) ?_
  simp only [if_true]
  refine Ev.bind (sameInts_ev _ hd) ?_
  refine Ev.step (fun k => by rw [sawmillref17_SameLine.j0, if_neg (by decide)]) ?_
  exact sameLine_l0 len kerf pitch sizes gain chip dust hn hr gain.length 0 (by omega)
end
theorem uniL_same (len kerf pitch : Int) (sizes gains : List Int) (chip dust : Int) (hs : sizes.length ≤ 40) (u : LineR) (hu : u = uniL len kerf pitch sizes gains chip dust) :
    Ev (fun k => sawmillref17_SameLine.f k u.1 u.2.1 u.2.2.1 u.2.2.2.1 u.2.2.2.2.1 u.2.2.2.2.2.1 u.2.2.2.2.2.2.1 u.1 u.2.1 u.2.2.1 u.2.2.2.1 u.2.2.2.2.1 u.2.2.2.2.2.1 u.2.2.2.2.2.2.1) true := by
  have he : ∀ t, Ev (fun k => sawmillref17_SameLine.f k (errU t).1 (errU t).2.1 (errU t).2.2.1 (errU t).2.2.2.1 (errU t).2.2.2.2.1 (errU t).2.2.2.2.2.1 (errU t).2.2.2.2.2.2.1 (errU t).1 (errU t).2.1 (errU t).2.2.1 (errU t).2.2.2.1 (errU t).2.2.2.2.1 (errU t).2.2.2.2.2.1 (errU t).2.2.2.2.2.2.1) true :=
    fun t => sameLine_ev 0 0 0 [] [] [] [] (by simp) (by simp) (by simp) (by simp) (by simp)
  unfold uniL at hu
  split at hu
  · split at hu
    · rename_i h0
      obtain ⟨k1, k2, k3, k4, k5, k6, k7, k8⟩ := headL_zero h0
      unfold finU at hu
      split at hu
      · subst hu
        refine sameLine_ev _ _ _ _ _ _ _ (by simp; omega) (by simp; omega) (by simp; omega) (by simp [rowsU]; omega) ?_
        intro r hr
        simp only [rowsU] at hr
        obtain ⟨i, hi, rfl⟩ := List.getElem_of_mem hr
        rw [List.length_zipWith] at hi
        have hq := List.all_eq_true.mp k8 _ (List.getElem_mem (show i < sizes.length by omega))
        simp only [okS, Bool.and_eq_true, decide_eq_true_eq] at hq
        rw [List.getElem_zipWith, List.length_replicate]
        omega
      · subst hu; exact he _
    · subst hu; exact he _
  · subst hu; exact he _
end Go.Proofs.YtoaicheopcojoaaDoor.P
