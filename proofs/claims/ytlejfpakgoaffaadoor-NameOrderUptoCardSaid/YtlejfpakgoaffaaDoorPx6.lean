-- WRITTEN BY bud.py (a program of this session's over the kit's print). Not trusted: Lean checks it.
import Derived.Test.YtlejfpakgoaffaaDoorPx0
import Derived.Test.YtlejfpakgoaffaaDoorPx1
import Derived.Test.YtlejfpakgoaffaaDoorPx4
import Derived.Test.YtlejfpakgoaffaaDoorPx5
namespace Go.Proofs.YtlejfpakgoaffaaDoor.P
open Go.RowKit Go.Proofs.YtlejfpakgoaffaaDoorW.PrintWords Go.Proofs.YtlejfpakgoaffaaDoorW.PrintLast Go.Proofs.YtlejfpakgoaffaaDoorW.PrintMore
attribute [local go_sem] max2_int min2_int max_two min_two max_three min_three max_four min_four   -- for this text's walks alone
set_option linter.unusedVariables false
set_option linter.unusedSimpArgs false

/-! ### budwoodlaw02_NameBack: function 9 -/
mutual
def budwoodlaw02_NameBack.j0 : Nat → ByteArray → Int → Bool → Option (Bool)
  | 0, _, _, _ => none
  | k + 1, x1, x2, x46 => if x46 = true then (some false) else ((name_Join.f k x1 (Int.tmod (wrap64 (x2)) 1000)).bind fun bt218 => ((name_Split.f k bt218.1).bind fun bt220 => (if bt218.2 = 0 then (if bt220.2.2 = 0 then (if bt220.1.toList = x1.toList then (if bt220.2.1 = (Int.tmod (wrap64 (x2)) 1000) then ((budwoodlaw02_awake.f k).bind fun t223 => (some t223)) else (some false)) else (some false)) else (some false)) else (if bt218.1.toList = ([] : List UInt8) then ((budwoodlaw02_awake.f k).bind fun t224 => (some t224)) else (some false)))))
def budwoodlaw02_NameBack.j1 : Nat → ByteArray → Int → Bool → Option (Bool)
  | 0, _, _, _ => none
  | k + 1, x1, x2, x58 => if x58 = true then (some false) else ((name_Join.f k x1 (Int.tmod (wrap64 (x2)) 1000)).bind fun bt226 => ((name_Split.f k bt226.1).bind fun bt228 => (if bt226.2 = 0 then (if bt228.2.2 = 0 then (if bt228.1.toList = x1.toList then (if bt228.2.1 = (Int.tmod (wrap64 (x2)) 1000) then ((budwoodlaw02_awake.f k).bind fun t231 => (some t231)) else (some false)) else (some false)) else (some false)) else (if bt226.1.toList = ([] : List UInt8) then ((budwoodlaw02_awake.f k).bind fun t232 => (some t232)) else (some false)))))
end
def budwoodlaw02_NameBack.f (k : Nat) (a0 : ByteArray) (a1 : ByteArray) (a2 : Int) : Option (Bool) := (name_Split.f k a0).bind fun bt213 => (if bt213.2.2 = 0 then ((name_Join.f k bt213.1 bt213.2.1).bind fun bt216 => (if bt216.2 = 0 then (if bt216.1.toList = a0.toList then (if bt213.2.1 < 0 then (budwoodlaw02_NameBack.j0 k a1 a2 true) else (budwoodlaw02_NameBack.j0 k a1 a2 (decide (bt213.2.1 > 999)))) else (budwoodlaw02_NameBack.j0 k a1 a2 true)) else (budwoodlaw02_NameBack.j0 k a1 a2 true))) else (if bt213.1.toList = ([] : List UInt8) then (if bt213.2.1 = 0 then ((name_Check.f k a0).bind fun t225 => (budwoodlaw02_NameBack.j1 k a1 a2 (t225 != bt213.2.2))) else (budwoodlaw02_NameBack.j1 k a1 a2 true)) else (budwoodlaw02_NameBack.j1 k a1 a2 true)))
theorem budwoodlaw02_NameBack.mono_l : ∀ k, (∀ y0 y1 y2, LeO (budwoodlaw02_NameBack.j0 k y0 y1 y2) (budwoodlaw02_NameBack.j0 (k + 1) y0 y1 y2)) ∧ (∀ y0 y1 y2, LeO (budwoodlaw02_NameBack.j1 k y0 y1 y2) (budwoodlaw02_NameBack.j1 (k + 1) y0 y1 y2))
  | 0 => ⟨fun _ _ _ r h => by simp [budwoodlaw02_NameBack.j0] at h, fun _ _ _ r h => by simp [budwoodlaw02_NameBack.j1] at h⟩
  | k + 1 => by
    obtain ⟨ih0, ih1⟩ := budwoodlaw02_NameBack.mono_l k
    refine ⟨?_, ?_⟩
    · intro y0 y1 y2
      unfold budwoodlaw02_NameBack.j0
      repeat' first
      | (with_reducible exact ih0 _ _ _)
      | (with_reducible exact ih1 _ _ _)
      | (with_reducible exact budwoodlaw02_awake.mono _)
      | (with_reducible exact name_Check.mono _ _)
      | (with_reducible exact name_Join.mono _ _ _)
      | (with_reducible exact name_Split.mono _ _)
      | (with_reducible exact LeO.refl _)
      | (with_reducible exact LeO.none _)
      | (with_reducible refine LeO.ite ?_ ?_)
      | (with_reducible refine LeO.bind ?_ (fun _ => ?_))
      | exact ih0 _ _ _
      | exact ih1 _ _ _
      | exact budwoodlaw02_awake.mono _
      | exact name_Check.mono _ _
      | exact name_Join.mono _ _ _
      | exact name_Split.mono _ _
      | exact LeO.none _
      | refine LeO.ite ?_ ?_
      | refine LeO.bind ?_ (fun _ => ?_)
    · intro y0 y1 y2
      unfold budwoodlaw02_NameBack.j1
      repeat' first
      | (with_reducible exact ih0 _ _ _)
      | (with_reducible exact ih1 _ _ _)
      | (with_reducible exact budwoodlaw02_awake.mono _)
      | (with_reducible exact name_Check.mono _ _)
      | (with_reducible exact name_Join.mono _ _ _)
      | (with_reducible exact name_Split.mono _ _)
      | (with_reducible exact LeO.refl _)
      | (with_reducible exact LeO.none _)
      | (with_reducible refine LeO.ite ?_ ?_)
      | (with_reducible refine LeO.bind ?_ (fun _ => ?_))
      | exact ih0 _ _ _
      | exact ih1 _ _ _
      | exact budwoodlaw02_awake.mono _
      | exact name_Check.mono _ _
      | exact name_Join.mono _ _ _
      | exact name_Split.mono _ _
      | exact LeO.none _
      | refine LeO.ite ?_ ?_
      | refine LeO.bind ?_ (fun _ => ?_)
theorem budwoodlaw02_NameBack.mono : ∀ a0 a1 a2 k, LeO (budwoodlaw02_NameBack.f k a0 a1 a2) (budwoodlaw02_NameBack.f (k + 1) a0 a1 a2) := by
  intro a0 a1 a2 k
  obtain ⟨ih0, ih1⟩ := budwoodlaw02_NameBack.mono_l k
  unfold budwoodlaw02_NameBack.f
  repeat' first
      | (with_reducible exact ih0 _ _ _)
      | (with_reducible exact ih1 _ _ _)
      | (with_reducible exact budwoodlaw02_awake.mono _)
      | (with_reducible exact name_Check.mono _ _)
      | (with_reducible exact name_Join.mono _ _ _)
      | (with_reducible exact name_Split.mono _ _)
      | (with_reducible exact LeO.refl _)
      | (with_reducible exact LeO.none _)
      | (with_reducible refine LeO.ite ?_ ?_)
      | (with_reducible refine LeO.bind ?_ (fun _ => ?_))
      | exact ih0 _ _ _
      | exact ih1 _ _ _
      | exact budwoodlaw02_awake.mono _
      | exact name_Check.mono _ _
      | exact name_Join.mono _ _ _
      | exact name_Split.mono _ _
      | exact LeO.none _
      | refine LeO.ite ?_ ?_
      | refine LeO.bind ?_ (fun _ => ?_)
set_option maxHeartbeats 8000000 in
set_option maxRecDepth 100000 in
theorem budwoodlaw02_NameBack.calls (k : Nat) (a0 : ByteArray) (a1 : ByteArray) (a2 : Int) (r : Bool) (w : World) (h : budwoodlaw02_NameBack.f k a0 a1 a2 = some r) (hG_ : GlobT w) :
    Calls Tryd.prog 9 #[.string a0, .string a1, .int .u16 a2] w fun e w' => e = .returned (.bool r) ∧ Below w.heap.size w w' := by
  have HB := Aside0.mk (Below.refl w.heap.size w)
  have H : ((name_Split.f k a0).bind fun bt213 => (if bt213.2.2 = 0 then ((name_Join.f k bt213.1 bt213.2.1).bind fun bt216 => (if bt216.2 = 0 then (if bt216.1.toList = a0.toList then (if bt213.2.1 < 0 then (budwoodlaw02_NameBack.j0 k a1 a2 true) else (budwoodlaw02_NameBack.j0 k a1 a2 (decide (bt213.2.1 > 999)))) else (budwoodlaw02_NameBack.j0 k a1 a2 true)) else (budwoodlaw02_NameBack.j0 k a1 a2 true))) else (if bt213.1.toList = ([] : List UInt8) then (if bt213.2.1 = 0 then ((name_Check.f k a0).bind fun t225 => (budwoodlaw02_NameBack.j1 k a1 a2 (t225 != bt213.2.2))) else (budwoodlaw02_NameBack.j1 k a1 a2 true)) else (budwoodlaw02_NameBack.j1 k a1 a2 true)))) = some r := h
  clear h
  replace H := Option.bind_eq_some_iff.mp H
  obtain ⟨⟨t213, t214, t215⟩, A40, H⟩ := H
  replace H : (if t215 = 0 then ((name_Join.f k t213 t214).bind fun bt216 => (if bt216.2 = 0 then (if bt216.1.toList = a0.toList then (if t214 < 0 then (budwoodlaw02_NameBack.j0 k a1 a2 true) else (budwoodlaw02_NameBack.j0 k a1 a2 (decide (t214 > 999)))) else (budwoodlaw02_NameBack.j0 k a1 a2 true)) else (budwoodlaw02_NameBack.j0 k a1 a2 true))) else (if t213.toList = ([] : List UInt8) then (if t214 = 0 then ((name_Check.f k a0).bind fun t225 => (budwoodlaw02_NameBack.j1 k a1 a2 (t225 != t215))) else (budwoodlaw02_NameBack.j1 k a1 a2 true)) else (budwoodlaw02_NameBack.j1 k a1 a2 true))) = some r := H
  have A4 := Aside0.mk A40
  clear A40
  by_cases c5 : t215 = 0
  · rw [if_pos c5] at H
    have c5b0 : (t215 == 0) = true := beq_iff_eq.mpr c5
    have c5b1 : (t215 != 0) = false := bne_eq_false_iff_eq.mpr c5
    clear c5
    replace H := Option.bind_eq_some_iff.mp H
    obtain ⟨⟨t216, t217⟩, A60, H⟩ := H
    replace H : (if t217 = 0 then (if t216.toList = a0.toList then (if t214 < 0 then (budwoodlaw02_NameBack.j0 k a1 a2 true) else (budwoodlaw02_NameBack.j0 k a1 a2 (decide (t214 > 999)))) else (budwoodlaw02_NameBack.j0 k a1 a2 true)) else (budwoodlaw02_NameBack.j0 k a1 a2 true)) = some r := H
    have A6 := Aside0.mk A60
    clear A60
    have HC7 := Aside0.mk H
    clear H
    go_enter Tryd.func9, Tryd.ntmps9
    go_upto_region 4 with (first | ((with_reducible refine gate_callee (f := 16) rfl ?_); refine goesL_ (some 20) rfl rfl Tryd.func16 (by kernel_rfl) rfl #[.string a0] rfl (by (try simp only [List.map_toArray, List.map_cons, List.map_nil]); first | done | rfl | (simp only [List.length_drop, List.length_take]; rfl)) ?_; (with_reducible refine (name_Split.calls k a0 t213 t214 t215 _ A4.out ?side1).mono ?_); (case side1 => refine Glob.below (by first | exact hG_ | exact hG_.g) ?_; repeat (first | (with_reducible first | exact HB.out | apply below_alloc | apply pw_below_drewN | apply below_drew1) | exact HB.out)); rintro e w8 ⟨rfl, hb⟩; refine ⟨_, rfl, ?_⟩; have n0_ := Aside0.mk (below_step (by repeat (first | (with_reducible first | exact HB.out | apply below_alloc | apply pw_below_drewN | apply below_drew1) | exact HB.out)) hb); clear HB; have HB := n0_; clear n0_; (try clear hb); (try clear hb2); (try clear hk); (try clear hi)) | ((with_reducible refine gate_callee (f := 22) rfl ?_); refine goesL_ (some 29) rfl rfl Tryd.func22 (by kernel_rfl) rfl #[.string t213, .int .i64 t214] rfl (by (try simp only [List.map_toArray, List.map_cons, List.map_nil]); first | done | rfl | (simp only [List.length_drop, List.length_take]; rfl)) ?_; (with_reducible refine (name_Join.calls k t213 t214 t216 t217 _ A6.out ?side1).mono ?_); (case side1 => refine GlobT.below (by first | exact hG_ | exact hG_.g) ?_; repeat (first | (with_reducible first | exact HB.out | apply below_alloc | apply pw_below_drewN | apply below_drew1) | exact HB.out)); rintro e w9 ⟨rfl, hb⟩; refine ⟨_, rfl, ?_⟩; have n0_ := Aside0.mk (below_step (by repeat (first | (with_reducible first | exact HB.out | apply below_alloc | apply pw_below_drewN | apply below_drew1) | exact HB.out)) hb); clear HB; have HB := n0_; clear n0_; (try clear hb); (try clear hb2); (try clear hk); (try clear hi)))
    (try simp only [Act.put, List.setIfInBounds_toArray, List.set_cons_zero, List.set_cons_succ])
    go_cut [46] (fun v46 wc => ∃ (kq : Nat) (x46_6 : Bool), v46 = .bool x46_6 ∧ Aside0 (budwoodlaw02_NameBack.j0 kq a1 a2 x46_6 = some r) ∧ Aside0 (kq ≤ k) ∧ Aside0 (Below w.heap.size w wc))
    case first =>
      have H := HC7.out
      clear HC7
      by_cases c10 : t217 = 0
      · rw [if_pos c10] at H
        have c10b0 : (t217 == 0) = true := beq_iff_eq.mpr c10
        have c10b1 : (t217 != 0) = false := bne_eq_false_iff_eq.mpr c10
        clear c10
        (first | rw [c10b0] | (simp only [i64_w, i32_w]; rw [c10b0]) | skip)
        by_cases c11 : t216.toList = a0.toList
        · rw [if_pos c11] at H
          have c11b0 : (t216.toList == a0.toList) = true := beq_iff_eq.mpr c11
          have c11b1 : (t216.toList != a0.toList) = false := bne_eq_false_iff_eq.mpr c11
          clear c11
          by_cases c12 : t214 < 0
          · rw [if_pos c12] at H
            have c12b0 : decide (t214 < 0) = true := decide_eq_true c12
            clear c12
            have H' := Aside0.mk H
            clear H
            go_wp2
            go_meet
            case rel => exact ⟨_, (true), (by first | rfl | (simp; done) | (simp [*]; done)), H', ⟨by first | omega | exact Nat.le_refl _⟩, ⟨by repeat (first | (with_reducible first | exact HB.out | apply below_alloc | apply pw_below_drewN | apply below_drew1) | exact HB.out)⟩⟩
          · rw [if_neg c12] at H
            have c12b0 : decide (t214 < 0) = false := decide_eq_false c12
            clear c12
            have H' := Aside0.mk H
            clear H
            go_wp2
            go_meet
            case rel => exact ⟨_, (decide (t214 > 999)), (by first | rfl | (simp; done) | (simp [*]; done)), H', ⟨by first | omega | exact Nat.le_refl _⟩, ⟨by repeat (first | (with_reducible first | exact HB.out | apply below_alloc | apply pw_below_drewN | apply below_drew1) | exact HB.out)⟩⟩
        · rw [if_neg c11] at H
          have c11b0 : (t216.toList == a0.toList) = false := beq_eq_false_iff_ne.mpr c11
          have c11b1 : (t216.toList != a0.toList) = true := bne_iff_ne.mpr c11
          have H' := Aside0.mk H
          clear H
          go_wp2
          go_meet
          case rel => exact ⟨_, (true), (by first | rfl | (simp; done) | (simp [*]; done)), H', ⟨by first | omega | exact Nat.le_refl _⟩, ⟨by repeat (first | (with_reducible first | exact HB.out | apply below_alloc | apply pw_below_drewN | apply below_drew1) | exact HB.out)⟩⟩
      · rw [if_neg c10] at H
        have c10b0 : (t217 == 0) = false := beq_eq_false_iff_ne.mpr c10
        have c10b1 : (t217 != 0) = true := bne_iff_ne.mpr c10
        (first | rw [c10b0] | (simp only [i64_w, i32_w]; rw [c10b0]) | skip)
        have H' := Aside0.mk H
        clear H
        go_wp2
        go_meet
        case rel => exact ⟨_, (true), (by first | rfl | (simp; done) | (simp [*]; done)), H', ⟨by first | omega | exact Nat.le_refl _⟩, ⟨by repeat (first | (with_reducible first | exact HB.out | apply below_alloc | apply pw_below_drewN | apply below_drew1) | exact HB.out)⟩⟩
    case rest =>
      clear HC7
      try clear c1
      try clear c2
      try clear p2
      try clear c5
      try clear c5b0
      try clear c5b1
      try clear c9
      try clear c10
      try clear c10b0
      try clear c10b1
      try clear c11
      try clear c11b0
      try clear c11b1
      try clear c12
      try clear c12b0
      obtain ⟨kq, x46_6, rfl, HA, HJ6, HB⟩ := hcut
      cases kq with
      | zero => exact absurd HA.out (by simp [budwoodlaw02_NameBack.j0])
      | succ kj6 =>
        have H := HA.out
        clear HA
        simp only [budwoodlaw02_NameBack.j0] at H
        by_cases c13 : x46_6 = true
        · subst c13
          have H1 : (some false) = some r := by rw [if_pos rfl] at H; exact H
          clear H
          have H := H1
          clear H1
          obtain rfl := Option.some.inj H
          go_wp2
          go_ret
          exact ⟨by first | rfl | (simp [errW_none, errW_some] <;> rfl) | (simp [*, errW_none, errW_some] <;> rfl), by repeat (first | (with_reducible first | exact HB.out | apply below_alloc | apply pw_below_drewN | apply below_drew1) | exact HB.out)⟩
        · replace c13 := Bool.eq_false_iff.mpr c13
          subst c13
          have H1 : ((name_Join.f kj6 a1 (Int.tmod (wrap64 (a2)) 1000)).bind fun bt218 => ((name_Split.f kj6 bt218.1).bind fun bt220 => (if bt218.2 = 0 then (if bt220.2.2 = 0 then (if bt220.1.toList = a1.toList then (if bt220.2.1 = (Int.tmod (wrap64 (a2)) 1000) then ((budwoodlaw02_awake.f kj6).bind fun t223 => (some t223)) else (some false)) else (some false)) else (some false)) else (if bt218.1.toList = ([] : List UInt8) then ((budwoodlaw02_awake.f kj6).bind fun t224 => (some t224)) else (some false))))) = some r := by rw [if_neg (show ¬ (false = true) by decide)] at H; exact H
          clear H
          have H := H1
          clear H1
          replace H := Option.bind_eq_some_iff.mp H
          obtain ⟨⟨t218, t219⟩, A140, H⟩ := H
          replace H : ((name_Split.f kj6 t218).bind fun bt220 => (if t219 = 0 then (if bt220.2.2 = 0 then (if bt220.1.toList = a1.toList then (if bt220.2.1 = (Int.tmod (wrap64 (a2)) 1000) then ((budwoodlaw02_awake.f kj6).bind fun t223 => (some t223)) else (some false)) else (some false)) else (some false)) else (if t218.toList = ([] : List UInt8) then ((budwoodlaw02_awake.f kj6).bind fun t224 => (some t224)) else (some false)))) = some r := H
          have A14 := Aside0.mk A140
          clear A140
          replace H := Option.bind_eq_some_iff.mp H
          obtain ⟨⟨t220, t221, t222⟩, A150, H⟩ := H
          replace H : (if t219 = 0 then (if t222 = 0 then (if t220.toList = a1.toList then (if t221 = (Int.tmod (wrap64 (a2)) 1000) then ((budwoodlaw02_awake.f kj6).bind fun t223 => (some t223)) else (some false)) else (some false)) else (some false)) else (if t218.toList = ([] : List UInt8) then ((budwoodlaw02_awake.f kj6).bind fun t224 => (some t224)) else (some false))) = some r := H
          have A15 := Aside0.mk A150
          clear A150
          by_cases c16 : t219 = 0
          · rw [if_pos c16] at H
            have c16b0 : (t219 == 0) = true := beq_iff_eq.mpr c16
            have c16b1 : (t219 != 0) = false := bne_eq_false_iff_eq.mpr c16
            clear c16
            by_cases c17 : t222 = 0
            · rw [if_pos c17] at H
              have c17b0 : (t222 == 0) = true := beq_iff_eq.mpr c17
              have c17b1 : (t222 != 0) = false := bne_eq_false_iff_eq.mpr c17
              clear c17
              by_cases c18 : t220.toList = a1.toList
              · rw [if_pos c18] at H
                have c18b0 : (t220.toList == a1.toList) = true := beq_iff_eq.mpr c18
                have c18b1 : (t220.toList != a1.toList) = false := bne_eq_false_iff_eq.mpr c18
                clear c18
                by_cases c19 : t221 = (Int.tmod (wrap64 (a2)) 1000)
                · rw [if_pos c19] at H
                  have c19b0 : (t221 == (Int.tmod (wrap64 (a2)) 1000)) = true := beq_iff_eq.mpr c19
                  have c19b1 : (t221 != (Int.tmod (wrap64 (a2)) 1000)) = false := bne_eq_false_iff_eq.mpr c19
                  clear c19
                  replace H := Option.bind_eq_some_iff.mp H
                  obtain ⟨t223, A200, H⟩ := H
                  replace H : (some t223) = some r := H
                  have A20 := Aside0.mk A200
                  clear A200
                  obtain rfl := Option.some.inj H
                  go_wp2_with (first | ((with_reducible refine gate_callee (f := 22) rfl ?_); refine goesL_ (some 65) rfl rfl Tryd.func22 (by kernel_rfl) rfl #[.string a1, .int .i64 (Int.tmod (wrap64 (a2)) 1000)] rfl (by (try simp only [List.map_toArray, List.map_cons, List.map_nil]); first | done | rfl | (simp only [List.length_drop, List.length_take]; rfl)) ?_; (with_reducible refine (name_Join.calls kj6 a1 (Int.tmod (wrap64 (a2)) 1000) t218 t219 _ A14.out ?side1).mono ?_); (case side1 => refine GlobT.below (by first | exact hG_ | exact hG_.g) ?_; repeat (first | (with_reducible first | exact HB.out | apply below_alloc | apply pw_below_drewN | apply below_drew1) | exact HB.out)); rintro e w21 ⟨rfl, hb⟩; refine ⟨_, rfl, ?_⟩; have n0_ := Aside0.mk (below_step (by repeat (first | (with_reducible first | exact HB.out | apply below_alloc | apply pw_below_drewN | apply below_drew1) | exact HB.out)) hb); clear HB; have HB := n0_; clear n0_; (try clear hb); (try clear hb2); (try clear hk); (try clear hi)) | ((with_reducible refine gate_callee (f := 16) rfl ?_); refine goesL_ (some 70) rfl rfl Tryd.func16 (by kernel_rfl) rfl #[.string t218] rfl (by (try simp only [List.map_toArray, List.map_cons, List.map_nil]); first | done | rfl | (simp only [List.length_drop, List.length_take]; rfl)) ?_; (with_reducible refine (name_Split.calls kj6 t218 t220 t221 t222 _ A15.out ?side1).mono ?_); (case side1 => refine Glob.below (by first | exact hG_ | exact hG_.g) ?_; repeat (first | (with_reducible first | exact HB.out | apply below_alloc | apply pw_below_drewN | apply below_drew1) | exact HB.out)); rintro e w22 ⟨rfl, hb⟩; refine ⟨_, rfl, ?_⟩; have n0_ := Aside0.mk (below_step (by repeat (first | (with_reducible first | exact HB.out | apply below_alloc | apply pw_below_drewN | apply below_drew1) | exact HB.out)) hb); clear HB; have HB := n0_; clear n0_; (try clear hb); (try clear hb2); (try clear hk); (try clear hi)) | (go_at_call 15; (with_reducible refine (budwoodlaw02_awake.calls kj6  t223 _ A20.out ?side1).mono ?_); (case side1 => refine Glob.below (by first | exact hG_ | exact hG_.g) ?_; repeat (first | (with_reducible first | exact HB.out | apply below_alloc | apply pw_below_drewN | apply below_drew1) | exact HB.out)); rintro e w23 ⟨rfl, hb⟩; have n0_ := Aside0.mk (below_step (by repeat (first | (with_reducible first | exact HB.out | apply below_alloc | apply pw_below_drewN | apply below_drew1) | exact HB.out)) hb); clear HB; have HB := n0_; clear n0_; (try clear hb); (try clear hb2); (try clear hk); (try clear hi)))
                  go_ret
                  exact ⟨by first | rfl | (simp [errW_none, errW_some] <;> rfl) | (simp [*, errW_none, errW_some] <;> rfl), by repeat (first | (with_reducible first | exact HB.out | apply below_alloc | apply pw_below_drewN | apply below_drew1) | exact HB.out)⟩
                · rw [if_neg c19] at H
                  have c19b0 : (t221 == (Int.tmod (wrap64 (a2)) 1000)) = false := beq_eq_false_iff_ne.mpr c19
                  have c19b1 : (t221 != (Int.tmod (wrap64 (a2)) 1000)) = true := bne_iff_ne.mpr c19
                  obtain rfl := Option.some.inj H
                  go_wp2_with (first | ((with_reducible refine gate_callee (f := 22) rfl ?_); refine goesL_ (some 65) rfl rfl Tryd.func22 (by kernel_rfl) rfl #[.string a1, .int .i64 (Int.tmod (wrap64 (a2)) 1000)] rfl (by (try simp only [List.map_toArray, List.map_cons, List.map_nil]); first | done | rfl | (simp only [List.length_drop, List.length_take]; rfl)) ?_; (with_reducible refine (name_Join.calls kj6 a1 (Int.tmod (wrap64 (a2)) 1000) t218 t219 _ A14.out ?side1).mono ?_); (case side1 => refine GlobT.below (by first | exact hG_ | exact hG_.g) ?_; repeat (first | (with_reducible first | exact HB.out | apply below_alloc | apply pw_below_drewN | apply below_drew1) | exact HB.out)); rintro e w24 ⟨rfl, hb⟩; refine ⟨_, rfl, ?_⟩; have n0_ := Aside0.mk (below_step (by repeat (first | (with_reducible first | exact HB.out | apply below_alloc | apply pw_below_drewN | apply below_drew1) | exact HB.out)) hb); clear HB; have HB := n0_; clear n0_; (try clear hb); (try clear hb2); (try clear hk); (try clear hi)) | ((with_reducible refine gate_callee (f := 16) rfl ?_); refine goesL_ (some 70) rfl rfl Tryd.func16 (by kernel_rfl) rfl #[.string t218] rfl (by (try simp only [List.map_toArray, List.map_cons, List.map_nil]); first | done | rfl | (simp only [List.length_drop, List.length_take]; rfl)) ?_; (with_reducible refine (name_Split.calls kj6 t218 t220 t221 t222 _ A15.out ?side1).mono ?_); (case side1 => refine Glob.below (by first | exact hG_ | exact hG_.g) ?_; repeat (first | (with_reducible first | exact HB.out | apply below_alloc | apply pw_below_drewN | apply below_drew1) | exact HB.out)); rintro e w25 ⟨rfl, hb⟩; refine ⟨_, rfl, ?_⟩; have n0_ := Aside0.mk (below_step (by repeat (first | (with_reducible first | exact HB.out | apply below_alloc | apply pw_below_drewN | apply below_drew1) | exact HB.out)) hb); clear HB; have HB := n0_; clear n0_; (try clear hb); (try clear hb2); (try clear hk); (try clear hi)))
                  go_ret
                  exact ⟨by first | rfl | (simp [errW_none, errW_some] <;> rfl) | (simp [*, errW_none, errW_some] <;> rfl), by repeat (first | (with_reducible first | exact HB.out | apply below_alloc | apply pw_below_drewN | apply below_drew1) | exact HB.out)⟩
              · rw [if_neg c18] at H
                have c18b0 : (t220.toList == a1.toList) = false := beq_eq_false_iff_ne.mpr c18
                have c18b1 : (t220.toList != a1.toList) = true := bne_iff_ne.mpr c18
                obtain rfl := Option.some.inj H
                go_wp2_with (first | ((with_reducible refine gate_callee (f := 22) rfl ?_); refine goesL_ (some 65) rfl rfl Tryd.func22 (by kernel_rfl) rfl #[.string a1, .int .i64 (Int.tmod (wrap64 (a2)) 1000)] rfl (by (try simp only [List.map_toArray, List.map_cons, List.map_nil]); first | done | rfl | (simp only [List.length_drop, List.length_take]; rfl)) ?_; (with_reducible refine (name_Join.calls kj6 a1 (Int.tmod (wrap64 (a2)) 1000) t218 t219 _ A14.out ?side1).mono ?_); (case side1 => refine GlobT.below (by first | exact hG_ | exact hG_.g) ?_; repeat (first | (with_reducible first | exact HB.out | apply below_alloc | apply pw_below_drewN | apply below_drew1) | exact HB.out)); rintro e w26 ⟨rfl, hb⟩; refine ⟨_, rfl, ?_⟩; have n0_ := Aside0.mk (below_step (by repeat (first | (with_reducible first | exact HB.out | apply below_alloc | apply pw_below_drewN | apply below_drew1) | exact HB.out)) hb); clear HB; have HB := n0_; clear n0_; (try clear hb); (try clear hb2); (try clear hk); (try clear hi)) | ((with_reducible refine gate_callee (f := 16) rfl ?_); refine goesL_ (some 70) rfl rfl Tryd.func16 (by kernel_rfl) rfl #[.string t218] rfl (by (try simp only [List.map_toArray, List.map_cons, List.map_nil]); first | done | rfl | (simp only [List.length_drop, List.length_take]; rfl)) ?_; (with_reducible refine (name_Split.calls kj6 t218 t220 t221 t222 _ A15.out ?side1).mono ?_); (case side1 => refine Glob.below (by first | exact hG_ | exact hG_.g) ?_; repeat (first | (with_reducible first | exact HB.out | apply below_alloc | apply pw_below_drewN | apply below_drew1) | exact HB.out)); rintro e w27 ⟨rfl, hb⟩; refine ⟨_, rfl, ?_⟩; have n0_ := Aside0.mk (below_step (by repeat (first | (with_reducible first | exact HB.out | apply below_alloc | apply pw_below_drewN | apply below_drew1) | exact HB.out)) hb); clear HB; have HB := n0_; clear n0_; (try clear hb); (try clear hb2); (try clear hk); (try clear hi)))
                go_ret
                exact ⟨by first | rfl | (simp [errW_none, errW_some] <;> rfl) | (simp [*, errW_none, errW_some] <;> rfl), by repeat (first | (with_reducible first | exact HB.out | apply below_alloc | apply pw_below_drewN | apply below_drew1) | exact HB.out)⟩
            · rw [if_neg c17] at H
              have c17b0 : (t222 == 0) = false := beq_eq_false_iff_ne.mpr c17
              have c17b1 : (t222 != 0) = true := bne_iff_ne.mpr c17
              obtain rfl := Option.some.inj H
              go_wp2_with (first | ((with_reducible refine gate_callee (f := 22) rfl ?_); refine goesL_ (some 65) rfl rfl Tryd.func22 (by kernel_rfl) rfl #[.string a1, .int .i64 (Int.tmod (wrap64 (a2)) 1000)] rfl (by (try simp only [List.map_toArray, List.map_cons, List.map_nil]); first | done | rfl | (simp only [List.length_drop, List.length_take]; rfl)) ?_; (with_reducible refine (name_Join.calls kj6 a1 (Int.tmod (wrap64 (a2)) 1000) t218 t219 _ A14.out ?side1).mono ?_); (case side1 => refine GlobT.below (by first | exact hG_ | exact hG_.g) ?_; repeat (first | (with_reducible first | exact HB.out | apply below_alloc | apply pw_below_drewN | apply below_drew1) | exact HB.out)); rintro e w28 ⟨rfl, hb⟩; refine ⟨_, rfl, ?_⟩; have n0_ := Aside0.mk (below_step (by repeat (first | (with_reducible first | exact HB.out | apply below_alloc | apply pw_below_drewN | apply below_drew1) | exact HB.out)) hb); clear HB; have HB := n0_; clear n0_; (try clear hb); (try clear hb2); (try clear hk); (try clear hi)) | ((with_reducible refine gate_callee (f := 16) rfl ?_); refine goesL_ (some 70) rfl rfl Tryd.func16 (by kernel_rfl) rfl #[.string t218] rfl (by (try simp only [List.map_toArray, List.map_cons, List.map_nil]); first | done | rfl | (simp only [List.length_drop, List.length_take]; rfl)) ?_; (with_reducible refine (name_Split.calls kj6 t218 t220 t221 t222 _ A15.out ?side1).mono ?_); (case side1 => refine Glob.below (by first | exact hG_ | exact hG_.g) ?_; repeat (first | (with_reducible first | exact HB.out | apply below_alloc | apply pw_below_drewN | apply below_drew1) | exact HB.out)); rintro e w29 ⟨rfl, hb⟩; refine ⟨_, rfl, ?_⟩; have n0_ := Aside0.mk (below_step (by repeat (first | (with_reducible first | exact HB.out | apply below_alloc | apply pw_below_drewN | apply below_drew1) | exact HB.out)) hb); clear HB; have HB := n0_; clear n0_; (try clear hb); (try clear hb2); (try clear hk); (try clear hi)))
              go_ret
              exact ⟨by first | rfl | (simp [errW_none, errW_some] <;> rfl) | (simp [*, errW_none, errW_some] <;> rfl), by repeat (first | (with_reducible first | exact HB.out | apply below_alloc | apply pw_below_drewN | apply below_drew1) | exact HB.out)⟩
          · rw [if_neg c16] at H
            have c16b0 : (t219 == 0) = false := beq_eq_false_iff_ne.mpr c16
            have c16b1 : (t219 != 0) = true := bne_iff_ne.mpr c16
            by_cases c30 : t218.toList = ([] : List UInt8)
            · rw [if_pos c30] at H
              have c30b0 : (t218.toList == ([] : List UInt8)) = true := beq_iff_eq.mpr c30
              have c30b1 : (t218.toList != ([] : List UInt8)) = false := bne_eq_false_iff_eq.mpr c30
              clear c30
              replace H := Option.bind_eq_some_iff.mp H
              obtain ⟨t224, A310, H⟩ := H
              replace H : (some t224) = some r := H
              have A31 := Aside0.mk A310
              clear A310
              obtain rfl := Option.some.inj H
              go_wp2_with (first | ((with_reducible refine gate_callee (f := 22) rfl ?_); refine goesL_ (some 65) rfl rfl Tryd.func22 (by kernel_rfl) rfl #[.string a1, .int .i64 (Int.tmod (wrap64 (a2)) 1000)] rfl (by (try simp only [List.map_toArray, List.map_cons, List.map_nil]); first | done | rfl | (simp only [List.length_drop, List.length_take]; rfl)) ?_; (with_reducible refine (name_Join.calls kj6 a1 (Int.tmod (wrap64 (a2)) 1000) t218 t219 _ A14.out ?side1).mono ?_); (case side1 => refine GlobT.below (by first | exact hG_ | exact hG_.g) ?_; repeat (first | (with_reducible first | exact HB.out | apply below_alloc | apply pw_below_drewN | apply below_drew1) | exact HB.out)); rintro e w32 ⟨rfl, hb⟩; refine ⟨_, rfl, ?_⟩; have n0_ := Aside0.mk (below_step (by repeat (first | (with_reducible first | exact HB.out | apply below_alloc | apply pw_below_drewN | apply below_drew1) | exact HB.out)) hb); clear HB; have HB := n0_; clear n0_; (try clear hb); (try clear hb2); (try clear hk); (try clear hi)) | ((with_reducible refine gate_callee (f := 16) rfl ?_); refine goesL_ (some 70) rfl rfl Tryd.func16 (by kernel_rfl) rfl #[.string t218] rfl (by (try simp only [List.map_toArray, List.map_cons, List.map_nil]); first | done | rfl | (simp only [List.length_drop, List.length_take]; rfl)) ?_; (with_reducible refine (name_Split.calls kj6 t218 t220 t221 t222 _ A15.out ?side1).mono ?_); (case side1 => refine Glob.below (by first | exact hG_ | exact hG_.g) ?_; repeat (first | (with_reducible first | exact HB.out | apply below_alloc | apply pw_below_drewN | apply below_drew1) | exact HB.out)); rintro e w33 ⟨rfl, hb⟩; refine ⟨_, rfl, ?_⟩; have n0_ := Aside0.mk (below_step (by repeat (first | (with_reducible first | exact HB.out | apply below_alloc | apply pw_below_drewN | apply below_drew1) | exact HB.out)) hb); clear HB; have HB := n0_; clear n0_; (try clear hb); (try clear hb2); (try clear hk); (try clear hi)) | (go_at_call 15; (with_reducible refine (budwoodlaw02_awake.calls kj6  t224 _ A31.out ?side1).mono ?_); (case side1 => refine Glob.below (by first | exact hG_ | exact hG_.g) ?_; repeat (first | (with_reducible first | exact HB.out | apply below_alloc | apply pw_below_drewN | apply below_drew1) | exact HB.out)); rintro e w34 ⟨rfl, hb⟩; have n0_ := Aside0.mk (below_step (by repeat (first | (with_reducible first | exact HB.out | apply below_alloc | apply pw_below_drewN | apply below_drew1) | exact HB.out)) hb); clear HB; have HB := n0_; clear n0_; (try clear hb); (try clear hb2); (try clear hk); (try clear hi)))
              go_ret
              exact ⟨by first | rfl | (simp [errW_none, errW_some] <;> rfl) | (simp [*, errW_none, errW_some] <;> rfl), by repeat (first | (with_reducible first | exact HB.out | apply below_alloc | apply pw_below_drewN | apply below_drew1) | exact HB.out)⟩
            · rw [if_neg c30] at H
              have c30b0 : (t218.toList == ([] : List UInt8)) = false := beq_eq_false_iff_ne.mpr c30
              have c30b1 : (t218.toList != ([] : List UInt8)) = true := bne_iff_ne.mpr c30
              obtain rfl := Option.some.inj H
              go_wp2_with (first | ((with_reducible refine gate_callee (f := 22) rfl ?_); refine goesL_ (some 65) rfl rfl Tryd.func22 (by kernel_rfl) rfl #[.string a1, .int .i64 (Int.tmod (wrap64 (a2)) 1000)] rfl (by (try simp only [List.map_toArray, List.map_cons, List.map_nil]); first | done | rfl | (simp only [List.length_drop, List.length_take]; rfl)) ?_; (with_reducible refine (name_Join.calls kj6 a1 (Int.tmod (wrap64 (a2)) 1000) t218 t219 _ A14.out ?side1).mono ?_); (case side1 => refine GlobT.below (by first | exact hG_ | exact hG_.g) ?_; repeat (first | (with_reducible first | exact HB.out | apply below_alloc | apply pw_below_drewN | apply below_drew1) | exact HB.out)); rintro e w35 ⟨rfl, hb⟩; refine ⟨_, rfl, ?_⟩; have n0_ := Aside0.mk (below_step (by repeat (first | (with_reducible first | exact HB.out | apply below_alloc | apply pw_below_drewN | apply below_drew1) | exact HB.out)) hb); clear HB; have HB := n0_; clear n0_; (try clear hb); (try clear hb2); (try clear hk); (try clear hi)) | ((with_reducible refine gate_callee (f := 16) rfl ?_); refine goesL_ (some 70) rfl rfl Tryd.func16 (by kernel_rfl) rfl #[.string t218] rfl (by (try simp only [List.map_toArray, List.map_cons, List.map_nil]); first | done | rfl | (simp only [List.length_drop, List.length_take]; rfl)) ?_; (with_reducible refine (name_Split.calls kj6 t218 t220 t221 t222 _ A15.out ?side1).mono ?_); (case side1 => refine Glob.below (by first | exact hG_ | exact hG_.g) ?_; repeat (first | (with_reducible first | exact HB.out | apply below_alloc | apply pw_below_drewN | apply below_drew1) | exact HB.out)); rintro e w36 ⟨rfl, hb⟩; refine ⟨_, rfl, ?_⟩; have n0_ := Aside0.mk (below_step (by repeat (first | (with_reducible first | exact HB.out | apply below_alloc | apply pw_below_drewN | apply below_drew1) | exact HB.out)) hb); clear HB; have HB := n0_; clear n0_; (try clear hb); (try clear hb2); (try clear hk); (try clear hi)))
              go_ret
              exact ⟨by first | rfl | (simp [errW_none, errW_some] <;> rfl) | (simp [*, errW_none, errW_some] <;> rfl), by repeat (first | (with_reducible first | exact HB.out | apply below_alloc | apply pw_below_drewN | apply below_drew1) | exact HB.out)⟩
  · rw [if_neg c5] at H
    have c5b0 : (t215 == 0) = false := beq_eq_false_iff_ne.mpr c5
    have c5b1 : (t215 != 0) = true := bne_iff_ne.mpr c5
    have HC37 := Aside0.mk H
    clear H
    go_enter Tryd.func9, Tryd.ntmps9
    go_upto_region 6 with (first | ((with_reducible refine gate_callee (f := 16) rfl ?_); refine goesL_ (some 20) rfl rfl Tryd.func16 (by kernel_rfl) rfl #[.string a0] rfl (by (try simp only [List.map_toArray, List.map_cons, List.map_nil]); first | done | rfl | (simp only [List.length_drop, List.length_take]; rfl)) ?_; (with_reducible refine (name_Split.calls k a0 t213 t214 t215 _ A4.out ?side1).mono ?_); (case side1 => refine Glob.below (by first | exact hG_ | exact hG_.g) ?_; repeat (first | (with_reducible first | exact HB.out | apply below_alloc | apply pw_below_drewN | apply below_drew1) | exact HB.out)); rintro e w38 ⟨rfl, hb⟩; refine ⟨_, rfl, ?_⟩; have n0_ := Aside0.mk (below_step (by repeat (first | (with_reducible first | exact HB.out | apply below_alloc | apply pw_below_drewN | apply below_drew1) | exact HB.out)) hb); clear HB; have HB := n0_; clear n0_; (try clear hb); (try clear hb2); (try clear hk); (try clear hi)))
    (try simp only [Act.put, List.setIfInBounds_toArray, List.set_cons_zero, List.set_cons_succ])
    go_cut [58] (fun v58 wc => ∃ (kq : Nat) (x58_36 : Bool), v58 = .bool x58_36 ∧ Aside0 (budwoodlaw02_NameBack.j1 kq a1 a2 x58_36 = some r) ∧ Aside0 (kq ≤ k) ∧ Aside0 (Below w.heap.size w wc))
    case first =>
      have H := HC37.out
      clear HC37
      by_cases c39 : t213.toList = ([] : List UInt8)
      · rw [if_pos c39] at H
        have c39b0 : (t213.toList == ([] : List UInt8)) = true := beq_iff_eq.mpr c39
        have c39b1 : (t213.toList != ([] : List UInt8)) = false := bne_eq_false_iff_eq.mpr c39
        clear c39
        (first | rw [c39b0] | (simp only [i64_w, i32_w]; rw [c39b0]) | skip)
        by_cases c40 : t214 = 0
        · rw [if_pos c40] at H
          have c40b0 : (t214 == 0) = true := beq_iff_eq.mpr c40
          have c40b1 : (t214 != 0) = false := bne_eq_false_iff_eq.mpr c40
          clear c40
          replace H := Option.bind_eq_some_iff.mp H
          obtain ⟨t225, A410, H⟩ := H
          replace H : (budwoodlaw02_NameBack.j1 k a1 a2 (t225 != t215)) = some r := H
          have A41 := Aside0.mk A410
          clear A410
          have H' := Aside0.mk H
          clear H
          go_wp2_with (first | (go_at_call 11; (with_reducible refine (name_Check.calls k a0 t225 _ A41.out ?side1).mono ?_); (case side1 => refine Glob.below (by first | exact hG_ | exact hG_.g) ?_; repeat (first | (with_reducible first | exact HB.out | apply below_alloc | apply pw_below_drewN | apply below_drew1) | exact HB.out)); rintro e w42 ⟨rfl, hb⟩; have n0_ := Aside0.mk (below_step (by repeat (first | (with_reducible first | exact HB.out | apply below_alloc | apply pw_below_drewN | apply below_drew1) | exact HB.out)) hb); clear HB; have HB := n0_; clear n0_; (try clear hb); (try clear hb2); (try clear hk); (try clear hi)))
          go_meet
          case rel => exact ⟨_, ((t225 != t215)), (by first | rfl | (simp; done) | (simp [*]; done)), H', ⟨by first | omega | exact Nat.le_refl _⟩, ⟨by repeat (first | (with_reducible first | exact HB.out | apply below_alloc | apply pw_below_drewN | apply below_drew1) | exact HB.out)⟩⟩
        · rw [if_neg c40] at H
          have c40b0 : (t214 == 0) = false := beq_eq_false_iff_ne.mpr c40
          have c40b1 : (t214 != 0) = true := bne_iff_ne.mpr c40
          have H' := Aside0.mk H
          clear H
          go_wp2
          go_meet
          case rel => exact ⟨_, (true), (by first | rfl | (simp; done) | (simp [*]; done)), H', ⟨by first | omega | exact Nat.le_refl _⟩, ⟨by repeat (first | (with_reducible first | exact HB.out | apply below_alloc | apply pw_below_drewN | apply below_drew1) | exact HB.out)⟩⟩
      · rw [if_neg c39] at H
        have c39b0 : (t213.toList == ([] : List UInt8)) = false := beq_eq_false_iff_ne.mpr c39
        have c39b1 : (t213.toList != ([] : List UInt8)) = true := bne_iff_ne.mpr c39
        (first | rw [c39b0] | (simp only [i64_w, i32_w]; rw [c39b0]) | skip)
        have H' := Aside0.mk H
        clear H
        go_wp2
        go_meet
        case rel => exact ⟨_, (true), (by first | rfl | (simp; done) | (simp [*]; done)), H', ⟨by first | omega | exact Nat.le_refl _⟩, ⟨by repeat (first | (with_reducible first | exact HB.out | apply below_alloc | apply pw_below_drewN | apply below_drew1) | exact HB.out)⟩⟩
    case rest =>
      clear HC37
      try clear c1
      try clear c2
      try clear p2
      try clear c3
      try clear c4
      try clear c5
      try clear c5b0
      try clear c5b1
      try clear p6
      try clear c9
      try clear c10
      try clear c10b0
      try clear c10b1
      try clear c11
      try clear c11b0
      try clear c11b1
      try clear c12
      try clear c12b0
      try clear c13
      try clear c16
      try clear c16b0
      try clear c16b1
      try clear c17
      try clear c17b0
      try clear c17b1
      try clear c18
      try clear c18b0
      try clear c18b1
      try clear c19
      try clear c19b0
      try clear c19b1
      try clear c22
      try clear c30
      try clear c30b0
      try clear c30b1
      try clear c39
      try clear c39b0
      try clear c39b1
      try clear c40
      try clear c40b0
      try clear c40b1
      try clear p2
      obtain ⟨kq, x58_36, rfl, HA, HJ36, HB⟩ := hcut
      cases kq with
      | zero => exact absurd HA.out (by simp [budwoodlaw02_NameBack.j1])
      | succ kj36 =>
        have H := HA.out
        clear HA
        simp only [budwoodlaw02_NameBack.j1] at H
        by_cases c43 : x58_36 = true
        · subst c43
          have H1 : (some false) = some r := by rw [if_pos rfl] at H; exact H
          clear H
          have H := H1
          clear H1
          obtain rfl := Option.some.inj H
          go_wp2
          go_ret
          exact ⟨by first | rfl | (simp [errW_none, errW_some] <;> rfl) | (simp [*, errW_none, errW_some] <;> rfl), by repeat (first | (with_reducible first | exact HB.out | apply below_alloc | apply pw_below_drewN | apply below_drew1) | exact HB.out)⟩
        · replace c43 := Bool.eq_false_iff.mpr c43
          subst c43
          have H1 : ((name_Join.f kj36 a1 (Int.tmod (wrap64 (a2)) 1000)).bind fun bt226 => ((name_Split.f kj36 bt226.1).bind fun bt228 => (if bt226.2 = 0 then (if bt228.2.2 = 0 then (if bt228.1.toList = a1.toList then (if bt228.2.1 = (Int.tmod (wrap64 (a2)) 1000) then ((budwoodlaw02_awake.f kj36).bind fun t231 => (some t231)) else (some false)) else (some false)) else (some false)) else (if bt226.1.toList = ([] : List UInt8) then ((budwoodlaw02_awake.f kj36).bind fun t232 => (some t232)) else (some false))))) = some r := by rw [if_neg (show ¬ (false = true) by decide)] at H; exact H
          clear H
          have H := H1
          clear H1
          replace H := Option.bind_eq_some_iff.mp H
          obtain ⟨⟨t226, t227⟩, A440, H⟩ := H
          replace H : ((name_Split.f kj36 t226).bind fun bt228 => (if t227 = 0 then (if bt228.2.2 = 0 then (if bt228.1.toList = a1.toList then (if bt228.2.1 = (Int.tmod (wrap64 (a2)) 1000) then ((budwoodlaw02_awake.f kj36).bind fun t231 => (some t231)) else (some false)) else (some false)) else (some false)) else (if t226.toList = ([] : List UInt8) then ((budwoodlaw02_awake.f kj36).bind fun t232 => (some t232)) else (some false)))) = some r := H
          have A44 := Aside0.mk A440
          clear A440
          replace H := Option.bind_eq_some_iff.mp H
          obtain ⟨⟨t228, t229, t230⟩, A450, H⟩ := H
          replace H : (if t227 = 0 then (if t230 = 0 then (if t228.toList = a1.toList then (if t229 = (Int.tmod (wrap64 (a2)) 1000) then ((budwoodlaw02_awake.f kj36).bind fun t231 => (some t231)) else (some false)) else (some false)) else (some false)) else (if t226.toList = ([] : List UInt8) then ((budwoodlaw02_awake.f kj36).bind fun t232 => (some t232)) else (some false))) = some r := H
          have A45 := Aside0.mk A450
          clear A450
          by_cases c46 : t227 = 0
          · rw [if_pos c46] at H
            have c46b0 : (t227 == 0) = true := beq_iff_eq.mpr c46
            have c46b1 : (t227 != 0) = false := bne_eq_false_iff_eq.mpr c46
            clear c46
            by_cases c47 : t230 = 0
            · rw [if_pos c47] at H
              have c47b0 : (t230 == 0) = true := beq_iff_eq.mpr c47
              have c47b1 : (t230 != 0) = false := bne_eq_false_iff_eq.mpr c47
              clear c47
              by_cases c48 : t228.toList = a1.toList
              · rw [if_pos c48] at H
                have c48b0 : (t228.toList == a1.toList) = true := beq_iff_eq.mpr c48
                have c48b1 : (t228.toList != a1.toList) = false := bne_eq_false_iff_eq.mpr c48
                clear c48
                by_cases c49 : t229 = (Int.tmod (wrap64 (a2)) 1000)
                · rw [if_pos c49] at H
                  have c49b0 : (t229 == (Int.tmod (wrap64 (a2)) 1000)) = true := beq_iff_eq.mpr c49
                  have c49b1 : (t229 != (Int.tmod (wrap64 (a2)) 1000)) = false := bne_eq_false_iff_eq.mpr c49
                  clear c49
                  replace H := Option.bind_eq_some_iff.mp H
                  obtain ⟨t231, A500, H⟩ := H
                  replace H : (some t231) = some r := H
                  have A50 := Aside0.mk A500
                  clear A500
                  obtain rfl := Option.some.inj H
                  go_wp2_with (first | ((with_reducible refine gate_callee (f := 22) rfl ?_); refine goesL_ (some 65) rfl rfl Tryd.func22 (by kernel_rfl) rfl #[.string a1, .int .i64 (Int.tmod (wrap64 (a2)) 1000)] rfl (by (try simp only [List.map_toArray, List.map_cons, List.map_nil]); first | done | rfl | (simp only [List.length_drop, List.length_take]; rfl)) ?_; (with_reducible refine (name_Join.calls kj36 a1 (Int.tmod (wrap64 (a2)) 1000) t226 t227 _ A44.out ?side1).mono ?_); (case side1 => refine GlobT.below (by first | exact hG_ | exact hG_.g) ?_; repeat (first | (with_reducible first | exact HB.out | apply below_alloc | apply pw_below_drewN | apply below_drew1) | exact HB.out)); rintro e w51 ⟨rfl, hb⟩; refine ⟨_, rfl, ?_⟩; have n0_ := Aside0.mk (below_step (by repeat (first | (with_reducible first | exact HB.out | apply below_alloc | apply pw_below_drewN | apply below_drew1) | exact HB.out)) hb); clear HB; have HB := n0_; clear n0_; (try clear hb); (try clear hb2); (try clear hk); (try clear hi)) | ((with_reducible refine gate_callee (f := 16) rfl ?_); refine goesL_ (some 70) rfl rfl Tryd.func16 (by kernel_rfl) rfl #[.string t226] rfl (by (try simp only [List.map_toArray, List.map_cons, List.map_nil]); first | done | rfl | (simp only [List.length_drop, List.length_take]; rfl)) ?_; (with_reducible refine (name_Split.calls kj36 t226 t228 t229 t230 _ A45.out ?side1).mono ?_); (case side1 => refine Glob.below (by first | exact hG_ | exact hG_.g) ?_; repeat (first | (with_reducible first | exact HB.out | apply below_alloc | apply pw_below_drewN | apply below_drew1) | exact HB.out)); rintro e w52 ⟨rfl, hb⟩; refine ⟨_, rfl, ?_⟩; have n0_ := Aside0.mk (below_step (by repeat (first | (with_reducible first | exact HB.out | apply below_alloc | apply pw_below_drewN | apply below_drew1) | exact HB.out)) hb); clear HB; have HB := n0_; clear n0_; (try clear hb); (try clear hb2); (try clear hk); (try clear hi)) | (go_at_call 15; (with_reducible refine (budwoodlaw02_awake.calls kj36  t231 _ A50.out ?side1).mono ?_); (case side1 => refine Glob.below (by first | exact hG_ | exact hG_.g) ?_; repeat (first | (with_reducible first | exact HB.out | apply below_alloc | apply pw_below_drewN | apply below_drew1) | exact HB.out)); rintro e w53 ⟨rfl, hb⟩; have n0_ := Aside0.mk (below_step (by repeat (first | (with_reducible first | exact HB.out | apply below_alloc | apply pw_below_drewN | apply below_drew1) | exact HB.out)) hb); clear HB; have HB := n0_; clear n0_; (try clear hb); (try clear hb2); (try clear hk); (try clear hi)))
                  go_ret
                  exact ⟨by first | rfl | (simp [errW_none, errW_some] <;> rfl) | (simp [*, errW_none, errW_some] <;> rfl), by repeat (first | (with_reducible first | exact HB.out | apply below_alloc | apply pw_below_drewN | apply below_drew1) | exact HB.out)⟩
                · rw [if_neg c49] at H
                  have c49b0 : (t229 == (Int.tmod (wrap64 (a2)) 1000)) = false := beq_eq_false_iff_ne.mpr c49
                  have c49b1 : (t229 != (Int.tmod (wrap64 (a2)) 1000)) = true := bne_iff_ne.mpr c49
                  obtain rfl := Option.some.inj H
                  go_wp2_with (first | ((with_reducible refine gate_callee (f := 22) rfl ?_); refine goesL_ (some 65) rfl rfl Tryd.func22 (by kernel_rfl) rfl #[.string a1, .int .i64 (Int.tmod (wrap64 (a2)) 1000)] rfl (by (try simp only [List.map_toArray, List.map_cons, List.map_nil]); first | done | rfl | (simp only [List.length_drop, List.length_take]; rfl)) ?_; (with_reducible refine (name_Join.calls kj36 a1 (Int.tmod (wrap64 (a2)) 1000) t226 t227 _ A44.out ?side1).mono ?_); (case side1 => refine GlobT.below (by first | exact hG_ | exact hG_.g) ?_; repeat (first | (with_reducible first | exact HB.out | apply below_alloc | apply pw_below_drewN | apply below_drew1) | exact HB.out)); rintro e w54 ⟨rfl, hb⟩; refine ⟨_, rfl, ?_⟩; have n0_ := Aside0.mk (below_step (by repeat (first | (with_reducible first | exact HB.out | apply below_alloc | apply pw_below_drewN | apply below_drew1) | exact HB.out)) hb); clear HB; have HB := n0_; clear n0_; (try clear hb); (try clear hb2); (try clear hk); (try clear hi)) | ((with_reducible refine gate_callee (f := 16) rfl ?_); refine goesL_ (some 70) rfl rfl Tryd.func16 (by kernel_rfl) rfl #[.string t226] rfl (by (try simp only [List.map_toArray, List.map_cons, List.map_nil]); first | done | rfl | (simp only [List.length_drop, List.length_take]; rfl)) ?_; (with_reducible refine (name_Split.calls kj36 t226 t228 t229 t230 _ A45.out ?side1).mono ?_); (case side1 => refine Glob.below (by first | exact hG_ | exact hG_.g) ?_; repeat (first | (with_reducible first | exact HB.out | apply below_alloc | apply pw_below_drewN | apply below_drew1) | exact HB.out)); rintro e w55 ⟨rfl, hb⟩; refine ⟨_, rfl, ?_⟩; have n0_ := Aside0.mk (below_step (by repeat (first | (with_reducible first | exact HB.out | apply below_alloc | apply pw_below_drewN | apply below_drew1) | exact HB.out)) hb); clear HB; have HB := n0_; clear n0_; (try clear hb); (try clear hb2); (try clear hk); (try clear hi)))
                  go_ret
                  exact ⟨by first | rfl | (simp [errW_none, errW_some] <;> rfl) | (simp [*, errW_none, errW_some] <;> rfl), by repeat (first | (with_reducible first | exact HB.out | apply below_alloc | apply pw_below_drewN | apply below_drew1) | exact HB.out)⟩
              · rw [if_neg c48] at H
                have c48b0 : (t228.toList == a1.toList) = false := beq_eq_false_iff_ne.mpr c48
                have c48b1 : (t228.toList != a1.toList) = true := bne_iff_ne.mpr c48
                obtain rfl := Option.some.inj H
                go_wp2_with (first | ((with_reducible refine gate_callee (f := 22) rfl ?_); refine goesL_ (some 65) rfl rfl Tryd.func22 (by kernel_rfl) rfl #[.string a1, .int .i64 (Int.tmod (wrap64 (a2)) 1000)] rfl (by (try simp only [List.map_toArray, List.map_cons, List.map_nil]); first | done | rfl | (simp only [List.length_drop, List.length_take]; rfl)) ?_; (with_reducible refine (name_Join.calls kj36 a1 (Int.tmod (wrap64 (a2)) 1000) t226 t227 _ A44.out ?side1).mono ?_); (case side1 => refine GlobT.below (by first | exact hG_ | exact hG_.g) ?_; repeat (first | (with_reducible first | exact HB.out | apply below_alloc | apply pw_below_drewN | apply below_drew1) | exact HB.out)); rintro e w56 ⟨rfl, hb⟩; refine ⟨_, rfl, ?_⟩; have n0_ := Aside0.mk (below_step (by repeat (first | (with_reducible first | exact HB.out | apply below_alloc | apply pw_below_drewN | apply below_drew1) | exact HB.out)) hb); clear HB; have HB := n0_; clear n0_; (try clear hb); (try clear hb2); (try clear hk); (try clear hi)) | ((with_reducible refine gate_callee (f := 16) rfl ?_); refine goesL_ (some 70) rfl rfl Tryd.func16 (by kernel_rfl) rfl #[.string t226] rfl (by (try simp only [List.map_toArray, List.map_cons, List.map_nil]); first | done | rfl | (simp only [List.length_drop, List.length_take]; rfl)) ?_; (with_reducible refine (name_Split.calls kj36 t226 t228 t229 t230 _ A45.out ?side1).mono ?_); (case side1 => refine Glob.below (by first | exact hG_ | exact hG_.g) ?_; repeat (first | (with_reducible first | exact HB.out | apply below_alloc | apply pw_below_drewN | apply below_drew1) | exact HB.out)); rintro e w57 ⟨rfl, hb⟩; refine ⟨_, rfl, ?_⟩; have n0_ := Aside0.mk (below_step (by repeat (first | (with_reducible first | exact HB.out | apply below_alloc | apply pw_below_drewN | apply below_drew1) | exact HB.out)) hb); clear HB; have HB := n0_; clear n0_; (try clear hb); (try clear hb2); (try clear hk); (try clear hi)))
                go_ret
                exact ⟨by first | rfl | (simp [errW_none, errW_some] <;> rfl) | (simp [*, errW_none, errW_some] <;> rfl), by repeat (first | (with_reducible first | exact HB.out | apply below_alloc | apply pw_below_drewN | apply below_drew1) | exact HB.out)⟩
            · rw [if_neg c47] at H
              have c47b0 : (t230 == 0) = false := beq_eq_false_iff_ne.mpr c47
              have c47b1 : (t230 != 0) = true := bne_iff_ne.mpr c47
              obtain rfl := Option.some.inj H
              go_wp2_with (first | ((with_reducible refine gate_callee (f := 22) rfl ?_); refine goesL_ (some 65) rfl rfl Tryd.func22 (by kernel_rfl) rfl #[.string a1, .int .i64 (Int.tmod (wrap64 (a2)) 1000)] rfl (by (try simp only [List.map_toArray, List.map_cons, List.map_nil]); first | done | rfl | (simp only [List.length_drop, List.length_take]; rfl)) ?_; (with_reducible refine (name_Join.calls kj36 a1 (Int.tmod (wrap64 (a2)) 1000) t226 t227 _ A44.out ?side1).mono ?_); (case side1 => refine GlobT.below (by first | exact hG_ | exact hG_.g) ?_; repeat (first | (with_reducible first | exact HB.out | apply below_alloc | apply pw_below_drewN | apply below_drew1) | exact HB.out)); rintro e w58 ⟨rfl, hb⟩; refine ⟨_, rfl, ?_⟩; have n0_ := Aside0.mk (below_step (by repeat (first | (with_reducible first | exact HB.out | apply below_alloc | apply pw_below_drewN | apply below_drew1) | exact HB.out)) hb); clear HB; have HB := n0_; clear n0_; (try clear hb); (try clear hb2); (try clear hk); (try clear hi)) | ((with_reducible refine gate_callee (f := 16) rfl ?_); refine goesL_ (some 70) rfl rfl Tryd.func16 (by kernel_rfl) rfl #[.string t226] rfl (by (try simp only [List.map_toArray, List.map_cons, List.map_nil]); first | done | rfl | (simp only [List.length_drop, List.length_take]; rfl)) ?_; (with_reducible refine (name_Split.calls kj36 t226 t228 t229 t230 _ A45.out ?side1).mono ?_); (case side1 => refine Glob.below (by first | exact hG_ | exact hG_.g) ?_; repeat (first | (with_reducible first | exact HB.out | apply below_alloc | apply pw_below_drewN | apply below_drew1) | exact HB.out)); rintro e w59 ⟨rfl, hb⟩; refine ⟨_, rfl, ?_⟩; have n0_ := Aside0.mk (below_step (by repeat (first | (with_reducible first | exact HB.out | apply below_alloc | apply pw_below_drewN | apply below_drew1) | exact HB.out)) hb); clear HB; have HB := n0_; clear n0_; (try clear hb); (try clear hb2); (try clear hk); (try clear hi)))
              go_ret
              exact ⟨by first | rfl | (simp [errW_none, errW_some] <;> rfl) | (simp [*, errW_none, errW_some] <;> rfl), by repeat (first | (with_reducible first | exact HB.out | apply below_alloc | apply pw_below_drewN | apply below_drew1) | exact HB.out)⟩
          · rw [if_neg c46] at H
            have c46b0 : (t227 == 0) = false := beq_eq_false_iff_ne.mpr c46
            have c46b1 : (t227 != 0) = true := bne_iff_ne.mpr c46
            by_cases c60 : t226.toList = ([] : List UInt8)
            · rw [if_pos c60] at H
              have c60b0 : (t226.toList == ([] : List UInt8)) = true := beq_iff_eq.mpr c60
              have c60b1 : (t226.toList != ([] : List UInt8)) = false := bne_eq_false_iff_eq.mpr c60
              clear c60
              replace H := Option.bind_eq_some_iff.mp H
              obtain ⟨t232, A610, H⟩ := H
              replace H : (some t232) = some r := H
              have A61 := Aside0.mk A610
              clear A610
              obtain rfl := Option.some.inj H
              go_wp2_with (first | ((with_reducible refine gate_callee (f := 22) rfl ?_); refine goesL_ (some 65) rfl rfl Tryd.func22 (by kernel_rfl) rfl #[.string a1, .int .i64 (Int.tmod (wrap64 (a2)) 1000)] rfl (by (try simp only [List.map_toArray, List.map_cons, List.map_nil]); first | done | rfl | (simp only [List.length_drop, List.length_take]; rfl)) ?_; (with_reducible refine (name_Join.calls kj36 a1 (Int.tmod (wrap64 (a2)) 1000) t226 t227 _ A44.out ?side1).mono ?_); (case side1 => refine GlobT.below (by first | exact hG_ | exact hG_.g) ?_; repeat (first | (with_reducible first | exact HB.out | apply below_alloc | apply pw_below_drewN | apply below_drew1) | exact HB.out)); rintro e w62 ⟨rfl, hb⟩; refine ⟨_, rfl, ?_⟩; have n0_ := Aside0.mk (below_step (by repeat (first | (with_reducible first | exact HB.out | apply below_alloc | apply pw_below_drewN | apply below_drew1) | exact HB.out)) hb); clear HB; have HB := n0_; clear n0_; (try clear hb); (try clear hb2); (try clear hk); (try clear hi)) | ((with_reducible refine gate_callee (f := 16) rfl ?_); refine goesL_ (some 70) rfl rfl Tryd.func16 (by kernel_rfl) rfl #[.string t226] rfl (by (try simp only [List.map_toArray, List.map_cons, List.map_nil]); first | done | rfl | (simp only [List.length_drop, List.length_take]; rfl)) ?_; (with_reducible refine (name_Split.calls kj36 t226 t228 t229 t230 _ A45.out ?side1).mono ?_); (case side1 => refine Glob.below (by first | exact hG_ | exact hG_.g) ?_; repeat (first | (with_reducible first | exact HB.out | apply below_alloc | apply pw_below_drewN | apply below_drew1) | exact HB.out)); rintro e w63 ⟨rfl, hb⟩; refine ⟨_, rfl, ?_⟩; have n0_ := Aside0.mk (below_step (by repeat (first | (with_reducible first | exact HB.out | apply below_alloc | apply pw_below_drewN | apply below_drew1) | exact HB.out)) hb); clear HB; have HB := n0_; clear n0_; (try clear hb); (try clear hb2); (try clear hk); (try clear hi)) | (go_at_call 15; (with_reducible refine (budwoodlaw02_awake.calls kj36  t232 _ A61.out ?side1).mono ?_); (case side1 => refine Glob.below (by first | exact hG_ | exact hG_.g) ?_; repeat (first | (with_reducible first | exact HB.out | apply below_alloc | apply pw_below_drewN | apply below_drew1) | exact HB.out)); rintro e w64 ⟨rfl, hb⟩; have n0_ := Aside0.mk (below_step (by repeat (first | (with_reducible first | exact HB.out | apply below_alloc | apply pw_below_drewN | apply below_drew1) | exact HB.out)) hb); clear HB; have HB := n0_; clear n0_; (try clear hb); (try clear hb2); (try clear hk); (try clear hi)))
              go_ret
              exact ⟨by first | rfl | (simp [errW_none, errW_some] <;> rfl) | (simp [*, errW_none, errW_some] <;> rfl), by repeat (first | (with_reducible first | exact HB.out | apply below_alloc | apply pw_below_drewN | apply below_drew1) | exact HB.out)⟩
            · rw [if_neg c60] at H
              have c60b0 : (t226.toList == ([] : List UInt8)) = false := beq_eq_false_iff_ne.mpr c60
              have c60b1 : (t226.toList != ([] : List UInt8)) = true := bne_iff_ne.mpr c60
              obtain rfl := Option.some.inj H
              go_wp2_with (first | ((with_reducible refine gate_callee (f := 22) rfl ?_); refine goesL_ (some 65) rfl rfl Tryd.func22 (by kernel_rfl) rfl #[.string a1, .int .i64 (Int.tmod (wrap64 (a2)) 1000)] rfl (by (try simp only [List.map_toArray, List.map_cons, List.map_nil]); first | done | rfl | (simp only [List.length_drop, List.length_take]; rfl)) ?_; (with_reducible refine (name_Join.calls kj36 a1 (Int.tmod (wrap64 (a2)) 1000) t226 t227 _ A44.out ?side1).mono ?_); (case side1 => refine GlobT.below (by first | exact hG_ | exact hG_.g) ?_; repeat (first | (with_reducible first | exact HB.out | apply below_alloc | apply pw_below_drewN | apply below_drew1) | exact HB.out)); rintro e w65 ⟨rfl, hb⟩; refine ⟨_, rfl, ?_⟩; have n0_ := Aside0.mk (below_step (by repeat (first | (with_reducible first | exact HB.out | apply below_alloc | apply pw_below_drewN | apply below_drew1) | exact HB.out)) hb); clear HB; have HB := n0_; clear n0_; (try clear hb); (try clear hb2); (try clear hk); (try clear hi)) | ((with_reducible refine gate_callee (f := 16) rfl ?_); refine goesL_ (some 70) rfl rfl Tryd.func16 (by kernel_rfl) rfl #[.string t226] rfl (by (try simp only [List.map_toArray, List.map_cons, List.map_nil]); first | done | rfl | (simp only [List.length_drop, List.length_take]; rfl)) ?_; (with_reducible refine (name_Split.calls kj36 t226 t228 t229 t230 _ A45.out ?side1).mono ?_); (case side1 => refine Glob.below (by first | exact hG_ | exact hG_.g) ?_; repeat (first | (with_reducible first | exact HB.out | apply below_alloc | apply pw_below_drewN | apply below_drew1) | exact HB.out)); rintro e w66 ⟨rfl, hb⟩; refine ⟨_, rfl, ?_⟩; have n0_ := Aside0.mk (below_step (by repeat (first | (with_reducible first | exact HB.out | apply below_alloc | apply pw_below_drewN | apply below_drew1) | exact HB.out)) hb); clear HB; have HB := n0_; clear n0_; (try clear hb); (try clear hb2); (try clear hk); (try clear hi)))
              go_ret
              exact ⟨by first | rfl | (simp [errW_none, errW_some] <;> rfl) | (simp [*, errW_none, errW_some] <;> rfl), by repeat (first | (with_reducible first | exact HB.out | apply below_alloc | apply pw_below_drewN | apply below_drew1) | exact HB.out)⟩

/-! ### budwoodlaw02_NameVersions: function 10 -/
def budwoodlaw02_NameVersions.j0 : Nat → Int → Int → ByteArray → ByteArray → ByteArray → Bool → Option (Bool)
  | 0, _, _, _, _, _, _ => none
  | k + 1, x7, x8, x9, x11, x13, x49 => if x49 = true then ((budwoodlaw02_awake.f k).bind fun t239 => (some t239)) else ((name_Less.f k x9 x11).bind fun t240 => (if (t240 == (decide (x7 < x8))) = true then ((name_Less.f k x13 x9).bind fun t241 => (if t241 = true then ((name_Less.f k x9 x13).bind fun t242 => (if t242 = true then (some false) else ((budwoodlaw02_awake.f k).bind fun t243 => (some t243)))) else (some false))) else (some false)))
def budwoodlaw02_NameVersions.f (k : Nat) (a0 : ByteArray) (a1 : Int) (a2 : Int) : Option (Bool) := (name_Join.f k a0 (wrap64 (1 + (Int.tmod (wrap64 (a1)) 999)))).bind fun bt233 => ((name_Join.f k a0 (wrap64 (1 + (Int.tmod (wrap64 (a2)) 999)))).bind fun bt235 => ((name_Join.f k a0 0).bind fun bt237 => (if bt233.2 = 0 then (if bt235.2 = 0 then (budwoodlaw02_NameVersions.j0 k (wrap64 (1 + (Int.tmod (wrap64 (a1)) 999))) (wrap64 (1 + (Int.tmod (wrap64 (a2)) 999))) bt233.1 bt235.1 bt237.1 (bt237.2 != 0)) else (budwoodlaw02_NameVersions.j0 k (wrap64 (1 + (Int.tmod (wrap64 (a1)) 999))) (wrap64 (1 + (Int.tmod (wrap64 (a2)) 999))) bt233.1 bt235.1 bt237.1 true)) else (budwoodlaw02_NameVersions.j0 k (wrap64 (1 + (Int.tmod (wrap64 (a1)) 999))) (wrap64 (1 + (Int.tmod (wrap64 (a2)) 999))) bt233.1 bt235.1 bt237.1 true))))
theorem budwoodlaw02_NameVersions.mono_l : ∀ k, (∀ y0 y1 y2 y3 y4 y5, LeO (budwoodlaw02_NameVersions.j0 k y0 y1 y2 y3 y4 y5) (budwoodlaw02_NameVersions.j0 (k + 1) y0 y1 y2 y3 y4 y5))
  | 0 => fun _ _ _ _ _ _ r h => by simp [budwoodlaw02_NameVersions.j0] at h
  | k + 1 => by
    have ih0 := budwoodlaw02_NameVersions.mono_l k
    · intro y0 y1 y2 y3 y4 y5
      unfold budwoodlaw02_NameVersions.j0
      repeat' first
      | (with_reducible exact ih0 _ _ _ _ _ _)
      | (with_reducible exact budwoodlaw02_awake.mono _)
      | (with_reducible exact name_Join.mono _ _ _)
      | (with_reducible exact name_Less.mono _ _ _)
      | (with_reducible exact LeO.refl _)
      | (with_reducible exact LeO.none _)
      | (with_reducible refine LeO.ite ?_ ?_)
      | (with_reducible refine LeO.bind ?_ (fun _ => ?_))
      | exact ih0 _ _ _ _ _ _
      | exact budwoodlaw02_awake.mono _
      | exact name_Join.mono _ _ _
      | exact name_Less.mono _ _ _
      | exact LeO.none _
      | refine LeO.ite ?_ ?_
      | refine LeO.bind ?_ (fun _ => ?_)
theorem budwoodlaw02_NameVersions.mono : ∀ a0 a1 a2 k, LeO (budwoodlaw02_NameVersions.f k a0 a1 a2) (budwoodlaw02_NameVersions.f (k + 1) a0 a1 a2) := by
  intro a0 a1 a2 k
  have ih0 := budwoodlaw02_NameVersions.mono_l k
  unfold budwoodlaw02_NameVersions.f
  repeat' first
      | (with_reducible exact ih0 _ _ _ _ _ _)
      | (with_reducible exact budwoodlaw02_awake.mono _)
      | (with_reducible exact name_Join.mono _ _ _)
      | (with_reducible exact name_Less.mono _ _ _)
      | (with_reducible exact LeO.refl _)
      | (with_reducible exact LeO.none _)
      | (with_reducible refine LeO.ite ?_ ?_)
      | (with_reducible refine LeO.bind ?_ (fun _ => ?_))
      | exact ih0 _ _ _ _ _ _
      | exact budwoodlaw02_awake.mono _
      | exact name_Join.mono _ _ _
      | exact name_Less.mono _ _ _
      | exact LeO.none _
      | refine LeO.ite ?_ ?_
      | refine LeO.bind ?_ (fun _ => ?_)
set_option maxHeartbeats 8000000 in
set_option maxRecDepth 100000 in
theorem budwoodlaw02_NameVersions.calls (k : Nat) (a0 : ByteArray) (a1 : Int) (a2 : Int) (r : Bool) (w : World) (h : budwoodlaw02_NameVersions.f k a0 a1 a2 = some r) (hG_ : GlobT w) :
    Calls Tryd.prog 10 #[.string a0, .int .u16 a1, .int .u16 a2] w fun e w' => e = .returned (.bool r) ∧ Below w.heap.size w w' := by
  have HB := Aside0.mk (Below.refl w.heap.size w)
  have H : ((name_Join.f k a0 (wrap64 (1 + (Int.tmod (wrap64 (a1)) 999)))).bind fun bt233 => ((name_Join.f k a0 (wrap64 (1 + (Int.tmod (wrap64 (a2)) 999)))).bind fun bt235 => ((name_Join.f k a0 0).bind fun bt237 => (if bt233.2 = 0 then (if bt235.2 = 0 then (budwoodlaw02_NameVersions.j0 k (wrap64 (1 + (Int.tmod (wrap64 (a1)) 999))) (wrap64 (1 + (Int.tmod (wrap64 (a2)) 999))) bt233.1 bt235.1 bt237.1 (bt237.2 != 0)) else (budwoodlaw02_NameVersions.j0 k (wrap64 (1 + (Int.tmod (wrap64 (a1)) 999))) (wrap64 (1 + (Int.tmod (wrap64 (a2)) 999))) bt233.1 bt235.1 bt237.1 true)) else (budwoodlaw02_NameVersions.j0 k (wrap64 (1 + (Int.tmod (wrap64 (a1)) 999))) (wrap64 (1 + (Int.tmod (wrap64 (a2)) 999))) bt233.1 bt235.1 bt237.1 true))))) = some r := h
  clear h
  replace H := Option.bind_eq_some_iff.mp H
  obtain ⟨⟨t233, t234⟩, A40, H⟩ := H
  replace H : ((name_Join.f k a0 (wrap64 (1 + (Int.tmod (wrap64 (a2)) 999)))).bind fun bt235 => ((name_Join.f k a0 0).bind fun bt237 => (if t234 = 0 then (if bt235.2 = 0 then (budwoodlaw02_NameVersions.j0 k (wrap64 (1 + (Int.tmod (wrap64 (a1)) 999))) (wrap64 (1 + (Int.tmod (wrap64 (a2)) 999))) t233 bt235.1 bt237.1 (bt237.2 != 0)) else (budwoodlaw02_NameVersions.j0 k (wrap64 (1 + (Int.tmod (wrap64 (a1)) 999))) (wrap64 (1 + (Int.tmod (wrap64 (a2)) 999))) t233 bt235.1 bt237.1 true)) else (budwoodlaw02_NameVersions.j0 k (wrap64 (1 + (Int.tmod (wrap64 (a1)) 999))) (wrap64 (1 + (Int.tmod (wrap64 (a2)) 999))) t233 bt235.1 bt237.1 true)))) = some r := H
  have A4 := Aside0.mk A40
  clear A40
  replace H := Option.bind_eq_some_iff.mp H
  obtain ⟨⟨t235, t236⟩, A50, H⟩ := H
  replace H : ((name_Join.f k a0 0).bind fun bt237 => (if t234 = 0 then (if t236 = 0 then (budwoodlaw02_NameVersions.j0 k (wrap64 (1 + (Int.tmod (wrap64 (a1)) 999))) (wrap64 (1 + (Int.tmod (wrap64 (a2)) 999))) t233 t235 bt237.1 (bt237.2 != 0)) else (budwoodlaw02_NameVersions.j0 k (wrap64 (1 + (Int.tmod (wrap64 (a1)) 999))) (wrap64 (1 + (Int.tmod (wrap64 (a2)) 999))) t233 t235 bt237.1 true)) else (budwoodlaw02_NameVersions.j0 k (wrap64 (1 + (Int.tmod (wrap64 (a1)) 999))) (wrap64 (1 + (Int.tmod (wrap64 (a2)) 999))) t233 t235 bt237.1 true))) = some r := H
  have A5 := Aside0.mk A50
  clear A50
  replace H := Option.bind_eq_some_iff.mp H
  obtain ⟨⟨t237, t238⟩, A60, H⟩ := H
  replace H : (if t234 = 0 then (if t236 = 0 then (budwoodlaw02_NameVersions.j0 k (wrap64 (1 + (Int.tmod (wrap64 (a1)) 999))) (wrap64 (1 + (Int.tmod (wrap64 (a2)) 999))) t233 t235 t237 (t238 != 0)) else (budwoodlaw02_NameVersions.j0 k (wrap64 (1 + (Int.tmod (wrap64 (a1)) 999))) (wrap64 (1 + (Int.tmod (wrap64 (a2)) 999))) t233 t235 t237 true)) else (budwoodlaw02_NameVersions.j0 k (wrap64 (1 + (Int.tmod (wrap64 (a1)) 999))) (wrap64 (1 + (Int.tmod (wrap64 (a2)) 999))) t233 t235 t237 true)) = some r := H
  have A6 := Aside0.mk A60
  clear A60
  have HC7 := Aside0.mk H
  clear H
  go_enter Tryd.func10, Tryd.ntmps10
  go_upto_region 5 with (first | ((with_reducible refine gate_callee (f := 22) rfl ?_); refine goesL_ (some 26) rfl rfl Tryd.func22 (by kernel_rfl) rfl #[.string a0, .int .i64 (wrap64 (1 + (Int.tmod (wrap64 (a1)) 999)))] rfl (by (try simp only [List.map_toArray, List.map_cons, List.map_nil]); first | done | rfl | (simp only [List.length_drop, List.length_take]; rfl)) ?_; (with_reducible refine (name_Join.calls k a0 (wrap64 (1 + (Int.tmod (wrap64 (a1)) 999))) t233 t234 _ A4.out ?side1).mono ?_); (case side1 => refine GlobT.below (by first | exact hG_ | exact hG_.g) ?_; repeat (first | (with_reducible first | exact HB.out | apply below_alloc | apply pw_below_drewN | apply below_drew1) | exact HB.out)); rintro e w8 ⟨rfl, hb⟩; refine ⟨_, rfl, ?_⟩; have n0_ := Aside0.mk (below_step (by repeat (first | (with_reducible first | exact HB.out | apply below_alloc | apply pw_below_drewN | apply below_drew1) | exact HB.out)) hb); clear HB; have HB := n0_; clear n0_; (try clear hb); (try clear hb2); (try clear hk); (try clear hi)) | ((with_reducible refine gate_callee (f := 22) rfl ?_); refine goesL_ (some 32) rfl rfl Tryd.func22 (by kernel_rfl) rfl #[.string a0, .int .i64 (wrap64 (1 + (Int.tmod (wrap64 (a2)) 999)))] rfl (by (try simp only [List.map_toArray, List.map_cons, List.map_nil]); first | done | rfl | (simp only [List.length_drop, List.length_take]; rfl)) ?_; (with_reducible refine (name_Join.calls k a0 (wrap64 (1 + (Int.tmod (wrap64 (a2)) 999))) t235 t236 _ A5.out ?side1).mono ?_); (case side1 => refine GlobT.below (by first | exact hG_ | exact hG_.g) ?_; repeat (first | (with_reducible first | exact HB.out | apply below_alloc | apply pw_below_drewN | apply below_drew1) | exact HB.out)); rintro e w9 ⟨rfl, hb⟩; refine ⟨_, rfl, ?_⟩; have n0_ := Aside0.mk (below_step (by repeat (first | (with_reducible first | exact HB.out | apply below_alloc | apply pw_below_drewN | apply below_drew1) | exact HB.out)) hb); clear HB; have HB := n0_; clear n0_; (try clear hb); (try clear hb2); (try clear hk); (try clear hi)) | ((with_reducible refine gate_callee (f := 22) rfl ?_); refine goesL_ (some 37) rfl rfl Tryd.func22 (by kernel_rfl) rfl #[.string a0, .int .i64 0] rfl (by (try simp only [List.map_toArray, List.map_cons, List.map_nil]); first | done | rfl | (simp only [List.length_drop, List.length_take]; rfl)) ?_; (with_reducible refine (name_Join.calls k a0 0 t237 t238 _ A6.out ?side1).mono ?_); (case side1 => refine GlobT.below (by first | exact hG_ | exact hG_.g) ?_; repeat (first | (with_reducible first | exact HB.out | apply below_alloc | apply pw_below_drewN | apply below_drew1) | exact HB.out)); rintro e w10 ⟨rfl, hb⟩; refine ⟨_, rfl, ?_⟩; have n0_ := Aside0.mk (below_step (by repeat (first | (with_reducible first | exact HB.out | apply below_alloc | apply pw_below_drewN | apply below_drew1) | exact HB.out)) hb); clear HB; have HB := n0_; clear n0_; (try clear hb); (try clear hb2); (try clear hk); (try clear hi)))
  (try simp only [Act.put, List.setIfInBounds_toArray, List.set_cons_zero, List.set_cons_succ])
  go_cut [49] (fun v49 wc => ∃ (kq : Nat) (x49_6 : Bool), v49 = .bool x49_6 ∧ Aside0 (budwoodlaw02_NameVersions.j0 kq (wrap64 (1 + (Int.tmod (wrap64 (a1)) 999))) (wrap64 (1 + (Int.tmod (wrap64 (a2)) 999))) t233 t235 t237 x49_6 = some r) ∧ Aside0 (kq ≤ k) ∧ Aside0 (Below w.heap.size w wc))
  case first =>
    have H := HC7.out
    clear HC7
    by_cases c11 : t234 = 0
    · rw [if_pos c11] at H
      have c11b0 : (t234 == 0) = true := beq_iff_eq.mpr c11
      have c11b1 : (t234 != 0) = false := bne_eq_false_iff_eq.mpr c11
      clear c11
      (first | rw [c11b0] | (simp only [i64_w, i32_w]; rw [c11b0]) | skip)
      by_cases c12 : t236 = 0
      · rw [if_pos c12] at H
        have c12b0 : (t236 == 0) = true := beq_iff_eq.mpr c12
        have c12b1 : (t236 != 0) = false := bne_eq_false_iff_eq.mpr c12
        clear c12
        have H' := Aside0.mk H
        clear H
        go_wp2
        go_meet
        case rel => exact ⟨_, ((t238 != 0)), (by first | rfl | (simp; done) | (simp [*]; done)), H', ⟨by first | omega | exact Nat.le_refl _⟩, ⟨by repeat (first | (with_reducible first | exact HB.out | apply below_alloc | apply pw_below_drewN | apply below_drew1) | exact HB.out)⟩⟩
      · rw [if_neg c12] at H
        have c12b0 : (t236 == 0) = false := beq_eq_false_iff_ne.mpr c12
        have c12b1 : (t236 != 0) = true := bne_iff_ne.mpr c12
        have H' := Aside0.mk H
        clear H
        go_wp2
        go_meet
        case rel => exact ⟨_, (true), (by first | rfl | (simp; done) | (simp [*]; done)), H', ⟨by first | omega | exact Nat.le_refl _⟩, ⟨by repeat (first | (with_reducible first | exact HB.out | apply below_alloc | apply pw_below_drewN | apply below_drew1) | exact HB.out)⟩⟩
    · rw [if_neg c11] at H
      have c11b0 : (t234 == 0) = false := beq_eq_false_iff_ne.mpr c11
      have c11b1 : (t234 != 0) = true := bne_iff_ne.mpr c11
      (first | rw [c11b0] | (simp only [i64_w, i32_w]; rw [c11b0]) | skip)
      have H' := Aside0.mk H
      clear H
      go_wp2
      go_meet
      case rel => exact ⟨_, (true), (by first | rfl | (simp; done) | (simp [*]; done)), H', ⟨by first | omega | exact Nat.le_refl _⟩, ⟨by repeat (first | (with_reducible first | exact HB.out | apply below_alloc | apply pw_below_drewN | apply below_drew1) | exact HB.out)⟩⟩
  case rest =>
    clear HC7
    try clear c1
    try clear c2
    try clear p2
    try clear p6
    try clear c10
    try clear c11
    try clear c11b0
    try clear c11b1
    try clear c12
    try clear c12b0
    try clear c12b1
    obtain ⟨kq, x49_6, rfl, HA, HJ6, HB⟩ := hcut
    cases kq with
    | zero => exact absurd HA.out (by simp [budwoodlaw02_NameVersions.j0])
    | succ kj6 =>
      have H := HA.out
      clear HA
      simp only [budwoodlaw02_NameVersions.j0] at H
      by_cases c13 : x49_6 = true
      · subst c13
        have H1 : ((budwoodlaw02_awake.f kj6).bind fun t239 => (some t239)) = some r := by rw [if_pos rfl] at H; exact H
        clear H
        have H := H1
        clear H1
        replace H := Option.bind_eq_some_iff.mp H
        obtain ⟨t239, A140, H⟩ := H
        replace H : (some t239) = some r := H
        have A14 := Aside0.mk A140
        clear A140
        obtain rfl := Option.some.inj H
        go_wp2_with (first | ((with_reducible refine gate_callee (f := 15) rfl ?_); refine goesL_ (some 50) rfl rfl Tryd.func15 (by kernel_rfl) rfl #[] rfl (by (try simp only [List.map_toArray, List.map_cons, List.map_nil]); first | done | rfl | (simp only [List.length_drop, List.length_take]; rfl)) ?_; (with_reducible refine (budwoodlaw02_awake.calls kj6  t239 _ A14.out ?side1).mono ?_); (case side1 => refine Glob.below (by first | exact hG_ | exact hG_.g) ?_; repeat (first | (with_reducible first | exact HB.out | apply below_alloc | apply pw_below_drewN | apply below_drew1) | exact HB.out)); rintro e w15 ⟨rfl, hb⟩; refine ⟨_, rfl, ?_⟩; have n0_ := Aside0.mk (below_step (by repeat (first | (with_reducible first | exact HB.out | apply below_alloc | apply pw_below_drewN | apply below_drew1) | exact HB.out)) hb); clear HB; have HB := n0_; clear n0_; (try clear hb); (try clear hb2); (try clear hk); (try clear hi)))
        go_ret
        exact ⟨by first | rfl | (simp [errW_none, errW_some] <;> rfl) | (simp [*, errW_none, errW_some] <;> rfl), by repeat (first | (with_reducible first | exact HB.out | apply below_alloc | apply pw_below_drewN | apply below_drew1) | exact HB.out)⟩
      · replace c13 := Bool.eq_false_iff.mpr c13
        subst c13
        have H1 : ((name_Less.f kj6 t233 t235).bind fun t240 => (if (t240 == (decide ((wrap64 (1 + (Int.tmod (wrap64 (a1)) 999))) < (wrap64 (1 + (Int.tmod (wrap64 (a2)) 999)))))) = true then ((name_Less.f kj6 t237 t233).bind fun t241 => (if t241 = true then ((name_Less.f kj6 t233 t237).bind fun t242 => (if t242 = true then (some false) else ((budwoodlaw02_awake.f kj6).bind fun t243 => (some t243)))) else (some false))) else (some false))) = some r := by rw [if_neg (show ¬ (false = true) by decide)] at H; exact H
        clear H
        have H := H1
        clear H1
        replace H := Option.bind_eq_some_iff.mp H
        obtain ⟨t240, A160, H⟩ := H
        replace H : (if (t240 == (decide ((wrap64 (1 + (Int.tmod (wrap64 (a1)) 999))) < (wrap64 (1 + (Int.tmod (wrap64 (a2)) 999)))))) = true then ((name_Less.f kj6 t237 t233).bind fun t241 => (if t241 = true then ((name_Less.f kj6 t233 t237).bind fun t242 => (if t242 = true then (some false) else ((budwoodlaw02_awake.f kj6).bind fun t243 => (some t243)))) else (some false))) else (some false)) = some r := H
        have A16 := Aside0.mk A160
        clear A160
        by_cases c17 : (t240 == (decide ((wrap64 (1 + (Int.tmod (wrap64 (a1)) 999))) < (wrap64 (1 + (Int.tmod (wrap64 (a2)) 999)))))) = true
        · rw [if_pos c17] at H
          have c17b0 : (t240 == (decide ((wrap64 (1 + (Int.tmod (wrap64 (a1)) 999))) < (wrap64 (1 + (Int.tmod (wrap64 (a2)) 999)))))) = true := c17
          (try (have c17b1 : decide (t240 = (decide ((wrap64 (1 + (Int.tmod (wrap64 (a1)) 999))) < (wrap64 (1 + (Int.tmod (wrap64 (a2)) 999)))))) = true := by simpa using c17))
          (try (have c17b2 : (t240 == (decide ((wrap64 (1 + (Int.tmod (wrap64 (a1)) 999))) < (wrap64 (1 + (Int.tmod (wrap64 (a2)) 999)))))) = true := by simpa using c17))
          clear c17
          replace H := Option.bind_eq_some_iff.mp H
          obtain ⟨t241, A180, H⟩ := H
          replace H : (if t241 = true then ((name_Less.f kj6 t233 t237).bind fun t242 => (if t242 = true then (some false) else ((budwoodlaw02_awake.f kj6).bind fun t243 => (some t243)))) else (some false)) = some r := H
          have A18 := Aside0.mk A180
          clear A180
          by_cases c19 : t241 = true
          · subst c19
            have H1 : ((name_Less.f kj6 t233 t237).bind fun t242 => (if t242 = true then (some false) else ((budwoodlaw02_awake.f kj6).bind fun t243 => (some t243)))) = some r := by rw [if_pos rfl] at H; exact H
            clear H
            have H := H1
            clear H1
            replace H := Option.bind_eq_some_iff.mp H
            obtain ⟨t242, A200, H⟩ := H
            replace H : (if t242 = true then (some false) else ((budwoodlaw02_awake.f kj6).bind fun t243 => (some t243))) = some r := H
            have A20 := Aside0.mk A200
            clear A200
            by_cases c21 : t242 = true
            · subst c21
              have H1 : (some false) = some r := by rw [if_pos rfl] at H; exact H
              clear H
              have H := H1
              clear H1
              obtain rfl := Option.some.inj H
              go_wp2_with (first | ((with_reducible refine gate_callee (f := 18) rfl ?_); refine goesL_ (some 53) rfl rfl Tryd.func18 (by kernel_rfl) rfl #[.string t233, .string t235] rfl (by (try simp only [List.map_toArray, List.map_cons, List.map_nil]); first | done | rfl | (simp only [List.length_drop, List.length_take]; rfl)) ?_; (with_reducible refine (name_Less.calls kj6 t233 t235 t240 _ A16.out ?side1).mono ?_); (case side1 => refine Glob.below (by first | exact hG_ | exact hG_.g) ?_; repeat (first | (with_reducible first | exact HB.out | apply below_alloc | apply pw_below_drewN | apply below_drew1) | exact HB.out)); rintro e w22 ⟨rfl, hb⟩; refine ⟨_, rfl, ?_⟩; have n0_ := Aside0.mk (below_step (by repeat (first | (with_reducible first | exact HB.out | apply below_alloc | apply pw_below_drewN | apply below_drew1) | exact HB.out)) hb); clear HB; have HB := n0_; clear n0_; (try clear hb); (try clear hb2); (try clear hk); (try clear hi)) | (go_at_call 18; (with_reducible refine (name_Less.calls kj6 t237 t233 true _ A18.out ?side1).mono ?_); (case side1 => refine Glob.below (by first | exact hG_ | exact hG_.g) ?_; repeat (first | (with_reducible first | exact HB.out | apply below_alloc | apply pw_below_drewN | apply below_drew1) | exact HB.out)); rintro e w23 ⟨rfl, hb⟩; have n0_ := Aside0.mk (below_step (by repeat (first | (with_reducible first | exact HB.out | apply below_alloc | apply pw_below_drewN | apply below_drew1) | exact HB.out)) hb); clear HB; have HB := n0_; clear n0_; (try clear hb); (try clear hb2); (try clear hk); (try clear hi)) | (go_at_call 18; (with_reducible refine (name_Less.calls kj6 t233 t237 true _ A20.out ?side1).mono ?_); (case side1 => refine Glob.below (by first | exact hG_ | exact hG_.g) ?_; repeat (first | (with_reducible first | exact HB.out | apply below_alloc | apply pw_below_drewN | apply below_drew1) | exact HB.out)); rintro e w24 ⟨rfl, hb⟩; have n0_ := Aside0.mk (below_step (by repeat (first | (with_reducible first | exact HB.out | apply below_alloc | apply pw_below_drewN | apply below_drew1) | exact HB.out)) hb); clear HB; have HB := n0_; clear n0_; (try clear hb); (try clear hb2); (try clear hk); (try clear hi)))
              go_ret
              exact ⟨by first | rfl | (simp [errW_none, errW_some] <;> rfl) | (simp [*, errW_none, errW_some] <;> rfl), by repeat (first | (with_reducible first | exact HB.out | apply below_alloc | apply pw_below_drewN | apply below_drew1) | exact HB.out)⟩
            · replace c21 := Bool.eq_false_iff.mpr c21
              subst c21
              have H1 : ((budwoodlaw02_awake.f kj6).bind fun t243 => (some t243)) = some r := by rw [if_neg (show ¬ (false = true) by decide)] at H; exact H
              clear H
              have H := H1
              clear H1
              replace H := Option.bind_eq_some_iff.mp H
              obtain ⟨t243, A250, H⟩ := H
              replace H : (some t243) = some r := H
              have A25 := Aside0.mk A250
              clear A250
              obtain rfl := Option.some.inj H
              go_wp2_with (first | ((with_reducible refine gate_callee (f := 18) rfl ?_); refine goesL_ (some 53) rfl rfl Tryd.func18 (by kernel_rfl) rfl #[.string t233, .string t235] rfl (by (try simp only [List.map_toArray, List.map_cons, List.map_nil]); first | done | rfl | (simp only [List.length_drop, List.length_take]; rfl)) ?_; (with_reducible refine (name_Less.calls kj6 t233 t235 t240 _ A16.out ?side1).mono ?_); (case side1 => refine Glob.below (by first | exact hG_ | exact hG_.g) ?_; repeat (first | (with_reducible first | exact HB.out | apply below_alloc | apply pw_below_drewN | apply below_drew1) | exact HB.out)); rintro e w26 ⟨rfl, hb⟩; refine ⟨_, rfl, ?_⟩; have n0_ := Aside0.mk (below_step (by repeat (first | (with_reducible first | exact HB.out | apply below_alloc | apply pw_below_drewN | apply below_drew1) | exact HB.out)) hb); clear HB; have HB := n0_; clear n0_; (try clear hb); (try clear hb2); (try clear hk); (try clear hi)) | (go_at_call 18; (with_reducible refine (name_Less.calls kj6 t237 t233 true _ A18.out ?side1).mono ?_); (case side1 => refine Glob.below (by first | exact hG_ | exact hG_.g) ?_; repeat (first | (with_reducible first | exact HB.out | apply below_alloc | apply pw_below_drewN | apply below_drew1) | exact HB.out)); rintro e w27 ⟨rfl, hb⟩; have n0_ := Aside0.mk (below_step (by repeat (first | (with_reducible first | exact HB.out | apply below_alloc | apply pw_below_drewN | apply below_drew1) | exact HB.out)) hb); clear HB; have HB := n0_; clear n0_; (try clear hb); (try clear hb2); (try clear hk); (try clear hi)) | (go_at_call 18; (with_reducible refine (name_Less.calls kj6 t233 t237 false _ A20.out ?side1).mono ?_); (case side1 => refine Glob.below (by first | exact hG_ | exact hG_.g) ?_; repeat (first | (with_reducible first | exact HB.out | apply below_alloc | apply pw_below_drewN | apply below_drew1) | exact HB.out)); rintro e w28 ⟨rfl, hb⟩; have n0_ := Aside0.mk (below_step (by repeat (first | (with_reducible first | exact HB.out | apply below_alloc | apply pw_below_drewN | apply below_drew1) | exact HB.out)) hb); clear HB; have HB := n0_; clear n0_; (try clear hb); (try clear hb2); (try clear hk); (try clear hi)) | (go_at_call 15; (with_reducible refine (budwoodlaw02_awake.calls kj6  t243 _ A25.out ?side1).mono ?_); (case side1 => refine Glob.below (by first | exact hG_ | exact hG_.g) ?_; repeat (first | (with_reducible first | exact HB.out | apply below_alloc | apply pw_below_drewN | apply below_drew1) | exact HB.out)); rintro e w29 ⟨rfl, hb⟩; have n0_ := Aside0.mk (below_step (by repeat (first | (with_reducible first | exact HB.out | apply below_alloc | apply pw_below_drewN | apply below_drew1) | exact HB.out)) hb); clear HB; have HB := n0_; clear n0_; (try clear hb); (try clear hb2); (try clear hk); (try clear hi)))
              go_ret
              exact ⟨by first | rfl | (simp [errW_none, errW_some] <;> rfl) | (simp [*, errW_none, errW_some] <;> rfl), by repeat (first | (with_reducible first | exact HB.out | apply below_alloc | apply pw_below_drewN | apply below_drew1) | exact HB.out)⟩
          · replace c19 := Bool.eq_false_iff.mpr c19
            subst c19
            have H1 : (some false) = some r := by rw [if_neg (show ¬ (false = true) by decide)] at H; exact H
            clear H
            have H := H1
            clear H1
            obtain rfl := Option.some.inj H
            go_wp2_with (first | ((with_reducible refine gate_callee (f := 18) rfl ?_); refine goesL_ (some 53) rfl rfl Tryd.func18 (by kernel_rfl) rfl #[.string t233, .string t235] rfl (by (try simp only [List.map_toArray, List.map_cons, List.map_nil]); first | done | rfl | (simp only [List.length_drop, List.length_take]; rfl)) ?_; (with_reducible refine (name_Less.calls kj6 t233 t235 t240 _ A16.out ?side1).mono ?_); (case side1 => refine Glob.below (by first | exact hG_ | exact hG_.g) ?_; repeat (first | (with_reducible first | exact HB.out | apply below_alloc | apply pw_below_drewN | apply below_drew1) | exact HB.out)); rintro e w30 ⟨rfl, hb⟩; refine ⟨_, rfl, ?_⟩; have n0_ := Aside0.mk (below_step (by repeat (first | (with_reducible first | exact HB.out | apply below_alloc | apply pw_below_drewN | apply below_drew1) | exact HB.out)) hb); clear HB; have HB := n0_; clear n0_; (try clear hb); (try clear hb2); (try clear hk); (try clear hi)) | (go_at_call 18; (with_reducible refine (name_Less.calls kj6 t237 t233 false _ A18.out ?side1).mono ?_); (case side1 => refine Glob.below (by first | exact hG_ | exact hG_.g) ?_; repeat (first | (with_reducible first | exact HB.out | apply below_alloc | apply pw_below_drewN | apply below_drew1) | exact HB.out)); rintro e w31 ⟨rfl, hb⟩; have n0_ := Aside0.mk (below_step (by repeat (first | (with_reducible first | exact HB.out | apply below_alloc | apply pw_below_drewN | apply below_drew1) | exact HB.out)) hb); clear HB; have HB := n0_; clear n0_; (try clear hb); (try clear hb2); (try clear hk); (try clear hi)))
            go_ret
            exact ⟨by first | rfl | (simp [errW_none, errW_some] <;> rfl) | (simp [*, errW_none, errW_some] <;> rfl), by repeat (first | (with_reducible first | exact HB.out | apply below_alloc | apply pw_below_drewN | apply below_drew1) | exact HB.out)⟩
        · rw [if_neg c17] at H
          have c17b0 : (t240 == (decide ((wrap64 (1 + (Int.tmod (wrap64 (a1)) 999))) < (wrap64 (1 + (Int.tmod (wrap64 (a2)) 999)))))) = false := by simpa using c17
          (try (have c17b1 : decide (t240 = (decide ((wrap64 (1 + (Int.tmod (wrap64 (a1)) 999))) < (wrap64 (1 + (Int.tmod (wrap64 (a2)) 999)))))) = false := by simpa using c17))
          (try (have c17b2 : (t240 == (decide ((wrap64 (1 + (Int.tmod (wrap64 (a1)) 999))) < (wrap64 (1 + (Int.tmod (wrap64 (a2)) 999)))))) = false := by simpa using c17))
          (try (have c17b3 : ¬ (t240 = (decide ((wrap64 (1 + (Int.tmod (wrap64 (a1)) 999))) < (wrap64 (1 + (Int.tmod (wrap64 (a2)) 999)))))) := by simpa using c17))
          clear c17
          obtain rfl := Option.some.inj H
          go_wp2_with (first | ((with_reducible refine gate_callee (f := 18) rfl ?_); refine goesL_ (some 53) rfl rfl Tryd.func18 (by kernel_rfl) rfl #[.string t233, .string t235] rfl (by (try simp only [List.map_toArray, List.map_cons, List.map_nil]); first | done | rfl | (simp only [List.length_drop, List.length_take]; rfl)) ?_; (with_reducible refine (name_Less.calls kj6 t233 t235 t240 _ A16.out ?side1).mono ?_); (case side1 => refine Glob.below (by first | exact hG_ | exact hG_.g) ?_; repeat (first | (with_reducible first | exact HB.out | apply below_alloc | apply pw_below_drewN | apply below_drew1) | exact HB.out)); rintro e w32 ⟨rfl, hb⟩; refine ⟨_, rfl, ?_⟩; have n0_ := Aside0.mk (below_step (by repeat (first | (with_reducible first | exact HB.out | apply below_alloc | apply pw_below_drewN | apply below_drew1) | exact HB.out)) hb); clear HB; have HB := n0_; clear n0_; (try clear hb); (try clear hb2); (try clear hk); (try clear hi)))
          go_ret
          exact ⟨by first | rfl | (simp [errW_none, errW_some] <;> rfl) | (simp [*, errW_none, errW_some] <;> rfl), by repeat (first | (with_reducible first | exact HB.out | apply below_alloc | apply pw_below_drewN | apply below_drew1) | exact HB.out)⟩

end Go.Proofs.YtlejfpakgoaffaaDoor.P
