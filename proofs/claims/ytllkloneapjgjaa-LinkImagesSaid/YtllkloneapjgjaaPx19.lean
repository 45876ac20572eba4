-- WRITTEN BY bud.py (a program of this session's over the kit's print). Not trusted: Lean checks it.
import Derived.Test.YtllkloneapjgjaaPx0
import Derived.Test.YtllkloneapjgjaaPxf
namespace Go.Proofs.Ytllkloneapjgjaa.P
open Go.RowKit Go.Proofs.YtllkloneapjgjaaW.PrintWords Go.Proofs.YtllkloneapjgjaaW.PrintLast Go.Proofs.YtllkloneapjgjaaW.PrintMore
attribute [local go_sem] max2_int min2_int max_two min_two max_three min_three max_four min_four   -- for this text's walks alone
set_option linter.unusedVariables false
set_option linter.unusedSimpArgs false

/-! ### budwoodref10_Copy: function 9 -/
set_option maxHeartbeats 8000000 in
set_option maxRecDepth 100000 in
theorem budwoodref10_Copy.calls (a0_0 : ByteArray) (A0_1 : Option Addr) (c0_1 : Nat) (l0_1 : List ByteArray) (A0_2 : Option Addr) (c0_2 : Nat) (l0_2 : List ByteArray) (A0_3 : Option Addr) (c0_3 : Nat) (l0_3 : List Int) (A0_4 : Option Addr) (c0_4 : Nat) (l0_4 : List Int) (A0_5 : Option Addr) (c0_5 : Nat) (l0_5 : List (S53)) (r1 : ByteArray) (r2 : List ByteArray) (r3 : List ByteArray) (r4 : List Int) (r5 : List Int) (r6 : List (S53)) (w : World) (hr0_1 : Kd.C Kd.string w A0_1 l0_1.length l0_1) (hc0_1 : l0_1.length ≤ c0_1) (hr0_2 : Kd.C Kd.string w A0_2 l0_2.length l0_2) (hc0_2 : l0_2.length ≤ c0_2) (hr0_3 : Kd.C (Kd.int .u32) w A0_3 l0_3.length l0_3) (hc0_3 : l0_3.length ≤ c0_3) (hr0_4 : Kd.C (Kd.int .u32) w A0_4 l0_4.length l0_4) (hc0_4 : l0_4.length ≤ c0_4) (hr0_5 : Kd.C k53 w A0_5 l0_5.length l0_5) (hc0_5 : l0_5.length ≤ c0_5) (h : budwoodref10_Copy.f a0_0 l0_1 l0_2 l0_3 l0_4 l0_5 = some (r1, r2, r3, r4, r5, r6)) :
    Calls Try.prog 9 #[.agg #[.string a0_0, .slice A0_1 l0_1.length c0_1, .slice A0_2 l0_2.length c0_2, .slice A0_3 l0_3.length c0_3, .slice A0_4 l0_4.length c0_4, .slice A0_5 l0_5.length c0_5]] w fun e w' => ∃ v1_ v2_ v3_ v4_ v5_ : Value, e = .returned (.agg #[.string r1, v1_, v2_, v3_, v4_, v5_]) ∧ Kd.R Kd.string 9 w' w.heap.size (fun k_ => some k_ ≠ (v2_ : Value).ownBlock) v1_ r2 ∧ Kd.R Kd.string 9 w' w.heap.size (fun k_ => some k_ ≠ (v1_ : Value).ownBlock) v2_ r3 ∧ Kd.R (Kd.int .u32) 27 w' w.heap.size (fun k_ => some k_ ≠ (v4_ : Value).ownBlock) v3_ r4 ∧ Kd.R (Kd.int .u32) 27 w' w.heap.size (fun k_ => some k_ ≠ (v3_ : Value).ownBlock) v4_ r5 ∧ Kd.R k53 53 w' w.heap.size (fun _ => True) v5_ r6 ∧ Below w.heap.size w w' := by
  have hu26 := Try.underlying26
  have HR0_1 := Aside0.mk hr0_1
  have HC0_1 := Aside0.mk hc0_1
  clear hr0_1 hc0_1
  have HR0_2 := Aside0.mk hr0_2
  have HC0_2 := Aside0.mk hc0_2
  clear hr0_2 hc0_2
  have HR0_3 := Aside0.mk hr0_3
  have HC0_3 := Aside0.mk hc0_3
  clear hr0_3 hc0_3
  have HR0_4 := Aside0.mk hr0_4
  have HC0_4 := Aside0.mk hc0_4
  clear hr0_4 hc0_4
  have HR0_5 := Aside0.mk hr0_5
  have HC0_5 := Aside0.mk hc0_5
  clear hr0_5 hc0_5
  have HB := Aside0.mk (Below.refl w.heap.size w)
  have H : ((some (([] : List ByteArray) : List ByteArray)).bind fun y321 => (if y321.length + l0_1.length < 8796093022208 then ((some (([] : List ByteArray) : List ByteArray)).bind fun y327 => (if y327.length + l0_2.length < 8796093022208 then ((some (([] : List Int) : List Int)).bind fun y333 => (if y333.length + l0_3.length < 35184372088832 then ((some (([] : List Int) : List Int)).bind fun y339 => (if y339.length + l0_4.length < 35184372088832 then ((some (([] : List (S53)) : List (S53))).bind fun y345 => (if y345.length + l0_5.length < 23456248059221 then (some (a0_0, (y321 ++ l0_1), (y327 ++ l0_2), (y333 ++ l0_3), (y339 ++ l0_4), (y345 ++ l0_5))) else (none))) else (none))) else (none))) else (none))) else (none))) = some (r1, r2, r3, r4, r5, r6) := h
  clear h
  obtain ⟨y321, hy321⟩ : ∃ y_ : List ByteArray, y_ = (([] : List ByteArray)) := ⟨_, rfl⟩
  replace H : (if y321.length + l0_1.length < 8796093022208 then ((some (([] : List ByteArray) : List ByteArray)).bind fun y327 => (if y327.length + l0_2.length < 8796093022208 then ((some (([] : List Int) : List Int)).bind fun y333 => (if y333.length + l0_3.length < 35184372088832 then ((some (([] : List Int) : List Int)).bind fun y339 => (if y339.length + l0_4.length < 35184372088832 then ((some (([] : List (S53)) : List (S53))).bind fun y345 => (if y345.length + l0_5.length < 23456248059221 then (some (a0_0, (y321 ++ l0_1), (y327 ++ l0_2), (y333 ++ l0_3), (y339 ++ l0_4), (y345 ++ l0_5))) else (none))) else (none))) else (none))) else (none))) else (none)) = some (r1, r2, r3, r4, r5, r6) := by first | (rw [hy321]; with_reducible exact H) | (have H2_ := (Option.bind_some _ _).symm.trans H; rw [hy321]; with_reducible exact H2_) | (have H2_ := (Option.bind_some _ _).symm.trans H; with_reducible exact H2_) | with_reducible exact H | (rw [hy321]; exact H) | exact H
  have Ny321 := Aside0.mk hy321
  clear hy321
  by_cases c2 : y321.length + l0_1.length < 8796093022208
  · rw [if_pos c2] at H
    have LMc2 := Aside0.mk c2
    clear c2
    obtain ⟨y324, hy324⟩ : ∃ y_ : List ByteArray, y_ = (y321 ++ l0_1) := ⟨_, rfl⟩
    replace H : ((some (([] : List ByteArray) : List ByteArray)).bind fun y327 => (if y327.length + l0_2.length < 8796093022208 then ((some (([] : List Int) : List Int)).bind fun y333 => (if y333.length + l0_3.length < 35184372088832 then ((some (([] : List Int) : List Int)).bind fun y339 => (if y339.length + l0_4.length < 35184372088832 then ((some (([] : List (S53)) : List (S53))).bind fun y345 => (if y345.length + l0_5.length < 23456248059221 then (some (a0_0, y324, (y327 ++ l0_2), (y333 ++ l0_3), (y339 ++ l0_4), (y345 ++ l0_5))) else (none))) else (none))) else (none))) else (none))) = some (r1, r2, r3, r4, r5, r6) := by first | (rw [hy324]; with_reducible exact H) | (have H2_ := (Option.bind_some _ _).symm.trans H; rw [hy324]; with_reducible exact H2_) | (have H2_ := (Option.bind_some _ _).symm.trans H; with_reducible exact H2_) | with_reducible exact H | (rw [hy324]; exact H) | exact H
    have Ny324 := Aside0.mk hy324
    clear hy324
    obtain ⟨y327, hy327⟩ : ∃ y_ : List ByteArray, y_ = (([] : List ByteArray)) := ⟨_, rfl⟩
    replace H : (if y327.length + l0_2.length < 8796093022208 then ((some (([] : List Int) : List Int)).bind fun y333 => (if y333.length + l0_3.length < 35184372088832 then ((some (([] : List Int) : List Int)).bind fun y339 => (if y339.length + l0_4.length < 35184372088832 then ((some (([] : List (S53)) : List (S53))).bind fun y345 => (if y345.length + l0_5.length < 23456248059221 then (some (a0_0, y324, (y327 ++ l0_2), (y333 ++ l0_3), (y339 ++ l0_4), (y345 ++ l0_5))) else (none))) else (none))) else (none))) else (none)) = some (r1, r2, r3, r4, r5, r6) := by first | (rw [hy327]; with_reducible exact H) | (have H2_ := (Option.bind_some _ _).symm.trans H; rw [hy327]; with_reducible exact H2_) | (have H2_ := (Option.bind_some _ _).symm.trans H; with_reducible exact H2_) | with_reducible exact H | (rw [hy327]; exact H) | exact H
    have Ny327 := Aside0.mk hy327
    clear hy327
    by_cases c3 : y327.length + l0_2.length < 8796093022208
    · rw [if_pos c3] at H
      have LMc3 := Aside0.mk c3
      clear c3
      obtain ⟨y330, hy330⟩ : ∃ y_ : List ByteArray, y_ = (y327 ++ l0_2) := ⟨_, rfl⟩
      replace H : ((some (([] : List Int) : List Int)).bind fun y333 => (if y333.length + l0_3.length < 35184372088832 then ((some (([] : List Int) : List Int)).bind fun y339 => (if y339.length + l0_4.length < 35184372088832 then ((some (([] : List (S53)) : List (S53))).bind fun y345 => (if y345.length + l0_5.length < 23456248059221 then (some (a0_0, y324, y330, (y333 ++ l0_3), (y339 ++ l0_4), (y345 ++ l0_5))) else (none))) else (none))) else (none))) = some (r1, r2, r3, r4, r5, r6) := by first | (rw [hy330]; with_reducible exact H) | (have H2_ := (Option.bind_some _ _).symm.trans H; rw [hy330]; with_reducible exact H2_) | (have H2_ := (Option.bind_some _ _).symm.trans H; with_reducible exact H2_) | with_reducible exact H | (rw [hy330]; exact H) | exact H
      have Ny330 := Aside0.mk hy330
      clear hy330
      obtain ⟨y333, hy333⟩ : ∃ y_ : List Int, y_ = (([] : List Int)) := ⟨_, rfl⟩
      replace H : (if y333.length + l0_3.length < 35184372088832 then ((some (([] : List Int) : List Int)).bind fun y339 => (if y339.length + l0_4.length < 35184372088832 then ((some (([] : List (S53)) : List (S53))).bind fun y345 => (if y345.length + l0_5.length < 23456248059221 then (some (a0_0, y324, y330, (y333 ++ l0_3), (y339 ++ l0_4), (y345 ++ l0_5))) else (none))) else (none))) else (none)) = some (r1, r2, r3, r4, r5, r6) := by first | (rw [hy333]; with_reducible exact H) | (have H2_ := (Option.bind_some _ _).symm.trans H; rw [hy333]; with_reducible exact H2_) | (have H2_ := (Option.bind_some _ _).symm.trans H; with_reducible exact H2_) | with_reducible exact H | (rw [hy333]; exact H) | exact H
      have Ny333 := Aside0.mk hy333
      clear hy333
      by_cases c4 : y333.length + l0_3.length < 35184372088832
      · rw [if_pos c4] at H
        have LMc4 := Aside0.mk c4
        clear c4
        obtain ⟨y336, hy336⟩ : ∃ y_ : List Int, y_ = (y333 ++ l0_3) := ⟨_, rfl⟩
        replace H : ((some (([] : List Int) : List Int)).bind fun y339 => (if y339.length + l0_4.length < 35184372088832 then ((some (([] : List (S53)) : List (S53))).bind fun y345 => (if y345.length + l0_5.length < 23456248059221 then (some (a0_0, y324, y330, y336, (y339 ++ l0_4), (y345 ++ l0_5))) else (none))) else (none))) = some (r1, r2, r3, r4, r5, r6) := by first | (rw [hy336]; with_reducible exact H) | (have H2_ := (Option.bind_some _ _).symm.trans H; rw [hy336]; with_reducible exact H2_) | (have H2_ := (Option.bind_some _ _).symm.trans H; with_reducible exact H2_) | with_reducible exact H | (rw [hy336]; exact H) | exact H
        have Ny336 := Aside0.mk hy336
        clear hy336
        obtain ⟨y339, hy339⟩ : ∃ y_ : List Int, y_ = (([] : List Int)) := ⟨_, rfl⟩
        replace H : (if y339.length + l0_4.length < 35184372088832 then ((some (([] : List (S53)) : List (S53))).bind fun y345 => (if y345.length + l0_5.length < 23456248059221 then (some (a0_0, y324, y330, y336, (y339 ++ l0_4), (y345 ++ l0_5))) else (none))) else (none)) = some (r1, r2, r3, r4, r5, r6) := by first | (rw [hy339]; with_reducible exact H) | (have H2_ := (Option.bind_some _ _).symm.trans H; rw [hy339]; with_reducible exact H2_) | (have H2_ := (Option.bind_some _ _).symm.trans H; with_reducible exact H2_) | with_reducible exact H | (rw [hy339]; exact H) | exact H
        have Ny339 := Aside0.mk hy339
        clear hy339
        by_cases c5 : y339.length + l0_4.length < 35184372088832
        · rw [if_pos c5] at H
          have LMc5 := Aside0.mk c5
          clear c5
          obtain ⟨y342, hy342⟩ : ∃ y_ : List Int, y_ = (y339 ++ l0_4) := ⟨_, rfl⟩
          replace H : ((some (([] : List (S53)) : List (S53))).bind fun y345 => (if y345.length + l0_5.length < 23456248059221 then (some (a0_0, y324, y330, y336, y342, (y345 ++ l0_5))) else (none))) = some (r1, r2, r3, r4, r5, r6) := by first | (rw [hy342]; with_reducible exact H) | (have H2_ := (Option.bind_some _ _).symm.trans H; rw [hy342]; with_reducible exact H2_) | (have H2_ := (Option.bind_some _ _).symm.trans H; with_reducible exact H2_) | with_reducible exact H | (rw [hy342]; exact H) | exact H
          have Ny342 := Aside0.mk hy342
          clear hy342
          obtain ⟨y345, hy345⟩ : ∃ y_ : List (S53), y_ = (([] : List (S53))) := ⟨_, rfl⟩
          replace H : (if y345.length + l0_5.length < 23456248059221 then (some (a0_0, y324, y330, y336, y342, (y345 ++ l0_5))) else (none)) = some (r1, r2, r3, r4, r5, r6) := by first | (rw [hy345]; with_reducible exact H) | (have H2_ := (Option.bind_some _ _).symm.trans H; rw [hy345]; with_reducible exact H2_) | (have H2_ := (Option.bind_some _ _).symm.trans H; with_reducible exact H2_) | with_reducible exact H | (rw [hy345]; exact H) | exact H
          have Ny345 := Aside0.mk hy345
          clear hy345
          by_cases c6 : y345.length + l0_5.length < 23456248059221
          · rw [if_pos c6] at H
            have LMc6 := Aside0.mk c6
            clear c6
            obtain ⟨y348, hy348⟩ : ∃ y_ : List (S53), y_ = (y345 ++ l0_5) := ⟨_, rfl⟩
            replace H : (some (a0_0, y324, y330, y336, y342, y348)) = some (r1, r2, r3, r4, r5, r6) := by first | (rw [hy348]; with_reducible exact H) | (have H2_ := (Option.bind_some _ _).symm.trans H; rw [hy348]; with_reducible exact H2_) | (have H2_ := (Option.bind_some _ _).symm.trans H; with_reducible exact H2_) | with_reducible exact H | (rw [hy348]; exact H) | exact H
            have Ny348 := Aside0.mk hy348
            clear hy348
            simp only [Option.some.injEq, Prod.mk.injEq] at H
            obtain ⟨rfl, rfl, rfl, rfl, rfl, rfl⟩ := H
            go_enter Try.func9, Try.ntmps9
            try go_wp2_with (first | ((with_reducible refine gate_dst (N := 1) rfl ?_); refine zX (N := 1) (cs := #[.string a0_0, .slice A0_1 l0_1.length c0_1, .slice A0_2 l0_2.length c0_2, .slice A0_3 l0_3.length c0_3, .slice A0_4 l0_4.length c0_4, .slice A0_5 l0_5.length c0_5]) (t := 26) ?_ ?_; (focus first | (go_simp; done) | (go_simp; rfl)); intro gb319 hg w7 hbox hb; have BK319 := Aside0.mk (hbox); have GW319 := Aside0.mk (zS hg : w.heap.size ≤ gb319); have GE319 := Aside0.mk (zS hg : w.heap.size ≤ gb319); replace HB := Aside0.mk (below_step zB hb); clear hb hbox hg) | ((with_reducible refine gate_dst (N := 2) rfl ?_); refine zX (N := 2) (cs := #[.string (⟨#[]⟩ : ByteArray), .slice none 0 0, .slice none 0 0, .slice none 0 0, .slice none 0 0, .slice none 0 0]) (t := 26) ?_ ?_; (focus first | (go_simp; done) | (go_simp; rfl)); intro gb320 hg w8 hbox hb; have BK320 := Aside0.mk (hbox); have GW320 := Aside0.mk (zS hg : w.heap.size ≤ gb320); have GE320 := Aside0.mk (zS hg : w.heap.size ≤ gb320); have NB319_320 := Aside0.mk (zlt hg BK319 : gb319 ≠ gb320); have NB320_319 := Aside0.mk (zgt hg BK319 : gb320 ≠ gb319); replace BK319 := Aside0.mk (zL BK319 hb); replace HB := Aside0.mk (below_step zB hb); clear hb hbox hg))
            have n0_ := Aside0.mk (blk_drew BK319.out)
            have n1_ := Aside0.mk (blk_drew BK320.out)
            have n2_ := Aside0.mk (below_drew1 HB.out)
            clear BK319
            clear BK320
            clear HB
            have BK319 := n0_
            have BK320 := n1_
            have HB := n2_
            clear n0_ n1_ n2_
            refine start_ (n := 24) (S := fun w' => True) (ds := []) #[false, false, false, false, false, false, false, false, false, false, false, false, false, false, false, false, false, false, false, false, false, false, false, false] (by kernel_rfl) rfl rfl trivial (fun hHeld => ?_); refine with_tabW budwoodref10_Copy.tab1 budwoodref10_Copy.bits1 (fun HT_ HW_ => ?_)
            generalize w8.drew = w9 at BK319 BK320 HB hHeld ⊢
            refine pure_ (i := 0) (N := some 3) (v := ?_) (a' := ?_) #[true, false, false, false, false, false, false, false, false, false, false, false, false, false, false, false, false, false, false, false, false, false, false, false] rfl rfl (any_of HT_.out (by kernel_rfl)) (fun _ _ _ h => h) (Or.inl ⟨by rfl, ?_⟩) ?_ ?_
            rotate_left
            · exact zY
            rotate_left
            · exact zA
            refine pure_ (i := 3) (N := some 6) (v := ?_) (a' := ?_) #[true, false, false, true, false, false, false, false, false, false, false, false, false, false, false, false, false, false, false, false, false, false, false, false] rfl rfl (any_of HT_.out (by kernel_rfl)) (fun _ _ _ h => h) (Or.inl ⟨by rfl, ?_⟩) ?_ ?_
            rotate_left
            · exact zY
            rotate_left
            · exact zA
            refine pure_ (i := 7) (N := some 10) (v := ?_) (a' := ?_) #[true, false, false, true, false, false, false, true, false, false, false, false, false, false, false, false, false, false, false, false, false, false, false, false] rfl rfl (any_of HT_.out (by kernel_rfl)) (fun _ _ _ h => h) (Or.inl ⟨by rfl, ?_⟩) ?_ ?_
            rotate_left
            · exact zY
            rotate_left
            · exact zA
            refine pure_ (i := 11) (N := some 14) (v := ?_) (a' := ?_) #[true, false, false, true, false, false, false, true, false, false, false, true, false, false, false, false, false, false, false, false, false, false, false, false] rfl rfl (any_of HT_.out (by kernel_rfl)) (fun _ _ _ h => h) (Or.inl ⟨by rfl, ?_⟩) ?_ ?_
            rotate_left
            · exact zY
            rotate_left
            · exact zA
            refine pure_ (i := 15) (N := some 18) (v := ?_) (a' := ?_) #[true, false, false, true, false, false, false, true, false, false, false, true, false, false, false, true, false, false, false, false, false, false, false, false] rfl rfl (any_of HT_.out (by kernel_rfl)) (fun _ _ _ h => h) (Or.inl ⟨by rfl, ?_⟩) ?_ ?_
            rotate_left
            · exact zY
            rotate_left
            · exact zA
            refine pure_ (i := 19) (N := some 22) (v := ?_) (a' := ?_) #[true, false, false, true, false, false, false, true, false, false, false, true, false, false, false, true, false, false, false, true, false, false, false, false] rfl rfl (any_of HT_.out (by kernel_rfl)) (fun _ _ _ h => h) (Or.inl ⟨by rfl, ?_⟩) ?_ ?_
            rotate_left
            · exact zY
            rotate_left
            · exact zA
            refine inv_at [1, 2, 4, 5, 6, 8, 9, 10, 12, 13, 14, 16, 17, 18, 20, 21, 22, 23] (fun a0_ b a w' => ∃ (v322 : Value) (v325 : Value) (v328 : Value) (v331 : Value) (v334 : Value) (v337 : Value) (v340 : Value) (v343 : Value) (v346 : Value) (v349 : Value) (m22_ : Value), a = putSel a0_ b [(1, 4, .string a0_0), (2, 5, v322), (4, 7, .slice A0_1 l0_1.length c0_1), (5, 8, v325), (6, 9, v328), (8, 11, .slice A0_2 l0_2.length c0_2), (9, 12, v331), (10, 13, v334), (12, 15, .slice A0_3 l0_3.length c0_3), (13, 16, v337), (14, 17, v340), (16, 19, .slice A0_4 l0_4.length c0_4), (17, 20, v343), (18, 21, v346), (20, 23, .slice A0_5 l0_5.length c0_5), (21, 24, v349), (22, 25, m22_)] ∧ (w'.heap[gb319]? = some (.cells #[.string a0_0, .slice A0_1 l0_1.length c0_1, .slice A0_2 l0_2.length c0_2, .slice A0_3 l0_3.length c0_3, .slice A0_4 l0_4.length c0_4, .slice A0_5 l0_5.length c0_5] 26 (0, 0))) ∧ (b 23 = false → w'.heap[gb320]? = some (.cells #[.string (⟨#[]⟩ : ByteArray), .slice none 0 0, .slice none 0 0, .slice none 0 0, .slice none 0 0, .slice none 0 0] 26 (0, 0))) ∧ (Below w.heap.size w w') ∧ (b 2 = true → b 5 = false → Kd.R Kd.string 9 w' w.heap.size (fun _ => True) v322 y321) ∧ (b 5 = true → Kd.R Kd.string 9 w' w.heap.size (fun _ => True) v325 y324) ∧ (b 6 = true → b 9 = false → Kd.R Kd.string 9 w' w.heap.size (fun _ => True) v328 y327) ∧ (b 9 = true → Kd.R Kd.string 9 w' w.heap.size (fun _ => True) v331 y330) ∧ (b 10 = true → b 13 = false → Kd.R (Kd.int .u32) 27 w' w.heap.size (fun _ => True) v334 y333) ∧ (b 13 = true → Kd.R (Kd.int .u32) 27 w' w.heap.size (fun _ => True) v337 y336) ∧ (b 14 = true → b 17 = false → Kd.R (Kd.int .u32) 27 w' w.heap.size (fun _ => True) v340 y339) ∧ (b 17 = true → Kd.R (Kd.int .u32) 27 w' w.heap.size (fun _ => True) v343 y342) ∧ (b 18 = true → b 21 = false → Kd.R k53 53 w' w.heap.size (fun _ => True) v346 y345) ∧ (b 21 = true → Kd.R k53 53 w' w.heap.size (fun _ => True) v349 y348) ∧ (b 23 = true → w'.heap[gb320]? = some (.cells #[.string a0_0, v325, v331, v337, v343, v349] 26 (0, 0))) ∧ (b 22 = true → (m22_ : Value) = .agg #[.string a0_0, v325, v331, v337, v343, v349]) ∧ (DD (b 2) (b 5) (b 6) (b 9) v322 v325 v328 v331 ∧ DD (b 10) (b 13) (b 14) (b 17) v334 v337 v340 v343)) HT_.out HW_.out (by kernel_rfl) (by kernel_rfl) ?_ ?_ ?_
            · exact ⟨.bool false, .bool false, .bool false, .bool false, .bool false, .bool false, .bool false, .bool false, .bool false, .bool false, .bool false, by simp only [putSel, Bool.false_eq_true, if_false], BK319.out, fun _ => BK320.out, HB.out, fun h_ => absurd h_ (by decide), fun h_ => absurd h_ (by decide), fun h_ => absurd h_ (by decide), fun h_ => absurd h_ (by decide), fun h_ => absurd h_ (by decide), fun h_ => absurd h_ (by decide), fun h_ => absurd h_ (by decide), fun h_ => absurd h_ (by decide), fun h_ => absurd h_ (by decide), fun h_ => absurd h_ (by decide), fun h_ => absurd h_ (by decide), fun h_ => absurd h_ (by decide), ⟨⟨fun h_ => absurd h_ (by decide), fun h_ => absurd h_ (by decide), fun h_ => absurd h_ (by decide)⟩, ⟨fun h_ => absurd h_ (by decide), fun h_ => absurd h_ (by decide), fun h_ => absurd h_ (by decide)⟩⟩⟩
            · skip
              clear BK319 BK320 HB
              refine steps_cons ?_ ?_
              · rintro b a w' ⟨v322, v325, v328, v331, v334, v337, v340, v343, v346, v349, m22_, ha, Q_BK319, Q_BK320, Q_HB, Q_HO323, Q_HO326, Q_HO329, Q_HO332, Q_HO335, Q_HO338, Q_HO341, Q_HO344, Q_HO347, Q_HO350, Q_BK320_e23, Q_X22_, Q_D⟩ hb_ hon hoff
                refine ⟨_, rfl, fun K hK => ?_⟩
                have e3 : a.tmps[3]? = some (.pointer (some ⟨gb319, 0, none⟩)) := by rw [ha]; exact (putSel_off rfl).trans rfl
                replace ha := Aside0.mk ha
                have BK319 := Aside0.mk Q_BK319
                have BK320 := Aside0.mk (Q_BK320 (hoff 23 (by kernel_rfl)))
                have HB := Aside0.mk Q_HB
                have hc0_ : w'.cell? ⟨gb319, 0, none⟩ = some (.string a0_0) := (blk_cell BK319.out 0).trans rfl
                have hc1_ : w'.cell? ⟨gb319, 1, none⟩ = some (.slice A0_1 l0_1.length c0_1) := (blk_cell BK319.out 1).trans rfl
                have hc2_ : w'.cell? ⟨gb319, 2, none⟩ = some (.slice A0_2 l0_2.length c0_2) := (blk_cell BK319.out 2).trans rfl
                have hc3_ : w'.cell? ⟨gb319, 3, none⟩ = some (.slice A0_3 l0_3.length c0_3) := (blk_cell BK319.out 3).trans rfl
                have hc4_ : w'.cell? ⟨gb319, 4, none⟩ = some (.slice A0_4 l0_4.length c0_4) := (blk_cell BK319.out 4).trans rfl
                have hc5_ : w'.cell? ⟨gb319, 5, none⟩ = some (.slice A0_5 l0_5.length c0_5) := (blk_cell BK319.out 5).trans rfl
                refine value_ (w1 := w') (v := .string a0_0) (by rfl) rfl ?_ ?_
                · go_simp
                  (try simp only [i64_w])
                  try rfl
                refine hK.out _ _ ⟨v322, v325, v328, v331, v334, v337, v340, v343, v346, v349, m22_, (by rw [ha.out]; exact putSel_upk 0 hb_ rfl rfl rfl), Q_BK319, Q_BK320, Q_HB, Q_HO323, Q_HO326, Q_HO329, Q_HO332, Q_HO335, Q_HO338, Q_HO341, Q_HO344, Q_HO347, Q_HO350, fun h0_ => absurd ((hoff 23 (by kernel_rfl)).symm.trans h0_) (by decide), fun h0_ => absurd ((hoff 22 (by kernel_rfl)).symm.trans h0_) (by decide), Q_D⟩
              refine steps_cons ?_ ?_
              · rintro b a w' ⟨v322, v325, v328, v331, v334, v337, v340, v343, v346, v349, m22_, ha, Q_BK319, Q_BK320, Q_HB, Q_HO323, Q_HO326, Q_HO329, Q_HO332, Q_HO335, Q_HO338, Q_HO341, Q_HO344, Q_HO347, Q_HO350, Q_BK320_e23, Q_X22_, Q_D⟩ hb_ hon hoff
                refine ⟨_, rfl, fun K hK => ?_⟩
                replace ha := Aside0.mk ha
                have BK319 := Aside0.mk Q_BK319
                have BK320 := Aside0.mk (Q_BK320 (hoff 23 (by kernel_rfl)))
                have HB := Aside0.mk Q_HB
                refine Kd.R_lit_step Kd.string _ 9 ?hg (N := 5) ?hd (xs := ([] : List ByteArray)) (inner := []) (ok := fun _ => True) (okp := fun _ => True) ?hr ?hp (fun _ hk => hk) trivial (Below.refl _ _) (Nat.le_refl _) (by simp) ?_; (case hd => rfl); (case hg => rfl); (case hr => first | (go_simp; done) | (go_simp; rfl)); (case hp => exact (Reps.none _ _))
                intro v322 w10 ho11 hb hg_ hnew_
                clear hg_ hnew_
                (first | rw [← Ny321.out] at ho11 | (simp only [Int.reduceToNat] at ho11; rw [← Ny321.out] at ho11))
                have n0_ := Aside0.mk (Kd.R_lower ho11 (below_size zB))
                have HBASE := Kd.R_base ho11
                have n1_ := Aside0.mk (zL BK319 hb)
                have n2_ := Aside0.mk (zL BK320 hb)
                have n3_ := Aside0.mk (below_step zB hb)
                have z_HO329 := fun (h0_ : b 6 = true) (h1_ : b 9 = false) => (show Kd.R Kd.string 9 w10 w.heap.size (fun _ => True) v328 y327 from by first | exact (Kd.R_elder' (by (with_reducible repeat (first | apply Kd.R_alloc | apply Kd.R_drewN | apply Kd.R_drew)); exact (Q_HO329 h0_ h1_)) (Kd.R_base ho11) hb) | exact Kd.R_mono (Kd.R_elder' (by (with_reducible repeat (first | apply Kd.R_alloc | apply Kd.R_drewN | apply Kd.R_drew)); exact (Q_HO329 h0_ h1_)) (Kd.R_base ho11) hb) (fun _ h_ => by first | trivial | exact h_ | exact h_.1))
                have z_HO335 := fun (h0_ : b 10 = true) (h1_ : b 13 = false) => (show Kd.R (Kd.int .u32) 27 w10 w.heap.size (fun _ => True) v334 y333 from by first | exact (Kd.R_below (by (with_reducible repeat (first | apply Kd.R_alloc | apply Kd.R_drewN | apply Kd.R_drew)); exact (Q_HO335 h0_ h1_)) hb) | exact Kd.R_mono (Kd.R_below (by (with_reducible repeat (first | apply Kd.R_alloc | apply Kd.R_drewN | apply Kd.R_drew)); exact (Q_HO335 h0_ h1_)) hb) (fun _ h_ => by first | trivial | exact h_ | exact h_.1))
                have z_HO341 := fun (h0_ : b 14 = true) (h1_ : b 17 = false) => (show Kd.R (Kd.int .u32) 27 w10 w.heap.size (fun _ => True) v340 y339 from by first | exact (Kd.R_below (by (with_reducible repeat (first | apply Kd.R_alloc | apply Kd.R_drewN | apply Kd.R_drew)); exact (Q_HO341 h0_ h1_)) hb) | exact Kd.R_mono (Kd.R_below (by (with_reducible repeat (first | apply Kd.R_alloc | apply Kd.R_drewN | apply Kd.R_drew)); exact (Q_HO341 h0_ h1_)) hb) (fun _ h_ => by first | trivial | exact h_ | exact h_.1))
                have z_HO347 := fun (h0_ : b 18 = true) (h1_ : b 21 = false) => (show Kd.R k53 53 w10 w.heap.size (fun _ => True) v346 y345 from by first | exact (Kd.R_below (by (with_reducible repeat (first | apply Kd.R_alloc | apply Kd.R_drewN | apply Kd.R_drew)); exact (Q_HO347 h0_ h1_)) hb) | exact Kd.R_mono (Kd.R_below (by (with_reducible repeat (first | apply Kd.R_alloc | apply Kd.R_drewN | apply Kd.R_drew)); exact (Q_HO347 h0_ h1_)) hb) (fun _ h_ => by first | trivial | exact h_ | exact h_.1))
                clear BK319
                clear BK320
                clear HB
                have HO323 := n0_
                have BK319 := n1_
                have BK320 := n2_
                have HB := n3_
                clear n0_ n1_ n2_ n3_
                clear hb ho11
                refine hK.out _ _ ⟨v322, v325, v328, v331, v334, v337, v340, v343, v346, v349, m22_, (by rw [ha.out]; exact putSel_upk 1 hb_ rfl rfl rfl), zK, fun _ => zK, zB, fun _ _ => (zR HO323), fun h0_ => absurd ((hoff 5 (by kernel_rfl)).symm.trans h0_) (by decide), z_HO329, fun h0_ => absurd ((hoff 9 (by kernel_rfl)).symm.trans h0_) (by decide), z_HO335, fun h0_ => absurd ((hoff 13 (by kernel_rfl)).symm.trans h0_) (by decide), z_HO341, fun h0_ => absurd ((hoff 17 (by kernel_rfl)).symm.trans h0_) (by decide), z_HO347, fun h0_ => absurd ((hoff 21 (by kernel_rfl)).symm.trans h0_) (by decide), fun h0_ => absurd ((hoff 23 (by kernel_rfl)).symm.trans h0_) (by decide), fun h0_ => absurd ((hoff 22 (by kernel_rfl)).symm.trans h0_) (by decide), ⟨⟨fun _ _ h1 h2 => fun k hx hy => Nat.not_lt_of_le (HBASE k hx) (Kd.R_lt (Q_HO329 h1 h2) k hy), fun h_ => absurd ((hoff 5 (by kernel_rfl)).symm.trans h_) (by decide), fun h_ => absurd ((hoff 5 (by kernel_rfl)).symm.trans h_) (by decide)⟩, Q_D.2⟩⟩
              refine steps_cons ?_ ?_
              · rintro b a w' ⟨v322, v325, v328, v331, v334, v337, v340, v343, v346, v349, m22_, ha, Q_BK319, Q_BK320, Q_HB, Q_HO323, Q_HO326, Q_HO329, Q_HO332, Q_HO335, Q_HO338, Q_HO341, Q_HO344, Q_HO347, Q_HO350, Q_BK320_e23, Q_X22_, Q_D⟩ hb_ hon hoff
                refine ⟨_, rfl, fun K hK => ?_⟩
                have e6 : a.tmps[6]? = some (.pointer (some ⟨gb319, 1, none⟩)) := by rw [ha]; exact (putSel_off rfl).trans rfl
                replace ha := Aside0.mk ha
                have BK319 := Aside0.mk Q_BK319
                have BK320 := Aside0.mk (Q_BK320 (hoff 23 (by kernel_rfl)))
                have HB := Aside0.mk Q_HB
                have hc0_ : w'.cell? ⟨gb319, 0, none⟩ = some (.string a0_0) := (blk_cell BK319.out 0).trans rfl
                have hc1_ : w'.cell? ⟨gb319, 1, none⟩ = some (.slice A0_1 l0_1.length c0_1) := (blk_cell BK319.out 1).trans rfl
                have hc2_ : w'.cell? ⟨gb319, 2, none⟩ = some (.slice A0_2 l0_2.length c0_2) := (blk_cell BK319.out 2).trans rfl
                have hc3_ : w'.cell? ⟨gb319, 3, none⟩ = some (.slice A0_3 l0_3.length c0_3) := (blk_cell BK319.out 3).trans rfl
                have hc4_ : w'.cell? ⟨gb319, 4, none⟩ = some (.slice A0_4 l0_4.length c0_4) := (blk_cell BK319.out 4).trans rfl
                have hc5_ : w'.cell? ⟨gb319, 5, none⟩ = some (.slice A0_5 l0_5.length c0_5) := (blk_cell BK319.out 5).trans rfl
                refine value_ (w1 := w') (v := .slice A0_1 l0_1.length c0_1) (by rfl) rfl ?_ ?_
                · go_simp
                  (try simp only [i64_w])
                  try rfl
                refine hK.out _ _ ⟨v322, v325, v328, v331, v334, v337, v340, v343, v346, v349, m22_, (by rw [ha.out]; exact putSel_upk 2 hb_ rfl rfl rfl), Q_BK319, Q_BK320, Q_HB, Q_HO323, fun h0_ => absurd ((hoff 5 (by kernel_rfl)).symm.trans h0_) (by decide), Q_HO329, fun h0_ => absurd ((hoff 9 (by kernel_rfl)).symm.trans h0_) (by decide), Q_HO335, fun h0_ => absurd ((hoff 13 (by kernel_rfl)).symm.trans h0_) (by decide), Q_HO341, fun h0_ => absurd ((hoff 17 (by kernel_rfl)).symm.trans h0_) (by decide), Q_HO347, fun h0_ => absurd ((hoff 21 (by kernel_rfl)).symm.trans h0_) (by decide), fun h0_ => absurd ((hoff 23 (by kernel_rfl)).symm.trans h0_) (by decide), fun h0_ => absurd ((hoff 22 (by kernel_rfl)).symm.trans h0_) (by decide), Q_D⟩
              refine steps_cons ?_ ?_
              · rintro b a w' ⟨v322, v325, v328, v331, v334, v337, v340, v343, v346, v349, m22_, ha, Q_BK319, Q_BK320, Q_HB, Q_HO323, Q_HO326, Q_HO329, Q_HO332, Q_HO335, Q_HO338, Q_HO341, Q_HO344, Q_HO347, Q_HO350, Q_BK320_e23, Q_X22_, Q_D⟩ hb_ hon hoff
                refine ⟨_, rfl, fun K hK => ?_⟩
                have e5 : a.tmps[5]? = some (v322) := by rw [ha]; exact putSel_on (e := (2, 5, v322)) 1 rfl rfl (hon 2 (by kernel_rfl)) rfl
                have e7 : a.tmps[7]? = some (.slice A0_1 l0_1.length c0_1) := by rw [ha]; exact putSel_on (e := (4, 7, .slice A0_1 l0_1.length c0_1)) 2 rfl rfl (hon 4 (by kernel_rfl)) rfl
                replace ha := Aside0.mk ha
                have BK319 := Aside0.mk Q_BK319
                have BK320 := Aside0.mk (Q_BK320 (hoff 23 (by kernel_rfl)))
                have HB := Aside0.mk Q_HB
                have HO323 := Aside0.mk (Q_HO323 (hon 2 (by kernel_rfl)) hb_)
                refine Kd.R_append_rows_step Kd.string (w0 := w) w.heap.size (by rfl) (.tmp 5) (.tmp 7) 22 9 (.string ⟨#[]⟩) 16 rfl Try.underlying22 info9 rfl (by decide) (by omega) v322 y321 l0_1 _ _ _ (fun k_ => b 6 = true → some k_ ≠ (v328 : Value).ownBlock) (fun _ => False) (zEv e5) (zEv e7) ?aO ?aR (fun _ _ h => h) (fun _ h => h.elim) ?aF ?aB ?aS ?aL ?_
                (case aR => exact zC)
                (case aB => exact zB)
                (case aF => exact (fun k_ hk h6 => Kd.fresh' (Kd.R_lt (Q_HO329 h6 (hoff 9 (by kernel_rfl)))) k_ hk))
                (case aO => exact (okS_ HO323.out (fun k hx h6 e => Q_D.1.1 (hon 2 (by kernel_rfl)) hb_ h6 (hoff 9 (by kernel_rfl)) k hx e.symm)))
                (case aS => exact (below_size zB))
                (case aL => have := LMc2.out; omega)
                intro v325 w13 ho hb hg hat
                rw [← Ny324.out] at ho
                have n0_ := Aside0.mk (blk_grown (g := gb319) (o := .cells #[.string a0_0, .slice A0_1 l0_1.length c0_1, .slice A0_2 l0_2.length c0_2, .slice A0_3 l0_3.length c0_3, .slice A0_4 l0_4.length c0_4, .slice A0_5 l0_5.length c0_5] 26 (0, 0)) zK hg (Kd.R_ne HO323.out BK319.out (by decide)))
                have n1_ := Aside0.mk (blk_grown (g := gb320) (o := .cells #[.string (⟨#[]⟩ : ByteArray), .slice none 0 0, .slice none 0 0, .slice none 0 0, .slice none 0 0, .slice none 0 0] 26 (0, 0)) zK hg (Kd.R_ne HO323.out BK320.out (by decide)))
                have n2_ := Aside0.mk (hb)
                have HX := ho.1
                have n3_ := Aside0.mk (Kd.R_mono (ok' := fun _ => True) ho (fun _ _ => trivial))
                have z_HO329 := fun (h0_ : b 6 = true) (h1_ : b 9 = false) => (show Kd.R Kd.string 9 w13 w.heap.size (fun _ => True) v328 y327 from by first | exact (Kd.R_after (ok := (fun _ => True)) (by (with_reducible repeat (first | apply Kd.R_alloc | apply Kd.R_drewN | apply Kd.R_drew)); exact okS_ (Q_HO329 h0_ h1_) (fun k hy => ⟨trivial, fun e => Q_D.1.1 (hon 2 (by kernel_rfl)) hb_ h0_ h1_ k e.symm hy⟩)) hg hat) | exact Kd.R_mono (Kd.R_after (ok := (fun _ => True)) (by (with_reducible repeat (first | apply Kd.R_alloc | apply Kd.R_drewN | apply Kd.R_drew)); exact okS_ (Q_HO329 h0_ h1_) (fun k hy => ⟨trivial, fun e => Q_D.1.1 (hon 2 (by kernel_rfl)) hb_ h0_ h1_ k e.symm hy⟩)) hg hat) (fun _ h_ => by first | trivial | exact h_ | exact h_.1))
                have z_HO335 := fun (h0_ : b 10 = true) (h1_ : b 13 = false) => (show Kd.R (Kd.int .u32) 27 w13 w.heap.size (fun _ => True) v334 y333 from by first | exact (Kd.R_over' (by (with_reducible repeat (first | apply Kd.R_alloc | apply Kd.R_drewN | apply Kd.R_drew)); exact (Q_HO335 h0_ h1_)) (Kd.R_typed (zR HO323)) (by decide) hg) | exact Kd.R_mono (Kd.R_over' (by (with_reducible repeat (first | apply Kd.R_alloc | apply Kd.R_drewN | apply Kd.R_drew)); exact (Q_HO335 h0_ h1_)) (Kd.R_typed (zR HO323)) (by decide) hg) (fun _ h_ => by first | trivial | exact h_ | exact h_.1))
                have z_HO341 := fun (h0_ : b 14 = true) (h1_ : b 17 = false) => (show Kd.R (Kd.int .u32) 27 w13 w.heap.size (fun _ => True) v340 y339 from by first | exact (Kd.R_over' (by (with_reducible repeat (first | apply Kd.R_alloc | apply Kd.R_drewN | apply Kd.R_drew)); exact (Q_HO341 h0_ h1_)) (Kd.R_typed (zR HO323)) (by decide) hg) | exact Kd.R_mono (Kd.R_over' (by (with_reducible repeat (first | apply Kd.R_alloc | apply Kd.R_drewN | apply Kd.R_drew)); exact (Q_HO341 h0_ h1_)) (Kd.R_typed (zR HO323)) (by decide) hg) (fun _ h_ => by first | trivial | exact h_ | exact h_.1))
                have z_HO347 := fun (h0_ : b 18 = true) (h1_ : b 21 = false) => (show Kd.R k53 53 w13 w.heap.size (fun _ => True) v346 y345 from by first | exact (Kd.R_over' (by (with_reducible repeat (first | apply Kd.R_alloc | apply Kd.R_drewN | apply Kd.R_drew)); exact (Q_HO347 h0_ h1_)) (Kd.R_typed (zR HO323)) (by decide) hg) | exact Kd.R_mono (Kd.R_over' (by (with_reducible repeat (first | apply Kd.R_alloc | apply Kd.R_drewN | apply Kd.R_drew)); exact (Q_HO347 h0_ h1_)) (Kd.R_typed (zR HO323)) (by decide) hg) (fun _ h_ => by first | trivial | exact h_ | exact h_.1))
                clear BK319
                clear BK320
                clear HB
                clear HO323
                have BK319 := n0_
                have BK320 := n1_
                have HB := n2_
                have HO326 := n3_
                clear n0_ n1_ n2_ n3_
                clear ho hb hg hat
                refine hK.out _ _ ⟨v322, v325, v328, v331, v334, v337, v340, v343, v346, v349, m22_, (by rw [ha.out]; exact putSel_upk 3 hb_ rfl rfl rfl), zK, fun _ => zK, zB, fun _ h1_ => absurd ((up_self b 5).symm.trans h1_) (by decide), fun _ => (zR HO326), z_HO329, fun h0_ => absurd ((hoff 9 (by kernel_rfl)).symm.trans h0_) (by decide), z_HO335, fun h0_ => absurd ((hoff 13 (by kernel_rfl)).symm.trans h0_) (by decide), z_HO341, fun h0_ => absurd ((hoff 17 (by kernel_rfl)).symm.trans h0_) (by decide), z_HO347, fun h0_ => absurd ((hoff 21 (by kernel_rfl)).symm.trans h0_) (by decide), fun h0_ => absurd ((hoff 23 (by kernel_rfl)).symm.trans h0_) (by decide), fun h0_ => absurd ((hoff 22 (by kernel_rfl)).symm.trans h0_) (by decide), ⟨⟨fun _ h_ => absurd ((up_self b 5).symm.trans h_) (by decide), fun _ h1 _ => fun k hx hy => HX k hx h1 hy.symm, fun _ h_ => absurd ((hoff 9 (by kernel_rfl)).symm.trans h_) (by decide)⟩, Q_D.2⟩⟩
              refine steps_cons ?_ ?_
              · rintro b a w' ⟨v322, v325, v328, v331, v334, v337, v340, v343, v346, v349, m22_, ha, Q_BK319, Q_BK320, Q_HB, Q_HO323, Q_HO326, Q_HO329, Q_HO332, Q_HO335, Q_HO338, Q_HO341, Q_HO344, Q_HO347, Q_HO350, Q_BK320_e23, Q_X22_, Q_D⟩ hb_ hon hoff
                refine ⟨_, rfl, fun K hK => ?_⟩
                replace ha := Aside0.mk ha
                have BK319 := Aside0.mk Q_BK319
                have BK320 := Aside0.mk (Q_BK320 (hoff 23 (by kernel_rfl)))
                have HB := Aside0.mk Q_HB
                refine Kd.R_lit_step Kd.string _ 9 ?hg (N := 9) ?hd (xs := ([] : List ByteArray)) (inner := []) (ok := fun _ => True) (okp := fun _ => True) ?hr ?hp (fun _ hk => hk) trivial (Below.refl _ _) (Nat.le_refl _) (by simp) ?_; (case hd => rfl); (case hg => rfl); (case hr => first | (go_simp; done) | (go_simp; rfl)); (case hp => exact (Reps.none _ _))
                intro v328 w10 ho11 hb hg_ hnew_
                clear hg_ hnew_
                (first | rw [← Ny327.out] at ho11 | (simp only [Int.reduceToNat] at ho11; rw [← Ny327.out] at ho11))
                have n0_ := Aside0.mk (Kd.R_lower ho11 (below_size zB))
                have HBASE := Kd.R_base ho11
                have n1_ := Aside0.mk (zL BK319 hb)
                have n2_ := Aside0.mk (zL BK320 hb)
                have n3_ := Aside0.mk (below_step zB hb)
                have z_HO323 := fun (h0_ : b 2 = true) (h1_ : b 5 = false) => (show Kd.R Kd.string 9 w10 w.heap.size (fun _ => True) v322 y321 from by first | exact (Kd.R_elder' (by (with_reducible repeat (first | apply Kd.R_alloc | apply Kd.R_drewN | apply Kd.R_drew)); exact (Q_HO323 h0_ h1_)) (Kd.R_base ho11) hb) | exact Kd.R_mono (Kd.R_elder' (by (with_reducible repeat (first | apply Kd.R_alloc | apply Kd.R_drewN | apply Kd.R_drew)); exact (Q_HO323 h0_ h1_)) (Kd.R_base ho11) hb) (fun _ h_ => by first | trivial | exact h_ | exact h_.1))
                have z_HO326 := fun (h0_ : b 5 = true) => (show Kd.R Kd.string 9 w10 w.heap.size (fun _ => True) v325 y324 from by first | exact (Kd.R_elder' (by (with_reducible repeat (first | apply Kd.R_alloc | apply Kd.R_drewN | apply Kd.R_drew)); exact (Q_HO326 h0_)) (Kd.R_base ho11) hb) | exact Kd.R_mono (Kd.R_elder' (by (with_reducible repeat (first | apply Kd.R_alloc | apply Kd.R_drewN | apply Kd.R_drew)); exact (Q_HO326 h0_)) (Kd.R_base ho11) hb) (fun _ h_ => by first | trivial | exact h_ | exact h_.1))
                have z_HO335 := fun (h0_ : b 10 = true) (h1_ : b 13 = false) => (show Kd.R (Kd.int .u32) 27 w10 w.heap.size (fun _ => True) v334 y333 from by first | exact (Kd.R_below (by (with_reducible repeat (first | apply Kd.R_alloc | apply Kd.R_drewN | apply Kd.R_drew)); exact (Q_HO335 h0_ h1_)) hb) | exact Kd.R_mono (Kd.R_below (by (with_reducible repeat (first | apply Kd.R_alloc | apply Kd.R_drewN | apply Kd.R_drew)); exact (Q_HO335 h0_ h1_)) hb) (fun _ h_ => by first | trivial | exact h_ | exact h_.1))
                have z_HO341 := fun (h0_ : b 14 = true) (h1_ : b 17 = false) => (show Kd.R (Kd.int .u32) 27 w10 w.heap.size (fun _ => True) v340 y339 from by first | exact (Kd.R_below (by (with_reducible repeat (first | apply Kd.R_alloc | apply Kd.R_drewN | apply Kd.R_drew)); exact (Q_HO341 h0_ h1_)) hb) | exact Kd.R_mono (Kd.R_below (by (with_reducible repeat (first | apply Kd.R_alloc | apply Kd.R_drewN | apply Kd.R_drew)); exact (Q_HO341 h0_ h1_)) hb) (fun _ h_ => by first | trivial | exact h_ | exact h_.1))
                have z_HO347 := fun (h0_ : b 18 = true) (h1_ : b 21 = false) => (show Kd.R k53 53 w10 w.heap.size (fun _ => True) v346 y345 from by first | exact (Kd.R_below (by (with_reducible repeat (first | apply Kd.R_alloc | apply Kd.R_drewN | apply Kd.R_drew)); exact (Q_HO347 h0_ h1_)) hb) | exact Kd.R_mono (Kd.R_below (by (with_reducible repeat (first | apply Kd.R_alloc | apply Kd.R_drewN | apply Kd.R_drew)); exact (Q_HO347 h0_ h1_)) hb) (fun _ h_ => by first | trivial | exact h_ | exact h_.1))
                clear BK319
                clear BK320
                clear HB
                have HO329 := n0_
                have BK319 := n1_
                have BK320 := n2_
                have HB := n3_
                clear n0_ n1_ n2_ n3_
                clear hb ho11
                refine hK.out _ _ ⟨v322, v325, v328, v331, v334, v337, v340, v343, v346, v349, m22_, (by rw [ha.out]; exact putSel_upk 4 hb_ rfl rfl rfl), zK, fun _ => zK, zB, z_HO323, z_HO326, fun _ _ => (zR HO329), fun h0_ => absurd ((hoff 9 (by kernel_rfl)).symm.trans h0_) (by decide), z_HO335, fun h0_ => absurd ((hoff 13 (by kernel_rfl)).symm.trans h0_) (by decide), z_HO341, fun h0_ => absurd ((hoff 17 (by kernel_rfl)).symm.trans h0_) (by decide), z_HO347, fun h0_ => absurd ((hoff 21 (by kernel_rfl)).symm.trans h0_) (by decide), fun h0_ => absurd ((hoff 23 (by kernel_rfl)).symm.trans h0_) (by decide), fun h0_ => absurd ((hoff 22 (by kernel_rfl)).symm.trans h0_) (by decide), ⟨⟨fun h0 h1 _ _ => fun k hx hy => Nat.not_lt_of_le (HBASE k hy) (Kd.R_lt (Q_HO323 h0 h1) k hx), fun h0 _ _ => fun k hx hy => Nat.not_lt_of_le (HBASE k hy) (Kd.R_lt (Q_HO326 h0) k hx), fun _ h_ => absurd ((hoff 9 (by kernel_rfl)).symm.trans h_) (by decide)⟩, Q_D.2⟩⟩
              refine steps_cons ?_ ?_
              · rintro b a w' ⟨v322, v325, v328, v331, v334, v337, v340, v343, v346, v349, m22_, ha, Q_BK319, Q_BK320, Q_HB, Q_HO323, Q_HO326, Q_HO329, Q_HO332, Q_HO335, Q_HO338, Q_HO341, Q_HO344, Q_HO347, Q_HO350, Q_BK320_e23, Q_X22_, Q_D⟩ hb_ hon hoff
                refine ⟨_, rfl, fun K hK => ?_⟩
                have e10 : a.tmps[10]? = some (.pointer (some ⟨gb319, 2, none⟩)) := by rw [ha]; exact (putSel_off rfl).trans rfl
                replace ha := Aside0.mk ha
                have BK319 := Aside0.mk Q_BK319
                have BK320 := Aside0.mk (Q_BK320 (hoff 23 (by kernel_rfl)))
                have HB := Aside0.mk Q_HB
                have hc0_ : w'.cell? ⟨gb319, 0, none⟩ = some (.string a0_0) := (blk_cell BK319.out 0).trans rfl
                have hc1_ : w'.cell? ⟨gb319, 1, none⟩ = some (.slice A0_1 l0_1.length c0_1) := (blk_cell BK319.out 1).trans rfl
                have hc2_ : w'.cell? ⟨gb319, 2, none⟩ = some (.slice A0_2 l0_2.length c0_2) := (blk_cell BK319.out 2).trans rfl
                have hc3_ : w'.cell? ⟨gb319, 3, none⟩ = some (.slice A0_3 l0_3.length c0_3) := (blk_cell BK319.out 3).trans rfl
                have hc4_ : w'.cell? ⟨gb319, 4, none⟩ = some (.slice A0_4 l0_4.length c0_4) := (blk_cell BK319.out 4).trans rfl
                have hc5_ : w'.cell? ⟨gb319, 5, none⟩ = some (.slice A0_5 l0_5.length c0_5) := (blk_cell BK319.out 5).trans rfl
                refine value_ (w1 := w') (v := .slice A0_2 l0_2.length c0_2) (by rfl) rfl ?_ ?_
                · go_simp
                  (try simp only [i64_w])
                  try rfl
                refine hK.out _ _ ⟨v322, v325, v328, v331, v334, v337, v340, v343, v346, v349, m22_, (by rw [ha.out]; exact putSel_upk 5 hb_ rfl rfl rfl), Q_BK319, Q_BK320, Q_HB, Q_HO323, Q_HO326, Q_HO329, fun h0_ => absurd ((hoff 9 (by kernel_rfl)).symm.trans h0_) (by decide), Q_HO335, fun h0_ => absurd ((hoff 13 (by kernel_rfl)).symm.trans h0_) (by decide), Q_HO341, fun h0_ => absurd ((hoff 17 (by kernel_rfl)).symm.trans h0_) (by decide), Q_HO347, fun h0_ => absurd ((hoff 21 (by kernel_rfl)).symm.trans h0_) (by decide), fun h0_ => absurd ((hoff 23 (by kernel_rfl)).symm.trans h0_) (by decide), fun h0_ => absurd ((hoff 22 (by kernel_rfl)).symm.trans h0_) (by decide), Q_D⟩
              refine steps_cons ?_ ?_
              · rintro b a w' ⟨v322, v325, v328, v331, v334, v337, v340, v343, v346, v349, m22_, ha, Q_BK319, Q_BK320, Q_HB, Q_HO323, Q_HO326, Q_HO329, Q_HO332, Q_HO335, Q_HO338, Q_HO341, Q_HO344, Q_HO347, Q_HO350, Q_BK320_e23, Q_X22_, Q_D⟩ hb_ hon hoff
                refine ⟨_, rfl, fun K hK => ?_⟩
                have e9 : a.tmps[9]? = some (v328) := by rw [ha]; exact putSel_on (e := (6, 9, v328)) 4 rfl rfl (hon 6 (by kernel_rfl)) rfl
                have e11 : a.tmps[11]? = some (.slice A0_2 l0_2.length c0_2) := by rw [ha]; exact putSel_on (e := (8, 11, .slice A0_2 l0_2.length c0_2)) 5 rfl rfl (hon 8 (by kernel_rfl)) rfl
                replace ha := Aside0.mk ha
                have BK319 := Aside0.mk Q_BK319
                have BK320 := Aside0.mk (Q_BK320 (hoff 23 (by kernel_rfl)))
                have HB := Aside0.mk Q_HB
                have HO326 := Aside0.mk (Q_HO326 (hon 5 (by kernel_rfl)))
                have HO329 := Aside0.mk (Q_HO329 (hon 6 (by kernel_rfl)) hb_)
                refine Kd.R_append_rows_step Kd.string (w0 := w) w.heap.size (by rfl) (.tmp 9) (.tmp 11) 22 9 (.string ⟨#[]⟩) 16 rfl Try.underlying22 info9 rfl (by decide) (by omega) v328 y327 l0_2 _ _ _ (fun k_ => some k_ ≠ (v325 : Value).ownBlock) (fun _ => False) (zEv e9) (zEv e11) ?aO ?aR (fun _ _ h => h) (fun _ h => h.elim) ?aF ?aB ?aS ?aL ?_
                (case aR => exact zC)
                (case aB => exact zB)
                (case aF => exact (fun k_ hk => Kd.fresh' (Kd.R_lt (zR HO326)) k_ hk))
                (case aO => exact (okS_ HO329.out (fun k hy e => Q_D.1.2.1 (hon 5 (by kernel_rfl)) (hon 6 (by kernel_rfl)) hb_ k e.symm hy)))
                (case aS => exact (below_size zB))
                (case aL => have := LMc3.out; omega)
                intro v331 w16 ho hb hg hat
                rw [← Ny330.out] at ho
                have n0_ := Aside0.mk (blk_grown (g := gb319) (o := .cells #[.string a0_0, .slice A0_1 l0_1.length c0_1, .slice A0_2 l0_2.length c0_2, .slice A0_3 l0_3.length c0_3, .slice A0_4 l0_4.length c0_4, .slice A0_5 l0_5.length c0_5] 26 (0, 0)) zK hg (Kd.R_ne HO329.out BK319.out (by decide)))
                have n1_ := Aside0.mk (blk_grown (g := gb320) (o := .cells #[.string (⟨#[]⟩ : ByteArray), .slice none 0 0, .slice none 0 0, .slice none 0 0, .slice none 0 0, .slice none 0 0] 26 (0, 0)) zK hg (Kd.R_ne HO329.out BK320.out (by decide)))
                have n2_ := Aside0.mk (Kd.R_after (ok := (fun _ => True)) (by (with_reducible repeat (first | apply Kd.R_alloc | apply Kd.R_drewN | apply Kd.R_drew)); exact okS_ HO326.out (fun k hx => ⟨trivial, fun e => Q_D.1.2.1 (hon 5 (by kernel_rfl)) (hon 6 (by kernel_rfl)) hb_ k hx e.symm⟩)) hg hat)
                have n3_ := Aside0.mk (hb)
                have HX := ho.1
                have n4_ := Aside0.mk (Kd.R_mono (ok' := fun _ => True) ho (fun _ _ => trivial))
                have z_HO335 := fun (h0_ : b 10 = true) (h1_ : b 13 = false) => (show Kd.R (Kd.int .u32) 27 w16 w.heap.size (fun _ => True) v334 y333 from by first | exact (Kd.R_over' (by (with_reducible repeat (first | apply Kd.R_alloc | apply Kd.R_drewN | apply Kd.R_drew)); exact (Q_HO335 h0_ h1_)) (Kd.R_typed (zR HO329)) (by decide) hg) | exact Kd.R_mono (Kd.R_over' (by (with_reducible repeat (first | apply Kd.R_alloc | apply Kd.R_drewN | apply Kd.R_drew)); exact (Q_HO335 h0_ h1_)) (Kd.R_typed (zR HO329)) (by decide) hg) (fun _ h_ => by first | trivial | exact h_ | exact h_.1))
                have z_HO341 := fun (h0_ : b 14 = true) (h1_ : b 17 = false) => (show Kd.R (Kd.int .u32) 27 w16 w.heap.size (fun _ => True) v340 y339 from by first | exact (Kd.R_over' (by (with_reducible repeat (first | apply Kd.R_alloc | apply Kd.R_drewN | apply Kd.R_drew)); exact (Q_HO341 h0_ h1_)) (Kd.R_typed (zR HO329)) (by decide) hg) | exact Kd.R_mono (Kd.R_over' (by (with_reducible repeat (first | apply Kd.R_alloc | apply Kd.R_drewN | apply Kd.R_drew)); exact (Q_HO341 h0_ h1_)) (Kd.R_typed (zR HO329)) (by decide) hg) (fun _ h_ => by first | trivial | exact h_ | exact h_.1))
                have z_HO347 := fun (h0_ : b 18 = true) (h1_ : b 21 = false) => (show Kd.R k53 53 w16 w.heap.size (fun _ => True) v346 y345 from by first | exact (Kd.R_over' (by (with_reducible repeat (first | apply Kd.R_alloc | apply Kd.R_drewN | apply Kd.R_drew)); exact (Q_HO347 h0_ h1_)) (Kd.R_typed (zR HO329)) (by decide) hg) | exact Kd.R_mono (Kd.R_over' (by (with_reducible repeat (first | apply Kd.R_alloc | apply Kd.R_drewN | apply Kd.R_drew)); exact (Q_HO347 h0_ h1_)) (Kd.R_typed (zR HO329)) (by decide) hg) (fun _ h_ => by first | trivial | exact h_ | exact h_.1))
                clear BK319
                clear BK320
                clear HO326
                clear HB
                clear HO329
                have BK319 := n0_
                have BK320 := n1_
                have HO326 := n2_
                have HB := n3_
                have HO332 := n4_
                clear n0_ n1_ n2_ n3_ n4_
                clear ho hb hg hat
                refine hK.out _ _ ⟨v322, v325, v328, v331, v334, v337, v340, v343, v346, v349, m22_, (by rw [ha.out]; exact putSel_upk 6 hb_ rfl rfl rfl), zK, fun _ => zK, zB, fun _ h1_ => absurd ((hon 5 (by kernel_rfl)).symm.trans h1_) (by decide), fun _ => (by (with_reducible repeat (first | apply Kd.R_alloc | apply Kd.R_drewN | apply Kd.R_drew)); exact Kd.R_mono HO326.out (fun _ _ => trivial)), fun _ h1_ => absurd ((up_self b 9).symm.trans h1_) (by decide), fun _ => (zR HO332), z_HO335, fun h0_ => absurd ((hoff 13 (by kernel_rfl)).symm.trans h0_) (by decide), z_HO341, fun h0_ => absurd ((hoff 17 (by kernel_rfl)).symm.trans h0_) (by decide), z_HO347, fun h0_ => absurd ((hoff 21 (by kernel_rfl)).symm.trans h0_) (by decide), fun h0_ => absurd ((hoff 23 (by kernel_rfl)).symm.trans h0_) (by decide), fun h0_ => absurd ((hoff 22 (by kernel_rfl)).symm.trans h0_) (by decide), ⟨⟨fun _ h_ => absurd ((hon 5 (by kernel_rfl)).symm.trans h_) (by decide), fun _ _ h_ => absurd ((up_self b 9).symm.trans h_) (by decide), fun _ _ => fun k hx hy => HX k hy hx.symm⟩, Q_D.2⟩⟩
              refine steps_cons ?_ ?_
              · rintro b a w' ⟨v322, v325, v328, v331, v334, v337, v340, v343, v346, v349, m22_, ha, Q_BK319, Q_BK320, Q_HB, Q_HO323, Q_HO326, Q_HO329, Q_HO332, Q_HO335, Q_HO338, Q_HO341, Q_HO344, Q_HO347, Q_HO350, Q_BK320_e23, Q_X22_, Q_D⟩ hb_ hon hoff
                refine ⟨_, rfl, fun K hK => ?_⟩
                replace ha := Aside0.mk ha
                have BK319 := Aside0.mk Q_BK319
                have BK320 := Aside0.mk (Q_BK320 (hoff 23 (by kernel_rfl)))
                have HB := Aside0.mk Q_HB
                refine Kd.R_lit_step (Kd.int .u32) _ 27 ?hg (N := 13) ?hd (xs := ([] : List Int)) (inner := []) (ok := fun _ => True) (okp := fun _ => True) ?hr ?hp (fun _ hk => hk) trivial (Below.refl _ _) (Nat.le_refl _) (by simp) ?_; (case hd => rfl); (case hg => rfl); (case hr => first | (go_simp; done) | (go_simp; rfl)); (case hp => exact (Reps.none _ _))
                intro v334 w10 ho11 hb hg_ hnew_
                clear hg_ hnew_
                (first | rw [← Ny333.out] at ho11 | (simp only [Int.reduceToNat] at ho11; rw [← Ny333.out] at ho11))
                have n0_ := Aside0.mk (Kd.R_lower ho11 (below_size zB))
                have HBASE := Kd.R_base ho11
                have n1_ := Aside0.mk (zL BK319 hb)
                have n2_ := Aside0.mk (zL BK320 hb)
                have n3_ := Aside0.mk (below_step zB hb)
                have z_HO323 := fun (h0_ : b 2 = true) (h1_ : b 5 = false) => (show Kd.R Kd.string 9 w10 w.heap.size (fun _ => True) v322 y321 from by first | exact (Kd.R_below (by (with_reducible repeat (first | apply Kd.R_alloc | apply Kd.R_drewN | apply Kd.R_drew)); exact (Q_HO323 h0_ h1_)) hb) | exact Kd.R_mono (Kd.R_below (by (with_reducible repeat (first | apply Kd.R_alloc | apply Kd.R_drewN | apply Kd.R_drew)); exact (Q_HO323 h0_ h1_)) hb) (fun _ h_ => by first | trivial | exact h_ | exact h_.1))
                have z_HO326 := fun (h0_ : b 5 = true) => (show Kd.R Kd.string 9 w10 w.heap.size (fun _ => True) v325 y324 from by first | exact (Kd.R_below (by (with_reducible repeat (first | apply Kd.R_alloc | apply Kd.R_drewN | apply Kd.R_drew)); exact (Q_HO326 h0_)) hb) | exact Kd.R_mono (Kd.R_below (by (with_reducible repeat (first | apply Kd.R_alloc | apply Kd.R_drewN | apply Kd.R_drew)); exact (Q_HO326 h0_)) hb) (fun _ h_ => by first | trivial | exact h_ | exact h_.1))
                have z_HO329 := fun (h0_ : b 6 = true) (h1_ : b 9 = false) => (show Kd.R Kd.string 9 w10 w.heap.size (fun _ => True) v328 y327 from by first | exact (Kd.R_below (by (with_reducible repeat (first | apply Kd.R_alloc | apply Kd.R_drewN | apply Kd.R_drew)); exact (Q_HO329 h0_ h1_)) hb) | exact Kd.R_mono (Kd.R_below (by (with_reducible repeat (first | apply Kd.R_alloc | apply Kd.R_drewN | apply Kd.R_drew)); exact (Q_HO329 h0_ h1_)) hb) (fun _ h_ => by first | trivial | exact h_ | exact h_.1))
                have z_HO332 := fun (h0_ : b 9 = true) => (show Kd.R Kd.string 9 w10 w.heap.size (fun _ => True) v331 y330 from by first | exact (Kd.R_below (by (with_reducible repeat (first | apply Kd.R_alloc | apply Kd.R_drewN | apply Kd.R_drew)); exact (Q_HO332 h0_)) hb) | exact Kd.R_mono (Kd.R_below (by (with_reducible repeat (first | apply Kd.R_alloc | apply Kd.R_drewN | apply Kd.R_drew)); exact (Q_HO332 h0_)) hb) (fun _ h_ => by first | trivial | exact h_ | exact h_.1))
                have z_HO341 := fun (h0_ : b 14 = true) (h1_ : b 17 = false) => (show Kd.R (Kd.int .u32) 27 w10 w.heap.size (fun _ => True) v340 y339 from by first | exact (Kd.R_elder' (by (with_reducible repeat (first | apply Kd.R_alloc | apply Kd.R_drewN | apply Kd.R_drew)); exact (Q_HO341 h0_ h1_)) (Kd.R_base ho11) hb) | exact Kd.R_mono (Kd.R_elder' (by (with_reducible repeat (first | apply Kd.R_alloc | apply Kd.R_drewN | apply Kd.R_drew)); exact (Q_HO341 h0_ h1_)) (Kd.R_base ho11) hb) (fun _ h_ => by first | trivial | exact h_ | exact h_.1))
                have z_HO347 := fun (h0_ : b 18 = true) (h1_ : b 21 = false) => (show Kd.R k53 53 w10 w.heap.size (fun _ => True) v346 y345 from by first | exact (Kd.R_below (by (with_reducible repeat (first | apply Kd.R_alloc | apply Kd.R_drewN | apply Kd.R_drew)); exact (Q_HO347 h0_ h1_)) hb) | exact Kd.R_mono (Kd.R_below (by (with_reducible repeat (first | apply Kd.R_alloc | apply Kd.R_drewN | apply Kd.R_drew)); exact (Q_HO347 h0_ h1_)) hb) (fun _ h_ => by first | trivial | exact h_ | exact h_.1))
                clear BK319
                clear BK320
                clear HB
                have HO335 := n0_
                have BK319 := n1_
                have BK320 := n2_
                have HB := n3_
                clear n0_ n1_ n2_ n3_
                clear hb ho11
                refine hK.out _ _ ⟨v322, v325, v328, v331, v334, v337, v340, v343, v346, v349, m22_, (by rw [ha.out]; exact putSel_upk 7 hb_ rfl rfl rfl), zK, fun _ => zK, zB, z_HO323, z_HO326, z_HO329, z_HO332, fun _ _ => (zR HO335), fun h0_ => absurd ((hoff 13 (by kernel_rfl)).symm.trans h0_) (by decide), z_HO341, fun h0_ => absurd ((hoff 17 (by kernel_rfl)).symm.trans h0_) (by decide), z_HO347, fun h0_ => absurd ((hoff 21 (by kernel_rfl)).symm.trans h0_) (by decide), fun h0_ => absurd ((hoff 23 (by kernel_rfl)).symm.trans h0_) (by decide), fun h0_ => absurd ((hoff 22 (by kernel_rfl)).symm.trans h0_) (by decide), ⟨Q_D.1, ⟨fun _ _ h1 h2 => fun k hx hy => Nat.not_lt_of_le (HBASE k hx) (Kd.R_lt (Q_HO341 h1 h2) k hy), fun h_ => absurd ((hoff 13 (by kernel_rfl)).symm.trans h_) (by decide), fun h_ => absurd ((hoff 13 (by kernel_rfl)).symm.trans h_) (by decide)⟩⟩⟩
              refine steps_cons ?_ ?_
              · rintro b a w' ⟨v322, v325, v328, v331, v334, v337, v340, v343, v346, v349, m22_, ha, Q_BK319, Q_BK320, Q_HB, Q_HO323, Q_HO326, Q_HO329, Q_HO332, Q_HO335, Q_HO338, Q_HO341, Q_HO344, Q_HO347, Q_HO350, Q_BK320_e23, Q_X22_, Q_D⟩ hb_ hon hoff
                refine ⟨_, rfl, fun K hK => ?_⟩
                have e14 : a.tmps[14]? = some (.pointer (some ⟨gb319, 3, none⟩)) := by rw [ha]; exact (putSel_off rfl).trans rfl
                replace ha := Aside0.mk ha
                have BK319 := Aside0.mk Q_BK319
                have BK320 := Aside0.mk (Q_BK320 (hoff 23 (by kernel_rfl)))
                have HB := Aside0.mk Q_HB
                have hc0_ : w'.cell? ⟨gb319, 0, none⟩ = some (.string a0_0) := (blk_cell BK319.out 0).trans rfl
                have hc1_ : w'.cell? ⟨gb319, 1, none⟩ = some (.slice A0_1 l0_1.length c0_1) := (blk_cell BK319.out 1).trans rfl
                have hc2_ : w'.cell? ⟨gb319, 2, none⟩ = some (.slice A0_2 l0_2.length c0_2) := (blk_cell BK319.out 2).trans rfl
                have hc3_ : w'.cell? ⟨gb319, 3, none⟩ = some (.slice A0_3 l0_3.length c0_3) := (blk_cell BK319.out 3).trans rfl
                have hc4_ : w'.cell? ⟨gb319, 4, none⟩ = some (.slice A0_4 l0_4.length c0_4) := (blk_cell BK319.out 4).trans rfl
                have hc5_ : w'.cell? ⟨gb319, 5, none⟩ = some (.slice A0_5 l0_5.length c0_5) := (blk_cell BK319.out 5).trans rfl
                refine value_ (w1 := w') (v := .slice A0_3 l0_3.length c0_3) (by rfl) rfl ?_ ?_
                · go_simp
                  (try simp only [i64_w])
                  try rfl
                refine hK.out _ _ ⟨v322, v325, v328, v331, v334, v337, v340, v343, v346, v349, m22_, (by rw [ha.out]; exact putSel_upk 8 hb_ rfl rfl rfl), Q_BK319, Q_BK320, Q_HB, Q_HO323, Q_HO326, Q_HO329, Q_HO332, Q_HO335, fun h0_ => absurd ((hoff 13 (by kernel_rfl)).symm.trans h0_) (by decide), Q_HO341, fun h0_ => absurd ((hoff 17 (by kernel_rfl)).symm.trans h0_) (by decide), Q_HO347, fun h0_ => absurd ((hoff 21 (by kernel_rfl)).symm.trans h0_) (by decide), fun h0_ => absurd ((hoff 23 (by kernel_rfl)).symm.trans h0_) (by decide), fun h0_ => absurd ((hoff 22 (by kernel_rfl)).symm.trans h0_) (by decide), Q_D⟩
              refine steps_cons ?_ ?_
              · rintro b a w' ⟨v322, v325, v328, v331, v334, v337, v340, v343, v346, v349, m22_, ha, Q_BK319, Q_BK320, Q_HB, Q_HO323, Q_HO326, Q_HO329, Q_HO332, Q_HO335, Q_HO338, Q_HO341, Q_HO344, Q_HO347, Q_HO350, Q_BK320_e23, Q_X22_, Q_D⟩ hb_ hon hoff
                refine ⟨_, rfl, fun K hK => ?_⟩
                have e13 : a.tmps[13]? = some (v334) := by rw [ha]; exact putSel_on (e := (10, 13, v334)) 7 rfl rfl (hon 10 (by kernel_rfl)) rfl
                have e15 : a.tmps[15]? = some (.slice A0_3 l0_3.length c0_3) := by rw [ha]; exact putSel_on (e := (12, 15, .slice A0_3 l0_3.length c0_3)) 8 rfl rfl (hon 12 (by kernel_rfl)) rfl
                replace ha := Aside0.mk ha
                have BK319 := Aside0.mk Q_BK319
                have BK320 := Aside0.mk (Q_BK320 (hoff 23 (by kernel_rfl)))
                have HB := Aside0.mk Q_HB
                have HO326 := Aside0.mk (Q_HO326 (hon 5 (by kernel_rfl)))
                have HO332 := Aside0.mk (Q_HO332 (hon 9 (by kernel_rfl)))
                have HO335 := Aside0.mk (Q_HO335 (hon 10 (by kernel_rfl)) hb_)
                refine Kd.R_append_rows_step (Kd.int .u32) (w0 := w) w.heap.size (by rfl) (.tmp 13) (.tmp 15) 23 27 (.int .u32 0) 4 rfl Try.underlying23 info27 rfl (by decide) (by omega) v334 y333 l0_3 _ _ _ (fun k_ => b 14 = true → some k_ ≠ (v340 : Value).ownBlock) (fun _ => False) (zEv e13) (zEv e15) ?aO ?aR (fun _ _ h => h) (fun _ h => h.elim) ?aF ?aB ?aS ?aL ?_
                (case aR => exact zC)
                (case aB => exact zB)
                (case aF => exact (fun k_ hk h6 => Kd.fresh' (Kd.R_lt (Q_HO341 h6 (hoff 17 (by kernel_rfl)))) k_ hk))
                (case aO => exact (okS_ HO335.out (fun k hx h6 e => Q_D.2.1 (hon 10 (by kernel_rfl)) hb_ h6 (hoff 17 (by kernel_rfl)) k hx e.symm)))
                (case aS => exact (below_size zB))
                (case aL => have := LMc4.out; omega)
                intro v337 w19 ho hb hg hat
                rw [← Ny336.out] at ho
                have n0_ := Aside0.mk (blk_grown (g := gb319) (o := .cells #[.string a0_0, .slice A0_1 l0_1.length c0_1, .slice A0_2 l0_2.length c0_2, .slice A0_3 l0_3.length c0_3, .slice A0_4 l0_4.length c0_4, .slice A0_5 l0_5.length c0_5] 26 (0, 0)) zK hg (Kd.R_ne HO335.out BK319.out (by decide)))
                have n1_ := Aside0.mk (blk_grown (g := gb320) (o := .cells #[.string (⟨#[]⟩ : ByteArray), .slice none 0 0, .slice none 0 0, .slice none 0 0, .slice none 0 0, .slice none 0 0] 26 (0, 0)) zK hg (Kd.R_ne HO335.out BK320.out (by decide)))
                have n2_ := Aside0.mk (Kd.R_over' (zR HO326) (Kd.R_typed (zR HO335)) (by decide) hg)
                have n3_ := Aside0.mk (Kd.R_over' (zR HO332) (Kd.R_typed (zR HO335)) (by decide) hg)
                have n4_ := Aside0.mk (hb)
                have HX := ho.1
                have n5_ := Aside0.mk (Kd.R_mono (ok' := fun _ => True) ho (fun _ _ => trivial))
                have z_HO341 := fun (h0_ : b 14 = true) (h1_ : b 17 = false) => (show Kd.R (Kd.int .u32) 27 w19 w.heap.size (fun _ => True) v340 y339 from by first | exact (Kd.R_after (ok := (fun _ => True)) (by (with_reducible repeat (first | apply Kd.R_alloc | apply Kd.R_drewN | apply Kd.R_drew)); exact okS_ (Q_HO341 h0_ h1_) (fun k hy => ⟨trivial, fun e => Q_D.2.1 (hon 10 (by kernel_rfl)) hb_ h0_ h1_ k e.symm hy⟩)) hg hat) | exact Kd.R_mono (Kd.R_after (ok := (fun _ => True)) (by (with_reducible repeat (first | apply Kd.R_alloc | apply Kd.R_drewN | apply Kd.R_drew)); exact okS_ (Q_HO341 h0_ h1_) (fun k hy => ⟨trivial, fun e => Q_D.2.1 (hon 10 (by kernel_rfl)) hb_ h0_ h1_ k e.symm hy⟩)) hg hat) (fun _ h_ => by first | trivial | exact h_ | exact h_.1))
                have z_HO347 := fun (h0_ : b 18 = true) (h1_ : b 21 = false) => (show Kd.R k53 53 w19 w.heap.size (fun _ => True) v346 y345 from by first | exact (Kd.R_over' (by (with_reducible repeat (first | apply Kd.R_alloc | apply Kd.R_drewN | apply Kd.R_drew)); exact (Q_HO347 h0_ h1_)) (Kd.R_typed (zR HO335)) (by decide) hg) | exact Kd.R_mono (Kd.R_over' (by (with_reducible repeat (first | apply Kd.R_alloc | apply Kd.R_drewN | apply Kd.R_drew)); exact (Q_HO347 h0_ h1_)) (Kd.R_typed (zR HO335)) (by decide) hg) (fun _ h_ => by first | trivial | exact h_ | exact h_.1))
                clear BK319
                clear BK320
                clear HO326
                clear HO332
                clear HB
                clear HO335
                have BK319 := n0_
                have BK320 := n1_
                have HO326 := n2_
                have HO332 := n3_
                have HB := n4_
                have HO338 := n5_
                clear n0_ n1_ n2_ n3_ n4_ n5_
                clear ho hb hg hat
                refine hK.out _ _ ⟨v322, v325, v328, v331, v334, v337, v340, v343, v346, v349, m22_, (by rw [ha.out]; exact putSel_upk 9 hb_ rfl rfl rfl), zK, fun _ => zK, zB, fun _ h1_ => absurd ((hon 5 (by kernel_rfl)).symm.trans h1_) (by decide), fun _ => (zR HO326), fun _ h1_ => absurd ((hon 9 (by kernel_rfl)).symm.trans h1_) (by decide), fun _ => (zR HO332), fun _ h1_ => absurd ((up_self b 13).symm.trans h1_) (by decide), fun _ => (zR HO338), z_HO341, fun h0_ => absurd ((hoff 17 (by kernel_rfl)).symm.trans h0_) (by decide), z_HO347, fun h0_ => absurd ((hoff 21 (by kernel_rfl)).symm.trans h0_) (by decide), fun h0_ => absurd ((hoff 23 (by kernel_rfl)).symm.trans h0_) (by decide), fun h0_ => absurd ((hoff 22 (by kernel_rfl)).symm.trans h0_) (by decide), ⟨Q_D.1, ⟨fun _ h_ => absurd ((up_self b 13).symm.trans h_) (by decide), fun _ h1 _ => fun k hx hy => HX k hx h1 hy.symm, fun _ h_ => absurd ((hoff 17 (by kernel_rfl)).symm.trans h_) (by decide)⟩⟩⟩
              refine steps_cons ?_ ?_
              · rintro b a w' ⟨v322, v325, v328, v331, v334, v337, v340, v343, v346, v349, m22_, ha, Q_BK319, Q_BK320, Q_HB, Q_HO323, Q_HO326, Q_HO329, Q_HO332, Q_HO335, Q_HO338, Q_HO341, Q_HO344, Q_HO347, Q_HO350, Q_BK320_e23, Q_X22_, Q_D⟩ hb_ hon hoff
                refine ⟨_, rfl, fun K hK => ?_⟩
                replace ha := Aside0.mk ha
                have BK319 := Aside0.mk Q_BK319
                have BK320 := Aside0.mk (Q_BK320 (hoff 23 (by kernel_rfl)))
                have HB := Aside0.mk Q_HB
                refine Kd.R_lit_step (Kd.int .u32) _ 27 ?hg (N := 17) ?hd (xs := ([] : List Int)) (inner := []) (ok := fun _ => True) (okp := fun _ => True) ?hr ?hp (fun _ hk => hk) trivial (Below.refl _ _) (Nat.le_refl _) (by simp) ?_; (case hd => rfl); (case hg => rfl); (case hr => first | (go_simp; done) | (go_simp; rfl)); (case hp => exact (Reps.none _ _))
                intro v340 w10 ho11 hb hg_ hnew_
                clear hg_ hnew_
                (first | rw [← Ny339.out] at ho11 | (simp only [Int.reduceToNat] at ho11; rw [← Ny339.out] at ho11))
                have n0_ := Aside0.mk (Kd.R_lower ho11 (below_size zB))
                have HBASE := Kd.R_base ho11
                have n1_ := Aside0.mk (zL BK319 hb)
                have n2_ := Aside0.mk (zL BK320 hb)
                have n3_ := Aside0.mk (below_step zB hb)
                have z_HO323 := fun (h0_ : b 2 = true) (h1_ : b 5 = false) => (show Kd.R Kd.string 9 w10 w.heap.size (fun _ => True) v322 y321 from by first | exact (Kd.R_below (by (with_reducible repeat (first | apply Kd.R_alloc | apply Kd.R_drewN | apply Kd.R_drew)); exact (Q_HO323 h0_ h1_)) hb) | exact Kd.R_mono (Kd.R_below (by (with_reducible repeat (first | apply Kd.R_alloc | apply Kd.R_drewN | apply Kd.R_drew)); exact (Q_HO323 h0_ h1_)) hb) (fun _ h_ => by first | trivial | exact h_ | exact h_.1))
                have z_HO326 := fun (h0_ : b 5 = true) => (show Kd.R Kd.string 9 w10 w.heap.size (fun _ => True) v325 y324 from by first | exact (Kd.R_below (by (with_reducible repeat (first | apply Kd.R_alloc | apply Kd.R_drewN | apply Kd.R_drew)); exact (Q_HO326 h0_)) hb) | exact Kd.R_mono (Kd.R_below (by (with_reducible repeat (first | apply Kd.R_alloc | apply Kd.R_drewN | apply Kd.R_drew)); exact (Q_HO326 h0_)) hb) (fun _ h_ => by first | trivial | exact h_ | exact h_.1))
                have z_HO329 := fun (h0_ : b 6 = true) (h1_ : b 9 = false) => (show Kd.R Kd.string 9 w10 w.heap.size (fun _ => True) v328 y327 from by first | exact (Kd.R_below (by (with_reducible repeat (first | apply Kd.R_alloc | apply Kd.R_drewN | apply Kd.R_drew)); exact (Q_HO329 h0_ h1_)) hb) | exact Kd.R_mono (Kd.R_below (by (with_reducible repeat (first | apply Kd.R_alloc | apply Kd.R_drewN | apply Kd.R_drew)); exact (Q_HO329 h0_ h1_)) hb) (fun _ h_ => by first | trivial | exact h_ | exact h_.1))
                have z_HO332 := fun (h0_ : b 9 = true) => (show Kd.R Kd.string 9 w10 w.heap.size (fun _ => True) v331 y330 from by first | exact (Kd.R_below (by (with_reducible repeat (first | apply Kd.R_alloc | apply Kd.R_drewN | apply Kd.R_drew)); exact (Q_HO332 h0_)) hb) | exact Kd.R_mono (Kd.R_below (by (with_reducible repeat (first | apply Kd.R_alloc | apply Kd.R_drewN | apply Kd.R_drew)); exact (Q_HO332 h0_)) hb) (fun _ h_ => by first | trivial | exact h_ | exact h_.1))
                have z_HO335 := fun (h0_ : b 10 = true) (h1_ : b 13 = false) => (show Kd.R (Kd.int .u32) 27 w10 w.heap.size (fun _ => True) v334 y333 from by first | exact (Kd.R_elder' (by (with_reducible repeat (first | apply Kd.R_alloc | apply Kd.R_drewN | apply Kd.R_drew)); exact (Q_HO335 h0_ h1_)) (Kd.R_base ho11) hb) | exact Kd.R_mono (Kd.R_elder' (by (with_reducible repeat (first | apply Kd.R_alloc | apply Kd.R_drewN | apply Kd.R_drew)); exact (Q_HO335 h0_ h1_)) (Kd.R_base ho11) hb) (fun _ h_ => by first | trivial | exact h_ | exact h_.1))
                have z_HO338 := fun (h0_ : b 13 = true) => (show Kd.R (Kd.int .u32) 27 w10 w.heap.size (fun _ => True) v337 y336 from by first | exact (Kd.R_elder' (by (with_reducible repeat (first | apply Kd.R_alloc | apply Kd.R_drewN | apply Kd.R_drew)); exact (Q_HO338 h0_)) (Kd.R_base ho11) hb) | exact Kd.R_mono (Kd.R_elder' (by (with_reducible repeat (first | apply Kd.R_alloc | apply Kd.R_drewN | apply Kd.R_drew)); exact (Q_HO338 h0_)) (Kd.R_base ho11) hb) (fun _ h_ => by first | trivial | exact h_ | exact h_.1))
                have z_HO347 := fun (h0_ : b 18 = true) (h1_ : b 21 = false) => (show Kd.R k53 53 w10 w.heap.size (fun _ => True) v346 y345 from by first | exact (Kd.R_below (by (with_reducible repeat (first | apply Kd.R_alloc | apply Kd.R_drewN | apply Kd.R_drew)); exact (Q_HO347 h0_ h1_)) hb) | exact Kd.R_mono (Kd.R_below (by (with_reducible repeat (first | apply Kd.R_alloc | apply Kd.R_drewN | apply Kd.R_drew)); exact (Q_HO347 h0_ h1_)) hb) (fun _ h_ => by first | trivial | exact h_ | exact h_.1))
                clear BK319
                clear BK320
                clear HB
                have HO341 := n0_
                have BK319 := n1_
                have BK320 := n2_
                have HB := n3_
                clear n0_ n1_ n2_ n3_
                clear hb ho11
                refine hK.out _ _ ⟨v322, v325, v328, v331, v334, v337, v340, v343, v346, v349, m22_, (by rw [ha.out]; exact putSel_upk 10 hb_ rfl rfl rfl), zK, fun _ => zK, zB, z_HO323, z_HO326, z_HO329, z_HO332, z_HO335, z_HO338, fun _ _ => (zR HO341), fun h0_ => absurd ((hoff 17 (by kernel_rfl)).symm.trans h0_) (by decide), z_HO347, fun h0_ => absurd ((hoff 21 (by kernel_rfl)).symm.trans h0_) (by decide), fun h0_ => absurd ((hoff 23 (by kernel_rfl)).symm.trans h0_) (by decide), fun h0_ => absurd ((hoff 22 (by kernel_rfl)).symm.trans h0_) (by decide), ⟨Q_D.1, ⟨fun h0 h1 _ _ => fun k hx hy => Nat.not_lt_of_le (HBASE k hy) (Kd.R_lt (Q_HO335 h0 h1) k hx), fun h0 _ _ => fun k hx hy => Nat.not_lt_of_le (HBASE k hy) (Kd.R_lt (Q_HO338 h0) k hx), fun _ h_ => absurd ((hoff 17 (by kernel_rfl)).symm.trans h_) (by decide)⟩⟩⟩
              refine steps_cons ?_ ?_
              · rintro b a w' ⟨v322, v325, v328, v331, v334, v337, v340, v343, v346, v349, m22_, ha, Q_BK319, Q_BK320, Q_HB, Q_HO323, Q_HO326, Q_HO329, Q_HO332, Q_HO335, Q_HO338, Q_HO341, Q_HO344, Q_HO347, Q_HO350, Q_BK320_e23, Q_X22_, Q_D⟩ hb_ hon hoff
                refine ⟨_, rfl, fun K hK => ?_⟩
                have e18 : a.tmps[18]? = some (.pointer (some ⟨gb319, 4, none⟩)) := by rw [ha]; exact (putSel_off rfl).trans rfl
                replace ha := Aside0.mk ha
                have BK319 := Aside0.mk Q_BK319
                have BK320 := Aside0.mk (Q_BK320 (hoff 23 (by kernel_rfl)))
                have HB := Aside0.mk Q_HB
                have hc0_ : w'.cell? ⟨gb319, 0, none⟩ = some (.string a0_0) := (blk_cell BK319.out 0).trans rfl
                have hc1_ : w'.cell? ⟨gb319, 1, none⟩ = some (.slice A0_1 l0_1.length c0_1) := (blk_cell BK319.out 1).trans rfl
                have hc2_ : w'.cell? ⟨gb319, 2, none⟩ = some (.slice A0_2 l0_2.length c0_2) := (blk_cell BK319.out 2).trans rfl
                have hc3_ : w'.cell? ⟨gb319, 3, none⟩ = some (.slice A0_3 l0_3.length c0_3) := (blk_cell BK319.out 3).trans rfl
                have hc4_ : w'.cell? ⟨gb319, 4, none⟩ = some (.slice A0_4 l0_4.length c0_4) := (blk_cell BK319.out 4).trans rfl
                have hc5_ : w'.cell? ⟨gb319, 5, none⟩ = some (.slice A0_5 l0_5.length c0_5) := (blk_cell BK319.out 5).trans rfl
                refine value_ (w1 := w') (v := .slice A0_4 l0_4.length c0_4) (by rfl) rfl ?_ ?_
                · go_simp
                  (try simp only [i64_w])
                  try rfl
                refine hK.out _ _ ⟨v322, v325, v328, v331, v334, v337, v340, v343, v346, v349, m22_, (by rw [ha.out]; exact putSel_upk 11 hb_ rfl rfl rfl), Q_BK319, Q_BK320, Q_HB, Q_HO323, Q_HO326, Q_HO329, Q_HO332, Q_HO335, Q_HO338, Q_HO341, fun h0_ => absurd ((hoff 17 (by kernel_rfl)).symm.trans h0_) (by decide), Q_HO347, fun h0_ => absurd ((hoff 21 (by kernel_rfl)).symm.trans h0_) (by decide), fun h0_ => absurd ((hoff 23 (by kernel_rfl)).symm.trans h0_) (by decide), fun h0_ => absurd ((hoff 22 (by kernel_rfl)).symm.trans h0_) (by decide), Q_D⟩
              refine steps_cons ?_ ?_
              · rintro b a w' ⟨v322, v325, v328, v331, v334, v337, v340, v343, v346, v349, m22_, ha, Q_BK319, Q_BK320, Q_HB, Q_HO323, Q_HO326, Q_HO329, Q_HO332, Q_HO335, Q_HO338, Q_HO341, Q_HO344, Q_HO347, Q_HO350, Q_BK320_e23, Q_X22_, Q_D⟩ hb_ hon hoff
                refine ⟨_, rfl, fun K hK => ?_⟩
                have e17 : a.tmps[17]? = some (v340) := by rw [ha]; exact putSel_on (e := (14, 17, v340)) 10 rfl rfl (hon 14 (by kernel_rfl)) rfl
                have e19 : a.tmps[19]? = some (.slice A0_4 l0_4.length c0_4) := by rw [ha]; exact putSel_on (e := (16, 19, .slice A0_4 l0_4.length c0_4)) 11 rfl rfl (hon 16 (by kernel_rfl)) rfl
                replace ha := Aside0.mk ha
                have BK319 := Aside0.mk Q_BK319
                have BK320 := Aside0.mk (Q_BK320 (hoff 23 (by kernel_rfl)))
                have HB := Aside0.mk Q_HB
                have HO326 := Aside0.mk (Q_HO326 (hon 5 (by kernel_rfl)))
                have HO332 := Aside0.mk (Q_HO332 (hon 9 (by kernel_rfl)))
                have HO338 := Aside0.mk (Q_HO338 (hon 13 (by kernel_rfl)))
                have HO341 := Aside0.mk (Q_HO341 (hon 14 (by kernel_rfl)) hb_)
                refine Kd.R_append_rows_step (Kd.int .u32) (w0 := w) w.heap.size (by rfl) (.tmp 17) (.tmp 19) 23 27 (.int .u32 0) 4 rfl Try.underlying23 info27 rfl (by decide) (by omega) v340 y339 l0_4 _ _ _ (fun k_ => some k_ ≠ (v337 : Value).ownBlock) (fun _ => False) (zEv e17) (zEv e19) ?aO ?aR (fun _ _ h => h) (fun _ h => h.elim) ?aF ?aB ?aS ?aL ?_
                (case aR => exact zC)
                (case aB => exact zB)
                (case aF => exact (fun k_ hk => Kd.fresh' (Kd.R_lt (zR HO338)) k_ hk))
                (case aO => exact (okS_ HO341.out (fun k hy e => Q_D.2.2.1 (hon 13 (by kernel_rfl)) (hon 14 (by kernel_rfl)) hb_ k e.symm hy)))
                (case aS => exact (below_size zB))
                (case aL => have := LMc5.out; omega)
                intro v343 w22 ho hb hg hat
                rw [← Ny342.out] at ho
                have n0_ := Aside0.mk (blk_grown (g := gb319) (o := .cells #[.string a0_0, .slice A0_1 l0_1.length c0_1, .slice A0_2 l0_2.length c0_2, .slice A0_3 l0_3.length c0_3, .slice A0_4 l0_4.length c0_4, .slice A0_5 l0_5.length c0_5] 26 (0, 0)) zK hg (Kd.R_ne HO341.out BK319.out (by decide)))
                have n1_ := Aside0.mk (blk_grown (g := gb320) (o := .cells #[.string (⟨#[]⟩ : ByteArray), .slice none 0 0, .slice none 0 0, .slice none 0 0, .slice none 0 0, .slice none 0 0] 26 (0, 0)) zK hg (Kd.R_ne HO341.out BK320.out (by decide)))
                have n2_ := Aside0.mk (Kd.R_over' (zR HO326) (Kd.R_typed (zR HO341)) (by decide) hg)
                have n3_ := Aside0.mk (Kd.R_over' (zR HO332) (Kd.R_typed (zR HO341)) (by decide) hg)
                have n4_ := Aside0.mk (Kd.R_after (ok := (fun _ => True)) (by (with_reducible repeat (first | apply Kd.R_alloc | apply Kd.R_drewN | apply Kd.R_drew)); exact okS_ HO338.out (fun k hx => ⟨trivial, fun e => Q_D.2.2.1 (hon 13 (by kernel_rfl)) (hon 14 (by kernel_rfl)) hb_ k hx e.symm⟩)) hg hat)
                have n5_ := Aside0.mk (hb)
                have HX := ho.1
                have n6_ := Aside0.mk (Kd.R_mono (ok' := fun _ => True) ho (fun _ _ => trivial))
                have z_HO347 := fun (h0_ : b 18 = true) (h1_ : b 21 = false) => (show Kd.R k53 53 w22 w.heap.size (fun _ => True) v346 y345 from by first | exact (Kd.R_over' (by (with_reducible repeat (first | apply Kd.R_alloc | apply Kd.R_drewN | apply Kd.R_drew)); exact (Q_HO347 h0_ h1_)) (Kd.R_typed (zR HO341)) (by decide) hg) | exact Kd.R_mono (Kd.R_over' (by (with_reducible repeat (first | apply Kd.R_alloc | apply Kd.R_drewN | apply Kd.R_drew)); exact (Q_HO347 h0_ h1_)) (Kd.R_typed (zR HO341)) (by decide) hg) (fun _ h_ => by first | trivial | exact h_ | exact h_.1))
                clear BK319
                clear BK320
                clear HO326
                clear HO332
                clear HO338
                clear HB
                clear HO341
                have BK319 := n0_
                have BK320 := n1_
                have HO326 := n2_
                have HO332 := n3_
                have HO338 := n4_
                have HB := n5_
                have HO344 := n6_
                clear n0_ n1_ n2_ n3_ n4_ n5_ n6_
                clear ho hb hg hat
                refine hK.out _ _ ⟨v322, v325, v328, v331, v334, v337, v340, v343, v346, v349, m22_, (by rw [ha.out]; exact putSel_upk 12 hb_ rfl rfl rfl), zK, fun _ => zK, zB, fun _ h1_ => absurd ((hon 5 (by kernel_rfl)).symm.trans h1_) (by decide), fun _ => (zR HO326), fun _ h1_ => absurd ((hon 9 (by kernel_rfl)).symm.trans h1_) (by decide), fun _ => (zR HO332), fun _ h1_ => absurd ((hon 13 (by kernel_rfl)).symm.trans h1_) (by decide), fun _ => (by (with_reducible repeat (first | apply Kd.R_alloc | apply Kd.R_drewN | apply Kd.R_drew)); exact Kd.R_mono HO338.out (fun _ _ => trivial)), fun _ h1_ => absurd ((up_self b 17).symm.trans h1_) (by decide), fun _ => (zR HO344), z_HO347, fun h0_ => absurd ((hoff 21 (by kernel_rfl)).symm.trans h0_) (by decide), fun h0_ => absurd ((hoff 23 (by kernel_rfl)).symm.trans h0_) (by decide), fun h0_ => absurd ((hoff 22 (by kernel_rfl)).symm.trans h0_) (by decide), ⟨Q_D.1, ⟨fun _ h_ => absurd ((hon 13 (by kernel_rfl)).symm.trans h_) (by decide), fun _ _ h_ => absurd ((up_self b 17).symm.trans h_) (by decide), fun _ _ => fun k hx hy => HX k hy hx.symm⟩⟩⟩
              refine steps_cons ?_ ?_
              · rintro b a w' ⟨v322, v325, v328, v331, v334, v337, v340, v343, v346, v349, m22_, ha, Q_BK319, Q_BK320, Q_HB, Q_HO323, Q_HO326, Q_HO329, Q_HO332, Q_HO335, Q_HO338, Q_HO341, Q_HO344, Q_HO347, Q_HO350, Q_BK320_e23, Q_X22_, Q_D⟩ hb_ hon hoff
                refine ⟨_, rfl, fun K hK => ?_⟩
                replace ha := Aside0.mk ha
                have BK319 := Aside0.mk Q_BK319
                have BK320 := Aside0.mk (Q_BK320 (hoff 23 (by kernel_rfl)))
                have HB := Aside0.mk Q_HB
                refine Kd.R_lit_step k53 _ 53 ?hg (N := 21) ?hd (xs := ([] : List (S53))) (inner := []) (ok := fun _ => True) (okp := fun _ => True) ?hr ?hp (fun _ hk => hk) trivial (Below.refl _ _) (Nat.le_refl _) (by simp) ?_; (case hd => rfl); (case hg => rfl); (case hr => first | (go_simp; done) | (go_simp; rfl)); (case hp => exact (Reps.none _ _))
                intro v346 w10 ho11 hb hg_ hnew_
                clear hg_ hnew_
                (first | rw [← Ny345.out] at ho11 | (simp only [Int.reduceToNat] at ho11; rw [← Ny345.out] at ho11))
                have n0_ := Aside0.mk (Kd.R_lower ho11 (below_size zB))
                have HBASE := Kd.R_base ho11
                have n1_ := Aside0.mk (zL BK319 hb)
                have n2_ := Aside0.mk (zL BK320 hb)
                have n3_ := Aside0.mk (below_step zB hb)
                have z_HO323 := fun (h0_ : b 2 = true) (h1_ : b 5 = false) => (show Kd.R Kd.string 9 w10 w.heap.size (fun _ => True) v322 y321 from by first | exact (Kd.R_below (by (with_reducible repeat (first | apply Kd.R_alloc | apply Kd.R_drewN | apply Kd.R_drew)); exact (Q_HO323 h0_ h1_)) hb) | exact Kd.R_mono (Kd.R_below (by (with_reducible repeat (first | apply Kd.R_alloc | apply Kd.R_drewN | apply Kd.R_drew)); exact (Q_HO323 h0_ h1_)) hb) (fun _ h_ => by first | trivial | exact h_ | exact h_.1))
                have z_HO326 := fun (h0_ : b 5 = true) => (show Kd.R Kd.string 9 w10 w.heap.size (fun _ => True) v325 y324 from by first | exact (Kd.R_below (by (with_reducible repeat (first | apply Kd.R_alloc | apply Kd.R_drewN | apply Kd.R_drew)); exact (Q_HO326 h0_)) hb) | exact Kd.R_mono (Kd.R_below (by (with_reducible repeat (first | apply Kd.R_alloc | apply Kd.R_drewN | apply Kd.R_drew)); exact (Q_HO326 h0_)) hb) (fun _ h_ => by first | trivial | exact h_ | exact h_.1))
                have z_HO329 := fun (h0_ : b 6 = true) (h1_ : b 9 = false) => (show Kd.R Kd.string 9 w10 w.heap.size (fun _ => True) v328 y327 from by first | exact (Kd.R_below (by (with_reducible repeat (first | apply Kd.R_alloc | apply Kd.R_drewN | apply Kd.R_drew)); exact (Q_HO329 h0_ h1_)) hb) | exact Kd.R_mono (Kd.R_below (by (with_reducible repeat (first | apply Kd.R_alloc | apply Kd.R_drewN | apply Kd.R_drew)); exact (Q_HO329 h0_ h1_)) hb) (fun _ h_ => by first | trivial | exact h_ | exact h_.1))
                have z_HO332 := fun (h0_ : b 9 = true) => (show Kd.R Kd.string 9 w10 w.heap.size (fun _ => True) v331 y330 from by first | exact (Kd.R_below (by (with_reducible repeat (first | apply Kd.R_alloc | apply Kd.R_drewN | apply Kd.R_drew)); exact (Q_HO332 h0_)) hb) | exact Kd.R_mono (Kd.R_below (by (with_reducible repeat (first | apply Kd.R_alloc | apply Kd.R_drewN | apply Kd.R_drew)); exact (Q_HO332 h0_)) hb) (fun _ h_ => by first | trivial | exact h_ | exact h_.1))
                have z_HO335 := fun (h0_ : b 10 = true) (h1_ : b 13 = false) => (show Kd.R (Kd.int .u32) 27 w10 w.heap.size (fun _ => True) v334 y333 from by first | exact (Kd.R_below (by (with_reducible repeat (first | apply Kd.R_alloc | apply Kd.R_drewN | apply Kd.R_drew)); exact (Q_HO335 h0_ h1_)) hb) | exact Kd.R_mono (Kd.R_below (by (with_reducible repeat (first | apply Kd.R_alloc | apply Kd.R_drewN | apply Kd.R_drew)); exact (Q_HO335 h0_ h1_)) hb) (fun _ h_ => by first | trivial | exact h_ | exact h_.1))
                have z_HO338 := fun (h0_ : b 13 = true) => (show Kd.R (Kd.int .u32) 27 w10 w.heap.size (fun _ => True) v337 y336 from by first | exact (Kd.R_below (by (with_reducible repeat (first | apply Kd.R_alloc | apply Kd.R_drewN | apply Kd.R_drew)); exact (Q_HO338 h0_)) hb) | exact Kd.R_mono (Kd.R_below (by (with_reducible repeat (first | apply Kd.R_alloc | apply Kd.R_drewN | apply Kd.R_drew)); exact (Q_HO338 h0_)) hb) (fun _ h_ => by first | trivial | exact h_ | exact h_.1))
                have z_HO341 := fun (h0_ : b 14 = true) (h1_ : b 17 = false) => (show Kd.R (Kd.int .u32) 27 w10 w.heap.size (fun _ => True) v340 y339 from by first | exact (Kd.R_below (by (with_reducible repeat (first | apply Kd.R_alloc | apply Kd.R_drewN | apply Kd.R_drew)); exact (Q_HO341 h0_ h1_)) hb) | exact Kd.R_mono (Kd.R_below (by (with_reducible repeat (first | apply Kd.R_alloc | apply Kd.R_drewN | apply Kd.R_drew)); exact (Q_HO341 h0_ h1_)) hb) (fun _ h_ => by first | trivial | exact h_ | exact h_.1))
                have z_HO344 := fun (h0_ : b 17 = true) => (show Kd.R (Kd.int .u32) 27 w10 w.heap.size (fun _ => True) v343 y342 from by first | exact (Kd.R_below (by (with_reducible repeat (first | apply Kd.R_alloc | apply Kd.R_drewN | apply Kd.R_drew)); exact (Q_HO344 h0_)) hb) | exact Kd.R_mono (Kd.R_below (by (with_reducible repeat (first | apply Kd.R_alloc | apply Kd.R_drewN | apply Kd.R_drew)); exact (Q_HO344 h0_)) hb) (fun _ h_ => by first | trivial | exact h_ | exact h_.1))
                clear BK319
                clear BK320
                clear HB
                have HO347 := n0_
                have BK319 := n1_
                have BK320 := n2_
                have HB := n3_
                clear n0_ n1_ n2_ n3_
                clear hb ho11
                refine hK.out _ _ ⟨v322, v325, v328, v331, v334, v337, v340, v343, v346, v349, m22_, (by rw [ha.out]; exact putSel_upk 13 hb_ rfl rfl rfl), zK, fun _ => zK, zB, z_HO323, z_HO326, z_HO329, z_HO332, z_HO335, z_HO338, z_HO341, z_HO344, fun _ _ => (zR HO347), fun h0_ => absurd ((hoff 21 (by kernel_rfl)).symm.trans h0_) (by decide), fun h0_ => absurd ((hoff 23 (by kernel_rfl)).symm.trans h0_) (by decide), fun h0_ => absurd ((hoff 22 (by kernel_rfl)).symm.trans h0_) (by decide), Q_D⟩
              refine steps_cons ?_ ?_
              · rintro b a w' ⟨v322, v325, v328, v331, v334, v337, v340, v343, v346, v349, m22_, ha, Q_BK319, Q_BK320, Q_HB, Q_HO323, Q_HO326, Q_HO329, Q_HO332, Q_HO335, Q_HO338, Q_HO341, Q_HO344, Q_HO347, Q_HO350, Q_BK320_e23, Q_X22_, Q_D⟩ hb_ hon hoff
                refine ⟨_, rfl, fun K hK => ?_⟩
                have e22 : a.tmps[22]? = some (.pointer (some ⟨gb319, 5, none⟩)) := by rw [ha]; exact (putSel_off rfl).trans rfl
                replace ha := Aside0.mk ha
                have BK319 := Aside0.mk Q_BK319
                have BK320 := Aside0.mk (Q_BK320 (hoff 23 (by kernel_rfl)))
                have HB := Aside0.mk Q_HB
                have hc0_ : w'.cell? ⟨gb319, 0, none⟩ = some (.string a0_0) := (blk_cell BK319.out 0).trans rfl
                have hc1_ : w'.cell? ⟨gb319, 1, none⟩ = some (.slice A0_1 l0_1.length c0_1) := (blk_cell BK319.out 1).trans rfl
                have hc2_ : w'.cell? ⟨gb319, 2, none⟩ = some (.slice A0_2 l0_2.length c0_2) := (blk_cell BK319.out 2).trans rfl
                have hc3_ : w'.cell? ⟨gb319, 3, none⟩ = some (.slice A0_3 l0_3.length c0_3) := (blk_cell BK319.out 3).trans rfl
                have hc4_ : w'.cell? ⟨gb319, 4, none⟩ = some (.slice A0_4 l0_4.length c0_4) := (blk_cell BK319.out 4).trans rfl
                have hc5_ : w'.cell? ⟨gb319, 5, none⟩ = some (.slice A0_5 l0_5.length c0_5) := (blk_cell BK319.out 5).trans rfl
                refine value_ (w1 := w') (v := .slice A0_5 l0_5.length c0_5) (by rfl) rfl ?_ ?_
                · go_simp
                  (try simp only [i64_w])
                  try rfl
                refine hK.out _ _ ⟨v322, v325, v328, v331, v334, v337, v340, v343, v346, v349, m22_, (by rw [ha.out]; exact putSel_upk 14 hb_ rfl rfl rfl), Q_BK319, Q_BK320, Q_HB, Q_HO323, Q_HO326, Q_HO329, Q_HO332, Q_HO335, Q_HO338, Q_HO341, Q_HO344, Q_HO347, fun h0_ => absurd ((hoff 21 (by kernel_rfl)).symm.trans h0_) (by decide), fun h0_ => absurd ((hoff 23 (by kernel_rfl)).symm.trans h0_) (by decide), fun h0_ => absurd ((hoff 22 (by kernel_rfl)).symm.trans h0_) (by decide), Q_D⟩
              refine steps_cons ?_ ?_
              · rintro b a w' ⟨v322, v325, v328, v331, v334, v337, v340, v343, v346, v349, m22_, ha, Q_BK319, Q_BK320, Q_HB, Q_HO323, Q_HO326, Q_HO329, Q_HO332, Q_HO335, Q_HO338, Q_HO341, Q_HO344, Q_HO347, Q_HO350, Q_BK320_e23, Q_X22_, Q_D⟩ hb_ hon hoff
                refine ⟨_, rfl, fun K hK => ?_⟩
                have e21 : a.tmps[21]? = some (v346) := by rw [ha]; exact putSel_on (e := (18, 21, v346)) 13 rfl rfl (hon 18 (by kernel_rfl)) rfl
                have e23 : a.tmps[23]? = some (.slice A0_5 l0_5.length c0_5) := by rw [ha]; exact putSel_on (e := (20, 23, .slice A0_5 l0_5.length c0_5)) 14 rfl rfl (hon 20 (by kernel_rfl)) rfl
                replace ha := Aside0.mk ha
                have BK319 := Aside0.mk Q_BK319
                have BK320 := Aside0.mk (Q_BK320 (hoff 23 (by kernel_rfl)))
                have HB := Aside0.mk Q_HB
                have HO326 := Aside0.mk (Q_HO326 (hon 5 (by kernel_rfl)))
                have HO332 := Aside0.mk (Q_HO332 (hon 9 (by kernel_rfl)))
                have HO338 := Aside0.mk (Q_HO338 (hon 13 (by kernel_rfl)))
                have HO344 := Aside0.mk (Q_HO344 (hon 17 (by kernel_rfl)))
                have HO347 := Aside0.mk (Q_HO347 (hon 18 (by kernel_rfl)) hb_)
                refine Kd.R_append_rows_step k53 (w0 := w) w.heap.size (by rfl) (.tmp 21) (.tmp 23) 24 53 (.agg #[(.int .u8 0), (.int .u16 0), (.int .u16 0)]) 6 rfl Try.underlying24 info53 rfl (by decide) (by omega) v346 y345 l0_5 _ _ _ (fun _ => True) (fun _ => False) (zEv e21) (zEv e23) ?aO ?aR (fun _ _ h => h) (fun _ h => h.elim) ?aF ?aB ?aS ?aL ?_
                (case aR => exact zC)
                (case aB => exact zB)
                (case aF => exact (fun _ _ => trivial))
                (case aO => exact (zR HO347))
                (case aS => exact (below_size zB))
                (case aL => have := LMc6.out; omega)
                intro v349 w25 ho hb hg hat
                rw [← Ny348.out] at ho
                have n0_ := Aside0.mk (blk_grown (g := gb319) (o := .cells #[.string a0_0, .slice A0_1 l0_1.length c0_1, .slice A0_2 l0_2.length c0_2, .slice A0_3 l0_3.length c0_3, .slice A0_4 l0_4.length c0_4, .slice A0_5 l0_5.length c0_5] 26 (0, 0)) zK hg (Kd.R_ne HO347.out BK319.out (by decide)))
                have n1_ := Aside0.mk (blk_grown (g := gb320) (o := .cells #[.string (⟨#[]⟩ : ByteArray), .slice none 0 0, .slice none 0 0, .slice none 0 0, .slice none 0 0, .slice none 0 0] 26 (0, 0)) zK hg (Kd.R_ne HO347.out BK320.out (by decide)))
                have n2_ := Aside0.mk (Kd.R_over' (zR HO326) (Kd.R_typed (zR HO347)) (by decide) hg)
                have n3_ := Aside0.mk (Kd.R_over' (zR HO332) (Kd.R_typed (zR HO347)) (by decide) hg)
                have n4_ := Aside0.mk (Kd.R_over' (zR HO338) (Kd.R_typed (zR HO347)) (by decide) hg)
                have n5_ := Aside0.mk (Kd.R_over' (zR HO344) (Kd.R_typed (zR HO347)) (by decide) hg)
                have n6_ := Aside0.mk (hb)
                have n7_ := Aside0.mk (ho)
                clear BK319
                clear BK320
                clear HO326
                clear HO332
                clear HO338
                clear HO344
                clear HB
                clear HO347
                have BK319 := n0_
                have BK320 := n1_
                have HO326 := n2_
                have HO332 := n3_
                have HO338 := n4_
                have HO344 := n5_
                have HB := n6_
                have HO350 := n7_
                clear n0_ n1_ n2_ n3_ n4_ n5_ n6_ n7_
                clear ho hb hg hat
                obtain ⟨Ao26, co26, eo26⟩ := Kd.R_slice HO350.out
                (first | subst eo26 | (injection eo26 with f1_ f2_ f3_; have f4_ := f1_.symm; have f5_ := f3_.symm; clear f1_ f2_ f3_; subst f4_; subst f5_))
                obtain ⟨Ao27, co27, eo27⟩ := Kd.R_slice HO344.out
                (first | subst eo27 | (injection eo27 with f1_ f2_ f3_; have f4_ := f1_.symm; have f5_ := f3_.symm; clear f1_ f2_ f3_; subst f4_; subst f5_))
                obtain ⟨Ao28, co28, eo28⟩ := Kd.R_slice HO338.out
                (first | subst eo28 | (injection eo28 with f1_ f2_ f3_; have f4_ := f1_.symm; have f5_ := f3_.symm; clear f1_ f2_ f3_; subst f4_; subst f5_))
                obtain ⟨Ao29, co29, eo29⟩ := Kd.R_slice HO332.out
                (first | subst eo29 | (injection eo29 with f1_ f2_ f3_; have f4_ := f1_.symm; have f5_ := f3_.symm; clear f1_ f2_ f3_; subst f4_; subst f5_))
                obtain ⟨Ao30, co30, eo30⟩ := Kd.R_slice HO326.out
                (first | subst eo30 | (injection eo30 with f1_ f2_ f3_; have f4_ := f1_.symm; have f5_ := f3_.symm; clear f1_ f2_ f3_; subst f4_; subst f5_))
                refine hK.out _ _ ⟨v322, .slice Ao30 y324.length co30, v328, .slice Ao29 y330.length co29, v334, .slice Ao28 y336.length co28, v340, .slice Ao27 y342.length co27, v346, .slice Ao26 y348.length co26, m22_, (by rw [ha.out]; exact putSel_upk 15 hb_ rfl rfl rfl), zK, fun _ => zK, zB, fun _ h1_ => absurd ((hon 5 (by kernel_rfl)).symm.trans h1_) (by decide), fun _ => (zR HO326), fun _ h1_ => absurd ((hon 9 (by kernel_rfl)).symm.trans h1_) (by decide), fun _ => (zR HO332), fun _ h1_ => absurd ((hon 13 (by kernel_rfl)).symm.trans h1_) (by decide), fun _ => (zR HO338), fun _ h1_ => absurd ((hon 17 (by kernel_rfl)).symm.trans h1_) (by decide), fun _ => (zR HO344), fun _ h1_ => absurd ((up_self b 21).symm.trans h1_) (by decide), fun _ => (zR HO350), fun h0_ => absurd ((hoff 23 (by kernel_rfl)).symm.trans h0_) (by decide), fun h0_ => absurd ((hoff 22 (by kernel_rfl)).symm.trans h0_) (by decide), Q_D⟩
              refine steps_cons ?_ ?_
              · rintro b a w' ⟨v322, v325, v328, v331, v334, v337, v340, v343, v346, v349, m22_, ha, Q_BK319, Q_BK320, Q_HB, Q_HO323, Q_HO326, Q_HO329, Q_HO332, Q_HO335, Q_HO338, Q_HO341, Q_HO344, Q_HO347, Q_HO350, Q_BK320_e23, Q_X22_, Q_D⟩ hb_ hon hoff
                refine ⟨_, rfl, fun K hK => ?_⟩
                have e4 : a.tmps[4]? = some (.string a0_0) := by rw [ha]; exact putSel_on (e := (1, 4, .string a0_0)) 0 rfl rfl (hon 1 (by kernel_rfl)) rfl
                have e8 : a.tmps[8]? = some (v325) := by rw [ha]; exact putSel_on (e := (5, 8, v325)) 3 rfl rfl (hon 5 (by kernel_rfl)) rfl
                have e12 : a.tmps[12]? = some (v331) := by rw [ha]; exact putSel_on (e := (9, 12, v331)) 6 rfl rfl (hon 9 (by kernel_rfl)) rfl
                have e16 : a.tmps[16]? = some (v337) := by rw [ha]; exact putSel_on (e := (13, 16, v337)) 9 rfl rfl (hon 13 (by kernel_rfl)) rfl
                have e20 : a.tmps[20]? = some (v343) := by rw [ha]; exact putSel_on (e := (17, 20, v343)) 12 rfl rfl (hon 17 (by kernel_rfl)) rfl
                have e24 : a.tmps[24]? = some (v349) := by rw [ha]; exact putSel_on (e := (21, 24, v349)) 15 rfl rfl (hon 21 (by kernel_rfl)) rfl
                replace ha := Aside0.mk ha
                have BK319 := Aside0.mk Q_BK319
                have BK320 := Aside0.mk (Q_BK320 (hoff 23 (by kernel_rfl)))
                have HB := Aside0.mk Q_HB
                have HO326 := Aside0.mk (Q_HO326 (hon 5 (by kernel_rfl)))
                have HO332 := Aside0.mk (Q_HO332 (hon 9 (by kernel_rfl)))
                have HO338 := Aside0.mk (Q_HO338 (hon 13 (by kernel_rfl)))
                have HO344 := Aside0.mk (Q_HO344 (hon 17 (by kernel_rfl)))
                have HO350 := Aside0.mk (Q_HO350 (hon 21 (by kernel_rfl)))
                obtain ⟨Ao22_0, co22_0, eo_⟩ := Kd.R_slice HO326.out
                subst eo_
                obtain ⟨Ao22_1, co22_1, eo_⟩ := Kd.R_slice HO332.out
                subst eo_
                obtain ⟨Ao22_2, co22_2, eo_⟩ := Kd.R_slice HO338.out
                subst eo_
                obtain ⟨Ao22_3, co22_3, eo_⟩ := Kd.R_slice HO344.out
                subst eo_
                obtain ⟨Ao22_4, co22_4, eo_⟩ := Kd.R_slice HO350.out
                subst eo_
                refine value_ (w1 := w') (v := .agg #[.string a0_0, .slice Ao22_0 y324.length co22_0, .slice Ao22_1 y330.length co22_1, .slice Ao22_2 y336.length co22_2, .slice Ao22_3 y342.length co22_3, .slice Ao22_4 y348.length co22_4]) (by rfl) rfl ?_ ?_
                · go_simp
                  (try simp only [i64_w])
                  try rfl
                refine hK.out _ _ ⟨v322, .slice Ao22_0 y324.length co22_0, v328, .slice Ao22_1 y330.length co22_1, v334, .slice Ao22_2 y336.length co22_2, v340, .slice Ao22_3 y342.length co22_3, v346, .slice Ao22_4 y348.length co22_4, (.agg #[.string a0_0, .slice Ao22_0 y324.length co22_0, .slice Ao22_1 y330.length co22_1, .slice Ao22_2 y336.length co22_2, .slice Ao22_3 y342.length co22_3, .slice Ao22_4 y348.length co22_4]), (by rw [ha.out]; exact putSel_upk 16 hb_ rfl rfl rfl), Q_BK319, Q_BK320, Q_HB, fun _ h1_ => absurd ((hon 5 (by kernel_rfl)).symm.trans h1_) (by decide), Q_HO326, fun _ h1_ => absurd ((hon 9 (by kernel_rfl)).symm.trans h1_) (by decide), Q_HO332, fun _ h1_ => absurd ((hon 13 (by kernel_rfl)).symm.trans h1_) (by decide), Q_HO338, fun _ h1_ => absurd ((hon 17 (by kernel_rfl)).symm.trans h1_) (by decide), Q_HO344, fun _ h1_ => absurd ((hon 21 (by kernel_rfl)).symm.trans h1_) (by decide), Q_HO350, fun h0_ => absurd ((hoff 23 (by kernel_rfl)).symm.trans h0_) (by decide), fun _ => rfl, Q_D⟩
              refine steps_cons ?_ ?_
              · rintro b a w' ⟨v322, v325, v328, v331, v334, v337, v340, v343, v346, v349, m22_, ha, Q_BK319, Q_BK320, Q_HB, Q_HO323, Q_HO326, Q_HO329, Q_HO332, Q_HO335, Q_HO338, Q_HO341, Q_HO344, Q_HO347, Q_HO350, Q_BK320_e23, Q_X22_, Q_D⟩ hb_ hon hoff
                refine ⟨_, rfl, fun K hK => ?_⟩
                have e2 : a.tmps[2]? = some (.pointer (some ⟨gb320, 0, none⟩)) := by rw [ha]; exact (putSel_off rfl).trans rfl
                have e25 : a.tmps[25]? = some (m22_) := by rw [ha]; exact putSel_on (e := (22, 25, m22_)) 16 rfl rfl (hon 22 (by kernel_rfl)) rfl
                rw [Q_X22_ (hon 22 (by kernel_rfl))] at e25
                replace ha := Aside0.mk ha
                have BK319 := Aside0.mk Q_BK319
                have BK320 := Aside0.mk (Q_BK320 hb_)
                have HB := Aside0.mk Q_HB
                have HO326 := Aside0.mk (Q_HO326 (hon 5 (by kernel_rfl)))
                have HO332 := Aside0.mk (Q_HO332 (hon 9 (by kernel_rfl)))
                have HO338 := Aside0.mk (Q_HO338 (hon 13 (by kernel_rfl)))
                have HO344 := Aside0.mk (Q_HO344 (hon 17 (by kernel_rfl)))
                have HO350 := Aside0.mk (Q_HO350 (hon 21 (by kernel_rfl)))
                obtain ⟨Ao31, co31, eo31⟩ := Kd.R_slice HO350.out
                (first | subst eo31 | (injection eo31 with f1_ f2_ f3_; have f4_ := f1_.symm; have f5_ := f3_.symm; clear f1_ f2_ f3_; subst f4_; subst f5_))
                obtain ⟨Ao32, co32, eo32⟩ := Kd.R_slice HO344.out
                (first | subst eo32 | (injection eo32 with f1_ f2_ f3_; have f4_ := f1_.symm; have f5_ := f3_.symm; clear f1_ f2_ f3_; subst f4_; subst f5_))
                obtain ⟨Ao33, co33, eo33⟩ := Kd.R_slice HO338.out
                (first | subst eo33 | (injection eo33 with f1_ f2_ f3_; have f4_ := f1_.symm; have f5_ := f3_.symm; clear f1_ f2_ f3_; subst f4_; subst f5_))
                obtain ⟨Ao34, co34, eo34⟩ := Kd.R_slice HO332.out
                (first | subst eo34 | (injection eo34 with f1_ f2_ f3_; have f4_ := f1_.symm; have f5_ := f3_.symm; clear f1_ f2_ f3_; subst f4_; subst f5_))
                obtain ⟨Ao35, co35, eo35⟩ := Kd.R_slice HO326.out
                (first | subst eo35 | (injection eo35 with f1_ f2_ f3_; have f4_ := f1_.symm; have f5_ := f3_.symm; clear f1_ f2_ f3_; subst f4_; subst f5_))
                have hs36 : w'.cell? ⟨gb320, 0, none⟩ = some (.string (⟨#[]⟩ : ByteArray)) := (blk_cell BK320.out 0).trans rfl
                have hfs36 := blk_frozen BK320.out 0
                have hns36_0 := NB319_320.out
                have hms36_0 := NB320_319.out
                have hs37 : w'.cell? ⟨gb320, 1, none⟩ = some (.slice none 0 0) := (blk_cell BK320.out 1).trans rfl
                have hfs37 := blk_frozen BK320.out 1
                have hs38 : w'.cell? ⟨gb320, 2, none⟩ = some (.slice none 0 0) := (blk_cell BK320.out 2).trans rfl
                have hfs38 := blk_frozen BK320.out 2
                have hs39 : w'.cell? ⟨gb320, 3, none⟩ = some (.slice none 0 0) := (blk_cell BK320.out 3).trans rfl
                have hfs39 := blk_frozen BK320.out 3
                have hs40 : w'.cell? ⟨gb320, 4, none⟩ = some (.slice none 0 0) := (blk_cell BK320.out 4).trans rfl
                have hfs40 := blk_frozen BK320.out 4
                have hs41 : w'.cell? ⟨gb320, 5, none⟩ = some (.slice none 0 0) := (blk_cell BK320.out 5).trans rfl
                have hfs41 := blk_frozen BK320.out 5
                refine skip_ (w1 := ?_) (by rfl) rfl ?_ ?_
                rotate_left
                · go_simp
                  rfl
                refine hK.out _ _ ⟨v322, .slice Ao35 y324.length co35, v328, .slice Ao34 y330.length co34, v334, .slice Ao33 y336.length co33, v340, .slice Ao32 y342.length co32, v346, .slice Ao31 y348.length co31, m22_, (by rw [ha.out]; exact putSel_none (v := undef) rfl), zV, fun h0_ => absurd ((up_self b 23).symm.trans h0_) (by decide), zB, fun _ h1_ => absurd ((hon 5 (by kernel_rfl)).symm.trans h1_) (by decide), fun _ => (by (with_reducible repeat (first | apply Kd.R_alloc | apply Kd.R_drewN | apply Kd.R_drew)); exact Kd.R_mono (Kd.R_far (p := ⟨gb320, 5, none⟩) (Kd.R_far (p := ⟨gb320, 4, none⟩) (Kd.R_far (p := ⟨gb320, 3, none⟩) (Kd.R_far (p := ⟨gb320, 2, none⟩) (Kd.R_far (p := ⟨gb320, 1, none⟩) (Kd.R_far (p := ⟨gb320, 0, none⟩) (Kd.R_types HO326.out BK320.out (by decide)) (fun _ hk => hk.2) (.string a0_0)) (fun _ hk => hk.2) (.slice Ao35 y324.length co35)) (fun _ hk => hk.2) (.slice Ao34 y330.length co34)) (fun _ hk => hk.2) (.slice Ao33 y336.length co33)) (fun _ hk => hk.2) (.slice Ao32 y342.length co32)) (fun _ hk => hk.2) (.slice Ao31 y348.length co31)) (fun _ hk => hk.1)), fun _ h1_ => absurd ((hon 9 (by kernel_rfl)).symm.trans h1_) (by decide), fun _ => (by (with_reducible repeat (first | apply Kd.R_alloc | apply Kd.R_drewN | apply Kd.R_drew)); exact Kd.R_mono (Kd.R_far (p := ⟨gb320, 5, none⟩) (Kd.R_far (p := ⟨gb320, 4, none⟩) (Kd.R_far (p := ⟨gb320, 3, none⟩) (Kd.R_far (p := ⟨gb320, 2, none⟩) (Kd.R_far (p := ⟨gb320, 1, none⟩) (Kd.R_far (p := ⟨gb320, 0, none⟩) (Kd.R_types HO332.out BK320.out (by decide)) (fun _ hk => hk.2) (.string a0_0)) (fun _ hk => hk.2) (.slice Ao35 y324.length co35)) (fun _ hk => hk.2) (.slice Ao34 y330.length co34)) (fun _ hk => hk.2) (.slice Ao33 y336.length co33)) (fun _ hk => hk.2) (.slice Ao32 y342.length co32)) (fun _ hk => hk.2) (.slice Ao31 y348.length co31)) (fun _ hk => hk.1)), fun _ h1_ => absurd ((hon 13 (by kernel_rfl)).symm.trans h1_) (by decide), fun _ => (by (with_reducible repeat (first | apply Kd.R_alloc | apply Kd.R_drewN | apply Kd.R_drew)); exact Kd.R_mono (Kd.R_far (p := ⟨gb320, 5, none⟩) (Kd.R_far (p := ⟨gb320, 4, none⟩) (Kd.R_far (p := ⟨gb320, 3, none⟩) (Kd.R_far (p := ⟨gb320, 2, none⟩) (Kd.R_far (p := ⟨gb320, 1, none⟩) (Kd.R_far (p := ⟨gb320, 0, none⟩) (Kd.R_types HO338.out BK320.out (by decide)) (fun _ hk => hk.2) (.string a0_0)) (fun _ hk => hk.2) (.slice Ao35 y324.length co35)) (fun _ hk => hk.2) (.slice Ao34 y330.length co34)) (fun _ hk => hk.2) (.slice Ao33 y336.length co33)) (fun _ hk => hk.2) (.slice Ao32 y342.length co32)) (fun _ hk => hk.2) (.slice Ao31 y348.length co31)) (fun _ hk => hk.1)), fun _ h1_ => absurd ((hon 17 (by kernel_rfl)).symm.trans h1_) (by decide), fun _ => (by (with_reducible repeat (first | apply Kd.R_alloc | apply Kd.R_drewN | apply Kd.R_drew)); exact Kd.R_mono (Kd.R_far (p := ⟨gb320, 5, none⟩) (Kd.R_far (p := ⟨gb320, 4, none⟩) (Kd.R_far (p := ⟨gb320, 3, none⟩) (Kd.R_far (p := ⟨gb320, 2, none⟩) (Kd.R_far (p := ⟨gb320, 1, none⟩) (Kd.R_far (p := ⟨gb320, 0, none⟩) (Kd.R_types HO344.out BK320.out (by decide)) (fun _ hk => hk.2) (.string a0_0)) (fun _ hk => hk.2) (.slice Ao35 y324.length co35)) (fun _ hk => hk.2) (.slice Ao34 y330.length co34)) (fun _ hk => hk.2) (.slice Ao33 y336.length co33)) (fun _ hk => hk.2) (.slice Ao32 y342.length co32)) (fun _ hk => hk.2) (.slice Ao31 y348.length co31)) (fun _ hk => hk.1)), fun _ h1_ => absurd ((hon 21 (by kernel_rfl)).symm.trans h1_) (by decide), fun _ => (by (with_reducible repeat (first | apply Kd.R_alloc | apply Kd.R_drewN | apply Kd.R_drew)); exact Kd.R_mono (Kd.R_far (p := ⟨gb320, 5, none⟩) (Kd.R_far (p := ⟨gb320, 4, none⟩) (Kd.R_far (p := ⟨gb320, 3, none⟩) (Kd.R_far (p := ⟨gb320, 2, none⟩) (Kd.R_far (p := ⟨gb320, 1, none⟩) (Kd.R_far (p := ⟨gb320, 0, none⟩) (Kd.R_types HO350.out BK320.out (by decide)) (fun _ hk => hk.2) (.string a0_0)) (fun _ hk => hk.2) (.slice Ao35 y324.length co35)) (fun _ hk => hk.2) (.slice Ao34 y330.length co34)) (fun _ hk => hk.2) (.slice Ao33 y336.length co33)) (fun _ hk => hk.2) (.slice Ao32 y342.length co32)) (fun _ hk => hk.2) (.slice Ao31 y348.length co31)) (fun _ hk => trivial)), fun _ => zV, Q_X22_, Q_D⟩
              exact steps_nil
            rintro b a w36 hall ⟨v322, v325, v328, v331, v334, v337, v340, v343, v346, v349, m22_, ha, Q_BK319, Q_BK320, Q_HB, Q_HO323, Q_HO326, Q_HO329, Q_HO332, Q_HO335, Q_HO338, Q_HO341, Q_HO344, Q_HO347, Q_HO350, Q_BK320_e23, Q_X22_, Q_D⟩
            clear BK319 BK320 HB
            have hb1_ := hall 1 (by kernel_rfl)
            have hb2_ := hall 2 (by kernel_rfl)
            have hb4_ := hall 4 (by kernel_rfl)
            have hb5_ := hall 5 (by kernel_rfl)
            have hb6_ := hall 6 (by kernel_rfl)
            have hb8_ := hall 8 (by kernel_rfl)
            have hb9_ := hall 9 (by kernel_rfl)
            have hb10_ := hall 10 (by kernel_rfl)
            have hb12_ := hall 12 (by kernel_rfl)
            have hb13_ := hall 13 (by kernel_rfl)
            have hb14_ := hall 14 (by kernel_rfl)
            have hb16_ := hall 16 (by kernel_rfl)
            have hb17_ := hall 17 (by kernel_rfl)
            have hb18_ := hall 18 (by kernel_rfl)
            have hb20_ := hall 20 (by kernel_rfl)
            have hb21_ := hall 21 (by kernel_rfl)
            have hb22_ := hall 22 (by kernel_rfl)
            have hb23_ := hall 23 (by kernel_rfl)
            subst ha
            obtain rfl := Q_X22_ hb22_
            simp only [putSel, hb1_, hb2_, hb4_, hb5_, hb6_, hb8_, hb9_, hb10_, hb12_, hb13_, hb14_, hb16_, hb17_, hb18_, hb20_, hb21_, hb22_, hb23_, if_true, Act.put, List.setIfInBounds_toArray, List.set_cons_zero, List.set_cons_succ]
            have BK319 := Aside0.mk Q_BK319
            clear Q_BK319
            clear Q_BK320
            have HB := Aside0.mk Q_HB
            clear Q_HB
            clear Q_HO323
            have HO326 := Aside0.mk (Q_HO326 hb5_)
            clear Q_HO326
            clear Q_HO329
            have HO332 := Aside0.mk (Q_HO332 hb9_)
            clear Q_HO332
            clear Q_HO335
            have HO338 := Aside0.mk (Q_HO338 hb13_)
            clear Q_HO338
            clear Q_HO341
            have HO344 := Aside0.mk (Q_HO344 hb17_)
            clear Q_HO344
            clear Q_HO347
            have HO350 := Aside0.mk (Q_HO350 hb21_)
            clear Q_HO350
            have BK320 := Aside0.mk (Q_BK320_e23 hb23_)
            clear Q_BK320_e23
            have QS := Q_D.1.2.2 hb5_ hb9_
            have QI := Q_D.2.2.2 hb13_ hb17_
            clear Q_D
            clear hall hb1_ hb2_ hb4_ hb5_ hb6_ hb8_ hb9_ hb10_ hb12_ hb13_ hb14_ hb16_ hb17_ hb18_ hb20_ hb21_ hb22_ hb23_
            obtain ⟨Ao37, co37, eo37⟩ := Kd.R_slice HO350.out
            (first | subst eo37 | (injection eo37 with f1_ f2_ f3_; have f4_ := f1_.symm; have f5_ := f3_.symm; clear f1_ f2_ f3_; subst f4_; subst f5_))
            obtain ⟨Ao38, co38, eo38⟩ := Kd.R_slice HO344.out
            (first | subst eo38 | (injection eo38 with f1_ f2_ f3_; have f4_ := f1_.symm; have f5_ := f3_.symm; clear f1_ f2_ f3_; subst f4_; subst f5_))
            obtain ⟨Ao39, co39, eo39⟩ := Kd.R_slice HO338.out
            (first | subst eo39 | (injection eo39 with f1_ f2_ f3_; have f4_ := f1_.symm; have f5_ := f3_.symm; clear f1_ f2_ f3_; subst f4_; subst f5_))
            obtain ⟨Ao40, co40, eo40⟩ := Kd.R_slice HO332.out
            (first | subst eo40 | (injection eo40 with f1_ f2_ f3_; have f4_ := f1_.symm; have f5_ := f3_.symm; clear f1_ f2_ f3_; subst f4_; subst f5_))
            obtain ⟨Ao41, co41, eo41⟩ := Kd.R_slice HO326.out
            (first | subst eo41 | (injection eo41 with f1_ f2_ f3_; have f4_ := f1_.symm; have f5_ := f3_.symm; clear f1_ f2_ f3_; subst f4_; subst f5_))
            try go_wp2
            refine bodyPost_ret (results_cell_row rfl _ _ gb320 26 #[.string a0_0, .slice Ao41 y324.length co41, .slice Ao40 y330.length co40, .slice Ao39 y336.length co39, .slice Ao38 y342.length co38, .slice Ao37 y348.length co37] (0, 0) _ rfl zK Try.underlying26 rfl (by kernel_rfl)) rfl ?_
            exact ⟨_, _, _, _, _, zF, by (with_reducible repeat (first | apply Kd.R_alloc | apply Kd.R_drewN | apply Kd.R_drew)); exact okS_ HO326.out (fun k hx e => QS k hx e.symm), by (with_reducible repeat (first | apply Kd.R_alloc | apply Kd.R_drewN | apply Kd.R_drew)); exact okS_ HO332.out (fun k hy e => QS k e.symm hy), by (with_reducible repeat (first | apply Kd.R_alloc | apply Kd.R_drewN | apply Kd.R_drew)); exact okS_ HO338.out (fun k hx e => QI k hx e.symm), by (with_reducible repeat (first | apply Kd.R_alloc | apply Kd.R_drewN | apply Kd.R_drew)); exact okS_ HO344.out (fun k hy e => QI k e.symm hy), by (with_reducible repeat (first | apply Kd.R_alloc | apply Kd.R_drewN | apply Kd.R_drew)); exact HO350.out, zB⟩
          · rw [if_neg c6] at H
            exact absurd H (by simp)
        · rw [if_neg c5] at H
          exact absurd H (by simp)
      · rw [if_neg c4] at H
        exact absurd H (by simp)
    · rw [if_neg c3] at H
      exact absurd H (by simp)
  · rw [if_neg c2] at H
    exact absurd H (by simp)

end Go.Proofs.Ytllkloneapjgjaa.P
