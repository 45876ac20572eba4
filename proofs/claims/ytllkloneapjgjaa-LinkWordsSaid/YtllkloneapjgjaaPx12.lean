-- WRITTEN BY bud.py (a program of this session's over the kit's print). Not trusted: Lean checks it.
import Derived.Test.YtllkloneapjgjaaPx0
import Derived.Test.YtllkloneapjgjaaPxf
import Derived.Test.YtllkloneapjgjaaPx11
namespace Go.Proofs.Ytllkloneapjgjaa.P
open Go.RowKit Go.Proofs.YtllkloneapjgjaaW.PrintWords Go.Proofs.YtllkloneapjgjaaW.PrintLast Go.Proofs.YtllkloneapjgjaaW.PrintMore
attribute [local go_sem] max2_int min2_int max_two min_two max_three min_three max_four min_four   -- for this text's walks alone
set_option linter.unusedVariables false
set_option linter.unusedSimpArgs false

/-! ### budwoodlaw16_awake: function 6 -/
set_option maxHeartbeats 8000000 in
set_option maxRecDepth 100000 in
theorem budwoodlaw16_awake.calls (k : Nat)  (r : Bool) (w : World) (h : budwoodlaw16_awake.f k  = some r) :
    Calls Try.prog 6 #[] w fun e w' => e = .returned (.bool r) ∧ Below w.heap.size w w' := by
  have hu53 := Try.underlying53
  have hu26 := Try.underlying26
  have hu29 := Try.underlying29
  have HB := Aside0.mk (Below.refl w.heap.size w)
  have H : ((some (([2281701376, 2415919104] : List Int) : List Int)).bind fun y207 => ((link_Image.f k (⟨#[]⟩ : ByteArray) ([] : List ByteArray) (([(⟨#[102]⟩ : ByteArray)] : List ByteArray)) y207 ([] : List Int) (([(⟨0, 0, 0⟩ : S53)] : List (S53))) 80 96 (([17] : List Int))).bind fun bt220 => (if bt220.2 = 0 then (if (bt220.1.length : Int) = 16 then (if 0 < (bt220.1.length : Int) then (if (rd bt220.1 0) = 2281701393 then (if 1 < (bt220.1.length : Int) then (if 1 < (y207.length : Int) then (if (rd bt220.1 1) = (rd y207 1) then (if 2 < (bt220.1.length : Int) then (if (rd bt220.1 2) = 0 then (budwoodlaw16_awake.j0 k true) else (budwoodlaw16_awake.j0 k false)) else (none)) else (budwoodlaw16_awake.j0 k false)) else (none)) else (none)) else (budwoodlaw16_awake.j0 k false)) else (none)) else (budwoodlaw16_awake.j0 k false)) else (budwoodlaw16_awake.j0 k false)))) = some r := h
  clear h
  obtain ⟨y207, hy207⟩ : ∃ y_ : List Int, y_ = (([2281701376, 2415919104] : List Int)) := ⟨_, rfl⟩
  replace H : ((link_Image.f k (⟨#[]⟩ : ByteArray) ([] : List ByteArray) (([(⟨#[102]⟩ : ByteArray)] : List ByteArray)) y207 ([] : List Int) (([(⟨0, 0, 0⟩ : S53)] : List (S53))) 80 96 (([17] : List Int))).bind fun bt220 => (if bt220.2 = 0 then (if (bt220.1.length : Int) = 16 then (if 0 < (bt220.1.length : Int) then (if (rd bt220.1 0) = 2281701393 then (if 1 < (bt220.1.length : Int) then (if 1 < (y207.length : Int) then (if (rd bt220.1 1) = (rd y207 1) then (if 2 < (bt220.1.length : Int) then (if (rd bt220.1 2) = 0 then (budwoodlaw16_awake.j0 k true) else (budwoodlaw16_awake.j0 k false)) else (none)) else (budwoodlaw16_awake.j0 k false)) else (none)) else (none)) else (budwoodlaw16_awake.j0 k false)) else (none)) else (budwoodlaw16_awake.j0 k false)) else (budwoodlaw16_awake.j0 k false))) = some r := by first | (rw [hy207]; with_reducible exact H) | (have H2_ := (Option.bind_some _ _).symm.trans H; rw [hy207]; with_reducible exact H2_) | (have H2_ := (Option.bind_some _ _).symm.trans H; with_reducible exact H2_) | with_reducible exact H | (rw [hy207]; exact H) | exact H
  have Ny207 := Aside0.mk hy207
  clear hy207
  obtain ⟨y210, hy210⟩ : ∃ y_ : List ByteArray, y_ = (([(⟨#[102]⟩ : ByteArray)] : List ByteArray)) := ⟨_, rfl⟩
  replace H : ((link_Image.f k (⟨#[]⟩ : ByteArray) ([] : List ByteArray) y210 y207 ([] : List Int) (([(⟨0, 0, 0⟩ : S53)] : List (S53))) 80 96 (([17] : List Int))).bind fun bt220 => (if bt220.2 = 0 then (if (bt220.1.length : Int) = 16 then (if 0 < (bt220.1.length : Int) then (if (rd bt220.1 0) = 2281701393 then (if 1 < (bt220.1.length : Int) then (if 1 < (y207.length : Int) then (if (rd bt220.1 1) = (rd y207 1) then (if 2 < (bt220.1.length : Int) then (if (rd bt220.1 2) = 0 then (budwoodlaw16_awake.j0 k true) else (budwoodlaw16_awake.j0 k false)) else (none)) else (budwoodlaw16_awake.j0 k false)) else (none)) else (none)) else (budwoodlaw16_awake.j0 k false)) else (none)) else (budwoodlaw16_awake.j0 k false)) else (budwoodlaw16_awake.j0 k false))) = some r := by first | (rw [hy210]; with_reducible exact H) | (have H2_ := (Option.bind_some _ _).symm.trans H; rw [hy210]; with_reducible exact H2_) | (have H2_ := (Option.bind_some _ _).symm.trans H; with_reducible exact H2_) | with_reducible exact H | (rw [hy210]; exact H) | exact H
  have Ny210 := Aside0.mk hy210
  clear hy210
  obtain ⟨y213, hy213⟩ : ∃ y_ : List (S53), y_ = (([(⟨0, 0, 0⟩ : S53)] : List (S53))) := ⟨_, rfl⟩
  replace H : ((link_Image.f k (⟨#[]⟩ : ByteArray) ([] : List ByteArray) y210 y207 ([] : List Int) y213 80 96 (([17] : List Int))).bind fun bt220 => (if bt220.2 = 0 then (if (bt220.1.length : Int) = 16 then (if 0 < (bt220.1.length : Int) then (if (rd bt220.1 0) = 2281701393 then (if 1 < (bt220.1.length : Int) then (if 1 < (y207.length : Int) then (if (rd bt220.1 1) = (rd y207 1) then (if 2 < (bt220.1.length : Int) then (if (rd bt220.1 2) = 0 then (budwoodlaw16_awake.j0 k true) else (budwoodlaw16_awake.j0 k false)) else (none)) else (budwoodlaw16_awake.j0 k false)) else (none)) else (none)) else (budwoodlaw16_awake.j0 k false)) else (none)) else (budwoodlaw16_awake.j0 k false)) else (budwoodlaw16_awake.j0 k false))) = some r := by first | (rw [hy213]; with_reducible exact H) | (have H2_ := (Option.bind_some _ _).symm.trans H; rw [hy213]; with_reducible exact H2_) | (have H2_ := (Option.bind_some _ _).symm.trans H; with_reducible exact H2_) | with_reducible exact H | (rw [hy213]; exact H) | exact H
  have Ny213 := Aside0.mk hy213
  clear hy213
  obtain ⟨y217, hy217⟩ : ∃ y_ : List Int, y_ = (([17] : List Int)) := ⟨_, rfl⟩
  replace H : ((link_Image.f k (⟨#[]⟩ : ByteArray) ([] : List ByteArray) y210 y207 ([] : List Int) y213 80 96 y217).bind fun bt220 => (if bt220.2 = 0 then (if (bt220.1.length : Int) = 16 then (if 0 < (bt220.1.length : Int) then (if (rd bt220.1 0) = 2281701393 then (if 1 < (bt220.1.length : Int) then (if 1 < (y207.length : Int) then (if (rd bt220.1 1) = (rd y207 1) then (if 2 < (bt220.1.length : Int) then (if (rd bt220.1 2) = 0 then (budwoodlaw16_awake.j0 k true) else (budwoodlaw16_awake.j0 k false)) else (none)) else (budwoodlaw16_awake.j0 k false)) else (none)) else (none)) else (budwoodlaw16_awake.j0 k false)) else (none)) else (budwoodlaw16_awake.j0 k false)) else (budwoodlaw16_awake.j0 k false))) = some r := by first | (rw [hy217]; with_reducible exact H) | (have H2_ := (Option.bind_some _ _).symm.trans H; rw [hy217]; with_reducible exact H2_) | (have H2_ := (Option.bind_some _ _).symm.trans H; with_reducible exact H2_) | with_reducible exact H | (rw [hy217]; exact H) | exact H
  have Ny217 := Aside0.mk hy217
  clear hy217
  replace H := Option.bind_eq_some_iff.mp H
  obtain ⟨⟨t220, t223⟩, A10, H⟩ := H
  replace H : (if t223 = 0 then (if (t220.length : Int) = 16 then (if 0 < (t220.length : Int) then (if (rd t220 0) = 2281701393 then (if 1 < (t220.length : Int) then (if 1 < (y207.length : Int) then (if (rd t220 1) = (rd y207 1) then (if 2 < (t220.length : Int) then (if (rd t220 2) = 0 then (budwoodlaw16_awake.j0 k true) else (budwoodlaw16_awake.j0 k false)) else (none)) else (budwoodlaw16_awake.j0 k false)) else (none)) else (none)) else (budwoodlaw16_awake.j0 k false)) else (none)) else (budwoodlaw16_awake.j0 k false)) else (budwoodlaw16_awake.j0 k false)) = some r := H
  have A1 := Aside0.mk A10
  clear A10
  have HC2 := Aside0.mk H
  clear H
  go_enter Try.func6, Try.ntmps6
  go_upto_region 3 with (first | ((with_reducible refine gate_dst (N := 4) rfl ?_); (try (refine gate_guard (by rfl) ?_; dsimp only)); refine Kd.R_lit (Kd.int .u32) _ 27 ?hg (N := 4) ?hd (xs := ([2281701376, 2415919104] : List Int)) (inner := [.int .u32 2281701376, .int .u32 2415919104]) (ok := fun _ => True) (okp := fun _ => True) ?hr ?hp (fun _ hk => hk) trivial (Below.refl _ _) (Nat.le_refl _) (by simp) ?_; (case hd => rfl); (case hg => rfl); (case hr => first | (go_simp; done) | (go_simp; rfl)); (case hp => exact (Reps.one (show Kd.M (Kd.int .u32) _ _ _ 2281701376 [.int .u32 2281701376] from rfl) (Reps.one (show Kd.M (Kd.int .u32) _ _ _ 2415919104 [.int .u32 2415919104] from rfl) (Reps.none _ _)))); intro v208 w3 ho4 hb hg_ hnew_; clear hg_ hnew_; (first | rw [← Ny207.out] at ho4 | (simp only [Int.reduceToNat] at ho4; rw [← Ny207.out] at ho4)); have HO209 := Aside0.mk (Kd.R_lower ho4 (below_size zB)); replace HB := Aside0.mk (below_step zB hb); clear hb ho4) | ((with_reducible refine gate_dst (N := 5) rfl ?_); (try (refine gate_guard (by rfl) ?_; dsimp only)); refine Kd.R_lit Kd.string _ 9 ?hg (N := 5) ?hd (xs := ([(⟨#[102]⟩ : ByteArray)] : List ByteArray)) (inner := [.string (⟨#[102]⟩ : ByteArray)]) (ok := fun _ => True) (okp := fun _ => True) ?hr ?hp (fun _ hk => hk) trivial (Below.refl _ _) (Nat.le_refl _) (by simp) ?_; (case hd => rfl); (case hg => rfl); (case hr => first | (go_simp; done) | (go_simp; rfl)); (case hp => exact (Reps.one (show Kd.M Kd.string _ _ _ (⟨#[102]⟩ : ByteArray) [.string (⟨#[102]⟩ : ByteArray)] from rfl) (Reps.none _ _))); intro v211 w5 ho6 hb hg_ hnew_; clear hg_ hnew_; (first | rw [← Ny210.out] at ho6 | (simp only [Int.reduceToNat] at ho6; rw [← Ny210.out] at ho6)); have HO212 := Aside0.mk (Kd.R_lower ho6 (below_size zB)); replace HO209 := Aside0.mk (Kd.R_below (zR HO209) hb); replace HB := Aside0.mk (below_step zB hb); clear hb ho6) | ((with_reducible refine gate_dst (N := 7) rfl ?_); (try (refine gate_guard (by rfl) ?_; dsimp only)); refine Kd.R_lit k53 _ 53 ?hg (N := 7) ?hd (xs := ([(⟨0, 0, 0⟩ : S53)] : List (S53))) (inner := [.int .u8 0, .int .u16 0, .int .u16 0]) (ok := fun _ => True) (okp := fun _ => True) ?hr ?hp (fun _ hk => hk) trivial (Below.refl _ _) (Nat.le_refl _) (by simp) ?_; (case hd => rfl); (case hg => rfl); (case hr => first | (go_simp; done) | (go_simp; rfl)); (case hp => exact (Reps.c3 (show Kd.M k53 _ _ _ (⟨0, 0, 0⟩ : S53) [.int .u8 0, .int .u16 0, .int .u16 0] from (k53_mkM _ _ _ (⟨0, 0, 0⟩ : S53) )) (Reps.none _ _))); intro v214 w7 ho8 hb hg_ hnew_; clear hg_ hnew_; (first | rw [← Ny213.out] at ho8 | (simp only [Int.reduceToNat] at ho8; rw [← Ny213.out] at ho8)); have HO215 := Aside0.mk (Kd.R_lower ho8 (below_size zB)); replace HO209 := Aside0.mk (Kd.R_below (zR HO209) hb); replace HO212 := Aside0.mk (Kd.R_below (zR HO212) hb); replace HB := Aside0.mk (below_step zB hb); clear hb ho8; obtain ⟨Ao9, co9, eo9⟩ := Kd.R_slice HO215.out; subst eo9; obtain ⟨Ao10, co10, eo10⟩ := Kd.R_slice HO209.out; subst eo10; obtain ⟨Ao11, co11, eo11⟩ := Kd.R_slice HO212.out; subst eo11) | ((with_reducible refine gate_dst (N := 1) rfl ?_); (try (refine gate_guard (by rfl) ?_; dsimp only)); refine zX (N := 1) (cs := #[.string (⟨#[]⟩ : ByteArray), .slice none 0 0, .slice none 0 0, .slice none 0 0, .slice none 0 0, .slice none 0 0]) (t := 26) ?_ ?_; (focus first | (go_simp; done) | (go_simp; rfl)); intro gb216 hg w12 hbox hb; have BK216 := Aside0.mk (hbox); have GW216 := Aside0.mk (zS hg : w.heap.size ≤ gb216); have GE216 := Aside0.mk (zS hg : w.heap.size ≤ gb216); replace HO209 := Aside0.mk (Kd.R_below (zR HO209) hb); replace HO212 := Aside0.mk (Kd.R_below (zR HO212) hb); replace HO215 := Aside0.mk (Kd.R_below (zR HO215) hb); replace HB := Aside0.mk (below_step zB hb); clear hb hbox hg; obtain ⟨hcz13_0, hcz13_1, hcz13_2, hcz13_3, hcz13_4, hcz13_5⟩ := zc6 BK216; obtain ⟨hfz13_0, hfz13_1, hfz13_2, hfz13_3, hfz13_4, hfz13_5⟩ := zf6 BK216) | ((with_reducible refine gate_dst (N := 12) rfl ?_); (try (refine gate_guard (by rfl) ?_; dsimp only)); refine Kd.R_lit (Kd.int .u32) _ 27 ?hg (N := 12) ?hd (xs := ([17] : List Int)) (inner := [.int .u32 17]) (ok := fun _ => True) (okp := fun _ => True) ?hr ?hp (fun _ hk => hk) trivial (Below.refl _ _) (Nat.le_refl _) (by simp) ?_; (case hd => rfl); (case hg => rfl); (case hr => first | (go_simp; done) | (go_simp; rfl)); (case hp => exact (Reps.one (show Kd.M (Kd.int .u32) _ _ _ 17 [.int .u32 17] from rfl) (Reps.none _ _))); intro v218 w14 ho15 hb hg_ hnew_; clear hg_ hnew_; (first | rw [← Ny217.out] at ho15 | (simp only [Int.reduceToNat] at ho15; rw [← Ny217.out] at ho15)); have HO219 := Aside0.mk (Kd.R_lower (Kd.R_new' ho15 (Kd.R_lt (by (with_reducible repeat (first | apply Kd.R_alloc | apply Kd.R_drewN | apply Kd.R_drew)); exact (Kd.R_mono (Kd.R_far (p := ⟨gb216, 5, none⟩) (Kd.R_far (p := ⟨gb216, 4, none⟩) (Kd.R_far (p := ⟨gb216, 3, none⟩) (Kd.R_far (p := ⟨gb216, 2, none⟩) (Kd.R_far (p := ⟨gb216, 1, none⟩) (Kd.R_far (p := ⟨gb216, 0, none⟩) (Kd.R_types HO209.out BK216.out (by decide)) (fun _ hk => hk.2) (.string (⟨#[]⟩ : ByteArray))) (fun _ hk => hk.2) (.slice none 0 0)) (fun _ hk => hk.2) (.slice Ao11 y210.length co11)) (fun _ hk => hk.2) (.slice Ao10 y207.length co10)) (fun _ hk => hk.2) (.slice none 0 0)) (fun _ hk => hk.2) (.slice Ao9 y213.length co9)) (fun _ h_ => h_.1))))) (below_size zB)); replace HO209 := Aside0.mk (Kd.R_elder' (by (with_reducible repeat (first | apply Kd.R_alloc | apply Kd.R_drewN | apply Kd.R_drew)); exact (Kd.R_mono (Kd.R_far (p := ⟨gb216, 5, none⟩) (Kd.R_far (p := ⟨gb216, 4, none⟩) (Kd.R_far (p := ⟨gb216, 3, none⟩) (Kd.R_far (p := ⟨gb216, 2, none⟩) (Kd.R_far (p := ⟨gb216, 1, none⟩) (Kd.R_far (p := ⟨gb216, 0, none⟩) (Kd.R_types HO209.out BK216.out (by decide)) (fun _ hk => hk.2) (.string (⟨#[]⟩ : ByteArray))) (fun _ hk => hk.2) (.slice none 0 0)) (fun _ hk => hk.2) (.slice Ao11 y210.length co11)) (fun _ hk => hk.2) (.slice Ao10 y207.length co10)) (fun _ hk => hk.2) (.slice none 0 0)) (fun _ hk => hk.2) (.slice Ao9 y213.length co9)) (fun _ h_ => h_.1))) (Kd.R_base ho15) hb); replace HO212 := Aside0.mk (Kd.R_below (by (with_reducible repeat (first | apply Kd.R_alloc | apply Kd.R_drewN | apply Kd.R_drew)); exact (Kd.R_mono (Kd.R_far (p := ⟨gb216, 5, none⟩) (Kd.R_far (p := ⟨gb216, 4, none⟩) (Kd.R_far (p := ⟨gb216, 3, none⟩) (Kd.R_far (p := ⟨gb216, 2, none⟩) (Kd.R_far (p := ⟨gb216, 1, none⟩) (Kd.R_far (p := ⟨gb216, 0, none⟩) (Kd.R_types HO212.out BK216.out (by decide)) (fun _ hk => hk.2) (.string (⟨#[]⟩ : ByteArray))) (fun _ hk => hk.2) (.slice none 0 0)) (fun _ hk => hk.2) (.slice Ao11 y210.length co11)) (fun _ hk => hk.2) (.slice Ao10 y207.length co10)) (fun _ hk => hk.2) (.slice none 0 0)) (fun _ hk => hk.2) (.slice Ao9 y213.length co9)) (fun _ h_ => h_.1))) hb); replace HO215 := Aside0.mk (Kd.R_below (by (with_reducible repeat (first | apply Kd.R_alloc | apply Kd.R_drewN | apply Kd.R_drew)); exact (Kd.R_mono (Kd.R_far (p := ⟨gb216, 5, none⟩) (Kd.R_far (p := ⟨gb216, 4, none⟩) (Kd.R_far (p := ⟨gb216, 3, none⟩) (Kd.R_far (p := ⟨gb216, 2, none⟩) (Kd.R_far (p := ⟨gb216, 1, none⟩) (Kd.R_far (p := ⟨gb216, 0, none⟩) (Kd.R_types HO215.out BK216.out (by decide)) (fun _ hk => hk.2) (.string (⟨#[]⟩ : ByteArray))) (fun _ hk => hk.2) (.slice none 0 0)) (fun _ hk => hk.2) (.slice Ao11 y210.length co11)) (fun _ hk => hk.2) (.slice Ao10 y207.length co10)) (fun _ hk => hk.2) (.slice none 0 0)) (fun _ hk => hk.2) (.slice Ao9 y213.length co9)) (fun _ h_ => h_.1))) hb); replace BK216 := Aside0.mk (blk_below (g := gb216) (o := .cells #[.string (⟨#[]⟩ : ByteArray), .slice none 0 0, .slice Ao11 y210.length co11, .slice Ao10 y207.length co10, .slice none 0 0, .slice Ao9 y213.length co9] 26 (0, 0)) zV hb); replace HB := Aside0.mk (below_step zB hb); clear hb ho15; obtain ⟨Ao16, co16, eo16⟩ := Kd.R_slice HO219.out; subst eo16) | (go_at_call 10; (refine (link_Image.calls k (⟨#[]⟩ : ByteArray) _ _ ([] : List ByteArray) _ _ y210 _ _ y207 _ _ ([] : List Int) _ _ y213 80 96 _ _ y217 t220 t223 _ ?side1 ?side2 ?side3 ?side4 ?side5 ?side6 ?side7 ?side8 ?side9 ?side10 ?side11 ?side12 A1.out).mono ?_); (case side1 => exact Kd.C_nil _ _); (case side2 => exact Nat.le_refl _); (case side3 => repeat (first | exact (Kd.R_reads' HO212.out).2.2 | (with_reducible refine Kd.C_alloc ?_ _) | (with_reducible refine Kd.C_drewN ?_ _) | (with_reducible refine Kd.C_drew ?_))); (case side4 => exact (Kd.R_reads' HO212.out).2.1); (case side5 => repeat (first | exact (Kd.R_reads' HO209.out).2.2 | (with_reducible refine Kd.C_alloc ?_ _) | (with_reducible refine Kd.C_drewN ?_ _) | (with_reducible refine Kd.C_drew ?_))); (case side6 => exact (Kd.R_reads' HO209.out).2.1); (case side7 => exact Kd.C_nil _ _); (case side8 => exact Nat.le_refl _); (case side9 => repeat (first | exact (Kd.R_reads' HO215.out).2.2 | (with_reducible refine Kd.C_alloc ?_ _) | (with_reducible refine Kd.C_drewN ?_ _) | (with_reducible refine Kd.C_drew ?_))); (case side10 => exact (Kd.R_reads' HO215.out).2.1); (case side11 => repeat (first | exact (Kd.R_reads' HO219.out).2.2 | (with_reducible refine Kd.C_alloc ?_ _) | (with_reducible refine Kd.C_drewN ?_ _) | (with_reducible refine Kd.C_drew ?_))); (case side12 => exact (Kd.R_reads' HO219.out).2.1); rintro e w17 ⟨v221, rfl, ho0, hb⟩; have HO222 := Aside0.mk (Kd.R_lower (Kd.R_new' (Kd.R_new' ho0 (Kd.R_lt (zR HO209))) (Kd.R_lt (zR HO219))) (below_size zB)); replace HO209 := Aside0.mk (Kd.R_elder' (zR HO209) (Kd.R_base ho0) hb); replace HO212 := Aside0.mk (Kd.R_below (zR HO212) hb); replace HO215 := Aside0.mk (Kd.R_below (zR HO215) hb); replace HO219 := Aside0.mk (Kd.R_elder' (zR HO219) (Kd.R_base ho0) hb); replace BK216 := Aside0.mk (zL BK216 hb); replace HB := Aside0.mk (below_step zB hb); (try clear hb); (try clear hb2); (try clear hk); (try clear hi); (try clear ho0)))
  repeat (go_quiet (first | ((with_reducible refine gate_dst (N := 4) rfl ?_); (try (refine gate_guard (by rfl) ?_; dsimp only)); refine Kd.R_lit (Kd.int .u32) _ 27 ?hg (N := 4) ?hd (xs := ([2281701376, 2415919104] : List Int)) (inner := [.int .u32 2281701376, .int .u32 2415919104]) (ok := fun _ => True) (okp := fun _ => True) ?hr ?hp (fun _ hk => hk) trivial (Below.refl _ _) (Nat.le_refl _) (by simp) ?_; (case hd => rfl); (case hg => rfl); (case hr => first | (go_simp; done) | (go_simp; rfl)); (case hp => exact (Reps.one (show Kd.M (Kd.int .u32) _ _ _ 2281701376 [.int .u32 2281701376] from rfl) (Reps.one (show Kd.M (Kd.int .u32) _ _ _ 2415919104 [.int .u32 2415919104] from rfl) (Reps.none _ _)))); intro v208 w3 ho4 hb hg_ hnew_; clear hg_ hnew_; (first | rw [← Ny207.out] at ho4 | (simp only [Int.reduceToNat] at ho4; rw [← Ny207.out] at ho4)); have HO209 := Aside0.mk (Kd.R_lower ho4 (below_size zB)); replace HB := Aside0.mk (below_step zB hb); clear hb ho4) | ((with_reducible refine gate_dst (N := 5) rfl ?_); (try (refine gate_guard (by rfl) ?_; dsimp only)); refine Kd.R_lit Kd.string _ 9 ?hg (N := 5) ?hd (xs := ([(⟨#[102]⟩ : ByteArray)] : List ByteArray)) (inner := [.string (⟨#[102]⟩ : ByteArray)]) (ok := fun _ => True) (okp := fun _ => True) ?hr ?hp (fun _ hk => hk) trivial (Below.refl _ _) (Nat.le_refl _) (by simp) ?_; (case hd => rfl); (case hg => rfl); (case hr => first | (go_simp; done) | (go_simp; rfl)); (case hp => exact (Reps.one (show Kd.M Kd.string _ _ _ (⟨#[102]⟩ : ByteArray) [.string (⟨#[102]⟩ : ByteArray)] from rfl) (Reps.none _ _))); intro v211 w5 ho6 hb hg_ hnew_; clear hg_ hnew_; (first | rw [← Ny210.out] at ho6 | (simp only [Int.reduceToNat] at ho6; rw [← Ny210.out] at ho6)); have HO212 := Aside0.mk (Kd.R_lower ho6 (below_size zB)); replace HO209 := Aside0.mk (Kd.R_below (zR HO209) hb); replace HB := Aside0.mk (below_step zB hb); clear hb ho6) | ((with_reducible refine gate_dst (N := 7) rfl ?_); (try (refine gate_guard (by rfl) ?_; dsimp only)); refine Kd.R_lit k53 _ 53 ?hg (N := 7) ?hd (xs := ([(⟨0, 0, 0⟩ : S53)] : List (S53))) (inner := [.int .u8 0, .int .u16 0, .int .u16 0]) (ok := fun _ => True) (okp := fun _ => True) ?hr ?hp (fun _ hk => hk) trivial (Below.refl _ _) (Nat.le_refl _) (by simp) ?_; (case hd => rfl); (case hg => rfl); (case hr => first | (go_simp; done) | (go_simp; rfl)); (case hp => exact (Reps.c3 (show Kd.M k53 _ _ _ (⟨0, 0, 0⟩ : S53) [.int .u8 0, .int .u16 0, .int .u16 0] from (k53_mkM _ _ _ (⟨0, 0, 0⟩ : S53) )) (Reps.none _ _))); intro v214 w7 ho8 hb hg_ hnew_; clear hg_ hnew_; (first | rw [← Ny213.out] at ho8 | (simp only [Int.reduceToNat] at ho8; rw [← Ny213.out] at ho8)); have HO215 := Aside0.mk (Kd.R_lower ho8 (below_size zB)); replace HO209 := Aside0.mk (Kd.R_below (zR HO209) hb); replace HO212 := Aside0.mk (Kd.R_below (zR HO212) hb); replace HB := Aside0.mk (below_step zB hb); clear hb ho8; obtain ⟨Ao9, co9, eo9⟩ := Kd.R_slice HO215.out; subst eo9; obtain ⟨Ao10, co10, eo10⟩ := Kd.R_slice HO209.out; subst eo10; obtain ⟨Ao11, co11, eo11⟩ := Kd.R_slice HO212.out; subst eo11) | ((with_reducible refine gate_dst (N := 1) rfl ?_); (try (refine gate_guard (by rfl) ?_; dsimp only)); refine zX (N := 1) (cs := #[.string (⟨#[]⟩ : ByteArray), .slice none 0 0, .slice none 0 0, .slice none 0 0, .slice none 0 0, .slice none 0 0]) (t := 26) ?_ ?_; (focus first | (go_simp; done) | (go_simp; rfl)); intro gb216 hg w12 hbox hb; have BK216 := Aside0.mk (hbox); have GW216 := Aside0.mk (zS hg : w.heap.size ≤ gb216); have GE216 := Aside0.mk (zS hg : w.heap.size ≤ gb216); replace HO209 := Aside0.mk (Kd.R_below (zR HO209) hb); replace HO212 := Aside0.mk (Kd.R_below (zR HO212) hb); replace HO215 := Aside0.mk (Kd.R_below (zR HO215) hb); replace HB := Aside0.mk (below_step zB hb); clear hb hbox hg; obtain ⟨hcz13_0, hcz13_1, hcz13_2, hcz13_3, hcz13_4, hcz13_5⟩ := zc6 BK216; obtain ⟨hfz13_0, hfz13_1, hfz13_2, hfz13_3, hfz13_4, hfz13_5⟩ := zf6 BK216) | ((with_reducible refine gate_dst (N := 12) rfl ?_); (try (refine gate_guard (by rfl) ?_; dsimp only)); refine Kd.R_lit (Kd.int .u32) _ 27 ?hg (N := 12) ?hd (xs := ([17] : List Int)) (inner := [.int .u32 17]) (ok := fun _ => True) (okp := fun _ => True) ?hr ?hp (fun _ hk => hk) trivial (Below.refl _ _) (Nat.le_refl _) (by simp) ?_; (case hd => rfl); (case hg => rfl); (case hr => first | (go_simp; done) | (go_simp; rfl)); (case hp => exact (Reps.one (show Kd.M (Kd.int .u32) _ _ _ 17 [.int .u32 17] from rfl) (Reps.none _ _))); intro v218 w14 ho15 hb hg_ hnew_; clear hg_ hnew_; (first | rw [← Ny217.out] at ho15 | (simp only [Int.reduceToNat] at ho15; rw [← Ny217.out] at ho15)); have HO219 := Aside0.mk (Kd.R_lower (Kd.R_new' ho15 (Kd.R_lt (by (with_reducible repeat (first | apply Kd.R_alloc | apply Kd.R_drewN | apply Kd.R_drew)); exact (Kd.R_mono (Kd.R_far (p := ⟨gb216, 5, none⟩) (Kd.R_far (p := ⟨gb216, 4, none⟩) (Kd.R_far (p := ⟨gb216, 3, none⟩) (Kd.R_far (p := ⟨gb216, 2, none⟩) (Kd.R_far (p := ⟨gb216, 1, none⟩) (Kd.R_far (p := ⟨gb216, 0, none⟩) (Kd.R_types HO209.out BK216.out (by decide)) (fun _ hk => hk.2) (.string (⟨#[]⟩ : ByteArray))) (fun _ hk => hk.2) (.slice none 0 0)) (fun _ hk => hk.2) (.slice Ao11 y210.length co11)) (fun _ hk => hk.2) (.slice Ao10 y207.length co10)) (fun _ hk => hk.2) (.slice none 0 0)) (fun _ hk => hk.2) (.slice Ao9 y213.length co9)) (fun _ h_ => h_.1))))) (below_size zB)); replace HO209 := Aside0.mk (Kd.R_elder' (by (with_reducible repeat (first | apply Kd.R_alloc | apply Kd.R_drewN | apply Kd.R_drew)); exact (Kd.R_mono (Kd.R_far (p := ⟨gb216, 5, none⟩) (Kd.R_far (p := ⟨gb216, 4, none⟩) (Kd.R_far (p := ⟨gb216, 3, none⟩) (Kd.R_far (p := ⟨gb216, 2, none⟩) (Kd.R_far (p := ⟨gb216, 1, none⟩) (Kd.R_far (p := ⟨gb216, 0, none⟩) (Kd.R_types HO209.out BK216.out (by decide)) (fun _ hk => hk.2) (.string (⟨#[]⟩ : ByteArray))) (fun _ hk => hk.2) (.slice none 0 0)) (fun _ hk => hk.2) (.slice Ao11 y210.length co11)) (fun _ hk => hk.2) (.slice Ao10 y207.length co10)) (fun _ hk => hk.2) (.slice none 0 0)) (fun _ hk => hk.2) (.slice Ao9 y213.length co9)) (fun _ h_ => h_.1))) (Kd.R_base ho15) hb); replace HO212 := Aside0.mk (Kd.R_below (by (with_reducible repeat (first | apply Kd.R_alloc | apply Kd.R_drewN | apply Kd.R_drew)); exact (Kd.R_mono (Kd.R_far (p := ⟨gb216, 5, none⟩) (Kd.R_far (p := ⟨gb216, 4, none⟩) (Kd.R_far (p := ⟨gb216, 3, none⟩) (Kd.R_far (p := ⟨gb216, 2, none⟩) (Kd.R_far (p := ⟨gb216, 1, none⟩) (Kd.R_far (p := ⟨gb216, 0, none⟩) (Kd.R_types HO212.out BK216.out (by decide)) (fun _ hk => hk.2) (.string (⟨#[]⟩ : ByteArray))) (fun _ hk => hk.2) (.slice none 0 0)) (fun _ hk => hk.2) (.slice Ao11 y210.length co11)) (fun _ hk => hk.2) (.slice Ao10 y207.length co10)) (fun _ hk => hk.2) (.slice none 0 0)) (fun _ hk => hk.2) (.slice Ao9 y213.length co9)) (fun _ h_ => h_.1))) hb); replace HO215 := Aside0.mk (Kd.R_below (by (with_reducible repeat (first | apply Kd.R_alloc | apply Kd.R_drewN | apply Kd.R_drew)); exact (Kd.R_mono (Kd.R_far (p := ⟨gb216, 5, none⟩) (Kd.R_far (p := ⟨gb216, 4, none⟩) (Kd.R_far (p := ⟨gb216, 3, none⟩) (Kd.R_far (p := ⟨gb216, 2, none⟩) (Kd.R_far (p := ⟨gb216, 1, none⟩) (Kd.R_far (p := ⟨gb216, 0, none⟩) (Kd.R_types HO215.out BK216.out (by decide)) (fun _ hk => hk.2) (.string (⟨#[]⟩ : ByteArray))) (fun _ hk => hk.2) (.slice none 0 0)) (fun _ hk => hk.2) (.slice Ao11 y210.length co11)) (fun _ hk => hk.2) (.slice Ao10 y207.length co10)) (fun _ hk => hk.2) (.slice none 0 0)) (fun _ hk => hk.2) (.slice Ao9 y213.length co9)) (fun _ h_ => h_.1))) hb); replace BK216 := Aside0.mk (blk_below (g := gb216) (o := .cells #[.string (⟨#[]⟩ : ByteArray), .slice none 0 0, .slice Ao11 y210.length co11, .slice Ao10 y207.length co10, .slice none 0 0, .slice Ao9 y213.length co9] 26 (0, 0)) zV hb); replace HB := Aside0.mk (below_step zB hb); clear hb ho15; obtain ⟨Ao16, co16, eo16⟩ := Kd.R_slice HO219.out; subst eo16) | (go_at_call 10; (refine (link_Image.calls k (⟨#[]⟩ : ByteArray) _ _ ([] : List ByteArray) _ _ y210 _ _ y207 _ _ ([] : List Int) _ _ y213 80 96 _ _ y217 t220 t223 _ ?side1 ?side2 ?side3 ?side4 ?side5 ?side6 ?side7 ?side8 ?side9 ?side10 ?side11 ?side12 A1.out).mono ?_); (case side1 => exact Kd.C_nil _ _); (case side2 => exact Nat.le_refl _); (case side3 => repeat (first | exact (Kd.R_reads' HO212.out).2.2 | (with_reducible refine Kd.C_alloc ?_ _) | (with_reducible refine Kd.C_drewN ?_ _) | (with_reducible refine Kd.C_drew ?_))); (case side4 => exact (Kd.R_reads' HO212.out).2.1); (case side5 => repeat (first | exact (Kd.R_reads' HO209.out).2.2 | (with_reducible refine Kd.C_alloc ?_ _) | (with_reducible refine Kd.C_drewN ?_ _) | (with_reducible refine Kd.C_drew ?_))); (case side6 => exact (Kd.R_reads' HO209.out).2.1); (case side7 => exact Kd.C_nil _ _); (case side8 => exact Nat.le_refl _); (case side9 => repeat (first | exact (Kd.R_reads' HO215.out).2.2 | (with_reducible refine Kd.C_alloc ?_ _) | (with_reducible refine Kd.C_drewN ?_ _) | (with_reducible refine Kd.C_drew ?_))); (case side10 => exact (Kd.R_reads' HO215.out).2.1); (case side11 => repeat (first | exact (Kd.R_reads' HO219.out).2.2 | (with_reducible refine Kd.C_alloc ?_ _) | (with_reducible refine Kd.C_drewN ?_ _) | (with_reducible refine Kd.C_drew ?_))); (case side12 => exact (Kd.R_reads' HO219.out).2.1); rintro e w17 ⟨v221, rfl, ho0, hb⟩; have HO222 := Aside0.mk (Kd.R_lower (Kd.R_new' (Kd.R_new' ho0 (Kd.R_lt (zR HO209))) (Kd.R_lt (zR HO219))) (below_size zB)); replace HO209 := Aside0.mk (Kd.R_elder' (zR HO209) (Kd.R_base ho0) hb); replace HO212 := Aside0.mk (Kd.R_below (zR HO212) hb); replace HO215 := Aside0.mk (Kd.R_below (zR HO215) hb); replace HO219 := Aside0.mk (Kd.R_elder' (zR HO219) (Kd.R_base ho0) hb); replace BK216 := Aside0.mk (zL BK216 hb); replace HB := Aside0.mk (below_step zB hb); (try clear hb); (try clear hb2); (try clear hk); (try clear hi); (try clear ho0))); go_upto_region 3 with (first | ((with_reducible refine gate_dst (N := 4) rfl ?_); (try (refine gate_guard (by rfl) ?_; dsimp only)); refine Kd.R_lit (Kd.int .u32) _ 27 ?hg (N := 4) ?hd (xs := ([2281701376, 2415919104] : List Int)) (inner := [.int .u32 2281701376, .int .u32 2415919104]) (ok := fun _ => True) (okp := fun _ => True) ?hr ?hp (fun _ hk => hk) trivial (Below.refl _ _) (Nat.le_refl _) (by simp) ?_; (case hd => rfl); (case hg => rfl); (case hr => first | (go_simp; done) | (go_simp; rfl)); (case hp => exact (Reps.one (show Kd.M (Kd.int .u32) _ _ _ 2281701376 [.int .u32 2281701376] from rfl) (Reps.one (show Kd.M (Kd.int .u32) _ _ _ 2415919104 [.int .u32 2415919104] from rfl) (Reps.none _ _)))); intro v208 w3 ho4 hb hg_ hnew_; clear hg_ hnew_; (first | rw [← Ny207.out] at ho4 | (simp only [Int.reduceToNat] at ho4; rw [← Ny207.out] at ho4)); have HO209 := Aside0.mk (Kd.R_lower ho4 (below_size zB)); replace HB := Aside0.mk (below_step zB hb); clear hb ho4) | ((with_reducible refine gate_dst (N := 5) rfl ?_); (try (refine gate_guard (by rfl) ?_; dsimp only)); refine Kd.R_lit Kd.string _ 9 ?hg (N := 5) ?hd (xs := ([(⟨#[102]⟩ : ByteArray)] : List ByteArray)) (inner := [.string (⟨#[102]⟩ : ByteArray)]) (ok := fun _ => True) (okp := fun _ => True) ?hr ?hp (fun _ hk => hk) trivial (Below.refl _ _) (Nat.le_refl _) (by simp) ?_; (case hd => rfl); (case hg => rfl); (case hr => first | (go_simp; done) | (go_simp; rfl)); (case hp => exact (Reps.one (show Kd.M Kd.string _ _ _ (⟨#[102]⟩ : ByteArray) [.string (⟨#[102]⟩ : ByteArray)] from rfl) (Reps.none _ _))); intro v211 w5 ho6 hb hg_ hnew_; clear hg_ hnew_; (first | rw [← Ny210.out] at ho6 | (simp only [Int.reduceToNat] at ho6; rw [← Ny210.out] at ho6)); have HO212 := Aside0.mk (Kd.R_lower ho6 (below_size zB)); replace HO209 := Aside0.mk (Kd.R_below (zR HO209) hb); replace HB := Aside0.mk (below_step zB hb); clear hb ho6) | ((with_reducible refine gate_dst (N := 7) rfl ?_); (try (refine gate_guard (by rfl) ?_; dsimp only)); refine Kd.R_lit k53 _ 53 ?hg (N := 7) ?hd (xs := ([(⟨0, 0, 0⟩ : S53)] : List (S53))) (inner := [.int .u8 0, .int .u16 0, .int .u16 0]) (ok := fun _ => True) (okp := fun _ => True) ?hr ?hp (fun _ hk => hk) trivial (Below.refl _ _) (Nat.le_refl _) (by simp) ?_; (case hd => rfl); (case hg => rfl); (case hr => first | (go_simp; done) | (go_simp; rfl)); (case hp => exact (Reps.c3 (show Kd.M k53 _ _ _ (⟨0, 0, 0⟩ : S53) [.int .u8 0, .int .u16 0, .int .u16 0] from (k53_mkM _ _ _ (⟨0, 0, 0⟩ : S53) )) (Reps.none _ _))); intro v214 w7 ho8 hb hg_ hnew_; clear hg_ hnew_; (first | rw [← Ny213.out] at ho8 | (simp only [Int.reduceToNat] at ho8; rw [← Ny213.out] at ho8)); have HO215 := Aside0.mk (Kd.R_lower ho8 (below_size zB)); replace HO209 := Aside0.mk (Kd.R_below (zR HO209) hb); replace HO212 := Aside0.mk (Kd.R_below (zR HO212) hb); replace HB := Aside0.mk (below_step zB hb); clear hb ho8; obtain ⟨Ao9, co9, eo9⟩ := Kd.R_slice HO215.out; subst eo9; obtain ⟨Ao10, co10, eo10⟩ := Kd.R_slice HO209.out; subst eo10; obtain ⟨Ao11, co11, eo11⟩ := Kd.R_slice HO212.out; subst eo11) | ((with_reducible refine gate_dst (N := 1) rfl ?_); (try (refine gate_guard (by rfl) ?_; dsimp only)); refine zX (N := 1) (cs := #[.string (⟨#[]⟩ : ByteArray), .slice none 0 0, .slice none 0 0, .slice none 0 0, .slice none 0 0, .slice none 0 0]) (t := 26) ?_ ?_; (focus first | (go_simp; done) | (go_simp; rfl)); intro gb216 hg w12 hbox hb; have BK216 := Aside0.mk (hbox); have GW216 := Aside0.mk (zS hg : w.heap.size ≤ gb216); have GE216 := Aside0.mk (zS hg : w.heap.size ≤ gb216); replace HO209 := Aside0.mk (Kd.R_below (zR HO209) hb); replace HO212 := Aside0.mk (Kd.R_below (zR HO212) hb); replace HO215 := Aside0.mk (Kd.R_below (zR HO215) hb); replace HB := Aside0.mk (below_step zB hb); clear hb hbox hg; obtain ⟨hcz13_0, hcz13_1, hcz13_2, hcz13_3, hcz13_4, hcz13_5⟩ := zc6 BK216; obtain ⟨hfz13_0, hfz13_1, hfz13_2, hfz13_3, hfz13_4, hfz13_5⟩ := zf6 BK216) | ((with_reducible refine gate_dst (N := 12) rfl ?_); (try (refine gate_guard (by rfl) ?_; dsimp only)); refine Kd.R_lit (Kd.int .u32) _ 27 ?hg (N := 12) ?hd (xs := ([17] : List Int)) (inner := [.int .u32 17]) (ok := fun _ => True) (okp := fun _ => True) ?hr ?hp (fun _ hk => hk) trivial (Below.refl _ _) (Nat.le_refl _) (by simp) ?_; (case hd => rfl); (case hg => rfl); (case hr => first | (go_simp; done) | (go_simp; rfl)); (case hp => exact (Reps.one (show Kd.M (Kd.int .u32) _ _ _ 17 [.int .u32 17] from rfl) (Reps.none _ _))); intro v218 w14 ho15 hb hg_ hnew_; clear hg_ hnew_; (first | rw [← Ny217.out] at ho15 | (simp only [Int.reduceToNat] at ho15; rw [← Ny217.out] at ho15)); have HO219 := Aside0.mk (Kd.R_lower (Kd.R_new' ho15 (Kd.R_lt (by (with_reducible repeat (first | apply Kd.R_alloc | apply Kd.R_drewN | apply Kd.R_drew)); exact (Kd.R_mono (Kd.R_far (p := ⟨gb216, 5, none⟩) (Kd.R_far (p := ⟨gb216, 4, none⟩) (Kd.R_far (p := ⟨gb216, 3, none⟩) (Kd.R_far (p := ⟨gb216, 2, none⟩) (Kd.R_far (p := ⟨gb216, 1, none⟩) (Kd.R_far (p := ⟨gb216, 0, none⟩) (Kd.R_types HO209.out BK216.out (by decide)) (fun _ hk => hk.2) (.string (⟨#[]⟩ : ByteArray))) (fun _ hk => hk.2) (.slice none 0 0)) (fun _ hk => hk.2) (.slice Ao11 y210.length co11)) (fun _ hk => hk.2) (.slice Ao10 y207.length co10)) (fun _ hk => hk.2) (.slice none 0 0)) (fun _ hk => hk.2) (.slice Ao9 y213.length co9)) (fun _ h_ => h_.1))))) (below_size zB)); replace HO209 := Aside0.mk (Kd.R_elder' (by (with_reducible repeat (first | apply Kd.R_alloc | apply Kd.R_drewN | apply Kd.R_drew)); exact (Kd.R_mono (Kd.R_far (p := ⟨gb216, 5, none⟩) (Kd.R_far (p := ⟨gb216, 4, none⟩) (Kd.R_far (p := ⟨gb216, 3, none⟩) (Kd.R_far (p := ⟨gb216, 2, none⟩) (Kd.R_far (p := ⟨gb216, 1, none⟩) (Kd.R_far (p := ⟨gb216, 0, none⟩) (Kd.R_types HO209.out BK216.out (by decide)) (fun _ hk => hk.2) (.string (⟨#[]⟩ : ByteArray))) (fun _ hk => hk.2) (.slice none 0 0)) (fun _ hk => hk.2) (.slice Ao11 y210.length co11)) (fun _ hk => hk.2) (.slice Ao10 y207.length co10)) (fun _ hk => hk.2) (.slice none 0 0)) (fun _ hk => hk.2) (.slice Ao9 y213.length co9)) (fun _ h_ => h_.1))) (Kd.R_base ho15) hb); replace HO212 := Aside0.mk (Kd.R_below (by (with_reducible repeat (first | apply Kd.R_alloc | apply Kd.R_drewN | apply Kd.R_drew)); exact (Kd.R_mono (Kd.R_far (p := ⟨gb216, 5, none⟩) (Kd.R_far (p := ⟨gb216, 4, none⟩) (Kd.R_far (p := ⟨gb216, 3, none⟩) (Kd.R_far (p := ⟨gb216, 2, none⟩) (Kd.R_far (p := ⟨gb216, 1, none⟩) (Kd.R_far (p := ⟨gb216, 0, none⟩) (Kd.R_types HO212.out BK216.out (by decide)) (fun _ hk => hk.2) (.string (⟨#[]⟩ : ByteArray))) (fun _ hk => hk.2) (.slice none 0 0)) (fun _ hk => hk.2) (.slice Ao11 y210.length co11)) (fun _ hk => hk.2) (.slice Ao10 y207.length co10)) (fun _ hk => hk.2) (.slice none 0 0)) (fun _ hk => hk.2) (.slice Ao9 y213.length co9)) (fun _ h_ => h_.1))) hb); replace HO215 := Aside0.mk (Kd.R_below (by (with_reducible repeat (first | apply Kd.R_alloc | apply Kd.R_drewN | apply Kd.R_drew)); exact (Kd.R_mono (Kd.R_far (p := ⟨gb216, 5, none⟩) (Kd.R_far (p := ⟨gb216, 4, none⟩) (Kd.R_far (p := ⟨gb216, 3, none⟩) (Kd.R_far (p := ⟨gb216, 2, none⟩) (Kd.R_far (p := ⟨gb216, 1, none⟩) (Kd.R_far (p := ⟨gb216, 0, none⟩) (Kd.R_types HO215.out BK216.out (by decide)) (fun _ hk => hk.2) (.string (⟨#[]⟩ : ByteArray))) (fun _ hk => hk.2) (.slice none 0 0)) (fun _ hk => hk.2) (.slice Ao11 y210.length co11)) (fun _ hk => hk.2) (.slice Ao10 y207.length co10)) (fun _ hk => hk.2) (.slice none 0 0)) (fun _ hk => hk.2) (.slice Ao9 y213.length co9)) (fun _ h_ => h_.1))) hb); replace BK216 := Aside0.mk (blk_below (g := gb216) (o := .cells #[.string (⟨#[]⟩ : ByteArray), .slice none 0 0, .slice Ao11 y210.length co11, .slice Ao10 y207.length co10, .slice none 0 0, .slice Ao9 y213.length co9] 26 (0, 0)) zV hb); replace HB := Aside0.mk (below_step zB hb); clear hb ho15; obtain ⟨Ao16, co16, eo16⟩ := Kd.R_slice HO219.out; subst eo16) | (go_at_call 10; (refine (link_Image.calls k (⟨#[]⟩ : ByteArray) _ _ ([] : List ByteArray) _ _ y210 _ _ y207 _ _ ([] : List Int) _ _ y213 80 96 _ _ y217 t220 t223 _ ?side1 ?side2 ?side3 ?side4 ?side5 ?side6 ?side7 ?side8 ?side9 ?side10 ?side11 ?side12 A1.out).mono ?_); (case side1 => exact Kd.C_nil _ _); (case side2 => exact Nat.le_refl _); (case side3 => repeat (first | exact (Kd.R_reads' HO212.out).2.2 | (with_reducible refine Kd.C_alloc ?_ _) | (with_reducible refine Kd.C_drewN ?_ _) | (with_reducible refine Kd.C_drew ?_))); (case side4 => exact (Kd.R_reads' HO212.out).2.1); (case side5 => repeat (first | exact (Kd.R_reads' HO209.out).2.2 | (with_reducible refine Kd.C_alloc ?_ _) | (with_reducible refine Kd.C_drewN ?_ _) | (with_reducible refine Kd.C_drew ?_))); (case side6 => exact (Kd.R_reads' HO209.out).2.1); (case side7 => exact Kd.C_nil _ _); (case side8 => exact Nat.le_refl _); (case side9 => repeat (first | exact (Kd.R_reads' HO215.out).2.2 | (with_reducible refine Kd.C_alloc ?_ _) | (with_reducible refine Kd.C_drewN ?_ _) | (with_reducible refine Kd.C_drew ?_))); (case side10 => exact (Kd.R_reads' HO215.out).2.1); (case side11 => repeat (first | exact (Kd.R_reads' HO219.out).2.2 | (with_reducible refine Kd.C_alloc ?_ _) | (with_reducible refine Kd.C_drewN ?_ _) | (with_reducible refine Kd.C_drew ?_))); (case side12 => exact (Kd.R_reads' HO219.out).2.1); rintro e w17 ⟨v221, rfl, ho0, hb⟩; have HO222 := Aside0.mk (Kd.R_lower (Kd.R_new' (Kd.R_new' ho0 (Kd.R_lt (zR HO209))) (Kd.R_lt (zR HO219))) (below_size zB)); replace HO209 := Aside0.mk (Kd.R_elder' (zR HO209) (Kd.R_base ho0) hb); replace HO212 := Aside0.mk (Kd.R_below (zR HO212) hb); replace HO215 := Aside0.mk (Kd.R_below (zR HO215) hb); replace HO219 := Aside0.mk (Kd.R_elder' (zR HO219) (Kd.R_base ho0) hb); replace BK216 := Aside0.mk (zL BK216 hb); replace HB := Aside0.mk (below_step zB hb); (try clear hb); (try clear hb2); (try clear hk); (try clear hi); (try clear ho0))))
  (try simp only [Act.put, List.setIfInBounds_toArray, List.set_cons_zero, List.set_cons_succ])
  go_cut [0] (fun v0 wc => ∃ (kq : Nat) (x0_1 : Bool), v0 = .bool x0_1 ∧ Aside0 (budwoodlaw16_awake.j0 kq x0_1 = some r) ∧ Aside0 (kq ≤ k) ∧ Aside0 (Kd.R Kd.string 9 wc w.heap.size (fun _ => True) (.slice Ao11 y210.length co11) y210) ∧ Aside0 (Kd.R (Kd.int .u32) 27 wc w.heap.size (fun _ => True) (.slice Ao10 y207.length co10) y207) ∧ Aside0 (Kd.R k53 53 wc w.heap.size (fun _ => True) (.slice Ao9 y213.length co9) y213) ∧ Aside0 (wc.heap[gb216]? = some (.cells #[.string (⟨#[]⟩ : ByteArray), (.slice none 0 0), (.slice Ao11 y210.length co11), (.slice Ao10 y207.length co10), (.slice none 0 0), (.slice Ao9 y213.length co9)] 26 (0, 0))) ∧ Aside0 (Below w.heap.size w wc))
  case first =>
    have H := HC2.out
    clear HC2
    by_cases c18 : t223 = 0
    · rw [if_pos c18] at H
      have c18b0 : (t223 == 0) = true := beq_iff_eq.mpr c18
      have c18b1 : (t223 != 0) = false := bne_eq_false_iff_eq.mpr c18
      clear c18
      (first | rw [c18b0] | (simp only [i64_w, i32_w]; rw [c18b0]) | skip)
      by_cases c19 : (t220.length : Int) = 16
      · rw [if_pos c19] at H
        have c19b0 : ((t220.length : Int) == 16) = true := beq_iff_eq.mpr c19
        have c19b1 : ((t220.length : Int) != 16) = false := bne_eq_false_iff_eq.mpr c19
        clear c19
        by_cases c20 : 0 < (t220.length : Int)
        · rw [if_pos c20] at H
          have c20b0 : decide (0 < (t220.length : Int)) = true := decide_eq_true c20
          have c20b1 : decide (0 < t220.length) = true := decide_eq_true (by omega)
          clear c20
          by_cases c21 : (rd t220 0) = 2281701393
          · rw [if_pos c21] at H
            have c21b0 : ((rd t220 0) == 2281701393) = true := beq_iff_eq.mpr c21
            have c21b1 : ((rd t220 0) != 2281701393) = false := bne_eq_false_iff_eq.mpr c21
            clear c21
            by_cases c22 : 1 < (t220.length : Int)
            · rw [if_pos c22] at H
              have c22b0 : decide (1 < (t220.length : Int)) = true := decide_eq_true c22
              have c22b1 : decide (1 < t220.length) = true := decide_eq_true (by omega)
              clear c22
              by_cases c23 : 1 < (y207.length : Int)
              · rw [if_pos c23] at H
                have c23b0 : decide (1 < (y207.length : Int)) = true := decide_eq_true c23
                have c23b1 : decide (1 < y207.length) = true := decide_eq_true (by omega)
                clear c23
                by_cases c24 : (rd t220 1) = (rd y207 1)
                · rw [if_pos c24] at H
                  have c24b0 : ((rd t220 1) == (rd y207 1)) = true := beq_iff_eq.mpr c24
                  have c24b1 : ((rd t220 1) != (rd y207 1)) = false := bne_eq_false_iff_eq.mpr c24
                  clear c24
                  by_cases c25 : 2 < (t220.length : Int)
                  · rw [if_pos c25] at H
                    have c25b0 : decide (2 < (t220.length : Int)) = true := decide_eq_true c25
                    have c25b1 : decide (2 < t220.length) = true := decide_eq_true (by omega)
                    clear c25
                    by_cases c26 : (rd t220 2) = 0
                    · rw [if_pos c26] at H
                      have c26b0 : ((rd t220 2) == 0) = true := beq_iff_eq.mpr c26
                      have c26b1 : ((rd t220 2) != 0) = false := bne_eq_false_iff_eq.mpr c26
                      clear c26
                      have H' := Aside0.mk H
                      clear H
                      obtain ⟨Ao27, co27, eo27⟩ := Kd.R_slice HO222.out
                      subst eo27
                      have p224 : 0 ≤ (0 : Int) := (by omega)
                      have q224 : 0 < (t220.length : Int) := of_decide_eq_true (by first | (with_reducible assumption) | assumption)
                      obtain ⟨ad224, e224, hx224_0⟩ := Kd.at_int (Kd.R_reads' HO222.out).2.2 0 p224 q224
                      cases e224
                      have qi224 : (0 < t220.length) = True := eq_true (by omega)
                      (try rw [show ((0 : Int)).toNat = 0 from rfl] at hx224_0)
                      (try rw [Addr.add_zero'] at hx224_0)
                      replace p224 := eq_true p224
                      replace q224 := eq_true q224
                      have p225 : 0 ≤ (1 : Int) := (by omega)
                      have q225 : 1 < (t220.length : Int) := of_decide_eq_true (by first | (with_reducible assumption) | assumption)
                      obtain ⟨ad225, e225, hx225_0⟩ := Kd.at_int (Kd.R_reads' HO222.out).2.2 1 p225 q225
                      obtain rfl : ad224 = ad225 := (by injection e225)
                      (try simp only [show (1 : Int).toNat = 1 from rfl, Nat.reduceMul, Nat.reduceEqDiff, Go.Addr.add, ↓reduceIte] at hx225_0)
                      have qi225 : (1 < t220.length) = True := eq_true (by omega)
                      (try rw [show ((1 : Int)).toNat = 1 from rfl] at hx225_0)
                      replace p225 := eq_true p225
                      replace q225 := eq_true q225
                      obtain ⟨hcz28_0, hcz28_1, hcz28_2, hcz28_3, hcz28_4, hcz28_5⟩ := zc6 BK216
                      obtain ⟨hfz28_0, hfz28_1, hfz28_2, hfz28_3, hfz28_4, hfz28_5⟩ := zf6 BK216
                      have p226 : 0 ≤ (1 : Int) := (by omega)
                      have q226 : 1 < (y207.length : Int) := of_decide_eq_true (by first | (with_reducible assumption) | assumption)
                      obtain ⟨ad226, e226, hx226_0⟩ := Kd.at_int (Kd.R_reads' HO209.out).2.2 1 p226 q226
                      cases e226
                      (try simp only [show (1 : Int).toNat = 1 from rfl, Nat.reduceMul, Nat.reduceEqDiff, Go.Addr.add, ↓reduceIte] at hx226_0)
                      have qi226 : (1 < y207.length) = True := eq_true (by omega)
                      (try rw [show ((1 : Int)).toNat = 1 from rfl] at hx226_0)
                      replace p226 := eq_true p226
                      replace q226 := eq_true q226
                      have p227 : 0 ≤ (2 : Int) := (by omega)
                      have q227 : 2 < (t220.length : Int) := of_decide_eq_true (by first | (with_reducible assumption) | assumption)
                      obtain ⟨ad227, e227, hx227_0⟩ := Kd.at_int (Kd.R_reads' HO222.out).2.2 2 p227 q227
                      obtain rfl : ad224 = ad227 := (by injection e227)
                      (try simp only [show (2 : Int).toNat = 2 from rfl, Nat.reduceMul, Nat.reduceEqDiff, Go.Addr.add, ↓reduceIte] at hx227_0)
                      have qi227 : (2 < t220.length) = True := eq_true (by omega)
                      (try rw [show ((2 : Int)).toNat = 2 from rfl] at hx227_0)
                      replace p227 := eq_true p227
                      replace q227 := eq_true q227
                      go_wp2
                      repeat (go_quiet (fail); try go_wp2)
                      go_meet
                      case rel => exact ⟨_, (true), (zE), H', ⟨by first | omega | exact Nat.le_refl _⟩, ⟨zR HO212⟩, ⟨by (with_reducible repeat (first | apply Kd.R_alloc | apply Kd.R_drewN | apply Kd.R_drew)); exact Kd.R_mono HO209.out (fun _ hk => trivial)⟩, ⟨zR HO215⟩, ⟨zK⟩, ⟨zB⟩⟩
                    · rw [if_neg c26] at H
                      have c26b0 : ((rd t220 2) == 0) = false := beq_eq_false_iff_ne.mpr c26
                      have c26b1 : ((rd t220 2) != 0) = true := bne_iff_ne.mpr c26
                      have H' := Aside0.mk H
                      clear H
                      obtain ⟨Ao29, co29, eo29⟩ := Kd.R_slice HO222.out
                      subst eo29
                      have p224 : 0 ≤ (0 : Int) := (by omega)
                      have q224 : 0 < (t220.length : Int) := of_decide_eq_true (by first | (with_reducible assumption) | assumption)
                      obtain ⟨ad224, e224, hx224_0⟩ := Kd.at_int (Kd.R_reads' HO222.out).2.2 0 p224 q224
                      cases e224
                      have qi224 : (0 < t220.length) = True := eq_true (by omega)
                      (try rw [show ((0 : Int)).toNat = 0 from rfl] at hx224_0)
                      (try rw [Addr.add_zero'] at hx224_0)
                      replace p224 := eq_true p224
                      replace q224 := eq_true q224
                      have p225 : 0 ≤ (1 : Int) := (by omega)
                      have q225 : 1 < (t220.length : Int) := of_decide_eq_true (by first | (with_reducible assumption) | assumption)
                      obtain ⟨ad225, e225, hx225_0⟩ := Kd.at_int (Kd.R_reads' HO222.out).2.2 1 p225 q225
                      obtain rfl : ad224 = ad225 := (by injection e225)
                      (try simp only [show (1 : Int).toNat = 1 from rfl, Nat.reduceMul, Nat.reduceEqDiff, Go.Addr.add, ↓reduceIte] at hx225_0)
                      have qi225 : (1 < t220.length) = True := eq_true (by omega)
                      (try rw [show ((1 : Int)).toNat = 1 from rfl] at hx225_0)
                      replace p225 := eq_true p225
                      replace q225 := eq_true q225
                      obtain ⟨hcz30_0, hcz30_1, hcz30_2, hcz30_3, hcz30_4, hcz30_5⟩ := zc6 BK216
                      obtain ⟨hfz30_0, hfz30_1, hfz30_2, hfz30_3, hfz30_4, hfz30_5⟩ := zf6 BK216
                      have p226 : 0 ≤ (1 : Int) := (by omega)
                      have q226 : 1 < (y207.length : Int) := of_decide_eq_true (by first | (with_reducible assumption) | assumption)
                      obtain ⟨ad226, e226, hx226_0⟩ := Kd.at_int (Kd.R_reads' HO209.out).2.2 1 p226 q226
                      cases e226
                      (try simp only [show (1 : Int).toNat = 1 from rfl, Nat.reduceMul, Nat.reduceEqDiff, Go.Addr.add, ↓reduceIte] at hx226_0)
                      have qi226 : (1 < y207.length) = True := eq_true (by omega)
                      (try rw [show ((1 : Int)).toNat = 1 from rfl] at hx226_0)
                      replace p226 := eq_true p226
                      replace q226 := eq_true q226
                      have p227 : 0 ≤ (2 : Int) := (by omega)
                      have q227 : 2 < (t220.length : Int) := of_decide_eq_true (by first | (with_reducible assumption) | assumption)
                      obtain ⟨ad227, e227, hx227_0⟩ := Kd.at_int (Kd.R_reads' HO222.out).2.2 2 p227 q227
                      obtain rfl : ad224 = ad227 := (by injection e227)
                      (try simp only [show (2 : Int).toNat = 2 from rfl, Nat.reduceMul, Nat.reduceEqDiff, Go.Addr.add, ↓reduceIte] at hx227_0)
                      have qi227 : (2 < t220.length) = True := eq_true (by omega)
                      (try rw [show ((2 : Int)).toNat = 2 from rfl] at hx227_0)
                      replace p227 := eq_true p227
                      replace q227 := eq_true q227
                      go_wp2
                      repeat (go_quiet (fail); try go_wp2)
                      go_meet
                      case rel => exact ⟨_, (false), (zE), H', ⟨by first | omega | exact Nat.le_refl _⟩, ⟨zR HO212⟩, ⟨by (with_reducible repeat (first | apply Kd.R_alloc | apply Kd.R_drewN | apply Kd.R_drew)); exact Kd.R_mono HO209.out (fun _ hk => trivial)⟩, ⟨zR HO215⟩, ⟨zK⟩, ⟨zB⟩⟩
                  · rw [if_neg c25] at H
                    exact absurd H (by simp)
                · rw [if_neg c24] at H
                  have c24b0 : ((rd t220 1) == (rd y207 1)) = false := beq_eq_false_iff_ne.mpr c24
                  have c24b1 : ((rd t220 1) != (rd y207 1)) = true := bne_iff_ne.mpr c24
                  have H' := Aside0.mk H
                  clear H
                  obtain ⟨Ao31, co31, eo31⟩ := Kd.R_slice HO222.out
                  subst eo31
                  have p224 : 0 ≤ (0 : Int) := (by omega)
                  have q224 : 0 < (t220.length : Int) := of_decide_eq_true (by first | (with_reducible assumption) | assumption)
                  obtain ⟨ad224, e224, hx224_0⟩ := Kd.at_int (Kd.R_reads' HO222.out).2.2 0 p224 q224
                  cases e224
                  have qi224 : (0 < t220.length) = True := eq_true (by omega)
                  (try rw [show ((0 : Int)).toNat = 0 from rfl] at hx224_0)
                  (try rw [Addr.add_zero'] at hx224_0)
                  replace p224 := eq_true p224
                  replace q224 := eq_true q224
                  have p225 : 0 ≤ (1 : Int) := (by omega)
                  have q225 : 1 < (t220.length : Int) := of_decide_eq_true (by first | (with_reducible assumption) | assumption)
                  obtain ⟨ad225, e225, hx225_0⟩ := Kd.at_int (Kd.R_reads' HO222.out).2.2 1 p225 q225
                  obtain rfl : ad224 = ad225 := (by injection e225)
                  (try simp only [show (1 : Int).toNat = 1 from rfl, Nat.reduceMul, Nat.reduceEqDiff, Go.Addr.add, ↓reduceIte] at hx225_0)
                  have qi225 : (1 < t220.length) = True := eq_true (by omega)
                  (try rw [show ((1 : Int)).toNat = 1 from rfl] at hx225_0)
                  replace p225 := eq_true p225
                  replace q225 := eq_true q225
                  obtain ⟨hcz32_0, hcz32_1, hcz32_2, hcz32_3, hcz32_4, hcz32_5⟩ := zc6 BK216
                  obtain ⟨hfz32_0, hfz32_1, hfz32_2, hfz32_3, hfz32_4, hfz32_5⟩ := zf6 BK216
                  have p226 : 0 ≤ (1 : Int) := (by omega)
                  have q226 : 1 < (y207.length : Int) := of_decide_eq_true (by first | (with_reducible assumption) | assumption)
                  obtain ⟨ad226, e226, hx226_0⟩ := Kd.at_int (Kd.R_reads' HO209.out).2.2 1 p226 q226
                  cases e226
                  (try simp only [show (1 : Int).toNat = 1 from rfl, Nat.reduceMul, Nat.reduceEqDiff, Go.Addr.add, ↓reduceIte] at hx226_0)
                  have qi226 : (1 < y207.length) = True := eq_true (by omega)
                  (try rw [show ((1 : Int)).toNat = 1 from rfl] at hx226_0)
                  replace p226 := eq_true p226
                  replace q226 := eq_true q226
                  go_wp2
                  repeat (go_quiet (fail); try go_wp2)
                  go_meet
                  case rel => exact ⟨_, (false), (zE), H', ⟨by first | omega | exact Nat.le_refl _⟩, ⟨zR HO212⟩, ⟨by (with_reducible repeat (first | apply Kd.R_alloc | apply Kd.R_drewN | apply Kd.R_drew)); exact Kd.R_mono HO209.out (fun _ hk => trivial)⟩, ⟨zR HO215⟩, ⟨zK⟩, ⟨zB⟩⟩
              · rw [if_neg c23] at H
                exact absurd H (by simp)
            · rw [if_neg c22] at H
              exact absurd H (by simp)
          · rw [if_neg c21] at H
            have c21b0 : ((rd t220 0) == 2281701393) = false := beq_eq_false_iff_ne.mpr c21
            have c21b1 : ((rd t220 0) != 2281701393) = true := bne_iff_ne.mpr c21
            have H' := Aside0.mk H
            clear H
            obtain ⟨Ao33, co33, eo33⟩ := Kd.R_slice HO222.out
            subst eo33
            have p224 : 0 ≤ (0 : Int) := (by omega)
            have q224 : 0 < (t220.length : Int) := of_decide_eq_true (by first | (with_reducible assumption) | assumption)
            obtain ⟨ad224, e224, hx224_0⟩ := Kd.at_int (Kd.R_reads' HO222.out).2.2 0 p224 q224
            cases e224
            have qi224 : (0 < t220.length) = True := eq_true (by omega)
            (try rw [show ((0 : Int)).toNat = 0 from rfl] at hx224_0)
            (try rw [Addr.add_zero'] at hx224_0)
            replace p224 := eq_true p224
            replace q224 := eq_true q224
            go_wp2
            repeat (go_quiet (fail); try go_wp2)
            go_meet
            case rel => exact ⟨_, (false), (zE), H', ⟨by first | omega | exact Nat.le_refl _⟩, ⟨zR HO212⟩, ⟨by (with_reducible repeat (first | apply Kd.R_alloc | apply Kd.R_drewN | apply Kd.R_drew)); exact Kd.R_mono HO209.out (fun _ hk => trivial)⟩, ⟨zR HO215⟩, ⟨zK⟩, ⟨zB⟩⟩
        · rw [if_neg c20] at H
          exact absurd H (by simp)
      · rw [if_neg c19] at H
        have c19b0 : ((t220.length : Int) == 16) = false := beq_eq_false_iff_ne.mpr c19
        have c19b1 : ((t220.length : Int) != 16) = true := bne_iff_ne.mpr c19
        have H' := Aside0.mk H
        clear H
        obtain ⟨Ao34, co34, eo34⟩ := Kd.R_slice HO222.out
        subst eo34
        go_wp2
        repeat (go_quiet (fail); try go_wp2)
        go_meet
        case rel => exact ⟨_, (false), (zE), H', ⟨by first | omega | exact Nat.le_refl _⟩, ⟨zR HO212⟩, ⟨by (with_reducible repeat (first | apply Kd.R_alloc | apply Kd.R_drewN | apply Kd.R_drew)); exact Kd.R_mono HO209.out (fun _ hk => trivial)⟩, ⟨zR HO215⟩, ⟨zK⟩, ⟨zB⟩⟩
    · rw [if_neg c18] at H
      have c18b0 : (t223 == 0) = false := beq_eq_false_iff_ne.mpr c18
      have c18b1 : (t223 != 0) = true := bne_iff_ne.mpr c18
      (first | rw [c18b0] | (simp only [i64_w, i32_w]; rw [c18b0]) | skip)
      have H' := Aside0.mk H
      clear H
      go_wp2
      repeat (go_quiet (fail); try go_wp2)
      go_meet
      case rel => exact ⟨_, (false), (zE), H', ⟨by first | omega | exact Nat.le_refl _⟩, ⟨zR HO212⟩, ⟨by (with_reducible repeat (first | apply Kd.R_alloc | apply Kd.R_drewN | apply Kd.R_drew)); exact Kd.R_mono HO209.out (fun _ hk => trivial)⟩, ⟨zR HO215⟩, ⟨zK⟩, ⟨zB⟩⟩
  case rest =>
    clear HC2
    try clear c1
    try clear c2
    try clear p2
    try clear q2
    try clear hx2
    try clear qi2
    try clear c3
    try clear c6
    try clear c18
    try clear c18b0
    try clear c18b1
    try clear c19
    try clear c19b0
    try clear c19b1
    try clear c20
    try clear c20b0
    try clear c20b1
    try clear c21
    try clear c21b0
    try clear c21b1
    try clear c22
    try clear c22b0
    try clear c22b1
    try clear p22
    try clear q22
    try clear hx22
    try clear qi22
    try clear c23
    try clear c23b0
    try clear c23b1
    try clear c24
    try clear c24b0
    try clear c24b1
    try clear c25
    try clear c25b0
    try clear c25b1
    try clear c26
    try clear c26b0
    try clear c26b1
    try clear hcz13_0 hcz13_1 hcz13_2 hcz13_3 hcz13_4 hcz13_5
    try clear hcz28_0 hcz28_1 hcz28_2 hcz28_3 hcz28_4 hcz28_5
    try clear hcz30_0 hcz30_1 hcz30_2 hcz30_3 hcz30_4 hcz30_5
    try clear hcz32_0 hcz32_1 hcz32_2 hcz32_3 hcz32_4 hcz32_5
    try clear hfz13_0 hfz13_1 hfz13_2 hfz13_3 hfz13_4 hfz13_5
    try clear hfz28_0 hfz28_1 hfz28_2 hfz28_3 hfz28_4 hfz28_5
    try clear hfz30_0 hfz30_1 hfz30_2 hfz30_3 hfz30_4 hfz30_5
    try clear hfz32_0 hfz32_1 hfz32_2 hfz32_3 hfz32_4 hfz32_5
    try clear hx224_0
    try clear hx225_0
    try clear hx226_0
    try clear hx227_0
    try clear p224
    try clear p225
    try clear p226
    try clear p227
    try clear q224
    try clear q225
    try clear q226
    try clear q227
    obtain ⟨kq, x0_1, rfl, HA, HJ1, HO_217002, HO_217003, HO_217005, BK216, HB⟩ := hcut
    cases kq with
    | zero => exact absurd HA.out (by simp [budwoodlaw16_awake.j0])
    | succ kj1 =>
      have H := HA.out
      clear HA
      simp only [budwoodlaw16_awake.j0] at H
      obtain rfl := Option.some.inj H
      go_wp2
      repeat (go_quiet (fail); try go_wp2)
      go_ret
      exact ⟨zF, zB⟩

/-! ### budwoodref12_pages: function 35 -/
set_option maxHeartbeats 8000000 in
set_option maxRecDepth 100000 in
theorem budwoodref12_pages.calls (a0 : Int) (r : Int) (w : World) (h : budwoodref12_pages.f a0 = some r) :
    Calls Try.prog 35 #[.int .i64 a0] w fun e w' => e = .returned (.int .i64 r) ∧ Below w.heap.size w w' := by
  have HB := Aside0.mk (Below.refl w.heap.size w)
  have H : (some (wrap64 ((wrap64 (Int.tdiv a0 16)) + (mn 1 (Int.tmod a0 16))))) = some r := h
  clear h
  obtain ⟨ji2, hji2⟩ : ∃ j_ : Int, (mn 1 (Int.tmod a0 16)) = j_ := ⟨_, rfl⟩
  replace H : (some (wrap64 ((wrap64 (Int.tdiv a0 16)) + (ji2)))) = some r := by first | (rw [hji2] at H; exact H) | (simp only [hji2] at H ⊢; exact H)
  (try (have hji2h : ji2 ≤ 1 := by (rw [← hji2]; unfold mn; (repeat' split) <;> omega)))
  (try (have hji2g : ji2 ≤ 64 := by omega))
  have hji2_ : (if (Int.tmod a0 16) < 1 then (Int.tmod a0 16) else 1) = ji2 := hji2
  obtain rfl := Option.some.inj H
  go_enter Try.func35, Try.ntmps35
  go_wp2
  go_ret
  exact ⟨by first | rfl | (simp [errW_none, errW_some] <;> rfl) | (simp only [← hji2]; first | rfl | (simp [errW_none, errW_some] <;> rfl)) | (simp [*, errW_none, errW_some] <;> rfl), zB⟩

end Go.Proofs.Ytllkloneapjgjaa.P
