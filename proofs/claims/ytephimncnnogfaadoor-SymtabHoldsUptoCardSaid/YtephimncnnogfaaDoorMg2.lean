import Derived.Test.YtephimncnnogfaaDoorMg1
import Derived.Test.YtephimncnnogfaaDoorAb18
/- Modules that are looked at: relocations, and all in all. -/
namespace Go.Abs
set_option linter.unusedSimpArgs false
set_option linter.unusedVariables false
open Go.Proofs Go.Nm Go.Wd
set_option linter.unusedVariables false
set_option maxRecDepth 8000
variable {H : Heap}
def dataK (k : Nat) : Bool := ((k : Int) == 4) || (((k : Int) == 5) || ((k : Int) == 6))
/-- The word that a relocation names: in code or in data, and where. -/
def Rlc.spot (r : Rlc) : Bool × Nat := (!dataK r.k, r.a)
def same5 (x y : Ins) : Bool := ((x.o : Int) == (y.o : Int)) && (((x.d : Int) == (y.d : Int)) && (((x.a : Int) == (y.a : Int)) && (((x.b : Int) == (y.b : Int)) && ((x.i == y.i) && true))))
/-- Is a relocation's word one that an address goes to? -/
def Mod.fit (m : Mod) (r : Rlc) : Bool :=
  if r.spot.1 then (if ((r.k : Int) == 0) || ((r.k : Int) == 7) then same5 (dec (m.co.getD r.a 0)) ⟨17, 0, 0, 0, 0⟩ else (((dec (m.co.getD r.a 0)).o : Int) == 2) && ((dec (m.co.getD r.a 0)).i == 0))
  else ((m.da.getD r.a 0 : Nat) : Int) == 0
def Mod.thr (m : Mod) (r : Rlc) : Bool :=
  if ((r.k : Int) == 0) || (((r.k : Int) == 1) || ((r.k : Int) == 4)) then decide ((r.w : Int) < m.im.length) else if ((r.k : Int) == 2) || ((r.k : Int) == 5) then decide ((r.w : Int) < m.da.length) else decide ((r.w : Int) < m.co.length)
theorem u16_i64 {x : Nat} (h : x < 65536) : IntKind.i64.wrap (x : Int) = x := wi64 (by omega) (by omega)
def spotV (p : Bool × Nat) : Value := .agg #[.bool p.1, .int .u16 p.2]
theorem rep_spot (w : World) (F : Nat → Prop) (p : Bool × Nat) : Rep w F (.agg [.s (.bool p.1), .s (.int .u16 p.2)]) (spotV p) := by
  simp only [Rep, RepL, spotV]; exact ⟨_, rfl, _, _, rfl, rfl, _, _, rfl, rfl, rfl⟩
end Go.Abs
/- Modules that are looked at: relocations in a loop, and all in all. -/
namespace Go.Abs
set_option linter.unusedSimpArgs false
set_option linter.unusedVariables false
open Go.Proofs Go.Nm Go.Wd
set_option linter.unusedVariables false
set_option maxRecDepth 8000
variable {H : Heap}
theorem w16 {x : Int} (h0 : 0 ≤ x) (h1 : x < 65536) : IntKind.u16.wrap x = x := by rw [IntKind.wrap_u16]; omega
def inB {α : Type} [DecidableEq α] (k : α) (ks : List α) : Bool := decide (k ∈ ks)
theorem oc_hasB {P : Program} {d : Option Tmp} {ty : TypeId} {pos : String} {aft : Array Edge} {g : Option (Nat × Bool)} {α : Type} [DecidableEq α] {kt e t : TypeId} {enc : α → Value} {q : Bool} {k : α} {ks : List α} (hq : inB k ks = q) (K : KeyP P kt enc) (ht : P.underlying t = some (.map kt e)) (hz : zeroT P e = some (.s (.bool false))) {m : Nat} (hm : H m = some (setR enc ks)) {kT : TV} (hkT : ∀ w F v, Rep w F kT v → v = enc k)
    {s x : Operand} : OC P ⟨d, .lookup t s x false, ty, pos, aft, g⟩ [.s (.map (some m)), kT] H (fun r H' => r = .s (.bool q) ∧ H' = H) := by
  subst hq; exact oc_has K ht hz hm hkT
theorem oc_putN {P : Program} {d : Option Tmp} {ty : TypeId} {pos : String} {aft : Array Edge} {g : Option (Nat × Bool)} {α : Type} [DecidableEq α] {kt e t : TypeId} {enc : α → Value} {k : α} {ks : List α} (hq : inB k ks = false) (K : KeyP P kt enc) (ht : P.underlying t = some (.map kt e)) {m : Nat} (hm : H m = some (setR enc ks)) {kT : TV} (hkT : ∀ w F v, Rep w F kT v → v = enc k)
    {s x y : Operand} : OC P ⟨d, .mapUpdate t s x y, ty, pos, aft, g⟩ [.s (.map (some m)), kT, .s (.bool true)] H (fun r H' => r = .any ∧ H' = upd H m (setR enc (ks ++ [k]))) := by
  have h := oc_put (d := d) (ty := ty) (pos := pos) (aft := aft) (g := g) (s := s) (x := x) (y := y) K ht hm hkT
  rw [if_neg (by simpa [inB] using hq)] at h
  exact h
def Mod.cells (m : Mod) : List TV := [.s (.string m.nm), .vs 1 (m.ex.map s1), .vs 1 (m.im.map s1), .vs 1 (m.co.map u1), .vs 1 (m.da.map u1), .vs 3 (m.re.map relE)]
def Mod.len (m : Mod) (r : Rlc) : Nat := if r.spot.1 then m.co.length else m.da.length
/-- A relocation whose word was named ahead, or is not there. -/
def Mod.badP (m : Mod) (i : Nat) : Bool := match m.re[i]? with
  | some r => inB r.spot ((m.re.take i).map Rlc.spot) || decide (((m.len r : Nat) : Int) ≤ (r.a : Int))
  | none => false
/-- A Call that no relocation names. -/
def Mod.loose (m : Mod) (i : Nat) : Bool := match m.co[i]? with
  | some w => (((dec w).o : Int) == 17) && !(inB (true, i) (m.re.map Rlc.spot))
  | none => false
def Mod.rel (m : Mod) : Int × Int :=
  if decide (0 ≤ fi m.badP (List.range m.re.length)) then (6, fi m.badP (List.range m.re.length)) else if decide (0 ≤ fi (fun r => !m.fit r) m.re) then (7, fi (fun r => !m.fit r) m.re)
  else if decide (0 ≤ fi (fun r => !m.thr r) m.re) then (8, fi (fun r => !m.thr r) m.re) else if decide (0 ≤ fi m.loose (List.range m.co.length)) then (9, fi m.loose (List.range m.co.length)) else (0, 0)
theorem spots_succ {m : Mod} {i : Nat} {r : Rlc} (h : m.re[i]? = some r) : (m.re.take i).map Rlc.spot ++ [r.spot] = (m.re.take (i + 1)).map Rlc.spot := by
  obtain ⟨hi, he⟩ := List.getElem?_eq_some_iff.1 h
  rw [List.take_add_one, h]; simp
theorem spot_a (r : Rlc) : r.spot.2 = r.a := rfl
end Go.Abs
/- Modules that are looked at, all in all. -/
namespace Go.Abs
set_option linter.unusedSimpArgs false
set_option linter.unusedVariables false
open Go.Proofs Go.Nm Go.Wd
set_option linter.unusedVariables false
set_option maxRecDepth 8000
variable {H : Heap}
/-- What is wrong with a module, and where. -/
def Mod.flt (m : Mod) : Int × Int :=
  if m.obj != 0 then (1, 0) else if m.txt.1 != 0 then m.txt else if m.wrd.1 != 0 then m.wrd else m.rel
theorem obj_small {m : Mod} (h : (m.obj != 0) = false) : m.ex.length ≤ 8 ∧ m.im.length ≤ 16 ∧ m.re.length ≤ 256 ∧ m.co.length ≤ 512 ∧ m.da.length ≤ 128 := by
  unfold Mod.obj at h
  by_cases a : (decide ((8 : Int) < m.ex.length) || (decide ((16 : Int) < m.im.length) || decide ((256 : Int) < m.re.length))) = true
  · rw [if_pos a] at h; cases h
  · rw [if_neg a] at h
    by_cases b : (decide ((512 : Int) < m.co.length) || decide ((128 : Int) < m.da.length)) = true
    · rw [if_pos b] at h; cases h
    · simp at a b; omega
theorem fi_all' {α : Type} {p : α → Bool} {l : List α} (h : decide (0 ≤ fi p l) = false) : ∀ x ∈ l, p x = false := by
  unfold fi at h
  cases hf : l.findIdx? p with
  | none => exact List.findIdx?_eq_none_iff.1 hf
  | some j => rw [hf] at h; simp at h
theorem obj_fits {m : Mod} (h : (m.obj != 0) = false) : (∀ s ∈ m.nm :: m.ex, fits s) ∧ ∀ s ∈ m.im, fits s := by
  unfold Mod.obj at h
  cases a : (decide ((8 : Int) < m.ex.length) || (decide ((16 : Int) < m.im.length) || decide ((256 : Int) < m.re.length))) with
  | true => rw [a, if_pos rfl] at h; cases h
  | false =>
    rw [a, if_neg (by decide)] at h
    cases b : (decide ((512 : Int) < m.co.length) || decide ((128 : Int) < m.da.length)) with
    | true => rw [b, if_pos rfl] at h; cases h
    | false =>
      rw [b, if_neg (by decide)] at h
      cases q1 : longB m.nm || (decide (0 ≤ fi longB m.ex) || decide (0 ≤ fi longB m.im)) with
      | true => rw [q1, if_pos rfl] at h; cases h
      | false =>
        simp only [Bool.or_eq_false_iff] at q1
        obtain ⟨a, b, c⟩ := q1
        have lf : ∀ s, longB s = false → fits s := fun s hs => by unfold longB at hs; unfold fits; simp at hs; omega
        exact ⟨fun s hs => by rcases List.mem_cons.1 hs with rfl | hs; exact lf _ a; exact lf s (fi_all' b s hs), fun s hs => lf s (fi_all' c s hs)⟩
def Mod.chk (m : Mod) : Int := if m.flt.1 != 0 then 20 else 0
/-- May a module take another one's place? -/
def Mod.pat (m n : Mod) : Int := if m.ex = n.ex then 0 else 27
end Go.Abs
/- Names: what the references make. -/
namespace Go.Abs
set_option linter.unusedSimpArgs false
set_option linter.unusedVariables false
set_option maxHeartbeats 4000000
open Go.Proofs Go.Nm Go.RowKit Go.Lib
set_option linter.unusedVariables false
set_option maxRecDepth 8000
variable {H : Heap}
/-- The byte at a place. -/
abbrev by_ (s : ByteArray) (i : Nat) : Nat := (s.get! i).toNat
theorem by_lt (s : ByteArray) (i : Nat) : by_ s i < 256 := UInt8.toNat_lt _
theorem more_c {s : ByteArray} {i : Nat} (hf : fits s) : AC Tryd.prog 92 [.s (.string s), .s (.int .i64 i)] H (fun r H' => r = .s (.bool (decide (i < s.size) && decide (by_ s i / 64 = 2))) ∧ H' = H) := by
  refine AC.body Tryd.func92 rfl rfl (n := 16) (res := [.tmp 4]) rfl rfl (by simp) ?_
  simp only [ent]
  by_cases h : i < s.size
  · have h1 : (i : Int) < s.size := by omega
    have h8 := by_lt s i
    have e1 := u8_and192 ((by_ s i : Nat) : Int) (by omega) (by omega)
    have e2 : (((by_ s i : Nat) : Int) / 64 * 64 == 128) = decide (by_ s i / 64 = 2) := by rw [Bool.eq_iff_iff]; simp; omega
    have e3 : decide (i < s.size) = true := by simpa using h
    (repeat' (first | refine wk ?_ | refine wk2 ?_ ?_ | with_reducible refine wkF fun _ _ _ => ?_ | with_reducible intro _ | exact ag | fail))
    exact fin0
  · have h1 : decide ((i : Int) < s.size) = false := by simp; omega
    have e3 : decide (i < s.size) = false := by simpa using h
    clear h
    (repeat' (first | refine wk ?_ | refine wk2 ?_ ?_ | with_reducible refine wkF fun _ _ _ => ?_ | with_reducible intro _ | exact ag | fail))
    exact fin0
theorem more1 {s : ByteArray} {i : Nat} {k : Int} (hk : ((i : Nat) : Int) = k) (hf : fits s) {b : Bool} (hb : (decide (i < s.size) && decide (by_ s i / 64 = 2)) = b) (H : Heap) : AC Tryd.prog 92 [.s (.string s), .s (.int .i64 k)] H (fun r H' => r = .s (.bool b) ∧ H' = H) := by
  subst hk hb; exact more_c hf
theorem cast_ {x : Nat} (h : x < 256) : IntKind.i64.wrap ((x : Nat) : Int) = ((x : Nat) : Int) := wi64 (by omega) (by omega)
theorem rv_of {s : ByteArray} {n k : Nat} (h : decodeN s.size (by_ s 0) (by_ s 1) (by_ s 2) (by_ s 3) = (n, k)) (hn : ¬ (k = 1 ∧ n = 65533)) : rv s 0 = n ∧ (Utf8.decode s 0).2 = k := by
  unfold rv; rw [decode_at]
  simp only [Nat.zero_add, Nat.sub_zero]
  rw [h, if_neg hn]; exact ⟨rfl, rfl⟩
theorem rv_bad {s : ByteArray} (h : decodeN s.size (by_ s 0) (by_ s 1) (by_ s 2) (by_ s 3) = (65533, 1)) : rv s 0 = -1 ∧ (Utf8.decode s 0).2 = 1 := by
  unfold rv; rw [decode_at]
  simp only [Nat.zero_add, Nat.sub_zero]
  rw [h]; exact ⟨rfl, rfl⟩
theorem s6 {x : Int} (h0 : 0 ≤ x) (h1 : x < 1000000) : shlK .i64 x 6 = x * 64 := by unfold shlK; rw [show min (6 : Int).toNat IntKind.i64.bits = 6 from rfl, wi64 (by omega) (by omega)]; rfl
theorem s12 {x : Int} (h0 : 0 ≤ x) (h1 : x < 1000000) : shlK .i64 x 12 = x * 4096 := by unfold shlK; rw [show min (12 : Int).toNat IntKind.i64.bits = 12 from rfl, wi64 (by omega) (by omega)]; rfl
theorem s18 {x : Int} (h0 : 0 ≤ x) (h1 : x < 1000000) : shlK .i64 x 18 = x * 262144 := by unfold shlK; rw [show min (18 : Int).toNat IntKind.i64.bits = 18 from rfl, wi64 (by omega) (by omega)]; rfl
theorem v2 {x y : Nat} (hx : x < 256) (hy : y < 64) : Go.bits .or .i64 (shlK .i64 (Go.bits .and .i64 (x : Int) 31) 6) (y : Int) = ((x % 32 * 64 + y : Nat) : Int) := by
  rw [i64_and31 _ (by omega) (by omega), s6 (by omega) (by omega), i64_or6 ((x : Int) % 32 * 64) y (by omega) (by omega) (by omega) (by omega) (by omega)]; simp
theorem v3 {x y z : Nat} (hx : x < 256) (hy : y < 64) (hz : z < 64) : Go.bits .or .i64 (Go.bits .or .i64 (shlK .i64 (Go.bits .and .i64 (x : Int) 15) 12) (shlK .i64 (y : Int) 6)) (z : Int) = ((x % 16 * 4096 + y * 64 + z : Nat) : Int) := by
  rw [i64_and15 _ (by omega) (by omega), s12 (by omega) (by omega), s6 (by omega) (by omega), i64_or12 ((x : Int) % 16 * 4096) ((y : Int) * 64) (by omega) (by omega) (by omega) (by omega) (by omega), i64_or6 ((x : Int) % 16 * 4096 + y * 64) z (by omega) (by omega) (by omega) (by omega) (by omega)]; simp
theorem v4 {x y z u : Nat} (hx : x < 256) (hy : y < 64) (hz : z < 64) (hu : u < 64) : Go.bits .or .i64 (Go.bits .or .i64 (Go.bits .or .i64 (shlK .i64 (Go.bits .and .i64 (x : Int) 7) 18) (shlK .i64 (y : Int) 12)) (shlK .i64 (z : Int) 6)) (u : Int) = ((x % 8 * 262144 + y * 4096 + z * 64 + u : Nat) : Int) := by
  rw [i64_and7 _ (by omega) (by omega), s18 (by omega) (by omega), s12 (by omega) (by omega), s6 (by omega) (by omega), i64_or18 ((x : Int) % 8 * 262144) ((y : Int) * 4096) (by omega) (by omega) (by omega) (by omega) (by omega), i64_or12 ((x : Int) % 8 * 262144 + y * 4096) ((z : Int) * 64) (by omega) (by omega) (by omega) (by omega) (by omega), i64_or6 ((x : Int) % 8 * 262144 + y * 4096 + z * 64) u (by omega) (by omega) (by omega) (by omega) (by omega)]; simp
set_option maxHeartbeats 2000000 in
theorem one_c {s : ByteArray} (h : 0 < s.size) (hf : fits s) : AC Tryd.prog 87 [.s (.string s)] H (fun r H' => r = .tup [.s (.int .i64 (rv s 0)), .s (.int .i64 ((Utf8.decode s 0).2 : Nat))] ∧ H' = H) := by
  refine AC.body Tryd.func87 rfl rfl (n := 119) (res := [.tmp 2, .tmp 3]) rfl rfl (by simp) ?_
  simp only [ent]
  have r0 := by_lt s 0
  have r1 := by_lt s 1
  have r2 := by_lt s 2
  have r3 := by_lt s 3
  have hc := cast_ r0
  have bad := rv_bad (s := s)
  have good := fun n k => rv_of (s := s) (n := n) (k := k)
  have M1 := fun b hb => more1 (s := s) (i := 1) (k := 1) rfl hf (b := b) hb
  have M2 := fun b hb => more1 (s := s) (i := 2) (k := 2) rfl hf (b := b) hb
  have M3 := fun b hb => more1 (s := s) (i := 3) (k := 3) rfl hf (b := b) hb
  have X1 : 1 < s.size → IntKind.i64.wrap (Go.bits .and .u8 ((by_ s 1 : Nat) : Int) 63) = ((by_ s 1 % 64 : Nat) : Int) := fun _ => by rw [u8_and63 (x := ((by_ s 1 : Nat) : Int)) (by omega) (by omega), wi64 (by omega) (by omega)]; simp
  have X2 : IntKind.i64.wrap (Go.bits .and .u8 ((by_ s 2 : Nat) : Int) 63) = ((by_ s 2 % 64 : Nat) : Int) := by rw [u8_and63 (x := ((by_ s 2 : Nat) : Int)) (by omega) (by omega), wi64 (by omega) (by omega)]; simp
  have X3 : IntKind.i64.wrap (Go.bits .and .u8 ((by_ s 3 : Nat) : Int) 63) = ((by_ s 3 % 64 : Nat) : Int) := by rw [u8_and63 (x := ((by_ s 3 : Nat) : Int)) (by omega) (by omega), wi64 (by omega) (by omega)]; simp
  by_cases h128 : by_ s 0 < 128
  · obtain ⟨g1, g2⟩ := good (by_ s 0) 1 (by unfold decodeN; rw [if_pos h128]) (by omega)
    rw [g1, g2]
    have h1 : ((by_ s 0 : Nat) : Int) < 128 := by omega
    clear good bad M1 M2 M3 X1 g1 g2
    (repeat' (first | refine wk ?_ | refine wk2 ?_ ?_ | with_reducible refine wkF fun _ _ _ => ?_ | with_reducible intro _ | exact ag | fail))
    exact fin0
  have d128 : decide (((by_ s 0 : Nat) : Int) < 128) = false := by simp; omega
  by_cases h194 : by_ s 0 < 194
  · obtain ⟨g1, g2⟩ := bad (by
      unfold decodeN
      rw [if_neg h128]
      by_cases q : by_ s 0 / 32 = 6 ∧ (1 < s.size ∧ by_ s 1 / 64 = 2)
      · rw [if_pos q, if_neg (by omega)]
      · rw [if_neg q, if_neg (by omega), if_neg (by omega)])
    rw [g1, g2]
    have e1 : decide ((194 : Int) ≤ ((by_ s 0 : Nat) : Int)) = false := by simp; omega
    have e2 : decide ((224 : Int) ≤ ((by_ s 0 : Nat) : Int)) = false := by simp; omega
    have e3 : decide ((240 : Int) ≤ ((by_ s 0 : Nat) : Int)) = false := by simp; omega
    clear good bad M1 M2 M3 X1 g1 g2
    (repeat' (first | refine wk ?_ | refine wk2 ?_ ?_ | with_reducible refine wkF fun _ _ _ => ?_ | with_reducible intro _ | exact ag | fail))
    exact fin0
  have e194 : (194 : Int) ≤ ((by_ s 0 : Nat) : Int) := by omega
  by_cases h224 : by_ s 0 < 224
  · have e223 : ((by_ s 0 : Nat) : Int) ≤ 223 := by omega
    have e2 : decide ((224 : Int) ≤ ((by_ s 0 : Nat) : Int)) = false := by simp; omega
    have e3 : decide ((240 : Int) ≤ ((by_ s 0 : Nat) : Int)) = false := by simp; omega
    by_cases m1 : 1 < s.size ∧ by_ s 1 / 64 = 2
    · obtain ⟨g1, g2⟩ := good (by_ s 0 % 32 * 64 + by_ s 1 % 64) 2 (by unfold decodeN; rw [if_neg h128, if_pos ⟨by omega, m1⟩, if_pos (by omega)]) (by omega)
      rw [g1, g2]
      have M1 := M1 true (by simp [m1])
      have x1 := X1 m1.1
      have v1 : Go.bits .or .i64 (shlK .i64 (Go.bits .and .i64 ((by_ s 0 : Nat) : Int) 31) 6) ((by_ s 1 % 64 : Nat) : Int) = ((by_ s 0 % 32 * 64 + by_ s 1 % 64 : Nat) : Int) := v2 r0 (by omega)
      have m1' := m1.1
      clear good bad M2 M3 X1 X2 X3 g1 g2 m1
      (repeat' (first | refine wk ?_ | refine wk2 ?_ ?_ | with_reducible refine wkF fun _ _ _ => ?_ | with_reducible intro _ | refine Calling.eq (M1 _) ?_ | exact ag | fail))
      exact fin0
    · obtain ⟨g1, g2⟩ := bad (by unfold decodeN; rw [if_neg h128, if_neg (by omega), if_neg (by omega), if_neg (by omega)])
      rw [g1, g2]
      have M1 := M1 false (by
        rw [Bool.eq_false_iff]; intro q; simp only [Bool.and_eq_true, decide_eq_true_eq] at q; exact m1 q)
      clear good bad M2 M3 X1 X2 X3 g1 g2 m1
      (repeat' (first | refine wk ?_ | refine wk2 ?_ ?_ | with_reducible refine wkF fun _ _ _ => ?_ | with_reducible intro _ | refine Calling.eq (M1 _) ?_ | exact ag | fail))
      exact fin0
  have d223 : decide (((by_ s 0 : Nat) : Int) ≤ 223) = false := by simp; omega
  have e224 : (224 : Int) ≤ ((by_ s 0 : Nat) : Int) := by omega
  by_cases h240 : by_ s 0 < 240
  · have e239 : ((by_ s 0 : Nat) : Int) ≤ 239 := by omega
    have e3 : decide ((240 : Int) ≤ ((by_ s 0 : Nat) : Int)) = false := by simp; omega
    by_cases m1 : 1 < s.size ∧ by_ s 1 / 64 = 2
    · have M1 := M1 true (by simp [m1])
      by_cases m2 : 2 < s.size ∧ by_ s 2 / 64 = 2
      · have M2 := M2 true (by simp [m2])
        have x1 := X1 m1.1
        have v1 : Go.bits .or .i64 (Go.bits .or .i64 (shlK .i64 (Go.bits .and .i64 ((by_ s 0 : Nat) : Int) 15) 12) (shlK .i64 ((by_ s 1 % 64 : Nat) : Int) 6)) ((by_ s 2 % 64 : Nat) : Int) = ((by_ s 0 % 16 * 4096 + by_ s 1 % 64 * 64 + by_ s 2 % 64 : Nat) : Int) := v3 r0 (by omega) (by omega)
        have hd : decodeN s.size (by_ s 0) (by_ s 1) (by_ s 2) (by_ s 3) = if by_ s 0 % 16 * 4096 + by_ s 1 % 64 * 64 + by_ s 2 % 64 ≥ 2048 ∧ (by_ s 0 % 16 * 4096 + by_ s 1 % 64 * 64 + by_ s 2 % 64 < 55296 ∨ (57344 ≤ by_ s 0 % 16 * 4096 + by_ s 1 % 64 * 64 + by_ s 2 % 64 ∧ by_ s 0 % 16 * 4096 + by_ s 1 % 64 * 64 + by_ s 2 % 64 ≤ 1114111)) then (by_ s 0 % 16 * 4096 + by_ s 1 % 64 * 64 + by_ s 2 % 64, 3) else (65533, 1) := by
          unfold decodeN
          rw [if_neg h128, if_neg (by omega), if_pos ⟨by omega, m1, m2⟩]
        have m1' := m1.1
        have m2' := m2.1
        clear M3 X1 m1 m2
        have hlt : by_ s 0 % 16 * 4096 + by_ s 1 % 64 * 64 + by_ s 2 % 64 < 65536 := by omega
        generalize by_ s 0 % 16 * 4096 + by_ s 1 % 64 * 64 + by_ s 2 % 64 = N at *
        by_cases q : 2048 ≤ N ∧ (N < 55296 ∨ 57344 ≤ N)
        · obtain ⟨g1, g2⟩ := good N 3 (by rw [hd, if_pos (by omega)]) (by omega)
          rw [g1, g2]
          have q1 : (2048 : Int) ≤ (N : Int) := by omega
          by_cases q2 : N < 55296
          · have q2' : (N : Int) < 55296 := by omega
            clear good bad g1 g2 hd q q2
            (repeat' (first | refine wk ?_ | refine wk2 ?_ ?_ | with_reducible refine wkF fun _ _ _ => ?_ | with_reducible intro _ | refine Calling.eq (M1 _) ?_ | refine Calling.eq (M2 _) ?_ | exact ag | fail))
            refine ARun.drawB mixed [([], [0, 1, 2, 3, 4, 5, 6, 7, 8, 9, 10, 11, 12, 13, 14], none)] (by kernel_rfl) (by rfl) ?_
            (repeat' (first | refine wk ?_ | refine wk2 ?_ ?_ | with_reducible refine wkF fun _ _ _ => ?_ | with_reducible intro _ | exact ag | fail))
            exact fin0
          · have q2' : decide ((N : Int) < 55296) = false := by simp; omega
            have q3' : (57343 : Int) < (N : Int) := by omega
            clear good bad g1 g2 hd q q2
            (repeat' (first | refine wk ?_ | refine wk2 ?_ ?_ | with_reducible refine wkF fun _ _ _ => ?_ | with_reducible intro _ | refine Calling.eq (M1 _) ?_ | refine Calling.eq (M2 _) ?_ | exact ag | fail))
            refine ARun.drawB mixed [([], [0, 1, 2, 3, 4, 5, 6, 7, 8, 9, 10, 11, 12, 13, 14], none)] (by kernel_rfl) (by rfl) ?_
            (repeat' (first | refine wk ?_ | refine wk2 ?_ ?_ | with_reducible refine wkF fun _ _ _ => ?_ | with_reducible intro _ | exact ag | fail))
            exact fin0
        · obtain ⟨g1, g2⟩ := bad (by rw [hd, if_neg (by omega)])
          rw [g1, g2]
          by_cases q1 : 2048 ≤ N
          · have q1' : (2048 : Int) ≤ (N : Int) := by omega
            have q2' : decide ((N : Int) < 55296) = false := by simp; omega
            have q3' : decide ((57343 : Int) < (N : Int)) = false := by simp; omega
            clear good bad g1 g2 hd q q1
            (repeat' (first | refine wk ?_ | refine wk2 ?_ ?_ | with_reducible refine wkF fun _ _ _ => ?_ | with_reducible intro _ | refine Calling.eq (M1 _) ?_ | refine Calling.eq (M2 _) ?_ | exact ag | fail))
            refine ARun.drawB mixed [([], [0, 1, 2, 3, 4, 5, 6, 7, 8, 9, 10, 11, 12, 13, 14], none)] (by kernel_rfl) (by rfl) ?_
            (repeat' (first | refine wk ?_ | refine wk2 ?_ ?_ | with_reducible refine wkF fun _ _ _ => ?_ | with_reducible intro _ | exact ag | fail))
            exact fin0
          · have q1' : decide ((2048 : Int) ≤ (N : Int)) = false := by simp; omega
            clear good bad g1 g2 hd q q1
            (repeat' (first | refine wk ?_ | refine wk2 ?_ ?_ | with_reducible refine wkF fun _ _ _ => ?_ | with_reducible intro _ | refine Calling.eq (M1 _) ?_ | refine Calling.eq (M2 _) ?_ | exact ag | fail))
            refine ARun.drawB mixed [([], [0, 1, 2, 3, 4, 5, 6, 7, 8, 9, 10, 11, 12, 13, 14], none)] (by kernel_rfl) (by rfl) ?_
            (repeat' (first | refine wk ?_ | refine wk2 ?_ ?_ | with_reducible refine wkF fun _ _ _ => ?_ | with_reducible intro _ | exact ag | fail))
            exact fin0
      · obtain ⟨g1, g2⟩ := bad (by unfold decodeN; rw [if_neg h128, if_neg (by omega), if_neg (by omega), if_neg (by omega)])
        rw [g1, g2]
        have M2 := M2 false (by
          rw [Bool.eq_false_iff]; intro q; simp only [Bool.and_eq_true, decide_eq_true_eq] at q; exact m2 q)
        clear good bad M3 X1 X2 X3 g1 g2 m1 m2
        (repeat' (first | refine wk ?_ | refine wk2 ?_ ?_ | with_reducible refine wkF fun _ _ _ => ?_ | with_reducible intro _ | refine Calling.eq (M1 _) ?_ | refine Calling.eq (M2 _) ?_ | exact ag | fail))
        exact fin0
    · obtain ⟨g1, g2⟩ := bad (by unfold decodeN; rw [if_neg h128, if_neg (by omega), if_neg (by omega), if_neg (by omega)])
      rw [g1, g2]
      have M1 := M1 false (by
        rw [Bool.eq_false_iff]; intro q; simp only [Bool.and_eq_true, decide_eq_true_eq] at q; exact m1 q)
      clear good bad M2 M3 X1 X2 X3 g1 g2 m1
      (repeat' (first | refine wk ?_ | refine wk2 ?_ ?_ | with_reducible refine wkF fun _ _ _ => ?_ | with_reducible intro _ | refine Calling.eq (M1 _) ?_ | exact ag | fail))
      exact fin0
  have d239 : decide (((by_ s 0 : Nat) : Int) ≤ 239) = false := by simp; omega
  have e240 : (240 : Int) ≤ ((by_ s 0 : Nat) : Int) := by omega
  by_cases h244 : 244 < by_ s 0
  · obtain ⟨g1, g2⟩ := bad (by
      unfold decodeN
      rw [if_neg h128, if_neg (by omega), if_neg (by omega)]
      by_cases q : by_ s 0 / 8 = 30 ∧ (1 < s.size ∧ by_ s 1 / 64 = 2) ∧ (2 < s.size ∧ by_ s 2 / 64 = 2) ∧ (3 < s.size ∧ by_ s 3 / 64 = 2)
      · rw [if_pos q, if_neg (by omega)]
      · rw [if_neg q])
    rw [g1, g2]
    have d244 : decide (((by_ s 0 : Nat) : Int) ≤ 244) = false := by simp; omega
    clear good bad M1 M2 M3 X1 X2 X3 g1 g2
    (repeat' (first | refine wk ?_ | refine wk2 ?_ ?_ | with_reducible refine wkF fun _ _ _ => ?_ | with_reducible intro _ | exact ag | fail))
    exact fin0
  have e244 : ((by_ s 0 : Nat) : Int) ≤ 244 := by omega
  by_cases m1 : 1 < s.size ∧ by_ s 1 / 64 = 2
  · have M1 := M1 true (by simp [m1])
    by_cases m2 : 2 < s.size ∧ by_ s 2 / 64 = 2
    · have M2 := M2 true (by simp [m2])
      by_cases m3 : 3 < s.size ∧ by_ s 3 / 64 = 2
      · have M3 := M3 true (by simp [m3])
        have x1 := X1 m1.1
        have v1 : Go.bits .or .i64 (Go.bits .or .i64 (Go.bits .or .i64 (shlK .i64 (Go.bits .and .i64 ((by_ s 0 : Nat) : Int) 7) 18) (shlK .i64 ((by_ s 1 % 64 : Nat) : Int) 12)) (shlK .i64 ((by_ s 2 % 64 : Nat) : Int) 6)) ((by_ s 3 % 64 : Nat) : Int) = ((by_ s 0 % 8 * 262144 + by_ s 1 % 64 * 4096 + by_ s 2 % 64 * 64 + by_ s 3 % 64 : Nat) : Int) := v4 r0 (by omega) (by omega) (by omega)
        have hd : decodeN s.size (by_ s 0) (by_ s 1) (by_ s 2) (by_ s 3) = if by_ s 0 % 8 * 262144 + by_ s 1 % 64 * 4096 + by_ s 2 % 64 * 64 + by_ s 3 % 64 ≥ 65536 ∧ (by_ s 0 % 8 * 262144 + by_ s 1 % 64 * 4096 + by_ s 2 % 64 * 64 + by_ s 3 % 64 < 55296 ∨ (57344 ≤ by_ s 0 % 8 * 262144 + by_ s 1 % 64 * 4096 + by_ s 2 % 64 * 64 + by_ s 3 % 64 ∧ by_ s 0 % 8 * 262144 + by_ s 1 % 64 * 4096 + by_ s 2 % 64 * 64 + by_ s 3 % 64 ≤ 1114111)) then (by_ s 0 % 8 * 262144 + by_ s 1 % 64 * 4096 + by_ s 2 % 64 * 64 + by_ s 3 % 64, 4) else (65533, 1) := by
          unfold decodeN
          rw [if_neg h128, if_neg (by omega), if_neg (by omega), if_pos ⟨by omega, m1, m2, m3⟩]
        have m1' := m1.1
        have m2' := m2.1
        have m3' := m3.1
        clear X1 m1 m2 m3
        generalize by_ s 0 % 8 * 262144 + by_ s 1 % 64 * 4096 + by_ s 2 % 64 * 64 + by_ s 3 % 64 = N at *
        by_cases q : 65536 ≤ N
        · have q1 : (65536 : Int) ≤ (N : Int) := by omega
          by_cases q2 : N ≤ 1114111
          · obtain ⟨g1, g2⟩ := good N 4 (by rw [hd, if_pos (by omega)]) (by omega)
            rw [g1, g2]
            have q2' : (N : Int) ≤ 1114111 := by omega
            clear good bad g1 g2 hd q q2
            (repeat' (first | refine wk ?_ | refine wk2 ?_ ?_ | with_reducible refine wkF fun _ _ _ => ?_ | with_reducible intro _ | refine Calling.eq (M1 _) ?_ | refine Calling.eq (M2 _) ?_ | refine Calling.eq (M3 _) ?_ | exact ag | fail))
            refine ARun.drawB mixed [([], [0, 1, 2, 3, 4, 5, 6, 7, 8, 9, 10, 11, 12, 13, 14, 15, 16, 17, 18, 19, 20], none)] (by kernel_rfl) (by rfl) ?_
            (repeat' (first | refine wk ?_ | refine wk2 ?_ ?_ | with_reducible refine wkF fun _ _ _ => ?_ | with_reducible intro _ | exact ag | fail))
            exact fin0
          · obtain ⟨g1, g2⟩ := bad (by rw [hd, if_neg (by omega)])
            rw [g1, g2]
            have q2' : decide ((N : Int) ≤ 1114111) = false := by simp; omega
            clear good bad g1 g2 hd q q2
            (repeat' (first | refine wk ?_ | refine wk2 ?_ ?_ | with_reducible refine wkF fun _ _ _ => ?_ | with_reducible intro _ | refine Calling.eq (M1 _) ?_ | refine Calling.eq (M2 _) ?_ | refine Calling.eq (M3 _) ?_ | exact ag | fail))
            refine ARun.drawB mixed [([], [0, 1, 2, 3, 4, 5, 6, 7, 8, 9, 10, 11, 12, 13, 14, 15, 16, 17, 18, 19, 20], none)] (by kernel_rfl) (by rfl) ?_
            (repeat' (first | refine wk ?_ | refine wk2 ?_ ?_ | with_reducible refine wkF fun _ _ _ => ?_ | with_reducible intro _ | exact ag | fail))
            exact fin0
        · obtain ⟨g1, g2⟩ := bad (by rw [hd, if_neg (by omega)])
          rw [g1, g2]
          have q1 : decide ((65536 : Int) ≤ (N : Int)) = false := by simp; omega
          clear good bad g1 g2 hd q
          (repeat' (first | refine wk ?_ | refine wk2 ?_ ?_ | with_reducible refine wkF fun _ _ _ => ?_ | with_reducible intro _ | refine Calling.eq (M1 _) ?_ | refine Calling.eq (M2 _) ?_ | refine Calling.eq (M3 _) ?_ | exact ag | fail))
          refine ARun.drawB mixed [([], [0, 1, 2, 3, 4, 5, 6, 7, 8, 9, 10, 11, 12, 13, 14, 15, 16, 17, 18, 19, 20], none)] (by kernel_rfl) (by rfl) ?_
          (repeat' (first | refine wk ?_ | refine wk2 ?_ ?_ | with_reducible refine wkF fun _ _ _ => ?_ | with_reducible intro _ | exact ag | fail))
          exact fin0
      · obtain ⟨g1, g2⟩ := bad (by unfold decodeN; rw [if_neg h128, if_neg (by omega), if_neg (by omega), if_neg (by omega)])
        rw [g1, g2]
        have M3 := M3 false (by
          rw [Bool.eq_false_iff]; intro q; simp only [Bool.and_eq_true, decide_eq_true_eq] at q; exact m3 q)
        clear good bad X1 X2 X3 g1 g2 m1 m2 m3
        (repeat' (first | refine wk ?_ | refine wk2 ?_ ?_ | with_reducible refine wkF fun _ _ _ => ?_ | with_reducible intro _ | refine Calling.eq (M1 _) ?_ | refine Calling.eq (M2 _) ?_ | refine Calling.eq (M3 _) ?_ | exact ag | fail))
        exact fin0
    · obtain ⟨g1, g2⟩ := bad (by unfold decodeN; rw [if_neg h128, if_neg (by omega), if_neg (by omega), if_neg (by omega)])
      rw [g1, g2]
      have M2 := M2 false (by
        rw [Bool.eq_false_iff]; intro q; simp only [Bool.and_eq_true, decide_eq_true_eq] at q; exact m2 q)
      clear good bad M3 X1 X2 X3 g1 g2 m1 m2
      (repeat' (first | refine wk ?_ | refine wk2 ?_ ?_ | with_reducible refine wkF fun _ _ _ => ?_ | with_reducible intro _ | refine Calling.eq (M1 _) ?_ | refine Calling.eq (M2 _) ?_ | exact ag | fail))
      exact fin0
  · obtain ⟨g1, g2⟩ := bad (by unfold decodeN; rw [if_neg h128, if_neg (by omega), if_neg (by omega), if_neg (by omega)])
    rw [g1, g2]
    have M1 := M1 false (by
      rw [Bool.eq_false_iff]; intro q; simp only [Bool.and_eq_true, decide_eq_true_eq] at q; exact m1 q)
    clear good bad M2 M3 X1 X2 X3 g1 g2 m1
    (repeat' (first | refine wk ?_ | refine wk2 ?_ ?_ | with_reducible refine wkF fun _ _ _ => ?_ | with_reducible intro _ | refine Calling.eq (M1 _) ?_ | exact ag | fail))
    exact fin0
end Go.Abs
/- Names: lists of runes and checks, as the references do. -/
namespace Go.Abs
set_option linter.unusedSimpArgs false
set_option linter.unusedVariables false
set_option maxHeartbeats 4000000
open Go.Proofs Go.Nm Go.RowKit Go.Lib
set_option linter.unusedVariables false
set_option maxRecDepth 8000
variable {H : Heap}
theorem rletter_c {r : Int} : AC Tryd.prog 81 [.s (.int .i64 r)] H (fun x H' => x = .s (.bool (letR r)) ∧ H' = H) := by
  refine AC.body Tryd.func81 rfl rfl (n := 21) (res := [.tmp 2]) rfl rfl (by simp) ?_
  simp only [ent]
  (repeat' (first | refine wk ?_ | refine wk2 ?_ ?_ | with_reducible refine wkF fun _ _ _ => ?_ | with_reducible intro _ | exact ag | fail))
  all_goals
    refine fin1 ⟨?_, rfl⟩
    simp only [resV, letR]
    simp_all <;> omega
theorem rdigit_c {r : Int} : AC Tryd.prog 82 [.s (.int .i64 r)] H (fun x H' => x = .s (.bool (digR r)) ∧ H' = H) := by
  refine AC.body Tryd.func82 rfl rfl (n := 9) (res := [.tmp 2]) rfl rfl (by simp) ?_
  simp only [ent]
  (repeat' (first | refine wk ?_ | refine wk2 ?_ ?_ | with_reducible refine wkF fun _ _ _ => ?_ | with_reducible intro _ | exact ag | fail))
  all_goals
    refine fin1 ⟨?_, rfl⟩
    simp only [resV, digR]
    simp_all <;> omega
/-- A number, as a row's element. -/
def i1 (x : Int) : List TV := [.s (.int .i64 x)]
theorem each_i1 (l : List Int) : Each 1 (l.map i1) := fun e he => by obtain ⟨x, _, rfl⟩ := List.mem_map.1 he; rfl
/-- A text that is short enough for a list of its runes. -/
def few (s : ByteArray) : Prop := s.size < 4398046511104
theorem few.fits {s : ByteArray} (h : few s) : fits s := Nat.lt_trans h (by decide)
theorem rlist_c {s : ByteArray} (hf : few s) : AC Tryd.prog 80 [.s (.string s)] H (fun r H' => r = .vs 1 ((rlist s).map i1) ∧ H' = H) := by
  refine AC.body Tryd.func80 rfl rfl (n := 22) (res := [.tmp 2]) rfl rfl (by simp) ?_
  simp only [ent]
  have hz : s.size < 4398046511104 := hf
  (repeat' (first | refine wk ?_ | refine wk2 ?_ ?_ | with_reducible refine wkF fun _ _ _ => ?_ | with_reducible intro _ | exact ag | fail))
  refine ARun.rounds (fun st : Nat × Nat × List Int × Nat => ⟨[(0, .s (.string (s.extract st.2.1 s.size))), (3, ownT st.2.2.2 1 (st.2.2.1.map i1))], ownH H st.2.2.2 (st.2.2.1.map i1)⟩) (fun st => st.1)
    (fun st => st.2.1 ≤ s.size ∧ s.size ≤ st.2.1 + st.1 ∧ st.2.2.1 ++ rl s st.1 st.2.1 = rlist s ∧ st.2.2.1.length + st.1 ≤ s.size ∧ (st.2.2.1.map i1 ≠ [] → H st.2.2.2 = none)) ?_ (s.size, 0, [], 0) ⟨by simp, by simp, rfl, by simp, fun h => absurd rfl h⟩ ?_
  · rintro ⟨f, p, L, b⟩ ⟨hp, hfu, hr, hlen, hb⟩ next
    simp only [] at hp hfu hr hlen hb ⊢
    have hsz := ex_size s p s.size (Nat.le_refl _)
    by_cases hlt : p < s.size
    · obtain ⟨f, rfl⟩ : ∃ g, f = g + 1 := ⟨f - 1, by omega⟩
      rw [rl, if_pos hlt] at hr
      have hw := Nm.width_pos s p
      have hwl := width_le s p hlt
      have O := fun H => one_c (H := H) (s := s.extract p s.size) (by omega) (by unfold fits; omega)
      rw [rv_ex s p hp, decode_ex s p hp] at O
      have h1 : (0 : Int) < ((s.size - p : Nat) : Int) := by omega
      have h2 : (0 : Int) ≤ ((Utf8.decode s p).2 : Int) := by omega
      have h3 : ((Utf8.decode s p).2 : Int) ≤ ((s.size - p : Nat) : Int) := by omega
      have hx := ex_ex s p (Utf8.decode s p).2
      rw [hsz] at hx
      replace hb := later hb
      replace hr := later hr
      (repeat' (first | refine wk ?_ | refine wk2 ?_ ?_ | with_reducible refine wkF fun _ _ _ => ?_ | with_reducible intro _ | refine Calling.eq (O _) ?_ | refine Doing.fresh (oc_build1 ap109 (fun _ h => by cases h; rfl) rfl rfl (by decide) (by decide)) fun _ _ _ => ?_ | refine Doing.fresh (oc_append1 (e := i1 (rv s p)) ap109 us109 (each_i1 L) rfl rfl hb.go (by assumption) (by simp; omega) (by simp; omega)) fun _ _ _ => ?_ | exact ag | fail))
      rename_i b' hb' _
      refine ARun.weaken (next.go (f, p + (Utf8.decode s p).2, L ++ [rv s p], b') ⟨by simp only []; omega, by simp only []; omega, by simp only []; rw [← hr.go]; simp, by simp; omega, fun _ => hb'⟩ (by simp only []; omega)) ?_
      simp only [List.map_append, List.map_cons, List.map_nil]
      exact leK (Sub.refl _)
    · have h0 : decide ((0 : Int) < ((s.size - p : Nat) : Int)) = false := by simp; omega
      have hrl : rl s f p = [] := by unfold rl; split <;> simp_all
      rw [hrl, List.append_nil] at hr
      rw [← hr]
      clear hr next
      replace hb := later hb
      (repeat' (first | refine wk ?_ | refine wk2 ?_ ?_ | with_reducible refine wkF fun _ _ _ => ?_ | with_reducible intro _ | exact ag | fail))
      have hown : L.map i1 = [] ∨ ownH H b (L.map i1) b = some (.cells (L.map i1).flatten) := by
        by_cases q : L.map i1 = []
        · exact .inl q
        · exact .inr (ownH_at q)
      by_cases q : L.map i1 = []
      · rw [q]
        exact Fin.done (vs := [.nils]) ag (Sub.refl _) conv_nils ⟨rfl, rfl⟩
      · exact Fin.done (vs := [ownT b 1 (L.map i1)]) ag (Sub.own (Sub.refl _) (hb.go q)) (conv_own (Sub.own (Sub.refl _) (hb.go q)) (.inr (ownH_at q)) (hb.go q) (each_i1 _)) ⟨rfl, rfl⟩
  · simp only [ex_all, List.map_nil, ownT_nil, ownH_nil]
    exact leK (Sub.refl _)
theorem rl_len (s : ByteArray) : (rlist s).length ≤ s.size := rl_length s s.size 0
theorem rRunes_c {s : ByteArray} (hf : few s) : AC Tryd.prog 70 [.s (.string s)] H (fun r H' => r = .s (.int .i64 (runes s)) ∧ H' = H) := by
  refine AC.body Tryd.func70 rfl rfl (n := 6) (res := [.tmp 2]) rfl rfl (by simp) ?_
  simp only [ent]
  have hz : s.size < 4398046511104 := hf
  have hr : runes s = (((rlist s).map i1).length : Int) := by rw [List.length_map]; exact runes_rl s (by omega)
  rw [hr]
  (repeat' (first | refine wk ?_ | refine wk2 ?_ ?_ | with_reducible refine wkF fun _ _ _ => ?_ | with_reducible intro _ | refine Calling.eq (rlist_c hf) ?_ | exact ag | fail))
  exact fin0
theorem get_i1 {l : List Int} {i : Nat} {x : Int} (h : l[i]? = some x) : (l.map i1)[i]? = some [.s (.int .i64 x)] := by rw [List.getElem?_map, h]; rfl
theorem rstem_c {s : ByteArray} (hf : few s) : AC Tryd.prog 68 [.s (.string s)] H (fun r H' => r = .s (.bool (stem s)) ∧ H' = H) := by
  refine AC.body Tryd.func68 rfl rfl (n := 44) (res := [.tmp 2]) rfl rfl (by simp) ?_
  simp only [ent]
  have hz : s.size < 4398046511104 := hf
  have hl := rl_len s
  have C := fun H => rlist_c (H := H) hf
  rw [stem_rl]
  generalize rlist s = l at hl C
  obtain ⟨es, hes, hlen, hget⟩ : ∃ es : List (List TV), l.map i1 = es ∧ es.length = l.length ∧ ∀ (i : Nat) (x : Int), l[i]? = some x → es[i]? = some [.s (.int .i64 x)] := ⟨_, rfl, List.length_map _, fun i x h => get_i1 h⟩
  rw [hes] at C
  clear hes
  cases l with
  | nil =>
    simp only [stemL]
    clear hget
    (repeat' (first | refine wk ?_ | refine wk2 ?_ ?_ | with_reducible refine wkF fun _ _ _ => ?_ | with_reducible intro _ | refine Calling.eq (C _) ?_ | exact ag | fail))
    exact fin0
  | cons c t =>
    have h0 : (((t.length + 1 : Nat) : Int) == 0) = false := by simp; omega
    have hg := hget 0 c rfl
    replace hget := later hget
    cases hc : letR c with
    | false =>
      simp only [stemL, hc, Bool.false_and]
      (repeat' (first | refine wk ?_ | refine wk2 ?_ ?_ | with_reducible refine wkF fun _ _ _ => ?_ | with_reducible intro _ | refine Calling.eq (C _) ?_ | refine Calling.eq (rletter_c) ?_ | exact ag | fail))
      exact fin0
    | true =>
      simp only [stemL, hc, Bool.true_and]
      (repeat' (first | refine wk ?_ | refine wk2 ?_ ?_ | with_reducible refine wkF fun _ _ _ => ?_ | with_reducible intro _ | refine Calling.eq (C _) ?_ | refine Calling.eq (rletter_c) ?_ | exact ag | fail))
      refine ARun.rounds (fun i : Nat => ⟨[(3, .vs 1 es), (4, .s (.int .i64 ((i + 1 : Nat) : Int)))], H⟩) (fun i => t.length - i) (fun i => i ≤ t.length ∧ (t.drop i).all okR = t.all okR) ?_ 0 ⟨by omega, rfl⟩ ?_
      · rintro i ⟨hi, hr⟩ next
        by_cases hlt : i < t.length
        · have hgt : (c :: t)[i + 1]? = some t[i] := by simp [hlt]
          have hg2 := hget.go _ _ hgt
          have h1 : ((i + 1 : Nat) : Int) < ((t.length + 1 : Nat) : Int) := by omega
          have hw := w64s (i := i + 1) (by simp at hl; omega)
          rw [List.drop_eq_getElem_cons hlt, List.all_cons] at hr
          replace hr := later hr
          clear hgt
          generalize t[i] = x at *
          have ho : okR x = (letR x || digR x || (x == 95)) := by unfold okR; rw [Bool.eq_iff_iff]; simp
          replace ho := later ho
          have h2 : (0 : Int) ≤ ((i + 1 : Nat) : Int) := by omega
          cases q1 : letR x <;> cases q2 : digR x <;> cases q3 : (x == 95)
          all_goals
            have ho := ho.go
            rw [q1, q2, q3] at ho
            have hr := hr.go
            rw [ho] at hr
            simp only [Bool.or_true, Bool.or_false, Bool.true_or, Bool.false_or, Bool.true_and, Bool.false_and] at hr
          case false.false.false =>
            rw [← hr]
            clear hr next
            have q4 : (x != 95) = true := by simp at q3 ⊢; exact q3
            (repeat' (first | refine wk ?_ | refine wk2 ?_ ?_ | with_reducible refine wkF fun _ _ _ => ?_ | with_reducible intro _ | refine Calling.eq (rletter_c) ?_ | refine Calling.eq (rdigit_c) ?_ | exact ag | fail))
            exact fin0
          all_goals
            replace hr := later hr
            clear ho
            have q4 : (x != 95) = !(x == 95) := rfl
            rw [q3] at q4
            (repeat' (first | refine wk ?_ | refine wk2 ?_ ?_ | with_reducible refine wkF fun _ _ _ => ?_ | with_reducible intro _ | refine Calling.eq (rletter_c) ?_ | refine Calling.eq (rdigit_c) ?_ | exact ag | fail))
            exact ARun.weaken (next.go (i + 1) ⟨by omega, hr.go⟩ (by omega)) (leK (Sub.refl _))
        · have h1 : decide (((i + 1 : Nat) : Int) < ((t.length + 1 : Nat) : Int)) = false := by simp; omega
          rw [List.drop_of_length_le (by omega)] at hr
          rw [← hr]
          clear hr next
          (repeat' (first | refine wk ?_ | refine wk2 ?_ ?_ | with_reducible refine wkF fun _ _ _ => ?_ | with_reducible intro _ | exact ag | fail))
          exact fin0
      · exact leK (Sub.refl _)
theorem rparts_c {s : ByteArray} (hf : fits s) : AC Tryd.prog 67 [.s (.string s)] H (fun r H' => r = .tup [.s (.string (Nm.cutA s)), .s (.string (cutB s)), .s (.bool (Nm.has s))] ∧ H' = H) := by
  refine AC.body Tryd.func67 rfl rfl (n := 24) (res := [.tmp 2, .tmp 3, .tmp 4]) rfl rfl (by simp) ?_
  simp only [ent]
  unfold fits at hf
  have hsp := later (at_spec s)
  (repeat' (first | refine wk ?_ | refine wk2 ?_ ?_ | with_reducible refine wkF fun _ _ _ => ?_ | with_reducible intro _ | exact ag | fail))
  refine ARun.rounds (fun i : Nat => ⟨[(0, .s (.string s)), (5, .s (.int .i64 i))], H⟩) (fun i => s.size - i) (fun i => i ≤ s.size ∧ ∀ j, j < i → by_ s j ≠ 64) ?_ 0 ⟨by omega, fun j h => by omega⟩ ?_
  · rintro i ⟨hi, hno⟩ next
    replace hno := later hno
    by_cases hlt : i < s.size
    · have h1 : (i : Int) < s.size := by omega
      have hw := w64s (i := i) (by omega)
      by_cases h64 : by_ s i = 64
      · have h2 : (((by_ s i : Nat) : Int) == 64) = true := by simp; omega
        rcases hsp.go with ⟨_, _, _, g⟩ | ⟨j, hj, g1, g2, g3, g4, g5⟩
        · exact absurd h64 (g i hlt)
        · have e : j = i := by
            rcases Nat.lt_trichotomy j i with h | h | h
            · exact absurd g4 (hno.go j h)
            · exact h
            · exact absurd h64 (g5 i h)
          subst e
          rw [g1, g2, g3]
          have h3 : (0 : Int) ≤ j := by omega
          have h4 : (j : Int) ≤ s.size := by omega
          have h5 : ((j + 1 : Nat) : Int) ≤ s.size := by omega
          have h6 : (0 : Int) ≤ ((j + 1 : Nat) : Int) := by omega
          clear g1 g2 g3 g4 g5 h64 next
          (repeat' (first | refine wk ?_ | refine wk2 ?_ ?_ | with_reducible refine wkF fun _ _ _ => ?_ | with_reducible intro _ | exact ag | fail))
          refine ARun.drawB mixed [([], [0, 1, 2, 3, 4, 5, 6, 7, 8, 9], none)] (by kernel_rfl) (by rfl) ?_
          (repeat' (first | refine wk ?_ | refine wk2 ?_ ?_ | with_reducible refine wkF fun _ _ _ => ?_ | with_reducible intro _ | exact ag | fail))
          exact fin0
      · have h2 : (((by_ s i : Nat) : Int) == 64) = false := by simp; omega
        replace h64 := later h64
        (repeat' (first | refine wk ?_ | refine wk2 ?_ ?_ | with_reducible refine wkF fun _ _ _ => ?_ | with_reducible intro _ | exact ag | fail))
        exact ARun.weaken (next.go (i + 1) ⟨by omega, fun j hj => by
          rcases Nat.lt_or_ge j i with h | h
          · exact hno.go j h
          · rw [show j = i by omega]; exact h64.go⟩ (by omega)) (leK (Sub.refl _))
    · have h1 : decide ((i : Int) < s.size) = false := by simp; omega
      rcases hsp.go with ⟨g1, g2, g3, _⟩ | ⟨j, hj, _, _, _, g4, _⟩
      · rw [g1, g2, g3]
        clear g1 g2 g3 next
        (repeat' (first | refine wk ?_ | refine wk2 ?_ ?_ | with_reducible refine wkF fun _ _ _ => ?_ | with_reducible intro _ | exact ag | fail))
        exact fin0
      · exact absurd g4 (hno.go j (by omega))
  · exact leK (Sub.refl _)
theorem rversion_c {s : ByteArray} (hf : fits s) : AC Tryd.prog 69 [.s (.string s)] H (fun r H' => r = .s (.int .i64 (ver s)) ∧ H' = H) := by
  refine AC.body Tryd.func69 rfl rfl (n := 39) (res := [.tmp 2]) rfl rfl (by simp) ?_
  simp only [ent]
  by_cases hz : s.size < 1
  · have h0 : (s.size : Int) < 1 := by omega
    have hv : ver s = 0 := by unfold ver; rw [if_pos (by omega)]
    rw [hv]
    (repeat' (first | refine wk ?_ | refine wk2 ?_ ?_ | with_reducible refine wkF fun _ _ _ => ?_ | with_reducible intro _ | exact ag | fail))
    exact fin0
  have h0 : decide ((s.size : Int) < 1) = false := by simp; omega
  by_cases h3 : 3 < s.size
  · have h3' : (3 : Int) < s.size := by omega
    have hv : ver s = 0 := by unfold ver; rw [if_pos (.inr (.inl h3))]
    rw [hv]
    (repeat' (first | refine wk ?_ | refine wk2 ?_ ?_ | with_reducible refine wkF fun _ _ _ => ?_ | with_reducible intro _ | exact ag | fail))
    exact fin0
  have h3' : decide ((3 : Int) < s.size) = false := by simp; omega
  have hpos : 0 < s.size := by omega
  by_cases h48 : by_ s 0 = 48
  · have h4 : (((by_ s 0 : Nat) : Int) == 48) = true := by simp; omega
    have hv : ver s = 0 := by unfold ver; rw [if_pos (.inr (.inr h48))]
    rw [hv]
    clear hv
    (repeat' (first | refine wk ?_ | refine wk2 ?_ ?_ | with_reducible refine wkF fun _ _ _ => ?_ | with_reducible intro _ | exact ag | fail))
    exact fin0
  have h4 : (((by_ s 0 : Nat) : Int) == 48) = false := by simp; omega
  have hv : ver s = verFrom s s.size 0 0 := by unfold ver; rw [if_neg (by unfold by_ at h48; omega)]
  replace hv := later hv
  clear h48
  (repeat' (first | refine wk ?_ | refine wk2 ?_ ?_ | with_reducible refine wkF fun _ _ _ => ?_ | with_reducible intro _ | exact ag | fail))
  clear h4 h3' h0 hz
  refine ARun.rounds (fun st : Nat × Nat × Int => ⟨[(0, .s (.string s)), (3, .s (.int .i64 st.2.2)), (4, .s (.int .i64 st.2.1))], H⟩) (fun st => st.1) (fun st => s.size ≤ st.2.1 + st.1 ∧ verFrom s st.1 st.2.1 st.2.2 = ver s) ?_ (s.size, 0, 0) ⟨by simp, hv.go.symm⟩ ?_
  · rintro ⟨f, p, n⟩ ⟨hfu, hr⟩ next
    simp only [] at hfu hr ⊢
    by_cases hp : p < s.size
    · obtain ⟨f, rfl⟩ : ∃ g, f = g + 1 := ⟨f - 1, by omega⟩
      rw [verFrom, if_pos hp] at hr
      have h1 : (p : Int) < s.size := by omega
      have hw := w64s (i := p) (by omega)
      have hb8 := by_lt s p
      have hcast := cast_ hb8
      by_cases hd : 48 ≤ by_ s p ∧ by_ s p ≤ 57
      · have hdd : digR ((by_ s p : Nat) : Int) = true := by unfold digR; simp; omega
        rw [dec_ascii s p (by unfold by_ at hd; omega), if_neg (by simp only []; unfold by_ at hd; omega)] at hr
        have e : IntKind.i64.wrap (IntKind.i64.wrap (IntKind.i64.wrap (10 * n) + ((by_ s p : Nat) : Int)) - 48) = wrap64 (wrap64 (10 * n) + ((((s.get! p).toNat : Nat) : Int) - 48)) := by
          rw [w64_eq, w64_eq, w64_eq]; unfold wrap64; unfold by_; omega
        replace hr := later hr
        clear hd
        (repeat' (first | refine wk ?_ | refine wk2 ?_ ?_ | with_reducible refine wkF fun _ _ _ => ?_ | with_reducible intro _ | refine Calling.eq (rdigit_c) ?_ | exact ag | fail))
        exact ARun.weaken (next.go (f, p + 1, wrap64 (wrap64 (10 * n) + ((((s.get! p).toNat : Nat) : Int) - 48))) ⟨by simp only []; omega, hr.go⟩ (by simp only []; omega)) (leK (Sub.refl _))
      · have hdd : digR ((by_ s p : Nat) : Int) = false := by unfold digR; rw [Bool.eq_false_iff]; simp; omega
        have hr0 : ver s = 0 := by
          rw [← hr]
          by_cases ha : (s.get! p).toNat < 128
          · rw [dec_ascii s p ha, if_pos (by simp only []; unfold by_ at hd; omega)]
          · have := dec_high s p ha
            rw [if_pos (by omega)]
        rw [hr0]
        clear hr hr0 hd next
        (repeat' (first | refine wk ?_ | refine wk2 ?_ ?_ | with_reducible refine wkF fun _ _ _ => ?_ | with_reducible intro _ | refine Calling.eq (rdigit_c) ?_ | exact ag | fail))
        exact fin0
    · have h1 : decide ((p : Int) < s.size) = false := by simp; omega
      rw [verFrom_end s f p n hp] at hr
      rw [← hr]
      clear hr next
      (repeat' (first | refine wk ?_ | refine wk2 ?_ ?_ | with_reducible refine wkF fun _ _ _ => ?_ | with_reducible intro _ | exact ag | fail))
      exact fin0
  · exact leK (Sub.refl _)
theorem cutA_few {s : ByteArray} (h : few s) : few (Nm.cutA s) := Nat.lt_of_le_of_lt (cutA_size s) h
theorem cutB_few {s : ByteArray} (h : few s) : few (cutB s) := Nat.lt_of_le_of_lt (cutB_size s) h
theorem rCheck_c {s : ByteArray} (hf : few s) : AC Tryd.prog 48 [.s (.string s)] H (fun r H' => r = .s (.int .i64 (chk s)) ∧ H' = H) := by
  refine AC.body Tryd.func48 rfl rfl (n := 26) (res := [.tmp 2]) rfl rfl (by simp) ?_
  simp only [ent]
  have S := fun H => rstem_c (H := H) (cutA_few hf)
  have V := fun H => rversion_c (H := H) (cutB_few hf).fits
  have R := fun H => rRunes_c (H := H) hf
  have P := fun H => rparts_c (H := H) hf.fits
  have hc : chk s = if stem (Nm.cutA s) && !(Nm.has s && (ver (cutB s) == 0)) then (if decide (24 < runes s) then 5 else 0) else 6 := by
    unfold chk okN
    have : decide (ver (cutB s) = 0) = (ver (cutB s) == 0) := by rw [Bool.eq_iff_iff]; simp
    rw [this]
    cases stem (Nm.cutA s) <;> cases Nm.has s <;> cases (ver (cutB s) == 0) <;> simp
  rw [hc]
  clear hc
  generalize stem (Nm.cutA s) = x1 at *
  generalize Nm.has s = x2 at *
  generalize hx3 : (ver (cutB s) == 0) = x3 at *
  generalize hx4 : decide (24 < runes s) = x4 at *
  cases x1 <;> cases x2 <;> cases x3 <;> cases x4
  all_goals
    simp only [Bool.true_and, Bool.false_and, Bool.not_true, Bool.not_false, Bool.false_eq_true, if_true, if_false]
    (repeat' (first | refine wk ?_ | refine wk2 ?_ ?_ | with_reducible refine wkF fun _ _ _ => ?_ | with_reducible intro _ | refine Calling.eq (P _) ?_ | refine Calling.eq (S _) ?_ | refine Calling.eq (V _) ?_ | refine Calling.eq (R _) ?_ | exact ag | fail))
    exact fin0
end Go.Abs
/- Words and instructions: what the references make. -/
namespace Go.Abs
set_option linter.unusedSimpArgs false
set_option linter.unusedVariables false
open Go.Proofs Go.Wd
set_option linter.unusedVariables false
set_option maxRecDepth 8000
variable {H : Heap}
theorem wu64 {x : Int} (h0 : 0 ≤ x) (h1 : x < 18446744073709551616) : IntKind.u64.wrap x = x := by rw [IntKind.wrap_u64]; omega
/-- One bit more of a number. -/
theorem mod_step (x i : Nat) : x % 2 ^ (i + 1) = x % 2 ^ i ||| ((x.testBit i).toNat <<< i) := by
  refine Nat.eq_of_testBit_eq fun j => ?_
  rw [put_bit _ i _ j (Nat.mod_lt _ (Nat.two_pow_pos i)), Nat.testBit_mod_two_pow, Nat.testBit_mod_two_pow]
  by_cases hj : j = i
  · subst hj; simp
  · rw [if_neg hj]
    by_cases h : j < i
    · rw [decide_eq_true h, decide_eq_true (show j < i + 1 by omega)]
    · rw [decide_eq_false h, decide_eq_false (show ¬ j < i + 1 by omega)]
theorem put_one (x i : Nat) (hi : i < 32) (b : Bool) (hb : x.testBit i = b) : Go.bits .or .u32 ((x % 2 ^ i : Nat) : Int) (shlK .u32 ((b.toNat : Nat) : Int) (i : Nat)) = ((x % 2 ^ (i + 1) : Nat) : Int) := by
  subst hb
  have hp : 2 ^ i < 2 ^ 32 := Nat.pow_lt_pow_right (by decide) hi
  have h1 : x % 2 ^ i < 2 ^ 32 := Nat.lt_trans (Nat.mod_lt _ (Nat.two_pow_pos i)) hp
  have : (x.testBit i).toNat <<< i < 2 ^ 32 := by
    rw [Nat.shiftLeft_eq]
    cases x.testBit i <;> simp <;> omega
  rw [wshl (by omega), or_nat _ _ h1 (Nat.mod_lt _ (by decide)), Nat.mod_eq_of_lt this, ← mod_step]
end Go.Abs
/- Instructions: what the references make. -/
namespace Go.Abs
set_option linter.unusedSimpArgs false
set_option linter.unusedVariables false
open Go.Proofs Go.Wd
set_option linter.unusedVariables false
set_option maxRecDepth 8000
variable {H : Heap}
theorem enc_low {o d a b : Nat} {i : Int} (low : Nat) (hl : low < 2 ^ 21) (e : cutN i ||| b = low) : withN (withN (withN (withN 0 27 5 o) 24 3 d) 21 3 a) 0 21 low = encN o d a b i := by
  unfold encN
  rw [e]
  have hl2 : low < 2 ^ 32 := by omega
  refine word_ext (withN_lt _ _ _ _) (withN_lt _ _ _ _) fun j hj => ?_
  rw [withN_bit _ _ _ _ _ (withN_lt _ _ _ _) (by decide) hj, withN_bit _ _ _ _ _ (withN_lt _ _ _ _) (by decide) hj, withN_bit _ _ _ _ _ (withN_lt _ _ _ _) (by decide) hj, withN_bit _ _ _ _ _ (by decide) (by decide) hj,
    withN_bit _ _ _ _ _ (withN_lt _ _ _ _) (by decide) hj, withN_bit _ _ _ _ _ (withN_lt _ _ _ _) (by decide) hj, withN_bit _ _ _ _ _ hl2 (by decide) hj]
  repeat' split
  all_goals first | rfl | (exfalso; omega) | (simp; done) | skip
  all_goals (have hz := bit_out hl (i := j) (by omega); simp [hz])
end Go.Abs
/- The document's answer about modules: sizes, names, texts that stand twice, words. -/
namespace Go.Abs
set_option linter.unusedSimpArgs false
set_option linter.unusedVariables false
open Go.Proofs Go.Nm Go.Wd
set_option linter.unusedVariables false
set_option maxRecDepth 8000
variable {H : Heap}
def Mod.big (m : Mod) : Bool := decide ((8 : Int) < m.ex.length) || (decide ((16 : Int) < m.im.length) || (decide ((512 : Int) < m.co.length) || (decide ((128 : Int) < m.da.length) || decide ((256 : Int) < m.re.length))))
theorem obj_alt (m : Mod) : m.obj = if m.big then 5 else if longB m.nm || (decide (0 ≤ fi longB m.ex) || decide (0 ≤ fi longB m.im)) then 5 else if decide (0 ≤ fi kindB m.re) then 2 else 0 := by
  unfold Mod.obj Mod.big
  generalize decide ((8 : Int) < m.ex.length) = a
  generalize decide ((16 : Int) < m.im.length) = b
  generalize decide ((512 : Int) < m.co.length) = c
  generalize decide ((128 : Int) < m.da.length) = d
  generalize decide ((256 : Int) < m.re.length) = e
  cases a <;> cases b <;> cases c <;> cases d <;> cases e <;> rfl
end Go.Abs
/- The document's answer about modules: names, texts that stand twice, words. -/
namespace Go.Abs
set_option linter.unusedSimpArgs false
set_option linter.unusedVariables false
open Go.Proofs Go.Nm Go.Wd
set_option linter.unusedVariables false
set_option maxRecDepth 8000
variable {H : Heap}
def Mod.nmI (m : Mod) : Int := if badN m.nm then 0 else if decide (0 ≤ fi badN m.ex) then 1 + fi badN m.ex else if decide (0 ≤ fi badN m.im) then 9 + fi badN m.im else -1
/-- All texts are short. -/
structure Mod.short (m : Mod) : Prop where
  nm : few m.nm
  ex : ∀ s ∈ m.ex, few s
  im : ∀ s ∈ m.im, few s
theorem dup_yes {l : List ByteArray} {i k : Nat} {x y : ByteArray} (hx : l[i]? = some x) (hk : k < i) (hy : l[k]? = some y) (h : (x.toList == y.toList) = true) (hn : noneB (fun y => x.toList == y.toList) l k) : dup l i = true := by
  unfold dup
  rw [hx]
  have : fi (fun y => x.toList == y.toList) (l.take i) = k := fi_some (x := y) (by rw [List.getElem?_take_of_lt hk]; exact hy) h (fun j z hj hz => hn j z hj (by rw [List.getElem?_take_of_lt (by omega)] at hz; exact hz))
  simp only [this]; simp
theorem dup_no {l : List ByteArray} {i : Nat} {x : ByteArray} (hx : l[i]? = some x) (hn : noneB (fun y => x.toList == y.toList) l i) : dup l i = false := by
  unfold dup
  rw [hx]
  have : fi (fun y => x.toList == y.toList) (l.take i) = -1 := fi_end (i := i) (by rw [List.length_take]; omega) (fun j z hj hz => hn j z hj (by rw [List.getElem?_take_of_lt (by omega)] at hz; exact hz))
  simp only [this]; rfl
end Go.Abs
/- The document's answer about modules: texts that stand twice, words, places. -/
namespace Go.Abs
set_option linter.unusedSimpArgs false
set_option linter.unusedVariables false
open Go.Proofs Go.Nm Go.Wd
set_option linter.unusedVariables false
set_option maxRecDepth 8000
variable {H : Heap}
def Mod.twI (m : Mod) : Int := if decide (0 ≤ rep m.ex) then rep m.ex else if decide (0 ≤ rep m.im) then IntKind.i64.wrap (8 + rep m.im) else -1
theorem six (k : Int) : (k == 0) = true ∨ ((k == 0) = false ∧ (k == 1) = true) ∨ ((k == 0) = false ∧ (k == 1) = false ∧ (k == 4) = true) ∨ ((k == 0) = false ∧ (k == 1) = false ∧ (k == 4) = false ∧ (k == 2) = true) ∨ ((k == 0) = false ∧ (k == 1) = false ∧ (k == 4) = false ∧ (k == 2) = false ∧ (k == 5) = true) ∨
    ((k == 0) = false ∧ (k == 1) = false ∧ (k == 4) = false ∧ (k == 2) = false ∧ (k == 5) = false) := by
  cases (k == 0) <;> cases (k == 1) <;> cases (k == 4) <;> cases (k == 2) <;> cases (k == 5) <;> simp
end Go.Abs
/- The document's answer about modules: places, kinds, calls that nothing names. -/
namespace Go.Abs
set_option linter.unusedSimpArgs false
set_option linter.unusedVariables false
open Go.Proofs Go.Nm Go.Wd
set_option linter.unusedVariables false
set_option maxRecDepth 8000
variable {H : Heap}
theorem call_parts {w : Nat} (h : (dec w).o = 17) : (dec w).d = 0 ∧ (dec w).a = 0 ∧ (dec w).b = 0 := by
  unfold dec at h ⊢
  by_cases hk : insOk w = true
  · rw [if_pos hk] at h ⊢
    unfold insOk at hk
    have hc : (parts w).chk = 0 := by have := (Bool.and_eq_true_iff.1 hk).1; simpa using this
    unfold Ins.chk at hc
    obtain ⟨_, h1, h2, h3, _, _, _⟩ := check_zero hc
    rw [h] at h1 h2 h3
    simp [usesR, regR] at h1 h2 h3
    omega
  · rw [if_neg hk] at h; cases h
theorem same_call (w : Nat) : same5 (dec w) ⟨17, 0, 0, 0, 0⟩ = ((((dec w).o : Int) == 17) && ((dec w).i == 0)) := by
  unfold same5
  cases q : (((dec w).o : Int) == 17) with
  | false => simp
  | true =>
    have h : (dec w).o = 17 := by have := (beq_iff_eq.1 q); omega
    obtain ⟨h1, h2, h3⟩ := call_parts h
    rw [h1, h2, h3]; simp
theorem inB_cons {α : Type} [DecidableEq α] {k : α} {ks : List α} {a : α} : inB k (ks ++ [a]) = (inB k ks || decide (k = a)) := by
  unfold inB; rw [Bool.eq_iff_iff]; simp
theorem spots_get {m : Mod} {i k : Nat} {y : Rlc} (hk : k < i) (hy : m.re[k]? = some y) : y.spot ∈ (m.re.take i).map Rlc.spot :=
  List.mem_map.2 ⟨y, List.mem_of_getElem? (i := k) (by rw [List.getElem?_take_of_lt hk]; exact hy), rfl⟩
/-- Do two relocations name one word? -/
def hitB (x y : Rlc) : Bool := ((y.a : Int) == (x.a : Int)) && (y.spot.1 == x.spot.1)
theorem hit_spot {x y : Rlc} (h : hitB x y = true) : y.spot = x.spot := by
  unfold hitB at h
  obtain ⟨h1, h2⟩ := Bool.and_eq_true_iff.1 h
  have h3 : y.a = x.a := by have := beq_iff_eq.1 h1; omega
  have h4 := beq_iff_eq.1 h2
  exact Prod.ext h4 h3
theorem spot_hit {x y : Rlc} (h : y.spot = x.spot) : hitB x y = true := by
  unfold hitB
  have h1 : y.a = x.a := congrArg Prod.snd h
  rw [h, h1]; simp
theorem badP_far {m : Mod} {i : Nat} {x : Rlc} (hx : m.re[i]? = some x) (h : decide (((m.len x : Nat) : Int) ≤ (x.a : Int)) = true) : m.badP i = true := by
  unfold Mod.badP; rw [hx]; simp only [h, Bool.or_true]
theorem badP_hit {m : Mod} {i k : Nat} {x y : Rlc} (hx : m.re[i]? = some x) (hk : k < i) (hy : m.re[k]? = some y) (h : hitB x y = true) : m.badP i = true := by
  have := spots_get hk hy
  rw [hit_spot h] at this
  unfold Mod.badP; rw [hx]; simp only [inB, this, decide_true, Bool.true_or]
theorem badP_not {m : Mod} {i : Nat} {x : Rlc} (hx : m.re[i]? = some x) (h : decide (((m.len x : Nat) : Int) ≤ (x.a : Int)) = false) (hn : noneB (hitB x) m.re i) : m.badP i = false := by
  unfold Mod.badP; rw [hx]; simp only [h, Bool.or_false, inB]
  rw [decide_eq_false_iff_not]
  intro hm
  obtain ⟨y, hy, he⟩ := List.mem_map.1 hm
  obtain ⟨j, hj⟩ := List.mem_iff_getElem?.1 hy
  by_cases hji : j < i
  · rw [List.getElem?_take_of_lt hji] at hj
    have := hn j y hji hj
    rw [spot_hit he] at this; cases this
  · rw [List.getElem?_eq_none (by rw [List.length_take]; omega)] at hj; cases hj
end Go.Abs
/- The document's answer about modules: kinds, calls that nothing names. -/
namespace Go.Abs
set_option linter.unusedSimpArgs false
set_option linter.unusedVariables false
open Go.Proofs Go.Nm Go.Wd
set_option linter.unusedVariables false
set_option maxRecDepth 8000
variable {H : Heap}
theorem neT {a b : Int} (h : (a == b) = true) : (a != b) = false := by rw [bne, h]; rfl
theorem neF {a b : Int} (h : (a == b) = false) : (a != b) = true := by rw [bne, h]; rfl
theorem nfit_alt {m : Mod} {r : Rlc} : (!m.fit r) = if r.spot.1 then ((!(((dec (m.co.getD r.a 0)).o : Int) == if ((r.k : Int) == 0) || ((r.k : Int) == 7) then 17 else 2)) || !((dec (m.co.getD r.a 0)).i == 0)) else !(((m.da.getD r.a 0 : Nat) : Int) == 0) := by
  unfold Mod.fit
  rw [same_call]
  cases r.spot.1
  · simp
  · simp only [if_true]
    cases ((r.k : Int) == 0) || ((r.k : Int) == 7) <;> simp [Bool.not_and]
end Go.Abs
/- The document's answer about modules: calls that nothing names, and all in all. -/
namespace Go.Abs
set_option linter.unusedSimpArgs false
set_option linter.unusedVariables false
open Go.Proofs Go.Nm Go.Wd
set_option linter.unusedVariables false
set_option maxRecDepth 8000
variable {H : Heap}
theorem acc_succ {m : Mod} {i k : Nat} {y : Rlc} (hy : m.re[k]? = some y) : inB (true, i) ((m.re.take (k + 1)).map Rlc.spot) = (inB (true, i) ((m.re.take k).map Rlc.spot) || (((y.a : Int) == (i : Int)) && y.spot.1)) := by
  rw [← spots_succ hy, inB_cons]
  congr 1
  have : y.spot = (y.spot.1, y.a) := rfl
  rw [this]
  rw [Bool.eq_iff_iff]
  simp
  constructor
  · rintro ⟨h1, h2⟩; exact ⟨by omega, h1⟩
  · rintro ⟨h1, h2⟩; exact ⟨h2, by omega⟩
theorem fi_cons {α : Type} (p : α → Bool) (x : α) (l : List α) : fi p (x :: l) = if p x then 0 else if decide (0 ≤ fi p l) then fi p l + 1 else -1 := by
  unfold fi
  rw [List.findIdx?_cons]
  cases p x with
  | true => rfl
  | false =>
    simp only [Bool.false_eq_true, if_false]
    cases l.findIdx? p with
    | none => rfl
    | some j => simp
theorem fi_lt {α : Type} (p : α → Bool) (l : List α) : fi p l < l.length + 1 ∧ -1 ≤ fi p l := by
  unfold fi
  cases h : l.findIdx? p with
  | none => constructor <;> simp <;> omega
  | some j =>
    have := (List.findIdx?_eq_some_iff_getElem.1 h).1
    constructor
    · simp only; omega
    · simp only; omega
theorem fi_neg {α : Type} {p : α → Bool} {l : List α} (h : decide (0 ≤ fi p l) = false) : fi p l = -1 := by
  have := (fi_lt p l).2
  have := of_decide_eq_false h
  omega
/-- Names, then texts that stand twice: what both sides tell. -/
theorem txt_alt {m : Mod} (h : m.obj = 0) : m.txt = if decide (0 ≤ m.nmI) then (2, m.nmI) else if decide (0 ≤ m.twI) then (3, m.twI) else (0, 0) := by
  obtain ⟨b1, b2, b3, b4, b5⟩ := obj_small (m := m) (by rw [h]; rfl)
  have x1 := fi_lt badN m.ex
  have x2 := fi_lt badN m.im
  have x3 := fi_lt (dup m.ex) (List.range m.ex.length)
  have x4 := fi_lt (dup m.im) (List.range m.im.length)
  rw [List.length_range] at x3 x4
  have w1 : IntKind.i64.wrap (9 + fi badN m.im) = 9 + fi badN m.im := wi64 (by omega) (by omega)
  have w2 : IntKind.i64.wrap (8 + rep m.im) = 8 + rep m.im := by unfold rep; exact wi64 (by omega) (by omega)
  unfold Mod.txt Mod.nmI Mod.twI
  rw [w1, w2, fi_cons]
  unfold rep
  generalize fi badN m.ex = a at *
  generalize fi badN m.im = b at *
  generalize fi (dup m.ex) (List.range m.ex.length) = c at *
  generalize fi (dup m.im) (List.range m.im.length) = d at *
  cases badN m.nm
  · by_cases h1 : 0 ≤ a
    · have e : decide (0 ≤ a) = true := by simpa using h1
      have e2 : decide (0 ≤ a + 1) = true := by simp; omega
      have e3 : decide (0 ≤ 1 + a) = true := by simp; omega
      simp [e, e2, e3, Int.add_comm]
    · have e : decide (0 ≤ a) = false := by simpa using h1
      by_cases h2 : 0 ≤ b
      · have f : decide (0 ≤ b) = true := by simpa using h2
        have f2 : decide (0 ≤ 9 + b) = true := by simp; omega
        simp [e, f, f2]
      · have f : decide (0 ≤ b) = false := by simpa using h2
        by_cases h3 : 0 ≤ c
        · have g : decide (0 ≤ c) = true := by simpa using h3
          simp [e, f, g]
        · have g : decide (0 ≤ c) = false := by simpa using h3
          by_cases h4 : 0 ≤ d
          · have k : decide (0 ≤ d) = true := by simpa using h4
            have k2 : decide (0 ≤ 8 + d) = true := by simp; omega
            simp [e, f, g, k, k2]
          · have k : decide (0 ≤ d) = false := by simpa using h4
            simp [e, f, g, k]
  · simp
end Go.Abs
/- The document's answer about modules, all in all. -/
namespace Go.Abs
set_option linter.unusedSimpArgs false
set_option linter.unusedVariables false
open Go.Proofs Go.Nm Go.Wd
set_option linter.unusedVariables false
set_option maxRecDepth 8000
variable {H : Heap}
theorem fi_all {α : Type} {p : α → Bool} {l : List α} (h : decide (0 ≤ fi p l) = false) : ∀ x ∈ l, p x = false := by
  unfold fi at h
  cases hf : l.findIdx? p with
  | none => exact List.findIdx?_eq_none_iff.1 hf
  | some j => rw [hf] at h; simp at h
theorem obj_zero {m : Mod} (h : m.obj = 0) : m.short ∧ (∀ r ∈ m.re, (r.k : Int) ≤ 7) := by
  rw [obj_alt] at h
  cases q0 : m.big with
  | true => rw [q0, if_pos rfl] at h; cases h
  | false =>
    rw [q0, if_neg (by decide)] at h
    cases q1 : longB m.nm || (decide (0 ≤ fi longB m.ex) || decide (0 ≤ fi longB m.im)) with
    | true => rw [q1, if_pos rfl] at h; cases h
    | false =>
      rw [q1, if_neg (by decide)] at h
      cases q2 : decide (0 ≤ fi kindB m.re) with
      | true => rw [q2, if_pos rfl] at h; cases h
      | false =>
        simp only [Bool.or_eq_false_iff] at q1
        obtain ⟨a, b, c⟩ := q1
        have lf : ∀ s, longB s = false → few s := fun s hs => by unfold longB at hs; unfold few; simp at hs; omega
        refine ⟨⟨lf _ a, fun s hs => lf s (fi_all b s hs), fun s hs => lf s (fi_all c s hs)⟩, fun r hr => ?_⟩
        have := fi_all q2 r hr
        unfold kindB at this; simp at this; omega
theorem places_all {m : Mod} (h : decide (0 ≤ fi m.badP (List.range m.re.length)) = false) : ∀ r ∈ m.re, r.a < m.len r := by
  intro r hr
  obtain ⟨j, hj⟩ := List.mem_iff_getElem?.1 hr
  have hjl := (List.getElem?_eq_some_iff.1 hj).1
  have := fi_all h j (by simpa using hjl)
  unfold Mod.badP at this
  rw [hj] at this
  have := of_decide_eq_false (Bool.or_eq_false_iff.1 this).2
  omega
end Go.Abs
/- The document's answer about modules: sameness and size; patches. -/
namespace Go.Abs
set_option linter.unusedSimpArgs false
set_option linter.unusedVariables false
open Go.Proofs Go.Nm Go.Wd
set_option linter.unusedVariables false
set_option maxRecDepth 8000
variable {H : Heap}
def mn (i : Nat) : Int := if (65536 : Int) < (i : Int) then 65536 else (i : Int)
def Mod.size (m : Mod) : Int :=
  if decide ((m.ex.length : Int) ≤ 65536) then (if decide ((m.ex.length : Int) + mn m.im.length ≤ 65536) then (if decide ((m.ex.length : Int) + mn m.im.length + mn m.co.length ≤ 65536) then (if decide ((m.ex.length : Int) + mn m.im.length + mn m.co.length + mn m.da.length ≤ 65536) then (m.ex.length : Int) + mn m.im.length + mn m.co.length + mn m.da.length + mn m.re.length
    else (m.ex.length : Int) + mn m.im.length + mn m.co.length + mn m.da.length) else (m.ex.length : Int) + mn m.im.length + mn m.co.length) else (m.ex.length : Int) + mn m.im.length) else m.ex.length
theorem mn_le (i : Nat) : 0 ≤ mn i ∧ mn i ≤ 65536 := by unfold mn; split <;> omega
theorem mn_small {i : Nat} (h : mn i ≤ 2000) : i ≤ 2000 := by unfold mn at h; split at h <;> omega
theorem size_small {m : Mod} (h : m.size ≤ 2000) : m.ex.length ≤ 2000 ∧ m.im.length ≤ 2000 ∧ m.co.length ≤ 2000 ∧ m.da.length ≤ 2000 ∧ m.re.length ≤ 2000 := by
  unfold Mod.size at h
  have a1 := mn_le m.im.length
  have a2 := mn_le m.co.length
  have a3 := mn_le m.da.length
  have a4 := mn_le m.re.length
  have b1 := @mn_small m.im.length
  have b2 := @mn_small m.co.length
  have b3 := @mn_small m.da.length
  have b4 := @mn_small m.re.length
  generalize mn m.im.length = x1 at *
  generalize mn m.co.length = x2 at *
  generalize mn m.da.length = x3 at *
  generalize mn m.re.length = x4 at *
  simp only [decide_eq_true_eq] at h
  split at h
  · split at h
    · split at h
      · split at h
        · exact ⟨by omega, b1 (by omega), b2 (by omega), b3 (by omega), b4 (by omega)⟩
        · omega
      · omega
    · omega
  · omega
end Go.Abs
/- Are two modules the same? -/
namespace Go.Abs
set_option linter.unusedSimpArgs false
set_option linter.unusedVariables false
open Go.Proofs Go.Nm Go.Wd
set_option linter.unusedVariables false
set_option maxRecDepth 8000
variable {H : Heap}
theorem eqR_iff (x y : Rlc) : (((x.k : Int) == (y.k : Int)) && (((x.a : Int) == (y.a : Int)) && (((x.w : Int) == (y.w : Int)) && true))) = decide (x = y) := by
  obtain ⟨a, b, c⟩ := x; obtain ⟨a', b', c'⟩ := y
  rw [Bool.eq_iff_iff]; simp; omega
end Go.Abs
/- A module, copied; what is told of a module whose rows are one's own. -/
namespace Go.Abs
set_option linter.unusedSimpArgs false
set_option linter.unusedVariables false
open Go.Proofs Go.Nm Go.Wd
set_option linter.unusedVariables false
set_option maxRecDepth 8000
variable {H : Heap}
theorem each_u1 (l : List Nat) : Each 1 (l.map u1) := fun e he => by obtain ⟨x, _, rfl⟩ := List.mem_map.1 he; rfl
theorem each_relE (l : List Rlc) : Each 3 (l.map relE) := fun e he => by obtain ⟨x, _, rfl⟩ := List.mem_map.1 he; rfl
theorem one_u1 (l : List Nat) : (l.map u1).flatten.all oneT = true := by
  induction l with
  | nil => rfl
  | cons x l ih => rw [List.map_cons, List.flatten_cons, List.all_append, ih]; rfl
theorem one_relE (l : List Rlc) : (l.map relE).flatten.all oneT = true := by
  induction l with
  | nil => rfl
  | cons x l ih => rw [List.map_cons, List.flatten_cons, List.all_append, ih]; rfl
/-- A module's rows, in blocks. -/
def Mod.rows (m : Mod) (b1 b2 b3 b4 b5 : Nat) : List Row := [(b1, 1, m.ex.map s1), (b2, 1, m.im.map s1), (b3, 1, m.co.map u1), (b4, 1, m.da.map u1), (b5, 3, m.re.map relE)]
theorem Mod.rows_def (m : Mod) (b1 b2 b3 b4 b5 : Nat) : m.rows b1 b2 b3 b4 b5 = [(b1, 1, m.ex.map s1), (b2, 1, m.im.map s1), (b3, 1, m.co.map u1), (b4, 1, m.da.map u1), (b5, 3, m.re.map relE)] := rfl
def Mod.own (m : Mod) (b1 b2 b3 b4 b5 : Nat) : TV := .agg [.s (.string m.nm), ownT b1 1 (m.ex.map s1), ownT b2 1 (m.im.map s1), ownT b3 1 (m.co.map u1), ownT b4 1 (m.da.map u1), ownT b5 3 (m.re.map relE)]
theorem Mod.own_def (m : Mod) (b1 b2 b3 b4 b5 : Nat) : m.own b1 b2 b3 b4 b5 = .agg [.s (.string m.nm), ownT b1 1 (m.ex.map s1), ownT b2 1 (m.im.map s1), ownT b3 1 (m.co.map u1), ownT b4 1 (m.da.map u1), ownT b5 3 (m.re.map relE)] := rfl
/-- No list is long. -/
structure Mod.little (m : Mod) : Prop where
  ex : m.ex.length ≤ 2000
  im : m.im.length ≤ 2000
  co : m.co.length ≤ 2000
  da : m.da.length ≤ 2000
  re : m.re.length ≤ 2000
theorem Doing.ownK {P : Program} {o : Oper} {vs : List TV} {Z : TV → Heap → Prop} {k : Nat} {L : List (List TV)} {H H0 : Heap} {rows : List Row} (hO : Owns H0 H rows) (v t : Nat) {cv ct : Root} (hv : H v = some cv) (ht : H t = some ct)
    (h : OC P o vs H (fun r H' => ∃ b, H b = none ∧ r = ownT b k L ∧ H' = ownH H b L)) (z : ∀ b K', Owns H0 K' (rows ++ [(b, k, L)]) → b ≠ t → K' v = some cv → K' t = some ct → Z (ownT b k L) K') : Doing P o vs H Z :=
  Doing.by h fun r H' ⟨b, hb, h1, h2⟩ => by
    rw [h1, h2]
    have nv := none_at hb hv
    have nt := none_at hb ht
    exact z b _ (hO.snoc hb) (fun e => nt e.symm) (by rw [ownH_ne (eq_false nv)]; exact hv) (by rw [ownH_ne (eq_false nt)]; exact ht)
end Go.Abs
/- What is told of modules whose rows are one's own; what every right program tells of some modules. -/
namespace Go.Abs
set_option linter.unusedSimpArgs false
set_option linter.unusedVariables false
open Go.Proofs Go.Nm Go.Wd
set_option linter.unusedVariables false
set_option maxRecDepth 8000
variable {H : Heap}
theorem flatG {G : Heap} (g : GH G) : Flat G := fun b r h => by
  obtain ⟨o, ho⟩ := g.exact b (by rw [h]; simp)
  rw [ho] at h; cases h; rfl
theorem mod_conv {G K : Heap} {m : Mod} {b1 b2 b3 b4 b5 : Nat} (O : Owns G K (m.rows b1 b2 b3 b4 b5)) : Conv K G (m.own b1 b2 b3 b4 b5) m.tv := by
  have hf := O.free
  have hh := O.held
  simp only [Mod.rows_def, List.forall_mem_cons, List.not_mem_nil, false_implies, implies_true, and_true] at hf hh
  obtain ⟨f1, f2, f3, f4, f5⟩ := hf
  obtain ⟨h1, h2, h3, h4, h5⟩ := hh
  rw [Mod.own_def, Mod.tv_def]
  exact Conv.agg (.cons (Conv.refl O.sub _) (.cons (conv_own O.sub h1 f1 (each_s1 _)) (.cons (conv_own O.sub h2 f2 (each_s1 _)) (.cons (conv_own O.sub h3 f3 (each_u1 _)) (.cons (conv_own O.sub h4 f4 (each_u1 _)) (.cons (conv_own O.sub h5 f5 (each_relE _)) .nil))))))
/-- A module of nothing but code. -/
def bare (s : ByteArray) (co : List Nat) : Mod := ⟨s, [], [], co, [], []⟩
theorem bare_ok {s : ByteArray} {co : List Nat} (hs : s.size ≤ 100) (hc : co.all (· < 2 ^ 32) = true) (hl : co.length ≤ 100) : (bare s co).ok where
  co := fun x h => by simpa using List.all_eq_true.1 hc x h
  da := fun s h => (List.not_mem_nil h).elim
  re := fun s h => (List.not_mem_nil h).elim
  lex := (by decide : (0 : Nat) < 4611686018427387904)
  lim := (by decide : (0 : Nat) < 4611686018427387904)
  lco := Nat.lt_of_le_of_lt hl (by decide)
  lda := (by decide : (0 : Nat) < 4611686018427387904)
  lre := (by decide : (0 : Nat) < 4611686018427387904)
theorem bare_tv (s : ByteArray) (co : List Nat) : (bare s co).tv = .agg [.s (.string s), .vs 1 [], .vs 1 [], .vs 1 (co.map u1), .vs 1 [], .vs 3 []] := rfl
theorem fA : (bare ⟨#[109]⟩ [0]).flt = (0, 0) := by kernel_rfl
theorem fB : (bare ⟨#[109]⟩ []).flt = (4, 0) := by kernel_rfl
theorem fC : (bare ⟨#[109]⟩ [0, 2281701381]).flt = (9, 1) := by kernel_rfl
theorem fZ : (bare ⟨#[]⟩ []).chk = 20 := by kernel_rfl
end Go.Abs
/- The laws of modules that are looked at. -/
namespace Go.Abs
set_option linter.unusedSimpArgs false
set_option linter.unusedVariables false
open Go.Proofs Go.Nm Go.Wd
set_option linter.unusedVariables false
set_option maxRecDepth 8000
variable {H : Heap}
theorem flt_range (m : Mod) : 0 ≤ m.flt.1 ∧ m.flt.1 ≤ 9 := by
  unfold Mod.flt
  split
  · exact ⟨by simp, by simp⟩
  · split
    · unfold Mod.txt; (repeat' split) <;> exact ⟨by simp, by simp⟩
    · split
      · unfold Mod.wrd; (repeat' split) <;> exact ⟨by simp, by simp⟩
      · unfold Mod.rel; (repeat' split) <;> exact ⟨by simp, by simp⟩
theorem pat_self (m : Mod) : m.pat m = 0 := if_pos rfl
theorem pat_comm (m n : Mod) : n.pat m = m.pat n := by
  unfold Mod.pat
  by_cases h : m.ex = n.ex
  · rw [if_pos h, if_pos h.symm]
  · rw [if_neg h, if_neg (fun e => h e.symm)]
theorem little_of {m : Mod} (h : decide ((2000 : Int) < m.size) = false) : m.little := by
  have h := of_decide_eq_false h
  obtain ⟨h1, h2, h3, h4, h5⟩ := size_small (m := m) (by omega)
  exact ⟨h1, h2, h3, h4, h5⟩
/-- Numbers in their ranges. -/
structure Mod.num (m : Mod) : Prop where
  co : ∀ x ∈ m.co, x < 2 ^ 32
  da : ∀ x ∈ m.da, x < 2 ^ 32
  re : ∀ r ∈ m.re, r.k < 256 ∧ r.a < 65536 ∧ r.w < 65536
theorem ok_of {m : Mod} (h : m.num) (l : m.little) : m.ok where
  co := h.co
  da := h.da
  re := h.re
  lex := Nat.lt_of_le_of_lt l.ex (by decide)
  lim := Nat.lt_of_le_of_lt l.im (by decide)
  lco := Nat.lt_of_le_of_lt l.co (by decide)
  lda := Nat.lt_of_le_of_lt l.da (by decide)
  lre := Nat.lt_of_le_of_lt l.re (by decide)
end Go.Abs
/- Modules that may be loaded: what is true of them, and back. -/
namespace Go.Abs
set_option linter.unusedSimpArgs false
set_option linter.unusedVariables false
open Go.Proofs Go.Nm Go.Wd
set_option linter.unusedVariables false
set_option maxRecDepth 8000
variable {H : Heap}
/-- Nothing is wrong with a module. -/
structure Mod.fine (m : Mod) : Prop where
  obj : m.obj = 0
  nms : decide (0 ≤ m.nmI) = false
  tws : decide (0 ≤ m.twI) = false
  co0 : (((m.co.length : Nat) : Int) == 0) = false
  coE : decide (((m.co.length : Nat) : Int) < m.ex.length) = false
  wds : decide (0 ≤ fi badW m.co) = false
  pls : decide (0 ≤ fi m.badP (List.range m.re.length)) = false
  fts : decide (0 ≤ fi (fun r => !m.fit r) m.re) = false
  ths : decide (0 ≤ fi (fun r => !m.thr r) m.re) = false
  lse : decide (0 ≤ fi m.loose (List.range m.co.length)) = false
theorem flt_eq (m : Mod) : m.flt = if m.obj != 0 then (1, 0) else if decide (0 ≤ m.nmI) then (2, m.nmI) else if decide (0 ≤ m.twI) then (3, m.twI) else
    if ((m.co.length : Nat) : Int) == 0 || decide (((m.co.length : Nat) : Int) < m.ex.length) then (4, 0) else if decide (0 ≤ fi badW m.co) then (5, fi badW m.co) else
    if decide (0 ≤ fi m.badP (List.range m.re.length)) then (6, fi m.badP (List.range m.re.length)) else if decide (0 ≤ fi (fun r => !m.fit r) m.re) then (7, fi (fun r => !m.fit r) m.re) else
    if decide (0 ≤ fi (fun r => !m.thr r) m.re) then (8, fi (fun r => !m.thr r) m.re) else if decide (0 ≤ fi m.loose (List.range m.co.length)) then (9, fi m.loose (List.range m.co.length)) else (0, 0) := by
  unfold Mod.flt
  cases q0 : (m.obj != 0) with
  | true => rfl
  | false =>
    rw [txt_alt (by simpa using q0)]
    unfold Mod.wrd Mod.rel
    generalize decide (0 ≤ m.nmI) = b1
    generalize decide (0 ≤ m.twI) = b2
    generalize (((m.co.length : Nat) : Int) == 0 || decide (((m.co.length : Nat) : Int) < m.ex.length)) = b3
    generalize decide (0 ≤ fi badW m.co) = b4
    cases b1
    · cases b2
      · cases b3
        · cases b4 <;> rfl
        · rfl
      · rfl
    · rfl
theorem fine_iff {m : Mod} : m.fine ↔ m.flt.1 = 0 := by
  rw [flt_eq]
  constructor
  · rintro ⟨h0, h1, h2, h3, h4, h5, h6, h7, h8, h9⟩
    rw [h0, h1, h2, h3, h4, h5, h6, h7, h8, h9]; rfl
  · intro h
    cases q0 : (m.obj != 0) with
    | true => rw [q0] at h; simp at h
    | false =>
      cases q1 : decide (0 ≤ m.nmI) with
      | true => rw [q0, q1] at h; simp at h
      | false => cases q2 : decide (0 ≤ m.twI) with
        | true => rw [q0, q1, q2] at h; simp at h
        | false => cases q3 : (((m.co.length : Nat) : Int) == 0) with
          | true => rw [q0, q1, q2, q3] at h; simp at h
          | false => cases q4 : decide (((m.co.length : Nat) : Int) < m.ex.length) with
            | true => rw [q0, q1, q2, q3, q4] at h; simp at h
            | false => cases q5 : decide (0 ≤ fi badW m.co) with
              | true => rw [q0, q1, q2, q3, q4, q5] at h; simp at h
              | false => cases q6 : decide (0 ≤ fi m.badP (List.range m.re.length)) with
                | true => rw [q0, q1, q2, q3, q4, q5, q6] at h; simp at h
                | false => cases q7 : decide (0 ≤ fi (fun r => !m.fit r) m.re) with
                  | true => rw [q0, q1, q2, q3, q4, q5, q6, q7] at h; simp at h
                  | false => cases q8 : decide (0 ≤ fi (fun r => !m.thr r) m.re) with
                    | true => rw [q0, q1, q2, q3, q4, q5, q6, q7, q8] at h; simp at h
                    | false => cases q9 : decide (0 ≤ fi m.loose (List.range m.co.length)) with
                      | true => rw [q0, q1, q2, q3, q4, q5, q6, q7, q8, q9] at h; simp at h
                      | false => exact ⟨by simpa using q0, q1, q2, q3, q4, q5, q6, q7, q8, q9⟩
theorem chk_fine {m : Mod} (h : (m.chk != 0) = false) : m.fine := fine_iff.2 (by
  unfold Mod.chk at h
  cases q : (m.flt.1 != 0) with
  | true => rw [q] at h; simp at h
  | false => simpa using q)
theorem fine_chk {m : Mod} (h : m.fine) : m.chk = 0 := by
  unfold Mod.chk; rw [fine_iff.1 h]; rfl
def encI (n : Nat) : Value := .int .i64 n
theorem eqInt (a b : Int) : eqTV Tryd.prog 9 3 (.s (.int .i64 a)) (.s (.int .i64 b)) = some (a == b) := by kernel_rfl
theorem rep_encI (w : World) (F : Nat → Prop) (n : Nat) : Rep w F (.s (.int .i64 n)) (encI n) := by simp only [Rep, encI]
theorem intK : KeyP Tryd.prog 3 encI where
  eq := fun w a b => by
    have h := eqTV_run (P := Tryd.prog) (w := w) (F := fun _ => True) (d' := 9991) (eqInt a b) (rep_encI w _ a) (rep_encI w _ b)
    have e : ((a : Int) == (b : Int)) = decide (a = b) := by rw [Bool.eq_iff_iff]; simp; omega
    rw [e] at h
    exact h
  chk := fun w e a => rfl
  under := ⟨_, rfl, fun a b => .inr (by
    have e : ((a : Int) == (b : Int)) = decide (a = b) := by rw [Bool.eq_iff_iff]; simp; omega
    rw [← e]; rfl)⟩
  same := fun a => by simp [Instr.sameBits, encI]
/-- The words of code that the first relocations name. -/
def Mod.keys (m : Mod) (i : Nat) : List Nat := ((m.re.take i).filter (fun r => r.spot.1)).map (·.a)
theorem keys_zero (m : Mod) : m.keys 0 = [] := by unfold Mod.keys; simp
theorem keys_succ {m : Mod} {i : Nat} {r : Rlc} (h : m.re[i]? = some r) : m.keys (i + 1) = if r.spot.1 then m.keys i ++ [r.a] else m.keys i := by
  unfold Mod.keys
  rw [List.take_add_one, h]
  simp only [Option.toList_some, List.filter_append, List.map_append]
  cases hq : r.spot.1 <;> simp [hq]
theorem keys_in {m : Mod} {i a : Nat} : inB a (m.keys i) = inB (true, a) ((m.re.take i).map Rlc.spot) := by
  unfold inB Mod.keys
  rw [Bool.eq_iff_iff]
  simp only [decide_eq_true_eq, List.mem_map, List.mem_filter]
  constructor
  · rintro ⟨r, ⟨h1, h2⟩, rfl⟩; exact ⟨r, h1, Prod.ext h2 rfl⟩
  · rintro ⟨r, h1, h2⟩; exact ⟨r, ⟨h1, congrArg Prod.fst h2⟩, congrArg Prod.snd h2⟩
theorem fine_re {m : Mod} (h : m.fine) {i : Nat} {r : Rlc} (hr : m.re[i]? = some r) : r.a < m.len r ∧ inB r.spot ((m.re.take i).map Rlc.spot) = false ∧ m.fit r = true := by
  have h1 := fi_all h.pls i (by rw [List.mem_range]; exact (List.getElem?_eq_some_iff.1 hr).1)
  unfold Mod.badP at h1
  rw [hr] at h1
  obtain ⟨h2, h3⟩ := Bool.or_eq_false_iff.1 h1
  have h3 := of_decide_eq_false h3
  refine ⟨by omega, h2, ?_⟩
  simpa using fi_all h.fts r (List.mem_of_getElem? hr)
theorem fine_co {m : Mod} (h : m.fine) {i w : Nat} (hw : m.co[i]? = some w) : (decE w != 0) = false ∧ (((dec w).o : Int) == 21) = false ∧ ((((dec w).o : Int) == 17) = true → inB i (m.keys m.re.length) = true) := by
  have h1 := fi_all h.wds w (List.mem_of_getElem? hw)
  unfold badW at h1
  obtain ⟨h2, h3⟩ := Bool.or_eq_false_iff.1 h1
  refine ⟨h2, h3, fun h4 => ?_⟩
  have h5 := fi_all h.lse i (by rw [List.mem_range]; exact (List.getElem?_eq_some_iff.1 hw).1)
  unfold Mod.loose at h5
  rw [hw] at h5
  simp only [h4, Bool.true_and] at h5
  rw [keys_in, List.take_length]
  simpa using h5
theorem k456 (k : Nat) : (dataK k = true → ((k : Int) == 4) = true ∨ (((k : Int) == 4) = false ∧ ((k : Int) == 5) = true) ∨ (((k : Int) == 4) = false ∧ ((k : Int) == 5) = false ∧ ((k : Int) == 6) = true)) ∧ (dataK k = false → ((k : Int) == 4) = false ∧ ((k : Int) == 5) = false ∧ ((k : Int) == 6) = false) := by
  unfold dataK
  cases ((k : Int) == 4) <;> cases ((k : Int) == 5) <;> cases ((k : Int) == 6) <;> simp
end Go.Abs
