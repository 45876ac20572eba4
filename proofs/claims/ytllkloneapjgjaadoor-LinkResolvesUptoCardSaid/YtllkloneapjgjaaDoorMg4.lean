import Derived.Test.YtllkloneapjgjaaDoorMg3
import Derived.Test.YtllkloneapjgjaaDoorAb23
import Derived.Test.YtllkloneapjgjaaDoorAb20
/- What modules export: what the program's functions make. -/
namespace Go.Abs
set_option linter.unusedSimpArgs false
set_option linter.unusedVariables false
set_option maxHeartbeats 4000000
open Go.Proofs Go.Nm Go.Wd
set_option linter.unusedVariables false
set_option maxRecDepth 8000
variable {H : Heap}
def strV (s : ByteArray) : Value := .string s
theorem eqStr (a b : ByteArray) : eqTV Tryd.prog 9 9 (.s (.string a)) (.s (.string b)) = some (a.toList == b.toList) := by kernel_rfl
theorem rep_strV (w : World) (F : Nat → Prop) (s : ByteArray) : Rep w F (.s (.string s)) (strV s) := by simp only [Rep, strV]
theorem ba_beq (a b : ByteArray) : (a == b) = decide (a = b) := by
  obtain ⟨x⟩ := a
  obtain ⟨y⟩ := b
  show (x == y) = _
  by_cases h : x = y
  · subst h; simp
  · rw [decide_eq_false (fun e => h (ByteArray.mk.inj e))]; simpa using h
theorem strK : KeyP Tryd.prog 9 strV where
  eq := fun w a b => by
    have h := eqTV_run (P := Tryd.prog) (w := w) (F := fun _ => True) (d' := 9991) (eqStr a b) (rep_strV w _ a) (rep_strV w _ b)
    rw [str_eq] at h
    exact h
  chk := fun w e a => rfl
  under := ⟨_, rfl, fun a b => .inr (by rw [← ba_beq]; rfl)⟩
  same := fun a => by simp [Instr.sameBits, strV, ba_beq]
/-- A name that a module exports. -/
structure Ent where
  nm : ByteArray
  md : ByteArray
  gt : Int
  ix : Int
  rf : Int
  deriving DecidableEq
def Ent.enc (e : Ent) : List TV := [.s (.string e.nm), .s (.string e.md), .s (.int .i64 e.gt), .s (.int .i64 e.ix), .s (.int .i64 e.rf)]
theorem Ent.enc_def (e : Ent) : e.enc = [.s (.string e.nm), .s (.string e.md), .s (.int .i64 e.gt), .s (.int .i64 e.ix), .s (.int .i64 e.rf)] := rfl
@[go_sem] theorem ent_len (e : Ent) : e.enc.length = 5 := id rfl
@[go_sem] theorem ent_one (e : Ent) : e.enc.all oneT = true := id rfl
@[go_sem] theorem ent_take (e : Ent) : e.enc.take 5 = e.enc := id rfl
@[go_sem] theorem ent_drop (e : Ent) : e.enc.drop 0 = e.enc := id rfl
def Ent.zero : Ent := ⟨ByteArray.empty, ByteArray.empty, 0, 0, 0⟩
/-- A table: its modules, its entries by name. -/
structure Sym where
  mods : List ByteArray
  ents : List (ByteArray × Ent)
def entR (l : List (ByteArray × Ent)) : Root := mapR strV (l.map fun p => (p.1, .agg p.2.enc))
theorem lenR_entR (l : List (ByteArray × Ent)) : lenR (some (entR l)) = some (l.length : Int) := by unfold entR; rw [lenR_mapR, List.length_map]
structure SymAt (H : Heap) (t mb eb : Nat) (S : Sym) : Prop where
  tab : H t = some (.cells [.s (.map (some mb)), .s (.map (some eb))])
  mod : H mb = some (setR strV S.mods)
  ent : H eb = some (entR S.ents)
def getE (k : ByteArray) : List (ByteArray × Ent) → Option Ent
  | [] => none
  | (a, e) :: l => if k = a then some e else getE k l
theorem getK_ent (k : ByteArray) : ∀ l : List (ByteArray × Ent), getK k (l.map fun p => (p.1, TV.agg p.2.enc)) = (getE k l).map fun e => .agg e.enc
  | [] => rfl
  | (a, e) :: l => by
    simp only [List.map_cons, getK, getE]
    by_cases h : k = a
    · rw [if_pos h, if_pos h]; rfl
    · rw [if_neg h, if_neg h]; exact getK_ent k l
theorem oc_ent {d : Option Tmp} {ty : TypeId} {pos : String} {aft : Array Edge} {g : Option (Nat × Bool)} {s x : Operand} {eb : Nat} {l : List (ByteArray × Ent)} (hm : H eb = some (entR l)) {k : ByteArray} {q : Bool} {o : Ent} (hq : (getE k l).isSome = q) (ho : (getE k l).getD Ent.zero = o) :
    OC Tryd.prog ⟨d, .lookup 70 s x true, ty, pos, aft, g⟩ [.s (.map (some eb)), .s (.string k)] H (fun r H' => r = .tup [.agg o.enc, .s (.bool q)] ∧ H' = H) := by
  have h := oc_lookup (d := d) (ty := ty) (pos := pos) (aft := aft) (g := g) (s := s) (x := x) (c := true) strK um70 zt77 hm (k := k) (kT := .s (.string k)) rep_s
  rw [getK_ent] at h
  refine OC.mono h fun r H' hr => ⟨hr.1.trans ?_, hr.2⟩
  subst hq ho
  cases getE k l <;> rfl
theorem newS_c (H : Heap) : AC Tryd.prog 8 [] H (fun r H' => ∃ t mb eb, r = .s (.pointer (some ⟨t, 0, none⟩)) ∧ H t = none ∧ H mb = none ∧ H eb = none ∧ t ≠ mb ∧ t ≠ eb ∧ mb ≠ eb ∧ H' = upd (upd (upd H mb (setR strV [])) eb (entR [])) t (.cells [.s (.map (some mb)), .s (.map (some eb))])) := by
  refine AC.body Tryd.func8 rfl rfl (n := 5) (res := [.tmp 0]) rfl rfl (by simp) ?_
  simp only [ent]
  (repeat' (first | refine wk ?_ | refine wk2 ?_ ?_ | with_reducible refine wkF fun _ _ _ => ?_ | with_reducible intro _ | refine Doing.fresh (oc_makeSet strV) fun _ _ _ => ?_ | exact ag | fail))
  rename_i mb hm hmn eb he hen t ht htn
  have g2 := Sub.gone (H := H) (Sub.upd (Sub.refl H) hm) he
  have g3 := Sub.gone (H := H) (Sub.upd (Sub.upd (Sub.refl H) hm) g2) ht
  have n1 : eb ≠ t := none_at ht (upd_self _ _ _)
  have n2 : mb ≠ eb := none_at he (upd_self _ _ _)
  have n3 : mb ≠ t := none_at ht (r := setR strV []) (by rw [upd_eq, if_neg n2]; exact upd_self _ _ _)
  refine fin1 ⟨t, mb, eb, ?_, g3, hm, g2, n3.symm, n1.symm, n2, rfl⟩
  rfl
theorem there_s {t mb eb : Nat} {S : Sym} (hS : SymAt H t mb eb S) (k : ByteArray) : AC Tryd.prog 25 [.s (.pointer (some ⟨t, 0, none⟩)), .s (.string k)] H (fun r H' => r = .s (.bool (getE k S.ents).isSome) ∧ H' = H) := by
  refine AC.body Tryd.func25 rfl rfl (n := 17) (res := [.tmp 4]) rfl rfl (by simp) ?_
  simp only [ent]
  obtain ⟨h1, h2, h3⟩ := hS
  (repeat' (first | refine wk ?_ | refine wk2 ?_ ?_ | with_reducible refine wkF fun _ _ _ => ?_ | with_reducible intro _ | refine Doing.eq (oc_ent (l := S.ents) (ag) rfl rfl) ?_ | exact ag | fail))
  exact fin0
theorem find_s {t mb eb : Nat} {S : Sym} (hS : SymAt H t mb eb S) (k : ByteArray) : AC Tryd.prog 30 [.s (.pointer (some ⟨t, 0, none⟩)), .s (.string k)] H (fun r H' => r = .tup [.agg ((getE k S.ents).getD Ent.zero).enc, .s (.int .i64 (if (getE k S.ents).isSome then 0 else 8))] ∧ H' = H) := by
  refine AC.body Tryd.func30 rfl rfl (n := 24) (res := [.cell 4 77, .tmp 5]) rfl rfl (by simp) ?_
  simp only [ent]
  obtain ⟨h1, h2, h3⟩ := hS
  have z : Ent.zero.enc = [.s (.string ByteArray.empty), .s (.string ByteArray.empty), .s (.int .i64 0), .s (.int .i64 0), .s (.int .i64 0)] := rfl
  cases hg : getE k S.ents with
  | none =>
    have q1 : (getE k S.ents).isSome = false := by rw [hg]; rfl
    have q2 : (getE k S.ents).getD Ent.zero = Ent.zero := by rw [hg]; rfl
    simp only [Option.isSome_none, Option.getD_none, Bool.false_eq_true, if_false, z]
    clear hg
    (repeat' (first | refine wk ?_ | refine wk2 ?_ ?_ | with_reducible refine wkF fun _ _ _ => ?_ | with_reducible intro _ | refine Doing.eq (oc_ent (l := S.ents) (ag) q1 q2) ?_ | exact ag | fail))
    exact fin0
  | some e =>
    have q1 : (getE k S.ents).isSome = true := by rw [hg]; rfl
    have q2 : (getE k S.ents).getD Ent.zero = e := by rw [hg]; rfl
    simp only [Option.isSome_some, Option.getD_some, if_true]
    clear hg
    (repeat' (first | refine wk ?_ | refine wk2 ?_ ?_ | with_reducible refine wkF fun _ _ _ => ?_ | with_reducible intro _ | refine Doing.eq (oc_ent (l := S.ents) (ag) q1 q2) ?_ | exact ag | fail))
    exact fin0
def Ent.slot (e : Ent) : Int := IntKind.u32.wrap (IntKind.i64.wrap (IntKind.i64.wrap (e.gt * 8) + e.ix))
theorem slot_c (e : Ent) (H : Heap) : AC Tryd.prog 31 [.agg e.enc] H (fun r H' => r = .s (.int .u32 e.slot) ∧ H' = H) := by
  refine AC.body Tryd.func31 rfl rfl (n := 10) (res := [.tmp 2]) rfl rfl (by simp) ?_
  simp only [ent]
  simp only [Ent.enc_def]
  (repeat' (first | refine wk ?_ | refine wk2 ?_ ?_ | with_reducible refine wkF fun _ _ _ => ?_ | with_reducible intro _ | exact ag | fail))
  exact fin0
end Go.Abs
/- What modules export: a module is added. -/
namespace Go.Abs
set_option linter.unusedSimpArgs false
set_option linter.unusedVariables false
set_option maxHeartbeats 4000000
open Go.Proofs Go.Nm Go.Wd
set_option linter.unusedVariables false
set_option maxRecDepth 8000
variable {H : Heap}
theorem ixfSB_c (L : List ByteArray) (hL : L.length < 4611686018427387904) (g : FuncId) (q : TV) (p : ByteArray → Bool) (H : Heap)
    (hp : ∀ x : ByteArray, x ∈ L → AC Tryd.prog g ([q] ++ [.s (.string x)] ++ []) H (fun r H' => r = .s (.bool (p x)) ∧ H' = H)) :
    AC Tryd.prog 41 [.vs 1 (L.map s1), .clo (.func g) [q] []] H (fun r H' => r = .s (.int .i64 (fi p L)) ∧ H' = H) := by
  refine AC.body Tryd.func41 rfl rfl (n := 19) (res := [.tmp 4]) rfl rfl (by simp) ?_
  simp only [ent]
  (repeat' (first | refine wk ?_ | refine wk2 ?_ ?_ | with_reducible refine wkF fun _ _ _ => ?_ | with_reducible intro _ | exact ag | fail))
  refine ARun.rounds (fun i : Nat => ⟨[(0, .vs 1 (L.map s1)), (1, .clo (.func g) [q] []), (7, .s (.int .i64 L.length)), (8, .s (.int .i64 i))], H⟩) (fun i => L.length - i) (fun i => i ≤ L.length ∧ noneB p L i) ?_ 0 ⟨by omega, .zero⟩ ?_
  · rintro i ⟨hi, hno⟩ next
    replace hno := later hno
    by_cases hlt : i < L.length
    · have h1 : (i : Int) < L.length := by omega
      have h2 : (0 : Int) ≤ i := by omega
      obtain ⟨x, hx⟩ := at_ hlt
      have hx1 := vget s1 hx
      have ha := hp x (List.mem_of_getElem? hx)
      simp only [List.nil_append, List.cons_append, List.append_nil] at ha
      have hw := w64s (i := i) (by omega)
      simp only [s1_def] at hx1 ha
      replace hp := later hp
      cases hpx : p x with
      | true =>
        rw [hpx] at ha
        rw [fi_some hx hpx hno.go]
        clear hx next
        (repeat' (first | refine wk ?_ | refine wk2 ?_ ?_ | with_reducible refine wkF fun _ _ _ => ?_ | with_reducible intro _ | refine Calling.eq (ha) ?_ | exact ag | fail))
        exact fin0
      | false =>
        rw [hpx] at ha
        replace hx := later hx
        (repeat' (first | refine wk ?_ | refine wk2 ?_ ?_ | with_reducible refine wkF fun _ _ _ => ?_ | with_reducible intro _ | refine Calling.eq (ha) ?_ | exact ag | fail))
        exact ARun.weaken (next.go (i + 1) ⟨by omega, hno.go.succ hx.go hpx⟩ (by omega)) (leK (Sub.refl _))
    · have h1 : decide ((i : Int) < L.length) = false := by simp; omega
      rw [fi_end (by omega) hno.go]
      clear next hp
      (repeat' (first | refine wk ?_ | refine wk2 ?_ ?_ | with_reducible refine wkF fun _ _ _ => ?_ | with_reducible intro _ | exact ag | fail))
      exact fin0
  · exact leK (Sub.refl _)

theorem cofSB_c (L : List ByteArray) (hL : L.length < 4611686018427387904) (g : FuncId) (q : TV) (p : ByteArray → Bool) (H : Heap)
    (hp : ∀ x : ByteArray, x ∈ L → AC Tryd.prog g ([q] ++ [.s (.string x)] ++ []) H (fun r H' => r = .s (.bool (p x)) ∧ H' = H)) :
    AC Tryd.prog 24 [.vs 1 (L.map s1), .clo (.func g) [q] []] H (fun r H' => r = .s (.bool (decide (0 ≤ fi p L))) ∧ H' = H) := by
  refine AC.body Tryd.func24 rfl rfl (n := 9) (res := [.tmp 4]) rfl rfl (by simp) ?_
  simp only [ent]
  have I := ixfSB_c L hL g q p H hp
  clear hp
  (repeat' (first | refine wk ?_ | refine wk2 ?_ ?_ | with_reducible refine wkF fun _ _ _ => ?_ | with_reducible intro _ | refine Calling.eq (I) ?_ | exact ag | fail))
  exact fin0

def addK {α : Type} [DecidableEq α] (ks : List α) (k : α) : List α := if k ∈ ks then ks else ks ++ [k]
def setOf {α : Type} [DecidableEq α] (l : List α) : List α := l.foldl addK []
theorem setOf_snoc {l : List ByteArray} {i : Nat} {x : ByteArray} (h : l[i]? = some x) : setOf (l.take (i + 1)) = addK (setOf (l.take i)) x := by
  unfold setOf; rw [List.take_add_one, h, Option.toList_some, List.foldl_append]; rfl
theorem badS_c {G : Heap} (g : GH G) (hs : Sub G H) {s : ByteArray} (hf : fits s) : AC Tryd.prog 22 [.s (.string s)] H (fun r H' => r = .s (.bool (badN s)) ∧ H' = H) := by
  refine AC.body Tryd.func22 rfl rfl (n := 6) (res := [.tmp 2]) rfl rfl (by simp) ?_
  simp only [ent]
  have C := check_c g hs hf
  unfold badN
  clear hf g hs
  (repeat' (first | refine wk ?_ | refine wk2 ?_ ?_ | with_reducible refine wkF fun _ _ _ => ?_ | with_reducible intro _ | refine Calling.eq (C) ?_ | exact ag | fail))
  exact fin0
/-- The entries of a module's first exports. -/
def entsOf (md : ByteArray) (gt : Int) (l : List ByteArray) : List (ByteArray × Ent) := l.zipIdx.map fun p => (p.1, ⟨p.1, md, gt, (p.2 : Nat), 0⟩)
theorem entsOf_snoc {md : ByteArray} {gt : Int} {l : List ByteArray} {i : Nat} {x : ByteArray} (h : l[i]? = some x) : entsOf md gt (l.take (i + 1)) = entsOf md gt (l.take i) ++ [(x, ⟨x, md, gt, (i : Nat), 0⟩)] := by
  have hi : i < l.length := (List.getElem?_eq_some_iff.1 h).1
  unfold entsOf
  rw [List.take_add_one, h, Option.toList_some, List.zipIdx_append, List.map_append]
  simp; omega
def putE (k : ByteArray) (e : Ent) : List (ByteArray × Ent) → List (ByteArray × Ent)
  | [] => [(k, e)]
  | (a, u) :: l => if k = a then (k, e) :: l else (a, u) :: putE k e l
theorem putK_ent (k : ByteArray) (e : Ent) : ∀ l : List (ByteArray × Ent), putK k (TV.agg e.enc) (l.map fun p => (p.1, TV.agg p.2.enc)) = (putE k e l).map fun p => (p.1, TV.agg p.2.enc)
  | [] => rfl
  | (a, u) :: l => by
    simp only [List.map_cons, putK, putE]
    by_cases h : k = a
    · rw [if_pos h, if_pos h]; rfl
    · rw [if_neg h, if_neg h, putK_ent k e l]; rfl
theorem putE_new {k : ByteArray} {e : Ent} : ∀ {l : List (ByteArray × Ent)}, (getE k l).isSome = false → putE k e l = l ++ [(k, e)]
  | [], _ => rfl
  | (a, u) :: l, h => by
    unfold getE at h
    by_cases q : k = a
    · rw [if_pos q] at h; cases h
    · rw [if_neg q] at h
      unfold putE
      rw [if_neg q, putE_new h]; rfl
theorem oc_putEnt {d : Option Tmp} {ty : TypeId} {pos : String} {aft : Array Edge} {g : Option (Nat × Bool)} {s x y : Operand} {eb : Nat} {l : List (ByteArray × Ent)} (hm : H eb = some (entR l)) {k : ByteArray} {e : Ent} :
    OC Tryd.prog ⟨d, .mapUpdate 70 s x y, ty, pos, aft, g⟩ [.s (.map (some eb)), .s (.string k), .agg e.enc] H (fun r H' => r = .any ∧ H' = upd H eb (entR (putE k e l))) := by
  have h := oc_mapUpdate (d := d) (ty := ty) (pos := pos) (aft := aft) (g := g) (s := s) (x := x) (y := y) strK um70 hm (k := k) (u := .agg e.enc) (kT := .s (.string k)) rep_s
  rw [putK_ent] at h
  exact h
theorem oc_putS {d : Option Tmp} {ty : TypeId} {pos : String} {aft : Array Edge} {g : Option (Nat × Bool)} {s x y : Operand} {m : Nat} {ks : List ByteArray} (hm : H m = some (setR strV ks)) {k : ByteArray} :
    OC Tryd.prog ⟨d, .mapUpdate 69 s x y, ty, pos, aft, g⟩ [.s (.map (some m)), .s (.string k), .s (.bool true)] H (fun r H' => r = .any ∧ H' = upd H m (setR strV (addK ks k))) :=
  oc_put (k := k) (kT := .s (.string k)) strK um69 hm rep_s
theorem oc_hasS {d : Option Tmp} {ty : TypeId} {pos : String} {aft : Array Edge} {g : Option (Nat × Bool)} {s x : Operand} {m : Nat} {ks : List ByteArray} (hm : H m = some (setR strV ks)) {k : ByteArray} {q : Bool} (hq : inB k ks = q) :
    OC Tryd.prog ⟨d, .lookup 69 s x false, ty, pos, aft, g⟩ [.s (.map (some m)), .s (.string k)] H (fun r H' => r = .s (.bool q) ∧ H' = H) :=
  oc_hasB (kT := .s (.string k)) hq strK um69 zt4 hm rep_s
/-- What Add tells, and leaves. -/
def Sym.addE (S : Sym) (md : ByteArray) (gt : Int) (ex : List ByteArray) : Int :=
  if badN md || decide (0 ≤ fi badN ex) then 6
  else if decide (gt < 0) || (decide (8 ≤ gt) || (decide ((8 : Int) < ex.length) || decide (((setOf ex).length : Int) < ex.length))) then 2
  else if inB md S.mods || decide (0 ≤ fi (fun s => (getE s S.ents).isSome) ex) then 9 else 0
def Sym.add (S : Sym) (md : ByteArray) (gt : Int) (ex : List ByteArray) : Sym :=
  if S.addE md gt ex = 0 then ⟨S.mods ++ [md], S.ents ++ entsOf md gt ex⟩ else S
theorem getE_app {k : ByteArray} : ∀ {l m : List (ByteArray × Ent)}, (getE k (l ++ m)).isSome = ((getE k l).isSome || (getE k m).isSome)
  | [], m => rfl
  | (a, u) :: l, m => by
    simp only [List.cons_append, getE]
    by_cases h : k = a
    · rw [if_pos h, if_pos h]; rfl
    · rw [if_neg h, if_neg h]; exact getE_app
theorem getE_mem {k : ByteArray} : ∀ {l : List (ByteArray × Ent)}, (getE k l).isSome = true ↔ k ∈ l.map (·.1)
  | [] => by simp [getE]
  | (a, u) :: l => by
    simp only [getE, List.map_cons, List.mem_cons]
    by_cases h : k = a
    · rw [if_pos h]; simp [h]
    · rw [if_neg h, getE_mem]; simp [h]
theorem entsOf_keys (md : ByteArray) (gt : Int) (l : List ByteArray) : (entsOf md gt l).map (·.1) = l := by
  unfold entsOf
  rw [List.map_map]
  apply List.ext_getElem?
  intro i
  rw [List.getElem?_map, List.getElem?_zipIdx]
  cases l[i]? <;> rfl
theorem setOf_mem {l : List ByteArray} : ∀ {ks : List ByteArray} {k : ByteArray}, k ∈ l.foldl addK ks ↔ k ∈ ks ∨ k ∈ l := by
  induction l with
  | nil => intro ks k; simp
  | cons x l ih =>
    intro ks k
    rw [List.foldl_cons, ih]
    unfold addK
    by_cases h : x ∈ ks
    · rw [if_pos h]; simp only [List.mem_cons]
      constructor
      · rintro (q | q); exact .inl q; exact .inr (.inr q)
      · rintro (q | q | q); exact .inl q; exact .inl (q ▸ h); exact .inr q
    · rw [if_neg h]; simp only [List.mem_append, List.mem_cons, List.not_mem_nil, or_false, or_assoc]
theorem setOf_len {l : List ByteArray} : ∀ {ks : List ByteArray}, (l.foldl addK ks).length ≤ ks.length + l.length ∧ ((l.foldl addK ks).length = ks.length + l.length ↔ l.Nodup ∧ ∀ x ∈ l, x ∉ ks) := by
  induction l with
  | nil => intro ks; simp
  | cons x l ih =>
    intro ks
    rw [List.foldl_cons]
    obtain ⟨h1, h2⟩ := ih (ks := addK ks x)
    by_cases h : x ∈ ks
    · have e : addK ks x = ks := if_pos h
      rw [e] at h1 h2 ⊢
      refine ⟨by simp; omega, ⟨fun q => by simp at q; omega, fun q => absurd h (q.2 x (by simp))⟩⟩
    · have e : addK ks x = ks ++ [x] := if_neg h
      rw [e] at h1 h2 ⊢
      rw [List.length_append, List.length_singleton] at h1 h2
      refine ⟨by simp; omega, ?_⟩
      rw [show ks.length + (x :: l).length = ks.length + 1 + l.length by simp; omega, h2, List.nodup_cons]
      constructor
      · rintro ⟨q1, q2⟩
        refine ⟨⟨fun hx => ?_, q1⟩, fun y hy => ?_⟩
        · exact q2 x hx (by simp)
        · rcases List.mem_cons.1 hy with rfl | hy
          · exact h
          · exact fun hk => q2 y hy (by simp [hk])
      · rintro ⟨⟨q1, q2⟩, q3⟩
        refine ⟨q2, fun y hy hk => ?_⟩
        rcases List.mem_append.1 hk with hk | hk
        · exact q3 y (by simp [hy]) hk
        · rw [List.mem_singleton.1 hk] at hy; exact q1 hy
theorem setOf_nodup {l : List ByteArray} : decide (((setOf l).length : Int) < l.length) = false ↔ l.Nodup := by
  have := setOf_len (l := l) (ks := [])
  unfold setOf
  simp only [List.length_nil, Nat.zero_add, List.not_mem_nil, not_false_eq_true, implies_true, and_true] at this
  rw [decide_eq_false_iff_not, ← this.2]
  omega
end Go.Abs
/- What modules export: Add, walked. -/
namespace Go.Abs
set_option linter.unusedSimpArgs false
set_option linter.unusedVariables false
set_option maxHeartbeats 4000000
open Go.Proofs Go.Nm Go.Wd
set_option linter.unusedVariables false
set_option maxRecDepth 8000
variable {H : Heap}
theorem upd_same {H : Heap} {b : Nat} {r : Root} (h : H b = some r) : upd H b r = H := by
  funext x
  rw [upd_eq]
  by_cases q : x = b
  · rw [if_pos q, q, h]
  · rw [if_neg q]
theorem Sym.add_no {S : Sym} {md : ByteArray} {gt : Int} {ex : List ByteArray} (h : S.addE md gt ex ≠ 0) : S.add md gt ex = S := if_neg h
theorem SymAt.same {H : Heap} {t mb eb : Nat} {S : Sym} (h : SymAt H t mb eb S) : upd (upd H mb (setR strV S.mods)) eb (entR S.ents) = H := by
  rw [upd_same h.mod, upd_same h.ent]
set_option maxHeartbeats 2000000 in
theorem addS_bad {G : Heap} (g : GH G) (hs : Sub G H) {t : Nat} {md : ByteArray} (hmd : fits md) {gt : Int} {ex : List ByteArray} (hex : ∀ s ∈ ex, fits s) (hl : ex.length < 4611686018427387904)
    (q1 : (badN md || decide (0 ≤ fi badN ex)) = true) :
    AC Tryd.prog 9 [.s (.pointer (some ⟨t, 0, none⟩)), .s (.string md), .s (.int .i64 gt), .vs 1 (ex.map s1)] H (fun r H' => r = .s (.int .i64 6) ∧ H' = H) := by
  refine AC.body Tryd.func9 rfl rfl (n := 88) (res := [.tmp 8]) rfl rfl (by simp) ?_
  simp only [ent]
  have B := badS_c g hs hmd
  have C := (cofS_c ex hl 22 [] badN H (fun x hx => badS_c g hs (hex x hx))).func
  clear hs g hmd hex hl
  cases q2 : badN md with
  | true =>
    rw [q2] at B
    clear q1
    (repeat' (first | refine wk ?_ | refine wk2 ?_ ?_ | with_reducible refine wkF fun _ _ _ => ?_ | with_reducible intro _ | refine Calling.eq (B) ?_ | refine Calling.eq (C) ?_ | exact ag | fail))
    exact fin0
  | false =>
    rw [q2, Bool.false_or] at q1
    rw [q2] at B
    rw [q1] at C
    (repeat' (first | refine wk ?_ | refine wk2 ?_ ?_ | with_reducible refine wkF fun _ _ _ => ?_ | with_reducible intro _ | refine Calling.eq (B) ?_ | refine Calling.eq (C) ?_ | exact ag | fail))
    exact fin0
theorem fi_nn {α : Type} {p : α → Bool} {l : List α} (h : decide (0 ≤ fi p l) = false) : ∀ y ∈ l, p y = false := by
  have h := of_decide_eq_false h
  unfold fi at h
  split at h
  · exact absurd (Int.natCast_nonneg _) h
  · rename_i hj
    exact fun y hy => by simpa using List.findIdx?_eq_none_iff.1 hj y hy
theorem not_take {α : Type} {l : List α} (h : l.Nodup) {i : Nat} {x : α} (hx : l[i]? = some x) : x ∉ l.take i := by
  intro hm
  obtain ⟨j, hj⟩ := List.mem_iff_getElem?.1 hm
  rw [List.getElem?_take] at hj
  split at hj
  · rename_i hji
    obtain ⟨hi, e1⟩ := List.getElem?_eq_some_iff.1 hx
    obtain ⟨hk, e2⟩ := List.getElem?_eq_some_iff.1 hj
    have := (List.getElem?_inj hi h).1 (hx.trans hj.symm)
    omega
  · cases hj
theorem fresh {S : Sym} {md : ByteArray} {gt : Int} {ex : List ByteArray} (h1 : decide (0 ≤ fi (fun s => (getE s S.ents).isSome) ex) = false) (h2 : decide (((setOf ex).length : Int) < ex.length) = false) {i : Nat} {x : ByteArray} (hx : ex[i]? = some x) :
    (getE x (S.ents ++ entsOf md gt (ex.take i))).isSome = false := by
  rw [getE_app, fi_nn h1 x (List.mem_of_getElem? hx), Bool.false_or, Bool.eq_false_iff, ne_eq, getE_mem, entsOf_keys]
  exact not_take (setOf_nodup.1 h2) hx
theorem addK_new {k : ByteArray} {ks : List ByteArray} (h : inB k ks = false) : addK ks k = ks ++ [k] := by unfold addK; rw [if_neg (by unfold inB at h; simpa using h)]
set_option maxHeartbeats 2000000 in
theorem addS_ok {G : Heap} (g : GH G) (hs : Sub G H) {t mb eb : Nat} {S : Sym} (hS : SymAt H t mb eb S) (n1 : t ≠ mb) (n2 : t ≠ eb) (n3 : mb ≠ eb) {md : ByteArray} (hmd : fits md) {gt : Int} {ex : List ByteArray} (hex : ∀ s ∈ ex, fits s) (hl : ex.length < 4611686018427387904)
    (q1 : (badN md || decide (0 ≤ fi badN ex)) = false) :
    AC Tryd.prog 9 [.s (.pointer (some ⟨t, 0, none⟩)), .s (.string md), .s (.int .i64 gt), .vs 1 (ex.map s1)] H (fun r H' => r = .s (.int .i64 (S.addE md gt ex)) ∧ H' = upd (upd H mb (setR strV (S.add md gt ex).mods)) eb (entR (S.add md gt ex).ents)) := by
  refine AC.body Tryd.func9 rfl rfl (n := 88) (res := [.tmp 8]) rfl rfl (by simp) ?_
  simp only [ent]
  have B := badS_c g hs hmd
  have C := (cofS_c ex hl 22 [] badN H (fun x hx => badS_c g hs (hex x hx))).func
  have T := fun (K : Heap) (k1 : K t = some (.cells [.s (.map (some mb)), .s (.map (some eb))])) (k2 : K mb = some (setR strV S.mods)) (k3 : K eb = some (entR S.ents)) => cofSB_c ex hl 25 (.s (.pointer (some ⟨t, 0, none⟩))) (fun s => (getE s S.ents).isSome) K (fun x _ => there_s ⟨k1, k2, k3⟩ x)
  have hS' := later hS.same
  obtain ⟨h1, h2, h3⟩ := hS
  clear hs g hmd hex
  have hA : S.addE md gt ex = if badN md || decide (0 ≤ fi badN ex) then 6
    else if decide (gt < 0) || (decide (8 ≤ gt) || (decide ((8 : Int) < ex.length) || decide (((setOf ex).length : Int) < ex.length))) then 2
    else if inB md S.mods || decide (0 ≤ fi (fun s => (getE s S.ents).isSome) ex) then 9 else 0 := rfl
  rw [q1, if_neg (by decide)] at hA
  replace hA := later hA
  simp only [Bool.or_eq_false_iff] at q1
  obtain ⟨q1, q2⟩ := q1
  rw [q1] at B
  rw [q2] at C
  (repeat' (first | refine wk ?_ | refine wk2 ?_ ?_ | with_reducible refine wkF fun _ _ _ => ?_ | with_reducible intro _ | refine Calling.eq (B) ?_ | refine Calling.eq (C) ?_ | refine Doing.fresh (oc_makeSet strV) fun _ _ _ => ?_ | exact ag | fail))
  clear B C q1 q2
  rename_i b hb hbn
  refine ARun.rounds (fun i : Nat => ⟨[(0, .s (.pointer (some ⟨t, 0, none⟩))), (1, .s (.string md)), (2, .s (.int .i64 gt)), (3, .vs 1 (ex.map s1)), (10, .s (.map (some b))), (26, .vs 1 (ex.map s1)), (27, .s (.int .i64 ex.length)), (28, .s (.int .i64 i))],
    upd H b (setR strV (setOf (ex.take i)))⟩) (fun i => ex.length - i) (fun i => i ≤ ex.length) ?_ 0 (by omega) ?_
  · rintro i hi next
    by_cases hlt : i < ex.length
    · have e1 : (i : Int) < ex.length := by omega
      have e2 : (0 : Int) ≤ i := by omega
      obtain ⟨x, hx⟩ := at_ hlt
      have hx1 := vget s1 hx
      rw [s1_def] at hx1
      have hw := w64s (i := i) (by omega)
      have nx := next.go (i + 1) (by omega) (by omega)
      simp only [setOf_snoc hx] at nx
      clear hx next
      (repeat' (first | refine wk ?_ | refine wk2 ?_ ?_ | with_reducible refine wkF fun _ _ _ => ?_ | with_reducible intro _ | refine Doing.eq (oc_putS (ks := setOf (ex.take i)) (ag)) ?_ | exact ag | fail))
      exact ARun.weaken nx (leK (by exact sb))
    · have e1 : decide ((i : Int) < ex.length) = false := by simp; omega
      obtain rfl : i = ex.length := by omega
      rw [List.take_length]
      clear next
      have hA' := hA.go
      clear hA
      cases qa : decide (gt < 0) || (decide (8 ≤ gt) || (decide ((8 : Int) < ex.length) || decide (((setOf ex).length : Int) < ex.length))) with
      | true =>
        rw [qa, if_pos rfl] at hA'
        have hn := Sym.add_no (S := S) (md := md) (gt := gt) (ex := ex) (by rw [hA']; decide)
        rw [hA', hn, hS'.go]
        clear hA' hn T hS'
        (repeat' (first | refine wk ?_ | refine wk2 ?_ ?_ | with_reducible refine wkF fun _ _ _ => ?_ | with_reducible intro _ | exact ag | fail))
        all_goals first | (exact fin0) | (exfalso; simp_all; done)
      | false =>
        rw [qa, if_neg (by decide)] at hA'
        simp only [Bool.or_eq_false_iff] at qa
        obtain ⟨qa, qb, qc, qd⟩ := qa
        cases qm : inB md S.mods with
        | true =>
          rw [qm, Bool.true_or, if_pos rfl] at hA'
          have hn := Sym.add_no (S := S) (md := md) (gt := gt) (ex := ex) (by rw [hA']; decide)
          rw [hA', hn, hS'.go]
          clear hA' hn T hS'
          (repeat' (first | refine wk ?_ | refine wk2 ?_ ?_ | with_reducible refine wkF fun _ _ _ => ?_ | with_reducible intro _ | refine Doing.eq (oc_hasS (ag) qm) ?_ | exact ag | fail))
          exact fin0
        | false =>
          rw [qm, Bool.false_or] at hA'
          cases qe : decide (0 ≤ fi (fun s => (getE s S.ents).isSome) ex) with
          | true =>
            rw [qe, if_pos rfl] at hA'
            have hn := Sym.add_no (S := S) (md := md) (gt := gt) (ex := ex) (by rw [hA']; decide)
            rw [hA', hn, hS'.go]
            rw [qe] at T
            clear hA' hn hS'
            (repeat' (first | refine wk ?_ | refine wk2 ?_ ?_ | with_reducible refine wkF fun _ _ _ => ?_ | with_reducible intro _ | refine Doing.eq (oc_hasS (ag) qm) ?_ | refine Calling.eq (T _ (ag) (ag) (ag)) ?_ | exact ag | fail))
            exact fin0
          | false =>
            rw [qe, if_neg (by decide)] at hA'
            have hn : S.add md gt ex = ⟨S.mods ++ [md], S.ents ++ entsOf md gt ex⟩ := if_pos hA'
            rw [hA', hn]
            have hk := addK_new qm
            have fr := fun (i : Nat) (x : ByteArray) (hx : ex[i]? = some x) => fresh (md := md) (gt := gt) qe qd hx
            replace fr := later fr
            rw [qe] at T
            clear hA' hn hS' qe
            have hu : upd H mb (setR strV (S.mods ++ [md])) eb = some (entR S.ents) := by rw [upd_eq, if_neg n3.symm]; exact h3
            have h0 := upd_same hu
            replace h0 := later h0
            (repeat' (first | refine wk ?_ | refine wk2 ?_ ?_ | with_reducible refine wkF fun _ _ _ => ?_ | with_reducible intro _ | refine Doing.eq (oc_hasS (ag) qm) ?_ | refine Calling.eq (T _ (ag) (ag) (ag)) ?_ | refine Doing.eq (oc_putS (ks := S.mods) (ag)) ?_ | exact ag | fail))
            refine ARun.rounds (fun i : Nat => ⟨[(0, .s (.pointer (some ⟨t, 0, none⟩))), (1, .s (.string md)), (2, .s (.int .i64 gt)), (70, .vs 1 (ex.map s1)), (71, .s (.int .i64 ex.length)), (72, .s (.int .i64 i))],
              upd (upd H mb (setR strV (S.mods ++ [md]))) eb (entR (S.ents ++ entsOf md gt (ex.take i)))⟩) (fun i => ex.length - i) (fun i => i ≤ ex.length) ?_ 0 (by omega) ?_
            · rintro i hi next
              by_cases hlt : i < ex.length
              · have e1 : (i : Int) < ex.length := by omega
                have e2 : (0 : Int) ≤ i := by omega
                obtain ⟨x, hx⟩ := at_ hlt
                have hx1 := vget s1 hx
                rw [s1_def] at hx1
                have hw := w64s (i := i) (by omega)
                have nx := next.go (i + 1) (by omega) (by omega)
                have e3 : S.ents ++ entsOf md gt (ex.take (i + 1)) = putE x ⟨x, md, gt, (i : Nat), 0⟩ (S.ents ++ entsOf md gt (ex.take i)) := by
                  rw [putE_new (fr.go i x hx), entsOf_snoc hx, List.append_assoc]
                simp only [e3] at nx
                clear hx next e3
                (repeat' (first | refine wk ?_ | refine wk2 ?_ ?_ | with_reducible refine wkF fun _ _ _ => ?_ | with_reducible intro _ | refine Doing.eq (oc_putEnt (l := S.ents ++ entsOf md gt (ex.take i)) (e := ⟨x, md, gt, (i : Nat), 0⟩) (ag)) ?_ | exact ag | fail))
                exact ARun.weaken nx (leK (by exact sb))
              · have e1 : decide ((i : Int) < ex.length) = false := by simp; omega
                obtain rfl : i = ex.length := by omega
                rw [List.take_length]
                clear next
                (repeat' (first | refine wk ?_ | refine wk2 ?_ ?_ | with_reducible refine wkF fun _ _ _ => ?_ | with_reducible intro _ | exact ag | fail))
                exact fin0
            · have e4 : S.ents ++ entsOf md gt (ex.take 0) = S.ents := List.append_nil _
              simp only [e4, h0.go, hk]
              exact leK (by exact sb)
  · exact leK (Sub.refl _)
theorem addS_c {G : Heap} (g : GH G) (hs : Sub G H) {t mb eb : Nat} {S : Sym} (hS : SymAt H t mb eb S) (n1 : t ≠ mb) (n2 : t ≠ eb) (n3 : mb ≠ eb) {md : ByteArray} (hmd : fits md) {gt : Int} {ex : List ByteArray} (hex : ∀ s ∈ ex, fits s) (hl : ex.length < 4611686018427387904) :
    AC Tryd.prog 9 [.s (.pointer (some ⟨t, 0, none⟩)), .s (.string md), .s (.int .i64 gt), .vs 1 (ex.map s1)] H (fun r H' => r = .s (.int .i64 (S.addE md gt ex)) ∧ H' = upd (upd H mb (setR strV (S.add md gt ex).mods)) eb (entR (S.add md gt ex).ents)) := by
  cases q : (badN md || decide (0 ≤ fi badN ex)) with
  | false => exact addS_ok g hs hS n1 n2 n3 hmd hex hl q
  | true =>
    have e : S.addE md gt ex = 6 := if_pos q
    rw [e, Sym.add_no (by rw [e]; decide), hS.same]
    exact addS_bad g hs hmd hex hl q
end Go.Abs
/- Where a module stands: what the program's functions make. -/
namespace Go.Abs
set_option linter.unusedSimpArgs false
set_option linter.unusedVariables false
set_option maxHeartbeats 4000000
open Go.Proofs Go.Nm Go.Wd
set_option linter.unusedVariables false
set_option maxRecDepth 8000
variable {H : Heap}
/-- Pages for so many words. -/
def upN (n : Nat) : Nat := (n + 15) / 16
theorem upN_le {n : Nat} : n ≤ 16 * upN n ∧ 16 * upN n ≤ n + 15 := by unfold upN; omega
theorem up_c {n : Nat} (hn : n < 4611686018427387904) (H : Heap) : AC Tryd.prog 38 [.s (.int .i64 n)] H (fun r H' => r = .s (.int .i64 (upN n : Nat)) ∧ H' = H) := by
  refine AC.body Tryd.func38 rfl rfl (n := 7) (res := [.tmp 2]) rfl rfl (by simp) ?_
  simp only [ent]
  have h1 : IntKind.i64.wrap ((n : Int) + 16) = ((n + 16 : Nat) : Int) := by rw [wi64 (by omega) (by omega)]; omega
  have h2 : IntKind.i64.wrap (((n + 16 : Nat) : Int) - 1) = ((n + 15 : Nat) : Int) := by rw [wi64 (by omega) (by omega)]; omega
  have h3 : IntKind.i64.wrap (((n + 15 : Nat) : Int).tdiv 16) = ((upN n : Nat) : Int) := by
    have e : ((n + 15 : Nat) : Int).tdiv 16 = ((upN n : Nat) : Int) := by
      rw [Int.tdiv_eq_ediv_of_nonneg (by omega)]; unfold upN; omega
    have := @upN_le n
    rw [e, wi64 (by omega) (by omega)]
  (repeat' (first | refine wk ?_ | refine wk2 ?_ ?_ | with_reducible refine wkF fun _ _ _ => ?_ | with_reducible intro _ | exact ag | fail))
  exact fin0
theorem mayP_c {n : Nat} (hn : n ≤ 256) (H : Heap) : AC Tryd.prog 36 [.s (.int .i64 n)] H (fun r H' => r = .s (.bool true) ∧ H' = H) := by
  refine AC.body Tryd.func36 rfl rfl (n := 9) (res := [.tmp 2]) rfl rfl (by simp) ?_
  simp only [ent]
  have h1 : decide ((0 : Int) ≤ n) = true := by simp
  have h2 : decide ((n : Int) ≤ 256) = true := by simp; omega
  (repeat' (first | refine wk ?_ | refine wk2 ?_ ?_ | with_reducible refine wkF fun _ _ _ => ?_ | with_reducible intro _ | exact ag | fail))
  exact fin0
theorem of_cl {m : Mod} (hm : m.ok) (H : Heap) : AC Tryd.prog 17 [m.tv] H (fun r H' => r = .agg [.s (.int .i64 (upN m.co.length : Nat)), .s (.int .i64 (upN m.da.length : Nat))] ∧ H' = H) := by
  refine AC.body Tryd.func17 rfl rfl (n := 12) (res := [.cell 2 56]) rfl rfl (by simp) ?_
  simp only [ent]
  simp only [Mod.tv_def]
  have U1 := fun H => up_c hm.lco H
  have U2 := fun H => up_c hm.lda H
  clear hm
  (repeat' (first | refine wk ?_ | refine wk2 ?_ ?_ | with_reducible refine wkF fun _ _ _ => ?_ | with_reducible intro _ | exact ag | fail))
  refine ARun.drawB mixed [([], [0, 1, 2, 4, 5, 6], some 3), ([0, 1, 4, 5, 6], [], some 7), ([0, 1, 2, 4, 5], [8], some 9), ([], [], none)] (by kernel_rfl) (by rfl) ?_
  (repeat' (first | refine wk ?_ | refine wk2 ?_ ?_ | with_reducible refine wkF fun _ _ _ => ?_ | with_reducible intro _ | refine Calling.eq (U1 _) ?_ | refine Calling.eq (U2 _) ?_ | exact ag | fail))
  exact fin0
@[go_sem] theorem egPlan : Tryd.prog.eqGuardType Tryd.prog.depth 56 = false := by kernel_rfl
@[go_sem] theorem eqPlan (a b c d : Int) : eqTV Tryd.prog 9 56 (.agg [.s (.int .i64 a), .s (.int .i64 b)]) (.agg [.s (.int .i64 c), .s (.int .i64 d)]) = some ((a == c) && ((b == d) && true)) := by kernel_rfl
theorem pages_c {a b : Nat} (ha : a ≤ 256) (hb : b ≤ 256) (h : 0 < a + b) (H : Heap) : AC Tryd.prog 35 [.agg [.s (.int .i64 a), .s (.int .i64 b)]] H (fun r H' => r = .s (.int .i64 (a + b : Nat)) ∧ H' = H) := by
  refine AC.body Tryd.func35 rfl rfl (n := 23) (res := [.tmp 2]) rfl rfl (by simp) ?_
  simp only [ent]
  have M1 := fun H => mayP_c ha H
  have M2 := fun H => mayP_c hb H
  have h1 : IntKind.i64.wrap ((a : Int) + b) = ((a + b : Nat) : Int) := by rw [wi64 (by omega) (by omega)]; omega
  have h2 : (((a : Int) == 0) && (((b : Int) == 0) && true)) = false := by
    rw [Bool.and_true, Bool.and_eq_false_iff]; simp; omega
  clear ha hb h
  (repeat' (first | refine wk ?_ | refine wk2 ?_ ?_ | with_reducible refine wkF fun _ _ _ => ?_ | with_reducible intro _ | refine Calling.eq (M1 _) ?_ | refine Calling.eq (M2 _) ?_ | exact ag | fail))
  all_goals exact fin0
theorem wordsL_c {a b : Nat} (ha : a ≤ 256) (hb : b ≤ 256) (h : 0 < a + b) (H : Heap) : AC Tryd.prog 19 [.agg [.s (.int .i64 a), .s (.int .i64 b)]] H (fun r H' => r = .s (.int .i64 (16 * (a + b) : Nat)) ∧ H' = H) := by
  refine AC.body Tryd.func19 rfl rfl (n := 6) (res := [.tmp 2]) rfl rfl (by simp) ?_
  simp only [ent]
  have P := fun H => pages_c ha hb h H
  have h1 : IntKind.i64.wrap (((a + b : Nat) : Int) * 16) = ((16 * (a + b) : Nat) : Int) := by rw [wi64 (by omega) (by omega)]; omega
  clear ha hb h
  (repeat' (first | refine wk ?_ | refine wk2 ?_ ?_ | with_reducible refine wkF fun _ _ _ => ?_ | with_reducible intro _ | refine Calling.eq (P _) ?_ | exact ag | fail))
  exact fin0
theorem address_c {n : Nat} (hn : n ≤ 512) (H : Heap) : AC Tryd.prog 37 [.s (.int .i64 n)] H (fun r H' => r = .s (.int .u32 (80 + 16 * n : Nat)) ∧ H' = H) := by
  refine AC.body Tryd.func37 rfl rfl (n := 7) (res := [.tmp 2]) rfl rfl (by simp) ?_
  simp only [ent]
  have h1 : IntKind.i64.wrap ((n : Int) * 16) = ((16 * n : Nat) : Int) := by rw [wi64 (by omega) (by omega)]; omega
  have h2 : IntKind.i64.wrap (80 + ((16 * n : Nat) : Int)) = ((80 + 16 * n : Nat) : Int) := by rw [wi64 (by omega) (by omega)]; omega
  have h3 : IntKind.u32.wrap ((80 + 16 * n : Nat) : Int) = ((80 + 16 * n : Nat) : Int) := w32 (by omega) (by omega)
  (repeat' (first | refine wk ?_ | refine wk2 ?_ ?_ | with_reducible refine wkF fun _ _ _ => ?_ | with_reducible intro _ | exact ag | fail))
  exact fin0
theorem at_no {a b f : Nat} (ha : a ≤ 256) (hb : b ≤ 256) (h : 0 < a + b) (hf : f ≤ 256) (hn : 256 < f + (a + b)) (H : Heap) : AC Tryd.prog 16 [.agg [.s (.int .i64 a), .s (.int .i64 b)], .s (.int .i64 f)] H (fun r H' => r = .tup [.agg [.s (.int .u32 0), .s (.int .u32 0)], .s (.int .i64 11)] ∧ H' = H) := by
  refine AC.body Tryd.func16 rfl rfl (n := 32) (res := [.cell 4 52, .tmp 5]) rfl rfl (by simp) ?_
  simp only [ent]
  have P := fun H => pages_c ha hb h H
  have M := fun H => mayP_c hf H
  have h1 : ((((a + b : Nat) : Int)) == 0) = false := by simp; omega
  have h2 : IntKind.i64.wrap (256 - ((a + b : Nat) : Int)) = 256 - ((a + b : Nat) : Int) := wi64 (by omega) (by omega)
  have h3 : decide (256 - ((a + b : Nat) : Int) < (f : Int)) = true := by simp; omega
  clear ha hb h hf hn
  (repeat' (first | refine wk ?_ | refine wk2 ?_ ?_ | with_reducible refine wkF fun _ _ _ => ?_ | with_reducible intro _ | refine Calling.eq (P _) ?_ | refine Calling.eq (M _) ?_ | exact ag | fail))
  exact fin0
theorem at_ok {a b f : Nat} (ha : a ≤ 256) (hb : b ≤ 256) (h : 0 < a + b) (hf : f ≤ 256) (hn : f + (a + b) ≤ 256) (H : Heap) : AC Tryd.prog 16 [.agg [.s (.int .i64 a), .s (.int .i64 b)], .s (.int .i64 f)] H (fun r H' => r = .tup [.agg [.s (.int .u32 (80 + 16 * f : Nat)), .s (.int .u32 (80 + 16 * (f + a) : Nat))], .s (.int .i64 0)] ∧ H' = H) := by
  refine AC.body Tryd.func16 rfl rfl (n := 32) (res := [.cell 4 52, .tmp 5]) rfl rfl (by simp) ?_
  simp only [ent]
  have P := fun H => pages_c ha hb h H
  have M := fun H => mayP_c hf H
  have A1 := fun H => address_c (n := f) (by omega) H
  have A2 := fun H => address_c (n := f + a) (by omega) H
  have h1 : ((((a + b : Nat) : Int)) == 0) = false := by simp; omega
  have h2 : IntKind.i64.wrap (256 - ((a + b : Nat) : Int)) = 256 - ((a + b : Nat) : Int) := wi64 (by omega) (by omega)
  have h3 : decide (256 - ((a + b : Nat) : Int) < (f : Int)) = false := by simp; omega
  have h4 : IntKind.i64.wrap ((f : Int) + a) = ((f + a : Nat) : Int) := by rw [wi64 (by omega) (by omega)]; omega
  clear ha hb h hf hn
  (repeat' (first | refine wk ?_ | refine wk2 ?_ ?_ | with_reducible refine wkF fun _ _ _ => ?_ | with_reducible intro _ | refine Calling.eq (P _) ?_ | refine Calling.eq (M _) ?_ | exact ag | fail))
  refine ARun.drawB mixed [([], [0, 2, 3, 4, 5], some 1), ([2, 3, 4, 5], [], some 6), ([0, 2, 3, 4], [7], some 8), ([], [9], none)] (by kernel_rfl) (by rfl) ?_
  (repeat' (first | refine wk ?_ | refine wk2 ?_ ?_ | with_reducible refine wkF fun _ _ _ => ?_ | with_reducible intro _ | refine Calling.eq (A1 _) ?_ | refine Calling.eq (A2 _) ?_ | exact ag | fail))
  exact fin0
/-- What a word is: in code or in data, where, and whether it is there. -/
def Mod.spot (m : Mod) (i : Nat) : Bool × Nat × Bool := if i < m.co.length then (true, i, true) else if 16 * upN m.co.length ≤ i ∧ i - 16 * upN m.co.length < m.da.length then (false, i - 16 * upN m.co.length, true) else (false, 0, false)
theorem spotL_c {m : Mod} (hm : m.ok) {i : Nat} (hi : i < 4611686018427387904) (H : Heap) : AC Tryd.prog 20 [m.tv, .s (.int .i64 i)] H (fun r H' => r = .tup [.s (.bool (m.spot i).1), .s (.int .i64 ((m.spot i).2.1 : Nat)), .s (.bool (m.spot i).2.2)] ∧ H' = H) := by
  refine AC.body Tryd.func20 rfl rfl (n := 32) (res := [.tmp 4, .tmp 5, .tmp 6]) rfl rfl (by simp) ?_
  simp only [ent]
  have U1 := fun H => up_c hm.lco H
  have hl := hm.lco
  have hu := @upN_le m.co.length
  have h0 : decide ((i : Int) < 0) = false := by simp
  simp only [Mod.tv_def]
  unfold Mod.spot
  have h3 : IntKind.i64.wrap (((upN m.co.length : Nat) : Int) * 16) = 16 * ((upN m.co.length : Nat) : Int) := by rw [wi64 (by omega) (by omega)]; omega
  have h4 : IntKind.i64.wrap ((i : Int) - 16 * ((upN m.co.length : Nat) : Int)) = (i : Int) - 16 * ((upN m.co.length : Nat) : Int) := wi64 (by omega) (by omega)
  clear hm
  by_cases q1 : i < m.co.length
  · rw [if_pos q1]
    have h1 : decide ((i : Int) < m.co.length) = true := by simp; omega
    clear hl hu q1
    (repeat' (first | refine wk ?_ | refine wk2 ?_ ?_ | with_reducible refine wkF fun _ _ _ => ?_ | with_reducible intro _ | refine Calling.eq (U1 _) ?_ | exact ag | fail))
    exact fin0
  · rw [if_neg q1]
    have h1 : decide ((i : Int) < m.co.length) = false := by simp; omega
    by_cases q2 : 16 * upN m.co.length ≤ i
    · have h5 : decide ((i : Int) - 16 * ((upN m.co.length : Nat) : Int) < 0) = false := by simp; omega
      by_cases q3 : i - 16 * upN m.co.length < m.da.length
      · rw [if_pos ⟨q2, q3⟩]
        have h6 : decide ((m.da.length : Int) ≤ (i : Int) - 16 * ((upN m.co.length : Nat) : Int)) = false := by simp; omega
        have h7 : (((i - 16 * upN m.co.length : Nat)) : Int) = (i : Int) - 16 * ((upN m.co.length : Nat) : Int) := by omega
        simp only [h7]
        clear hl hu q1 q2 q3 h7
        (repeat' (first | refine wk ?_ | refine wk2 ?_ ?_ | with_reducible refine wkF fun _ _ _ => ?_ | with_reducible intro _ | refine Calling.eq (U1 _) ?_ | exact ag | fail))
        exact fin0
      · rw [if_neg (fun h => q3 h.2)]
        have h6 : decide ((m.da.length : Int) ≤ (i : Int) - 16 * ((upN m.co.length : Nat) : Int)) = true := by simp; omega
        clear hl hu q1 q2 q3
        (repeat' (first | refine wk ?_ | refine wk2 ?_ ?_ | with_reducible refine wkF fun _ _ _ => ?_ | with_reducible intro _ | refine Calling.eq (U1 _) ?_ | exact ag | fail))
        exact fin0
    · rw [if_neg (fun h => q2 h.1)]
      have h5 : decide ((i : Int) - 16 * ((upN m.co.length : Nat) : Int) < 0) = true := by simp; omega
      clear hl hu q1 q2
      (repeat' (first | refine wk ?_ | refine wk2 ?_ ?_ | with_reducible refine wkF fun _ _ _ => ?_ | with_reducible intro _ | refine Calling.eq (U1 _) ?_ | exact ag | fail))
      exact fin0
theorem spot_lt {m : Mod} {i : Nat} (h : (m.spot i).2.2 = true) : (m.spot i).2.1 < if (m.spot i).1 then m.co.length else m.da.length := by
  unfold Mod.spot at h ⊢
  split
  · rename_i q; simpa using q
  · rename_i q
    rw [if_neg q] at h
    split
    · rename_i q2; simpa using q2.2
    · rename_i q2; rw [if_neg q2] at h; cases h
/-- A word as the module has it. -/
def Mod.raw (m : Mod) (i : Nat) : Nat := if (m.spot i).2.2 then if (m.spot i).1 then m.co.getD (m.spot i).2.1 0 else m.da.getD (m.spot i).2.1 0 else 0
theorem raw_c {m : Mod} (hm : m.ok) {i : Nat} (hi : i < 4611686018427387904) (H : Heap) : AC Tryd.prog 21 [m.tv, .s (.int .i64 i)] H (fun r H' => r = .s (.int .u32 (m.raw i : Nat)) ∧ H' = H) := by
  refine AC.body Tryd.func21 rfl rfl (n := 30) (res := [.tmp 4]) rfl rfl (by simp) ?_
  simp only [ent]
  have S := fun H => spotL_c hm hi H
  have hlt := @spot_lt m i
  unfold Mod.raw
  simp only [Mod.tv_def] at S ⊢
  clear hm
  generalize m.spot i = p at *
  obtain ⟨c, a, k⟩ := p
  simp only [] at S hlt ⊢
  have h0 : (0 : Int) ≤ a := by omega
  cases k with
  | false =>
    simp only [Bool.false_eq_true, if_false]
    (repeat' (first | refine wk ?_ | refine wk2 ?_ ?_ | with_reducible refine wkF fun _ _ _ => ?_ | with_reducible intro _ | refine Calling.eq (S _) ?_ | exact ag | fail))
    exact fin0
  | true =>
    replace hlt := hlt rfl
    cases c with
    | true =>
      simp only [if_true] at hlt ⊢
      obtain ⟨x, hx⟩ := at_ hlt
      have hx1 := vget u1 hx
      rw [u1_def] at hx1
      have hd : m.co.getD a 0 = x := by simp [List.getD_eq_getElem?_getD, hx]
      rw [hd]
      clear hd hx
      (repeat' (first | refine wk ?_ | refine wk2 ?_ ?_ | with_reducible refine wkF fun _ _ _ => ?_ | with_reducible intro _ | refine Calling.eq (S _) ?_ | exact ag | fail))
      exact fin0
    | false =>
      simp only [Bool.false_eq_true, if_false, if_true] at hlt ⊢
      obtain ⟨x, hx⟩ := at_ hlt
      have hx1 := vget u1 hx
      rw [u1_def] at hx1
      have hd : m.da.getD a 0 = x := by simp [List.getD_eq_getElem?_getD, hx]
      rw [hd]
      clear hd hx
      (repeat' (first | refine wk ?_ | refine wk2 ?_ ?_ | with_reducible refine wkF fun _ _ _ => ?_ | with_reducible intro _ | refine Calling.eq (S _) ?_ | exact ag | fail))
      exact fin0
end Go.Abs
/- Addresses in words: what the program's functions make. -/
namespace Go.Abs
set_option linter.unusedSimpArgs false
set_option linter.unusedVariables false
set_option maxHeartbeats 4000000
open Go.Proofs Go.Nm Go.Wd
set_option linter.unusedVariables false
set_option maxRecDepth 8000
variable {H : Heap}
/-- An instruction's number stands in its lowest bits. -/
theorem bit_enc {o d a v i : Nat} (hv : v < 2 ^ 21) (hi : i < 21) : (encN o d a 0 (v : Int)).testBit i = v.testBit i := by
  unfold encN
  have c : cutN (v : Int) = v := by unfold cutN; omega
  rw [c, Nat.or_zero, withN_bit _ _ _ _ _ (withN_lt _ _ _ _) (by decide) (by omega), if_neg (by omega), withN_bit _ _ _ _ _ (withN_lt _ _ _ _) (by decide) (by omega), if_neg (by omega), withN_bit _ _ _ _ _ (by omega) (by decide) (by omega), if_neg (by omega)]
theorem bit_high {o d a v i : Nat} (hv : v < 2 ^ 21) (hi : 21 ≤ i) : (encN o d a 0 (v : Int)).testBit i = (encN o d a 0 0).testBit i := by
  by_cases h32 : i < 32
  · unfold encN
    have c : cutN (v : Int) = v := by unfold cutN; omega
    have c0 : cutN 0 = 0 := rfl
    rw [c, c0, Nat.or_zero, Nat.or_zero]
    have hb : v.testBit i = false := Nat.testBit_lt_two_pow (Nat.lt_of_lt_of_le hv (Nat.pow_le_pow_right (by decide) hi))
    rw [withN_bit _ _ _ _ _ (withN_lt _ _ _ _) (by decide) h32, withN_bit _ _ _ _ _ (withN_lt _ _ _ _) (by decide) h32, withN_bit _ _ _ _ _ (by omega) (by decide) h32]
    rw [withN_bit _ _ _ _ _ (withN_lt _ _ _ _) (by decide) h32, withN_bit _ _ _ _ _ (withN_lt _ _ _ _) (by decide) h32, withN_bit _ _ _ _ _ (by decide) (by decide) h32, hb, Nat.zero_testBit]
  · have h : ∀ v : Int, (encN o d a 0 v).testBit i = false := fun v => Nat.testBit_lt_two_pow (Nat.lt_of_lt_of_le (withN_lt _ _ _ _) (Nat.pow_le_pow_right (by decide) (by omega)))
    rw [h, h]
theorem enc_add {o d a v : Nat} (hv : v < 2 ^ 21) : encN o d a 0 (v : Int) = encN o d a 0 0 + v := by
  have e : encN o d a 0 0 = 2 ^ 21 * (encN o d a 0 0 / 2 ^ 21) := by
    have : encN o d a 0 0 % 2 ^ 21 = 0 := by
      apply Nat.eq_of_testBit_eq
      intro i
      rw [Nat.testBit_mod_two_pow, Nat.zero_testBit]
      by_cases hi : i < 21
      · have := bit_enc (o := o) (d := d) (a := a) (v := 0) (i := i) (by decide) hi
        rw [Nat.zero_testBit] at this
        rw [show encN o d a 0 0 = encN o d a 0 ((0 : Nat) : Int) from rfl, this]; simp
      · simp [hi]
    omega
  rw [e, Nat.two_pow_add_eq_or_of_lt hv, ← e]
  apply Nat.eq_of_testBit_eq
  intro i
  rw [Nat.testBit_or]
  by_cases hi : i < 21
  · have := bit_enc (o := o) (d := d) (a := a) (v := 0) (i := i) (by decide) hi
    rw [Nat.zero_testBit] at this
    rw [bit_enc hv hi, show encN o d a 0 0 = encN o d a 0 ((0 : Nat) : Int) from rfl, this]; simp
  · rw [bit_high hv (by omega), Nat.testBit_lt_two_pow (x := v) (Nat.lt_of_lt_of_le hv (Nat.pow_le_pow_right (by decide) (by omega)))]; simp
/-- A word that an address goes to. -/
def fitW (k w : Nat) : Bool := if ((k : Int) == 0) || ((k : Int) == 7) then same5 (dec w) ⟨17, 0, 0, 0, 0⟩ else (((dec w).o : Int) == 2) && ((dec w).i == 0)
theorem fitW_dec {k w : Nat} (h : fitW k w = true) : decE w = 0 ∧ (dec w).b = 0 ∧ (dec w).i = 0 ∧ (((((k : Int) == 0) || ((k : Int) == 7)) = true ∧ (dec w).o = 17 ∧ (dec w).d = 0 ∧ (dec w).a = 0) ∨ ((((k : Int) == 0) || ((k : Int) == 7)) = false ∧ (dec w).o = 2)) ∧ w = encN (dec w).o (dec w).d (dec w).a 0 0 ∧ (dec w).chk = 0 := by
  have ho : (dec w).o = 17 ∨ (dec w).o = 2 := by
    unfold fitW at h
    split at h
    · unfold same5 at h; simp at h; omega
    · simp at h; omega
  by_cases hk : insOk w = true
  · have hd : dec w = parts w := if_pos hk
    have hi : (dec w).i = 0 := by
      unfold fitW at h
      split at h
      · unfold same5 at h; simp at h; omega
      · simp at h; omega
    have hb : (dec w).b = 0 := by
      rw [hd] at ho ⊢
      unfold parts at ho ⊢
      simp only [] at ho ⊢
      have e : (opN w : Int) = ((bitsN w 27 5 : Nat) : Int) := rfl
      rcases ho with ho | ho <;> rw [e, ho] <;> rfl
    have hk' := hk
    unfold insOk at hk'
    obtain ⟨hc, hw⟩ := Bool.and_eq_true_iff.1 hk'
    have hc := of_decide_eq_true hc
    have hw := beq_iff_eq.1 hw
    unfold Ins.word at hw
    rw [if_pos hc, ← hd, hb, hi] at hw
    refine ⟨if_pos hk, hb, hi, ?_, hw.symm, by rw [hd]; exact hc⟩
    unfold fitW at h
    split at h
    · rename_i q
      unfold same5 at h
      simp at h
      exact .inl ⟨q, by omega, by omega, by omega⟩
    · rename_i q
      simp at h
      exact .inr ⟨by simpa using q, by omega⟩
  · have : dec w = Ins.zero := if_neg hk
    rw [this] at ho
    rcases ho with ho | ho <;> cases ho
theorem blank_c {k w : Nat} (hw : w < 2 ^ 32) (h : fitW k w = true) (H : Heap) : AC Tryd.prog 75 [.s (.int .u32 w), .s (.int .u8 k)] H (fun r H' => r = .tup [.agg (dec w).enc, .s (.int .i32 0), .s (.int .i64 0)] ∧ H' = H) := by
  refine AC.body Tryd.func75 rfl rfl (n := 47) (res := [.cell 4 117, .tmp 5, .tmp 6]) rfl rfl (by simp) ?_
  simp only [ent]
  have D := fun H => decode_c (H := H) hw
  obtain ⟨h1, h2, h3, h4, -⟩ := fitW_dec h
  rw [h1, Ins.enc_def, h2, h3] at D
  rw [Ins.enc_def, h2, h3]
  clear h h1 h2 h3
  rcases h4 with ⟨q, e1, e2, e3⟩ | ⟨q, e1⟩
  · rw [e1, e2, e3] at D ⊢
    clear e1 e2 e3
    cases q0 : ((k : Int) == 0) with
    | true =>
      (repeat' (first | refine wk ?_ | refine wk2 ?_ ?_ | with_reducible refine wkF fun _ _ _ => ?_ | with_reducible intro _ | refine Calling.eq (D _) ?_ | exact ag | fail))
      all_goals exact fin0
    | false =>
      rw [q0, Bool.false_or] at q
      (repeat' (first | refine wk ?_ | refine wk2 ?_ ?_ | with_reducible refine wkF fun _ _ _ => ?_ | with_reducible intro _ | refine Calling.eq (D _) ?_ | exact ag | fail))
      all_goals exact fin0
  · rw [e1] at D ⊢
    clear e1
    obtain ⟨q0, q7⟩ := Bool.or_eq_false_iff.1 q
    (repeat' (first | refine wk ?_ | refine wk2 ?_ ?_ | with_reducible refine wkF fun _ _ _ => ?_ | with_reducible intro _ | refine Calling.eq (D _) ?_ | exact ag | fail))
    all_goals exact fin0
theorem dec_lt (w : Nat) : (dec w).ok := by
  unfold dec
  split
  · exact parts_ok w
  · exact ⟨by decide, by decide, by decide, by decide, by decide, by decide⟩
/-- The instruction with an address in it. -/
theorem enc_at {k w v : Nat} (h : fitW k w = true) (hv : v < 2 ^ 20) : (⟨(dec w).o, (dec w).d, (dec w).a, (dec w).b, (v : Int)⟩ : Ins).chk = 0 ∧ (⟨(dec w).o, (dec w).d, (dec w).a, (dec w).b, (v : Int)⟩ : Ins).word = w + v := by
  obtain ⟨h1, h2, h3, h4, h5, h6⟩ := fitW_dec h
  have hchk : (⟨(dec w).o, (dec w).d, (dec w).a, (dec w).b, (v : Int)⟩ : Ins).chk = 0 := by
    unfold Ins.chk at h6 ⊢
    simp only [] at h6 ⊢
    have hz := check_zero h6
    unfold checkR badR
    obtain ⟨z1, z2, z3, z4, z5, _⟩ := hz
    have hf : fits21 (v : Int) = true := by unfold fits21; simp; omega
    have ho : (dec w).o = 17 ∨ (dec w).o = 2 := by rcases h4 with h4 | h4; exact .inl h4.2.1; exact .inr h4.2
    have hu : (usesR (((dec w).o : Nat) : Int)).2.2.2 = true := by rcases ho with ho | ho <;> rw [ho] <;> rfl
    rw [z2, z3, z4, hu, hf]
    have hd : decide ((21 : Int) < ((dec w).o : Nat)) = false := by rcases ho with ho | ho <;> rw [ho] <;> rfl
    rw [hd]
    simp
    omega
  refine ⟨hchk, ?_⟩
  unfold Ins.word
  rw [if_pos hchk, h2]
  show encN (dec w).o (dec w).d (dec w).a 0 (v : Int) = w + v
  rw [enc_add (by omega), ← h5]
theorem apply_c {k w v : Nat} (hk : k ≤ 7) (hw : w < 2 ^ 32) (h : if dataK k = true then w = 0 else fitW k w = true) (hv : v < 2 ^ 20) (H : Heap) : AC Tryd.prog 55 [.s (.int .u32 w), .s (.int .u8 k), .s (.int .u32 v)] H (fun r H' => r = .tup [.s (.int .u32 (w + v : Nat)), .s (.int .i64 0)] ∧ H' = H) := by
  refine AC.body Tryd.func55 rfl rfl (n := 45) (res := [.tmp 6, .tmp 7]) rfl rfl (by simp) ?_
  simp only [ent]
  have hcase := k456 k
  cases hd : dataK k with
  | true =>
    rw [if_pos hd] at h
    subst h
    rw [Nat.zero_add]
    rcases hcase.1 hd with h | ⟨h, h'⟩ | ⟨h, h', h''⟩
    all_goals
      (repeat' (first | refine wk ?_ | refine wk2 ?_ ?_ | with_reducible refine wkF fun _ _ _ => ?_ | with_reducible intro _ | exact ag | fail))
      exact fin0
  | false =>
    rw [hd, if_neg (by decide)] at h
    obtain ⟨q4, q5, q6⟩ := hcase.2 hd
    have B := fun H => blank_c hw h H
    obtain ⟨-, e2, e3, -⟩ := fitW_dec h
    obtain ⟨c1, c2⟩ := enc_at h hv
    have hok := dec_lt w
    have E := fun H => encode_c (H := H) (x := ⟨(dec w).o, (dec w).d, (dec w).a, (dec w).b, (v : Int)⟩) ⟨hok.1, hok.2.1, hok.2.2.1, hok.2.2.2.1, by show (-2147483648 : Int) ≤ (v : Int); omega, by show (v : Int) < 2147483648; omega⟩
    rw [c1, c2, Ins.enc_def] at E
    rw [Ins.enc_def] at B
    have F := fun H : Heap => fits_c (H := H) (v := (v : Int)) (by omega) (by omega)
    have h7 : decide ((7 : Int) < (k : Int)) = false := by simp; omega
    have hf : fits21 (v : Int) = true := by unfold fits21; simp; omega
    have w1 : IntKind.i64.wrap (v : Int) = v := wi64 (by omega) (by omega)
    have w2 : IntKind.i32.wrap (v : Int) = v := by unfold IntKind.wrap; simp [IntKind.bits, IntKind.signed]; omega
    have hi0 : ((dec w).i != 0) = false := by rw [e3]; rfl
    clear h c1 c2 hok hcase e2 hv hk hw hd e3
    generalize (dec w).o = o at *
    generalize (dec w).d = d at *
    generalize (dec w).a = a at *
    generalize (dec w).b = b at *
    generalize (dec w).i = z at *
    (repeat' (first | refine wk ?_ | refine wk2 ?_ ?_ | with_reducible refine wkF fun _ _ _ => ?_ | with_reducible intro _ | refine Calling.eq (B _) ?_ | refine Calling.eq (F _) ?_ | refine Calling.eq (E _) ?_ | exact ag | fail))
    exact fin0
/-- The address that a relocation stands for. -/
def val (r : Rlc) (pc pd : Nat) (sl : List Nat) : Nat := if impK r then sl.getD r.w 0 else if ((r.k : Int) == 2) || ((r.k : Int) == 5) then (pd + r.w) % 2 ^ 32 else (pc + r.w) % 2 ^ 32
theorem value_c {r : Rlc} {pc pd : Nat} {sl : List Nat} (hr : r.k ≤ 7) (hw : r.w < 65536) (hi : impK r = true → r.w < sl.length) (H : Heap) : AC Tryd.prog 54 [.agg (relE r), .agg [.s (.int .u32 pc), .s (.int .u32 pd)], .vs 1 (sl.map u1)] H (fun x H' => x = .tup [.s (.int .u32 (val r pc pd sl : Nat)), .s (.int .i64 0)] ∧ H' = H) := by
  refine AC.body Tryd.func54 rfl rfl (n := 42) (res := [.tmp 6, .tmp 7]) rfl rfl (by simp) ?_
  simp only [ent]
  rw [relE_def]
  have e16 := u16_i64 hw
  have e32 : IntKind.u32.wrap (r.w : Int) = r.w := w32 (by omega) (by omega)
  have e1 : IntKind.u32.wrap ((pc : Int) + r.w) = (((pc + r.w) % 2 ^ 32 : Nat) : Int) := by rw [IntKind.wrap_u32]; omega
  have e2 : IntKind.u32.wrap ((pd : Int) + r.w) = (((pd + r.w) % 2 ^ 32 : Nat) : Int) := by rw [IntKind.wrap_u32]; omega
  unfold val
  have h0 : (0 : Int) ≤ r.w := by omega
  rcases k014 r with ⟨hI, hk⟩ | ⟨hI, k0, k1, k4⟩
  · have hlt := hi hI
    obtain ⟨x, hx⟩ := at_ hlt
    have hx1 := vget u1 hx
    rw [u1_def] at hx1
    have hd : sl.getD r.w 0 = x := by simp [List.getD_eq_getElem?_getD, hx]
    have h1 : decide ((sl.length : Int) ≤ r.w) = false := by simp; omega
    rw [if_pos hI, hd]
    clear hi hlt hd hx hI hr hw
    rcases hk with h | ⟨h, h'⟩ | ⟨h, h', h''⟩
    all_goals
      (repeat' (first | refine wk ?_ | refine wk2 ?_ ?_ | with_reducible refine wkF fun _ _ _ => ?_ | with_reducible intro _ | exact ag | fail))
      exact fin0
  · rw [hI, if_neg (by decide)]
    clear hi
    cases k2 : ((r.k : Int) == 2) with
    | true =>
      rw [Bool.true_or, if_pos rfl]
      clear hI hr hw
      (repeat' (first | refine wk ?_ | refine wk2 ?_ ?_ | with_reducible refine wkF fun _ _ _ => ?_ | with_reducible intro _ | exact ag | fail))
      exact fin0
    | false =>
      cases k5 : ((r.k : Int) == 5) with
      | true =>
        rw [Bool.false_or, if_pos rfl]
        clear hI hr hw
        (repeat' (first | refine wk ?_ | refine wk2 ?_ ?_ | with_reducible refine wkF fun _ _ _ => ?_ | with_reducible intro _ | exact ag | fail))
        exact fin0
      | false =>
        rw [Bool.false_or, if_neg (by decide)]
        cases k3 : ((r.k : Int) == 3) with
        | true =>
          clear hI hr hw
          (repeat' (first | refine wk ?_ | refine wk2 ?_ ?_ | with_reducible refine wkF fun _ _ _ => ?_ | with_reducible intro _ | exact ag | fail))
          exact fin0
        | false => cases k6 : ((r.k : Int) == 6) with
          | true =>
            clear hI hr hw
            (repeat' (first | refine wk ?_ | refine wk2 ?_ ?_ | with_reducible refine wkF fun _ _ _ => ?_ | with_reducible intro _ | exact ag | fail))
            exact fin0
          | false =>
            have k7 : ((r.k : Int) == 7) = true := by simp at *; omega
            clear hI hr hw
            (repeat' (first | refine wk ?_ | refine wk2 ?_ ?_ | with_reducible refine wkF fun _ _ _ => ?_ | with_reducible intro _ | exact ag | fail))
            exact fin0
end Go.Abs
/- A module's words with all addresses: what the program's functions make. -/
namespace Go.Abs
set_option linter.unusedSimpArgs false
set_option linter.unusedVariables false
set_option maxHeartbeats 4000000
open Go.Proofs Go.Nm Go.Wd
set_option linter.unusedVariables false
set_option maxRecDepth 8000
variable {H : Heap}
theorem fi_cases {α : Type} (p : α → Bool) (l : List α) : (fi p l = -1 ∧ ∀ x ∈ l, p x = false) ∨ ∃ n x, fi p l = ((n : Nat) : Int) ∧ l[n]? = some x ∧ p x = true := by
  unfold fi
  cases h : l.findIdx? p with
  | none => exact .inl ⟨rfl, fun x hx => List.findIdx?_eq_none_iff.1 h x hx⟩
  | some n =>
    obtain ⟨h1, h2, _⟩ := List.findIdx?_eq_some_iff_getElem.1 h
    exact .inr ⟨n, l[n], rfl, List.getElem?_eq_getElem h1, h2⟩
/-- A relocation that names this word. -/
def hitW (c : Bool) (a : Nat) (r : Rlc) : Bool := ((r.a : Int) == (a : Int)) && ((dataK r.k != c) && decide ((r.k : Int) ≤ 7))
theorem dataL_c {k : Nat} (H : Heap) : AC Tryd.prog 53 [.s (.int .u8 k)] H (fun r H' => r = .s (.bool (dataK k)) ∧ H' = H) := by
  refine AC.body Tryd.func53 rfl rfl (n := 13) (res := [.tmp 2]) rfl rfl (by simp) ?_
  simp only [ent]
  (repeat' (first | refine wk ?_ | refine wk2 ?_ ?_ | with_reducible refine wkF fun _ _ _ => ?_ | with_reducible intro _ | exact ag | fail))
  all_goals
    refine fin1 ⟨?_, rfl⟩
    first | rfl | (simp only [resV, dataK, *, Bool.or_false, Bool.or_true, Bool.false_or, Bool.true_or, Bool.and_false, Bool.and_true, Bool.false_and, Bool.true_and, Bool.not_true, Bool.not_false, Bool.false_eq_true, if_true, if_false]; done) | (simp only [resV, dataK]; simp_all; done) | (simp only [resV, dataK]; simp_all <;> omega)
theorem bne_b (a b : Bool) : (!(a == b)) = (a != b) := rfl
theorem hit_c {r : Rlc} {c : Bool} {a : Nat} (hr : r.a < 65536) {x y : Nat} (hx : H x = some (.cells [.s (.int .i64 a)])) (hy : H y = some (.cells [.s (.bool c)])) : AC Tryd.prog 52 [.agg (relE r), .s (.pointer (some ⟨x, 0, none⟩)), .s (.pointer (some ⟨y, 0, none⟩))] H (fun z H' => z = .s (.bool (hitW c a r)) ∧ H' = H) := by
  refine AC.body Tryd.func52 rfl rfl (n := 22) (res := [.tmp 4]) rfl rfl (by simp) ?_
  simp only [ent]
  rw [relE_def]
  have D := fun H => dataL_c (k := r.k) H
  have e16 := u16_i64 hr
  clear hr
  generalize hd : dataK r.k = d at *
  (repeat' (first | refine wk ?_ | refine wk2 ?_ ?_ | with_reducible refine wkF fun _ _ _ => ?_ | with_reducible intro _ | exact ag | fail))
  refine ARun.drawB mixed [([], [0, 1, 2, 3, 4, 5, 6, 7, 9], some 8), ([0, 1, 2, 3, 4, 6, 9], [10, 11, 12, 13, 14, 15, 16, 17], none)] (by kernel_rfl) (by rfl) ?_
  (repeat' (first | refine wk ?_ | refine wk2 ?_ ?_ | with_reducible refine wkF fun _ _ _ => ?_ | with_reducible intro _ | refine Calling.eq (D _) ?_ | exact ag | fail))
  all_goals
    refine fin1 ⟨?_, rfl⟩
    simp only [resV, hitW, hd, bne_b]
    simp_all
/-- A module whose words can be linked. -/
structure Mod.lk (m : Mod) (pc pd : Nat) (sl : List Nat) : Prop where
  kind : ∀ r ∈ m.re, r.k ≤ 7
  plac : ∀ r ∈ m.re, r.a < m.len r
  fits : ∀ r ∈ m.re, m.fit r = true
  imp : ∀ r ∈ m.re, impK r = true → r.w < sl.length
  val : ∀ r ∈ m.re, Go.Abs.val r pc pd sl < 2 ^ 20
/-- What a word is raised by. -/
def Mod.inc (m : Mod) (pc pd : Nat) (sl : List Nat) (i : Nat) : Nat := if (m.spot i).2.2 then match m.re.find? (hitW (m.spot i).1 (m.spot i).2.1) with
  | some r => val r pc pd sl
  | none => 0 else 0
theorem find_fi {α : Type} {p : α → Bool} {l : List α} : (fi p l = -1 ∧ l.find? p = none) ∨ ∃ n x, fi p l = ((n : Nat) : Int) ∧ l[n]? = some x ∧ p x = true ∧ l.find? p = some x := by
  unfold fi
  cases h : l.findIdx? p with
  | none => exact .inl ⟨rfl, List.find?_eq_none.2 fun x hx => by simp [List.findIdx?_eq_none_iff.1 h x hx]⟩
  | some n =>
    obtain ⟨h1, h2, h3⟩ := List.findIdx?_eq_some_iff_getElem.1 h
    exact .inr ⟨n, l[n], rfl, List.getElem?_eq_getElem h1, h2, List.find?_eq_some_iff_getElem.2 ⟨h2, n, h1, rfl, fun j hj => by simpa using h3 j hj⟩⟩
theorem raw_lt {m : Mod} (hm : m.ok) (i : Nat) : m.raw i < 2 ^ 32 := by
  unfold Mod.raw
  have key : ∀ (l : List Nat) (a : Nat), (∀ x ∈ l, x < 2 ^ 32) → l.getD a 0 < 2 ^ 32 := fun l a h => by
    rw [List.getD_eq_getElem?_getD]
    cases e : l[a]? with
    | none => decide
    | some x => exact h x (List.mem_of_getElem? e)
  split
  · split
    · exact key _ _ hm.co
    · exact key _ _ hm.da
  · decide
/-- The word that a relocation names is one that an address goes to. -/
theorem hit_fit {m : Mod} {pc pd : Nat} {sl : List Nat} (h : m.lk pc pd sl) {i : Nat} {r : Rlc} (hr : r ∈ m.re) (hs : (m.spot i).2.2 = true) (hh : hitW (m.spot i).1 (m.spot i).2.1 r = true) : if dataK r.k = true then m.raw i = 0 else fitW r.k (m.raw i) = true := by
  have hf := h.fits r hr
  unfold hitW at hh
  simp only [Bool.and_eq_true, decide_eq_true_eq] at hh
  obtain ⟨h1, h2, _⟩ := hh
  have ha : r.a = (m.spot i).2.1 := by have := beq_iff_eq.1 h1; omega
  have hc : (m.spot i).1 = !dataK r.k := by revert h2; cases dataK r.k <;> cases (m.spot i).1 <;> simp
  unfold Mod.raw
  rw [hs, if_pos rfl, hc, ← ha]
  have hsp : r.spot.1 = !dataK r.k := rfl
  unfold Mod.fit at hf
  rw [hsp] at hf
  cases hd : dataK r.k with
  | true => rw [hd] at hf; simpa using hf
  | false => rw [hd] at hf; simpa [fitW] using hf
theorem lword_c {m : Mod} (hm : m.ok) {pc pd : Nat} {sl : List Nat} (h : m.lk pc pd sl) {i : Nat} (hi : i < 4611686018427387904) (H : Heap) : AC Tryd.prog 39 [m.tv, .agg [.s (.int .u32 pc), .s (.int .u32 pd)], .vs 1 (sl.map u1), .s (.int .i64 i)] H (fun r H' => r = .tup [.s (.int .u32 (m.raw i + m.inc pc pd sl i : Nat)), .s (.int .i64 0)] ∧ H' = H) := by
  refine AC.body Tryd.func39 rfl rfl (n := 63) (res := [.tmp 8, .tmp 9]) rfl rfl (by simp) ?_
  simp only [ent]
  have R := fun H => raw_c hm hi H
  have S := fun H => spotL_c hm hi H
  have hlt := raw_lt hm i
  have hF : ∀ (H : Heap) (x y : Nat), H x = some (.cells [.s (.int .i64 ((m.spot i).2.1 : Nat))]) → H y = some (.cells [.s (.bool (m.spot i).1)]) → AC Tryd.prog 51 [.vs 3 (m.re.map relE), .clo (.func 52) [] [.s (.pointer (some ⟨x, 0, none⟩)), .s (.pointer (some ⟨y, 0, none⟩))]] H (fun r H' => r = .s (.int .i64 (fi (hitW (m.spot i).1 (m.spot i).2.1) m.re)) ∧ H' = H) :=
    fun H x y hx hy => ixfR_c m.re hm.lre _ _ _ H (fun r hr => hit_c (hm.re r hr).2.1 hx hy)
  have hfit := fun r hr hs hh => hit_fit h (i := i) (r := r) hr hs hh
  replace hF := later hF
  unfold Mod.inc
  simp only [Mod.tv_def] at R S ⊢
  have hre := later hm.re
  have hlre := later hm.lre
  clear hm
  generalize m.spot i = p at *
  generalize m.raw i = w at *
  obtain ⟨c, a, k⟩ := p
  simp only [] at *
  cases k with
  | false =>
    rw [if_neg (by decide), Nat.add_zero]
    clear hfit hlt h
    (repeat' (first | refine wk ?_ | refine wk2 ?_ ?_ | with_reducible refine wkF fun _ _ _ => ?_ | with_reducible intro _ | refine Calling.eq (R _) ?_ | refine Calling.eq (S _) ?_ | refine Calling.eq (hF.go _ _ _ ag ag) ?_ | exact ag | fail))
    exact fin0
  | true =>
    rw [if_pos rfl]
    rcases find_fi (p := hitW c a) (l := m.re) with ⟨e, e2⟩ | ⟨n, x, e, hx, hp, e2⟩
    · rw [e2, Nat.add_zero]
      rw [e] at hF
      clear hfit hlt h e e2
      (repeat' (first | refine wk ?_ | refine wk2 ?_ ?_ | with_reducible refine wkF fun _ _ _ => ?_ | with_reducible intro _ | refine Calling.eq (R _) ?_ | refine Calling.eq (S _) ?_ | refine Calling.eq (hF.go _ _ _ ag ag) ?_ | exact ag | fail))
      exact fin0
    · rw [e2]
      rw [e] at hF
      have hmem := List.mem_of_getElem? hx
      have hx1 := vget relE hx
      have V := fun H => value_c (h.kind x hmem) (hre.go x hmem).2.2 (h.imp x hmem) H (pc := pc) (pd := pd)
      have A := fun H => apply_c (h.kind x hmem) hlt (hfit x hmem rfl hp) (h.val x hmem) H
      rw [relE_def] at hx1 V
      have h0 : (0 : Int) ≤ n := by omega
      have h1 : decide ((n : Int) < 0) = false := by simp
      clear hfit hlt h e e2 hx hp hmem
      (repeat' (first | refine wk ?_ | refine wk2 ?_ ?_ | with_reducible refine wkF fun _ _ _ => ?_ | with_reducible intro _ | refine Calling.eq (R _) ?_ | refine Calling.eq (S _) ?_ | refine Calling.eq (hF.go _ _ _ ag ag) ?_ | exact ag | fail))
      refine ARun.drawB mixed [([], [0, 1, 2, 3, 4, 5, 6], some 7), ([0, 1, 2, 3], [8, 9, 10, 11, 12], none)] (by kernel_rfl) (by rfl) ?_
      (repeat' (first | refine wk ?_ | refine wk2 ?_ ?_ | with_reducible refine wkF fun _ _ _ => ?_ | with_reducible intro _ | refine Calling.eq (V _) ?_ | refine Calling.eq (A _) ?_ | exact ag | fail))
      exact fin0
/-- A module's words with all addresses. -/
def Mod.wd (m : Mod) (pc pd : Nat) (sl : List Nat) (i : Nat) : Nat := m.raw i + m.inc pc pd sl i
def Mod.img (m : Mod) (pc pd : Nat) (sl : List Nat) : List Nat := (List.range (16 * (upN m.co.length + upN m.da.length))).map (m.wd pc pd sl)
theorem ownH_keep {K : Heap} {b c : Nat} {L : List (List TV)} {r : Root} (hb : L ≠ [] → K b = none) (hc : K c = some r) : ownH K b L c = some r := by
  by_cases h : L = []
  · rw [h, ownH_nil]; exact hc
  · rw [ownH_ne (eq_false (none_at (hb h) hc))]; exact hc
theorem sub_ownK {H K : Heap} (h : Sub H K) {b : Nat} {L : List (List TV)} (hb : L ≠ [] → K b = none) : Sub H (ownH K b L) := fun c r hc => ownH_keep hb (h c r hc)
/-- A row of one's own at the return. -/
theorem conv_ownK {H K : Heap} (h : Sub H K) {b k : Nat} {L : List (List TV)} (hb : L ≠ [] → K b = none) (he : Each k L) : Conv (ownH K b L) H (ownT b k L) (.vs k L) := by
  by_cases q : L = []
  · subst q; exact conv_nils
  · exact conv_own (sub_ownK h hb) (.inr (ownH_at q)) (h.gone (hb q)) he
theorem image_c {m : Mod} (hm : m.ok) {pc pd : Nat} {sl : List Nat} (h : m.lk pc pd sl) (l1 : m.co.length ≤ 512) (l2 : m.da.length ≤ 128) (l3 : m.re.length ≤ 256) (l0 : 0 < m.co.length) (H : Heap) :
    AC Tryd.prog 18 [m.tv, .agg [.s (.int .u32 pc), .s (.int .u32 pd)], .vs 1 (sl.map u1)] H (fun r H' => r = .tup [.vs 1 ((m.img pc pd sl).map u1), .s (.int .i64 0)] ∧ H' = H) := by
  refine AC.body Tryd.func18 rfl rfl (n := 51) (res := [.tmp 6, .tmp 7]) rfl rfl (by simp) ?_
  simp only [ent]
  have O := fun H => of_cl hm H
  have W := fun i hi H => lword_c hm h (i := i) hi H
  have hc := @upN_le m.co.length
  have hd := @upN_le m.da.length
  have N := fun H => wordsL_c (a := upN m.co.length) (b := upN m.da.length) (by omega) (by omega) (by omega) H
  have q1 : decide ((512 : Int) < m.co.length) = false := by simp; omega
  have q2 : decide ((128 : Int) < m.da.length) = false := by simp; omega
  have q3 : decide ((256 : Int) < m.re.length) = false := by simp; omega
  unfold Mod.img
  have hwd : ∀ i, m.raw i + m.inc pc pd sl i = m.wd pc pd sl i := fun i => rfl
  simp only [hwd] at W
  clear hwd
  replace W := later W
  have hn : 16 * (upN m.co.length + upN m.da.length) < 1000 := by omega
  simp only [Mod.tv_def] at O W ⊢
  clear hm h hc hd l1 l2 l3 l0
  generalize m.wd pc pd sl = f at *
  generalize upN m.co.length = a at *
  generalize upN m.da.length = b at *
  generalize 16 * (a + b) = n at *
  (repeat' (first | refine wk ?_ | refine wk2 ?_ ?_ | with_reducible refine wkF fun _ _ _ => ?_ | with_reducible intro _ | refine Calling.eq (O _) ?_ | refine Calling.eq (N _) ?_ | exact ag | fail))
  rename_i b3 h3 h3n b4 h4 h4n
  clear O N q1 q2 q3
  generalize hK : upd (upd H b3 _) b4 _ = K
  have e3 : K b3 = some (.cells [.s (.string m.nm), .vs 1 (m.ex.map s1), .vs 1 (m.im.map s1), .vs 1 (m.co.map u1), .vs 1 (m.da.map u1), .vs 3 (m.re.map relE)]) := by rw [← hK]; clear hK; exact ag
  have e4 : K b4 = some (.cells [.s (.int .u32 pc), .s (.int .u32 pd)]) := by rw [← hK]; clear hK; exact ag
  have hsub : Sub H K := by rw [← hK]; clear hK; exact sb
  clear hK h3 h3n h4 h4n
  refine ARun.rounds (fun st : Nat × Nat => ⟨[(2, .vs 1 (sl.map u1)), (3, .s (.pointer (some ⟨b3, 0, none⟩))), (4, .s (.pointer (some ⟨b4, 0, none⟩))), (8, ownT st.2 1 (((List.range st.1).map f).map u1)), (30, .s (.int .i64 n)), (31, .s (.int .i64 (st.1 : Nat)))], ownH K st.2 (((List.range st.1).map f).map u1)⟩) (fun st => n - st.1)
    (fun st => st.1 ≤ n ∧ (((List.range st.1).map f).map u1 ≠ [] → K st.2 = none)) ?_ (0, 0) ⟨by simp, fun h => absurd rfl h⟩ ?_
  · rintro ⟨i, b⟩ ⟨hi, hb⟩ next
    simp only [] at hi hb ⊢
    have hlen : (((List.range i).map f).map u1).length = i := by simp
    have hnx : ((List.range (i + 1)).map f).map u1 = ((List.range i).map f).map u1 ++ [u1 (f i)] := by rw [List.range_succ, List.map_append, List.map_append]; rfl
    have f3 := ownH_keep hb e3
    have f4 := ownH_keep hb e4
    by_cases hlt : i < n
    · have h1 : decide ((i : Int) < n) = true := by simp; omega
      have hw := w64s (i := i) (by omega)
      have W1 := W.go i (by omega)
      replace hb := later hb
      (repeat' (first | refine wk ?_ | refine wk2 ?_ ?_ | with_reducible refine wkF fun _ _ _ => ?_ | with_reducible intro _ | refine Calling.eq (W1 _) ?_ | refine Doing.fresh (oc_build1 ap36 (fun _ h => by cases h; rfl) rfl rfl (by decide) (by decide)) fun _ _ _ => ?_ | refine Doing.fresh (oc_append1 (e := u1 (f i)) ap36 us36 (each_u1 _) rfl rfl hb.go (by assumption) (by rw [hlen]; omega) (by rw [hlen]; omega)) fun _ _ _ => ?_ | exact ag | fail))
      rename_i b' hb' _
      refine ARun.weaken (next.go (i + 1, b') ⟨by simp only []; omega, fun _ => hb'⟩ (by simp only []; omega)) ?_
      simp only [hnx]
      exact leK (Sub.refl _)
    · have h1 : decide ((i : Int) < n) = false := by simp; omega
      obtain rfl : i = n := by omega
      clear next hnx
      replace hb := later hb
      (repeat' (first | refine wk ?_ | refine wk2 ?_ ?_ | with_reducible refine wkF fun _ _ _ => ?_ | with_reducible intro _ | exact ag | fail))
      exact Fin.done (vs := [ownT b 1 (((List.range i).map f).map u1), .s (.int .i64 0)]) ag (sub_ownK hsub hb.go) (Conv.tup (.cons (conv_ownK hsub hb.go (each_u1 _)) (.cons (Conv.refl (sub_ownK hsub hb.go) _) .nil))) ⟨rfl, rfl⟩
  · simp only [List.range_zero, List.map_nil, ownT_nil, ownH_nil]
    exact leK (Sub.refl _)
end Go.Abs
/- Imports resolved. -/
namespace Go.Abs
set_option linter.unusedSimpArgs false
set_option linter.unusedVariables false
set_option maxHeartbeats 4000000
open Go.Proofs Go.Nm Go.Wd
set_option linter.unusedVariables false
set_option maxRecDepth 8000
variable {H : Heap}
theorem own_gone {K : Heap} {b c : Nat} {L : List (List TV)} (hb : L ≠ [] → K b = none) (hc : ownH K b L c = none) : K c = none := by
  cases h : K c with
  | none => rfl
  | some r => rw [ownH_keep hb h] at hc; cases hc
theorem own_two {K : Heap} {b c : Nat} {L : List (List TV)} (h : L ≠ []) (hc : ownH K b L c = none) : b ≠ c := by
  rintro rfl; rw [ownH_at h] at hc; cases hc
theorem own_upd {K : Heap} {b c : Nat} {L : List (List TV)} {E : Root} (hc : ownH K b L c = none) : upd (ownH K b L) c E = ownH (upd K c E) b L := by
  by_cases h : L = []
  · rw [h, ownH_nil, ownH_nil]
  · have n := own_two h hc
    rw [ownH_ne' h, ownH_ne' h]
    funext x
    simp only [upd_eq]
    by_cases q : x = c
    · rw [if_pos q, if_neg (by rw [q]; exact n.symm), if_pos q]
    · rw [if_neg q, if_neg q]
theorem own_left {K : Heap} {b c : Nat} {L : List (List TV)} {E : Root} (hb : L ≠ [] → K b = none) (hc : ownH K b L c = none) (h : L ≠ []) : upd K c E b = none := by
  rw [upd_eq, if_neg (own_two h hc)]; exact hb h
theorem own_sub {K : Heap} {b c : Nat} {L : List (List TV)} {E : Root} (hc : K c = none) (hb : upd K c E b = none) : Sub (ownH K b L) (ownH (upd K c E) b L) := by
  intro x r hx
  by_cases h : L = []
  · rw [h, ownH_nil] at hx ⊢
    rw [upd_eq, if_neg (by rintro rfl; rw [hc] at hx; cases hx)]; exact hx
  · rw [ownH_ne' h] at hx ⊢
    rw [upd_eq] at hx ⊢
    by_cases q : x = b
    · rw [if_pos q] at hx ⊢; exact hx
    · rw [if_neg q] at hx ⊢
      rw [upd_eq, if_neg (by rintro rfl; rw [hc] at hx; cases hx)]; exact hx
def Ent.slotN (e : Ent) : Nat := e.slot.toNat
theorem slotN_c (e : Ent) (H : Heap) : AC Tryd.prog 31 [.agg e.enc] H (fun r H' => r = .s (.int .u32 e.slotN) ∧ H' = H) := by
  have h : ((e.slotN : Nat) : Int) = e.slot := by
    unfold Ent.slotN Ent.slot IntKind.wrap
    simp [IntKind.bits, IntKind.signed]
    omega
  rw [h]; exact slot_c e H
/-- The slots of imports. -/
def Sym.slotOf (S : Sym) (s : ByteArray) : Nat := ((getE s S.ents).getD Ent.zero).slotN
def Sym.lost (S : Sym) (s : ByteArray) : Bool := !(getE s S.ents).isSome
def Sym.res (S : Sym) (im : List ByteArray) : List Nat × Int := if decide (0 ≤ fi S.lost im) then ([], 23) else (im.map S.slotOf, 0)
theorem resolve_c {t mb eb : Nat} {S : Sym} (hS : SymAt H t mb eb S) {im : List ByteArray} (hl : im.length ≤ 1000) :
    AC Tryd.prog 11 [.s (.pointer (some ⟨t, 0, none⟩)), .vs 1 (im.map s1)] H (fun r H' => r = .tup [.vs 1 ((S.res im).1.map u1), .s (.int .i64 (S.res im).2)] ∧ H' = H) := by
  refine AC.body Tryd.func11 rfl rfl (n := 34) (res := [.tmp 4, .tmp 5]) rfl rfl (by simp) ?_
  simp only [ent]
  obtain ⟨h1, h2, h3⟩ := hS
  have hsub := Sub.refl H
  generalize hK : H = K at hsub h1 h2 h3
  clear hK
  (repeat' (first | refine wk ?_ | refine wk2 ?_ ?_ | with_reducible refine wkF fun _ _ _ => ?_ | with_reducible intro _ | exact ag | fail))
  refine ARun.rounds (fun st : Nat × Nat => ⟨[(0, .s (.pointer (some ⟨t, 0, none⟩))), (6, ownT st.2 1 (((im.take st.1).map S.slotOf).map u1)), (13, .vs 1 (im.map s1)), (14, .s (.int .i64 im.length)), (15, .s (.int .i64 (st.1 : Nat)))], ownH K st.2 (((im.take st.1).map S.slotOf).map u1)⟩) (fun st => im.length - st.1)
    (fun st => st.1 ≤ im.length ∧ noneB S.lost im st.1 ∧ ((((im.take st.1).map S.slotOf).map u1) ≠ [] → K st.2 = none)) ?_ (0, 0) ⟨by simp, .zero, fun h => absurd rfl h⟩ ?_
  · rintro ⟨i, b⟩ ⟨hi, hno, hb⟩ next
    simp only [] at hi hno hb ⊢
    replace hno := later hno
    have f1 := ownH_keep hb h1
    have f2 := ownH_keep hb h2
    have f3 := ownH_keep hb h3
    replace hb := later hb
    by_cases hlt : i < im.length
    · have e1 : (i : Int) < im.length := by omega
      have e2 : (0 : Int) ≤ i := by omega
      obtain ⟨x, hx⟩ := at_ hlt
      have hlen : (((im.take i).map S.slotOf).map u1).length = i := by simp; omega
      have hnx : ((im.take (i + 1)).map S.slotOf).map u1 = ((im.take i).map S.slotOf).map u1 ++ [u1 (S.slotOf x)] := by rw [List.take_add_one, hx]; simp
      have hx1 := vget s1 hx
      rw [s1_def] at hx1
      have hw := w64s (i := i) (by omega)
      have F := find_s ⟨f1, f2, f3⟩ x
      cases hq : S.lost x with
      | true =>
        have hr : S.res im = ([], 23) := if_pos (by rw [fi_some hx hq hno.go]; simp)
        have hq' : (getE x S.ents).isSome = false := by unfold Sym.lost at hq; simpa using hq
        rw [hr]
        rw [hq', if_neg (by decide)] at F
        clear hx next hq hr hnx f1 f2 f3
        (repeat' (first | refine wk ?_ | refine wk2 ?_ ?_ | with_reducible refine wkF fun _ _ _ => ?_ | with_reducible intro _ | refine Calling.eq (F) ?_ | exact ag | fail))
        rename_i c hc hcn
        exact Fin.done (vs := [.nils, .s (.int .i64 23)]) ag (Sub.upd (sub_ownK hsub hb.go) (own_gone hb.go hc)) (Conv.tup (.cons conv_nils (.cons (Conv.refl (Sub.upd (sub_ownK hsub hb.go) (own_gone hb.go hc)) _) .nil))) ⟨rfl, rfl⟩
      | false =>
        have nx := fun b' hb' => next.go (i + 1, b') ⟨by simp only []; omega, hno.go.succ hx hq, fun _ => hb'⟩ (by simp only []; omega)
        have hq' : (getE x S.ents).isSome = true := by unfold Sym.lost at hq; simpa using hq
        have hs : S.slotOf x = ((getE x S.ents).getD Ent.zero).slotN := rfl
        rw [hq', if_pos rfl] at F
        simp only [hnx, hs] at nx
        generalize (getE x S.ents).getD Ent.zero = e at *
        have Q := fun H => slotN_c e H
        replace nx := later nx
        clear hx next hq hs hnx f1 f2 f3 hq'
        (repeat' (first | refine wk ?_ | refine wk2 ?_ ?_ | with_reducible refine wkF fun _ _ _ => ?_ | with_reducible intro _ | refine Calling.eq (F) ?_ | exact ag | fail))
        rename_i c hc hcn
        rw [own_upd hc]
        have hb2 := own_left (E := Root.cells e.enc) hb.go hc
        have hcK := own_gone hb.go hc
        replace hb2 := later hb2
        replace hcK := later hcK
        clear hb hc hcn
        (repeat' (first | refine wk ?_ | refine wk2 ?_ ?_ | with_reducible refine wkF fun _ _ _ => ?_ | with_reducible intro _ | refine Calling.eq (Q _) ?_ | refine Doing.fresh (oc_build1 ap36 (fun _ h => by cases h; rfl) rfl rfl (by decide) (by decide)) fun _ _ _ => ?_ | refine Doing.fresh (oc_append1 (e := u1 e.slotN) ap36 us36 (each_u1 _) rfl rfl hb2.go (by assumption) (by rw [hlen]; omega) (by rw [hlen]; omega)) fun _ _ _ => ?_ | exact ag | fail))
        rename_i b' hb' _
        refine ARun.weaken (nx.go b' ((Sub.upd (Sub.refl K) hcK.go).gone hb')) ?_
        exact leK (own_sub hcK.go hb')
    · have e1 : decide ((i : Int) < im.length) = false := by simp; omega
      obtain rfl : i = im.length := by omega
      have hr : S.res im = (im.map S.slotOf, 0) := if_neg (by rw [fi_none fun j y hj => hno.go j y ((List.getElem?_eq_some_iff.1 hj).1) hj]; decide)
      rw [hr, List.take_length]
      rw [List.take_length] at hb
      clear next hr hno
      (repeat' (first | refine wk ?_ | refine wk2 ?_ ?_ | with_reducible refine wkF fun _ _ _ => ?_ | with_reducible intro _ | exact ag | fail))
      exact Fin.done (vs := [ownT b 1 ((im.map S.slotOf).map u1), .s (.int .i64 0)]) ag (sub_ownK hsub hb.go) (Conv.tup (.cons (conv_ownK hsub hb.go (each_u1 _)) (.cons (Conv.refl (sub_ownK hsub hb.go) _) .nil))) ⟨rfl, rfl⟩
  · simp only [List.take_zero, List.map_nil, ownT_nil, ownH_nil]
    exact leK (by assumption)
end Go.Abs
/- What modules export, by definition. -/
namespace Go.Abs
set_option linter.unusedSimpArgs false
set_option linter.unusedVariables false
set_option maxHeartbeats 4000000
open Go.Proofs Go.Nm Go.Wd
set_option linter.unusedVariables false
set_option maxRecDepth 8000
variable {H : Heap}
structure RSym where
  mods : List ByteArray
  l : List Ent
def RSym.tv (R : RSym) : TV := .agg [.vs 1 (R.mods.map s1), .vs 5 (R.l.map Ent.enc)]
theorem RSym.tv_def (R : RSym) : R.tv = .agg [.vs 1 (R.mods.map s1), .vs 5 (R.l.map Ent.enc)] := rfl
def RSym.ok (R : RSym) : Prop := R.mods.length < 4611686018427387904 ∧ R.l.length < 4611686018427387904
theorem place_c (R : RSym) (hR : R.ok) (k : ByteArray) (H : Heap) : AC Tryd.prog 28 [R.tv, .s (.string k)] H (fun r H' => r = .s (.int .i64 (fi (fun e => e.nm.toList == k.toList) R.l)) ∧ H' = H) := by
  refine AC.body Tryd.func28 rfl rfl (n := 22) (res := [.tmp 4]) rfl rfl (by simp) ?_
  simp only [ent]
  simp only [RSym.tv_def]
  obtain ⟨_, hl⟩ := hR
  (repeat' (first | refine wk ?_ | refine wk2 ?_ ?_ | with_reducible refine wkF fun _ _ _ => ?_ | with_reducible intro _ | exact ag | fail))
  rename_i v hv hvn
  refine ARun.rounds (fun i : Nat => ⟨[(1, .s (.string k)), (2, .s (.pointer (some ⟨v, 0, none⟩))), (5, .s (.int .i64 i))], upd H v (.cells [.vs 1 (R.mods.map s1), .vs 5 (R.l.map Ent.enc)])⟩) (fun i => R.l.length - i) (fun i => i ≤ R.l.length ∧ noneB (fun e : Ent => e.nm.toList == k.toList) R.l i) ?_ 0 ⟨by omega, .zero⟩ ?_
  · rintro i ⟨hi, hno⟩ next
    replace hno := later hno
    by_cases hlt : i < R.l.length
    · have h1 : (i : Int) < R.l.length := by omega
      have h2 : (0 : Int) ≤ i := by omega
      obtain ⟨x, hx⟩ := at_ hlt
      have hx1 := vget Ent.enc hx
      rw [Ent.enc_def] at hx1
      have hw := w64s (i := i) (by omega)
      cases hb : (x.nm.toList == k.toList) with
      | true =>
        have hf := fi_some (p := fun e : Ent => e.nm.toList == k.toList) hx hb hno.go
        rw [hf]
        clear hx next hf
        (repeat' (first | refine wk ?_ | refine wk2 ?_ ?_ | with_reducible refine wkF fun _ _ _ => ?_ | with_reducible intro _ | exact ag | fail))
        exact fin0
      | false =>
        have nx := next.go (i + 1) ⟨by omega, hno.go.succ hx hb⟩ (by omega)
        clear hx next
        (repeat' (first | refine wk ?_ | refine wk2 ?_ ?_ | with_reducible refine wkF fun _ _ _ => ?_ | with_reducible intro _ | exact ag | fail))
        exact ARun.weaken nx (leK (Sub.refl _))
    · have h1 : decide ((i : Int) < R.l.length) = false := by simp; omega
      obtain rfl : i = R.l.length := by omega
      rw [fi_none fun j y hj => hno.go j y ((List.getElem?_eq_some_iff.1 hj).1) hj]
      clear next
      (repeat' (first | refine wk ?_ | refine wk2 ?_ ?_ | with_reducible refine wkF fun _ _ _ => ?_ | with_reducible intro _ | exact ag | fail))
      exact fin0
  · exact leK (Sub.refl _)
theorem rhas_c (R : RSym) (hR : R.ok) (k : ByteArray) (H : Heap) : AC Tryd.prog 27 [R.tv, .s (.string k)] H (fun r H' => r = .s (.bool (decide (0 ≤ fi (fun s : ByteArray => s.toList == k.toList) R.mods))) ∧ H' = H) := by
  refine AC.body Tryd.func27 rfl rfl (n := 20) (res := [.tmp 4]) rfl rfl (by simp) ?_
  simp only [ent]
  simp only [RSym.tv_def]
  obtain ⟨hl, _⟩ := hR
  (repeat' (first | refine wk ?_ | refine wk2 ?_ ?_ | with_reducible refine wkF fun _ _ _ => ?_ | with_reducible intro _ | exact ag | fail))
  rename_i v hv hvn
  refine ARun.rounds (fun i : Nat => ⟨[(1, .s (.string k)), (2, .s (.pointer (some ⟨v, 0, none⟩))), (5, .s (.int .i64 i))], upd H v (.cells [.vs 1 (R.mods.map s1), .vs 5 (R.l.map Ent.enc)])⟩) (fun i => R.mods.length - i) (fun i => i ≤ R.mods.length ∧ noneB (fun s : ByteArray => s.toList == k.toList) R.mods i) ?_ 0 ⟨by omega, .zero⟩ ?_
  · rintro i ⟨hi, hno⟩ next
    replace hno := later hno
    by_cases hlt : i < R.mods.length
    · have h1 : (i : Int) < R.mods.length := by omega
      have h2 : (0 : Int) ≤ i := by omega
      obtain ⟨x, hx⟩ := at_ hlt
      have hx1 := vget s1 hx
      rw [s1_def] at hx1
      have hw := w64s (i := i) (by omega)
      cases hb : (x.toList == k.toList) with
      | true =>
        have hf := fi_some (p := fun s : ByteArray => s.toList == k.toList) hx hb hno.go
        rw [hf, show decide (0 ≤ (i : Int)) = true by simp]
        clear hx next hf
        (repeat' (first | refine wk ?_ | refine wk2 ?_ ?_ | with_reducible refine wkF fun _ _ _ => ?_ | with_reducible intro _ | exact ag | fail))
        exact fin0
      | false =>
        have nx := next.go (i + 1) ⟨by omega, hno.go.succ hx hb⟩ (by omega)
        clear hx next
        (repeat' (first | refine wk ?_ | refine wk2 ?_ ?_ | with_reducible refine wkF fun _ _ _ => ?_ | with_reducible intro _ | exact ag | fail))
        exact ARun.weaken nx (leK (Sub.refl _))
    · have h1 : decide ((i : Int) < R.mods.length) = false := by simp; omega
      obtain rfl : i = R.mods.length := by omega
      rw [fi_none fun j y hj => hno.go j y ((List.getElem?_eq_some_iff.1 hj).1) hj, show decide ((0 : Int) ≤ -1) = false from rfl]
      clear next
      (repeat' (first | refine wk ?_ | refine wk2 ?_ ?_ | with_reducible refine wkF fun _ _ _ => ?_ | with_reducible intro _ | exact ag | fail))
      exact fin0
  · exact leK (Sub.refl _)
def RSym.get (R : RSym) (k : ByteArray) : Option Ent := R.l.find? fun e => e.nm.toList == k.toList
theorem fi_find {α : Type} (p : α → Bool) (l : List α) : (fi p l = -1 ∧ l.find? p = none) ∨ ∃ (n : Nat) (x : α), fi p l = n ∧ l[n]? = some x ∧ l.find? p = some x := by
  cases h : l.find? p with
  | none =>
    refine .inl ⟨fi_none fun j y hj => ?_, rfl⟩
    simpa using List.find?_eq_none.1 h y (List.mem_of_getElem? hj)
  | some x =>
    obtain ⟨hp, n, hn, e, hno⟩ := List.find?_eq_some_iff_getElem.1 h
    refine .inr ⟨n, x, fi_some (x := x) (by rw [List.getElem?_eq_getElem hn, e]) hp fun j y hj hy => ?_, by rw [List.getElem?_eq_getElem hn, e], rfl⟩
    obtain ⟨hk, rfl⟩ := List.getElem?_eq_some_iff.1 hy
    simpa using hno j hj
theorem rfind_c (R : RSym) (hR : R.ok) (k : ByteArray) (H : Heap) : AC Tryd.prog 32 [R.tv, .s (.string k)] H (fun r H' => r = .tup [.agg ((R.get k).getD Ent.zero).enc, .s (.int .i64 (if (R.get k).isSome then 0 else 8))] ∧ H' = H) := by
  refine AC.body Tryd.func32 rfl rfl (n := 18) (res := [.cell 4 80, .tmp 5]) rfl rfl (by simp) ?_
  simp only [ent]
  have P := fun H => place_c R hR k H
  unfold RSym.get
  simp only [RSym.tv_def] at P ⊢
  obtain ⟨_, hl⟩ := hR
  rcases fi_find (fun e : Ent => e.nm.toList == k.toList) R.l with ⟨e1, e2⟩ | ⟨n, x, e1, hx, e2⟩
  · rw [e2]
    rw [e1] at P
    have z : Ent.zero.enc = [.s (.string ByteArray.empty), .s (.string ByteArray.empty), .s (.int .i64 0), .s (.int .i64 0), .s (.int .i64 0)] := rfl
    simp only [Option.isSome_none, Option.getD_none, Bool.false_eq_true, if_false, z]
    clear e1 e2
    (repeat' (first | refine wk ?_ | refine wk2 ?_ ?_ | with_reducible refine wkF fun _ _ _ => ?_ | with_reducible intro _ | refine Calling.eq (P _) ?_ | exact ag | fail))
    exact fin0
  · rw [e2]
    rw [e1] at P
    simp only [Option.isSome_some, Option.getD_some, if_true]
    have hx1 := vget Ent.enc hx
    have hn := (List.getElem?_eq_some_iff.1 hx).1
    have h0 : (0 : Int) ≤ n := by omega
    have h1 : decide ((n : Int) < 0) = false := by simp
    have h2 : (n : Int) < R.l.length := by omega
    rw [Ent.enc_def] at hx1 ⊢
    clear e1 e2 hx
    (repeat' (first | refine wk ?_ | refine wk2 ?_ ?_ | with_reducible refine wkF fun _ _ _ => ?_ | with_reducible intro _ | refine Calling.eq (P _) ?_ | exact ag | fail))
    exact fin0
theorem rslot_c (e : Ent) (H : Heap) : AC Tryd.prog 33 [.agg e.enc] H (fun r H' => r = .s (.int .u32 e.slot) ∧ H' = H) := by
  refine AC.body Tryd.func33 rfl rfl (n := 10) (res := [.tmp 2]) rfl rfl (by simp) ?_
  simp only [ent]
  unfold Ent.slot
  simp only [Ent.enc_def]
  rw [Int.mul_comm e.gt 8]
  (repeat' (first | refine wk ?_ | refine wk2 ?_ ?_ | with_reducible refine wkF fun _ _ _ => ?_ | with_reducible intro _ | exact ag | fail))
  exact fin0
end Go.Abs
