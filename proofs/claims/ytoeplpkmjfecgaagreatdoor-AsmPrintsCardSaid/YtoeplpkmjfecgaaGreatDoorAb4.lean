import Derived.Test.YtoeplpkmjfecgaaGreatDoorAb3
/- Operations that only read, and calculate: what they make (valA), and that they do. -/
namespace Go.Abs
set_option linter.unusedSimpArgs false
set_option linter.unusedVariables false
set_option linter.unusedVariables false

def binV (op : BinOp) (a b : Value) : Option Value :=
  match op, a, b with
  | .shl, .int k x, .int _ y => if 0 ≤ y then some (.int k (k.wrap (x * 2 ^ (min y.toNat k.bits)))) else none
  | .shr, .int k x, .int _ y => if 0 ≤ y then some (.int k (x.fdiv (2 ^ (min y.toNat k.bits)))) else none
  | .add, .int k x, .int k' y => if k = k' then some (.int k (k.wrap (x + y))) else none
  | .sub, .int k x, .int k' y => if k = k' then some (.int k (k.wrap (x - y))) else none
  | .mul, .int k x, .int k' y => if k = k' then some (.int k (k.wrap (x * y))) else none
  | .quo, .int k x, .int k' y => if k = k' then if y = 0 then none else some (.int k (k.wrap (x.tdiv y))) else none
  | .rem, .int k x, .int k' y => if k = k' then if y = 0 then none else some (.int k (x.tmod y)) else none
  | .and, .int k x, .int k' y => if k = k' then some (.int k (k.wrap ((BitVec.ofInt k.bits x &&& BitVec.ofInt k.bits y).toNat))) else none
  | .or, .int k x, .int k' y => if k = k' then some (.int k (k.wrap ((BitVec.ofInt k.bits x ||| BitVec.ofInt k.bits y).toNat))) else none
  | .xor, .int k x, .int k' y => if k = k' then some (.int k (k.wrap ((BitVec.ofInt k.bits x ^^^ BitVec.ofInt k.bits y).toNat))) else none
  | .andNot, .int k x, .int k' y => if k = k' then some (.int k (k.wrap ((BitVec.ofInt k.bits x &&& ~~~ BitVec.ofInt k.bits y).toNat))) else none
  | .eql, .int k x, .int k' y => if k = k' then some (.bool (x == y)) else none
  | .neq, .int k x, .int k' y => if k = k' then some (.bool (x != y)) else none
  | .lss, .int k x, .int k' y => if k = k' then some (.bool (x < y)) else none
  | .leq, .int k x, .int k' y => if k = k' then some (.bool (x ≤ y)) else none
  | .gtr, .int k x, .int k' y => if k = k' then some (.bool (x > y)) else none
  | .geq, .int k x, .int k' y => if k = k' then some (.bool (x ≥ y)) else none
  | .add, .string x, .string y => if ((x.size + y.size : Nat) : Int) > IntKind.i64.max then none else some (.string (x ++ y))
  | .eql, .string x, .string y => some (.bool (x.toList == y.toList))
  | .neq, .string x, .string y => some (.bool !(x.toList == y.toList))
  | .lss, .string x, .string y => some (.bool (Op.bytesLess x.toList y.toList))
  | .leq, .string x, .string y => some (.bool (Op.bytesLess x.toList y.toList || x.toList == y.toList))
  | .gtr, .string x, .string y => some (.bool !(Op.bytesLess x.toList y.toList || x.toList == y.toList))
  | .geq, .string x, .string y => some (.bool !(Op.bytesLess x.toList y.toList))
  | _, _, _ => none
theorem binV_run {P : Program} {w : World} {op : BinOp} {T : TypeId} {x y : Operand} {a b v : Value} (h : binV op a b = some v) :
    (do eqGuard op T x y a b; binOp op T a b : Sem Value).run P w = .ok v w := by
  unfold binV at h
  split at h <;> first | cases h | skip
  all_goals first
    | (split at h
       · split at h
         · cases h
         · rename_i hk hy; cases h; subst hk; simp only [run_bind, eqGuard, binOp, Op.intDiv, hy, if_false, ne_eq, not_true]; rfl
       · cases h)
    | (split at h
       · rename_i hk; subst hk; cases h; simp only [run_bind, eqGuard, binOp, ne_eq, not_true, if_false]; rfl
       · cases h)
    | (split at h
       · rename_i hy; cases h
         have hy' : ¬ _ < (0 : Int) := Int.not_lt.mpr hy
         simp only [run_bind, eqGuard, binOp, Op.shift, hy', if_false]; rfl
       · cases h)
    | (split at h
       · cases h
       · rename_i hk; cases h; simp only [run_bind, eqGuard, binOp, Op.stringOp, hk, if_false]; rfl)
    | (simp only [run_bind, eqGuard, binOp, Op.stringOp]; rfl)

/-- Equality of bools, and of a pointer and nil. -/
def eqV (P : Program) (T : TypeId) : TV → TV → Option Bool
  | .s (.bool x), .s (.bool y) => if isBoolT P T then some (x == y) else none
  | .s (.pointer none), .s (.pointer y) => if isPtrT P T then some y.isNone else none
  | .s (.pointer (some x)), .s (.pointer none) => if isPtrT P T then some false else none
  | .fp _, .s (.pointer none) => if isPtrT P T then some false else none
  | .s (.iface _ _), .s .nilIface => if isIfcT P T then some false else none
  | _, _ => none
theorem equalIn_under {P : Program} {w : World} {T : TypeId} {d : TypeDesc} {a b : Value} {r : Result Bool} (h : P.underlying T = some d)
    (hr : (Op.equalIn Op.maxDepth T a b).run P w = r) : (Op.equal T a b).run P w = r := hr
theorem eqV_run {P : Program} {w : World} {F : Nat → Prop} {T : TypeId} {x y : TV} {a b : Value} {t : Bool} (h : eqV P T x y = some t) (ha : Rep w F x a) (hb : Rep w F y b) :
    (Op.equal T a b).run P w = .ok t w ∧ (∀ o p q, (eqGuard o T p q a b).run P w = .ok () w) ∧ (∀ k n, a ≠ .int k n) ∧ (∀ k n, a ≠ .float k n) ∧ (∀ k n m, a ≠ .complex k n m) ∧ (∀ n, a ≠ .string n) := by
  unfold eqV at h
  split at h <;> first | cases h | skip
  · simp only [Rep] at ha hb; subst ha hb
    split at h
    · rename_i hT; cases h
      unfold isBoolT at hT; split at hT
      · rename_i hu
        refine ⟨?_, ?_, by simp, by simp, by simp, by simp⟩
        · unfold Op.equal Op.maxDepth; rw [Op.equalIn]; rw [run_ok (run_under hu)]; rfl
        · intro o p q; unfold eqGuard; split <;> rfl
      · cases hT
    · cases h
  · simp only [Rep] at ha hb; subst ha hb
    split at h
    · rename_i hT; cases h
      unfold isPtrT at hT; split at hT
      · rename_i hu
        refine ⟨?_, ?_, by simp, by simp, by simp, by simp⟩
        · unfold Op.equal Op.maxDepth; rw [Op.equalIn]; rw [run_ok (run_under hu)]; rfl
        · intro o p q; unfold eqGuard; split <;> rfl
      · cases hT
    · cases h
  · simp only [Rep] at ha hb; subst ha hb
    split at h
    · rename_i hT; cases h
      unfold isPtrT at hT; split at hT
      · rename_i hu
        refine ⟨?_, ?_, by simp, by simp, by simp, by simp⟩
        · unfold Op.equal Op.maxDepth; rw [Op.equalIn]; rw [run_ok (run_under hu)]; rfl
        · intro o p q; unfold eqGuard; split <;> rfl
      · cases hT
    · cases h
  · simp only [Rep] at ha hb; subst hb
    obtain ⟨bk, off, rfl, _⟩ := ha
    split at h
    · rename_i hT; cases h
      unfold isPtrT at hT; split at hT
      · rename_i hu
        refine ⟨?_, ?_, by simp, by simp, by simp, by simp⟩
        · unfold Op.equal Op.maxDepth; rw [Op.equalIn]; rw [run_ok (run_under hu)]; rfl
        · intro o p q; unfold eqGuard; split <;> rfl
      · cases hT
    · cases h
  · simp only [Rep] at ha hb; subst ha hb
    split at h
    · rename_i hT; cases h
      unfold isIfcT at hT; split at hT
      · rename_i hu
        refine ⟨?_, ?_, by simp, by simp, by simp, by simp⟩
        · unfold Op.equal Op.maxDepth; rw [Op.equalIn]; rw [run_ok (run_under hu)]; rfl
        · intro o p q; unfold eqGuard; split <;> rfl
      · cases hT
    · cases h

def unV (op : UnOp) (a : Value) : Option Value :=
  match op, a with
  | .neg, .int k n => some (.int k (k.wrap (0 - n)))
  | .xor, .int k n => some (.int k (k.wrap ((BitVec.ofInt k.bits (if k.signed then -1 else k.max) ^^^ BitVec.ofInt k.bits n).toNat)))
  | .not, .bool b => some (.bool !b)
  | _, _ => none
theorem unV_run {P : Program} {w : World} {op : UnOp} {a v : Value} (h : unV op a = some v) : (Op.unary op a).run P w = .ok v w := by
  unfold unV at h
  split at h <;> cases h <;> rfl

def convV (P : Program) (src dst : TypeId) (a : Value) : Option Value :=
  match P.underlying src, P.underlying dst, a with
  | some _, some (.int k), .int _ n => some (.int k (k.wrap n))
  | some .string, some .string, .string s => some (.string s)
  | _, _, _ => none
theorem convV_run {P : Program} {w : World} {S D : TypeId} {a v : Value} (h : convV P S D a = some v) : (convert S D a).run P w = .ok v w := by
  unfold convV at h
  split at h
  · rename_i k n h1 h2; cases h
    unfold convert; rw [run_ok (run_under h1), run_ok (run_under h2)]; cases ‹TypeDesc› <;> rfl
  · rename_i h1 h2; cases h
    unfold convert; rw [run_ok (run_under h1), run_ok (run_under h2)]; rfl
  · cases h

def intV (E : List (Nat × TV)) (d : Int) : Option Operand → Option Int
  | none => some d
  | some x => match evalA E x with
    | some (.s (.int _ i)) => some i
    | _ => none
/-- Slices and strings, cut. -/
def sliceA (P : Program) (E : List (Nat × TV)) (T : TypeId) (x : TV) (lo hi mx : Option Operand) : Option TV :=
  match x with
  | .s (.string s) =>
    if isStr P T && mx.isNone then
      match intV E 0 lo, intV E s.size hi with
      | some l, some h => if 0 ≤ l ∧ l ≤ h ∧ h ≤ s.size then some (.s (.string (s.extract l.toNat h.toNat))) else none
      | _, _ => none
    else none
  | .vs k es =>
    if elP P T = some k ∧ (mx.isSome → hi.isSome) then
      match intV E 0 lo, intV E es.length hi, intV E es.length mx with
      | some l, some h, some m => if 0 ≤ l ∧ l ≤ h ∧ h ≤ m ∧ m ≤ es.length then
          (if mx.isSome ∧ m = l then some .nils else some (.vs k ((es.drop l.toNat).take (h.toNat - l.toNat)))) else none
      | _, _, _ => none
    else none
  | .nils =>
    if (elP P T).isSome ∧ (mx.isSome → hi.isSome) then
      match intV E 0 lo, intV E 0 hi, intV E 0 mx with
      | some 0, some 0, some 0 => some .nils
      | _, _, _ => none
    else none
  | .rs b off n k =>
    if elP P T = some k ∧ (mx.isSome → hi.isSome) then
      match intV E 0 lo, intV E n hi, intV E n mx with
      | some l, some h, some m => if 0 ≤ l ∧ l ≤ h ∧ h ≤ m ∧ m ≤ n then some (.rs b (off + l.toNat * k) (h.toNat - l.toNat) k) else none
      | _, _, _ => none
    else none
  | _ => none
def sliceArrA (P : Program) (H : Heap) (E : List (Nat × TV)) (T : TypeId) (x : TV) (lo hi mx : Option Operand) : Option TV :=
  match arP P T, x with
  | some (n, _, k), .s (.pointer (some ⟨b, off, none⟩)) =>
    match H b with
    | some (.cells cs) =>
      if mx.isNone ∧ off + n * k ≤ cs.length then
        match intV E 0 lo, intV E n hi with
        | some l, some h => if 0 ≤ l ∧ l ≤ h ∧ h ≤ n then some (.rs b (off + l.toNat * k) (h.toNat - l.toNat) k) else none
        | _, _ => none
      else none
    | _ => none
  | _, _ => none
def fieldAddrA (P : Program) (T : TypeId) (f : Nat) : TV → Option TV
  | .s (.pointer (some ⟨b, off, none⟩)) => (fldP P T f).map fun p => .s (.pointer (some ⟨b, off + p.1, none⟩))
  | .fp cs => (fldP P T f).map fun p => .fp (cs.drop p.1)
  | _ => none
def partA (g : Bool) (n : Nat) (cs : List TV) (off : Nat) : Option TV :=
  if g then if off + n ≤ cs.length then some (.agg ((cs.drop off).take n)) else none else cs[off]?
def fieldA (P : Program) (T : TypeId) (f : Nat) : TV → Option TV
  | .agg cs => match fldP P T f with
    | some (off, g, n) => partA g n cs off
    | none => none
  | _ => none
def indexAddrA (P : Program) (T : TypeId) (x i : TV) : Option TV :=
  match x, i with
  | .vs k es, .s (.int _ i) => if elP P T = some k ∧ 0 ≤ i then (es[i.toNat]?).map .fp else none
  | .rs b off n k, .s (.int _ i) => if elP P T = some k ∧ 0 ≤ i ∧ i < n then some (.s (.pointer (some ⟨b, off + i.toNat * k, none⟩))) else none
  | .s (.pointer (some ⟨b, off, none⟩)), .s (.int _ i) => match arP P T with
    | some (n, _, k) => if 0 ≤ i ∧ i < n then some (.s (.pointer (some ⟨b, off + i.toNat * k, none⟩))) else none
    | none => none
  | .fp cs, .s (.int _ i) => match arP P T with
    | some (n, _, k) => if 0 ≤ i ∧ i < n then some (.fp (cs.drop (i.toNat * k))) else none
    | none => none
  | _, _ => none
def indexA (P : Program) (T : TypeId) (x i : TV) : Option TV :=
  match x, i with
  | .s (.string s), .s (.int _ i) => if isStr P T ∧ 0 ≤ i then match s[i.toNat]? with | some c => some (.s (.int .u8 c.toNat)) | none => none else none
  | .agg cs, .s (.int _ i) => match arP P T with
    | some (n, g, k) => if 0 ≤ i ∧ i < n then partA g k cs (i.toNat * k) else none
    | none => none
  | _, _ => none
def extractA (t : TV) (i : Nat) : Option TV := match t with | .tup l => l[i]? | _ => none
def pickA (t : Bool) : TV → TV → TV
  | .s (.bool x), .s (.bool y) => .s (.bool (bif t then x else y))
  | a, b => bif t then a else b
def cellsT : TV → Option (List TV)
  | .agg cs => some cs
  | .any | .tup _ | .s (.agg _) | .s (.tuple _) => none
  | t => some [t]
def nilA (t : TV) : Option TV :=
  match t with
  | .s (.pointer (some p)) => some t
  | .fp cs => some t
  | .s (.func (.func f) _ _) => some t
  | .clo (.func f) _ _ => some t
  | _ => none
def lenA (P : Program) (T : TypeId) : TV → Option Int
  | .s (.string s) => if isStr P T then some s.size else none
  | .vs k es => if (elP P T).isSome then some es.length else none
  | .rs _ _ n _ => if (elP P T).isSome then some n else none
  | .nils => if (elP P T).isSome then some 0 else none
  | _ => none
def isMapT (P : Program) (T : TypeId) : Bool := match P.underlying T with | some (.map _ _) => true | _ => false
def lenR : Option Root → Option Int
  | some (.map es) => some es.length
  | _ => none
/-- As lenA, and of maps. -/
def lenM (P : Program) (H : Heap) (T : TypeId) : TV → Option Int
  | .s (.map (some b)) => if isMapT P T then lenR (H b) else none
  | .s (.map none) => if isMapT P T then some 0 else none
  | v => lenA P T v
def evalL (E : List (Nat × TV)) : List Operand → Option (List TV)
  | [] => some []
  | x :: xs => match evalA E x, evalL E xs with
    | some v, some vs => some (v :: vs)
    | _, _ => none
def fillA (place : Nat → Option (Nat × Nat)) (cells : List TV) : List (Nat × TV) → Option (List TV)
  | [] => some cells
  | (i, v) :: rest =>
    match place i, cellsT v with
    | some (off, size), some vs => if vs.length ≠ size ∨ off + size > cells.length then none else fillA place (cells.take off ++ vs ++ cells.drop (off + size)) rest
    | _, _ => none
def zeroP (P : Program) (T : TypeId) : Option (List TV) :=
  match P.info? T with
  | some i => match i.zero with
    | some v => some (v.cells.toList.map cst1)
    | none => none
  | none => none

def placeP (P : Program) (T : TypeId) (i : Nat) : Option (Nat × Nat) :=
  match P.underlying T with
  | some (.struct fs) => (fs[i]?).bind fun f => (szP P f.type).map fun p => (f.offset, p.2)
  | some (.array _ e) => (szP P e).map fun p => (i * p.2, p.2)
  | _ => none
/-- Parts of a struct or an array that is made. -/
def evalP (E : List (Nat × TV)) : List (Nat × Operand) → Option (List (Nat × TV))
  | [] => some []
  | (i, x) :: xs => match evalA E x, evalP E xs with
    | some v, some vs => some ((i, v) :: vs)
    | _, _ => none
def sized (P : Program) (T : TypeId) : Bool :=
  match P.underlying T with
  | some (.struct fs) => fs.toList.all fun f => (szP P f.type).isSome
  | some (.array _ e) => (szP P e).isSome
  | _ => false
def buildA (P : Program) (E : List (Nat × TV)) (T : TypeId) (parts : List (Nat × Operand)) : Option TV :=
  if sized P T then
    match zeroP P T, evalP E parts with
    | some cs, some vs => (fillA (placeP P T) cs vs).map .agg
    | _, _ => none
  else none
def leafEq (P : Program) (T : TypeId) (a b : Value) : Option Bool :=
  match P.underlying T, a, b with
  | some (.int _), .int k x, .int k' y => if k = k' then some (x == y) else none
  | some .string, .string x, .string y => some (x.toList == y.toList)
  | some .bool, .bool x, .bool y => some (x == y)
  | _, _, _ => none
def eqFs (P : Program) (eq : TypeId → TV → TV → Option Bool) (xs ys : List TV) : List Field → Option Bool
  | [] => some true
  | f :: fs => if f.name = "_" then none else
    match szP P f.type with
    | some (g, n) => match partA g n xs f.offset, partA g n ys f.offset with
      | some a, some b => match eq f.type a b, eqFs P eq xs ys fs with
        | some r, some rs => some (r && rs)
        | _, _ => none
      | _, _ => none
    | none => none
/-- Equality of structs, cell by cell. -/
def eqTV (P : Program) : Nat → TypeId → TV → TV → Option Bool
  | 0, _, _, _ => none
  | d + 1, T, .s a, .s b => leafEq P T a b
  | d + 1, T, .agg xs, .agg ys => match P.underlying T with
    | some (.struct fs) => if P.stoodInHeld T then none else eqFs P (eqTV P d) xs ys fs.toList
    | _ => none
  | _, _, _, _ => none
def eqS (P : Program) (T : TypeId) : TV → TV → Option Bool
  | .agg xs, .agg ys => if P.eqGuardType P.depth T then none else eqTV P 9 T (.agg xs) (.agg ys)
  | _, _ => none
def valA (P : Program) (E : List (Nat × TV)) (H : Heap) : Op → Option TV
  | .move x | .assign x => evalA E x
  | .pick c a b => match evalA E c, evalA E a, evalA E b with
    | some (.s (.bool t)), some x, some y => some (pickA t x y)
    | _, _, _ => none
  | .load T p => match evalA E p with | some p => loadA P H T p | none => none
  | .nilCheck x => match evalA E x with | some x => nilA x | none => none
  | .binOp op T x y _ => match evalA E x, evalA E y with
    | some (.s a), some (.s b) => match binV op a b with
      | some v => some (.s v)
      | none => match op, eqV P T (.s a) (.s b) with
        | .eql, some t => some (.s (.bool t))
        | .neq, some t => some (.s (.bool !t))
        | _, _ => none
    | some (.agg a), some (.agg b) => match op, eqS P T (.agg a) (.agg b) with
      | .eql, some t => some (.s (.bool t))
      | .neq, some t => some (.s (.bool !t))
      | _, _ => none
    | some a, some b => match op, eqV P T a b with
      | .eql, some t => some (.s (.bool t))
      | .neq, some t => some (.s (.bool !t))
      | _, _ => none
    | _, _ => none
  | .unOp op _ x => match evalA E x with | some (.s a) => (unV op a).map .s | _ => none
  | .convert S D x => match evalA E x with | some (.s a) => (convV P S D a).map .s | _ => none
  | .build T parts => buildA P E T parts.toList
  | .makeFunc fn f c => match evalL E f.toList, evalL E c.toList with | some f, some c => some (.clo fn f c) | _, _ => none
  | .slice T x lo hi mx => match evalA E x with
    | some x => match sliceArrA P H E T x lo hi mx with
      | some v => some v
      | none => sliceA P E T x lo hi mx
    | none => none
  | .fieldAddr T x f => match evalA E x with | some x => fieldAddrA P T f x | none => none
  | .field T x f => match evalA E x with | some x => fieldA P T f x | none => none
  | .indexAddr T x i => match evalA E x, evalA E i with | some x, some i => indexAddrA P T x i | _, _ => none
  | .index T x i => match evalA E x, evalA E i with | some x, some i => indexA P T x i | _, _ => none
  | .extract t i => match evalA E t with | some t => extractA t i | none => none
  | .call { callee := .builtin .len, args, argTypes } => match args.toList, argTypes.toList with
    | [x], [T] => match evalA E x with | some x => (lenM P H T x).map fun n => .s (.int .i64 n) | none => none
    | _, _ => none
  | _ => none

section
variable {P : Program} {w : World} {H : Heap}
theorem run_v {s : Sem Value} {x : Value} {w' : World} (h : s.run P w = .ok x w') : (do pure (Next.value (← s)) : Sem Next).run P w = .ok (.value x) w' := by
  rw [run_ok h]; rfl
theorem rep_pick {F : Nat → Prop} {t : Bool} {x y : TV} {a b : Value} (hx : Rep w F x a) (hy : Rep w F y b) : Rep w F (pickA t x y) (if t then a else b) := by
  unfold pickA
  split
  · simp only [Rep] at hx hy ⊢; subst hx hy; cases t <;> rfl
  · cases t
    · exact hy
    · exact hx
theorem run_intOf {k : IntKind} {i : Int} : (asIntOf (.int k i)).run P w = .ok (k, i) w := rfl
theorem run_bound {k : IntKind} {i : Int} {y : Nat} {c : BoundsCode} (h0 : 0 ≤ i) (h1 : i ≤ y) : (Instr.sliceBound (.int k i) y c).run P w = .ok i.toNat w := by
  unfold Instr.sliceBound
  rw [run_ok run_intOf]
  simp only [h0, h1, and_self, if_true]; rfl
theorem intV_some {n : NT} {A : AS} {a : Act} (r : Rel n A a w) {d i : Int} {o : Option Operand} (h : intV A.env d o = some i) : (o = none ∧ i = d) ∨ ∃ x k, o = some x ∧ a.eval x = .int k i := by
  unfold intV at h
  split at h
  · simp at h; exact .inl ⟨rfl, h.symm⟩
  · rename_i x
    split at h
    · rename_i k j e; simp at h; subst h
      have := rep_eval r e
      simp only [Rep] at this
      exact .inr ⟨x, k, rfl, this⟩
    · cases h
theorem run_bounds {n : NT} {A : AS} {a : Act} (r : Rel n A a w) {lo hi mx : Option Operand} {l h m : Int} {isS : Bool} {len cap dm : Nat}
    (hl : intV A.env 0 lo = some l) (hh : intV A.env len hi = some h) (hm : intV A.env dm mx = some m) (h0 : 0 ≤ l) (h1 : l ≤ h) (h2 : h ≤ m) (h3 : m ≤ cap) (hd : mx = none → h ≤ cap) (hmx : mx.isSome → hi.isSome) :
    (Instr.sliceBounds isS len cap (lo.map a.eval) (hi.map a.eval) (mx.map a.eval)).run P w = .ok (l.toNat, h.toNat, if mx.isSome then m.toNat else cap) w := by
  unfold Instr.sliceBounds
  rcases intV_some r hm with ⟨rfl, gm⟩ | ⟨xm, km, rfl, em⟩
  · rcases intV_some r hh with ⟨rfl, gh⟩ | ⟨xh, kh, rfl, eh⟩
    · subst gh
      rcases intV_some r hl with ⟨rfl, gl⟩ | ⟨xl, kl, rfl, el⟩
      · subst gl; simp only [Option.map_none, run_bind, run_pure, Option.isSome_none, Bool.false_eq_true, if_false]; rfl
      · simp only [Option.map_none, Option.map_some, el, run_bind, run_pure, Option.isSome_none, Bool.false_eq_true, if_false]
        rw [run_bound h0 (by omega)]; simp
    · have hc := hd rfl
      rcases intV_some r hl with ⟨rfl, gl⟩ | ⟨xl, kl, rfl, el⟩
      · subst gl; simp only [Option.map_none, Option.map_some, eh, run_bind, run_pure, Option.isSome_none, Bool.false_eq_true, if_false]
        rw [run_bound (by omega) hc]; rfl
      · simp only [Option.map_none, Option.map_some, eh, el, run_bind, run_pure, Option.isSome_none, Bool.false_eq_true, if_false]
        rw [run_bound (by omega) hc]
        simp only []
        rw [run_bound h0 (by omega)]
  · rcases intV_some r hh with ⟨rfl, gh⟩ | ⟨xh, kh, rfl, eh⟩
    · simp at hmx
    · rcases intV_some r hl with ⟨rfl, gl⟩ | ⟨xl, kl, rfl, el⟩
      · subst gl; simp only [Option.map_none, Option.map_some, eh, em, run_bind, run_pure, Option.isSome_some, if_true]
        rw [run_bound (by omega) h3]
        simp only []
        rw [run_bound (by omega) (by omega)]; rfl
      · simp only [Option.map_some, eh, em, el, run_bind, run_pure, Option.isSome_some, if_true]
        rw [run_bound (by omega) h3]
        simp only []
        rw [run_bound (by omega) (by omega)]
        simp only []
        rw [run_bound h0 (by omega)]
theorem evalL_run {n : NT} {A : AS} {a : Act} (r : Rel n A a w) : ∀ {xs : List Operand} {vs : List TV}, evalL A.env xs = some vs → RepL w (Fr A.H w) vs (xs.map a.eval)
  | [], vs, h => by simp only [evalL, Option.some.injEq] at h; subst h; simp only [List.map_nil, RepL]
  | x :: xs, vs, h => by
    simp only [evalL] at h
    split at h
    · rename_i v vs' h1 h2; simp at h; subst h
      simp only [List.map_cons, RepL]; exact ⟨_, _, rfl, rep_eval r h1, evalL_run r h2⟩
    · cases h
end
end Go.Abs
