import Derived.Test.YtoeplpkmjfecgaaGreatDoorAb8
import Derived.KernelRfl
import Derived.Laws.Entries
/- The equations by which a walk goes on. -/
namespace Go.Abs
set_option linter.unusedSimpArgs false
set_option linter.unusedVariables false
set_option linter.unusedVariables false
section
variable {P : Program} {K : AS → Prop} {E : List (Nat × TV)} {H : Heap} {A : AS} {ops : Array Oper} {rest : List Oper}
def withv (o : Option TV) (k : TV → Prop) : Prop := match o with | some v => k v | none => False
theorem withv_some (v : TV) (k : TV → Prop) : withv (some v) k = k v := rfl
theorem aops_nil : aops P ops K [] A = K A := rfl
theorem aops_cons (d : Option Tmp) (op : Op) (ty : TypeId) (pos : String) (aft : Array Edge) : aops P ops K (⟨d, op, ty, pos, aft, none⟩ :: rest) A = opA P ⟨d, op, ty, pos, aft, none⟩ A (aops P ops K rest) := rfl
def grd (g : Option TV) (T F S : Prop) : Prop := match g with
  | some (.s (.bool t)) => (t = true → T) ∧ (t = false → F)
  | some (.s (.tuple _)) => S
  | _ => False
theorem grd_true (T F S : Prop) : grd (some (.s (.bool true))) T F S = T := by simp [grd]
theorem grd_false (T F S : Prop) : grd (some (.s (.bool false))) T F S = F := by simp [grd]
theorem grd_skip (l : Array Value) (T F S : Prop) : grd (some (.s (.tuple l))) T F S = S := rfl
theorem grd_bool (t : Bool) (T F S : Prop) : grd (some (.s (.bool t))) T F S = ((t = true → T) ∧ (t = false → F)) := rfl
def onD (o : Option Tmp) (f : Tmp → Prop) : Prop := match o with | some D => f D | none => False
theorem onD_ (D : Tmp) (f : Tmp → Prop) : onD (some D) f = f D := rfl
/-- An operation under a guard: what is done and what is left out. All that it holds is data, so simp finds nothing in it before the guard is known. -/
def grdO (w : Bool) (P : Program) (o : Oper) (k : AS → Prop) (D : Tmp) (A : AS) (g : Option TV) : Prop :=
  grd g (if w then opA P o ⟨(D, .s (.bool true)) :: A.env, A.H⟩ k else k ((⟨(D, .s (.bool true)) :: A.env, A.H⟩ : AS).put o.dst (.s (.tuple #[]))))
    (if w then k ((⟨(D, .s (.bool false)) :: A.env, A.H⟩ : AS).put o.dst (.s (.tuple #[]))) else opA P o ⟨(D, .s (.bool false)) :: A.env, A.H⟩ k)
    (k (A.put o.dst (.s (.tuple #[]))))
section
variable {o : Oper} {k : AS → Prop} {D : Tmp} {w : Bool}
theorem grdO_tt : grdO true P o k D ⟨E, H⟩ (some (.s (.bool true))) = opA P o ⟨(D, .s (.bool true)) :: E, H⟩ k := by simp [grdO, grd]
theorem grdO_ff : grdO false P o k D ⟨E, H⟩ (some (.s (.bool false))) = opA P o ⟨(D, .s (.bool false)) :: E, H⟩ k := by simp [grdO, grd]
variable (d : Option Tmp) (op : Op) (ty : TypeId) (pos : String) (aft : Array Edge) (g : Option (Nat × Bool))
theorem grdO_tf : grdO true P ⟨d, op, ty, pos, aft, g⟩ k D ⟨E, H⟩ (some (.s (.bool false))) = k ((⟨(D, .s (.bool false)) :: E, H⟩ : AS).put d (.s (.tuple #[]))) := by simp [grdO, grd]
theorem grdO_ft : grdO false P ⟨d, op, ty, pos, aft, g⟩ k D ⟨E, H⟩ (some (.s (.bool true))) = k ((⟨(D, .s (.bool true)) :: E, H⟩ : AS).put d (.s (.tuple #[]))) := by simp [grdO, grd]
theorem grdO_skip (l : Array Value) : grdO w P ⟨d, op, ty, pos, aft, g⟩ k D ⟨E, H⟩ (some (.s (.tuple l))) = k ((⟨E, H⟩ : AS).put d (.s (.tuple #[]))) := id rfl
theorem grdO_go {t : Bool} (hT : t = true → grdO w P o k D A (some (.s (.bool true)))) (hF : t = false → grdO w P o k D A (some (.s (.bool false)))) : grdO w P o k D A (some (.s (.bool t))) := by
  cases t
  · exact hF rfl
  · exact hT rfl
end
theorem aops_guard (w : Bool) (l : List Oper) (d : Option Tmp) (op : Op) (ty : TypeId) (pos : String) (aft : Array Edge) (j : Nat) : aops P l.toArray K (⟨d, op, ty, pos, aft, some (j, w)⟩ :: rest) A =
    onD (gdst l.toArray j) fun D => grdO w P ⟨d, op, ty, pos, aft, none⟩ (aops P l.toArray K rest) D A (look A.env D) := by
  cases w
  all_goals
    simp only [aops, grdO]; unfold onD
    rcases gdst l.toArray j with _ | D
    · rfl
    simp only []; unfold grd
    cases look A.env D with
    | none => rfl
    | some x => cases x with
      | s v => cases v <;> first | rfl | (simp; done) | (simp; rfl)
      | _ => rfl
theorem gdst_mk (l : List Oper) (j : Nat) : gdst l.toArray j = (l[j]?).bind (·.dst) := by unfold gdst; simp
theorem put_some (d : Tmp) (v : TV) : (⟨E, H⟩ : AS).put (some d) v = ⟨(d, v) :: E, H⟩ := rfl
theorem put_none (v : TV) : (⟨E, H⟩ : AS).put none v = ⟨E, H⟩ := rfl
theorem on_mk (H' : Heap) : (⟨E, H⟩ : AS).on H' = ⟨E, H'⟩ := rfl
theorem look_cons (a t : Nat) (v : TV) : look ((a, v) :: E) t = if t = a then some v else look E t := rfl
theorem eval_tmp (t : Nat) : evalA E (.tmp t) = look E t := rfl
theorem eval_global (g : Nat) : evalA E (.global g) = some (.s (.pointer (some ⟨g, 0, none⟩))) := rfl
theorem eval_func (f : Nat) : evalA E (.func f) = some (.s (.func (.func f) #[] #[])) := rfl
theorem eval_int (k : IntKind) (n : Int) : evalA E (.const (.int k n)) = some (.s (.int k n)) := rfl
theorem eval_bool (b : Bool) : evalA E (.const (.bool b)) = some (.s (.bool b)) := rfl
theorem eval_string (s : ByteArray) : evalA E (.const (.string s)) = some (.s (.string s)) := rfl
theorem eval_pointer (p : Option Addr) : evalA E (.const (.pointer p)) = some (.s (.pointer p)) := rfl
theorem eval_nil (p : Option Addr) : evalA E (.const (.slice p 0 0)) = some .nils := rfl
theorem eval_map (p : Option Nat) : evalA E (.const (.map p)) = some (.s (.map p)) := rfl
theorem eval_nilI : evalA E (.const .nilIface) = some (.s .nilIface) := rfl
theorem eval_nilF : evalA E (.const .nilFunc) = some (.s .nilFunc) := rfl
theorem eval_agg (cs : Array Value) : evalA E (.const (.agg cs)) = some (.agg (cs.toList.map cst1)) := rfl
variable (d : Option Tmp) (ty : TypeId) (pos : String) (aft : Array Edge) (g : Option (Nat × Bool))
theorem op_move (x : Operand) : opA P ⟨d, .move x, ty, pos, aft, g⟩ A K = withv (evalA A.env x) fun v => K (A.put d v) := by rw [opA_ne rfl]; cases e : evalA A.env x <;> simp [opA0, valA, e, withv]
theorem op_assign (x : Operand) : opA P ⟨d, .assign x, ty, pos, aft, g⟩ A K = withv (evalA A.env x) fun v => K (A.put d v) := by rw [opA_ne rfl]; cases e : evalA A.env x <;> simp [opA0, valA, e, withv]
def pick3 : Option TV → Option TV → Option TV → Option TV
  | some (.s (.bool t)), some x, some y => some (pickA t x y)
  | _, _, _ => none
theorem pick3_ (t : Bool) (x y : TV) : pick3 (some (.s (.bool t))) (some x) (some y) = some (pickA t x y) := rfl
theorem pickA_true (x y : TV) : pickA true x y = x := by unfold pickA; split <;> simp_all
theorem pickA_false (x y : TV) : pickA false x y = y := by unfold pickA; split <;> simp_all
theorem pickA_bool (t x y : Bool) : pickA t (.s (.bool x)) (.s (.bool y)) = .s (.bool (bif t then x else y)) := rfl
theorem op_pick (c x y : Operand) : opA P ⟨d, .pick c x y, ty, pos, aft, g⟩ A K = withv (pick3 (evalA A.env c) (evalA A.env x) (evalA A.env y)) fun v => K (A.put d v) := by
  rw [opA_ne rfl]; simp only [opA0, valA]; unfold pick3 withv; rfl
def bindT (o : Option TV) (f : TV → Option TV) : Option TV := match o with | some v => f v | none => none
theorem bindT_ (v : TV) (f : TV → Option TV) : bindT (some v) f = f v := rfl
def ld : Option (Bool × Nat) → Option (List TV) → Option TV
  | some (true, n), some cs => if n ≤ cs.length then some (.agg (cs.take n)) else none
  | some (false, _), some (c :: _) => some c
  | _, _ => none
theorem ld_agg (n : Nat) (cs : List TV) : ld (some (true, n)) (some cs) = if n ≤ cs.length then some (.agg (cs.take n)) else none := rfl
theorem ld_one (n : Nat) (c : TV) (cs : List TV) : ld (some (false, n)) (some (c :: cs)) = some c := rfl
theorem loadA_ld (T : TypeId) (p : TV) : loadA P H T p = ld (szP P T) (rdA H p) := by unfold loadA ld; rfl
def cellsOf : Option Root → Nat → Option (List TV)
  | some (.cells cs), off => some (cs.drop off)
  | some (.exact (.cells c _ _)), off => some ((c.toList.map .s).drop off)
  | _, _ => none
theorem cellsOf_ex (c : Array Value) (e : TypeId) (fz : Nat × Nat) (off : Nat) : cellsOf (some (.exact (.cells c e fz))) off = some ((c.toList.map .s).drop off) := rfl
theorem cellsOf_ (cs : List TV) (off : Nat) : cellsOf (some (.cells cs)) off = some (cs.drop off) := rfl
theorem rd_ptr (b off : Nat) : rdA H (.s (.pointer (some ⟨b, off, none⟩))) = cellsOf (H b) off := by
  simp only [rdA]; cases H b with
  | none => rfl
  | some r => cases r with
    | exact o => cases o <;> rfl
    | _ => rfl
theorem rd_fp (cs : List TV) : rdA H (.fp cs) = some cs := rfl
theorem op_load (T : TypeId) (p : Operand) : opA P ⟨d, .load T p, ty, pos, aft, g⟩ A K = withv (bindT (evalA A.env p) fun p => ld (szP P T) (rdA A.H p)) fun v => K (A.put d v) := by
  rw [opA_ne rfl]; simp only [opA0, valA, ← loadA_ld]; unfold bindT withv; rfl
theorem nil_ptr (p : Addr) : nilA (.s (.pointer (some p))) = some (.s (.pointer (some p))) := rfl
theorem nil_fp (cs : List TV) : nilA (.fp cs) = some (.fp cs) := rfl
theorem nil_clo (f : FuncId) (a b : List TV) : nilA (.clo (.func f) a b) = some (.clo (.func f) a b) := rfl
theorem op_nil (x : Operand) : opA P ⟨d, .nilCheck x, ty, pos, aft, g⟩ A K = withv (bindT (evalA A.env x) nilA) fun v => K (A.put d v) := by
  rw [opA_ne rfl]; simp only [opA0, valA]; unfold bindT withv; rfl
/-- Two operands of an operator. -/
def bin2 (P : Program) (op : BinOp) (T : TypeId) : Option TV → Option TV → Option TV
  | some (.s a), some (.s b) => match binV op a b with
    | some v => some (.s v)
    | none => match op, eqV P T (.s a) (.s b) with
      | .eql, some t => some (.s (.bool t))
      | .neq, some t => some (.s (.bool !t))
      | _, _ => none
  | some (.agg a), some (.agg b) => match op, eqS P T (.agg a) (.agg b) with
    | .eql, some t => some (.s (.bool t))
    | .neq, some t => some (.s (.bool !t))
    | _, _ => none
  | some a, some b => match op, eqV P T a b with
    | .eql, some t => some (.s (.bool t))
    | .neq, some t => some (.s (.bool !t))
    | _, _ => none
  | _, _ => none
theorem op_bin (op : BinOp) (T : TypeId) (x y : Operand) (yT : TypeId) : opA P ⟨d, .binOp op T x y yT, ty, pos, aft, g⟩ A K = withv (bin2 P op T (evalA A.env x) (evalA A.env y)) fun v => K (A.put d v) := by
  rw [opA_ne rfl]; simp only [opA0, valA]; unfold bin2 withv; rfl
/-- Shifts. -/
def shlK (k : IntKind) (x y : Int) : Int := k.wrap (x * 2 ^ (min y.toNat k.bits))
def shrK (k : IntKind) (x y : Int) : Int := x.fdiv (2 ^ (min y.toNat k.bits))
variable (k : IntKind) (T : TypeId) (x y : Int) (s t : ByteArray)
theorem b_add : bin2 P .add T (some (.s (.int k x))) (some (.s (.int k y))) = some (.s (.int k (k.wrap (x + y)))) := by simp [bin2, binV]
theorem b_sub : bin2 P .sub T (some (.s (.int k x))) (some (.s (.int k y))) = some (.s (.int k (k.wrap (x - y)))) := by simp [bin2, binV]
theorem b_mul : bin2 P .mul T (some (.s (.int k x))) (some (.s (.int k y))) = some (.s (.int k (k.wrap (x * y)))) := by simp [bin2, binV]
theorem b_quo (hy : y ≠ 0) : bin2 P .quo T (some (.s (.int k x))) (some (.s (.int k y))) = some (.s (.int k (k.wrap (x.tdiv y)))) := by simp [bin2, binV, hy]
theorem b_rem (hy : y ≠ 0) : bin2 P .rem T (some (.s (.int k x))) (some (.s (.int k y))) = some (.s (.int k (x.tmod y))) := by simp [bin2, binV, hy]
theorem b_and : bin2 P .and T (some (.s (.int k x))) (some (.s (.int k y))) = some (.s (.int k (Go.bits .and k x y))) := by simp [bin2, binV, Go.bits]
theorem b_or : bin2 P .or T (some (.s (.int k x))) (some (.s (.int k y))) = some (.s (.int k (Go.bits .or k x y))) := by simp [bin2, binV, Go.bits]
theorem b_xor : bin2 P .xor T (some (.s (.int k x))) (some (.s (.int k y))) = some (.s (.int k (Go.bits .xor k x y))) := by simp [bin2, binV, Go.bits]
theorem b_andNot : bin2 P .andNot T (some (.s (.int k x))) (some (.s (.int k y))) = some (.s (.int k (Go.bits .andNot k x y))) := by simp [bin2, binV, Go.bits]
theorem b_shl (k' : IntKind) (hy : 0 ≤ y) : bin2 P .shl T (some (.s (.int k x))) (some (.s (.int k' y))) = some (.s (.int k (shlK k x y))) := by simp [bin2, binV, hy, shlK]
theorem b_shr (k' : IntKind) (hy : 0 ≤ y) : bin2 P .shr T (some (.s (.int k x))) (some (.s (.int k' y))) = some (.s (.int k (shrK k x y))) := by simp [bin2, binV, hy, shrK]
theorem b_eql : bin2 P .eql T (some (.s (.int k x))) (some (.s (.int k y))) = some (.s (.bool (x == y))) := by simp [bin2, binV]
theorem b_neq : bin2 P .neq T (some (.s (.int k x))) (some (.s (.int k y))) = some (.s (.bool (x != y))) := by simp [bin2, binV]
theorem b_lss : bin2 P .lss T (some (.s (.int k x))) (some (.s (.int k y))) = some (.s (.bool (x < y))) := by simp [bin2, binV]
theorem b_leq : bin2 P .leq T (some (.s (.int k x))) (some (.s (.int k y))) = some (.s (.bool (x ≤ y))) := by simp [bin2, binV]
theorem b_gtr : bin2 P .gtr T (some (.s (.int k x))) (some (.s (.int k y))) = some (.s (.bool (y < x))) := by simp [bin2, binV]
theorem b_geq : bin2 P .geq T (some (.s (.int k x))) (some (.s (.int k y))) = some (.s (.bool (y ≤ x))) := by simp [bin2, binV]
theorem b_cat (h : ¬ ((s.size + t.size : Nat) : Int) > IntKind.i64.max) : bin2 P .add T (some (.s (.string s))) (some (.s (.string t))) = some (.s (.string (s ++ t))) := by simp only [bin2, binV, if_neg h]
theorem b_seql : bin2 P .eql T (some (.s (.string s))) (some (.s (.string t))) = some (.s (.bool (s.toList == t.toList))) := rfl
theorem b_sneq : bin2 P .neq T (some (.s (.string s))) (some (.s (.string t))) = some (.s (.bool !(s.toList == t.toList))) := rfl
theorem b_slss : bin2 P .lss T (some (.s (.string s))) (some (.s (.string t))) = some (.s (.bool (Op.bytesLess s.toList t.toList))) := rfl
theorem b_sgtr : bin2 P .gtr T (some (.s (.string s))) (some (.s (.string t))) = some (.s (.bool !(Op.bytesLess s.toList t.toList || s.toList == t.toList))) := rfl
variable (a b : Bool)
theorem b_beql (hT : isBoolT P T = true) : bin2 P .eql T (some (.s (.bool a))) (some (.s (.bool b))) = some (.s (.bool (a == b))) := by simp [bin2, binV, eqV, hT]
theorem b_bneq (hT : isBoolT P T = true) : bin2 P .neq T (some (.s (.bool a))) (some (.s (.bool b))) = some (.s (.bool !(a == b))) := by simp [bin2, binV, eqV, hT]
theorem b_peql (p : Addr) (hT : isPtrT P T = true) : bin2 P .eql T (some (.s (.pointer (some p)))) (some (.s (.pointer none))) = some (.s (.bool false)) := by simp [bin2, binV, eqV, hT]
theorem b_pneq (p : Addr) (hT : isPtrT P T = true) : bin2 P .neq T (some (.s (.pointer (some p)))) (some (.s (.pointer none))) = some (.s (.bool true)) := by simp [bin2, binV, eqV, hT]
theorem b_ieql (t : TypeId) (v : Value) (hT : isIfcT P T = true) : bin2 P .eql T (some (.s (.iface t v))) (some (.s .nilIface)) = some (.s (.bool false)) := by simp [bin2, binV, eqV, hT]
theorem b_ineq (t : TypeId) (v : Value) (hT : isIfcT P T = true) : bin2 P .neq T (some (.s (.iface t v))) (some (.s .nilIface)) = some (.s (.bool true)) := by simp [bin2, binV, eqV, hT]
theorem b_neql (hT : isPtrT P T = true) : bin2 P .eql T (some (.s (.pointer none))) (some (.s (.pointer none))) = some (.s (.bool true)) := by simp [bin2, binV, eqV, hT]
theorem b_nneq (hT : isPtrT P T = true) : bin2 P .neq T (some (.s (.pointer none))) (some (.s (.pointer none))) = some (.s (.bool false)) := by simp [bin2, binV, eqV, hT]
def eqOf (o : Option Bool) (neg : Bool) : Option TV := match o with | some t => some (.s (.bool (bif neg then !t else t))) | none => none
theorem eqOf_t (t : Bool) : eqOf (some t) false = some (.s (.bool t)) := rfl
theorem eqOf_f (t : Bool) : eqOf (some t) true = some (.s (.bool !t)) := rfl
theorem b_aeql (l m : List TV) (hg : P.eqGuardType P.depth T = false) : bin2 P .eql T (some (.agg l)) (some (.agg m)) = eqOf (eqTV P 9 T (.agg l) (.agg m)) false := by
  simp only [bin2, eqS, hg]; cases eqTV P 9 T (.agg l) (.agg m) <;> rfl
theorem b_aneq (l m : List TV) (hg : P.eqGuardType P.depth T = false) : bin2 P .neq T (some (.agg l)) (some (.agg m)) = eqOf (eqTV P 9 T (.agg l) (.agg m)) true := by
  simp only [bin2, eqS, hg]; cases eqTV P 9 T (.agg l) (.agg m) <;> rfl
def un1 (op : UnOp) : Option TV → Option TV
  | some (.s a) => (unV op a).map .s
  | _ => none
theorem op_un (op : UnOp) (T : TypeId) (x : Operand) : opA P ⟨d, .unOp op T x, ty, pos, aft, g⟩ A K = withv (un1 op (evalA A.env x)) fun v => K (A.put d v) := by
  rw [opA_ne rfl]; simp only [opA0, valA]; unfold un1 withv; rfl
theorem u_neg : un1 .neg (some (.s (.int k x))) = some (.s (.int k (k.wrap (0 - x)))) := rfl
theorem u_not : un1 .not (some (.s (.bool a))) = some (.s (.bool !a)) := rfl
def cv1 (P : Program) (S D : TypeId) : Option TV → Option TV
  | some (.s a) => (convV P S D a).map .s
  | _ => none
theorem op_conv (S D : TypeId) (x : Operand) : opA P ⟨d, .convert S D x, ty, pos, aft, g⟩ A K = withv (cv1 P S D (evalA A.env x)) fun v => K (A.put d v) := by
  rw [opA_ne rfl]; simp only [opA0, valA]; unfold cv1 withv; rfl
def cvI : Bool → Option IntKind → Int → Option TV
  | true, some k, x => some (.s (.int k (k.wrap x)))
  | _, _, _ => none
theorem cvI_ (k : IntKind) (x : Int) : cvI true (some k) x = some (.s (.int k (k.wrap x))) := rfl
theorem cv_int (S D : TypeId) : cv1 P S D (some (.s (.int k x))) = cvI (P.underlying S).isSome (intT P D) x := by
  unfold intT cv1 convV cvI
  cases P.underlying S with
  | none => rfl
  | some u => cases P.underlying D with
    | none => cases u <;> rfl
    | some v => cases u <;> cases v <;> rfl
theorem cv_str (S D : TypeId) (hS : isStr P S = true) (hD : isStr P D = true) : cv1 P S D (some (.s (.string s))) = some (.s (.string s)) := by
  simp [cv1, convV, str_under hS, str_under hD]
def clo2 (fn : Fn) : Option (List TV) → Option (List TV) → Option TV
  | some f, some c => some (.clo fn f c)
  | _, _ => none
theorem clo2_ (fn : Fn) (f c : List TV) : clo2 fn (some f) (some c) = some (.clo fn f c) := rfl
theorem op_func (fn : Fn) (f c : Array Operand) : opA P ⟨d, .makeFunc fn f c, ty, pos, aft, g⟩ A K = withv (clo2 fn (evalL A.env f.toList) (evalL A.env c.toList)) fun v => K (A.put d v) := by
  rw [opA_ne rfl]; simp only [opA0, valA]; unfold clo2 withv; rfl
def consT : Option TV → Option (List TV) → Option (List TV)
  | some v, some vs => some (v :: vs)
  | _, _ => none
theorem consT_ (v : TV) (vs : List TV) : consT (some v) (some vs) = some (v :: vs) := rfl
theorem evalL_nil : evalL E [] = some [] := rfl
theorem evalL_cons (x : Operand) (xs : List Operand) : evalL E (x :: xs) = consT (evalA E x) (evalL E xs) := by simp only [evalL]; unfold consT; rfl
def consP (i : Nat) : Option TV → Option (List (Nat × TV)) → Option (List (Nat × TV))
  | some v, some vs => some ((i, v) :: vs)
  | _, _ => none
theorem consP_ (i : Nat) (v : TV) (vs : List (Nat × TV)) : consP i (some v) (some vs) = some ((i, v) :: vs) := rfl
theorem evalP_nil : evalP E [] = some [] := rfl
theorem evalP_cons (i : Nat) (x : Operand) (xs : List (Nat × Operand)) : evalP E ((i, x) :: xs) = consP i (evalA E x) (evalP E xs) := by simp only [evalP]; unfold consP; rfl
def bld (P : Program) (T : TypeId) : Option (List TV) → Option (List (Nat × TV)) → Option TV
  | some cs, some vs => (fillA (placeP P T) cs vs).map .agg
  | _, _ => none
theorem op_build (T : TypeId) (parts : Array (Nat × Operand)) (hs : sized P T = true) : opA P ⟨d, .build T parts, ty, pos, aft, g⟩ A K = withv (bld P T (zeroP P T) (evalP A.env parts.toList)) fun v => K (A.put d v) := by
  rw [opA_ne rfl]; simp only [opA0, valA, buildA, hs, if_true]; unfold bld withv; rfl
theorem bld_ (T : TypeId) (cs : List TV) (vs : List (Nat × TV)) : bld P T (some cs) (some vs) = (fillA (placeP P T) cs vs).map .agg := rfl
theorem fill_nil (place : Nat → Option (Nat × Nat)) (cs : List TV) : fillA place cs [] = some cs := rfl
def fill1 (place : Nat → Option (Nat × Nat)) (cs : List TV) (rest : List (Nat × TV)) : Option (Nat × Nat) → Option (List TV) → Option (List TV)
  | some (off, size), some vs => if vs.length ≠ size ∨ off + size > cs.length then none else fillA place (cs.take off ++ vs ++ cs.drop (off + size)) rest
  | _, _ => none
theorem fill_cons (place : Nat → Option (Nat × Nat)) (cs : List TV) (i : Nat) (v : TV) (rest : List (Nat × TV)) : fillA place cs ((i, v) :: rest) = fill1 place cs rest (place i) (cellsT v) := by
  simp only [fillA]; unfold fill1; rfl
theorem fill1_ (place : Nat → Option (Nat × Nat)) (cs : List TV) (rest : List (Nat × TV)) (off size : Nat) (vs : List TV) : fill1 place cs rest (some (off, size)) (some vs) = if vs.length ≠ size ∨ off + size > cs.length then none else fillA place (cs.take off ++ vs ++ cs.drop (off + size)) rest := rfl
theorem cells_agg (cs : List TV) : cellsT (.agg cs) = some cs := rfl
theorem cells_int : cellsT (.s (.int k x)) = some [.s (.int k x)] := rfl
theorem cells_bool : cellsT (.s (.bool a)) = some [.s (.bool a)] := rfl
theorem cells_string : cellsT (.s (.string s)) = some [.s (.string s)] := rfl
theorem cells_ptr (p : Option Addr) : cellsT (.s (.pointer p)) = some [.s (.pointer p)] := rfl
theorem cells_map (p : Option Nat) : cellsT (.s (.map p)) = some [.s (.map p)] := rfl
theorem cells_nils : cellsT .nils = some [.nils] := rfl
theorem cells_vs (k : Nat) (es : List (List TV)) : cellsT (.vs k es) = some [.vs k es] := rfl
theorem cells_rs (b o n k : Nat) : cellsT (.rs b o n k) = some [.rs b o n k] := rfl
theorem cells_fp (cs : List TV) : cellsT (.fp cs) = some [.fp cs] := rfl
theorem cells_clo (fn : Fn) (f c : List TV) : cellsT (.clo fn f c) = some [.clo fn f c] := rfl
theorem cells_func (fn : Fn) (f c : Array Value) : cellsT (.s (.func fn f c)) = some [.s (.func fn f c)] := rfl
def orT (a b : Option TV) : Option TV := match a with | some v => some v | none => b
theorem orT_some (v : TV) (b : Option TV) : orT (some v) b = some v := rfl
theorem orT_none (b : Option TV) : orT none b = b := rfl
theorem op_slice (T : TypeId) (x : Operand) (lo hi mx : Option Operand) : opA P ⟨d, .slice T x lo hi mx, ty, pos, aft, g⟩ A K = withv (bindT (evalA A.env x) fun v => orT (sliceArrA P A.H A.env T v lo hi mx) (sliceA P A.env T v lo hi mx)) fun v => K (A.put d v) := by
  rw [opA_ne rfl]; simp only [opA0, valA]; unfold bindT orT withv; rfl
theorem sarr_none (h : arP P T = none) (v : TV) (lo hi mx : Option Operand) : sliceArrA P H E T v lo hi mx = none := by unfold sliceArrA; rw [h]
def cutA (len : Int) (l h : Option Int) (f : Nat → Nat → TV) : Option TV := match l, h with
  | some l, some h => if 0 ≤ l ∧ l ≤ h ∧ h ≤ len then some (f l.toNat h.toNat) else none
  | _, _ => none
theorem cut_ (len l h : Int) (f : Nat → Nat → TV) : cutA len (some l) (some h) f = if 0 ≤ l ∧ l ≤ h ∧ h ≤ len then some (f l.toNat h.toNat) else none := rfl
def sarr2 (E : List (Nat × TV)) (b off : Nat) (lo hi : Option Operand) : Option (Nat × Bool × Nat) → Option Root → Option TV
  | some (n, _, k), some (.cells cs) => if off + n * k ≤ cs.length then cutA n (intV E 0 lo) (intV E n hi) fun l h => .rs b (off + l * k) (h - l) k else none
  | _, _ => none
theorem sarr2_ (b off : Nat) (lo hi : Option Operand) (n k : Nat) (gg : Bool) (cs : List TV) : sarr2 E b off lo hi (some (n, gg, k)) (some (.cells cs)) = if off + n * k ≤ cs.length then cutA n (intV E 0 lo) (intV E n hi) fun l h => .rs b (off + l * k) (h - l) k else none := rfl
theorem sarr_ (b off : Nat) (lo hi : Option Operand) (ha : (arP P T).isSome = true) : sliceArrA P H E T (.s (.pointer (some ⟨b, off, none⟩))) lo hi none = sarr2 E b off lo hi (arP P T) (H b) := by
  obtain ⟨⟨n, gg, k⟩, h⟩ := Option.isSome_iff_exists.1 ha
  unfold sliceArrA sarr2; simp only [h, Option.isNone_none, true_and]
  cases H b with
  | none => rfl
  | some r => cases r <;> rfl
theorem sl_str (lo hi : Option Operand) (h : isStr P T = true) : sliceA P E T (.s (.string s)) lo hi none = cutA s.size (intV E 0 lo) (intV E s.size hi) fun l h => .s (.string (s.extract l h)) := by
  unfold sliceA cutA; simp only [h, Option.isNone_none, Bool.and_self, if_true]; cases intV E 0 lo <;> cases intV E s.size hi <;> rfl
theorem intV_none (i : Int) : intV E i none = some i := rfl
theorem sl_vs (k : Nat) (es : List (List TV)) (lo hi : Option Operand) (h : elP P T = some k) : sliceA P E T (.vs k es) lo hi none = cutA es.length (intV E 0 lo) (intV E es.length hi) fun l h => .vs k ((es.drop l).take (h - l)) := by
  unfold sliceA cutA; simp only [h, Option.isSome_none, Bool.false_eq_true, false_implies, and_self, if_true, false_and, if_false, intV_none]
  cases intV E 0 lo <;> cases intV E es.length hi <;> try rfl
  rename_i l h'
  by_cases hc : 0 ≤ l ∧ l ≤ h' ∧ h' ≤ es.length
  · simp [hc]
  · simp [hc]
theorem sl_rs (b off n k : Nat) (lo hi : Option Operand) (h : elP P T = some k) : sliceA P E T (.rs b off n k) lo hi none = cutA n (intV E 0 lo) (intV E n hi) fun l h => .rs b (off + l * k) (h - l) k := by
  unfold sliceA cutA; simp only [h, Option.isSome_none, Bool.false_eq_true, false_implies, and_self, if_true, intV_none]
  cases intV E 0 lo <;> cases intV E n hi <;> try rfl
  rename_i l h'
  by_cases hc : 0 ≤ l ∧ l ≤ h' ∧ h' ≤ n
  · simp [hc]
  · simp [hc]
def toI : Option TV → Option Int
  | some (.s (.int _ i)) => some i
  | _ => none
theorem intV_some' (i : Int) (x : Operand) : intV E i (some x) = toI (evalA E x) := by simp only [intV]; unfold toI; rfl
theorem toI_ (i : Int) : toI (some (.s (.int k i))) = some i := rfl
theorem op_fieldAddr (T : TypeId) (x : Operand) (f : Nat) : opA P ⟨d, .fieldAddr T x f, ty, pos, aft, g⟩ A K = withv (bindT (evalA A.env x) (fieldAddrA P T f)) fun v => K (A.put d v) := by
  rw [opA_ne rfl]; simp only [opA0, valA]; unfold bindT withv; rfl
def fOff (o : Option (Nat × Bool × Nat)) (f : Nat → TV) : Option TV := match o with | some (o, _, _) => some (f o) | none => none
theorem fOff_ (o : Nat) (gg : Bool) (n : Nat) (f : Nat → TV) : fOff (some (o, gg, n)) f = some (f o) := rfl
theorem fa_ptr (f b off : Nat) : fieldAddrA P T f (.s (.pointer (some ⟨b, off, none⟩))) = fOff (fldP P T f) fun o => .s (.pointer (some ⟨b, off + o, none⟩)) := by simp only [fieldAddrA]; cases fldP P T f <;> rfl
theorem fa_fp (f : Nat) (cs : List TV) : fieldAddrA P T f (.fp cs) = fOff (fldP P T f) fun o => .fp (cs.drop o) := by simp only [fieldAddrA]; cases fldP P T f <;> rfl
theorem op_field (T : TypeId) (x : Operand) (f : Nat) : opA P ⟨d, .field T x f, ty, pos, aft, g⟩ A K = withv (bindT (evalA A.env x) (fieldA P T f)) fun v => K (A.put d v) := by
  rw [opA_ne rfl]; simp only [opA0, valA]; unfold bindT withv; rfl
def fPart (o : Option (Nat × Bool × Nat)) (cs : List TV) : Option TV := match o with | some (o, g, n) => partA g n cs o | none => none
theorem fPart_ (o : Nat) (gg : Bool) (n : Nat) (cs : List TV) : fPart (some (o, gg, n)) cs = partA gg n cs o := rfl
theorem f_agg (f : Nat) (cs : List TV) : fieldA P T f (.agg cs) = fPart (fldP P T f) cs := by simp only [fieldA]; unfold fPart; rfl
theorem part_t (n o : Nat) (cs : List TV) : partA true n cs o = if o + n ≤ cs.length then some (.agg ((cs.drop o).take n)) else none := rfl
theorem part_f (n o : Nat) (cs : List TV) : partA false n cs o = cs[o]? := rfl
def two (f : TV → TV → Option TV) : Option TV → Option TV → Option TV
  | some a, some b => f a b
  | _, _ => none
theorem two_ (f : TV → TV → Option TV) (a b : TV) : two f (some a) (some b) = f a b := rfl
theorem op_indexAddr (T : TypeId) (x i : Operand) : opA P ⟨d, .indexAddr T x i, ty, pos, aft, g⟩ A K = withv (two (indexAddrA P T) (evalA A.env x) (evalA A.env i)) fun v => K (A.put d v) := by
  rw [opA_ne rfl]; simp only [opA0, valA]; unfold two withv; rfl
theorem ia_vs (k : Nat) (es : List (List TV)) (k' : IntKind) (i : Int) (h : elP P T = some k) : indexAddrA P T (.vs k es) (.s (.int k' i)) = if 0 ≤ i then (es[i.toNat]?).map .fp else none := by simp [indexAddrA, h]
theorem ia_rs (b off n k : Nat) (k' : IntKind) (i : Int) (h : elP P T = some k) : indexAddrA P T (.rs b off n k) (.s (.int k' i)) = if 0 ≤ i ∧ i < n then some (.s (.pointer (some ⟨b, off + i.toNat * k, none⟩))) else none := by simp [indexAddrA, h]
def arIx (o : Option (Nat × Bool × Nat)) (i : Int) (f : Bool → Nat → Option TV) : Option TV := match o with | some (n, g, k) => if 0 ≤ i ∧ i < n then f g k else none | none => none
theorem arIx_ (n : Nat) (gg : Bool) (k : Nat) (i : Int) (f : Bool → Nat → Option TV) : arIx (some (n, gg, k)) i f = if 0 ≤ i ∧ i < n then f gg k else none := rfl
theorem ia_arr (b off : Nat) (k' : IntKind) (i : Int) : indexAddrA P T (.s (.pointer (some ⟨b, off, none⟩))) (.s (.int k' i)) = arIx (arP P T) i fun _ k => some (.s (.pointer (some ⟨b, off + i.toNat * k, none⟩))) := by simp only [indexAddrA]; unfold arIx; rfl
theorem ia_fp (cs : List TV) (k' : IntKind) (i : Int) : indexAddrA P T (.fp cs) (.s (.int k' i)) = arIx (arP P T) i fun _ k => some (.fp (cs.drop (i.toNat * k))) := by simp only [indexAddrA]; unfold arIx; rfl
theorem op_index (T : TypeId) (x i : Operand) : opA P ⟨d, .index T x i, ty, pos, aft, g⟩ A K = withv (two (indexA P T) (evalA A.env x) (evalA A.env i)) fun v => K (A.put d v) := by
  rw [opA_ne rfl]; simp only [opA0, valA]; unfold two withv; rfl
theorem ix_str (k' : IntKind) (i : Int) (c : UInt8) (h : isStr P T = true) (hi : 0 ≤ i) (hc : s[i.toNat]? = some c) : indexA P T (.s (.string s)) (.s (.int k' i)) = some (.s (.int .u8 c.toNat)) := by simp [indexA, h, hi, hc]
theorem ix_agg (cs : List TV) (k' : IntKind) (i : Int) : indexA P T (.agg cs) (.s (.int k' i)) = arIx (arP P T) i fun g m => partA g m cs (i.toNat * m) := by simp only [indexA]; unfold arIx; rfl
theorem op_extract (x : Operand) (i : Nat) : opA P ⟨d, .extract x i, ty, pos, aft, g⟩ A K = withv (bindT (evalA A.env x) fun t => extractA t i) fun v => K (A.put d v) := by
  rw [opA_ne rfl]; simp only [opA0, valA]; unfold bindT withv; rfl
theorem ex_tup (l : List TV) (i : Nat) : extractA (.tup l) i = l[i]? := rfl
def ofInt (o : Option Int) : Option TV := match o with | some n => some (.s (.int .i64 n)) | none => none
theorem ofInt_ (n : Int) : ofInt (some n) = some (.s (.int .i64 n)) := rfl
theorem op_len (x : Operand) (T : TypeId) : opA P ⟨d, .call { callee := .builtin .len, args := #[x], argTypes := #[T] }, ty, pos, aft, g⟩ A K = withv (bindT (evalA A.env x) fun v => ofInt (lenM P A.H T v)) fun v => K (A.put d v) := by
  rw [opA_ne rfl]; simp only [opA0, valA]; unfold bindT ofInt withv
  cases evalA A.env x with
  | none => rfl
  | some v => simp only []; cases lenM P A.H T v <;> rfl
theorem len_str (h : isStr P T = true) : lenM P H T (.s (.string s)) = some (s.size : Int) := by simp [lenM, lenA, h]
theorem len_vs (k : Nat) (es : List (List TV)) (h : (elP P T).isSome = true) : lenM P H T (.vs k es) = some (es.length : Int) := by simp [lenM, lenA, h]
theorem len_rs (b off n k : Nat) (h : (elP P T).isSome = true) : lenM P H T (.rs b off n k) = some (n : Int) := by simp [lenM, lenA, h]
theorem len_nils (h : (elP P T).isSome = true) : lenM P H T .nils = some 0 := by simp [lenM, lenA, h]
theorem len_map (b : Nat) (h : isMapT P T = true) : lenM P H T (.s (.map (some b))) = lenR (H b) := by simp [lenM, h]
theorem len_nilmap (h : isMapT P T = true) : lenM P H T (.s (.map none)) = some 0 := by simp [lenM, h]
theorem op_call (f : Operand) (args : Array Operand) (ts : Array TypeId) : opA P ⟨d, .call { callee := .value f, args := args, argTypes := ts }, ty, pos, aft, g⟩ A K = callA P A f args.toList (fun r H' => K ((A.on H').put d r)) := rfl
/-- Whom, with which arguments. -/
def callB (P : Program) (H : Heap) (f : Option TV) (vs : Option (List TV)) (K : TV → Heap → Prop) : Prop :=
  match f, vs with
  | some f, some vs => match whom f with
    | some (g, fs, cs) => ∃ C, AC P g (fs ++ vs ++ cs) H C ∧ ∀ r H', C r H' → K r H'
    | none => False
  | _, _ => False
theorem callA_B (f : Operand) (args : List Operand) (K : TV → Heap → Prop) : callA P A f args K = callB P A.H (evalA A.env f) (evalL A.env args) K := rfl
/-- A call that is to be shown. -/
def Calling (P : Program) (g : FuncId) (args : List TV) (H : Heap) (K : TV → Heap → Prop) : Prop := ∃ C, AC P g args H C ∧ ∀ r H', C r H' → K r H'
theorem call_func (f : FuncId) (vs : List TV) (K : TV → Heap → Prop) : callB P H (some (.s (.func (.func f) #[] #[]))) (some vs) K = Calling P f vs H K := by simp [callB, whom, Calling]
theorem call_clo (f : FuncId) (fs vs cs : List TV) (K : TV → Heap → Prop) : callB P H (some (.clo (.func f) fs cs)) (some vs) K = Calling P f (fs ++ vs ++ cs) H K := rfl
theorem Calling.by {g : FuncId} {args : List TV} {K : TV → Heap → Prop} {C : TV → Heap → Prop} (h : AC P g args H C) (k : ∀ r H', C r H' → K r H') : Calling P g args H K := ⟨C, h, k⟩
def withc (o : Option (List TV)) (k : List TV → Prop) : Prop := match o with | some v => k v | none => False
theorem withc_some (v : List TV) (k : List TV → Prop) : withc (some v) k = k v := rfl
/-- A new block. -/
def Fresh (H : Heap) (k : Nat → Prop) : Prop := ∀ b, H b = none → (∀ p, (H p).isSome = true → (p = b) = False ∧ (b = p) = False) → k b
def obind {α : Type} (o : Option α) (f : α → Option (List TV)) : Option (List TV) := match o with | some v => f v | none => none
theorem obind_ {α : Type} (v : α) (f : α → Option (List TV)) : obind (some v) f = f v := rfl
theorem op_box (T : TypeId) (x : Operand) : opA P ⟨d, .box T x, ty, pos, aft, g⟩ A K = withc (obind (evalA A.env x) cellsT) fun cs => Fresh A.H fun b => K ((A.on (upd A.H b (.cells cs))).put d (.s (.pointer (some ⟨b, 0, none⟩)))) := by
  rw [opA_ne rfl]; simp only [opA0]; unfold obind withc
  cases evalA A.env x with
  | none => rfl
  | some v => simp only []; cases cellsT v <;> rfl
theorem op_alloc (T : TypeId) : opA P ⟨d, .alloc T, ty, pos, aft, g⟩ A K = withc (zeroP P T) fun cs => Fresh A.H fun b => K ((A.on (upd A.H b (.cells cs))).put d (.s (.pointer (some ⟨b, 0, none⟩)))) := by
  rw [opA_ne rfl]; simp only [opA0]; unfold withc; cases zeroP P T <;> rfl
def withh (o : Option Heap) (k : Heap → Prop) : Prop := match o with | some v => k v | none => False
theorem withh_some (v : Heap) (k : Heap → Prop) : withh (some v) k = k v := rfl
def wr3 (H : Heap) : Option TV → Option TV → Option (Bool × Nat) → Option Heap
  | some p, some v, some (_, n) => wrA H n p v
  | _, _, _ => none
theorem wr3_ (p v : TV) (gg : Bool) (n : Nat) : wr3 H (some p) (some v) (some (gg, n)) = wrA H n p v := rfl
theorem op_store (T : TypeId) (p x : Operand) : opA P ⟨d, .store T p x, ty, pos, aft, g⟩ A K = withh (wr3 A.H (evalA A.env p) (evalA A.env x) (szP P T)) fun H' => K ((A.on H').put d .any) := by
  rw [opA_ne rfl]; simp only [opA0]; unfold wr3 withh
  cases evalA A.env p <;> cases evalA A.env x <;> cases szP P T <;> rfl
def wr1 (H : Heap) (n b off : Nat) : Option (List TV) → Option Root → Option Heap
  | some vs, some (.cells cs) => if vs.length = n ∧ off + n ≤ cs.length ∧ vs.all oneT = true then some (upd H b (.cells (cs.take off ++ vs ++ cs.drop (off + n)))) else none
  | _, _ => none
theorem wr_ptr (n b off : Nat) (v : TV) : wrA H n (.s (.pointer (some ⟨b, off, none⟩))) v = wr1 H n b off (cellsT v) (H b) := by
  unfold wrA wr1
  cases cellsT v with
  | none => rfl
  | some vs => simp only []; cases H b with
    | none => rfl
    | some r => cases r <;> rfl
theorem wr1_ (n b off : Nat) (vs cs : List TV) : wr1 H n b off (some vs) (some (.cells cs)) = if vs.length = n ∧ off + n ≤ cs.length ∧ vs.all oneT = true then some (upd H b (.cells (cs.take off ++ vs ++ cs.drop (off + n)))) else none := rfl
theorem one_int : oneT (.s (.int k x)) = true := rfl
theorem one_bool : oneT (.s (.bool a)) = true := rfl
theorem one_string : oneT (.s (.string s)) = true := rfl
theorem one_ptr (p : Option Addr) : oneT (.s (.pointer p)) = true := rfl
theorem one_map (p : Option Nat) : oneT (.s (.map p)) = true := rfl
theorem one_nils : oneT .nils = true := rfl
theorem one_vs (k : Nat) (es : List (List TV)) : oneT (.vs k es) = true := rfl
theorem one_rs (b o n k : Nat) : oneT (.rs b o n k) = true := rfl
theorem one_fp (cs : List TV) : oneT (.fp cs) = true := rfl
theorem one_clo (fn : Fn) (f c : List TV) : oneT (.clo fn f c) = true := rfl
theorem upd_eq (H : Heap) (b c : Nat) (r : Root) : upd H b r c = if c = b then some r else H c := rfl
def resL (P : Program) (A : AS) : List ResultVar → Option (List TV)
  | [] => some []
  | r :: rs => consT (resA P A r) (resL P A rs)
theorem resAll_L (l : List ResultVar) : resAll P A l = resL P A l := by
  induction l with
  | nil => rfl
  | cons r l ih => simp only [resAll, resL, ih]; unfold consT; rfl
theorem res_tmp (t : Nat) : resA P A (.tmp t) = look A.env t := rfl
theorem res_cell (t T : Nat) : resA P A (.cell t T) = bindT (look A.env t) fun p => ld (szP P T) (rdA A.H p) := by simp only [resA, ← loadA_ld]; unfold bindT; rfl
theorem resL_nil : resL P A [] = some [] := rfl
theorem resL_cons (r : ResultVar) (rs : List ResultVar) : resL P A (r :: rs) = consT (resA P A r) (resL P A rs) := rfl
theorem resV_one (v : TV) : resV [v] = v := rfl
theorem resV_two (v u : TV) (l : List TV) : resV (v :: u :: l) = .tup (v :: u :: l) := rfl
theorem Fin.done {res : List ResultVar} {C : TV → Heap → Prop} {vs : List TV} (h : resL P A res = some vs) {r : TV} {H' : Heap} (hs : Sub H' A.H) (hc : Conv A.H H' (resV vs) r) (h' : C r H') : Fin P res C A := ⟨vs, by rw [resAll_L]; exact h, r, H', hs, hc, h'⟩
/-- At a return that frees nothing that the result holds. -/
theorem Fin.plain {res : List ResultVar} {C : TV → Heap → Prop} {vs : List TV} (h : resL P A res = some vs) {H' : Heap} (hs : Sub H' A.H) (h' : C (resV vs) H') : Fin P res C A := Fin.done h hs (Conv.refl hs _) h'
end
theorem Fresh.go {H : Heap} {k : Nat → Prop} (h : ∀ b, H b = none → (∀ p, (H p).isSome = true → (p = b) = False ∧ (b = p) = False) → k b) : Fresh H k := h
section
variable {P : Program} {n : NT} {Z : AS → Prop} {k : List Item} {A : AS}
theorem ARun.cond_t {c : Operand} {x y : Code} (hc : evalA A.env c = some (.s (.bool true))) (h : ARun P n Z (.code x :: k) A) : ARun P n Z (.code (.cond c x y) :: k) A := ARun.cond hc (fun _ => h) (fun h => by cases h)
theorem ARun.cond_f {c : Operand} {x y : Code} (hc : evalA A.env c = some (.s (.bool false))) (h : ARun P n Z (.code y :: k) A) : ARun P n Z (.code (.cond c x y) :: k) A := ARun.cond hc (fun h => by cases h) (fun _ => h)
end
/- What simp looks into, and what it lets stand. -/
@[congr] theorem withv_congr {o o' : Option TV} {k : TV → Prop} (h : o = o') : withv o k = withv o' k := by rw [h]
@[congr] theorem withc_congr {o o' : Option (List TV)} {k : List TV → Prop} (h : o = o') : withc o k = withc o' k := by rw [h]
@[congr] theorem withh_congr {o o' : Option Heap} {k : Heap → Prop} (h : o = o') : withh o k = withh o' k := by rw [h]
@[congr] theorem grd_congr {g g' : Option TV} {T F S : Prop} (h : g = g') : grd g T F S = grd g' T F S := by rw [h]
@[congr] theorem grdO_congr {w : Bool} {P : Program} {o : Oper} {k : AS → Prop} {D : Tmp} {A A' : AS} {g g' : Option TV} (h : A = A') (h' : g = g') : grdO w P o k D A g = grdO w P o k D A' g' := by rw [h, h']
@[congr] theorem onD_congr {o o' : Option Tmp} {f : Tmp → Prop} (h : o = o') : onD o f = onD o' f := by rw [h]
@[congr] theorem Fresh_congr {H H' : Heap} {k : Nat → Prop} (h : H = H') : Fresh H k = Fresh H' k := by rw [h]
@[congr] theorem Calling_congr {P : Program} {g : FuncId} {args args' : List TV} {H H' : Heap} {K : TV → Heap → Prop} (h : args = args') (h' : H = H') : Calling P g args H K = Calling P g args' H' K := by rw [h, h']
@[congr] theorem ARun_congr {P : Program} {n : NT} {Z : AS → Prop} {k : List Item} {A A' : AS} (h : A = A') : ARun P n Z k A = ARun P n Z k A' := by rw [h]
@[congr] theorem aops_congr {P : Program} {ops : Array Oper} {K : AS → Prop} {l : List Oper} {A A' : AS} (h : A = A') : aops P ops K l A = aops P ops K l A' := by rw [h]
@[congr] theorem opA_congr {P : Program} {o : Oper} {A A' : AS} {K : AS → Prop} (h : A = A') : opA P o A K = opA P o A' K := by rw [h]
theorem grd_go {t : Bool} {T F S : Prop} (hT : t = true → T) (hF : t = false → F) : grd (some (.s (.bool t))) T F S := ⟨hT, hF⟩
attribute [go_sem] withv_some aops_nil aops_cons grd_true grd_false grd_skip put_some put_none on_mk look_cons eval_tmp eval_global eval_func eval_int eval_bool eval_string eval_pointer eval_nil eval_map eval_agg eval_nilI eval_nilF
  op_move op_assign pick3_ pickA_true pickA_false pickA_bool op_pick bindT_ ld_agg ld_one cellsOf_ cellsOf_ex rd_ptr rd_fp op_load nil_ptr nil_fp nil_clo op_nil op_bin b_add b_sub b_mul b_quo b_rem b_and b_or b_xor b_andNot b_shl b_shr b_eql b_neq b_lss b_leq b_gtr b_geq b_seql b_sneq b_slss b_sgtr b_beql b_bneq b_peql b_pneq b_ieql b_ineq b_neql b_nneq eqOf_t eqOf_f b_aeql b_aneq
  op_un u_neg u_not op_conv cv_int cv_str clo2_ op_func consT_ evalL_nil evalL_cons consP_ evalP_nil evalP_cons op_build bld_ fill_nil fill_cons fill1_ cells_agg cells_int cells_bool cells_string cells_ptr cells_map cells_nils cells_vs cells_rs cells_fp cells_clo cells_func orT_some orT_none op_slice sarr_none cut_ sarr_ sl_str sl_vs sl_rs intV_none intV_some' toI_
  op_fieldAddr fa_ptr fa_fp fOff_ fPart_ arIx_ cvI_ sarr2_ op_field f_agg part_t part_f two_ op_indexAddr ia_vs ia_rs ia_arr ia_fp op_index ix_agg op_extract ex_tup ofInt_ op_len len_map len_nilmap len_str len_vs len_rs len_nils op_call callA_B call_func call_clo withc_some obind_ op_box op_alloc withh_some wr3_ op_store wr_ptr wr1_ one_int one_bool one_string one_ptr one_map one_nils one_vs one_rs one_fp one_clo upd_eq
  res_tmp res_cell resL_nil resL_cons resV_one resV_two aops_guard grdO_tt grdO_ff grdO_tf grdO_ft grdO_skip gdst_mk onD_
  List.drop_succ_cons List.drop_zero List.take_succ_cons List.take_zero List.length_cons List.length_nil List.getElem?_cons_succ List.getElem?_cons_zero Option.bind_some Option.map_some Nat.zero_add Nat.le_refl Nat.add_zero gt_iff_lt ne_eq not_true_eq_false not_false_eq_true or_self and_self true_and and_true forall_const List.cons_append List.nil_append List.append_nil Option.isSome_some or_false false_or List.all_cons List.all_nil Bool.and_self List.map_cons List.map_nil Int.toNat_natCast Int.cast_ofNat_Int Int.natCast_nonneg decide_true decide_false
end Go.Abs
