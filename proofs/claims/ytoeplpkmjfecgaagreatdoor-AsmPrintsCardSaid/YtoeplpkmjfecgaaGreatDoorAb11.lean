import Derived.Test.YtoeplpkmjfecgaaGreatDoorAb10
/- The equations of an open order. -/
namespace Go.Abs
set_option linter.unusedSimpArgs false
set_option linter.unusedVariables false
set_option linter.unusedVariables false
section
variable {P : Program} {K : AS → Prop} {A : AS} {ops : Array Oper}
def eqO (a b : Option TV) : Prop := match a, b with | some x, some y => x = y | _, _ => False
theorem eqO_ (x y : TV) : eqO (some x) (some y) = (x = y) := rfl
def onO (o : Option Oper) (f : Oper → Prop) : Prop := match o with | some o => f o | none => False
theorem onO_ (o : Oper) (f : Oper → Prop) : onO (some o) f = f o := rfl
def chksB (P : Program) (ops : Array Oper) (A : AS) : List Nat → Prop
  | [] => True
  | j :: js => onO (ops[j]?) (fun o => onD o.dst fun d => fgo P ops o A fun B => eqO (look A.env d) (look B.env d)) ∧ chksB P ops A js
def newsB (P : Program) (ops : Array Oper) (k : AS → Prop) : List Nat → AS → Prop
  | [], A => k A
  | j :: js, A => onO (ops[j]?) fun o => fgo P ops o A (newsB P ops k js)
def dnext (P : Program) (ops : Array Oper) (K : AS → Prop) (f : AS → Prop) (c : Option Nat) (A : AS) : Prop := match c with
  | none => K A
  | some i => onO (ops[i]?) fun o => cgo P ops o A f
def dphaseB (P : Program) (ops : Array Oper) (K : AS → Prop) : List Phase → AS → Prop
  | [], A => False
  | (chk, new, c) :: rest, A => chksB P ops A chk ∧ newsB P ops (dnext P ops K (dphaseB P ops K rest) c) new A
theorem withv_imp {x : Option TV} {f g : TV → Prop} (h : withv x f) (hfg : ∀ v, f v → g v) : withv x g := by
  cases x with
  | none => exact h.elim
  | some v => exact hfg v h
theorem onD_imp {o : Option Tmp} {f g : Tmp → Prop} (h : onD o f) (hfg : ∀ v, f v → g v) : onD o g := by
  cases o with
  | none => exact h.elim
  | some v => exact hfg v h
theorem grd_imp {g : Option TV} {T F S T' F' S' : Prop} (h : grd g T F S) (hT : T → T') (hF : F → F') (hS : S → S') : grd g T' F' S' := by
  unfold grd at *
  split at h
  · exact ⟨fun e => hT (h.1 e), fun e => hF (h.2 e)⟩
  · exact hS h
  · exact h
theorem fgo_imp {o : Oper} {k k' : AS → Prop} (h : fgo P ops o A k) (hk : ∀ B, k B → k' B) : fgo P ops o A k' := by
  unfold fgo at *
  split at h
  · exact withv_imp h fun v => hk _
  · exact onD_imp h fun D h => grd_imp h (fun h => withv_imp h fun v => hk _) (hk _) (hk _)
  · exact onD_imp h fun D h => grd_imp h (hk _) (fun h => withv_imp h fun v => hk _) (hk _)
theorem opA0_imp {o : Oper} {k k' : AS → Prop} (h : opA0 P o A k) (hk : ∀ B, k B → k' B) : opA0 P o A k' := by
  unfold opA0 at *
  split at h
  · split at h
    · split at h
      · exact fun b h1 h2 => hk _ (h b h1 h2)
      · exact h
    · exact h
  · split at h
    · exact fun b h1 h2 => hk _ (h b h1 h2)
    · exact h
  · split at h
    · split at h
      · exact hk _ h
      · exact h
    · exact h
  · unfold callA at *
    split at h
    · split at h
      · obtain ⟨C, hC, h⟩ := h; exact ⟨C, hC, fun r H' hr => hk _ (h r H' hr)⟩
      · exact h
    · exact h
  · split at h
    · exact hk _ h
    · exact h
theorem opA_imp {o : Oper} {k k' : AS → Prop} (h : opA P o A k) (hk : ∀ B, k B → k' B) : opA P o A k' := by
  unfold opA at *
  split at h
  · rename_i he
    rw [if_pos he]
    unfold effA at *
    split at h
    · obtain ⟨C, hC, hh⟩ := h; exact ⟨C, hC, fun r H' hr => hk _ (hh r H' hr)⟩
    · exact h
  · rename_i he
    rw [if_neg he]; exact opA0_imp h hk
theorem cgo_imp {o : Oper} {k k' : AS → Prop} (h : cgo P ops o A k) (hk : ∀ B, k B → k' B) : cgo P ops o A k' := by
  unfold cgo at *
  split at h
  · exact opA_imp h hk
  · rename_i g want hg
    cases want
    · exact onD_imp h fun D h => grd_imp h (by simp; exact hk _) (by simp; exact fun h => opA_imp h hk) (hk _)
    · exact onD_imp h fun D h => grd_imp h (by simp; exact fun h => opA_imp h hk) (by simp; exact hk _) (hk _)
theorem chksB_chks {A : AS} : ∀ {l : List Nat}, chksB P ops A l → chks P ops A l
  | [], _ => trivial
  | j :: js, h => by
    obtain ⟨h1, h2⟩ := h
    refine ⟨?_, chksB_chks h2⟩
    unfold onO at h1; split at h1
    · rename_i o ho
      unfold onD at h1; split at h1
      · rename_i d hd
        obtain ⟨v, hv, hk⟩ := fgo_val h1
        refine ⟨o, v, d, ho, hd, hv, ?_⟩
        have : look (A.put o.dst v).env d = some v := by rw [hd]; simp [AS.put, look]
        rw [this] at hk
        unfold eqO at hk; split at hk
        · rename_i x y hx hy; cases hy; rw [hx, hk]
        · exact hk.elim
      · exact h1.elim
    · exact h1.elim
theorem newsB_news {k k' : AS → Prop} (hk : ∀ B, k B → k' B) : ∀ {l : List Nat} {A : AS}, newsB P ops k l A → news P ops k' l A
  | [], A, h => hk _ h
  | j :: js, A, h => by
    simp only [newsB] at h
    simp only [news]
    unfold onO at h; split at h
    · rename_i o ho; rw [ho]
      exact fgo_imp h fun B hB => newsB_news hk hB
    · exact h.elim
theorem dphaseB_dphase : ∀ {φ : List Phase} {A : AS}, dphaseB P ops K φ A → dphase P ops K φ A
  | [], A, h => h
  | (chk, new, c) :: rest, A, h => by
    obtain ⟨h1, h2⟩ := h
    refine ⟨chksB_chks h1, newsB_news (fun B hB => ?_) h2⟩
    cases c with
    | none => exact hB
    | some i =>
      simp only [dnext] at hB
      unfold onO at hB; split at hB
      · rename_i o ho; simp only [ho]
        exact cgo_imp hB fun B hB => dphaseB_dphase hB
      · exact hB.elim
theorem ARun.drawB {n : NT} {Z : AS → Prop} {k : List Item} {id : Nat} (hm : P.follows .mixedOrders = true) (φ : List Phase) (hok : drawOk ops φ = true) (hdst : dstOk n.n ops.toList = true)
    (h : dphaseB P ops (ARun P n Z k) φ A) : ARun P n Z (.code (.region id ops true) :: k) A := ARun.draw hm φ hok hdst (dphaseB_dphase h)
theorem chksB_nil : chksB P ops A [] = True := rfl
theorem chksB_cons (j : Nat) (js : List Nat) : chksB P ops A (j :: js) = (onO (ops[j]?) (fun o => onD o.dst fun d => fgo P ops o A fun B => eqO (look A.env d) (look B.env d)) ∧ chksB P ops A js) := rfl
theorem newsB_nil (k : AS → Prop) : newsB P ops k [] A = k A := rfl
theorem newsB_cons (k : AS → Prop) (j : Nat) (js : List Nat) : newsB P ops k (j :: js) A = onO (ops[j]?) fun o => fgo P ops o A (newsB P ops k js) := rfl
theorem dnext_none (f : AS → Prop) : dnext P ops K f none A = K A := rfl
theorem dnext_some (f : AS → Prop) (i : Nat) : dnext P ops K f (some i) A = onO (ops[i]?) fun o => cgo P ops o A f := rfl
theorem dphaseB_cons (chk new : List Nat) (c : Option Nat) (rest : List Phase) : dphaseB P ops K ((chk, new, c) :: rest) A = (chksB P ops A chk ∧ newsB P ops (dnext P ops K (dphaseB P ops K rest) c) new A) := rfl
def isF : Op → Bool
  | .box .. | .alloc _ | .store .. | .call { callee := .value _, .. } => false
  | op => !effOp op
variable (d : Option Tmp) (op : Op) (ty : TypeId) (pos : String) (aft : Array Edge)
theorem fgo_none (k : AS → Prop) (hf : isF op = true) : fgo P ops ⟨d, op, ty, pos, aft, none⟩ A k = opA P ⟨d, op, ty, pos, aft, none⟩ A k := by
  cases op
  case call c => obtain ⟨callee, args, ts⟩ := c; (cases callee; all_goals first | rfl | (rename_i b; cases b <;> first | rfl | exact absurd hf (by simp [isF, effOp])) | exact absurd hf (by simp [isF, effOp]))
  all_goals first | rfl | exact absurd hf (by simp [isF, effOp])
theorem fgo_nil (t : TypeId) (k : AS → Prop) (h : nilOk P t = true) : fgo P ops ⟨d, .buildSlice t 0 #[], ty, pos, aft, none⟩ A k = k (A.put d .nils) := by
  unfold fgo withv valF; simp [h]
theorem cgo_none (k : AS → Prop) : cgo P ops ⟨d, op, ty, pos, aft, none⟩ A k = opA P ⟨d, op, ty, pos, aft, none⟩ A k := rfl
/-- The same, in a region that draws its order: the guard's place is kept as it is. -/
def grdF (w : Bool) (P : Program) (o : Oper) (k : AS → Prop) (A : AS) (g : Option TV) : Prop :=
  grd g (if w then opA P o A k else k (A.put o.dst (.s (.tuple #[])))) (if w then k (A.put o.dst (.s (.tuple #[]))) else opA P o A k) (k (A.put o.dst (.s (.tuple #[]))))
theorem grdF_tt {k : AS → Prop} {o : Oper} : grdF true P o k A (some (.s (.bool true))) = opA P o A k := by simp [grdF, grd]
theorem grdF_ff {k : AS → Prop} {o : Oper} : grdF false P o k A (some (.s (.bool false))) = opA P o A k := by simp [grdF, grd]
theorem grdF_tf {k : AS → Prop} (g) : grdF true P ⟨d, op, ty, pos, aft, g⟩ k A (some (.s (.bool false))) = k (A.put d (.s (.tuple #[]))) := by simp [grdF, grd]
theorem grdF_ft {k : AS → Prop} (g) : grdF false P ⟨d, op, ty, pos, aft, g⟩ k A (some (.s (.bool true))) = k (A.put d (.s (.tuple #[]))) := by simp [grdF, grd]
theorem grdF_skip {k : AS → Prop} (w : Bool) (g) (l : Array Value) : grdF w P ⟨d, op, ty, pos, aft, g⟩ k A (some (.s (.tuple l))) = k (A.put d (.s (.tuple #[]))) := id rfl
theorem grdF_go {k : AS → Prop} {o : Oper} {w t : Bool} (hT : t = true → grdF w P o k A (some (.s (.bool true)))) (hF : t = false → grdF w P o k A (some (.s (.bool false)))) : grdF w P o k A (some (.s (.bool t))) := by
  cases t
  · exact hF rfl
  · exact hT rfl
theorem fgo_g (w : Bool) (l : List Oper) (k : AS → Prop) (hf : isF op = true) (j : Nat) : fgo P l.toArray ⟨d, op, ty, pos, aft, some (j, w)⟩ A k = onD (gdst l.toArray j) fun D => grdF w P ⟨d, op, ty, pos, aft, none⟩ k A (look A.env D) := by
  cases w <;> simp only [grdF] <;> cases op
  case false.call c => obtain ⟨callee, args, ts⟩ := c; (cases callee; all_goals first | rfl | (rename_i b; cases b <;> first | rfl | exact absurd hf (by simp [isF, effOp])) | exact absurd hf (by simp [isF, effOp]))
  case true.call c => obtain ⟨callee, args, ts⟩ := c; (cases callee; all_goals first | rfl | (rename_i b; cases b <;> first | rfl | exact absurd hf (by simp [isF, effOp])) | exact absurd hf (by simp [isF, effOp]))
  all_goals first | rfl | exact absurd hf (by simp [isF, effOp])
theorem cgo_g (w : Bool) (l : List Oper) (k : AS → Prop) (j : Nat) : cgo P l.toArray ⟨d, op, ty, pos, aft, some (j, w)⟩ A k = onD (gdst l.toArray j) fun D => grdF w P ⟨d, op, ty, pos, aft, none⟩ k A (look A.env D) := by cases w <;> rfl
theorem isF_move (x : Operand) : isF (.move x) = true := id rfl
theorem isF_assign (x : Operand) : isF (.assign x) = true := id rfl
theorem isF_pick (a b c : Operand) : isF (.pick a b c) = true := id rfl
theorem isF_build (T : TypeId) (x : Array (Nat × Operand)) : isF (.build T x) = true := id rfl
theorem isF_load (T : TypeId) (x : Operand) : isF (.load T x) = true := id rfl
theorem isF_nil (x : Operand) : isF (.nilCheck x) = true := id rfl
theorem isF_bin (o : BinOp) (T : TypeId) (x y : Operand) (U : TypeId) : isF (.binOp o T x y U) = true := id rfl
theorem isF_un (o : UnOp) (T : TypeId) (x : Operand) : isF (.unOp o T x) = true := id rfl
theorem isF_conv (T U : TypeId) (x : Operand) : isF (.convert T U x) = true := id rfl
theorem isF_func (f : Fn) (x y : Array Operand) : isF (.makeFunc f x y) = true := id rfl
theorem isF_slice (T : TypeId) (x : Operand) (l h m : Option Operand) : isF (.slice T x l h m) = true := id rfl
theorem isF_fa (T : TypeId) (x : Operand) (f : Nat) : isF (.fieldAddr T x f) = true := id rfl
theorem isF_fd (T : TypeId) (x : Operand) (f : Nat) : isF (.field T x f) = true := id rfl
theorem isF_ia (T : TypeId) (x i : Operand) : isF (.indexAddr T x i) = true := id rfl
theorem isF_ix (T : TypeId) (x i : Operand) : isF (.index T x i) = true := id rfl
theorem isF_ex (x : Operand) (i : Nat) : isF (.extract x i) = true := id rfl
theorem isF_len (x : Array Operand) (t : Array TypeId) : isF (.call { callee := .builtin .len, args := x, argTypes := t }) = true := id rfl
theorem get_toArray (l : List Oper) (i : Nat) : l.toArray[i]? = l[i]? := by simp
end
@[congr] theorem onO_congr {o o' : Option Oper} {f : Oper → Prop} (h : o = o') : onO o f = onO o' f := by rw [h]
@[congr] theorem newsB_congr {P : Program} {ops : Array Oper} {k : AS → Prop} {l : List Nat} {A A' : AS} (h : A = A') : newsB P ops k l A = newsB P ops k l A' := by rw [h]
@[congr] theorem dnext_congr {P : Program} {ops : Array Oper} {K f : AS → Prop} {c : Option Nat} {A A' : AS} (h : A = A') : dnext P ops K f c A = dnext P ops K f c A' := by rw [h]
@[congr] theorem grdF_congr {w : Bool} {P : Program} {o : Oper} {k : AS → Prop} {A A' : AS} {g g' : Option TV} (h : A = A') (h' : g = g') : grdF w P o k A g = grdF w P o k A' g' := by rw [h, h']
@[congr] theorem fgo_congr {P : Program} {ops : Array Oper} {o : Oper} {A A' : AS} {k : AS → Prop} (h : A = A') : fgo P ops o A k = fgo P ops o A' k := by rw [h]
@[congr] theorem cgo_congr {P : Program} {ops : Array Oper} {o : Oper} {A A' : AS} {k : AS → Prop} (h : A = A') : cgo P ops o A k = cgo P ops o A' k := by rw [h]
@[congr] theorem dphaseB_congr {P : Program} {ops : Array Oper} {K : AS → Prop} {φ : List Phase} {A A' : AS} (h : A = A') : dphaseB P ops K φ A = dphaseB P ops K φ A' := by rw [h]
attribute [go_sem] eqO_ onO_ chksB_nil chksB_cons newsB_nil newsB_cons dnext_none dnext_some dphaseB_cons fgo_none fgo_nil cgo_none fgo_g cgo_g grdF_tt grdF_ff grdF_tf grdF_ft grdF_skip isF_move isF_assign isF_pick isF_build isF_load isF_nil isF_bin isF_un isF_conv isF_func isF_slice isF_fa isF_fd isF_ia isF_ix isF_ex isF_len get_toArray
/- A list of rows, flat. -/
def flat {α : Type} (f : α → List TV) (l : List α) : List TV := l.flatMap f
section
variable {α : Type} {f : α → List TV} {k : Nat}
theorem flat_nil : flat f [] = [] := rfl
theorem flat_cons (x : α) (l : List α) : flat f (x :: l) = f x ++ flat f l := by simp [flat]
theorem flat_append (l m : List α) : flat f (l ++ m) = flat f l ++ flat f m := by simp [flat]
theorem flat_length (hk : ∀ x, (f x).length = k) : ∀ l : List α, (flat f l).length = l.length * k
  | [] => by simp [flat]
  | x :: l => by rw [flat_cons, List.length_append, hk, flat_length hk l, List.length_cons, Nat.add_mul]; omega
theorem flat_drop (hk : ∀ x, (f x).length = k) : ∀ (l : List α) (i : Nat), (flat f l).drop (i * k) = flat f (l.drop i)
  | [], i => by simp [flat]
  | x :: l, 0 => by simp
  | x :: l, i + 1 => by
    rw [flat_cons, List.drop_append, hk, List.drop_of_length_le (by rw [hk, Nat.add_mul]; omega), show (i + 1) * k - k = i * k by rw [Nat.add_mul]; omega, flat_drop hk l i]; rfl
theorem flat_take (hk : ∀ x, (f x).length = k) : ∀ (l : List α) (i : Nat), (flat f l).take (i * k) = flat f (l.take i)
  | [], i => by simp [flat]
  | x :: l, 0 => by simp [flat]
  | x :: l, i + 1 => by
    rw [flat_cons, List.take_append, hk, List.take_of_length_le (by rw [hk, Nat.add_mul]; omega), show (i + 1) * k - k = i * k by rw [Nat.add_mul]; omega, flat_take hk l i, List.take_succ_cons, flat_cons]
/-- The i-th row. -/
theorem flat_row (hk : ∀ x, (f x).length = k) {l : List α} {i : Nat} {x : α} (h : l[i]? = some x) : ∃ t, (flat f l).drop (i * k) = f x ++ t := by
  rw [flat_drop hk]
  obtain ⟨hi, rfl⟩ := List.getElem?_eq_some_iff.1 h
  rw [List.drop_eq_getElem_cons hi, flat_cons]; exact ⟨_, rfl⟩
theorem flat_get (hk : ∀ x, (f x).length = k) {l : List α} {i : Nat} {x : α} (h : l[i]? = some x) : ((flat f l).drop (i * k)).take k = f x := by
  obtain ⟨t, ht⟩ := flat_row hk h
  rw [ht, List.take_append, hk, Nat.sub_self, List.take_zero, List.append_nil, List.take_of_length_le (by rw [hk]; exact Nat.le_refl _)]
theorem flat_set (hk : ∀ x, (f x).length = k) {l : List α} {i : Nat} (hi : i < l.length) (x : α) : (flat f l).take (i * k) ++ f x ++ (flat f l).drop (i * k + k) = flat f (l.set i x) := by
  rw [flat_take hk, show i * k + k = (i + 1) * k by rw [Nat.add_mul]; omega, flat_drop hk, List.set_eq_take_append_cons_drop, if_pos hi, flat_append, flat_cons]; simp
theorem flat_fits (hk : ∀ x, (f x).length = k) {l : List α} {i : Nat} (hi : i < l.length) : i * k + k ≤ (flat f l).length := by
  rw [flat_length hk]
  have : (i + 1) * k ≤ l.length * k := Nat.mul_le_mul_right _ hi
  rw [Nat.add_mul] at this; omega
end
theorem none_upd {H : Heap} {b c : Nat} {r : Root} (h : upd H b r c = none) : H c = none := by
  unfold upd at h; split at h
  · cases h
  · exact h
theorem upd_self (H : Heap) (b : Nat) (r : Root) : upd H b r b = some r := by simp [upd]
theorem upd_upd (H : Heap) (b : Nat) (r r' : Root) : upd (upd H b r) b r' = upd H b r' := by
  funext x; unfold upd; split <;> rfl
attribute [go_sem] upd_upd
theorem none_put {H : Heap} {b v : Nat} {r x : Root} (hb : H b = some x) (hv : H v = none) : upd H b r v = none := by
  unfold upd; split
  · rename_i e; subst e; rw [hb] at hv; cases hv
  · exact hv
theorem look_mem : ∀ {E : List (Nat × TV)} {t : Nat} {v : TV}, look E t = some v → (t, v) ∈ E
  | [], t, v, h => by cases h
  | (a, u) :: E, t, v, h => by
    simp only [look] at h
    split at h
    · rename_i e; subst e; simp at h; subst h; simp
    · exact List.mem_cons_of_mem _ (look_mem h)
theorem Sub.gone {H G : Heap} {b : Nat} (h : Sub H G) (hb : G b = none) : H b = none := by
  cases e : H b with
  | none => rfl
  | some r => rw [h b r e] at hb; cases hb
theorem Sub.fresh {H G : Heap} (h : Sub H G) {b : Nat} {r : Root} (hb : G b = none) : Sub H (Go.Abs.upd G b r) := Sub.upd h (h.gone hb)
theorem AS.le_of {E E' : List (Nat × TV)} {H H' : Heap} (h : ∀ p ∈ E, look E' p.1 = some p.2) (hs : Sub H H') : AS.le ⟨E, H⟩ ⟨E', H'⟩ :=
  ⟨fun t v hv => h (t, v) (look_mem hv), hs⟩
theorem w64 {x : Int} (h1 : -9223372036854775808 ≤ x) (h2 : x < 9223372036854775808) : IntKind.i64.wrap x = x := by
  unfold IntKind.wrap; simp [IntKind.bits, IntKind.signed]; omega
theorem w64_succ {i : Nat} (h : i < 9223372036854775807) : IntKind.i64.wrap ((i : Int) + 1) = ((i + 1 : Nat) : Int) := by
  rw [w64 (by omega) (by omega)]; omega
end Go.Abs
