import Derived.Test.YtoeplpkmjfecgaaGreatDoorAb6
import Derived.Laws.StructEq
/- Regions and calls. -/
namespace Go.Abs
set_option linter.unusedSimpArgs false
set_option linter.unusedVariables false
set_option linter.unusedVariables false
def AS.put (A : AS) (d : Option Tmp) (v : TV) : AS := ⟨match d with | some t => (t, v) :: A.env | none => A.env, A.H⟩
def AS.on (A : AS) (H : Heap) : AS := ⟨A.env, H⟩
section
variable {P : Program} {w : World} {H : Heap} {F : Nat → Prop}
theorem leafEq_run {d : Nat} {T : TypeId} {a b : Value} {t : Bool} (h : leafEq P T a b = some t) : (Op.equalIn (d + 1) T a b).run P w = .ok t w := by
  unfold leafEq at h
  split at h
  · rename_i hu
    split at h
    · rename_i hk; subst hk; simp at h; subst h; exact run_equalIn_int w d T _ _ _ _ hu
    · cases h
  · rename_i hu; simp at h; subst h; exact run_equalIn_string w d T _ _ hu
  · rename_i hu; simp at h; subst h; exact run_equalIn_bool' w d T _ _ hu
  · cases h
theorem eqFs_run {d : Nat} {eq : TypeId → TV → TV → Option Bool} (heq : ∀ T x y t a b, eq T x y = some t → Rep w F x a → Rep w F y b → (Op.equalIn d T a b).run P w = .ok t w)
    {xs ys : List TV} {as bs : Array Value} (hx : RepL w F xs as.toList) (hy : RepL w F ys bs.toList) : ∀ {fs : List Field} {t : Bool}, eqFs P eq xs ys fs = some t → (Op.eqFields d as bs fs).run P w = .ok t w
  | [], t, h => by simp only [eqFs, Option.some.injEq] at h; subst h; rfl
  | f :: fs, t, h => by
    simp only [eqFs] at h
    split at h
    · cases h
    · rename_i hn
      split at h
      · rename_i g m hz
        split at h
        · rename_i a b ha hb
          split at h
          · rename_i r rs hr hrs
            simp at h; subst h
            obtain ⟨z1, p1, q1⟩ := partA_run (P := P) hz hx ha
            obtain ⟨z2, p2, q2⟩ := partA_run (P := P) hz hy hb
            have ih := eqFs_run heq hx hy hrs
            simp only [Op.eqFields, hn, ne_eq, not_false_eq_true, if_true]
            rw [run_ok p1, run_ok p2, run_ok (heq _ _ _ _ _ _ hr q1 q2)]
            cases r
            · rfl
            · simpa using ih
          · cases h
        · cases h
      · cases h
theorem eqTV_run {d' : Nat} : ∀ {d : Nat} {T : TypeId} {x y : TV} {t : Bool} {a b : Value}, eqTV P d T x y = some t → Rep w F x a → Rep w F y b → (Op.equalIn (d + d') T a b).run P w = .ok t w
  | 0, T, x, y, t, a, b, h, hx, hy => by simp [eqTV] at h
  | d + 1, T, x, y, t, a, b, h, hx, hy => by
    unfold eqTV at h
    split at h
    · cases h
    · simp only [Nat.succ_eq_add_one, Nat.add_right_cancel_iff] at *; simp only [Rep] at hx hy; subst hx hy
      rw [Nat.add_right_comm]; exact leafEq_run h
    · rename_i d0 xs ys hd
      simp only [Nat.succ_eq_add_one, Nat.add_right_cancel_iff] at hd; subst hd
      split at h
      · rename_i fs hu
        split at h
        · cases h
        · rename_i hs
          simp only [Rep] at hx hy
          obtain ⟨as, rfl, hx⟩ := hx
          obtain ⟨bs, rfl, hy⟩ := hy
          rename_i T' _ _ _ _ _
          have hf : P.fieldsOf T' = fs := by unfold Program.fieldsOf; rw [hu]
          rw [Nat.add_right_comm, run_equalIn_struct w _ T' as bs (by rw [hf]; exact hu) (by simpa using hs), hf]
          exact eqFs_run (fun T x y t a b h hx hy => eqTV_run h hx hy) hx hy h
      · cases h
    · cases h
theorem eqS_run {T : TypeId} {x y : TV} {t : Bool} {a b : Value} (h : eqS P T x y = some t) (hx : Rep w F x a) (hy : Rep w F y b) :
    (Op.equal T a b).run P w = .ok t w ∧ (∀ o p q, (eqGuard o T p q a b).run P w = .ok () w) ∧ (∀ k n, a ≠ .int k n) ∧ (∀ k n, a ≠ .float k n) ∧ (∀ k n m, a ≠ .complex k n m) ∧ (∀ n, a ≠ .string n) := by
  unfold eqS at h
  split at h
  · split at h
    · cases h
    · rename_i hg
      have h1 := eqTV_run (d' := 9991) h hx hy
      simp only [Rep] at hx hy
      obtain ⟨as, rfl, hx⟩ := hx
      obtain ⟨bs, rfl, hy⟩ := hy
      exact ⟨h1, fun o p q => run_eqGuard_agg w o T p q as bs (by simpa using hg), by simp, by simp, by simp, by simp⟩
  · cases h
theorem fill_run {place : Nat → Option (Nat × Nat)} : ∀ {parts : List (Nat × TV)} {vals : List (Nat × Value)} {cs cs' : List TV} {xs : Array Value}, fillA place cs parts = some cs' → RepL w F cs xs.toList →
    (parts.map (·.1) = vals.map (·.1)) → RepL w F (parts.map (·.2)) (vals.map (·.2)) → ∃ xs', Instr.fill place xs vals = some xs' ∧ RepL w F cs' xs'.toList
  | [], [], cs, cs', xs, h, hx, _, _ => by simp only [fillA, Option.some.injEq] at h; subst h; exact ⟨xs, rfl, hx⟩
  | [], v :: vs, _, _, _, _, _, h, _ => by simp at h
  | p :: ps, [], _, _, _, _, _, h, _ => by simp at h
  | (i, v) :: ps, (j, x) :: vs, cs, cs', xs, h, hx, hi, hv => by
    simp only [List.map_cons, List.cons.injEq] at hi
    obtain ⟨rfl, hi⟩ := hi
    simp only [List.map_cons, RepL] at hv
    obtain ⟨y, ys, hy, hv1, hv2⟩ := hv
    simp only [List.cons.injEq] at hy; obtain ⟨rfl, rfl⟩ := hy
    simp only [fillA] at h
    split at h
    · rename_i off size us hp hc
      split at h
      · cases h
      · rename_i hcond
        have hu := cells_rep hv1 hc
        have hul := hu.length
        have hxl := hx.length
        have hsz : x.cells.size = size := by rw [← Array.length_toList, ← hul]; omega
        have hle : off + x.cells.toList.length ≤ xs.size := by rw [← hul]; simp at hxl; omega
        have hset := setMany xs x.cells.toList off hle
        have hzip : (x.cells.zipIdx.foldl (fun cs (c, j) => cs.setIfInBounds (off + j) c) xs).toList = xs.toList.take off ++ x.cells.toList ++ xs.toList.drop (off + x.cells.toList.length) := by
          rw [← hset]; congr 1
          rw [← Array.foldl_toList, Array.toList_zipIdx]
          generalize x.cells.toList = l
          have : ∀ (l : List Value) (k : Nat) (xs : Array Value), (l.zipIdx k).foldl (fun cs (c, j) => cs.setIfInBounds (off + j) c) xs = (l.zipIdx (off + k)).foldl (fun c p => c.setIfInBounds p.2 p.1) xs := by
            intro l
            induction l with
            | nil => intro k xs; rfl
            | cons y l ih => intro k xs; simp only [List.zipIdx_cons, List.foldl_cons]; rw [ih]; rfl
          simpa using this l 0 xs
        obtain ⟨xs', g1, g2⟩ := fill_run (place := place) (xs := x.cells.zipIdx.foldl (fun cs (c, j) => cs.setIfInBounds (off + j) c) xs) h (by
          rw [hzip, ← hul]
          refine RepL.append (RepL.append (hx.take off) hu) ?_
          rw [show us.length = size by omega]; exact hx.drop _) hi hv2
        refine ⟨xs', ?_, g2⟩
        simp only [Instr.fill, hp]
        rw [if_neg (by simp at hxl ⊢; omega)]
        exact g1
    · cases h
theorem evalP_run {n : NT} {A : AS} {a : Act} (r : Rel n A a w) : ∀ {xs : List (Nat × Operand)} {vs : List (Nat × TV)}, evalP A.env xs = some vs →
    vs.map (·.1) = (xs.map fun (i, x) => (i, a.eval x)).map (·.1) ∧ RepL w (Fr A.H w) (vs.map (·.2)) ((xs.map fun (i, x) => (i, a.eval x)).map (·.2))
  | [], vs, h => by simp only [evalP, Option.some.injEq] at h; subst h; exact ⟨rfl, by simp only [List.map_nil, RepL]⟩
  | (i, x) :: xs, vs, h => by
    simp only [evalP] at h
    split at h
    · rename_i v vs' h1 h2; simp at h; subst h
      obtain ⟨g1, g2⟩ := evalP_run r h2
      exact ⟨by simp at g1 ⊢; exact g1, by simp only [List.map_cons, RepL]; exact ⟨_, _, rfl, rep_eval r h1, g2⟩⟩
    · cases h
theorem mapM_places : ∀ (fs : List Field), (∀ f ∈ fs, (szP P f.type).isSome = true) → ∃ l : List (Nat × Nat), (fs.mapM (fun f => do pure (f.offset, ← sizeOf f.type) : Field → Sem (Nat × Nat))).run P w = .ok l w ∧
    ∀ i : Nat, l[i]? = (fs[i]?).bind fun (f : Field) => (szP P f.type).map fun p => (f.offset, p.2)
  | [], _ => ⟨[], rfl, fun i => by simp⟩
  | f :: fs, h => by
    obtain ⟨l, h1, h2⟩ := mapM_places fs (fun g hg => h g (by simp [hg]))
    obtain ⟨⟨g, m⟩, hz⟩ := Option.isSome_iff_exists.1 (h f (by simp))
    refine ⟨(f.offset, m) :: l, ?_, fun i => ?_⟩
    · rw [List.mapM_cons, run_bind, run_ok (run_size hz)]
      simp only [run_pure]
      rw [run_ok h1]; rfl
    · cases i with
      | zero => simp [hz]
      | succ i => simpa using h2 i
theorem zeroP_run {T : TypeId} {cs : List TV} (hcs : zeroP P T = some cs) : ∃ v, (zeroValue T).run P w = .ok v w ∧ v.cells.toList.map cst1 = cs := by
  unfold zeroP at hcs
  split at hcs
  · rename_i i hi
    split at hcs
    · rename_i v hv; simp at hcs; subst hcs
      refine ⟨v, ?_, by simp⟩
      unfold zeroValue; rw [run_ok (run_info hi)]; simp only [hv]; rfl
    · cases hcs
  · cases hcs
theorem buildA_run {n : NT} {A : AS} {a : Act} (r : Rel n A a w) {T : TypeId} {parts : Array (Nat × Operand)} {v : TV} (h : buildA P A.env T parts.toList = some v) :
    ∃ z, (Instr.build T (parts.map fun (i, x) => (i, a.eval x))).run P w = .ok z w ∧ Rep w (Fr A.H w) v z := by
  unfold buildA at h
  split at h
  · rename_i hs
    split at h
    · rename_i cs vs hz hp
      obtain ⟨zv, hzv, rfl⟩ := zeroP_run (w := w) hz
      obtain ⟨g1, g2⟩ := evalP_run r hp
      cases hf : fillA (placeP P T) (zv.cells.toList.map cst1) vs with
      | none => rw [hf] at h; cases h
      | some cs' =>
        rw [hf] at h; simp at h; subst h
        unfold sized at hs
        unfold Instr.build
        rw [run_ok hzv]
        split at hs
        · rename_i fs hu
          rw [run_ok (run_under hu)]
          simp only []
          obtain ⟨l, hl1, hl2⟩ := mapM_places (P := P) (w := w) fs.toList (fun f hf => List.all_eq_true.1 hs f hf)
          obtain ⟨xs', q1, q2⟩ := fill_run (place := (l[·]?)) (xs := zv.cells) (cs' := cs') (parts := vs) (vals := (parts.toList.map fun (i, x) => (i, a.eval x))) (by
            rw [← hf]; congr 1; funext i; rw [hl2]; unfold placeP; rw [hu]; simp) (rep_cst1s w _ _) g1 g2
          refine ⟨.agg xs', ?_, by simp only [Rep]; exact ⟨_, rfl, q2⟩⟩
          rw [Array.mapM_eq_mapM_toList, bind_map_left, run_ok hl1]
          have : (Array.map (fun x : Nat × Operand => (x.fst, a.eval x.snd)) parts).toList = parts.toList.map fun (i, x) => (i, a.eval x) := by simp
          simp only [List.getElem?_toArray, this, q1]; rfl
        · rename_i m e hu
          rw [run_ok (run_under hu)]
          simp only []
          obtain ⟨⟨g, k⟩, hk⟩ := Option.isSome_iff_exists.1 hs
          rw [run_ok (run_size hk)]
          obtain ⟨xs', q1, q2⟩ := fill_run (place := fun i => some (i * k, k)) (xs := zv.cells) (cs' := cs') (parts := vs) (vals := (parts.toList.map fun (i, x) => (i, a.eval x))) (by
            rw [← hf]; congr 1; funext i; unfold placeP; rw [hu]; simp [hk]) (rep_cst1s w _ _) g1 g2
          refine ⟨.agg xs', ?_, by simp only [Rep]; exact ⟨_, rfl, q2⟩⟩
          have : (Array.map (fun x : Nat × Operand => (x.fst, a.eval x.snd)) parts).toList = parts.toList.map fun (i, x) => (i, a.eval x) := by simp
          simp only [this, q1]; rfl
        · cases hs
    · cases h
  · cases h
theorem valA_run {n : NT} {A : AS} {a : Act} (r : Rel n A a w) {o : Oper} {v : TV} (h : valA P A.env A.H o.op = some v) :
    ∃ x, (execOp a.eval o).run P w = .ok (.value x) w ∧ Rep w (Fr A.H w) v x := by
  unfold valA at h
  unfold execOp
  split at h
  · rename_i x e; simp only [e]; exact ⟨_, rfl, rep_eval r h⟩
  · rename_i x e; simp only [e]; exact ⟨_, rfl, rep_eval r h⟩
  · rename_i c x y e; simp only [e]
    split at h
    · rename_i t vx vy h1 h2 h3; simp at h; subst h
      have hc := rep_eval r h1
      simp only [Rep] at hc
      refine ⟨_, ?_, rep_pick (t := t) (rep_eval r h2) (rep_eval r h3)⟩
      rw [hc, run_ok (a := t) (w' := w) rfl]; rfl
    · cases h
  · rename_i T p e; simp only [e]
    split at h
    · rename_i vp hp
      obtain ⟨y, h1, h2⟩ := loadA_run (P := P) r.heap (rep_eval r hp) h
      exact ⟨y, run_v h1, h2⟩
    · cases h
  · rename_i x e; simp only [e]
    split at h
    · rename_i vx hx
      have hr := rep_eval r hx
      unfold nilA at h
      split at h
      · simp at h; subst h; simp only [Rep] at hr; rw [hr]; exact ⟨_, rfl, by simp only [Rep]⟩
      · simp at h; subst h
        have hr' := hr
        simp only [Rep] at hr; obtain ⟨b, off, hr, _⟩ := hr; rw [hr] at hr' ⊢; exact ⟨_, rfl, hr'⟩
      · simp at h; subst h; simp only [Rep] at hr; rw [hr]; exact ⟨_, rfl, by simp only [Rep]⟩
      · simp at h; subst h
        have hr' := hr
        simp only [Rep] at hr; obtain ⟨b, off, hr, _⟩ := hr; rw [hr] at hr' ⊢; exact ⟨_, rfl, hr'⟩
      · cases h
    · cases h
  · rename_i op T x y yT e; simp only [e]
    have eqCase : ∀ {t : Bool}, ((Op.equal T (a.eval x) (a.eval y)).run P w = .ok t w ∧ (∀ o p q, (eqGuard o T p q (a.eval x) (a.eval y)).run P w = .ok () w) ∧ (∀ k n, a.eval x ≠ .int k n) ∧ (∀ k n, a.eval x ≠ .float k n) ∧ (∀ k n m, a.eval x ≠ .complex k n m) ∧ (∀ n, a.eval x ≠ .string n)) →
        (∀ v, (match op, some t with | .eql, some t => some (TV.s (.bool t)) | .neq, some t => some (.s (.bool !t)) | _, _ => none) = some v →
        ∃ z, (do pure (Next.value (← (do eqGuard op T x y (a.eval x) (a.eval y); binOp op T (a.eval x) (a.eval y) : Sem Value))) : Sem Next).run P w = .ok (.value z) w ∧ Rep w (Fr A.H w) v z) := by
      intro t ⟨h1, h2, n1, n2, n3, n4⟩ v hv
      split at hv
      · rename_i t' ht; simp at hv ht; subst hv ht
        refine ⟨.bool t, run_v ?_, by simp only [Rep]⟩
        rw [run_ok (h2 .eql x y)]
        unfold binOp
        split <;> rename_i q1 q2 <;> first
          | exact absurd q1 (n1 _ _) | exact absurd q2 (n1 _ _) | exact absurd q1 (n2 _ _) | exact absurd q2 (n2 _ _) | exact absurd q1 (n3 _ _ _) | exact absurd q2 (n3 _ _ _) | exact absurd q1 (n4 _) | exact absurd q2 (n4 _)
          | (rw [run_ok h1]; rfl) | skip
        all_goals (first | contradiction | (simp_all; done) | (rw [run_ok h1]; rfl))
      · rename_i t' ht; simp at hv ht; subst hv ht
        refine ⟨.bool !t, run_v ?_, by simp only [Rep]⟩
        rw [run_ok (h2 .neq x y)]
        unfold binOp
        split <;> rename_i q1 q2 <;> first
          | exact absurd q1 (n1 _ _) | exact absurd q2 (n1 _ _) | exact absurd q1 (n2 _ _) | exact absurd q2 (n2 _ _) | exact absurd q1 (n3 _ _ _) | exact absurd q2 (n3 _ _ _) | exact absurd q1 (n4 _) | exact absurd q2 (n4 _)
          | (rw [run_ok h1]; rfl) | skip
        all_goals (first | contradiction | (simp_all; done) | (rw [run_ok h1]; rfl))
      · cases hv
    split at h
    · rename_i va vb hx hy
      split at h
      · rename_i v' hv; simp at h; subst h
        have ha := rep_eval r hx; have hb := rep_eval r hy
        simp only [Rep] at ha hb
        rw [ha, hb]
        exact ⟨_, run_v (binV_run hv), by simp only [Rep]⟩
      · cases he : eqV P T (.s va) (.s vb) with
        | none => rw [he] at h; simp at h
        | some t => rw [he] at h; exact eqCase (eqV_run he (rep_eval r hx) (rep_eval r hy)) _ h
    · rename_i va vb hx hy
      cases he : eqS P T (.agg va) (.agg vb) with
      | none => rw [he] at h; simp at h
      | some t => rw [he] at h; exact eqCase (eqS_run he (rep_eval r hx) (rep_eval r hy)) _ h
    · rename_i va vb _ _ hx hy
      cases he : eqV P T va vb with
      | none => rw [he] at h; simp at h
      | some t => rw [he] at h; exact eqCase (eqV_run he (rep_eval r hx) (rep_eval r hy)) _ h
    · cases h
  · rename_i op T x e; simp only [e]
    split at h
    · rename_i va hx
      cases hu : unV op va with
      | none => rw [hu] at h; cases h
      | some u =>
        rw [hu] at h; simp at h; subst h
        have ha := rep_eval r hx
        simp only [Rep] at ha; rw [ha]
        exact ⟨_, run_v (unV_run hu), by simp only [Rep]⟩
    · cases h
  · rename_i S D x e; simp only [e]
    split at h
    · rename_i va hx
      cases hu : convV P S D va with
      | none => rw [hu] at h; cases h
      | some u =>
        rw [hu] at h; simp at h; subst h
        have ha := rep_eval r hx
        simp only [Rep] at ha; rw [ha]
        exact ⟨_, run_v (convV_run hu), by simp only [Rep]⟩
    · cases h
  · rename_i T parts e; simp only [e]
    obtain ⟨z, h1, h2⟩ := buildA_run r h
    exact ⟨z, run_v h1, h2⟩
  · rename_i fn f c e; simp only [e]
    split at h
    · rename_i vf vc hf hc; simp at h; subst h
      refine ⟨_, run_v (by unfold Instr.makeFunc; rfl), ?_⟩
      simp only [Rep]
      refine ⟨_, _, rfl, ?_, ?_⟩
      · simpa using evalL_run r hf
      · simpa using evalL_run r hc
    · cases h
  · rename_i T x lo hi mx e; simp only [e]
    split at h
    · rename_i vx hx
      split at h
      · rename_i v' hv; simp at h; subst h
        obtain ⟨z, h1, h2⟩ := sliceArrA_run r (rep_eval r hx) hv
        exact ⟨z, run_v h1, h2⟩
      · obtain ⟨z, h1, h2⟩ := sliceA_run r (rep_eval r hx) h
        exact ⟨z, run_v h1, h2⟩
    · cases h
  · rename_i T x f e; simp only [e]
    split at h
    · rename_i vx hx
      obtain ⟨z, h1, h2⟩ := fieldAddrA_run (P := P) (rep_eval r hx) h
      exact ⟨z, run_v h1, h2⟩
    · cases h
  · rename_i T x f e; simp only [e]
    split at h
    · rename_i vx hx
      obtain ⟨z, h1, h2⟩ := fieldA_run (P := P) (rep_eval r hx) h
      exact ⟨z, run_v h1, h2⟩
    · cases h
  · rename_i T x f e; simp only [e]
    split at h
    · rename_i vx vi hx hi
      obtain ⟨z, h1, h2⟩ := indexAddrA_run (P := P) (rep_eval r hx) (rep_eval r hi) h
      exact ⟨z, run_v h1, h2⟩
    · cases h
  · rename_i T x f e; simp only [e]
    split at h
    · rename_i vx vi hx hi
      obtain ⟨z, h1, h2⟩ := indexA_run (P := P) (rep_eval r hx) (rep_eval r hi) h
      exact ⟨z, run_v h1, h2⟩
    · cases h
  · rename_i t i e; simp only [e]
    split at h
    · rename_i vt ht
      obtain ⟨z, h1, h2⟩ := extractA_run (P := P) (rep_eval r ht) h
      exact ⟨z, run_v h1, h2⟩
    · cases h
  · rename_i args argTypes e; simp only [e]
    split at h
    · rename_i x T ha hT
      split at h
      · rename_i vx hx
        cases hl : lenM P A.H T vx with
        | none => rw [hl] at h; cases h
        | some m =>
          rw [hl] at h; simp at h; subst h
          refine ⟨.int .i64 m, ?_, by simp only [Rep]⟩
          have e1 : args = #[x] := by rw [← Array.toArray_toList (xs := args), ha]
          have e2 : argTypes = #[T] := by rw [← Array.toArray_toList (xs := argTypes), hT]
          subst e1 e2
          unfold resolve
          simp only []
          rw [run_ok (w' := w) rfl]
          unfold invoke
          simp only []
          unfold builtin
          simp only []
          rw [show (#[x] : Array Operand).map a.eval = #[a.eval x] by simp]
          exact run_v (lenM_run r.heap (rep_eval r hx) hl)
      · cases h
    · cases h
  · cases h

theorem Rel.put {n : NT} {A : AS} {a : Act} {w' : World} {H' : Heap} (r : Rel n A a w) (e : Ext A.H w H' w') (hh : HRel H' w') {d : Option Tmp} (hd : ∀ t, d = some t → t < n.n) {v : TV} {x : Value} (hv : Rep w' (Fr H' w') v x) :
    Rel n ((A.on H').put d v) (a.put d x) w' := by
  cases d with
  | none => exact ⟨r.defers, r.size, fun t u hu => ⟨(r.env t u hu).1, (r.env t u hu).2.ext e⟩, hh⟩
  | some d =>
    have hdn := hd d rfl
    refine ⟨r.defers, by simp [Act.put, r.size], fun t u hu => ?_, hh⟩
    simp only [AS.put, AS.on, look] at hu
    split at hu
    · rename_i htd; simp at hu; subst hu htd
      exact ⟨hdn, by simp [Act.put, Array.getD, r.size, hdn]; exact hv⟩
    · rename_i htd
      obtain ⟨h1, h2⟩ := r.env t u hu
      refine ⟨h1, ?_⟩
      have : (a.tmps.setIfInBounds d x).getD t undef = a.tmps.getD t undef := by
        simp [Array.getD_eq_getD_getElem?, Array.getElem?_setIfInBounds, Ne.symm htd]
      simp only [Act.put, this]; exact h2.ext e
end

/-- What a call comes to. -/
def After (C : TV → Heap → Prop) (H : Heap) (w : World) (v : Value) (w' : World) : Prop := ∃ r H', C r H' ∧ Rep w' (Fr H' w') r v ∧ HRel H' w' ∧ Ext H w H' w'
/-- A function's contract: a call with arguments that look so, in a memory that looks so. -/
def AC (P : Program) (g : FuncId) (args : List TV) (H : Heap) (C : TV → Heap → Prop) : Prop :=
  ∀ argv w, RepL w (Fr H w) args argv → HRel H w →
    ((callFunc g argv.toArray).run P w = .ok (.enter g argv.toArray) w ∧ Calls P g argv.toArray w fun e w' => ∃ v, e = .returned v ∧ After C H w v w') ∨
    ∃ v w', (callFunc g argv.toArray).run P w = .ok (.value v) w' ∧ After C H w v w'
theorem AC.mono {P : Program} {g : FuncId} {args : List TV} {H : Heap} {C C' : TV → Heap → Prop} (h : AC P g args H C) (hc : ∀ r H', C r H' → C' r H') : AC P g args H C' := by
  intro argv w ha hh
  rcases h argv w ha hh with ⟨h1, h2⟩ | ⟨v, w', h1, r, H', c, h2⟩
  · refine .inl ⟨h1, fun cs => ?_⟩
    obtain ⟨e, w', fr, ⟨v, he, r, H', c, g⟩, s⟩ := h2 cs
    exact ⟨e, w', fr, ⟨v, he, r, H', hc _ _ c, g⟩, s⟩
  · exact .inr ⟨v, w', h1, r, H', hc _ _ c, h2⟩

/-- Whom an operand calls, with what ahead of the arguments and what behind. -/
def whom : TV → Option (FuncId × List TV × List TV)
  | .s (.func (.func g) f c) => some (g, f.toList.map cst1, c.toList.map cst1)
  | .clo (.func g) f c => some (g, f, c)
  | _ => none
def callA (P : Program) (A : AS) (f : Operand) (args : List Operand) (K : TV → Heap → Prop) : Prop :=
  match evalA A.env f, evalL A.env args with
  | some f, some vs => match whom f with
    | some (g, fs, cs) => ∃ C, AC P g (fs ++ vs ++ cs) A.H C ∧ ∀ r H', C r H' → K r H'
    | none => False
  | _, _ => False
def opA0 (P : Program) (o : Oper) (A : AS) (K : AS → Prop) : Prop :=
  match o.op with
  | .box T x => match evalA A.env x with
    | some v => match cellsT v with
      | some cs => ∀ b, A.H b = none → (∀ p, (A.H p).isSome = true → (p = b) = False ∧ (b = p) = False) → K ((A.on (upd A.H b (.cells cs))).put o.dst (.s (.pointer (some ⟨b, 0, none⟩))))
      | none => False
    | none => False
  | .alloc T => match zeroP P T with
    | some cs => ∀ b, A.H b = none → (∀ p, (A.H p).isSome = true → (p = b) = False ∧ (b = p) = False) → K ((A.on (upd A.H b (.cells cs))).put o.dst (.s (.pointer (some ⟨b, 0, none⟩))))
    | none => False
  | .store T p x => match evalA A.env p, evalA A.env x, szP P T with
    | some p, some v, some (_, n) => match wrA A.H n p v with
      | some H' => K ((A.on H').put o.dst .any)
      | none => False
    | _, _, _ => False
  | .call { callee := .value f, args, .. } => callA P A f args.toList fun r H' => K ((A.on H').put o.dst r)
  | op => match valA P A.env A.H op with
    | some v => K (A.put o.dst v)
    | none => False
/-- Operations whose effect is told by a contract of their own. -/
def effOp : Op → Bool
  | .buildSlice .. | .insert .. | .makeInterface .. | .makeMap .. | .makeSlice .. | .lookup .. | .mapUpdate .. | .mapEntry .. | .entryStore .. | .range .. | .next .. | .entry .. | .typeAssert .. => true
  | .call { callee := .builtin .len, .. } => false
  | .call { callee := .builtin _, .. } => true
  | _ => false
/-- An operation's contract: with operands that look so, in a memory that looks so. -/
def OC (P : Program) (o : Oper) (vs : List TV) (H : Heap) (C : TV → Heap → Prop) : Prop :=
  ∀ (ev : Operand → Value) w, RepL w (Fr H w) vs (o.op.operands.toList.map ev) → HRel H w → ∃ v w', ((execOp ev o).run P w = .ok (.value v) w' ∨ v = undef ∧ (execOp ev o).run P w = .ok .skip w') ∧ After C H w v w'
def effA (P : Program) (o : Oper) (A : AS) (K : TV → Heap → Prop) : Prop := match evalL A.env o.op.operands.toList with
  | some vs => ∃ C, OC P o vs A.H C ∧ ∀ r H', C r H' → K r H'
  | none => False
def opA (P : Program) (o : Oper) (A : AS) (K : AS → Prop) : Prop :=
  if effOp o.op = true then effA P o A fun r H' => K ((A.on H').put o.dst r) else opA0 P o A K
theorem opA_ne {P : Program} {o : Oper} {A : AS} {K : AS → Prop} (h : effOp o.op = false) : opA P o A K = opA0 P o A K := by unfold opA; rw [if_neg (by rw [h]; exact Bool.false_ne_true)]
def gdst (ops : Array Oper) (j : Nat) : Option Tmp := (ops[j]?).bind (·.dst)
def aops (P : Program) (ops : Array Oper) (K : AS → Prop) : List Oper → AS → Prop
  | [], A => K A
  | o :: rest, A => match o.guard with
    | none => opA P o A (aops P ops K rest)
    | some (j, want) => match gdst ops j with
      | some d => match look A.env d with
        | some (.s (.bool t)) => (t = true → if true = want then opA P o ⟨(d, .s (.bool true)) :: A.env, A.H⟩ (aops P ops K rest) else aops P ops K rest ((⟨(d, .s (.bool true)) :: A.env, A.H⟩ : AS).put o.dst (.s (.tuple #[])))) ∧
            (t = false → if false = want then opA P o ⟨(d, .s (.bool false)) :: A.env, A.H⟩ (aops P ops K rest) else aops P ops K rest ((⟨(d, .s (.bool false)) :: A.env, A.H⟩ : AS).put o.dst (.s (.tuple #[]))))
        | some (.s (.tuple _)) => aops P ops K rest (A.put o.dst (.s (.tuple #[])))
        | _ => False
      | none => False
section
variable {P : Program} {n : NT} {ops : Array Oper} {Q : Exit → Act → World → Prop}
theorem cst1_list (w : World) (F : Nat → Prop) (l : List Value) : RepL w F (l.map cst1) l := rep_cst1s w F l
theorem whom_rep {w : World} {F : Nat → Prop} {f : TV} {x : Value} {g : FuncId} {fs cs : List TV} (hr : Rep w F f x) (h : whom f = some (g, fs, cs)) :
    ∃ f1 c1, x = .func (.func g) f1 c1 ∧ RepL w F fs f1.toList ∧ RepL w F cs c1.toList := by
  unfold whom at h
  split at h
  · simp only [Option.some.injEq, Prod.mk.injEq] at h; obtain ⟨rfl, rfl, rfl⟩ := h
    simp only [Rep] at hr; subst hr
    exact ⟨_, _, rfl, rep_cst1s _ _ _, rep_cst1s _ _ _⟩
  · simp only [Option.some.injEq, Prod.mk.injEq] at h; obtain ⟨rfl, rfl, rfl⟩ := h
    simp only [Rep] at hr; obtain ⟨f1, c1, rfl, h1, h2⟩ := hr
    exact ⟨_, _, rfl, h1, h2⟩
  · cases h
theorem ne_held {H : Heap} {b : Nat} (h : H b = none) : ∀ p, (H p).isSome = true → (p = b) = False ∧ (b = p) = False := by
  intro p hp
  have : p ≠ b := by intro e; subst e; rw [h] at hp; cases hp
  exact ⟨eq_false this, eq_false (Ne.symm this)⟩
/-- What becomes of an operation: the walk's next step is the run's. -/
theorem opA0_run {A : AS} {a : Act} {w : World} (r : Rel n A a w) {o : Oper} (hd : ∀ t, o.dst = some t → t < n.n) {K : AS → Prop} {next : Act → World → Prop} (h : opA0 P o A K)
    (hn : ∀ A' a' w', K A' → Rel n A' a' w' → Ext A.H w A'.H w' → next a' w') : o.wp P a w next Q := by
  unfold opA0 at h
  split at h
  · rename_i T x e
    split at h
    · rename_i v hv
      split at h
      · rename_i cs hcs
        have hr := rep_eval r hv
        have hc := cells_rep hr hcs
        have hrun : (execOp a.eval o).run P w = .ok (.value (.pointer (some ⟨w.heap.size, 0, none⟩))) { w with heap := w.heap.push (.cells (a.eval x).cells T) } := by
          unfold execOp; simp only [e]
          exact run_v (by unfold Instr.box newVar newRow newObj; rfl)
        unfold Oper.wp; rw [hrun, Oper.upon_value]
        obtain ⟨h0, h1, h2⟩ := allocCells_rel (elem := T) r.heap (cs := cs) (xs := (a.eval x).cells) (by rw [List.take_of_length_le (by rw [hc.length]; exact Nat.le_refl _)]; exact hc) (by rw [hc.length]; simp)
        exact hn _ _ _ (h _ h0 (ne_held h0)) (r.put h2 h1 hd (by simp only [Rep])) h2
      · exact h.elim
    · exact h.elim
  · rename_i T e
    split at h
    · rename_i cs hcs
      have hz := zeroP_run (w := w) hcs
      obtain ⟨v, hz, rfl⟩ := hz
      have hrun : (execOp a.eval o).run P w = .ok (.value (.pointer (some ⟨w.heap.size, 0, none⟩))) { w with heap := w.heap.push (.cells v.cells T) } := by
        unfold execOp; simp only [e]
        refine run_v ?_
        unfold Instr.alloc
        rw [run_ok hz]; rfl
      unfold Oper.wp; rw [hrun, Oper.upon_value]
      obtain ⟨h0, h1, h2⟩ := allocCells_rel (elem := T) r.heap (cs := v.cells.toList.map cst1) (xs := v.cells) (by rw [List.take_of_length_le (by simp)]; exact rep_cst1s _ _ _) (by simp)
      exact hn _ _ _ (h _ h0 (ne_held h0)) (r.put h2 h1 hd (by simp only [Rep])) h2
    · exact h.elim
  · rename_i T p x e
    split at h
    · rename_i vp vx g m hp hx hs
      split at h
      · rename_i H' hw
        obtain ⟨w', h1, h2, h3⟩ := wrA_run (P := P) r.heap (rep_eval r hp) (rep_eval r hx) hs hw
        have hrun : (execOp a.eval o).run P w = .ok .skip w' := by
          unfold execOp; simp only [e]
          rw [run_ok h1]; rfl
        unfold Oper.wp; rw [hrun, Oper.upon_skip]
        exact hn _ _ _ h (r.put h3 h2 hd (by simp only [Rep])) h3
      · exact h.elim
    · exact h.elim
  · rename_i f args ts e
    unfold callA at h
    split at h
    · rename_i vf vs hf hvs
      split at h
      · rename_i g fs cs hg
        obtain ⟨C, hc, hk⟩ := h
        obtain ⟨f1, c1, hfe, r1, r2⟩ := whom_rep (rep_eval r hf) hg
        have ra := evalL_run r hvs
        have hexec : (execOp a.eval o).run P w = (callFunc g (f1.toList ++ args.toList.map a.eval ++ c1.toList).toArray).run P w := by
          unfold execOp; simp only [e]
          unfold resolve; simp only [hfe]
          rw [run_ok (w' := w) (a := ({ target := .fn (.func g) c1, args := f1 ++ args.map a.eval } : Deferred)) rfl]
          unfold invoke; simp only []
          congr 2
          apply Array.ext'; simp
        have post : ∀ v w', After C A.H w v w' → next (a.put o.dst v) w' := by
          intro v w' ⟨r', H', hC, hr', hh', hE⟩
          exact hn _ _ _ (hk r' H' hC) (r.put hE hh' hd hr') hE
        rcases hc _ w ((r1.append ra).append r2) r.heap with ⟨h1, h2⟩ | ⟨v, w', h1, h2⟩
        · unfold Oper.wp; rw [hexec, h1, Oper.upon_enter]
          intro cs'
          obtain ⟨e', w', fr, ⟨v, rfl, hA⟩, hs⟩ := h2 cs'
          exact ⟨_, w', fr, post v w' hA, hs⟩
        · unfold Oper.wp; rw [hexec, h1, Oper.upon_value]
          exact post v w' h2
      · exact h.elim
    · exact h.elim
  · split at h
    · rename_i v hv
      obtain ⟨x, h1, h2⟩ := valA_run (P := P) r hv
      unfold Oper.wp; rw [h1, Oper.upon_value]
      exact hn _ _ _ h (r.put (.refl _ _) r.heap hd h2) (.refl _ _)
    · exact h.elim
theorem opA_run {A : AS} {a : Act} {w : World} (r : Rel n A a w) {o : Oper} (hd : ∀ t, o.dst = some t → t < n.n) {K : AS → Prop} {next : Act → World → Prop} (h : opA P o A K)
    (hn : ∀ A' a' w', K A' → Rel n A' a' w' → Ext A.H w A'.H w' → next a' w') : o.wp P a w next Q := by
  unfold opA at h
  split at h
  · unfold effA at h
    split at h
    · rename_i vs hvs
      obtain ⟨C, hc, hk⟩ := h
      obtain ⟨v, w', h1, r', H', hC, hr', hh', hE⟩ := hc a.eval w (evalL_run r hvs) r.heap
      have hq := hn _ _ _ (hk r' H' hC) (r.put hE hh' hd hr') hE
      rcases h1 with h1 | ⟨rfl, h1⟩
      · unfold Oper.wp; rw [h1, Oper.upon_value]; exact hq
      · unfold Oper.wp; rw [h1, Oper.upon_skip]; exact hq
    · exact h.elim
  · exact opA0_run r hd h hn
theorem aops_run (hd : ∀ o ∈ ops, ∀ t, o.dst = some t → t < n.n) {K : AS → Prop} : ∀ (l : List Nat) (os : List Oper) (A : AS) (a : Act) (w : World), l.map (ops[·]?) = os.map some → Rel n A a w → aops P ops K os A →
    (∀ A' a' w', K A' → Rel n A' a' w' → Ext A.H w A'.H w' → Q .normal a' w') → wpOps P ops Q l a w
  | [], os, A, a, w, hl, r, h, hn => by
    have : os = [] := by cases os <;> simp_all
    subst this
    exact hn A a w h r (.refl _ _)
  | i :: l, os, A, a, w, hl, r, h, hn => by
    cases os with
    | nil => simp at hl
    | cons o os =>
      simp only [List.map_cons, List.cons.injEq] at hl
      obtain ⟨ho, hl⟩ := hl
      have hmem : o ∈ ops := Array.mem_of_getElem? ho
      simp only [wpOps, ho]
      simp only [aops] at h
      have goOn : ∀ A : AS, Rel n A a w → A.H = A.H → (∀ A' a' w', K A' → Rel n A' a' w' → Ext A.H w A'.H w' → Q .normal a' w') → opA P o A (aops P ops K os) → o.wp P a w (wpOps P ops Q l) Q := fun A r _ hn h =>
        opA_run r (hd o hmem) h fun A' a' w' hk r' e' => aops_run hd l os A' a' w' hl r' hk fun A2 a2 w2 k2 r2 e2 => hn A2 a2 w2 k2 r2 (e'.trans e2)
      have skip : ∀ A : AS, Rel n A a w → (∀ A' a' w', K A' → Rel n A' a' w' → Ext A.H w A'.H w' → Q .normal a' w') → aops P ops K os (A.put o.dst (.s (.tuple #[]))) → wpOps P ops Q l (a.put o.dst undef) w := fun A r hn h =>
        aops_run hd l os _ _ w hl (r.put (.refl _ _) r.heap (hd o hmem) (x := undef) (v := .s (.tuple #[])) (by simp only [Rep]; rfl)) h fun A2 a2 w2 k2 r2 e2 => hn A2 a2 w2 k2 r2 e2
      split at h
      · rename_i hg
        have : Region.wanted o (yielded ops a.tmps) = true := by unfold Region.wanted; rw [hg]
        rw [if_pos this]; exact .inl (goOn A r rfl hn h)
      · rename_i j want hg
        split at h
        · rename_i d hgd
          have hyl : ∀ v, look A.env d = some (.s v) → yielded ops a.tmps j = (match v with | .bool b => some b | _ => none) := by
            intro v hv
            obtain ⟨h1, h2⟩ := r.env d _ hv
            simp only [Rep] at h2
            unfold yielded
            unfold gdst at hgd
            rw [hgd]
            simp only [Option.bind_some]
            have hlt : d < a.tmps.size := by rw [r.size]; exact h1
            rw [Array.getElem?_eq_getElem hlt]
            have : a.tmps[d] = v := by rw [← h2]; simp [Array.getD, hlt]
            rw [this]
            cases v <;> rfl
          split at h
          · rename_i t ht
            have hy := hyl _ ht
            simp only [] at hy
            have hA : Rel n ⟨(d, .s (.bool t)) :: A.env, A.H⟩ a w := by
              refine ⟨r.defers, r.size, fun u v hv => ?_, r.heap⟩
              simp only [look] at hv
              split at hv
              · rename_i e; subst e; simp at hv; subst hv; exact r.env u _ ht
              · exact r.env u v hv
            have hG : if t = want then opA P o ⟨(d, .s (.bool t)) :: A.env, A.H⟩ (aops P ops K os) else aops P ops K os ((⟨(d, .s (.bool t)) :: A.env, A.H⟩ : AS).put o.dst (.s (.tuple #[]))) := by
              cases t
              · exact h.2 rfl
              · exact h.1 rfl
            by_cases htw : t = want
            · have : Region.wanted o (yielded ops a.tmps) = true := by unfold Region.wanted; rw [hg]; simp [hy, htw]
              rw [if_pos this]; rw [if_pos htw] at hG; exact .inl (goOn _ hA rfl hn hG)
            · have : ¬ Region.wanted o (yielded ops a.tmps) = true := by unfold Region.wanted; rw [hg]; simp [hy, htw]
              rw [if_neg this]; rw [if_neg htw] at hG
              exact skip _ hA hn hG
          · rename_i t ht
            have hy := hyl _ ht
            simp only [] at hy
            have : ¬ Region.wanted o (yielded ops a.tmps) = true := by unfold Region.wanted; rw [hg]; simp [hy]
            rw [if_neg this]
            exact skip A r hn h
          · exact h.elim
        · exact h.elim
def noDefer : Op → Bool
  | .defer _ => false
  | _ => true
def dstOk (n : Nat) (l : List Oper) : Bool := l.all fun o => noDefer o.op && match o.dst with | some t => t < n | none => true
theorem dstOk_all {n : Nat} {l : List Oper} (h : dstOk n l = true) : ∀ o ∈ l, ∀ t, o.dst = some t → t < n := by
  intro o ho t ht
  unfold dstOk at h
  have := List.all_eq_true.1 h o ho
  rw [ht, Bool.and_eq_true] at this; simpa using this.2
theorem dstOk_nd {n : Nat} {ops : Array Oper} (h : dstOk n ops.toList = true) : ∀ o ∈ ops, ∀ c, o.op ≠ .defer c := by
  intro o ho c hc
  unfold dstOk at h
  have := List.all_eq_true.1 h o (by simpa using ho)
  rw [hc] at this; simp [noDefer] at this
theorem range_ops (ops : Array Oper) : (List.range ops.size).map (ops[·]?) = ops.toList.map some := by
  apply List.ext_getElem
  · simp
  · intro i h1 h2; simp at h1 ⊢
theorem ARun.region {Z : AS → Prop} {k : List Item} {A : AS} {id : Nat} (hd : dstOk n.n ops.toList = true) (h : aops P ops (ARun P n Z k) ops.toList A) : ARun P n Z (.code (.region id ops false) :: k) A := by
  intro a w r
  refine TWP.region (dstOk_nd hd) ?_
  refine aops_run (fun o ho => dstOk_all hd o (by simpa using ho)) _ _ A a w (range_ops ops) r h fun A' a' w' hk r' e => ?_
  exact (hk a' w' r').mono fun j a2 w2 ⟨A2, z, r2, e2⟩ => ⟨A2, z, r2, e.trans e2⟩
end
end Go.Abs
