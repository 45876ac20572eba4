import Derived.Test.YtllkloneapjgjaaDoorMg4
import Derived.Test.YtllkloneapjgjaaDoorAb23
import Derived.Test.YtllkloneapjgjaaDoorMg3
import Derived.Test.YtllkloneapjgjaaDoorProg
import Derived.Lib.LaidU8
import Derived.Test.YtllkloneapjgjaaDoorV
import Derived.Test.YtllkloneapjgjaaDoorOp
/- The laws of linked modules: other slots. -/
namespace Go.Abs
set_option linter.unusedSimpArgs false
set_option linter.unusedVariables false
set_option maxHeartbeats 4000000
open Go.Proofs Go.Nm Go.Wd
set_option linter.unusedVariables false
set_option maxRecDepth 8000
variable {H : Heap}
def impW (c : Bool) (a : Nat) (k : Bool) (r : Rlc) : Bool := k && (((r.a : Int) == (a : Int)) && ((((r.k : Int) == 4) != c) && impK r))
theorem imp_ask {c : Bool} {a : Nat} {k : Bool} {r : Rlc} (h : impW c a k r = true) : askW c a k r = true ∧ impK r = true := by
  unfold impW at h
  unfold askW
  simp only [Bool.and_eq_true] at h ⊢
  obtain ⟨h1, h2, h3, h4⟩ := h
  refine ⟨⟨h1, h2, ?_⟩, h4⟩
  have hd : dataK r.k = ((r.k : Int) == 4) := by
    rcases k6 r with h | h | h | h | h | h
    · rw [h.1, h.2.2]
    · rw [h.2.1] at h4; cases h4
    · rw [h.2.1] at h4; cases h4
    · rw [h.1, h.2.2.1]
    · rw [h.1, h.2.2.1]
    · rw [h.2.1] at h4; cases h4
  rw [hd]; exact h3
theorem ask_imp {c : Bool} {a : Nat} {k : Bool} {r : Rlc} (h : askW c a k r = true) (h4 : impK r = true) : impW c a k r = true := by
  unfold askW at h
  unfold impW
  simp only [Bool.and_eq_true] at h ⊢
  obtain ⟨h1, h2, h3⟩ := h
  refine ⟨h1, h2, ?_, h4⟩
  have hd : dataK r.k = ((r.k : Int) == 4) := by
    rcases k6 r with h | h | h | h | h | h
    · rw [h.1, h.2.2]
    · rw [h.2.1] at h4; cases h4
    · rw [h.2.1] at h4; cases h4
    · rw [h.1, h.2.2.1]
    · rw [h.1, h.2.2.1]
    · rw [h.2.1] at h4; cases h4
  rw [← hd]; exact h3
/-- By how much other slots change a word that names an import. -/
def slotD (s t : List Nat) (r : Rlc) : Int := IntKind.u32.wrap ((t.getD r.w 0 : Nat) - (s.getD r.w 0 : Nat))
def wantI (s t : List Nat) (o : Option Rlc) : Int := match o with | some r => slotD s t r | none => 0
theorem wantI_succ {m : Mod} (h : m.good) (s t : List Nat) (c : Bool) (a : Nat) (k : Bool) {j : Nat} {x : Rlc} (hx : m.re[j]? = some x) :
    wantI s t ((m.re.take (j + 1)).find? (impW c a k)) = if impW c a k x then slotD s t x else wantI s t ((m.re.take j).find? (impW c a k)) := by
  rw [List.take_add_one, hx, Option.toList_some, List.find?_append]
  cases e : (m.re.take j).find? (impW c a k) with
  | none => cases q : impW c a k x <;> simp [q, wantI]
  | some r =>
    have h1 := List.mem_of_mem_take (List.mem_of_find?_eq_some e)
    have h2 := List.find?_some e
    rw [Option.some_or]
    split
    · rename_i q
      rw [ask_one h h1 (List.mem_of_getElem? hx) (imp_ask h2).1 (imp_ask q).1]; rfl
    · rfl
theorem imports_eq {m : Mod} (h : m.good) {pc pd : Nat} {s t : List Nat} (i : Nat) :
    IntKind.u32.wrap (((m.raw i + m.inc pc pd t i : Nat) : Int) - ((m.raw i + m.inc pc pd s i : Nat) : Int)) = wantI s t (m.re.find? (impW (m.spot i).1 (m.spot i).2.1 (m.spot i).2.2)) := by
  unfold Mod.inc
  generalize m.spot i = p
  obtain ⟨c, a, k⟩ := p
  simp only []
  have z : IntKind.u32.wrap 0 = 0 := rfl
  cases k with
  | false =>
    rw [if_neg (by decide), if_neg (by decide)]
    have : m.re.find? (impW c a false) = none := List.find?_eq_none.2 fun r _ => by unfold impW; simp
    rw [this, Int.sub_self]; rfl
  | true =>
    rw [if_pos rfl, if_pos rfl]
    rcases find_ask h c a with ⟨e, hno⟩ | ⟨r, hr, e, hq⟩
    · rw [e]
      have : m.re.find? (impW c a true) = none := List.find?_eq_none.2 fun r hr hm => by have q := (imp_ask hm).1; rw [hno r hr] at q; cases q
      rw [this]; simp only [Int.sub_self]; rfl
    · rw [e]
      simp only []
      cases hi : impK r with
      | true =>
        have hf : m.re.find? (impW c a true) = some r := by
          cases e2 : m.re.find? (impW c a true) with
          | none => exact absurd (ask_imp hq hi) (by simpa using List.find?_eq_none.1 e2 r hr)
          | some r' => rw [ask_one h (List.mem_of_find?_eq_some e2) hr (imp_ask (List.find?_some e2)).1 hq]
        rw [hf]
        unfold val wantI slotD
        simp only [hi, if_true]
        congr 1; omega
      | false =>
        have hf : m.re.find? (impW c a true) = none := List.find?_eq_none.2 fun r' hr' hm => by
          have := ask_one h hr' hr (imp_ask hm).1 hq
          subst this
          rw [(imp_ask hm).2] at hi; cases hi
        rw [hf]
        unfold val
        simp only [hi, Bool.false_eq_true, if_false, Int.sub_self]; rfl
theorem app_u1 {G K : Heap} {d : Option Tmp} {ty : TypeId} {pos : String} {aft : Array Edge} {gd : Option (Nat × Bool)} {s x : Operand} {pre post : List Row} {b c n : Nat} {L : List (List TV)} (hO : Owns G K (pre ++ (b, 1, L) :: post)) (eL : Each 1 L) (hl : L.length ≤ 16) (hc : K c = some (.cells [.s (.int .u32 n)])) :
    OC Tryd.prog ⟨d, .call { callee := .builtin .append, args := #[s, x], argTypes := #[36, 36] }, ty, pos, aft, gd⟩ [ownT b 1 L, .rs c 0 1 1] K (fun r K' => ∃ b', r = ownT b' 1 (L ++ [u1 n]) ∧ Owns G K' (pre ++ (b', 1, L ++ [u1 n]) :: post) ∧ ∀ p q, (L = [] ∨ p ≠ b) → K p = some q → K' p = some q) := by
  refine OC.mono (oc_append_row (N := [u1 n]) hO ap36 us36 eL (each_u1 [n]) (srcT_rs hc rfl) rfl (by simp; omega) (by simp; omega)) fun r K' h => ?_
  obtain ⟨b', h1, h2, _, h4⟩ := h
  exact ⟨b', h1, h2, h4⟩
theorem row_ne {G K : Heap} {pre post : List Row} {b c : Nat} {L : List (List TV)} (hO : Owns G K (pre ++ (b, 1, L) :: post)) (hc : K c = none) : L = [] ∨ c ≠ b := by
  rcases hO.held (b, 1, L) (by simp) with e | e
  · exact .inl e
  · exact .inr (Ne.symm (none_at hc e))
theorem impW_def (c : Bool) (a : Nat) (k : Bool) (r : Rlc) : impW c a k r = (k && (((r.a : Int) == (a : Int)) && ((((r.k : Int) == 4) != c) && impK r))) := rfl
theorem take_map {l : List Nat} {i x : Nat} (h : l[i]? = some x) : (l.take (i + 1)).map u1 = (l.take i).map u1 ++ [u1 x] := by rw [List.take_add_one, h]; simp
theorem linkImports_c {G : Heap} (g : GH G) (hs : Sub G H) (m : Mod) (hm : m.num) (sa sb' : List Nat) (ha : ∀ x ∈ sa, x < 65536) (hb : ∀ x ∈ sb', x < 65536) : AC Tryd.prog 6 [m.tv, .vs 1 (sa.map h1), .vs 1 (sb'.map h1)] H (fun r H' => r = .s (.bool true) ∧ H' = H) := by
  refine AC.body Tryd.func6 rfl rfl (n := 189) (res := [.tmp 6]) rfl rfl (by simp) ?_
  simp only [ent]
  have S1 := fun H => rsize_c m H
  have W := later fun (K : Heap) => awakeL_c K
  have M1 := later fun (hm : m.ok) (K : Heap) (hs : Sub G K) => vCheck_c g hs m hm
  have hlt := later fun (h : decide ((2000 : Int) < m.size) = false) => little_of h
  have hfi := later fun (h : (m.chk != 0) = false) => good_iff.1 (chk_fine h)
  have hnum := later hm
  clear hm
  simp only [Mod.tv_def] at S1 M1 ⊢
  generalize m.size = sz at *
  generalize m.chk = c1 at *
  (repeat' (first | refine wk ?_ | refine wk2 ?_ ?_ | with_reducible refine wkF fun _ _ _ => ?_ | with_reducible intro _ | exact ag | fail))
  rename_i v hv hvn
  have hsv := later fun r => Sub.upd (r := r) hs (hs.none hv)
  cases q1 : decide ((2000 : Int) < sz) with
  | true =>
    (repeat' (first | refine wk ?_ | refine wk2 ?_ ?_ | with_reducible refine wkF fun _ _ _ => ?_ | with_reducible intro _ | refine Calling.eq (S1 _) ?_ | refine Calling.eq (W.go _) ?_ | exact ag | fail))
    exact fin0
  | false =>
    have hli := later (hlt.go q1)
    have hko := later (ok_of hnum.go hli.go)
    replace M1 := later (M1.go hko.go)
    cases q2 : (c1 != 0) with
    | true =>
      (repeat' (first | refine wk ?_ | refine wk2 ?_ ?_ | with_reducible refine wkF fun _ _ _ => ?_ | with_reducible intro _ | refine Calling.eq (S1 _) ?_ | refine Calling.eq (M1.go _ (hsv.go _)) ?_ | refine Calling.eq (W.go _) ?_ | exact ag | fail))
      exact fin0
    | false =>
      have hg := later (hfi.go q2)
      cases q3 : decide ((sa.length : Int) < m.im.length) with
      | true =>
        (repeat' (first | refine wk ?_ | refine wk2 ?_ ?_ | with_reducible refine wkF fun _ _ _ => ?_ | with_reducible intro _ | refine Calling.eq (S1 _) ?_ | refine Calling.eq (M1.go _ (hsv.go _)) ?_ | refine Calling.eq (W.go _) ?_ | exact ag | fail))
        exact fin0
      | false => cases q4 : decide ((sb'.length : Int) < m.im.length) with
       | true =>
        (repeat' (first | refine wk ?_ | refine wk2 ?_ ?_ | with_reducible refine wkF fun _ _ _ => ?_ | with_reducible intro _ | refine Calling.eq (S1 _) ?_ | refine Calling.eq (M1.go _ (hsv.go _)) ?_ | refine Calling.eq (W.go _) ?_ | exact ag | fail))
        exact fin0
       | false =>
        have hla : m.im.length ≤ sa.length := by have := of_decide_eq_false q3; omega
        have hlb : m.im.length ≤ sb'.length := by have := of_decide_eq_false q4; omega
        replace hla := later hla
        replace hlb := later hlb
        (repeat' (first | refine wk ?_ | refine wk2 ?_ ?_ | with_reducible refine wkF fun _ _ _ => ?_ | with_reducible intro _ | refine Calling.eq (S1 _) ?_ | refine Calling.eq (M1.go _ (hsv.go _)) ?_ | exact ag | fail))
        clear S1 M1 q1 q2 q3 q4 hlt hfi
        have hbo := bounds hg.go
        obtain ⟨ba, bb, b0, l1, l2, l3⟩ := hbo
        refine ARun.midB ⟨[(3, .s (.pointer (some ⟨v, 0, none⟩))), (8, .vs 1 ((sa.take m.im.length).map u1)), (9, .vs 1 ((sb'.take m.im.length).map u1))], upd H v (.cells m.cells)⟩ ?_ fun k hk => ?_
        · have hs1 : ∀ x ∈ sa.take m.im.length, x < 2 ^ 20 := fun x hx => by have := ha x (List.mem_of_mem_take hx); omega
          have hs2 : ∀ x ∈ sb'.take m.im.length, x < 2 ^ 20 := fun x hx => by have := hb x (List.mem_of_mem_take hx); omega
          have hl1 : m.im.length ≤ (sa.take m.im.length).length := by have := hla.go; simp; omega
          have hl2 : m.im.length ≤ (sb'.take m.im.length).length := by have := hlb.go; simp; omega
          clear ha hb hla hlb
          generalize sa.take m.im.length = s at *
          generalize sb'.take m.im.length = t at *
          have lk := good_lk hg.go hnum.go (pc := 80 + 16 * 3) (pd := 80 + 16 * (3 + upN m.co.length)) (sl := s) (by omega) (by omega) hl1 hs1
          have lk' := good_lk hg.go hnum.go (pc := 80 + 16 * 3) (pd := 80 + 16 * (3 + upN m.co.length)) (sl := t) (by omega) (by omega) hl2 hs2
          have O := fun H => of_cl hko.go H
          have A := fun H => at_ok (f := 3) (by omega) (by omega) b0 (by omega) (by omega) H
          have I := fun H => image_c hko.go lk l1 l2 l3 hg.go.co0 H
          have I' := fun H => image_c hko.go lk' l1 l2 l3 hg.go.co0 H
          have im := later fun i => imports_eq hg.go (pc := 80 + 16 * 3) (pd := 80 + 16 * (3 + upN m.co.length)) (s := s) (t := t) i
          have li := later lk.imp
          have li' := later lk'.imp
          have hil : (m.img (80 + 16 * 3) (80 + 16 * (3 + upN m.co.length)) s).length = 16 * (upN m.co.length + upN m.da.length) := by unfold Mod.img; simp
          have hil' : (m.img (80 + 16 * 3) (80 + 16 * (3 + upN m.co.length)) t).length = 16 * (upN m.co.length + upN m.da.length) := by unfold Mod.img; simp
          have hig : ∀ pc pd L i, i < 16 * (upN m.co.length + upN m.da.length) → (m.img pc pd L)[i]? = some (m.raw i + m.inc pc pd L i) := fun pc pd L i hi => by
            unfold Mod.img
            rw [List.getElem?_map, List.getElem?_range hi]; rfl
          have hig1 := later (hig (80 + 16 * 3) (80 + 16 * (3 + upN m.co.length)) s)
          have hig2 := later (hig (80 + 16 * 3) (80 + 16 * (3 + upN m.co.length)) t)
          clear hs1 hs2 hl1 hl2 lk lk' hig
          simp only [Mod.tv_def, Mod.cells, Int.cast_ofNat_Int] at O A I I' ⊢
          generalize m.img (80 + 16 * 3) (80 + 16 * (3 + upN m.co.length)) s = img at *
          generalize m.img (80 + 16 * 3) (80 + 16 * (3 + upN m.co.length)) t = img' at *
          generalize 80 + 16 * (3 + upN m.co.length) = pd at *
          generalize 80 + 16 * 3 = pc at *
          have hN : 16 * (upN m.co.length + upN m.da.length) < 1000 := by omega
          generalize upN m.co.length = a at *
          generalize upN m.da.length = b at *
          have hln : (((img.length : Nat) : Int) != ((img'.length : Nat) : Int)) = false := by rw [hil, hil']; simp
          rw [← hil] at hig1 hig2 hN
          clear ba bb b0 l1 l2 l3
          replace hil := later hil
          replace hil' := later hil'
          (repeat' (first | refine wk ?_ | refine wk2 ?_ ?_ | with_reducible refine wkF fun _ _ _ => ?_ | with_reducible intro _ | refine Calling.eq (O _) ?_ | refine Calling.eq (A _) ?_ | refine Calling.eq (I _) ?_ | refine Calling.eq (I' _) ?_ | exact ag | fail))
          clear O A I I' hln
          refine ARun.rounds (fun i : Nat => ⟨[(3, .s (.pointer (some ⟨v, 0, none⟩))), (8, .vs 1 (s.map u1)), (9, .vs 1 (t.map u1)), (13, .vs 1 (img.map u1)), (15, .vs 1 (img'.map u1)), (17, .s (.int .i64 i))], upd H v (.cells m.cells)⟩) (fun i => img.length - i) (fun i => i ≤ img.length) ?_ 0 (by omega) ?_
          · rintro i hi next
            simp only [Mod.cells]
            by_cases hlt : i < img.length
            · have q1 : (i : Int) < img.length := by omega
              have q2 : (0 : Int) ≤ i := by omega
              have hw := w64s (i := i) (by omega)
              have SP := fun H => spotL_c hko.go (i := i) (by omega) H
              have hx := hig1.go i hlt
              have hx' := hig2.go i hlt
              have hm := im.go i
              have nx := later (next.go (i + 1) (by omega) (by omega))
              simp only [Mod.tv_def] at SP
              generalize m.raw i + m.inc pc pd s i = X at *
              generalize m.raw i + m.inc pc pd t i = Y at *
              generalize m.spot i = p at *
              obtain ⟨c, a, ok⟩ := p
              simp only [] at SP hm ⊢
              have hx1 := vget u1 hx
              have hx2 := vget u1 hx'
              rw [u1_def] at hx1 hx2
              clear hig1 hig2 hx hx' next hil hN im
              (repeat' (first | refine wk ?_ | refine wk2 ?_ ?_ | with_reducible refine wkF fun _ _ _ => ?_ | with_reducible intro _ | refine Calling.eq (SP _) ?_ | exact ag | fail))
              clear SP
              refine ARun.midB ⟨[(3, .s (.pointer (some ⟨v, 0, none⟩))), (8, .vs 1 (s.map u1)), (9, .vs 1 (t.map u1)), (13, .vs 1 (img.map u1)), (15, .vs 1 (img'.map u1)), (17, .s (.int .i64 i)), (21, .s (.int .u32 (wantI s t (m.re.find? (impW c a ok)))))], upd H v (.cells m.cells)⟩ ?_ fun k hk => ?_
              · replace nx := nx.go
                simp only [Mod.cells] at nx ⊢
                replace nx := later nx
                generalize wantI s t (m.re.find? (impW c a ok)) = want at *
                have hbe : (want != want) = false := by simp
                (repeat' (first | refine wk ?_ | refine wk2 ?_ ?_ | with_reducible refine wkF fun _ _ _ => ?_ | with_reducible intro _ | exact ag | fail))
                refine ARun.drawB mixed [([], [0, 1, 2, 3, 4, 5, 6, 7, 8, 9, 10], none)] (by kernel_rfl) (by rfl) ?_
                (repeat' (first | refine wk ?_ | refine wk2 ?_ ?_ | with_reducible refine wkF fun _ _ _ => ?_ | with_reducible intro _ | exact ag | fail))
                exact ARun.weaken nx.go (leK (Sub.refl _))
              · clear nx hx1 hx2 hw hm
                refine ARun.rounds (fun j : Nat => ⟨[(3, .s (.pointer (some ⟨v, 0, none⟩))), (8, .vs 1 (s.map u1)), (9, .vs 1 (t.map u1)), (13, .vs 1 (img.map u1)), (15, .vs 1 (img'.map u1)), (17, .s (.int .i64 i)), (18, .s (.bool c)), (19, .s (.int .i64 a)), (20, .s (.bool ok)), (21, .s (.int .u32 (wantI s t ((m.re.take j).find? (impW c a ok))))), (22, .s (.int .i64 j))], upd H v (.cells m.cells)⟩) (fun j => m.re.length - j) (fun j => j ≤ m.re.length) ?_ 0 (by omega) ?_
                · rintro j hj next
                  simp only [Mod.cells]
                  have hlre := later hko.go.lre
                  by_cases hlt : j < m.re.length
                  · have g1 : (j : Int) < m.re.length := by omega
                    have g2 : (0 : Int) ≤ j := by omega
                    have hw := w64s (i := j) (by have := hlre.go; omega)
                    obtain ⟨x, hx⟩ := at_ hlt
                    have hx1 := vget relE hx
                    rw [relE_def] at hx1
                    have hmem := List.mem_of_getElem? hx
                    have e16 := u16_i64 ((hko.go.re x hmem).2.1)
                    have nx := next.go (j + 1) (by omega) (by omega)
                    rw [wantI_succ hg.go s t c a ok hx, impW_def] at nx
                    have hd := k6 x
                    have hidx : impK x = true → ∃ y z, (s.map u1)[x.w]? = some [.s (.int .u32 y)] ∧ (t.map u1)[x.w]? = some [.s (.int .u32 z)] ∧ slotD s t x = IntKind.u32.wrap ((z : Int) - y) := fun hik => by
                      obtain ⟨y, hy⟩ := at_ (li.go x hmem hik)
                      obtain ⟨z, hz⟩ := at_ (li'.go x hmem hik)
                      have e1 := vget u1 hy
                      have e2 := vget u1 hz
                      rw [u1_def] at e1 e2
                      exact ⟨(y : Nat), (z : Nat), e1, e2, by unfold slotD; simp [List.getD_eq_getElem?_getD, hy, hz]⟩
                    have hw0 : (0 : Int) ≤ x.w := by omega
                    clear next hx hmem
                    generalize hea : ((x.a : Int) == (a : Int)) = ea at *
                    generalize hik : impK x = ik at *
                    clear hik
                    generalize slotD s t x = sd at *
                    generalize wantI s t ((m.re.take j).find? (impW c a ok)) = want at *
                    have nxF := fun h : (ok && (ea && ((((x.k : Int) == 4) != c) && ik))) = false => by rw [h, if_neg (by decide)] at nx; exact nx
                    have nxT := fun h : (ok && (ea && ((((x.k : Int) == 4) != c) && ik))) = true => by rw [h, if_pos rfl] at nx; exact nx
                    clear nx
                    replace nxF := later nxF
                    replace nxT := later nxT
                    rcases hd with ⟨-, rfl, k1⟩ | ⟨-, rfl, k1, -, k3, k4⟩ | ⟨-, rfl, k1, -, -, k4, k5⟩ | ⟨-, rfl, k1, -, -, k4⟩ | ⟨-, rfl, k1, -, -, k4, k5⟩ | ⟨-, rfl, k1, -, -, k4, k5⟩
                    all_goals
                      rw [k1] at nxF nxT
                      try obtain ⟨y, z, hy, hz, hsd⟩ := hidx rfl
                      clear hidx
                      try subst hsd
                      cases ok
                      · (repeat' (first | refine wk ?_ | refine wk2 ?_ ?_ | with_reducible refine wkF fun _ _ _ => ?_ | with_reducible intro _ | exact ag | fail))
                        exact ARun.weaken (nxF.go rfl) (leK sb)
                      · cases ea
                        · (repeat' (first | refine wk ?_ | refine wk2 ?_ ?_ | with_reducible refine wkF fun _ _ _ => ?_ | with_reducible intro _ | exact ag | fail))
                          exact ARun.weaken (nxF.go rfl) (leK sb)
                        · cases c
                          all_goals
                            (repeat' (first | refine wk ?_ | refine wk2 ?_ ?_ | with_reducible refine wkF fun _ _ _ => ?_ | with_reducible intro _ | exact ag | fail))
                            all_goals first | (rename_i hh; cases hh; done) | exact ARun.weaken (nxF.go rfl) (leK sb) | (refine ARun.drawB mixed [([], [0, 1, 2, 3, 4, 5, 6, 7, 8, 9, 10, 11], none)] (by kernel_rfl) (by rfl) ?_; (repeat' (first | refine wk ?_ | refine wk2 ?_ ?_ | with_reducible refine wkF fun _ _ _ => ?_ | with_reducible intro _ | exact ag | fail)); exact ARun.weaken (nxT.go rfl) (leK sb)) | fail
                  · have g1 : decide ((j : Int) < m.re.length) = false := by simp; omega
                    obtain rfl : j = m.re.length := by omega
                    clear next
                    rw [List.take_length]
                    (repeat' (first | refine wk ?_ | refine wk2 ?_ ?_ | with_reducible refine wkF fun _ _ _ => ?_ | with_reducible intro _ | exact ag | fail))
                    exact ARun.weaken hk.go (leK (Sub.refl _))
                · have e0 : wantI s t (List.find? (impW c a ok) []) = 0 := rfl
                  rw [List.take_zero, e0]
                  simp only [Mod.cells]
                  exact leK (Sub.refl _)
            · have q1 : decide ((i : Int) < img.length) = false := by simp; omega
              obtain rfl : i = img.length := by omega
              clear next hig1 hig2 hil hN hi hlt im
              (repeat' (first | refine wk ?_ | refine wk2 ?_ ?_ | with_reducible refine wkF fun _ _ _ => ?_ | with_reducible intro _ | refine Calling.eq (W.go _) ?_ | exact ag | fail))
              exact fin0
          · simp only [Mod.cells]
            exact leK sb
        · refine ARun.free fun b0 hb0 => ?_
          clear hko hsv ba bb l1 l2 l3 W g hs hnum
          replace ha := later ha
          replace hb := later hb
          generalize hK : upd H v _ = K at *
          have e3 : K v = some (.cells [.s (.string m.nm), .vs 1 (m.ex.map s1), .vs 1 (m.im.map s1), .vs 1 (m.co.map u1), .vs 1 (m.da.map u1), .vs 3 (m.re.map relE)]) := by rw [← hK]; exact upd_self _ _ _
          have hsub0 : Sub K (upd H v (.cells [.s (.string m.nm), .vs 1 (m.ex.map s1), .vs 1 (m.im.map s1), .vs 1 (m.co.map u1), .vs 1 (m.da.map u1), .vs 3 (m.re.map relE)])) := by rw [← hK]; exact Sub.refl _
          have hsub1 : Sub (upd H v (.cells [.s (.string m.nm), .vs 1 (m.ex.map s1), .vs 1 (m.im.map s1), .vs 1 (m.co.map u1), .vs 1 (m.da.map u1), .vs 3 (m.re.map relE)])) K := by rw [← hK]; exact Sub.refl _
          have him := hg.go.lim
          have hb0' : K b0 = none := by rw [← hK]; exact hb0
          clear hK hv hvn hg hli
          refine ARun.rounds (fun st : Nat × Heap × Nat × Nat => ⟨[(1, .vs 1 (sa.map h1)), (2, .vs 1 (sb'.map h1)), (3, .s (.pointer (some ⟨v, 0, none⟩))), (7, .s (.int .i64 m.im.length)), (8, ownT st.2.2.1 1 ((sa.take st.1).map u1)), (9, ownT st.2.2.2 1 ((sb'.take st.1).map u1)), (10, .s (.int .i64 (st.1 : Nat)))], st.2.1⟩) (fun st => m.im.length - st.1)
            (fun st => st.1 ≤ m.im.length ∧ Owns K st.2.1 [(st.2.2.1, 1, (sa.take st.1).map u1), (st.2.2.2, 1, (sb'.take st.1).map u1)]) ?_ (0, K, b0, b0) ⟨by simp, ?_⟩ ?_
          · rintro ⟨i, K', p, q⟩ ⟨hi, O⟩ next
            simp only [] at hi O ⊢
            have f3 := O.sub v _ e3
            replace O := later O
            by_cases hlt : i < m.im.length
            · have q1 : decide ((i : Int) < m.im.length) = true := by simp; omega
              have q1' : (i : Int) < m.im.length := by omega
              obtain ⟨x, hx⟩ := at_ (l := sa) (i := i) (by have := hla.go; omega)
              obtain ⟨y, hy⟩ := at_ (l := sb') (i := i) (by have := hlb.go; omega)
              have hxn := take_map hx
              have hyn := take_map hy
              have hx1 := vget h1 hx
              have hy1 := vget h1 hy
              rw [h1_def] at hx1 hy1
              have hw := w64s (i := i) (by omega)
              have q2 : (0 : Int) ≤ i := by omega
              have w1 : IntKind.u32.wrap (x : Int) = x := w32 (by omega) (by have := ha.go x (List.mem_of_getElem? hx); omega)
              have w2 : IntKind.u32.wrap (y : Int) = y := w32 (by omega) (by have := hb.go y (List.mem_of_getElem? hy); omega)
              have ea := each_u1 (sa.take i)
              have eb := each_u1 (sb'.take i)
              have la : ((sa.take i).map u1).length ≤ 16 := by simp; omega
              have lb : ((sb'.take i).map u1).length ≤ 16 := by simp; omega
              replace ea := later ea
              replace eb := later eb
              replace la := later la
              replace lb := later lb
              clear hx hy hla hlb
              have nx := later fun K2 p2 q2 (hO : Owns K K2 [(p2, 1, (sa.take i).map u1 ++ [u1 x]), (q2, 1, (sb'.take i).map u1 ++ [u1 y])]) => next.go (i + 1, K2, p2, q2) ⟨by simp only []; omega, by simp only [hxn, hyn]; exact hO⟩ (by simp only []; omega)
              simp only [hxn, hyn] at nx
              generalize (sa.take i).map u1 = LA at *
              generalize (sb'.take i).map u1 = LB at *
              clear next hxn hyn
              (repeat' (first | refine wk ?_ | refine wk2 ?_ ?_ | with_reducible refine wkF fun _ _ _ => ?_ | with_reducible intro _ | exact ag | fail))
              refine ARun.draw3T 16 mixed (fun A => ∃ K2 p2 q2, Owns K K2 [(p2, 1, LA ++ [u1 x]), (q2, 1, LB ++ [u1 y])] ∧ AS.le ⟨[(1, .vs 1 (sa.map h1)), (2, .vs 1 (sb'.map h1)), (3, .s (.pointer (some ⟨v, 0, none⟩))), (7, .s (.int .i64 m.im.length)), (10, .s (.int .i64 i)), (60, ownT p2 1 (LA ++ [u1 x])), (68, ownT q2 1 (LB ++ [u1 y]))], K2⟩ A) [0, 1, 2, 3, 4, 5, 8, 9, 10, 11, 12, 13] 6 7 14 [0, 1, 2, 3, 4, 8, 9, 10, 11, 12, 13] [1, 2, 3, 4, 5, 8, 9, 10, 11, 12, 13] [0, 1, 2, 3, 4, 5, 8, 9, 10, 11, 12] [0, 1, 2, 3, 4, 5, 8, 9, 10, 11, 12] [([0, 1, 2, 3, 4, 5, 8, 9, 10, 11, 12], [], some 15), ([0, 1, 2, 3, 4, 5, 9, 10, 11, 12, 13], [], none)] [([1, 2, 3, 4, 5, 8, 9, 10, 11, 12, 13], [], some 15), ([0, 1, 2, 3, 4, 5, 9, 10, 11, 12, 13], [], none)] [([0, 1, 2, 3, 4, 8, 9, 10, 11, 12, 13], [], some 7), ([1, 2, 3, 4, 5, 8, 9, 10, 11, 12, 13], [], some 15), ([0, 1, 2, 3, 4, 5, 9, 10, 11, 12, 13], [], none)] (by kernel_rfl) (by kernel_rfl) (by rfl) (by rfl) ?_ ?_ <;> simp only [List.extract_toArray, List.extract_eq_take_drop, List.drop_zero, Nat.sub_zero, List.take_succ_cons, List.take_zero, List.size_toArray, List.length_cons, List.length_nil, List.drop_succ_cons, Nat.reduceAdd]
              · rintro ⟨E, HA⟩ ⟨K2, p2, q2, hO, hle⟩
                have t1 := hle.1 1 _ rfl
                have t2 := hle.1 2 _ rfl
                have t3 := hle.1 3 _ rfl
                have t7 := hle.1 7 _ rfl
                have t10 := hle.1 10 _ rfl
                have t60 := hle.1 60 _ rfl
                have t68 := hle.1 68 _ rfl
                have hS : Sub K2 HA := hle.2
                simp only [] at t1 t2 t3 t7 t10 t60 t68
                clear hle
                (repeat' (first | refine wk ?_ | refine wk2 ?_ ?_ | with_reducible refine wkF fun _ _ _ => ?_ | with_reducible intro _ | exact ag | fail))
                exact ARun.weaken (nx.go K2 p2 q2 hO) (leK hS)
              · (repeat' (first | refine wk ?_ | refine wk2 ?_ ?_ | with_reducible refine wkF fun _ _ _ => ?_ | with_reducible intro _ | refine Doing.fresh (oc_build1 ap36 (fun _ h => by cases h; rfl) rfl rfl (by decide) (by decide)) fun _ _ _ => ?_ | exact ag | fail))
                · rename_i c hc hcn
                  refine Doing.by (app_u1 (pre := []) (post := [(q, 1, LB)]) (O.go.fresh hc) ea.go la.go (upd_self _ _ _)) ?_
                  rintro r K1 ⟨p2, rfl, O1, -⟩
                  (repeat' (first | refine wk ?_ | refine wk2 ?_ ?_ | with_reducible refine wkF fun _ _ _ => ?_ | with_reducible intro _ | refine Doing.fresh (oc_build1 ap36 (fun _ h => by cases h; rfl) rfl rfl (by decide) (by decide)) fun _ _ _ => ?_ | exact ag | fail))
                  rename_i c' hc' hcn'
                  refine Doing.by (app_u1 (pre := [(p2, 1, LA ++ [u1 x])]) (post := []) (O1.fresh hc') eb.go lb.go (upd_self _ _ _)) ?_
                  rintro r K2 ⟨q2, rfl, O2, -⟩
                  (repeat' (first | refine wk ?_ | refine wk2 ?_ ?_ | with_reducible refine wkF fun _ _ _ => ?_ | with_reducible intro _ | exact ag | fail))
                  all_goals exact ⟨K2, p2, q2, O2, leK (Sub.refl _)⟩
                · rename_i c hc hcn c' hc' hcn'
                  have Oc := O.go.fresh (c := .cells [.s (.int .u32 x)]) hc
                  have Oc' := Oc.fresh (c := .cells [.s (.int .u32 y)]) hc'
                  have ne' := row_ne (pre := []) Oc hc'
                  refine Doing.by (app_u1 (n := x) (pre := []) (post := [(q, 1, LB)]) Oc' ea.go la.go ag) ?_
                  rintro r K1 ⟨p2, rfl, O1, keep⟩
                  have e2 := keep c' _ ne' (upd_self _ _ _)
                  (repeat' (first | refine wk ?_ | refine wk2 ?_ ?_ | with_reducible refine wkF fun _ _ _ => ?_ | with_reducible intro _ | exact ag | fail))
                  refine Doing.by (app_u1 (pre := [(p2, 1, LA ++ [u1 x])]) (post := []) O1 eb.go lb.go e2) ?_
                  rintro r K2 ⟨q2, rfl, O2, -⟩
                  (repeat' (first | refine wk ?_ | refine wk2 ?_ ?_ | with_reducible refine wkF fun _ _ _ => ?_ | with_reducible intro _ | exact ag | fail))
                  all_goals exact ⟨K2, p2, q2, O2, leK (Sub.refl _)⟩
                · rename_i c hc hcn c' hc' hcn'
                  have Oc := O.go.fresh (c := .cells [.s (.int .u32 y)]) hc
                  have Oc' := Oc.fresh (c := .cells [.s (.int .u32 x)]) hc'
                  have ne' := row_ne (pre := []) O.go hc
                  have e1 : (upd (upd K' c (.cells [.s (.int .u32 y)])) c' (.cells [.s (.int .u32 x)])) c = some (.cells [.s (.int .u32 y)]) := ag
                  refine Doing.by (app_u1 (n := x) (pre := []) (post := [(q, 1, LB)]) Oc' ea.go la.go (upd_self _ _ _)) ?_
                  rintro r K1 ⟨p2, rfl, O1, keep⟩
                  have e2 := keep c _ ne' e1
                  (repeat' (first | refine wk ?_ | refine wk2 ?_ ?_ | with_reducible refine wkF fun _ _ _ => ?_ | with_reducible intro _ | exact ag | fail))
                  refine Doing.by (app_u1 (pre := [(p2, 1, LA ++ [u1 x])]) (post := []) O1 eb.go lb.go e2) ?_
                  rintro r K2 ⟨q2, rfl, O2, -⟩
                  (repeat' (first | refine wk ?_ | refine wk2 ?_ ?_ | with_reducible refine wkF fun _ _ _ => ?_ | with_reducible intro _ | exact ag | fail))
                  all_goals exact ⟨K2, p2, q2, O2, leK (Sub.refl _)⟩
            · have q1 : decide ((i : Int) < m.im.length) = false := by simp; omega
              obtain rfl : i = m.im.length := by omega
              clear next hla hlb
              (repeat' (first | refine wk ?_ | refine wk2 ?_ ?_ | with_reducible refine wkF fun _ _ _ => ?_ | with_reducible intro _ | exact ag | fail))
              have hf := O.go.free
              have hh := O.go.held
              simp only [List.forall_mem_cons, List.not_mem_nil, false_implies, implies_true, and_true] at hf hh
              refine ARun.freeze hk.go O.go.sub ?_
              simp only [List.forall_mem_cons, List.not_mem_nil, false_implies, implies_true, and_true]
              exact ⟨⟨_, ag, Conv.refl O.go.sub _⟩, ⟨_, ag, conv_own O.go.sub hh.1 hf.1 (each_u1 _)⟩, ⟨_, ag, conv_own O.go.sub hh.2 hf.2 (each_u1 _)⟩⟩
          · simp only [List.take_zero, List.map_nil]
            exact Owns.two hb0'
          · simp only [List.take_zero, List.map_nil, ownT_nil]
            exact leK hsub0
end Go.Abs
/- From a contract to a row: the library's variables are held as they are, the row's slices are read. -/
namespace Go.Proofs.YtllkloneapjgjaaDoor
open Go.RowKit Go.Lib Go.Proofs.YtllkloneapjgjaaDoorW.PrintWords
set_option linter.unusedVariables false
structure Glob (w : World) : Prop where
  m : ∃ m, w.cell? ⟨0, 0, none⟩ = some (.int .i64 m)
  u : Lib.Utf8Tabs 1 2 w
theorem laidH_plain (P : Program) (laid : List (String × DataW Unit)) (w : World) (h : (laid.all fun x => x.2.handleName?.isNone) = true) (hl : laidMetH P laid w) : laidMet P laid w := by
  have e : (laid.filter fun x => x.2.handleName?.isSome) = [] := by
    rw [List.filter_eq_nil_iff]
    intro x hx hs
    have := List.all_eq_true.1 h x hx
    cases hn : x.2.handleName? with
    | none => rw [hn] at hs; cases hs
    | some s => rw [hn] at this; cases this
  unfold laidMetH at hl
  rw [e] at hl
  exact hl
namespace P
structure S64 where
  f0 : Int
  f1 : Int
  f2 : Int
def k64 : Kd S64 := Kd.iso (Kd.pair (Kd.int .u8) (Kd.pair (Kd.int .u16) (Kd.int .u16))) (fun x : S64 => (x.f0, x.f1, x.f2))
theorem k64_open {w : World} {x : S64} {cs : List Value} (h : k64.K w x cs) : cs = [.int .u8 x.f0, .int .u16 x.f1, .int .u16 x.f2] := by
  obtain ⟨_, _, rfl, rfl, ⟨_, _, rfl, rfl, rfl⟩⟩ := h
  exact rfl
theorem k64_mk (w : World) (x : S64) : k64.K w x [.int .u8 x.f0, .int .u16 x.f1, .int .u16 x.f2] := ⟨[.int .u8 x.f0], [.int .u16 x.f1, .int .u16 x.f2], rfl, rfl, ⟨[.int .u16 x.f1], [.int .u16 x.f2], rfl, rfl, rfl⟩⟩
end P
end Go.Proofs.YtllkloneapjgjaaDoor
namespace Go.Abs
set_option linter.unusedSimpArgs false
set_option linter.unusedVariables false
open Go.Proofs Go.RowKit Go.Proofs.YtllkloneapjgjaaDoor Go.Proofs.YtllkloneapjgjaaDoorW.PrintWords
set_option linter.unusedVariables false
/-- The first n blocks, held as they are. -/
def heldAs (w : World) (n : Nat) : Heap := fun b => if b < n then (w.heap[b]?).map .exact else none
theorem heldAs_rel (w : World) (n : Nat) : HRel (heldAs w n) w := by
  intro b r h
  unfold heldAs at h
  split at h
  · cases e : w.heap[b]? with
    | none => rw [e] at h; cases h
    | some o => rw [e] at h; cases h; exact e
  · cases h
theorem heldAs_keep {w w' : World} {n : Nat} (h : HRel (heldAs w n) w') {b : Nat} (hb : b < n) (hs : b < w.heap.size) : w'.heap[b]? = w.heap[b]? := by
  have e : w.heap[b]? = some w.heap[b] := Array.getElem?_eq_getElem hs
  have := h b (.exact w.heap[b]) (by unfold heldAs; rw [if_pos hb, e]; rfl)
  rw [e]; exact this
theorem heldAs_none {w : World} {n b : Nat} (h : n ≤ b) : heldAs w n b = none := by unfold heldAs; rw [if_neg (by omega)]
theorem cell_lt' {w : World} {a : Addr} {v : Value} (hc : w.cell? a = some v) : a.block < w.heap.size := by
  rcases Nat.lt_or_ge a.block w.heap.size with h | h
  · exact h
  · simp [World.cell?, Array.getElem?_eq_none h] at hc
/-- A call that leaves the held blocks as they are leaves all blocks as they are. -/
theorem below_of {w w' : World} {n : Nat} (he : Ext (heldAs w n) w (heldAs w n) w') (hr : HRel (heldAs w n) w') : Below w.heap.size w w' where
  os := he.os
  tape := he.tape
  output := he.output
  size := he.size
  block := fun k hk => by
    by_cases h : k < n
    · exact heldAs_keep hr h hk
    · exact (he.keep k hk (heldAs_none (by omega))).1
theorem glob_held {w : World} (hG : Glob w) : GH (heldAs w 3) where
  exact := fun b hb => by
    unfold heldAs at hb ⊢
    split at hb
    · rename_i h; rw [if_pos h]
      cases e : w.heap[b]? with
      | none => rw [e] at hb; exact absurd rfl hb
      | some o => exact ⟨o, rfl⟩
    · exact absurd rfl hb
  tabs := fun w' hr => by
    have hc : ∀ b off v, b < 3 → w.cell? ⟨b, off, none⟩ = some v → w'.cell? ⟨b, off, none⟩ = some v := fun b off v hb hv => by
      have hk := heldAs_keep hr hb (cell_lt' hv)
      rw [← hv]; simp only [World.cell?, hk]
    exact ⟨fun c h => hc 1 c _ (by omega) (hG.u.1 c h), fun i h => ⟨hc 2 _ _ (by omega) (hG.u.2 i h).1, hc 2 _ _ (by omega) (hG.u.2 i h).2⟩⟩
theorem repC_of {w : World} {F : Nat → Prop} {b : Nat} : ∀ (vs : List Value) (off : Nat), (∀ i u, vs[i]? = some u → w.cell? ⟨b, off + i, none⟩ = some u) → RepC w F b off (vs.map .s)
  | [], off, _ => by simp only [List.map_nil, RepC]
  | v :: vs, off, h => by
    simp only [List.map_cons, RepC]
    refine ⟨⟨v, h 0 v rfl, rfl⟩, repC_of vs (off + 1) fun i u hu => ?_⟩
    have := h (i + 1) u hu
    rw [show off + 1 + i = off + (i + 1) by omega]; exact this
theorem repE_of {α : Type} {enc : α → List Value} {w : World} {F : Nat → Prop} {b k : Nat} (hF : F b) (hk : ∀ x, (enc x).length = k) : ∀ (xs : List α) (off : Nat), (∀ j p, xs[j]? = some p → ∀ i u, (enc p)[i]? = some u → w.cell? ⟨b, off + (j * k + i), none⟩ = some u) → RepE w F (some ⟨b, off, none⟩) k xs.length (xs.map fun x => (enc x).map .s)
  | [], off, _ => by simp only [List.map_nil, RepE, List.length_nil]
  | x :: xs, off, h => by
    simp only [List.map_cons, RepE]
    refine ⟨b, off, xs.length, rfl, rfl, hF, by rw [List.length_map]; exact hk x, repC_of _ _ fun i u hu => ?_, repE_of hF hk xs (off + k) fun j p hp i u hu => ?_⟩
    · have := h 0 x rfl i u hu
      rw [Nat.zero_mul, Nat.zero_add] at this; exact this
    · have := h (j + 1) p hp i u hu
      rw [Nat.succ_mul] at this
      rw [show off + k + (j * k + i) = off + (j * k + k + i) by omega]; exact this
theorem add_mk (b o j : Nat) : (⟨b, o, none⟩ : Addr).add j = ⟨b, o + j, none⟩ := by unfold Addr.add; split <;> simp_all
/-- A row of structs that is read, as a walk sees it. -/
theorem rep_row {α : Type} {d : Kd α} {enc : α → List Value} {w : World} {F : Nat → Prop} {A : Option Addr} {xs : List α} {cap : Nat} (hk : ∀ x, (enc x).length = d.sz) (hp : 0 < d.sz) (hK : ∀ x cs, d.K w x cs → cs = enc x) (h : Kd.C d w A xs.length xs) (hc : xs.length ≤ cap)
    (hF : ∀ b off x, x ∈ xs → (∀ i u, (enc x)[i]? = some u → w.cell? ⟨b, off + i, none⟩ = some u) → F b) : Rep w F (.vs d.sz (xs.map fun x => (enc x).map .s)) (.slice A xs.length cap) := by
  simp only [Rep]
  refine ⟨A, xs.length, cap, rfl, hc, ?_⟩
  cases xs with
  | nil => simp only [List.map_nil, RepE, List.length_nil]
  | cons y ys =>
    obtain ⟨_, _, h⟩ := h
    obtain ⟨ad, rfl, hall⟩ := h (by simp)
    have hcell : ∀ j p, (y :: ys)[j]? = some p → ∀ i u, (enc p)[i]? = some u → w.cell? (ad.add (j * d.sz + i)) = some u := fun j p hp i u hu => by
      obtain ⟨c, _, hR, hcc⟩ := hall j p hp
      rw [hK p c hR] at hcc
      exact hcc i u hu
    have hsp : ad.spot = none := by
      have h0 : (enc y)[0]? = some ((enc y)[0]'(by rw [hk]; exact hp)) := List.getElem?_eq_getElem _
      have : w.cell? ad = some ((enc y)[0]'(by rw [hk]; exact hp)) := by have := hcell 0 y rfl 0 _ h0; rw [Nat.zero_mul, Nat.zero_add] at this; simpa only [Addr.add, if_true] using this
      unfold World.cell? at this
      split at this
      · cases e : ad.spot with
        | none => rfl
        | some z => rw [e] at this; simp at this
      · cases this
    obtain ⟨b, off, sp⟩ := ad
    simp only [] at hsp
    subst hsp
    exact repE_of (hF b off y (by simp) fun i u hu => by have := hcell 0 y rfl i u hu; rw [Nat.zero_mul, Nat.zero_add, add_mk] at this; exact this) hk (y :: ys) off fun j p hp i u hu => by rw [← add_mk]; exact hcell j p hp i u hu
/-- A cell of a variable of numbers holds such a number. -/
theorem only_int {P : Program} {w : World} (h : w.ShapedOpen P) {g : Nat} {t : TypeId} (hg : g < P.globals.size) (h0 : (((begin P (fun _ _ => 0) default).world.heap[g]?).bind Obj.row?).map (·.2) = some t) (hb : P.buildable t = true)
    {k : IntKind} {e : TypeId} {n : Nat} (hc : P.cellTypes P.depth t = some (List.replicate n e)) (hu : P.underlying e = some (.int k)) (off : Nat) {v : Value} (hcell : w.cell? ⟨g, off, none⟩ = some v) : ∃ x, v = .int k x := by
  cases hz : ((begin P (fun _ _ => 0) default).world.heap[g]?).bind Obj.row? with
  | none => rw [hz] at h0; cases h0
  | some zt =>
    obtain ⟨zero, t'⟩ := zt
    rw [hz] at h0; obtain rfl : t' = t := by simpa using h0
    obtain ⟨cs, hh, _, hr⟩ := h.1 g zero _ hg hz
    obtain ⟨ts, hts, _, hall⟩ := hr hb
    rw [hc] at hts; cases hts
    simp only [World.cell?, hh] at hcell
    obtain ⟨u, hu', hok⟩ := hall off _ hcell
    have : u = e := List.eq_of_mem_replicate (List.mem_of_getElem? hu')
    subst this
    unfold Cell.ok at hok
    rw [hu] at hok
    cases v <;> simp at hok
    obtain ⟨rfl, _⟩ := hok
    exact ⟨_, rfl⟩
theorem only3 {w : World} (hsh : w.ShapedOpen Tryd.prog) : ∀ b, b < 3 → ∀ off v, w.cell? ⟨b, off, none⟩ = some v → ∃ k x, v = .int k x ∧ (k = .i64 ∨ k = .u8) := by
  intro b hb off v h
  match b, hb with
  | 0, _ => obtain ⟨x, e⟩ := only_int hsh (of_decide_eq_true (by kernel_rfl)) (t := 3) (by kernel_rfl) (by kernel_rfl) (n := 1) (e := 3) (by kernel_rfl) Tryd.underlying3 off h; exact ⟨_, x, e, .inl rfl⟩
  | 1, _ => obtain ⟨x, e⟩ := only_int hsh (of_decide_eq_true (by kernel_rfl)) (t := 151) (by kernel_rfl) (by kernel_rfl) (n := 256) (e := 5) (by kernel_rfl) Tryd.underlying5 off h; exact ⟨_, x, e, .inr rfl⟩
  | 2, _ => obtain ⟨x, e⟩ := only_int hsh (of_decide_eq_true (by kernel_rfl)) (t := 154) (by kernel_rfl) (by kernel_rfl) (n := 32) (e := 5) (by kernel_rfl) Tryd.underlying5 off h; exact ⟨_, x, e, .inr rfl⟩
theorem AC.calls {P : Program} {g : FuncId} {fn : Func} {args : List TV} {H : Heap} {C : TV → Heap → Prop} (h : AC P g args H C) (hf : P.funcs[g]? = some fn) (hb : fn.body.isNone = false) (hname : (fn.name == "runtime.NumGoroutine") = false)
    {argv : List Value} {w : World} (ha : RepL w (Fr H w) args argv) (hh : HRel H w) : Calls P g argv.toArray w fun e w' => ∃ v, e = .returned v ∧ After C H w v w' := by
  rcases h argv w ha hh with h | ⟨v, w', h, _⟩
  · exact h.2
  · have : (callFunc g argv.toArray).run P w = .ok (.enter g argv.toArray) w := by
      unfold callFunc
      rw [run_ok (w' := w) (a := P) rfl]
      simp only [hf, hname, Bool.false_eq_true, if_false, hb]; rfl
    rw [this] at h; cases h
/-- A law that always tells true, in the kit's own words. -/
theorem AC.law {P : Program} {g : FuncId} {fn : Func} {args : List TV} {w : World} {n : Nat} (h : AC P g args (heldAs w n) (fun r H' => r = .s (.bool true) ∧ H' = heldAs w n)) (hf : P.funcs[g]? = some fn) (hb : fn.body.isNone = false) (hname : (fn.name == "runtime.NumGoroutine") = false)
    {argv : List Value} (ha : RepL w (Fr (heldAs w n) w) args argv) : Calls P g argv.toArray w fun e w' => e = .returned (.bool true) ∧ Below w.heap.size w w' := by
  refine (h.calls hf hb hname ha (heldAs_rel w n)).mono fun e w' ⟨v, he, r, H', ⟨hr, hH⟩, hv, hrel, hext⟩ => ?_
  subst he hr hH
  simp only [Rep] at hv
  subst hv
  exact ⟨rfl, below_of hext hrel⟩
theorem fr3 {w : World} (hsh : w.ShapedOpen Tryd.prog) {b off : Nat} {v : Value} (h : w.cell? ⟨b, off, none⟩ = some v) (hv : ∀ k x, v = .int k x → k ≠ .i64 ∧ k ≠ .u8) : Fr (heldAs w 3) w b := by
  refine ⟨cell_lt' h, heldAs_none ?_⟩
  rcases Nat.lt_or_ge b 3 with g | g
  · obtain ⟨k, x, e, hk⟩ := only3 hsh b g off v h
    have := hv k x e
    rcases hk with hk | hk
    · exact absurd hk this.1
    · exact absurd hk this.2
  · exact g
theorem row_s {w : World} {A : Option Addr} {l : List ByteArray} {c : Nat} (hr : Kd.C Kd.string w A l.length l) (hc : l.length ≤ c) (hsh : w.ShapedOpen Tryd.prog) : Rep w (Fr (heldAs w 3) w) (.vs 1 (l.map s1)) (.slice A l.length c) :=
  rep_row (d := Kd.string) (enc := fun x => [.string x]) (fun x => rfl) (by decide) (fun x cs h => h) hr hc fun b off x hx hcell => fr3 hsh (off := off + 0) (hcell 0 _ rfl) (fun k y e => by cases e)
theorem row_u {w : World} {A : Option Addr} {l : List Int} {c : Nat} (hr : Kd.C (Kd.int .u32) w A l.length l) (hc : l.length ≤ c) (hsh : w.ShapedOpen Tryd.prog) (hg : ∀ y ∈ l, (Lit.int .u32 y).wf = true) : Rep w (Fr (heldAs w 3) w) (.vs 1 ((l.map Int.toNat).map u1)) (.slice A l.length c) := by
  have h := rep_row (d := Kd.int .u32) (enc := fun x => [.int .u32 x]) (fun x => rfl) (by decide) (fun x cs h => h) hr hc (F := Fr (heldAs w 3) w) fun b off x hx hcell => fr3 hsh (off := off + 0) (hcell 0 _ rfl) (fun k y e => by cases e; exact ⟨by decide, by decide⟩)
  have e : (l.map fun x => [Value.int .u32 x].map TV.s) = (l.map Int.toNat).map u1 := by
    rw [List.map_map]
    refine List.map_congr_left fun x hx => ?_
    have := (Op.r32 (hg x hx)).1
    simp only [Function.comp_def, u1, List.map_cons, List.map_nil]
    rw [Int.toNat_of_nonneg this]
  rw [e] at h
  exact h
open Go.Proofs.YtllkloneapjgjaaDoor.P
def goodR (a : S64) : Prop := (Lit.int .u8 a.f0).wf = true ∧ (Lit.int .u16 a.f1).wf = true ∧ (Lit.int .u16 a.f2).wf = true
def rlcOf (x : S64) : Rlc := ⟨x.f0.toNat, x.f1.toNat, x.f2.toNat⟩
theorem row_r {w : World} {A : Option Addr} {l : List S64} {c : Nat} (hr : Kd.C k64 w A l.length l) (hc : l.length ≤ c) (hsh : w.ShapedOpen Tryd.prog) (hg : ∀ y ∈ l, goodR y) : Rep w (Fr (heldAs w 3) w) (.vs 3 ((l.map rlcOf).map relE)) (.slice A l.length c) := by
  have h := rep_row (d := k64) (enc := fun x => [.int .u8 x.f0, .int .u16 x.f1, .int .u16 x.f2]) (fun x => rfl) (by decide) (fun x cs h => k64_open h) hr hc (F := Fr (heldAs w 3) w) fun b off x hx hcell => fr3 hsh (hcell 1 _ rfl) (fun k y e => by cases e; exact ⟨by decide, by decide⟩)
  have e : (l.map fun x : S64 => [Value.int .u8 x.f0, .int .u16 x.f1, .int .u16 x.f2].map TV.s) = (l.map rlcOf).map relE := by
    rw [List.map_map]
    refine List.map_congr_left fun x hx => ?_
    obtain ⟨g1, g2, g3⟩ := hg x hx
    simp only [Function.comp_def, relE, rlcOf, List.map_cons, List.map_nil]
    rw [Int.toNat_of_nonneg (Op.r8 g1).1, Int.toNat_of_nonneg (Op.r16 g2).1, Int.toNat_of_nonneg (Op.r16 g3).1]
  rw [e] at h
  exact h
/-- A module, as a row has it. -/
structure MArg (w : World) (s : ByteArray) (A1 A2 A3 A4 A5 : Option Addr) (x1 x2 : List ByteArray) (x3 x4 : List Int) (x5 : List S64) (c1 c2 c3 c4 c5 : Nat) : Prop where
  r1 : Kd.C Kd.string w A1 x1.length x1
  l1 : x1.length ≤ c1
  r2 : Kd.C Kd.string w A2 x2.length x2
  l2 : x2.length ≤ c2
  r3 : Kd.C (Kd.int .u32) w A3 x3.length x3
  l3 : x3.length ≤ c3
  r4 : Kd.C (Kd.int .u32) w A4 x4.length x4
  l4 : x4.length ≤ c4
  r5 : Kd.C k64 w A5 x5.length x5
  l5 : x5.length ≤ c5
  g3 : ∀ y ∈ x3, (Lit.int .u32 y).wf = true
  g4 : ∀ y ∈ x4, (Lit.int .u32 y).wf = true
  g5 : ∀ y ∈ x5, goodR y
def mArg (s : ByteArray) (x1 x2 : List ByteArray) (x3 x4 : List Int) (x5 : List S64) : Mod := ⟨s, x1, x2, x3.map Int.toNat, x4.map Int.toNat, x5.map rlcOf⟩
section
variable {w : World} {s : ByteArray} {A1 A2 A3 A4 A5 : Option Addr} {x1 x2 : List ByteArray} {x3 x4 : List Int} {x5 : List S64} {c1 c2 c3 c4 c5 : Nat}
theorem MArg.num (h : MArg w s A1 A2 A3 A4 A5 x1 x2 x3 x4 x5 c1 c2 c3 c4 c5) : (mArg s x1 x2 x3 x4 x5).num where
  co := fun x hx => by obtain ⟨y, hy, rfl⟩ := List.mem_map.1 hx; have := Op.r32 (h.g3 y hy); omega
  da := fun x hx => by obtain ⟨y, hy, rfl⟩ := List.mem_map.1 hx; have := Op.r32 (h.g4 y hy); omega
  re := fun x hx => by
    obtain ⟨y, hy, rfl⟩ := List.mem_map.1 hx
    obtain ⟨g1, g2, g3⟩ := h.g5 y hy
    have := Op.r8 g1; have := Op.r16 g2; have := Op.r16 g3
    exact ⟨by simp only [rlcOf]; omega, by simp only [rlcOf]; omega, by simp only [rlcOf]; omega⟩
theorem MArg.rep (h : MArg w s A1 A2 A3 A4 A5 x1 x2 x3 x4 x5 c1 c2 c3 c4 c5) (hsh : w.ShapedOpen Tryd.prog) : Rep w (Fr (heldAs w 3) w) (mArg s x1 x2 x3 x4 x5).tv (.agg #[.string s, .slice A1 x1.length c1, .slice A2 x2.length c2, .slice A3 x3.length c3, .slice A4 x4.length c4, .slice A5 x5.length c5]) := by
  rw [Mod.tv_def]
  have h1 := row_s h.r1 h.l1 hsh
  have h2 := row_s h.r2 h.l2 hsh
  have h3 := row_u h.r3 h.l3 hsh h.g3
  have h4 := row_u h.r4 h.l4 hsh h.g4
  have h5 := row_r h.r5 h.l5 hsh h.g5
  unfold Rep
  refine ⟨_, rfl, ?_⟩
  simp only [RepL]
  exact ⟨_, _, rfl, by simp only [Rep]; rfl, _, _, rfl, h1, _, _, rfl, h2, _, _, rfl, h3, _, _, rfl, h4, _, _, rfl, h5, rfl⟩
variable {s' : ByteArray} {A1' A2' A3' A4' A5' : Option Addr} {x1' x2' : List ByteArray} {x3' x4' : List Int} {x5' : List S64} {c1' c2' c3' c4' c5' : Nat}
end
end Go.Abs
/- The laws of linked modules, as rows call them. -/
namespace Go.Abs
set_option linter.unusedSimpArgs false
set_option linter.unusedVariables false
open Go.RowKit Go.Lib Go.Proofs.YtllkloneapjgjaaDoorW.PrintWords
open Go.Proofs Go.RowKit Go.Proofs.YtllkloneapjgjaaDoor Go.Proofs.YtllkloneapjgjaaDoorW.PrintWords
set_option linter.unusedVariables false
set_option maxRecDepth 8000
open Go.Proofs.YtllkloneapjgjaaDoor.P
theorem row_h {w : World} {A : Option Addr} {l : List Int} {c : Nat} (hr : Kd.C (Kd.int .u16) w A l.length l) (hc : l.length ≤ c) (hsh : w.ShapedOpen Tryd.prog) (hg : ∀ y ∈ l, (Lit.int .u16 y).wf = true) : Rep w (Fr (heldAs w 3) w) (.vs 1 ((l.map Int.toNat).map h1)) (.slice A l.length c) := by
  have h := rep_row (d := Kd.int .u16) (enc := fun x => [.int .u16 x]) (fun x => rfl) (by decide) (fun x cs h => h) hr hc (F := Fr (heldAs w 3) w) fun b off x hx hcell => fr3 hsh (off := off + 0) (hcell 0 _ rfl) (fun k y e => by cases e; exact ⟨by decide, by decide⟩)
  have e : (l.map fun x => [Value.int .u16 x].map TV.s) = (l.map Int.toNat).map h1 := by
    rw [List.map_map]
    refine List.map_congr_left fun x hx => ?_
    have := (Op.r16 (hg x hx)).1
    simp only [Function.comp_def, h1, List.map_cons, List.map_nil]
    rw [Int.toNat_of_nonneg this]
  rw [e] at h
  exact h
section
variable {w : World} {s : ByteArray} {A1 A2 A3 A4 A5 : Option Addr} {x1 x2 : List ByteArray} {x3 x4 : List Int} {x5 : List S64} {c1 c2 c3 c4 c5 : Nat}
variable (h : MArg w s A1 A2 A3 A4 A5 x1 x2 x3 x4 x5 c1 c2 c3 c4 c5) (hG : Glob w) (hsh : w.ShapedOpen Tryd.prog)
include h hG hsh
theorem lonly_calls {a : Int} (ha : 0 ≤ a ∧ a < 256) {A : Option Addr} {l : List Int} {c : Nat} (hr : Kd.C (Kd.int .u16) w A l.length l) (hc : l.length ≤ c) (hg : ∀ y ∈ l, (Lit.int .u16 y).wf = true) :
    Calls Tryd.prog 4 #[.agg #[.string s, .slice A1 x1.length c1, .slice A2 x2.length c2, .slice A3 x3.length c3, .slice A4 x4.length c4, .slice A5 x5.length c5], .int .u8 a, .slice A l.length c] w fun e w' => e = .returned (.bool true) ∧ Below w.heap.size w w' :=
  AC.law (argv := [_, _, _]) (linkOnly_c (glob_held hG) (Sub.refl _) _ h.num a.toNat (by omega) (l.map Int.toNat) (fun x hx => by obtain ⟨y, hy, rfl⟩ := List.mem_map.1 hx; have := Op.r16 (hg y hy); omega)) Tryd.func4 rfl rfl ⟨_, _, rfl, h.rep hsh, _, _, rfl, by simp only [Rep]; rw [Int.toNat_of_nonneg ha.1], _, _, rfl, row_h hr hc hsh hg, rfl⟩
theorem lmoves_calls {a : Int} (ha : 0 ≤ a ∧ a < 256) {b : Int} (hb : 0 ≤ b ∧ b < 256) :
    Calls Tryd.prog 5 #[.agg #[.string s, .slice A1 x1.length c1, .slice A2 x2.length c2, .slice A3 x3.length c3, .slice A4 x4.length c4, .slice A5 x5.length c5], .int .u8 a, .int .u8 b] w fun e w' => e = .returned (.bool true) ∧ Below w.heap.size w w' :=
  AC.law (argv := [_, _, _]) (linkMoves_c (glob_held hG) (Sub.refl _) _ h.num a.toNat b.toNat (by omega) (by omega)) Tryd.func5 rfl rfl ⟨_, _, rfl, h.rep hsh, _, _, rfl, by simp only [Rep]; rw [Int.toNat_of_nonneg ha.1], _, _, rfl, by simp only [Rep]; rw [Int.toNat_of_nonneg hb.1], rfl⟩
theorem limports_calls {A : Option Addr} {l : List Int} {c : Nat} (hr : Kd.C (Kd.int .u16) w A l.length l) (hc : l.length ≤ c) (hg : ∀ y ∈ l, (Lit.int .u16 y).wf = true) {A' : Option Addr} {l' : List Int} {c' : Nat} (hr' : Kd.C (Kd.int .u16) w A' l'.length l') (hc' : l'.length ≤ c') (hg' : ∀ y ∈ l', (Lit.int .u16 y).wf = true) :
    Calls Tryd.prog 6 #[.agg #[.string s, .slice A1 x1.length c1, .slice A2 x2.length c2, .slice A3 x3.length c3, .slice A4 x4.length c4, .slice A5 x5.length c5], .slice A l.length c, .slice A' l'.length c'] w fun e w' => e = .returned (.bool true) ∧ Below w.heap.size w w' :=
  AC.law (argv := [_, _, _]) (linkImports_c (glob_held hG) (Sub.refl _) _ h.num (l.map Int.toNat) (l'.map Int.toNat) (fun x hx => by obtain ⟨y, hy, rfl⟩ := List.mem_map.1 hx; have := Op.r16 (hg y hy); omega) (fun x hx => by obtain ⟨y, hy, rfl⟩ := List.mem_map.1 hx; have := Op.r16 (hg' y hy); omega)) Tryd.func6 rfl rfl ⟨_, _, rfl, h.rep hsh, _, _, rfl, row_h hr hc hsh hg, _, _, rfl, row_h hr' hc' hsh hg', rfl⟩
end
end Go.Abs
