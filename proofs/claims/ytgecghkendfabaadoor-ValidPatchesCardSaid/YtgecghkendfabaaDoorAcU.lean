import Derived.Test.YtgecghkendfabaaDoorAcW
/- Lists: first places, elements of rows. -/
namespace Go.Abs
set_option linter.unusedSimpArgs false
set_option linter.unusedVariables false
open Go.Proofs
set_option linter.unusedVariables false
set_option maxRecDepth 8000
variable {H : Heap}
/-- The first place of a list with some property; -1: none. -/
def fi {α : Type} (p : α → Bool) (l : List α) : Int := match l.findIdx? p with | some i => i | none => -1
theorem fi_some {α : Type} {p : α → Bool} {l : List α} {i : Nat} {x : α} (hx : l[i]? = some x) (h : p x = true) (hn : ∀ (j : Nat) (y : α), j < i → l[j]? = some y → p y = false) : fi p l = i := by
  obtain ⟨hi, rfl⟩ := List.getElem?_eq_some_iff.1 hx
  have : l.findIdx? p = some i := by
    rw [List.findIdx?_eq_some_iff_getElem]
    exact ⟨hi, h, fun j hj => by simpa using hn j _ hj (List.getElem?_eq_getElem (by omega))⟩
  simp [fi, this]
theorem fi_none {α : Type} {p : α → Bool} {l : List α} (hn : ∀ (j : Nat) (y : α), l[j]? = some y → p y = false) : fi p l = -1 := by
  have : l.findIdx? p = none := by
    rw [List.findIdx?_eq_none_iff]
    intro x hx
    obtain ⟨j, hj⟩ := List.mem_iff_getElem?.1 hx
    exact hn j x hj
  simp [fi, this]
theorem fi_end {α : Type} {p : α → Bool} {l : List α} {i : Nat} (hi : l.length ≤ i) (hn : ∀ (j : Nat) (y : α), j < i → l[j]? = some y → p y = false) : fi p l = -1 :=
  fi_none fun j y hy => hn j y (by have := (List.getElem?_eq_some_iff.1 hy).1; omega) hy
/-- Nothing ahead of place i has the property. -/
def noneB {α : Type} (p : α → Bool) (l : List α) (i : Nat) : Prop := ∀ (j : Nat) (y : α), j < i → l[j]? = some y → p y = false
theorem noneB.zero {α : Type} {p : α → Bool} {l : List α} : noneB p l 0 := fun j y hj => by omega
theorem noneB.succ {α : Type} {p : α → Bool} {l : List α} {i : Nat} {x : α} (h : noneB p l i) (hx : l[i]? = some x) (hp : p x = false) : noneB p l (i + 1) := fun j y hj hy => by
  rcases Nat.lt_or_ge j i with g | g
  · exact h j y g hy
  · obtain rfl : j = i := by omega
    rw [hx] at hy; cases hy; exact hp
theorem vget {α : Type} (enc : α → List TV) {l : List α} {i : Nat} {x : α} (h : l[i]? = some x) : (l.map enc)[i]? = some (enc x) := by rw [List.getElem?_map, h]; rfl
theorem at_ {α : Type} {l : List α} {i : Nat} (h : i < l.length) : ∃ x, l[i]? = some x := ⟨_, List.getElem?_eq_getElem h⟩
theorem w64s {i : Nat} (h : i < 9223372036854775807) : IntKind.i64.wrap ((i : Int) + 1) = ((i + 1 : Nat) : Int) := by rw [wi64 (by omega) (by omega)]; simp
theorem AC.func {P : Program} {f g : FuncId} {a : TV} {H : Heap} {C : TV → Heap → Prop} (h : AC P f [a, .clo (.func g) [] []] H C) : AC P f [a, .s (.func (.func g) #[] #[])] H C := by
  intro argv w ha hh
  refine h argv w ?_ hh
  simp only [RepL, Rep] at ha ⊢
  obtain ⟨y, ys, rfl, h1, z, zs, rfl, rfl, h3⟩ := ha
  exact ⟨y, _, rfl, h1, _, _, rfl, ⟨#[], #[], rfl, rfl, rfl⟩, h3⟩
theorem toList_inj {a c : ByteArray} : a.toList = c.toList ↔ a = c := by
  constructor
  · intro h; rw [ByteArray.toList_eq, ByteArray.toList_eq] at h
    obtain ⟨⟨x⟩⟩ := a; obtain ⟨⟨y⟩⟩ := c; simp at h; rw [h]
  · rintro rfl; rfl
theorem str_eq (a c : ByteArray) : (a.toList == c.toList) = decide (a = c) := by rw [Bool.eq_iff_iff]; simp [toList_inj]
attribute [go_sem] List.length_map
/-- Elements of rows. -/
def s1 (x : ByteArray) : List TV := [.s (.string x)]
def u1 (x : Nat) : List TV := [.s (.int .u32 x)]
theorem s1_def (x : ByteArray) : s1 x = [.s (.string x)] := rfl
theorem u1_def (x : Nat) : u1 x = [.s (.int .u32 x)] := rfl
end Go.Abs
