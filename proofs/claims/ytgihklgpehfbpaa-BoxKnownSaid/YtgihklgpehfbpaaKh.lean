/-
  What is proved here: plain lemmas on lists, for the relations of loops. Conditions: none.
-/
import Derived.Test.YtgihklgpehfbpaaKg
namespace Go.TH
theorem take_succ_getD {α : Type} {l : List α} {i : Nat} (h : i < l.length) (z : α) : l.take (i + 1) = l.take i ++ [l.getD i z] := by
  rw [List.take_succ_eq_append_getElem h]
  simp [h]
theorem all_succ {α : Type} {p : α → Prop} {l : List α} {i : Nat} (h : i < l.length) (z : α) (h1 : ∀ x ∈ l.take i, p x) (h2 : p (l.getD i z)) : ∀ x ∈ l.take (i + 1), p x := by
  rw [take_succ_getD h z]
  intro x hx
  rcases List.mem_append.1 hx with hx | hx
  · exact h1 x hx
  · simp only [List.mem_singleton] at hx; subst hx; exact h2
theorem all_len {α : Type} {p : α → Prop} {l : List α} {i : Nat} (h : l.length ≤ i) (h1 : ∀ x ∈ l.take i, p x) : ∀ x ∈ l, p x := by
  rw [List.take_of_length_le h] at h1; exact h1
theorem ex_succ {α : Type} {p : α → Prop} {l : List α} {i : Nat} (h : i < l.length) (z : α) : (∃ x ∈ l.take (i + 1), p x) ↔ (∃ x ∈ l.take i, p x) ∨ p (l.getD i z) := by
  rw [take_succ_getD h z]
  simp only [List.mem_append, List.mem_singleton]
  constructor
  · rintro ⟨x, hx | rfl, hp⟩
    · exact .inl ⟨x, hx, hp⟩
    · exact .inr hp
  · rintro (⟨x, hx, hp⟩ | hp)
    · exact ⟨x, .inl hx, hp⟩
    · exact ⟨_, .inr rfl, hp⟩
theorem ex_len {α : Type} {p : α → Prop} {l : List α} {i : Nat} (h : l.length ≤ i) : (∃ x ∈ l.take i, p x) ↔ ∃ x ∈ l, p x := by rw [List.take_of_length_le h]
theorem getD_mem {α : Type} {l : List α} {i : Nat} (h : i < l.length) (z : α) : l.getD i z ∈ l := by
  have : l.getD i z = l[i] := by simp [h]
  rw [this]; exact List.getElem_mem h
theorem not_all_getD {α : Type} {p : α → Prop} {l : List α} {i : Nat} (h : i < l.length) (z : α) (hn : ¬ p (l.getD i z)) : ¬ ∀ x ∈ l, p x := fun ha => hn (ha _ (getD_mem h z))
theorem toNat_lt {i : Int} {n : Nat} (h : i < n) (h0 : 0 ≤ i) : i.toNat < n := by omega
end Go.TH
