
import Derived.Test.YtbkbnchifeimpaaFacts
import Derived.Test.YtbkbnchifeimpaaArena
import Derived.Test.YtbkbnchifeimpaaArena2
import Derived.Test.YtbkbnchifeimpaaArena3
import Derived.Test.YtbkbnchifeimpaaArena4
import Derived.Test.YtbkbnchifeimpaaRef15
import Derived.Test.YtbkbnchifeimpaaRef15b
import Derived.Test.YtbkbnchifeimpaaRef15c
import Derived.Test.YtbkbnchifeimpaaRef15d
import Derived.KernelRfl
set_option maxRecDepth 10000
set_option maxHeartbeats 2000000
set_option pp.deepTerms false
set_option pp.deepTerms.threshold 5
set_option linter.unusedSimpArgs false
set_option linter.unusedVariables false
namespace Go.Mir
open Go.Proofs
attribute [local irreducible] mops mopsD MOper mthen mcatch MCode MCalls MInv MRound Yld Stays

/-- The arena's slots and the reference's things tell the same. -/
structure Same15 (L : List Slot) (T : List Thing15) : Prop where
  sl : ∀ t ∈ T, ∃ k : Nat, k < L.length ∧ t.slot = k
  cn : ∀ (k : Nat) (s : Slot), L[k]? = some s → s.n = T.countP (slotP k)
  fl : ∀ (k : Nat) (s : Slot), L[k]? = some s → T.filter (fullP k) = if s.full then [⟨k, s.n, s.x, false⟩] else []

theorem same_new (k : Nat) : Same15 (newA k) [] := by
  refine ⟨fun t h => by simp at h, fun j s h => ?_, fun j s h => ?_⟩
  · have := List.mem_of_getElem? h
    simp only [newA, List.mem_replicate] at this
    rw [this.2]; rfl
  · have := List.mem_of_getElem? h
    simp only [newA, List.mem_replicate] at this
    rw [this.2]; rfl

theorem any_filter {α : Type} (p : α → Bool) : ∀ l : List α, l.any p = !(l.filter p).isEmpty
  | [] => rfl
  | a :: l => by
    rw [List.any_cons, List.filter_cons, any_filter p l]
    cases p a <;> simp

theorem same_any {L T} (h : Same15 L T) {k : Nat} {s : Slot} (hk : L[k]? = some s) : T.any (fullP k) = s.full := by
  rw [any_filter, h.fl k s hk]
  cases s.full <;> rfl

theorem same_all {L T} (h : Same15 L T) : ∀ k, k ≤ L.length → allT T k = allA 0 (L.take k) := by
  have key : ∀ (M : List Slot) (i : Nat) (s : Slot), allA i (M ++ [s]) = allA i M ++ (if s.full then [(s.n * 1024 + ((i + M.length : Nat) : Int), s.x)] else []) := by
    intro M
    induction M with
    | nil => intro i s; cases hs : s.full <;> simp [allA, hs]
    | cons x M ih =>
      intro i s
      simp only [List.cons_append, allA]
      have e : i + 1 + M.length = i + (M.length + 1) := by omega
      cases x.full <;> simp only [Bool.false_eq_true, if_false, if_true, ih, List.length_cons, e, List.cons_append]
  intro k
  induction k with
  | zero => intro _; rfl
  | succ k ih =>
    intro hk
    have hk' : L[k]? = some L[k] := List.getElem?_eq_getElem (by omega)
    rw [allT, ih (by omega), List.take_add_one, hk', Option.toList_some, key, rowT, h.fl k _ hk']
    congr 1
    cases hs : L[k].full
    · rfl
    · simp [pairT]; omega

theorem same_all' {L T} (h : Same15 L T) : allT T L.length = allA 0 L := by rw [same_all h _ (Nat.le_refl _), List.take_length]

theorem allA_len (L : List Slot) : ∀ i, (allA i L).length = L.countP (·.full) := by
  induction L with
  | nil => intro i; rfl
  | cons s L ih => intro i; rw [allA, List.countP_cons]; cases hs : s.full <;> simp [ih]

end Go.Mir
