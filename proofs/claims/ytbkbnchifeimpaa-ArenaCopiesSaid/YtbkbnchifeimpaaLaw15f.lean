
import Derived.Test.YtbkbnchifeimpaaFacts
import Derived.Test.YtbkbnchifeimpaaArena
import Derived.Test.YtbkbnchifeimpaaArena2
import Derived.Test.YtbkbnchifeimpaaArena3
import Derived.Test.YtbkbnchifeimpaaArena4
import Derived.Test.YtbkbnchifeimpaaRef15
import Derived.Test.YtbkbnchifeimpaaRef15b
import Derived.Test.YtbkbnchifeimpaaRef15c
import Derived.Test.YtbkbnchifeimpaaRef15d
import Derived.Test.YtbkbnchifeimpaaLaw15d
import Derived.Test.YtbkbnchifeimpaaLaw15e
import Derived.KernelRfl
set_option maxRecDepth 10000
set_option maxHeartbeats 2000000
set_option pp.deepTerms false
set_option pp.deepTerms.threshold 5
set_option linter.unusedSimpArgs false
set_option linter.unusedVariables false
namespace Go.Mir
open Go.Proofs
attribute [local irreducible] mops mopsD MOper mthen mcatch MCode MCalls MInv MRound Yld Stays

theorem split_at {α : Type} {l : List α} {i : Nat} {a : α} (h : l[i]? = some a) (b : α) : ∃ A B, l = A ++ a :: B ∧ l.set i b = A ++ b :: B := by
  obtain ⟨hi, rfl⟩ := List.getElem?_eq_some_iff.1 h
  refine ⟨l.take i, l.drop (i + 1), ?_, ?_⟩
  · rw [← List.drop_eq_getElem_cons hi, List.take_append_drop]
  · rw [List.set_eq_take_append_cons_drop, if_pos hi]

theorem same_upd {L T} (h : Same15 L T) {k i : Nat} {s s' : Slot} {t' : Thing15} (hk : L[k]? = some s) (hf : s.full = true) (hi : T[i]? = some ⟨k, s.n, s.x, false⟩)
    (hn : s'.n = s.n) (ht : t'.slot = k) (hfl : (if fullP k t' then [t'] else []) = (if s'.full then [(⟨k, s'.n, s'.x, false⟩ : Thing15)] else [])) : Same15 (L.set k s') (T.set i t') := by
  have hlt : k < L.length := (List.getElem?_eq_some_iff.1 hk).1
  obtain ⟨A, B, e1, e2⟩ := split_at hi t'
  have h1 : fullP k (⟨k, s.n, s.x, false⟩ : Thing15) = true := by simp [fullP]
  have hfk := h.fl k s hk
  rw [hf, if_pos rfl, e1, List.filter_append, List.filter_cons, h1, if_pos rfl] at hfk
  have hA : A.filter (fullP k) = [] := by
    have := congrArg List.length hfk
    simp only [List.length_append, List.length_cons, List.length_nil] at this
    exact List.length_eq_zero_iff.1 (by omega)
  have hB : B.filter (fullP k) = [] := by
    have := congrArg List.length hfk
    simp only [List.length_append, List.length_cons, List.length_nil] at this
    exact List.length_eq_zero_iff.1 (by omega)
  refine ⟨fun t hm => ?_, fun j u hj => ?_, fun j u hj => ?_⟩
  · rw [e2] at hm
    rw [List.length_set]
    rcases List.mem_append.1 hm with hm | hm
    · exact h.sl t (by rw [e1]; exact List.mem_append_left _ hm)
    · rcases List.mem_cons.1 hm with rfl | hm
      · exact ⟨k, hlt, ht⟩
      · exact h.sl t (by rw [e1]; exact List.mem_append_right _ (List.mem_cons_of_mem _ hm))
  · have hc : ∀ j : Nat, (T.set i t').countP (slotP j) = T.countP (slotP j) := fun j => by
      have h2 : slotP j t' = slotP j (⟨k, s.n, s.x, false⟩ : Thing15) := by simp [slotP, ht]
      rw [e2, e1, List.countP_append, List.countP_append, List.countP_cons, List.countP_cons, h2]
    rw [hc]
    by_cases e : j = k
    · subst e
      rw [List.getElem?_set_self hlt] at hj
      simp only [Option.some.injEq] at hj; subst hj
      rw [hn]; exact h.cn j s hk
    · rw [List.getElem?_set_ne (Ne.symm e)] at hj
      exact h.cn j u hj
  · by_cases e : j = k
    · subst e
      rw [List.getElem?_set_self hlt] at hj
      simp only [Option.some.injEq] at hj; subst hj
      rw [e2, List.filter_append, List.filter_cons, hA, hB, ← hfl, List.nil_append]
    · rw [List.getElem?_set_ne (Ne.symm e)] at hj
      rw [← h.fl j u hj, e2, e1, List.filter_append, List.filter_append, List.filter_cons, List.filter_cons]
      have hne : ¬ ((k : Int) = j) := by omega
      simp [fullP, ht, hne]

theorem same_set {L T} (h : Same15 L T) {k i : Nat} {s : Slot} (hk : L[k]? = some s) (hf : s.full = true) (hi : T[i]? = some ⟨k, s.n, s.x, false⟩) (x : Int) : Same15 (L.set k { s with x := x }) (T.set i ⟨k, s.n, x, false⟩) :=
  same_upd h hk hf hi rfl rfl (by simp [fullP, hf])
theorem same_drop {L T} (h : Same15 L T) {k i : Nat} {s : Slot} (hk : L[k]? = some s) (hf : s.full = true) (hi : T[i]? = some ⟨k, s.n, s.x, false⟩) : Same15 (L.set k ⟨0, false, s.n⟩) (T.set i ⟨k, s.n, s.x, true⟩) :=
  same_upd h hk hf hi rfl rfl (by simp [fullP])

/-- Numbers stay small. -/
theorem same_low {L T} (h : Same15 L T) (hL : L.length ≤ 1024) (hT : T.length < 1000000) : low L := by
  intro x hx
  obtain ⟨k, hk, rfl⟩ := List.getElem_of_mem hx
  have := h.cn k _ (List.getElem?_eq_getElem hk)
  have hc : T.countP (slotP k) ≤ T.length := List.countP_le_length
  omega

end Go.Mir
