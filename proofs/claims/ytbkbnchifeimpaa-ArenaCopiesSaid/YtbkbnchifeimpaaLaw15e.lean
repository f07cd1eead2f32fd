
import Derived.Test.YtbkbnchifeimpaaFacts
import Derived.Test.YtbkbnchifeimpaaArena
import Derived.Test.YtbkbnchifeimpaaArena2
import Derived.Test.YtbkbnchifeimpaaArena3
import Derived.Test.YtbkbnchifeimpaaArena4
import Derived.Test.YtbkbnchifeimpaaRef15
import Derived.Test.YtbkbnchifeimpaaRef15b
import Derived.Test.YtbkbnchifeimpaaRef15c
import Derived.Test.YtbkbnchifeimpaaRef15d
import Derived.Test.YtbkbnchifeimpaaLaw15d
import Derived.KernelRfl
set_option maxRecDepth 10000
set_option maxHeartbeats 2000000
set_option pp.deepTerms false
set_option pp.deepTerms.threshold 5
set_option linter.unusedSimpArgs false
set_option linter.unusedVariables false
namespace Go.Mir
open Go.Proofs
attribute [local irreducible] mops mopsD MOper mthen mcatch MCode MCalls MInv MRound Yld Stays

theorem same_free {L T} (h : Same15 L T) : freeT T L.length = L.findIdx? (fun s => !s.full) := by
  cases hf : L.findIdx? (fun s => !s.full) with
  | none =>
    unfold freeT
    rw [List.find?_eq_none]
    intro j hj
    rw [List.mem_range] at hj
    have hk : L[j]? = some L[j] := List.getElem?_eq_getElem hj
    rw [List.findIdx?_eq_none_iff] at hf
    have := hf L[j] (List.getElem_mem hj)
    rw [same_any h hk]
    simpa using this
  | some k =>
    rw [List.findIdx?_eq_some_iff_getElem] at hf
    obtain ⟨hlt, hp, hmin⟩ := hf
    unfold freeT
    rw [List.find?_range_eq_some]
    refine ⟨by rw [same_any h (List.getElem?_eq_getElem hlt)]; exact hp, by simpa using hlt, fun j hj => ?_⟩
    rw [same_any h (List.getElem?_eq_getElem (by omega))]
    simpa using hmin j hj

theorem same_put {L T} (h : Same15 L T) (x : Int) : match putA L x with
    | some (L', g) => ∃ T', putT T L.length x = some (T', g) ∧ Same15 L' T' ∧ L'.length = L.length ∧ T'.length = T.length + 1
    | none => putT T L.length x = none := by
  unfold putA putT
  rw [same_free h]
  cases hf : L.findIdx? (fun s => !s.full) with
  | none => rfl
  | some k =>
    rw [List.findIdx?_eq_some_iff_getElem] at hf
    obtain ⟨hlt, hp, hmin⟩ := hf
    have hk : L[k]? = some L[k] := List.getElem?_eq_getElem hlt
    have hc := h.cn k _ hk
    have hfl := h.fl k _ hk
    simp only [hk]
    generalize L[k] = s at hk hc hfl hp
    obtain ⟨y, full, n⟩ := s
    simp only [Bool.not_eq_true'] at hp hc hfl ⊢
    subst hp
    refine ⟨_, by rw [hc], ?_, by simp, by simp⟩
    refine ⟨fun t ht => ?_, fun j s hj => ?_, fun j s hj => ?_⟩
    · rcases List.mem_append.1 ht with ht | ht
      · obtain ⟨i, hi, e⟩ := h.sl t ht
        exact ⟨i, by simpa using hi, e⟩
      · simp only [List.mem_singleton] at ht; subst ht
        exact ⟨k, by simpa using hlt, rfl⟩
    · rw [List.countP_append]
      by_cases e : j = k
      · subst e
        rw [List.getElem?_set_self hlt] at hj
        simp only [Option.some.injEq] at hj; subst hj
        simp only [slotP, List.countP_cons, List.countP_nil, decide_true, if_true]
        rw [hc]; rfl
      · rw [List.getElem?_set_ne (Ne.symm e)] at hj
        have hne : ¬ ((k : Int) = j) := by omega
        rw [h.cn j s hj]
        simp [slotP, hne]
    · rw [List.filter_append]
      by_cases e : j = k
      · subst e
        rw [List.getElem?_set_self hlt] at hj
        simp only [Option.some.injEq] at hj; subst hj
        rw [hfl]
        simp [fullP, hc]
      · rw [List.getElem?_set_ne (Ne.symm e)] at hj
        have hne : ¬ ((k : Int) = j) := by omega
        rw [h.fl j s hj]
        simp [fullP, hne]

theorem same_find {L T} (h : Same15 L T) (hL : L.length ≤ 1024) (g : Int) : match findA L g with
    | some k => ∃ i s, findT T g = some i ∧ L[k]? = some s ∧ s.full = true ∧ T[i]? = some ⟨k, s.n, s.x, false⟩
    | none => findT T g = none := by
  have hfind : ∀ i, findT T g = some i → ∃ (k : Nat) (s : Slot), L[k]? = some s ∧ s.full = true ∧ T[i]? = some ⟨k, s.n, s.x, false⟩ ∧ s.n * 1024 + k = g ∧ 1 ≤ s.n := by
    intro i hi
    unfold findT at hi
    rw [List.findIdx?_eq_some_iff_getElem] at hi
    obtain ⟨hlt, hp, _⟩ := hi
    simp only [isT, Bool.and_eq_true, decide_eq_true_eq, Bool.not_eq_true'] at hp
    obtain ⟨k, hk, hs⟩ := h.sl T[i] (List.getElem_mem hlt)
    have hks : L[k]? = some L[k] := List.getElem?_eq_getElem hk
    have hm : T[i] ∈ T.filter (fullP k) := List.mem_filter.2 ⟨List.getElem_mem hlt, by simp [fullP, hs, hp.2]⟩
    rw [h.fl k _ hks] at hm
    have hc : 0 < T.countP (slotP k) := List.countP_pos_iff.2 ⟨T[i], List.getElem_mem hlt, by simp [slotP, hs]⟩
    cases hf : L[k].full with
    | false => rw [hf] at hm; simp at hm
    | true =>
      rw [hf] at hm
      simp only [if_true, List.mem_singleton] at hm
      refine ⟨k, L[k], hks, hf, by rw [List.getElem?_eq_getElem hlt, hm], ?_, ?_⟩
      · have := hp.1; rw [hm] at this; exact this
      · rw [h.cn k _ hks]; omega
  cases hA : findA L g with
  | some k =>
    obtain ⟨s, hs, hfull, hg, hk, hg2⟩ := findA_some hA
    have hm : (⟨k, s.n, s.x, false⟩ : Thing15) ∈ T.filter (fullP k) := by rw [h.fl k s hs, hfull]; simp
    obtain ⟨hm1, hm2⟩ := List.mem_filter.1 hm
    cases hT : findT T g with
    | none =>
      unfold findT at hT
      rw [List.findIdx?_eq_none_iff] at hT
      have := hT _ hm1
      simp [isT, hg] at this
    | some i =>
      obtain ⟨k', s', h1, h2, h3, h4, h5⟩ := hfind i hT
      have hk1 : k' < L.length := (List.getElem?_eq_some_iff.1 h1).1
      have hkk : k' = k := by omega
      subst hkk
      rw [hs] at h1
      simp only [Option.some.injEq] at h1; subst h1
      exact ⟨i, s, rfl, hs, h2, h3⟩
  | none =>
    cases hT : findT T g with
    | none => rfl
    | some i =>
      obtain ⟨k, s, h1, h2, h3, h4, h5⟩ := hfind i hT
      have hk1 : k < L.length := (List.getElem?_eq_some_iff.1 h1).1
      have : findA L g = some k := by
        unfold findA
        have e1 : ¬ g < 1024 := by omega
        have e2 : g % 1024 = k := by omega
        rw [if_neg e1, e2, Int.toNat_natCast, h1]
        simp only
        rw [if_pos ⟨h2, h4⟩]
      rw [hA] at this; cases this

end Go.Mir
