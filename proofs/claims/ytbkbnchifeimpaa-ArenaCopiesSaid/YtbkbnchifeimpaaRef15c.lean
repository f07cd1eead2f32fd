import Derived.Test.YtbkbnchifeimpaaFacts
import Derived.Test.YtbkbnchifeimpaaRef15
import Derived.Test.YtbkbnchifeimpaaRef15b
import Derived.Test.YtbkbnchifeimpaaLaw15b
import Derived.KernelRfl
set_option maxRecDepth 10000
set_option maxHeartbeats 2000000
set_option pp.deepTerms false
set_option pp.deepTerms.threshold 5
set_option linter.unusedSimpArgs false
set_option linter.unusedVariables false
namespace Go.Mir
open Go.Proofs
attribute [local irreducible] mops mopsD MOper mthen mcatch MCode MCalls MInv MRound Yld Stays

def pairT (t : Thing15) : Int × Int := (t.n * 1024 + t.slot, t.x)
def rowT (T : List Thing15) (k : Nat) : List (Int × Int) := (T.filter (fullP k)).map pairT
def allT (T : List Thing15) : Nat → List (Int × Int)
  | 0 => []
  | k + 1 => allT T k ++ rowT T k
def e0 : MV := .fsl [] 0 (some 0)
instance : Acc0 e0 := ⟨.inr rfl⟩
/-- Two rows that are put together, and what else was laid. -/
def twoSt (s : MSt) (A B : List Int) (J : List MObj) : MSt := s.ext (accO encInt A :: accO encInt B :: J)

theorem take_filter {α : Type} {l : List α} {i : Nat} {a : α} (p : α → Bool) (h : l[i]? = some a) : (l.take (i + 1)).filter p = (l.take i).filter p ++ (if p a then [a] else []) := by
  rw [List.take_add_one, h, List.filter_append]; simp [List.filter_cons]

theorem allR_spec (s : MSt) (w g : Nat) (size : Nat) (T : List Thing15) (hR : RA s w g size T) (hsz : size ≤ 1024) :
    MCalls Try.prog 21 [.ptr w 0 0] s fun r s' => r = .tuple [fsV encInt e0 ((allT T size).map (·.1)), fsV encInt e0 ((allT T size).map (·.2))] ∧ s' = s := by
  refine mfreeze ?_
  obtain ⟨hw, hg, hbig, hx⟩ := hR
  have hwl : w < s.h.length := (List.getElem?_eq_some_iff.1 hw).1
  have hgl : g < s.h.length := (List.getElem?_eq_some_iff.1 hg).1
  refine enter (f := 21) ?_; first | refine mseq ?_ | refine mregionL ?_ | skip
  refine mghosts [accO encInt [], accO encInt []] ?_
  repeat (refine runB ?_)
  refine mloop (fun m env st => ∃ (k : Nat) (A B : List Int) (J : List MObj), m = size - k ∧ k ≤ size ∧ env 6 = .int .i64 k ∧ env 0 = .ptr w 0 0 ∧ env 4 = accV encInt e0 s.h.length 1 A ∧ env 5 = accV encInt e0 (s.h.length + 1) 1 B ∧ st = twoSt s A B J ∧
      A = (allT T k).map (·.1) ∧ B = (allT T k).map (·.2) ∧ (allT T k).length ≤ k * 1000000) size
    ⟨0, [], [], [], by omega, by omega, evE, evE, evE, evE, rfl, rfl, rfl, by simp [allT]⟩ ?_
  rintro m env st ⟨k, A, B, J, hm, hk, e6, e0, e4, e5, rfl, hA, hB, hl⟩
  by_cases hlt : k < size
  · have HA := Hid.mk hA; have HB := Hid.mk hB; clear hA hB
    unfold twoSt
    repeat (refine runB ?_)
    refine mloop (fun m env st => ∃ (i : Nat) (A B : List Int) (J : List MObj), m = T.length - i ∧ i ≤ T.length ∧ env 24 = .int .i64 i ∧ env 23 = .int .i64 T.length ∧ env 22 = accV encT .nilsl g 4 T ∧ env 6 = .int .i64 k ∧ env 0 = .ptr w 0 0 ∧ env 4 = accV encInt Mir.e0 s.h.length 1 A ∧ env 5 = accV encInt Mir.e0 (s.h.length + 1) 1 B ∧
        st = twoSt s A B J ∧ A = (allT T k ++ ((T.take i).filter (fullP k)).map pairT).map (·.1) ∧ B = (allT T k ++ ((T.take i).filter (fullP k)).map pairT).map (·.2) ∧ (allT T k ++ ((T.take i).filter (fullP k)).map pairT).length ≤ k * 1000000 + i) T.length
      ⟨0, A, B, J, by omega, by omega, evE, evE, evE, evE, evE, evE, evE, rfl, by simpa using HA.out, by simpa using HB.out, by simpa using hl⟩ ?_
    clear HA HB hl e6 e0 e4 e5 A B J
    rintro m env st ⟨i, A, B, J, hm, hi, e24, e23, e22, e6, e0, e4, e5, rfl, hA, hB, hl⟩
    by_cases hil : i < T.length
    · have hx := hx T[i] (List.getElem_mem hil)
      have tf := take_filter (fullP k) (List.getElem?_eq_getElem hil)
      have lA : A.length ≤ k * 1000000 + i := by rw [hA, List.length_map]; exact hl
      have lB : B.length ≤ k * 1000000 + i := by rw [hB, List.length_map]; exact hl
      have HA := Hid.mk hA; have HB := Hid.mk hB; have HT := Hid.mk tf; clear hA hB tf
      unfold twoSt
      by_cases hh : T[i].slot = k
      · cases hgo : T[i].gone
        · repeat (refine runB ?_)
          refine ⟨T.length - (i + 1), by omega, i + 1, _, _, _, rfl, by omega, evE, evE, evE, evE, evE, evE, evE, rfl, ?_, ?_, ?_⟩
          · rw [HT.out, HA.out]; simp [fullP, hh, hgo, pairT]
          · rw [HT.out, HB.out]; simp [fullP, hh, hgo, pairT]
          · rw [HT.out]; simp only [List.length_append, List.length_map, fullP, hh, hgo, decide_true, Bool.not_false, Bool.and_self, if_true, List.length_singleton] at hl ⊢; omega
        · repeat (refine runB ?_)
          refine ⟨T.length - (i + 1), by omega, i + 1, A, B, _, rfl, by omega, evE, evE, evE, evE, evE, evE, evE, rfl, ?_, ?_, ?_⟩
          · rw [HT.out, HA.out]; simp [fullP, hgo]
          · rw [HT.out, HB.out]; simp [fullP, hgo]
          · rw [HT.out]; simp only [fullP, hgo, Bool.not_true, Bool.and_false, Bool.false_eq_true, if_false, List.append_nil]; omega
      · repeat (refine runB ?_)
        refine ⟨T.length - (i + 1), by omega, i + 1, A, B, _, rfl, by omega, evE, evE, evE, evE, evE, evE, evE, rfl, ?_, ?_, ?_⟩
        · rw [HT.out, HA.out]; simp [fullP, hh]
        · rw [HT.out, HB.out]; simp [fullP, hh]
        · rw [HT.out]; simp only [fullP, hh, decide_false, Bool.false_and, Bool.false_eq_true, if_false, List.append_nil]; omega
    · have hti : T.take i = T := List.take_of_length_le (by omega)
      rw [hti] at hA hB hl
      have HA := Hid.mk hA; have HB := Hid.mk hB; clear hA hB hti
      unfold twoSt
      repeat (refine runB ?_)
      exact ⟨size - (k + 1), by omega, k + 1, A, B, J, rfl, by omega, evE, evE, evE, evE, rfl, HA.out, HB.out, by simp only [allT, rowT]; omega⟩
  · have hks : k = size := by omega
    subst hks
    have HA := Hid.mk hA; have HB := Hid.mk hB; clear hA hB
    unfold twoSt
    repeat (refine runB ?_)
    refine leave ?_
    rw [← HA.out, ← HB.out]
    exact ⟨.tuple [fsV encInt Mir.e0 A, fsV encInt Mir.e0 B], _, rfl, rfl, rfl, .tuple _ _ rfl fun j hj hj' => by
      match j, hj with
      | 0, _ => exact acc_pk (by simp [MSt.ext]) (by omega) (by intro a x hx; simp only [encInt, List.mem_singleton] at hx; subst hx; rfl)
      | 1, _ => exact acc_pk (by simp [MSt.ext]) (by omega) (by intro a x hx; simp only [encInt, List.mem_singleton] at hx; subst hx; rfl), rfl, rfl⟩

end Go.Mir
