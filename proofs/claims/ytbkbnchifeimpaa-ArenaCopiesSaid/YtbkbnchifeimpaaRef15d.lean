import Derived.Test.YtbkbnchifeimpaaFacts
import Derived.Test.YtbkbnchifeimpaaRef15
import Derived.Test.YtbkbnchifeimpaaRef15b
import Derived.KernelRfl
set_option maxRecDepth 10000
set_option maxHeartbeats 2000000
set_option pp.deepTerms false
set_option pp.deepTerms.threshold 5
set_option linter.unusedSimpArgs false
set_option linter.unusedVariables false
namespace Go.Mir
open Go.Proofs
attribute [local irreducible] mops mopsD MOper mthen mcatch MCode MCalls MInv MRound Yld Stays

def freeT (T : List Thing15) (size : Nat) : Option Nat := (List.range size).find? fun (k : Nat) => !T.any (fullP k)
def putT (T : List Thing15) (size : Nat) (x : Int) : Option (List Thing15 × Int) := match freeT T size with
  | some k => some (T ++ [⟨k, (T.countP (slotP k) : Int) + 1, x, false⟩], ((T.countP (slotP k) : Int) + 1) * 1024 + k)
  | none => none
def putRSt (s : MSt) (w g : Nat) (size : Int) (T : List Thing15) : MSt := (s.put g (accO encT T)).put w (.blk 0 [.int .i64 size, accV encT .nilsl g 4 T])

theorem putR_spec (s : MSt) (w g : Nat) (size : Nat) (T : List Thing15) (x : Int) (hR : RA s w g size T) (hne : w ≠ g) (hsz : size ≤ 1024) (hT : T.length < 999999) :
    MCalls Try.prog 20 [.ptr w 0 0, .int .i64 x] s fun r s' => match putT T size x with
      | some (T', h) => r = .tuple [.int .i64 h, .bool true] ∧ s' = putRSt s w g size T'
      | none => r = .tuple [.int .i64 0, .bool false] ∧ s' = s := by
  have hR' := Hid.mk hR
  obtain ⟨hw, hg, hbig, hlow⟩ := hR
  have hwl : w < s.h.length := (List.getElem?_eq_some_iff.1 hw).1
  have hgl : g < s.h.length := (List.getElem?_eq_some_iff.1 hg).1
  refine enter (f := 20) ?_; first | refine mseq ?_ | refine mregionL ?_ | skip
  repeat (refine runB ?_)
  refine mloop (fun m env st => ∃ (k : Nat), m = size - k ∧ k ≤ size ∧ env 6 = .int .i64 k ∧ env 0 = .ptr w 0 0 ∧ env 1 = .int .i64 x ∧ s = st ∧ ∀ j, j < k → T.any (fullP (j : Nat)) = true) size
    ⟨0, by omega, by omega, evE, evE, evE, rfl, fun j hj => absurd hj (by omega)⟩ ?_
  rintro m env st ⟨k, hm, hk, e6, e0, e1, rfl, hf⟩
  by_cases hlt : k < size
  · repeat (refine runB ?_)
    refine MCalls.mono (in_spec s w g size k T hR'.out) ?_
    rintro r s' ⟨rfl, rfl⟩
    have hcl : T.countP (slotP k) ≤ T.length := List.countP_le_length
    have hput : T.any (fullP k) = false → putT T size x = some (T ++ [⟨k, (T.countP (slotP k) : Int) + 1, x, false⟩], ((T.countP (slotP k) : Int) + 1) * 1024 + k) := fun hfb => by
      have : freeT T size = some k := by
        unfold freeT
        rw [List.find?_range_eq_some]
        exact ⟨by simp [hfb], by simpa using hlt, fun j hj => by simp [hf j hj]⟩
      simp only [putT, this]
    cases hfb : T.any (fullP k)
    · have hput := Hid.mk (hput hfb)
      generalize T.countP (slotP k) = c at hcl hput
      clear hfb
      repeat (refine runB ?_)
      refine leave ?_
      rw [hput.out]
      exact ⟨rfl, rfl⟩
    · clear hput
      repeat (refine runB ?_)
      exact ⟨size - (k + 1), by omega, k + 1, rfl, by omega, evE, evE, evE, rfl, fun j hj => by
        by_cases e : j = k
        · subst e; exact hfb
        · exact hf j (by omega)⟩
  · repeat (refine runB ?_)
    refine leave ?_
    have hfr : freeT T size = none := by
      unfold freeT
      rw [List.find?_eq_none]
      intro j hj
      rw [List.mem_range] at hj
      simp [hf j (by omega)]
    simp only [putT, hfr]
    exact ⟨by first | rfl | trivial, by first | rfl | trivial⟩

theorem putR_RA {s : MSt} {w g : Nat} {size : Int} {T T' : List Thing15} (hR : RA s w g size T) (hne : w ≠ g) (hl : lowT T') : RA (putRSt s w g size T') w g size T' := by
  obtain ⟨hw, hg, _⟩ := hR
  have hwl : w < s.h.length := (List.getElem?_eq_some_iff.1 hw).1
  have hgl : g < s.h.length := (List.getElem?_eq_some_iff.1 hg).1
  refine ⟨?_, ?_, hl⟩
  · rw [putRSt, put_same _ _ _ (by rw [put_len]; exact hwl)]
  · rw [putRSt, put_other _ _ _ _ (Ne.symm hne), put_same _ _ _ hgl]

end Go.Mir
