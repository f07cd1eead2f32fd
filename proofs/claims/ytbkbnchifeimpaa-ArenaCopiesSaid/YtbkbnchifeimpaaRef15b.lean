
import Derived.Test.YtbkbnchifeimpaaFacts
import Derived.Test.YtbkbnchifeimpaaRef15
import Derived.KernelRfl
set_option maxRecDepth 10000
set_option maxHeartbeats 2000000
set_option pp.deepTerms false
set_option pp.deepTerms.threshold 5
set_option linter.unusedSimpArgs false
set_option linter.unusedVariables false
namespace Go.Mir
open Go.Proofs
attribute [local irreducible] mops mopsD MOper mthen mcatch MCode MCalls MInv MRound Yld Stays

def fullP (slot : Int) (t : Thing15) : Bool := decide (t.slot = slot) && !t.gone
def slotP (slot : Int) (t : Thing15) : Bool := decide (t.slot = slot)

theorem take_any {α : Type} {l : List α} {i : Nat} {a : α} (p : α → Bool) (h : l[i]? = some a) : (l.take (i + 1)).any p = ((l.take i).any p || p a) := by
  rw [List.take_add_one, h, List.any_append]; simp
theorem take_count {α : Type} {l : List α} {i : Nat} {a : α} (p : α → Bool) (h : l[i]? = some a) : (l.take (i + 1)).countP p = (l.take i).countP p + (if p a then 1 else 0) := by
  rw [List.take_add_one, h, List.countP_append]; simp

theorem in_spec (s : MSt) (w g : Nat) (size slot : Int) (T : List Thing15) (hR : RA s w g size T) :
    MCalls Try.prog 44 [.ptr w 0 0, .int .i64 slot] s fun r s' => r = .tuple [.bool (T.any (fullP slot)), .int .i64 (T.countP (slotP slot))] ∧ s' = s := by
  refine mfreeze ?_
  obtain ⟨hw, hg, hbig, hx⟩ := hR
  have hwl : w < s.h.length := (List.getElem?_eq_some_iff.1 hw).1
  have hgl : g < s.h.length := (List.getElem?_eq_some_iff.1 hg).1
  refine enter (f := 44) ?_; first | refine mseq ?_ | refine mregionL ?_ | skip
  repeat (refine runB ?_)
  refine mloop (fun m env st => ∃ (i : Nat) (J : List MObj), m = T.length - i ∧ i ≤ T.length ∧ env 15 = .int .i64 i ∧ env 14 = .int .i64 T.length ∧ env 13 = accV encT .nilsl g 4 T ∧ env 1 = .int .i64 slot ∧
      env 6 = .bool ((T.take i).any (fullP slot)) ∧ env 7 = .int .i64 ((T.take i).countP (slotP slot)) ∧ st = s.ext J) T.length
    ⟨0, [], by omega, by omega, evE, evE, evE, evE, evE, evE, (ext_nil s).symm⟩ ?_
  rintro m env st ⟨i, J, hm, hi, e15, e14, e13, e1, e6, e7, rfl⟩
  by_cases hlt : i < T.length
  · have hi' : T[i]? = some T[i] := List.getElem?_eq_getElem hlt
    have hcl : (T.take i).countP (slotP slot) ≤ i := Nat.le_trans List.countP_le_length (by simp; omega)
    have ta := take_any (fullP slot) hi'
    have tc := take_count (slotP slot) hi'
    clear hi'
    generalize (T.take i).any (fullP slot) = fb at e6 ta
    generalize (T.take i).countP (slotP slot) = fc at e7 tc hcl
    have TA := Hid.mk ta; have TC := Hid.mk tc; clear ta tc
    by_cases hh : T[i].slot = slot
    · cases fb
      · repeat (refine runB ?_)
        refine ⟨T.length - (i + 1), by omega, i + 1, _, rfl, by omega, evE, evE, evE, evE, ?_, ?_, rfl⟩
        · rw [TA.out]; simp only [fullP, hh, decide_true, Bool.true_and, Bool.false_or]; exact evE
        · rw [TC.out]; simp only [slotP, hh, decide_true, if_true]; exact evE
      · repeat (refine runB ?_)
        refine ⟨T.length - (i + 1), by omega, i + 1, _, rfl, by omega, evE, evE, evE, evE, ?_, ?_, rfl⟩
        · rw [TA.out]; simp only [Bool.true_or]; exact evE
        · rw [TC.out]; simp only [slotP, hh, decide_true, if_true]; exact evE
    · repeat (refine runB ?_)
      refine ⟨T.length - (i + 1), by omega, i + 1, _, rfl, by omega, evE, evE, evE, evE, ?_, ?_, rfl⟩
      · rw [TA.out]; simp only [fullP, hh, decide_false, Bool.false_and, Bool.or_false]; exact evE
      · rw [TC.out]; simp only [slotP, hh, decide_false, Bool.false_eq_true, if_false, Nat.add_zero]; exact evE
  · have hti : T.take i = T := List.take_of_length_le (by omega)
    rw [hti] at e6 e7
    repeat (refine runB ?_)
    refine leave ?_
    exact freeze_end (K := fun r s' => r = .tuple [.bool (T.any (fullP slot)), .int .i64 (T.countP (slotP slot))] ∧ s' = s) ⟨_, rfl⟩ rfl ⟨rfl, rfl⟩

end Go.Mir
