import Derived.Test.YtbkbnchifeimpaaFacts
import Derived.KernelRfl
set_option maxRecDepth 10000
set_option maxHeartbeats 2000000
set_option pp.deepTerms false
set_option pp.deepTerms.threshold 5
set_option linter.unusedSimpArgs false
set_option linter.unusedVariables false
namespace Go.Mir
open Go.Proofs
attribute [local irreducible] mops mopsD MOper mthen mcatch MCode MCalls MInv MRound Yld Stays

structure Thing15 where
  slot : Int
  n : Int
  x : Int
  gone : Bool
def encT (t : Thing15) : List MV := [.int .i64 t.slot, .int .i64 t.n, .int .i64 t.x, .bool t.gone]
theorem encT_len (t : Thing15) : (encT t).length = 4 := rfl
instance : EncC encT 4 := ⟨encT_len⟩
instance : FlatC encT := ⟨fun _ => rfl⟩
instance (a b c : Int) (d : Bool) : DecC encT [.int .i64 a, .int .i64 b, .int .i64 c, .bool d] ⟨a, b, c, d⟩ := ⟨rfl⟩
attribute [go_sem] encT
def lowT (T : List Thing15) : Prop := T.length < 1000000 ∧ ∀ t ∈ T, 0 ≤ t.n ∧ t.n < 1099511627776 ∧ 0 ≤ t.slot ∧ t.slot ≤ 1024

def isT (h : Int) (t : Thing15) : Bool := decide (t.n * 1024 + t.slot = h) && !t.gone
def findT (T : List Thing15) (h : Int) : Option Nat := T.findIdx? (isT h)
def findI (T : List Thing15) (h : Int) : Int := match findT T h with | some i => i | none => -1

/-- The reference's memory. -/
def RA (s : MSt) (w g : Nat) (size : Int) (T : List Thing15) : Prop := s.h[w]? = some (.blk 0 [.int .i64 size, accV encT .nilsl g 4 T]) ∧ s.h[g]? = some (accO encT T) ∧ lowT T

theorem findR_spec (s : MSt) (w g : Nat) (size : Int) (T : List Thing15) (h : Int) (hR : RA s w g size T) :
    MCalls Try.prog 19 [.ptr w 0 0, .int .i64 h] s fun r s' => r = .int .i64 (findI T h) ∧ s' = s := by
  refine mfreeze ?_
  obtain ⟨hw, hg, hbig, hx⟩ := hR
  have hwl : w < s.h.length := (List.getElem?_eq_some_iff.1 hw).1
  have hgl : g < s.h.length := (List.getElem?_eq_some_iff.1 hg).1
  refine enter (f := 19) ?_; first | refine mseq ?_ | refine mregionL ?_ | skip
  repeat (refine runB ?_)
  refine mloop (fun m env st => ∃ (i : Nat) (J : List MObj), m = T.length - i ∧ i ≤ T.length ∧ env 12 = .int .i64 i ∧ env 11 = .int .i64 T.length ∧ env 10 = accV encT .nilsl g 4 T ∧ env 1 = .int .i64 h ∧ st = s.ext J ∧ ∀ j (hj : j < T.length), j < i → isT h T[j] = false) T.length
    ⟨0, [], by omega, by omega, evE, evE, evE, evE, (ext_nil s).symm, fun j _ h => absurd h (by omega)⟩ ?_
  rintro m env st ⟨i, J, hm, hi, e12, e11, e10, e1, rfl, hf⟩
  by_cases hlt : i < T.length
  · have hx := hx T[i] (List.getElem_mem hlt)
    by_cases hh : T[i].n * 1024 + T[i].slot = h
    · cases hgo : T[i].gone
      · repeat (refine runB ?_)
        refine leave ?_
        have : findT T h = some i := by
          unfold findT
          rw [List.findIdx?_eq_some_iff_getElem]
          exact ⟨hlt, by simp [isT, hh, hgo], fun j hj => by simp [hf j (by omega) hj]⟩
        exact freeze_end (K := fun r s' => r = .int .i64 (findI T h) ∧ s' = s) ⟨_, rfl⟩ rfl ⟨by simp only [findI, this], rfl⟩
      · repeat (refine runB ?_)
        exact ⟨T.length - (i + 1), by omega, i + 1, _, rfl, by omega, evE, evE, evE, evE, rfl, fun j hj hji => by
          by_cases e : j = i
          · subst e; simp [isT, hgo]
          · exact hf j hj (by omega)⟩
    · repeat (refine runB ?_)
      exact ⟨T.length - (i + 1), by omega, i + 1, _, rfl, by omega, evE, evE, evE, evE, rfl, fun j hj hji => by
        by_cases e : j = i
        · subst e; simp [isT, hh]
        · exact hf j hj (by omega)⟩
  · repeat (refine runB ?_)
    refine leave ?_
    refine freeze_end (K := fun r s' => r = .int .i64 (findI T h) ∧ s' = s) ⟨_, rfl⟩ rfl ⟨?_, rfl⟩
    have : findT T h = none := by
      unfold findT
      rw [List.findIdx?_eq_none_iff]
      intro y hy
      obtain ⟨j, hj, rfl⟩ := List.getElem_of_mem hy
      exact hf j hj (by omega)
    simp only [findI, this]

end Go.Mir
