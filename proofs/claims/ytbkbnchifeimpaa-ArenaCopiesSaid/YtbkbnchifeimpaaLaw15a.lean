
import Derived.Test.YtbkbnchifeimpaaFacts
import Derived.KernelRfl
set_option maxRecDepth 10000
set_option maxHeartbeats 2000000
set_option pp.deepTerms false
set_option pp.deepTerms.threshold 5
set_option linter.unusedSimpArgs false
set_option linter.unusedVariables false
namespace Go.Mir
open Go.Proofs
attribute [local irreducible] mops mopsD MOper mthen mcatch MCode MCalls MInv MRound Yld Stays

theorem ints_at {l : List Int} {i : Nat} {x : Int} (h : l[i]? = some x) : (rows encInt l)[i]? = some (.int .i64 x) := by
  have := rows_at0 encInt_len h (by decide)
  rw [Nat.mul_one] at this
  exact this

theorem FS.len {α : Type} {enc : α → List MV} {s : MSt} {v : MV} {l : List α} (h : FS enc v l) : mlenOf s v = some l.length := by
  rcases h with ⟨rfl, rfl⟩ | ⟨cap, rfl⟩ | ⟨rfl, rfl⟩ <;> rfl

theorem same_spec (s : MSt) (u v : MV) (a b : List Int) (hu : FS encInt u a) (hv : FS encInt v b) (hbig : a.length < 4611686018427387904) :
    MCalls Try.prog 22 [u, v] s fun r s' => r = .bool (decide (a = b)) ∧ s' = s := by
  obtain ⟨bu, cu, rfl⟩ := hu.sV
  obtain ⟨bv, cv, rfl⟩ := hv.sV
  clear hu hv
  by_cases hl : a.length = b.length
  · refine enter (f := 22) ?_; first | refine mseq ?_ | refine mregionL ?_ | skip
    repeat (first | refine runB ?_ | refine stepsD ?_ | with_reducible refine mregionX (id := 6) [0, 0, 3, 7, 0, 0, 48, 112, 255] [⟨0, false, []⟩, ⟨1, false, []⟩, ⟨2, false, []⟩, ⟨3, false, []⟩, ⟨4, false, []⟩, ⟨5, false, []⟩, ⟨6, false, []⟩, ⟨7, false, []⟩, ⟨8, false, []⟩] (by kernel_rfl) ?_)
    have hl1 : a.length ≤ b.length ∧ b.length ≤ a.length := by omega
    clear hl
    refine mloop (fun m env st => ∃ i : Nat, m = a.length - i ∧ i ≤ a.length ∧ env 13 = .int .i64 i ∧ env 12 = .int .i64 a.length ∧ env 0 = sV encInt bu cu a ∧ env 1 = sV encInt bv cv b ∧ s = st ∧ a.take i = b.take i) a.length
      ⟨0, by omega, by omega, evE, by have : a.length = b.length := by omega
                                      (try rw [this]); exact evE, evE, evE, rfl, rfl⟩ ?_
    rintro m env st ⟨i, hm, hi, e13, e12, e0, e1, rfl, hab⟩
    have HAB := Hid.mk hab; clear hab
    by_cases hlt : i < a.length
    · have hlt2 : i < b.length := by omega
      by_cases he : a[i] = b[i]
      · repeat (first | refine runB ?_ | refine stepsD ?_ | with_reducible refine mregionX (id := 6) [0, 0, 3, 7, 0, 0, 48, 112, 255] [⟨0, false, []⟩, ⟨1, false, []⟩, ⟨2, false, []⟩, ⟨3, false, []⟩, ⟨4, false, []⟩, ⟨5, false, []⟩, ⟨6, false, []⟩, ⟨7, false, []⟩, ⟨8, false, []⟩] (by kernel_rfl) ?_)
        refine ⟨a.length - (i + 1), by omega, i + 1, rfl, by omega, evE, evE, evE, evE, rfl, ?_⟩
        rw [List.take_add_one, List.take_add_one, HAB.out, List.getElem?_eq_getElem hlt, List.getElem?_eq_getElem hlt2, he]
      · repeat (first | refine runB ?_ | refine stepsD ?_ | with_reducible refine mregionX (id := 6) [0, 0, 3, 7, 0, 0, 48, 112, 255] [⟨0, false, []⟩, ⟨1, false, []⟩, ⟨2, false, []⟩, ⟨3, false, []⟩, ⟨4, false, []⟩, ⟨5, false, []⟩, ⟨6, false, []⟩, ⟨7, false, []⟩, ⟨8, false, []⟩] (by kernel_rfl) ?_)
        refine leave ?_
        refine ⟨?_, rfl⟩
        have : a ≠ b := fun h => by subst h; exact he rfl
        simp [this]
    · repeat (first | refine runB ?_ | refine stepsD ?_ | with_reducible refine mregionX (id := 6) [0, 0, 3, 7, 0, 0, 48, 112, 255] [⟨0, false, []⟩, ⟨1, false, []⟩, ⟨2, false, []⟩, ⟨3, false, []⟩, ⟨4, false, []⟩, ⟨5, false, []⟩, ⟨6, false, []⟩, ⟨7, false, []⟩, ⟨8, false, []⟩] (by kernel_rfl) ?_)
      refine leave ?_
      refine ⟨?_, rfl⟩
      have := HAB.out
      rw [List.take_of_length_le (by omega), List.take_of_length_le (by omega)] at this
      simp [this]
  · refine enter (f := 22) ?_; first | refine mseq ?_ | refine mregionL ?_ | skip
    repeat (first | refine runB ?_ | refine stepsD ?_ | with_reducible refine mregionX (id := 6) [0, 0, 3, 7, 0, 0, 48, 112, 255] [⟨0, false, []⟩, ⟨1, false, []⟩, ⟨2, false, []⟩, ⟨3, false, []⟩, ⟨4, false, []⟩, ⟨5, false, []⟩, ⟨6, false, []⟩, ⟨7, false, []⟩, ⟨8, false, []⟩] (by kernel_rfl) ?_)
    refine leave ?_
    refine ⟨?_, rfl⟩
    have : a ≠ b := fun h => hl (by rw [h])
    simp [this]

end Go.Mir
