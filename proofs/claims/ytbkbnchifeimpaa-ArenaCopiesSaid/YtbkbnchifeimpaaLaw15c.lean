
import Derived.Test.YtbkbnchifeimpaaFacts
import Derived.Test.YtbkbnchifeimpaaArena
import Derived.Test.YtbkbnchifeimpaaArena2
import Derived.Test.YtbkbnchifeimpaaArena3
import Derived.Test.YtbkbnchifeimpaaArena4
import Derived.KernelRfl
set_option maxRecDepth 10000
set_option maxHeartbeats 2000000
set_option pp.deepTerms false
set_option pp.deepTerms.threshold 5
set_option linter.unusedSimpArgs false
set_option linter.unusedVariables false
namespace Go.Mir
open Go.Proofs
attribute [local irreducible] mops mopsD MOper mthen mcatch MCode MCalls MInv MRound Yld Stays

theorem Grew.putSt {s st : MSt} {a : Nat} {l : Loc} {L : List Slot} (h : Grew s st) (ha : s.h.length ≤ a) (hl : s.h.length ≤ l.b) : Grew s (putSt st a l L) := (h.put hl _).put ha _

theorem lives15_spec (s : MSt) : MCalls Try.prog 9 [] s fun r s' => r = .bool true ∧ s' = s := by
  refine mfreeze ?_
  refine enter (f := 9) ?_; first | refine mseq ?_ | refine mregionL ?_ | skip
  repeat (refine runB ?_)
  refine MCalls.mono (new_spec s 1) ?_
  rintro r s1 h1
  rw [if_neg (by decide)] at h1
  obtain ⟨rfl, rfl⟩ := h1
  have A0 := newA_AM s 1 (by decide)
  have G0 : Grew s (s.ext [.blk 0 (rows encSlot (newA 1)), .blk 0 [.msl s.h.length 0 3 0 1 (some 1), .int .i64 0]]) := ⟨_, rfl⟩
  simp only [Int.toNat_one]
  generalize hs0 : s.ext [.blk 0 (rows encSlot (newA 1)), .blk 0 [.msl s.h.length 0 3 0 1 (some 1), .int .i64 0]] = s0 at A0 G0
  repeat (refine runB ?_)
  refine MCalls.mono (put_spec s0 (s.h.length + 1) ⟨s.h.length, 0, some⟩ (newA 1) 5 A0) ?_
  rintro r s1 h1
  have e1 : putA (newA 1) 5 = some ([⟨5, true, 1⟩], 1024) := by rfl
  rw [e1] at h1
  obtain ⟨rfl, rfl⟩ := h1
  have A1 := putSt_AM (L' := [⟨5, true, 1⟩]) A0 rfl (by intro x hx; simp only [List.mem_singleton] at hx; subst hx; decide)
  have G1 : Grew s (putSt s0 (s.h.length + 1) ⟨s.h.length, 0, some⟩ [⟨5, true, 1⟩]) := G0.putSt (by omega) (Nat.le_refl _)
  generalize hs1 : putSt s0 (s.h.length + 1) ⟨s.h.length, 0, some⟩ [⟨5, true, 1⟩] = s1 at A1 G1
  repeat (refine runB ?_)
  refine MCalls.mono (drop_spec s1 (s.h.length + 1) ⟨s.h.length, 0, some⟩ [⟨5, true, 1⟩] 1024 A1) ?_
  rintro r s2 h1
  have e2 : findA [⟨5, true, 1⟩] 1024 = some 0 := by rfl
  have e3 : dropA [⟨5, true, 1⟩] 1024 = [⟨0, false, 1⟩] := by rfl
  rw [e2, e3] at h1
  simp only [Option.isSome_some, if_true] at h1
  obtain ⟨rfl, rfl⟩ := h1
  have A2 := putSt_AM (L' := [⟨0, false, 1⟩]) A1 rfl (by intro x hx; simp only [List.mem_singleton] at hx; subst hx; decide)
  have G2 : Grew s (putSt s1 (s.h.length + 1) ⟨s.h.length, 0, some⟩ [⟨0, false, 1⟩]) := G1.putSt (by omega) (Nat.le_refl _)
  generalize hs2 : putSt s1 (s.h.length + 1) ⟨s.h.length, 0, some⟩ [⟨0, false, 1⟩] = s2 at A2 G2
  repeat (refine runB ?_)
  refine MCalls.mono (put_spec s2 (s.h.length + 1) ⟨s.h.length, 0, some⟩ [⟨0, false, 1⟩] 6 A2) ?_
  rintro r s3 h1
  have e4 : putA [⟨0, false, 1⟩] 6 = some ([⟨6, true, 2⟩], 2048) := by rfl
  rw [e4] at h1
  obtain ⟨rfl, rfl⟩ := h1
  have A3 := putSt_AM (L' := [⟨6, true, 2⟩]) A2 rfl (by intro x hx; simp only [List.mem_singleton] at hx; subst hx; decide)
  have G3 : Grew s (putSt s2 (s.h.length + 1) ⟨s.h.length, 0, some⟩ [⟨6, true, 2⟩]) := G2.putSt (by omega) (Nat.le_refl _)
  generalize hs3 : putSt s2 (s.h.length + 1) ⟨s.h.length, 0, some⟩ [⟨6, true, 2⟩] = s3 at A3 G3
  repeat (refine runB ?_)
  refine MCalls.mono (get_spec s3 (s.h.length + 1) ⟨s.h.length, 0, some⟩ [⟨6, true, 2⟩] 1024 A3) ?_
  rintro r s4 h1
  have e5 : findA [⟨6, true, 2⟩] 1024 = none := by rfl
  rw [e5] at h1
  obtain ⟨rfl, rfl⟩ := h1
  simp only [Option.bind_none]
  repeat (refine runB ?_)
  refine leave ?_
  exact freeze_end (K := fun r _ => r = .bool true ∧ True) G3 rfl ⟨rfl, trivial⟩

end Go.Mir
