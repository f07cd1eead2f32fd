
import Derived.Test.YtbkbnchifeimpaaFacts
import Derived.Test.YtbkbnchifeimpaaArena
import Derived.Test.YtbkbnchifeimpaaArena2
import Derived.Test.YtbkbnchifeimpaaArena3
import Derived.Test.YtbkbnchifeimpaaArena4
import Derived.KernelRfl
set_option maxRecDepth 10000
set_option maxHeartbeats 2000000
set_option pp.deepTerms false
set_option pp.deepTerms.threshold 5
set_option linter.unusedSimpArgs false
set_option linter.unusedVariables false
namespace Go.Mir
open Go.Proofs
attribute [local irreducible] mops mopsD MOper mthen mcatch MCode MCalls MInv MRound Yld Stays

theorem find_nil (s : MSt) (h : Int) : MCalls Try.prog 42 [.nilptr, .int .i64 h] s fun r s' => r = .nilptr ∧ s' = s := by
  refine enter (f := 42) ?_; first | refine mseq ?_ | refine mregionL ?_ | skip
  repeat (refine runB ?_)
  refine leave ?_
  exact ⟨rfl, rfl⟩
theorem put_nil (s : MSt) (x : Int) : MCalls Try.prog 10 [.nilptr, .int .i64 x] s fun r s' => r = .tuple [.int .i64 0, .int .i64 1] ∧ s' = s := by
  refine enter (f := 10) ?_; first | refine mseq ?_ | refine mregionL ?_ | skip
  repeat (refine runB ?_)
  refine leave ?_
  exact ⟨rfl, rfl⟩
theorem get_nil (s : MSt) (h : Int) : MCalls Try.prog 14 [.nilptr, .int .i64 h] s fun r s' => r = .tuple [.int .i64 0, .bool false] ∧ s' = s := by
  refine enter (f := 14) ?_; first | refine mseq ?_ | refine mregionL ?_ | skip
  repeat (refine runB ?_)
  refine MCalls.mono (find_nil s h) ?_
  rintro r s' ⟨rfl, rfl⟩
  repeat (refine runB ?_)
  refine leave ?_
  exact ⟨rfl, rfl⟩
theorem set_nil (s : MSt) (h x : Int) : MCalls Try.prog 15 [.nilptr, .int .i64 h, .int .i64 x] s fun r s' => r = .bool false ∧ s' = s := by
  refine enter (f := 15) ?_; first | refine mseq ?_ | refine mregionL ?_ | skip
  repeat (refine runB ?_)
  refine MCalls.mono (find_nil s h) ?_
  rintro r s' ⟨rfl, rfl⟩
  repeat (refine runB ?_)
  refine leave ?_
  exact ⟨rfl, rfl⟩
theorem drop_nil (s : MSt) (h : Int) : MCalls Try.prog 13 [.nilptr, .int .i64 h] s fun r s' => r = .bool false ∧ s' = s := by
  refine enter (f := 13) ?_; first | refine mseq ?_ | refine mregionL ?_ | skip
  repeat (refine runB ?_)
  refine MCalls.mono (find_nil s h) ?_
  rintro r s' ⟨rfl, rfl⟩
  repeat (refine runB ?_)
  refine leave ?_
  exact ⟨rfl, rfl⟩
theorem len_nil (s : MSt) : MCalls Try.prog 16 [.nilptr] s fun r s' => r = .int .i64 0 ∧ s' = s := by
  refine enter (f := 16) ?_; first | refine mseq ?_ | refine mregionL ?_ | skip
  repeat (refine runB ?_)
  refine leave ?_
  exact ⟨rfl, rfl⟩
theorem copy_nil (s : MSt) : MCalls Try.prog 18 [.nilptr, .nilfunc] s fun r s' => r = .nilptr ∧ s' = s := by
  refine mfreeze ?_
  refine enter (f := 18) ?_; first | refine mseq ?_ | refine mregionL ?_ | skip
  repeat (first | refine runB ?_ | refine stepsD ?_ | with_reducible refine mregionX (id := 3) [0, 1, 3, 7, 15, 0, 32, 96, 224, 511, 1023, 0, 4095] [⟨0, false, []⟩, ⟨1, false, []⟩, ⟨2, false, []⟩, ⟨3, false, []⟩, ⟨5, false, []⟩, ⟨6, false, []⟩, ⟨7, false, []⟩, ⟨8, false, []⟩, ⟨4, true, [5, 6, 7, 8]⟩, ⟨9, false, []⟩, ⟨10, true, []⟩, ⟨11, true, [0, 1, 2, 3, 4, 5, 6, 7, 8, 9, 10]⟩, ⟨12, true, []⟩] (by kernel_rfl) ?_ | with_reducible refine mregionX (id := 7) [0, 1, 3, 7, 0, 16, 0, 0, 192, 511, 1023, 2047] [⟨0, false, []⟩, ⟨1, false, []⟩, ⟨2, false, []⟩, ⟨3, false, []⟩, ⟨4, false, []⟩, ⟨5, false, []⟩, ⟨6, false, []⟩, ⟨7, false, []⟩, ⟨8, true, [0, 1, 2, 3, 4, 5]⟩, ⟨9, false, []⟩, ⟨10, false, []⟩, ⟨11, true, []⟩] (by kernel_rfl) ?_)
  refine leave ?_
  exact freeze_end (K := fun r s' => r = .nilptr ∧ s' = s) ⟨_, rfl⟩ rfl ⟨rfl, rfl⟩

def allN : MV := .func (.func 41) [] [.fptr [.nilptr] 0]
theorem all_nil (s : MSt) : MCalls Try.prog 12 [.nilptr] s fun r s' => r = allN ∧ s' = s := by
  refine mfreeze ?_
  refine enter (f := 12) ?_; first | refine mseq ?_ | refine mregionL ?_ | skip
  repeat (refine runB ?_)
  refine leave ?_
  refine ⟨allN, [.blk 0 [.nilptr]], rfl, rfl, rfl, ?_, rfl, rfl⟩
  refine .func _ _ _ _ _ rfl rfl (fun j hj => absurd hj (by simp)) (fun j hj hj' => ?_)
  have : j = 0 := by simp at hj; omega
  subst this
  refine .ptrF s.h.length 0 0 [.nilptr] _ (by simp) (by simp [MSt.ext]) rfl (fun j hj hj' => ?_)
  have : j = 0 := by simp at hj; omega
  subst this
  exact .same _ 0 0 rfl (by omega)
theorem allN_seq (C : List MObj → Prop) : MSeqT Try.prog allN C [] := by
  intro y s K hI hT
  refine minv (l := [y, .fptr [.nilptr] 0]) rfl ?_
  refine enter (f := 41) ?_; first | refine mseq ?_ | refine mregionL ?_ | skip
  repeat (first | refine runB ?_ | refine stepsD ?_ | with_reducible refine mregionX (id := 5) [0, 1, 3, 7, 15, 31, 31, 31, 223, 31, 543, 1567, 3615, 8191, 16383, 32767] [⟨0, false, []⟩, ⟨1, false, []⟩, ⟨2, false, []⟩, ⟨3, false, []⟩, ⟨4, false, []⟩, ⟨5, false, []⟩, ⟨6, false, []⟩, ⟨7, false, []⟩, ⟨9, false, []⟩, ⟨10, false, []⟩, ⟨11, false, []⟩, ⟨12, false, []⟩, ⟨8, true, [5, 9, 10, 11, 12]⟩, ⟨13, true, []⟩, ⟨14, false, []⟩, ⟨15, false, []⟩] (by kernel_rfl) ?_)
  refine leave ?_
  exact hT

end Go.Mir
