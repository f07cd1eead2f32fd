import Derived.Test.YtbkbnchifeimpaaFacts
import Derived.Test.YtbkbnchifeimpaaLaw15a
import Derived.KernelRfl
set_option maxRecDepth 10000
set_option maxHeartbeats 2000000
set_option pp.deepTerms false
set_option pp.deepTerms.threshold 5
set_option linter.unusedSimpArgs false
set_option linter.unusedVariables false
namespace Go.Mir
open Go.Proofs
attribute [local irreducible] mops mopsD MOper mthen mcatch MCode MCalls MInv MRound Yld Stays

def word2 (C : List MObj → Prop) (p : Int × Int) : Word := ⟨[.int .i64 p.1, .int .i64 p.2], id, C⟩


def all15St (s : MSt) (T1 T2 : List Int) : MSt := s.ext [accO encInt T1, accO encInt T2, .blk 0 [accV encInt .nilsl s.h.length 1 T1], .blk 0 [accV encInt .nilsl (s.h.length + 1) 1 T2]]

theorem all15_spec (s : MSt) (f : FuncId) (fn : Func) (Nf : Nat) (first cap : List MV) (ps : List (Int × Int)) (C : List MObj → Prop) (hf : FnOK Try.prog f fn Nf) (hseq : MSeqT Try.prog (.func (.func f) first cap) C (ps.map (word2 C)))
    (hC : ∀ st, Grew s st → C st.h) (hbig : ps.length < 1000000) :
    MCalls Try.prog 17 [.func (.func f) first cap] s fun r s' => ∃ v1 v2, r = .tuple [v1, v2] ∧ FS encInt v1 (ps.map (·.1)) ∧ FS encInt v2 (ps.map (·.2)) ∧ s' = s := by
  refine mfreeze ?_
  refine enter (f := 17) ?_; first | refine mseq ?_ | refine mregionL ?_ | skip
  refine mghosts [accO encInt [], accO encInt []] ?_
  repeat (first | refine runB ?_ | refine stepsD ?_ | with_reducible refine mregionX (id := 5) [0, 0, 2, 7, 0, 0, 32, 127, 255, 511] [⟨0, false, []⟩, ⟨1, false, []⟩, ⟨2, false, []⟩, ⟨4, false, []⟩, ⟨5, false, []⟩, ⟨6, false, []⟩, ⟨3, true, [4, 5, 6]⟩, ⟨7, true, []⟩, ⟨8, true, []⟩, ⟨9, true, []⟩] (by kernel_rfl) ?_ | with_reducible refine mregionX (id := 6) [0, 0, 1, 7] [⟨0, false, []⟩, ⟨1, false, []⟩, ⟨2, false, []⟩, ⟨3, false, []⟩] (by kernel_rfl) ?_)
  refine mrangeT hf evE hseq (hC _ ⟨_, rfl⟩) ?_
  refine rfold_t (word2 C) (fun qs st => ∃ T1 T2, st = all15St s T1 T2 ∧ T1.length + qs.length < 1000000 ∧ T2.length + qs.length < 1000000 ∧ T1 ++ qs.map (·.1) = ps.map (·.1) ∧ T2 ++ qs.map (·.2) = ps.map (·.2)) ⟨[], [], rfl, by simpa using hbig, by simpa using hbig, rfl, rfl⟩ ?_ ?_
  · rintro q qs st ⟨T1, T2, rfl, h1, h2, h3, h4⟩
    simp only [List.length_cons] at h1 h2
    refine ⟨rfl, fun L => ?_⟩
    change MCode _ _ _ _ _ (upd (upd _ 9 (.int .i64 q.1)) 10 (.int .i64 q.2)) ((all15St s T1 T2).pushL L)
    repeat (first | refine runB ?_ | refine stepsD ?_ | with_reducible refine mregionX (id := 5) [0, 0, 2, 7, 0, 0, 32, 127, 255, 511] [⟨0, false, []⟩, ⟨1, false, []⟩, ⟨2, false, []⟩, ⟨4, false, []⟩, ⟨5, false, []⟩, ⟨6, false, []⟩, ⟨3, true, [4, 5, 6]⟩, ⟨7, true, []⟩, ⟨8, true, []⟩, ⟨9, true, []⟩] (by kernel_rfl) ?_ | with_reducible refine mregionX (id := 6) [0, 0, 1, 7] [⟨0, false, []⟩, ⟨1, false, []⟩, ⟨2, false, []⟩, ⟨3, false, []⟩] (by kernel_rfl) ?_)
    refine ⟨rfl, _, rfl, rfl, fun L2 => ?_⟩
    unfold all15St
    repeat (first | refine runB ?_ | refine stepsD ?_ | with_reducible refine mregionX (id := 5) [0, 0, 2, 7, 0, 0, 32, 127, 255, 511] [⟨0, false, []⟩, ⟨1, false, []⟩, ⟨2, false, []⟩, ⟨4, false, []⟩, ⟨5, false, []⟩, ⟨6, false, []⟩, ⟨3, true, [4, 5, 6]⟩, ⟨7, true, []⟩, ⟨8, true, []⟩, ⟨9, true, []⟩] (by kernel_rfl) ?_ | with_reducible refine mregionX (id := 6) [0, 0, 1, 7] [⟨0, false, []⟩, ⟨1, false, []⟩, ⟨2, false, []⟩, ⟨3, false, []⟩] (by kernel_rfl) ?_)
    refine ⟨_, rfl, rfl, hC _ ⟨_, rfl⟩, T1 ++ [q.1], T2 ++ [q.2], rfl, by simp; omega, by simp; omega, by simpa using h3, by simpa using h4⟩
  · rintro st ⟨T1, T2, rfl, h1, h2, h3, h4⟩
    unfold all15St
    repeat (first | refine runB ?_ | refine stepsD ?_ | with_reducible refine mregionX (id := 5) [0, 0, 2, 7, 0, 0, 32, 127, 255, 511] [⟨0, false, []⟩, ⟨1, false, []⟩, ⟨2, false, []⟩, ⟨4, false, []⟩, ⟨5, false, []⟩, ⟨6, false, []⟩, ⟨3, true, [4, 5, 6]⟩, ⟨7, true, []⟩, ⟨8, true, []⟩, ⟨9, true, []⟩] (by kernel_rfl) ?_ | with_reducible refine mregionX (id := 6) [0, 0, 1, 7] [⟨0, false, []⟩, ⟨1, false, []⟩, ⟨2, false, []⟩, ⟨3, false, []⟩] (by kernel_rfl) ?_)
    refine leave ?_
    simp only [List.map_nil, List.append_nil] at h3 h4
    subst h3 h4
    exact ⟨.tuple [fsV encInt .nilsl _, fsV encInt .nilsl _], _, rfl, rfl, rfl, .tuple _ _ rfl fun j hj hj' => by
      match j, hj with
      | 0, _ => exact acc_pk (by simp [MSt.ext]) (by omega) (by intro a x hx; simp only [encInt, List.mem_singleton] at hx; subst hx; rfl)
      | 1, _ => exact acc_pk (by simp [MSt.ext]) (by omega) (by intro a x hx; simp only [encInt, List.mem_singleton] at hx; subst hx; rfl), _, _, rfl, fsV_FS, fsV_FS, rfl⟩

end Go.Mir
