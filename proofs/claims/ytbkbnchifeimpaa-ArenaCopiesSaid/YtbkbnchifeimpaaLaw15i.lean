import Derived.Test.YtbkbnchifeimpaaFacts
import Derived.Test.YtbkbnchifeimpaaArenaNil
import Derived.Test.YtbkbnchifeimpaaLaw15g
import Derived.KernelRfl
set_option maxRecDepth 10000
set_option maxHeartbeats 2000000
set_option pp.deepTerms false
set_option pp.deepTerms.threshold 5
set_option linter.unusedSimpArgs false
set_option linter.unusedVariables false
namespace Go.Mir
open Go.Proofs
attribute [local irreducible] mops mopsD MOper mthen mcatch MCode MCalls MInv MRound Yld Stays

/-- The n-th of what an arena has. -/
def pick15 (l : List Int) (n : Int) : Option Int := if l.length = 0 then none else l[(IntKind.u64.wrap n % l.length).toNat]?

theorem some_spec (s : MSt) (a : Nat) (l : Loc) (L : List Slot) (n : Int) (hA : AM s a l L) :
    MCalls Try.prog 11 [allF a, .int .i64 n] s fun r s' => r = .tuple [.int .i64 ((pick15 ((allA 0 L).map (·.1)) n).getD 0), .bool (pick15 ((allA 0 L).map (·.1)) n).isSome] ∧ s' = s := by
  refine mfreeze ?_
  have hlen : (allA 0 L).length ≤ 1024 := by rw [allA_len]; exact Nat.le_trans List.countP_le_length hA.2.2.1
  refine enter (f := 11) ?_; first | refine mseq ?_ | refine mregionL ?_ | skip
  refine mghosts [accO encInt []] ?_
  repeat (first | refine runB ?_ | refine stepsD ?_ | with_reducible refine mregionX (id := 7) [0, 0, 2, 0, 8, 24, 62, 126, 255, 511, 1023, 2047] [⟨0, false, []⟩, ⟨1, false, []⟩, ⟨2, false, []⟩, ⟨3, false, []⟩, ⟨4, false, []⟩, ⟨5, false, []⟩, ⟨6, false, []⟩, ⟨7, false, []⟩, ⟨8, false, []⟩, ⟨9, false, []⟩, ⟨10, false, []⟩, ⟨11, false, []⟩] (by kernel_rfl) ?_)
  have hC : ∀ st, Grew s st → AMh st.h a l L := fun st hg => ⟨hg.at hA.1, hg.at hA.2.1, hA.2.2⟩
  refine mrangeT FnC.ok evE (allF_seq a l L) (hC _ ⟨_, rfl⟩) ?_
  refine rfold_t (allW a l L) (fun qs st => ∃ T, st = s.ext [accO encInt T, .blk 0 [accV encInt .nilsl s.h.length 1 T]] ∧ T.length + qs.length ≤ 1024 ∧ T ++ qs.map (·.1) = (allA 0 L).map (·.1)) ⟨[], rfl, by simpa using hlen, rfl⟩ ?_ ?_
  · rintro q qs st ⟨T, rfl, h1, h2⟩
    simp only [List.length_cons] at h1
    have H2 := Hid.mk h2; clear h2
    refine ⟨rfl, fun L' => ?_⟩
    change MCode _ _ _ _ _ (upd (upd _ 9 (.int .i64 q.1)) 10 (.int .i64 q.2)) ((s.ext [accO encInt T, .blk 0 [accV encInt .nilsl s.h.length 1 T]]).pushL L')
    repeat (first | refine runB ?_ | refine stepsD ?_ | with_reducible refine mregionX (id := 7) [0, 0, 2, 0, 8, 24, 62, 126, 255, 511, 1023, 2047] [⟨0, false, []⟩, ⟨1, false, []⟩, ⟨2, false, []⟩, ⟨3, false, []⟩, ⟨4, false, []⟩, ⟨5, false, []⟩, ⟨6, false, []⟩, ⟨7, false, []⟩, ⟨8, false, []⟩, ⟨9, false, []⟩, ⟨10, false, []⟩, ⟨11, false, []⟩] (by kernel_rfl) ?_)
    refine ⟨rfl, _, rfl, rfl, fun L2 => ?_⟩
    repeat (first | refine runB ?_ | refine stepsD ?_ | with_reducible refine mregionX (id := 7) [0, 0, 2, 0, 8, 24, 62, 126, 255, 511, 1023, 2047] [⟨0, false, []⟩, ⟨1, false, []⟩, ⟨2, false, []⟩, ⟨3, false, []⟩, ⟨4, false, []⟩, ⟨5, false, []⟩, ⟨6, false, []⟩, ⟨7, false, []⟩, ⟨8, false, []⟩, ⟨9, false, []⟩, ⟨10, false, []⟩, ⟨11, false, []⟩] (by kernel_rfl) ?_)
    exact ⟨_, rfl, rfl, hC _ ⟨_, rfl⟩, T ++ [q.1], rfl, by simp; omega, by simpa using H2.out⟩
  · rintro st ⟨T, rfl, h1, h2⟩
    simp only [List.map_nil, List.append_nil] at h2
    rw [← h2]
    clear h2 hC hlen
    simp only [List.length_nil] at h1
    by_cases h0 : T.length = 0
    · repeat (first | refine runB ?_ | refine stepsD ?_ | with_reducible refine mregionX (id := 7) [0, 0, 2, 0, 8, 24, 62, 126, 255, 511, 1023, 2047] [⟨0, false, []⟩, ⟨1, false, []⟩, ⟨2, false, []⟩, ⟨3, false, []⟩, ⟨4, false, []⟩, ⟨5, false, []⟩, ⟨6, false, []⟩, ⟨7, false, []⟩, ⟨8, false, []⟩, ⟨9, false, []⟩, ⟨10, false, []⟩, ⟨11, false, []⟩] (by kernel_rfl) ?_)
      refine leave ?_
      refine freeze_v ⟨_, rfl⟩ rfl ⟨?_, rfl⟩
      simp only [pick15, if_pos h0]; rfl
    · have hu := wrap_u64_rng n
      have hmod : 0 ≤ IntKind.u64.wrap n % (T.length : Int) ∧ IntKind.u64.wrap n % (T.length : Int) < T.length := ⟨Int.emod_nonneg _ (by omega), Int.emod_lt_of_pos _ (by omega)⟩
      have hm2 : (IntKind.u64.wrap n % (T.length : Int)).toNat < T.length := by omega
      repeat (first | refine runB ?_ | refine stepsD ?_ | with_reducible refine mregionX (id := 7) [0, 0, 2, 0, 8, 24, 62, 126, 255, 511, 1023, 2047] [⟨0, false, []⟩, ⟨1, false, []⟩, ⟨2, false, []⟩, ⟨3, false, []⟩, ⟨4, false, []⟩, ⟨5, false, []⟩, ⟨6, false, []⟩, ⟨7, false, []⟩, ⟨8, false, []⟩, ⟨9, false, []⟩, ⟨10, false, []⟩, ⟨11, false, []⟩] (by kernel_rfl) ?_)
      refine leave ?_
      refine freeze_v ⟨_, rfl⟩ rfl ⟨?_, rfl⟩
      simp only [pick15, if_neg h0, List.getElem?_eq_getElem hm2]; rfl

theorem pick_mem {l : List Int} {n h : Int} (hp : pick15 l n = some h) : h ∈ l := by
  unfold pick15 at hp
  split at hp
  · cases hp
  · exact List.mem_of_getElem? hp

/-- What the acts make of an arena. -/
def doA1 (L : List Slot) (x : Act15) : List Slot :=
  if x.kind.tmod 3 = 0 then (match putA L x.x with | some (L', _) => L' | none => L)
  else match pick15 ((allA 0 L).map (·.1)) x.old with
    | some h => if x.kind.tmod 3 = 1 then setA L h x.x else dropA L h
    | none => L
def doA (L : List Slot) (l : List Act15) : List Slot := l.foldl doA1 L

theorem low_set {L : List Slot} {k : Nat} {t : Slot} {N : Int} (h : ∀ x ∈ L, 0 ≤ x.n ∧ x.n ≤ N) (ht : 0 ≤ t.n ∧ t.n ≤ N) : ∀ x ∈ L.set k t, 0 ≤ x.n ∧ x.n ≤ N := by
  intro x hx
  rcases List.mem_or_eq_of_mem_set hx with hx | rfl
  · exact h x hx
  · exact ht
theorem doA1_ok {L : List Slot} {x : Act15} {N : Int} (h : ∀ s ∈ L, 0 ≤ s.n ∧ s.n ≤ N) : (doA1 L x).length = L.length ∧ ∀ s ∈ doA1 L x, 0 ≤ s.n ∧ s.n ≤ N + 1 := by
  have h1 : ∀ s ∈ L, 0 ≤ s.n ∧ s.n ≤ N + 1 := fun s hs => by have := h s hs; omega
  unfold doA1
  split
  · cases hp : putA L x.x with
    | none => exact ⟨rfl, h1⟩
    | some p =>
      unfold putA at hp
      split at hp
      · split at hp
        · rename_i s hs
          simp only [Option.some.injEq] at hp
          subst hp
          have := h s (List.mem_of_getElem? hs)
          exact ⟨by simp, low_set h1 (by simp only; omega)⟩
        · cases hp
      · cases hp
  · split
    · split
      · unfold setA
        split
        · split
          · rename_i s hs
            have := h s (List.mem_of_getElem? hs)
            exact ⟨by simp, low_set h1 (by simp only; omega)⟩
          · exact ⟨rfl, h1⟩
        · exact ⟨rfl, h1⟩
      · unfold dropA
        split
        · split
          · rename_i s hs
            have := h s (List.mem_of_getElem? hs)
            exact ⟨by simp, low_set h1 (by simp only; omega)⟩
          · exact ⟨rfl, h1⟩
        · exact ⟨rfl, h1⟩
    · exact ⟨rfl, h1⟩

end Go.Mir
