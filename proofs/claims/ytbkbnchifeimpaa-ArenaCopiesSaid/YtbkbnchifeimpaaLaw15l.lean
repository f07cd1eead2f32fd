import Derived.Test.YtbkbnchifeimpaaFacts
import Derived.Test.YtbkbnchifeimpaaTree
import Derived.Test.YtbkbnchifeimpaaArenaNil
import Derived.Test.YtbkbnchifeimpaaLaw15g
import Derived.Test.YtbkbnchifeimpaaLaw15i
import Derived.Test.YtbkbnchifeimpaaLaw15j
import Derived.Test.YtbkbnchifeimpaaLaw15k
import Derived.KernelRfl
set_option maxRecDepth 10000
set_option maxHeartbeats 2000000
set_option pp.deepTerms false
set_option pp.deepTerms.threshold 5
set_option linter.unusedSimpArgs false
set_option linter.unusedVariables false
namespace Go.Mir
open Go.Proofs
attribute [local irreducible] mops mopsD MOper mthen mcatch MCode MCalls MInv MRound Yld Stays
set_option maxRecDepth 100000

theorem doA_ok : ∀ (l : List Act15) {L : List Slot} {N : Int}, (∀ s ∈ L, 0 ≤ s.n ∧ s.n ≤ N) → (doA L l).length = L.length ∧ ∀ s ∈ doA L l, 0 ≤ s.n ∧ s.n ≤ N + l.length
  | [], L, N, h => ⟨rfl, fun s hs => by have := h s hs; simp only [List.length_nil]; omega⟩
  | x :: l, L, N, h => by
    have h1 := doA1_ok (x := x) h
    have h2 := doA_ok l h1.2
    refine ⟨h2.1.trans h1.1, fun s hs => ?_⟩
    have := h2.2 s hs
    simp only [List.length_cons]; omega

structure DoP (s : MSt) (a : Nat) (l : Loc) (M : List Slot) (s' : MSt) : Prop where
  hA : AM s' a l M
  grow : ∀ base, Grew base s → base.h.length ≤ a → base.h.length ≤ l.b → Grew base s'
  stay : ∀ a' l' L', AM s a' l' L' → a' ≠ a → a' ≠ l.b → l'.b ≠ a → l'.b ≠ l.b → AM s' a' l' L'

theorem putSt_AMc {s : MSt} {a : Nat} {l : Loc} {L M : List Slot} (hA : AM s a l L) (hl : M.length = L.length) (hn : low M) : AM (putSt s a l M) a l M := by
  obtain ⟨h1, h2, h3⟩ := AM_lt hA
  refine ⟨?_, ?_, by rw [hl]; exact hA.2.2.1, hn⟩
  · simp [putSt, MSt.put, h1]
  · have : ¬ a = l.b := h3
    simp [putSt, MSt.put, List.getElem?_set, h2, this]
theorem putSt_stay {s : MSt} {a a' : Nat} {l l' : Loc} {M L' : List Slot} (hA : AM s a' l' L') (h1 : a' ≠ a) (h2 : a' ≠ l.b) (h3 : l'.b ≠ a) (h4 : l'.b ≠ l.b) : AM (putSt s a l M) a' l' L' := by
  refine ⟨?_, ?_, hA.2.2⟩
  · rw [← hA.1]; simp [putSt, MSt.put, List.getElem?_set, Ne.symm h1, Ne.symm h2]
  · rw [← hA.2.1]; simp [putSt, MSt.put, List.getElem?_set, Ne.symm h3, Ne.symm h4]

theorem do_abs (s : MSt) (a : Nat) (l : Loc) (L : List Slot) (b : Nat) (cap : Option Nat) (acts : List Act15) (N : Int) (hA : AM s a l L) (hn : ∀ x ∈ L, 0 ≤ x.n ∧ x.n ≤ N) (hN : N ≤ 1000) (h60 : acts.length ≤ 60) :
    MCalls Try.prog 23 [.ptr a 0 0, sV encAct b cap acts] s fun _ s' => DoP s a l (doA L acts) s' := by
  refine (do_spec s a l L b cap acts hA (fun x hx => by have := hn x hx; omega) h60).mono ?_
  rintro r _ ⟨J, rfl⟩
  have hok := doA_ok acts hn
  refine ⟨AM_ext (putSt_AMc hA hok.1 fun x hx => ?_), fun base hg h1 h2 => ?_, fun a' l' L' hA' h1 h2 h3 h4 => AM_ext (putSt_stay hA' h1 h2 h3 h4)⟩
  · have := hok.2 x hx; omega
  · exact (hg.putSt h1 h2).trans ⟨J, rfl⟩

structure CopyP (s : MSt) (L : List Slot) (c : Nat) (l' : Loc) (s' : MSt) : Prop where
  hA : AM s' c l' L
  grow : Grew s s'
  lc : s.h.length ≤ c
  lb : s.h.length ≤ l'.b
theorem copy_abs (s : MSt) (a : Nat) (l : Loc) (L : List Slot) (hA : AM s a l L) (h0 : 0 < L.length) :
    MCalls Try.prog 18 [.ptr a 0 0, twinF] s fun r s' => ∃ c l', r = .ptr c 0 0 ∧ CopyP s L c l' s' := by
  refine (copy_spec s a l L hA h0).mono ?_
  rintro r _ ⟨nb, nx, nc, J, rfl, rfl, hI⟩
  exact ⟨nx, ⟨nb, L.length, fun _ => none⟩, rfl, ⟨hI.hx, hI.hb, hA.2.2⟩, ⟨_, rfl⟩, Nat.le_of_lt hI.lx, Nat.le_of_lt hI.lb⟩

end Go.Mir
