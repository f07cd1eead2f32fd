import Derived.Test.YtbkbnchifeimpaaFacts
import Derived.KernelRfl
set_option maxRecDepth 10000
set_option maxHeartbeats 2000000
set_option pp.deepTerms false
set_option pp.deepTerms.threshold 5
set_option linter.unusedSimpArgs false
set_option linter.unusedVariables false
namespace Go.Mir
open Go.Proofs
attribute [local irreducible] mops mopsD MOper mthen mcatch MCode MCalls MInv MRound Yld Stays

structure Slot where
  x : Int
  full : Bool
  n : Int

def encSlot (s : Slot) : List MV := [.int .i64 s.x, .bool s.full, .int .i64 s.n]
theorem encSlot_len (s : Slot) : (encSlot s).length = 3 := rfl
instance : EncC encSlot 3 := ⟨encSlot_len⟩
attribute [go_sem] encSlot

/-- Where an arena's slots lie: the block, its stamp, the capacity that is known. -/
structure Loc where
  b : Nat
  st : Nat
  cap : Nat → Option Nat

theorem handle_spec (s : MSt) (l : Loc) (k : Nat) (cells : List MV) (n i : Int) (hb : s.h[l.b]? = some (.blk l.st cells)) (hn : cells[k + 2]? = some (.int .i64 n)) :
    MCalls Try.prog 40 [.ptr l.b l.st k, .int .i64 i] s fun r s' => r = .int .i64 (IntKind.i64.wrap (IntKind.i64.wrap (n * 1024) + i)) ∧ s' = s := by
  refine enter (f := 40) ?_; first | refine mseq ?_ | refine mregionL ?_ | skip
  repeat (refine runB ?_)
  refine leave ?_
  exact ⟨rfl, rfl⟩

/-- What an arena's memory holds. -/
def AR (s : MSt) (a : Nat) (l : Loc) (L : List Slot) (full : Int) : Prop :=
  s.h[a]? = some (.blk 0 [.msl l.b l.st 3 0 L.length (l.cap L.length), .int .i64 full]) ∧ s.h[l.b]? = some (.blk l.st (rows encSlot L)) ∧ (L.length ≤ 1024) ∧ (∀ x ∈ L, 0 ≤ x.n ∧ x.n < 1099511627776)

def findA (L : List Slot) (h : Int) : Option Nat :=
  if h < 1024 then none else match L[(h % 1024).toNat]? with
    | some x => if x.full = true ∧ x.n * 1024 + h % 1024 = h then some (h % 1024).toNat else none
    | none => none

def slotPtr (l : Loc) : Option Nat → MV
  | some i => .ptr l.b l.st (i * 3)
  | none => .nilptr

theorem find_spec (s : MSt) (a : Nat) (l : Loc) (L : List Slot) (full h : Int) (hA : AR s a l L full) :
    MCalls Try.prog 42 [.ptr a 0 0, .int .i64 h] s fun r s' => r = slotPtr l (findA L h) ∧ s' = s := by
  obtain ⟨ha, hl, hL, hn⟩ := hA
  unfold findA
  by_cases h1 : h < 1024
  · refine enter (f := 42) ?_; first | refine mseq ?_ | refine mregionL ?_ | skip
    repeat (refine runB ?_)
    refine leave ?_
    exact ⟨by simp [h1, slotPtr], rfl⟩
  · rw [if_neg h1]
    have h0 : 0 ≤ h := by omega
    by_cases h2 : (h % 1024).toNat < L.length
    · have h2' : h % 1024 < L.length := by omega
      cases h3 : L[(h % 1024).toNat].full
      · refine enter (f := 42) ?_; first | refine mseq ?_ | refine mregionL ?_ | skip
        repeat (refine runB ?_)
        refine leave ?_
        exact ⟨by simp [slotPtr, h2, h3], rfl⟩
      · refine enter (f := 42) ?_; first | refine mseq ?_ | refine mregionL ?_ | skip
        repeat (refine runB ?_)
        refine MCalls.mono (handle_spec s l _ _ L[(h % 1024).toNat].n _ hl evS) ?_
        rintro r s' ⟨rfl, rfl⟩
        have hx := hn _ (List.getElem_mem h2)
        by_cases h4 : L[(h % 1024).toNat].n * 1024 + h % 1024 = h
        · repeat (refine runB ?_)
          refine leave ?_
          exact ⟨by simp [slotPtr, h2, h3, h4], rfl⟩
        · repeat (refine runB ?_)
          refine leave ?_
          exact ⟨by simp [slotPtr, h2, h3, h4], rfl⟩
    · refine enter (f := 42) ?_; first | refine mseq ?_ | refine mregionL ?_ | skip
      repeat (refine runB ?_)
      refine leave ?_
      exact ⟨by rw [List.getElem?_eq_none (by omega)]; rfl, rfl⟩

end Go.Mir
