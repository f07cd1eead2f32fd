
import Derived.Test.YtbkbnchifeimpaaFacts
import Derived.Test.YtbkbnchifeimpaaArena
import Derived.Test.YtbkbnchifeimpaaArena2
import Derived.KernelRfl
set_option maxRecDepth 10000
set_option maxHeartbeats 2000000
set_option pp.deepTerms false
set_option pp.deepTerms.threshold 5
set_option linter.unusedSimpArgs false
set_option linter.unusedVariables false
namespace Go.Mir
open Go.Proofs
attribute [local irreducible] mops mopsD MOper mthen mcatch MCode MCalls MInv MRound Yld Stays

theorem findA_some {L : List Slot} {h : Int} {k : Nat} (hf : findA L h = some k) : ∃ x, L[k]? = some x ∧ x.full = true ∧ x.n * 1024 + k = h ∧ k < 1024 ∧ 1024 ≤ h := by
  unfold findA at hf
  split at hf
  · cases hf
  · rename_i h1
    split at hf
    · rename_i x hx
      split at hf
      · rename_i h2
        simp only [Option.some.injEq] at hf; subst hf
        exact ⟨x, hx, h2.1, by omega, by omega, by omega⟩
      · cases hf
    · cases hf

theorem get_spec (s : MSt) (a : Nat) (l : Loc) (L : List Slot) (h : Int) (hA : AM s a l L) :
    MCalls Try.prog 14 [.ptr a 0 0, .int .i64 h] s fun r s' => r = (match (findA L h).bind (L[·]?) with
      | some x => .tuple [.int .i64 x.x, .bool true]
      | none => .tuple [.int .i64 0, .bool false]) ∧ s' = s := by
  cases hf : findA L h with
  | none =>
    refine enter (f := 14) ?_; first | refine mseq ?_ | refine mregionL ?_ | skip
    repeat (refine runB ?_)
    refine MCalls.mono (find_spec s a l L _ h hA) ?_
    rintro r s' ⟨rfl, rfl⟩
    rw [hf]
    simp only [slotPtr]
    repeat (refine runB ?_)
    refine leave ?_
    exact ⟨rfl, rfl⟩
  | some k =>
    obtain ⟨x, hk, hfull, -, -, -⟩ := findA_some hf
    have hl := hA.2.1
    have c1 : (rows encSlot L)[k * 3]? = some (.int .i64 x.x) := rows_at0 encSlot_len hk (by decide)
    refine enter (f := 14) ?_; first | refine mseq ?_ | refine mregionL ?_ | skip
    repeat (refine runB ?_)
    refine MCalls.mono (find_spec s a l L _ h hA) ?_
    rintro r s' ⟨rfl, rfl⟩
    rw [hf]
    simp only [slotPtr]
    repeat (refine runB ?_)
    refine leave ?_
    exact ⟨by simp [hk], rfl⟩

def setA (L : List Slot) (h x : Int) : List Slot := match findA L h with
  | some k => (match L[k]? with | some s => L.set k { s with x := x } | none => L)
  | none => L
def dropA (L : List Slot) (h : Int) : List Slot := match findA L h with
  | some k => (match L[k]? with | some s => L.set k ⟨0, false, s.n⟩ | none => L)
  | none => L

theorem set_spec (s : MSt) (a : Nat) (l : Loc) (L : List Slot) (h x : Int) (hA : AM s a l L) :
    MCalls Try.prog 15 [.ptr a 0 0, .int .i64 h, .int .i64 x] s fun r s' => r = .bool (findA L h).isSome ∧ s' = s.put l.b (.blk l.st (rows encSlot (setA L h x))) := by
  have hl := hA.2.1
  cases hf : findA L h with
  | none =>
    refine enter (f := 15) ?_; first | refine mseq ?_ | refine mregionL ?_ | skip
    repeat (refine runB ?_)
    refine MCalls.mono (find_spec s a l L _ h hA) ?_
    rintro r s' ⟨rfl, rfl⟩
    rw [hf]
    simp only [slotPtr]
    repeat (refine runB ?_)
    refine leave ?_
    refine ⟨rfl, ?_⟩
    simp only [setA, hf]
    exact put_same' hl
  | some k =>
    obtain ⟨sl, hk, hfull, -, -, -⟩ := findA_some hf
    have lb : l.b < s.h.length := by rw [List.getElem?_eq_some_iff] at hl; exact hl.1
    have hlt : k < L.length := by rw [List.getElem?_eq_some_iff] at hk; exact hk.1
    have hb1 : k * 3 + 1 ≤ (rows encSlot L).length := by rw [rows_len3]; omega
    have hsp : (rows encSlot L).set (k * 3) (.int .i64 x) = rows encSlot (setA L h x) := by
      have := rows_set (v := .int .i64 x) encSlot_len hk (j := 0) (b := { sl with x := x }) (by decide) rfl
      rw [Nat.add_zero] at this
      rw [this]
      simp only [setA, hf, hk]
    have k2 : (s.put l.b (.blk l.st (rows encSlot (setA L h x)))).h[l.b]? = some (.blk l.st (rows encSlot (setA L h x))) := put_same _ _ _ lb
    refine enter (f := 15) ?_; first | refine mseq ?_ | refine mregionL ?_ | skip
    repeat (refine runB ?_)
    refine MCalls.mono (find_spec s a l L _ h hA) ?_
    rintro r s' ⟨rfl, rfl⟩
    rw [hf]
    simp only [slotPtr]
    repeat (refine runB ?_)
    refine leave ?_
    exact ⟨rfl, rfl⟩

theorem len_spec (s : MSt) (a : Nat) (l : Loc) (L : List Slot) (hA : AM s a l L) :
    MCalls Try.prog 16 [.ptr a 0 0] s fun r s' => r = .int .i64 (L.countP (·.full)) ∧ s' = s := by
  have ha := hA.1
  refine enter (f := 16) ?_; first | refine mseq ?_ | refine mregionL ?_ | skip
  repeat (refine runB ?_)
  refine leave ?_
  exact ⟨rfl, rfl⟩

theorem drop_spec (s : MSt) (a : Nat) (l : Loc) (L : List Slot) (h : Int) (hA : AM s a l L) :
    MCalls Try.prog 13 [.ptr a 0 0, .int .i64 h] s fun r s' => r = .bool (findA L h).isSome ∧ s' = if (findA L h).isSome then putSt s a l (dropA L h) else s := by
  have hl := hA.2.1
  have ha := hA.1
  cases hf : findA L h with
  | none =>
    refine enter (f := 13) ?_; first | refine mseq ?_ | refine mregionL ?_ | skip
    repeat (refine runB ?_)
    refine MCalls.mono (find_spec s a l L _ h hA) ?_
    rintro r s' ⟨rfl, rfl⟩
    rw [hf]
    simp only [slotPtr]
    repeat (refine runB ?_)
    refine leave ?_
    exact ⟨rfl, rfl⟩
  | some k =>
    obtain ⟨sl, hk, hfull, -, -, -⟩ := findA_some hf
    obtain ⟨y, fl, n⟩ := sl
    simp only at hfull
    subst hfull
    have lb : l.b < s.h.length := by rw [List.getElem?_eq_some_iff] at hl; exact hl.1
    have hal : a ≠ l.b := fun e => by subst e; rw [ha] at hl; simp only [Option.some.injEq, MObj.blk.injEq] at hl; have := congrArg List.length hl.2; rw [rows_len3] at this; simp at this; omega
    have hlt : k < L.length := by rw [List.getElem?_eq_some_iff] at hk; exact hk.1
    have hb1 : k * 3 + 3 ≤ (rows encSlot L).length := by rw [rows_len3]; omega
    have c2 : (rows encSlot L)[k * 3 + 2]? = some (.int .i64 n) := rows_at encSlot_len hk (by decide)
    have hd : dropA L h = L.set k ⟨0, false, n⟩ := by simp only [dropA, hf, hk]
    have hsp : splice (rows encSlot L) (k * 3) [.int .i64 0, .bool false, .int .i64 n] = rows encSlot (dropA L h) := by
      rw [hd]; exact rows_splice encSlot_len (b := ⟨0, false, n⟩) hlt
    have hcnt : ((dropA L h).countP (·.full) : Int) = L.countP (·.full) - 1 := by rw [hd, count_set hk]; simp
    have hlen : (dropA L h).length = L.length := by rw [hd]; simp
    have w4 : IntKind.i64.wrap ((L.countP (·.full) : Int) - 1) = (L.countP (·.full) : Int) - 1 := by
      have : L.countP (·.full) ≤ L.length := List.countP_le_length
      have := hA.2.2.1
      exact Go.IntWalk.i64_in _ (by omega)
    clear hd
    refine enter (f := 13) ?_; first | refine mseq ?_ | refine mregionL ?_ | skip
    repeat (refine runB ?_)
    refine MCalls.mono (find_spec s a l L _ h hA) ?_
    rintro r s' ⟨rfl, rfl⟩
    rw [hf]
    simp only [slotPtr]
    repeat (refine runB ?_)
    refine leave ?_
    refine ⟨rfl, ?_⟩
    simp only [Option.isSome_some, if_true]
    rw [putSt, hcnt, hlen]

end Go.Mir
