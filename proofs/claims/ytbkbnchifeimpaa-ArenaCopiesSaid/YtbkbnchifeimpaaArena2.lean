
import Derived.Test.YtbkbnchifeimpaaFacts
import Derived.Test.YtbkbnchifeimpaaArena
import Derived.KernelRfl
set_option maxRecDepth 10000
set_option maxHeartbeats 2000000
set_option pp.deepTerms false
set_option pp.deepTerms.threshold 5
set_option linter.unusedSimpArgs false
set_option linter.unusedVariables false
namespace Go.Mir
open Go.Proofs
attribute [local irreducible] mops mopsD MOper mthen mcatch MCode MCalls MInv MRound Yld Stays

/-- An arena's memory, its number of things that of its full slots. -/
def AM (s : MSt) (a : Nat) (l : Loc) (L : List Slot) : Prop := AR s a l L (L.countP (·.full))
def low (L : List Slot) : Prop := ∀ x ∈ L, 0 ≤ x.n ∧ x.n < 1099511627776

theorem rows_len3 (L : List Slot) : (rows encSlot L).length = L.length * 3 := rows_len encSlot_len L

def putSt (s : MSt) (a : Nat) (l : Loc) (L : List Slot) : MSt := (s.put l.b (.blk l.st (rows encSlot L))).put a (.blk 0 [.msl l.b l.st 3 0 L.length (l.cap L.length), .int .i64 (L.countP (·.full))])

theorem putSt_AM {s : MSt} {a : Nat} {l : Loc} {L L' : List Slot} {f : Int} (hA : AR s a l L f) (hl : L'.length = L.length) (hn : low L') : AM (putSt s a l L') a l L' := by
  obtain ⟨ha, hb, h1, h2⟩ := hA
  have hal : a ≠ l.b := fun e => by subst e; rw [ha] at hb; simp only [Option.some.injEq, MObj.blk.injEq] at hb; have := congrArg List.length hb.2; rw [rows_len3] at this; simp at this; omega
  have la : a < s.h.length := by rw [List.getElem?_eq_some_iff] at ha; exact ha.1
  have lb : l.b < s.h.length := by rw [List.getElem?_eq_some_iff] at hb; exact hb.1
  refine ⟨?_, ?_, by omega, hn⟩
  · rw [putSt, put_same _ _ _ (by rw [put_len]; exact la)]
  · rw [putSt, put_other _ _ _ _ (Ne.symm hal), put_same _ _ _ lb]

def putA (L : List Slot) (x : Int) : Option (List Slot × Int) :=
  match L.findIdx? (fun s => !s.full) with
  | some k => match L[k]? with
    | some s => some (L.set k ⟨x, true, s.n + 1⟩, (s.n + 1) * 1024 + k)
    | none => none
  | none => none

theorem count_set {L : List Slot} {k : Nat} {s t : Slot} (h : L[k]? = some s) : ((L.set k t).countP (·.full) : Int) = L.countP (·.full) - (if s.full then 1 else 0) + (if t.full then 1 else 0) := by
  induction L generalizing k with
  | nil => simp at h
  | cons x L ih =>
    cases k with
    | zero =>
      simp only [List.getElem?_cons_zero, Option.some.injEq] at h; subst h
      simp only [List.set_cons_zero, List.countP_cons]
      cases x.full <;> cases t.full <;> simp <;> omega
    | succ k =>
      simp only [List.getElem?_cons_succ] at h
      simp only [List.set_cons_succ, List.countP_cons]
      have := ih h
      cases x.full <;> simp <;> omega

theorem put_spec (s : MSt) (a : Nat) (l : Loc) (L : List Slot) (x : Int) (hA : AM s a l L) :
    MCalls Try.prog 10 [.ptr a 0 0, .int .i64 x] s fun r s' => match putA L x with
      | some (L', h) => r = .tuple [.int .i64 h, .int .i64 0] ∧ s' = putSt s a l L'
      | none => r = .tuple [.int .i64 0, .int .i64 6] ∧ s' = s := by
  obtain ⟨ha, hl, hL, hn⟩ := hA
  have hal : a ≠ l.b := fun e => by subst e; rw [ha] at hl; simp only [Option.some.injEq, MObj.blk.injEq] at hl; have := congrArg List.length hl.2; rw [rows_len3] at this; simp at this; omega
  have la : a < s.h.length := by rw [List.getElem?_eq_some_iff] at ha; exact ha.1
  have lb : l.b < s.h.length := by rw [List.getElem?_eq_some_iff] at hl; exact hl.1
  refine enter (f := 10) ?_; first | refine mseq ?_ | refine mregionL ?_ | skip
  repeat (refine runB ?_)
  refine mloop (fun m env st => ∃ i : Nat, m = L.length - i ∧ i ≤ L.length ∧ env 15 = .int .i64 i ∧ env 14 = .int .i64 L.length ∧ env 0 = .ptr a 0 0 ∧ env 1 = .int .i64 x ∧ s = st ∧ ∀ j (h : j < L.length), j < i → L[j].full = true) L.length
    ⟨0, by omega, by omega, (evE), (evE), (evE), (evE), rfl, fun j _ h => absurd h (by omega)⟩ ?_
  rintro m env st ⟨i, hm, hi, e15, e14, e0, e1, rfl, hf⟩
  by_cases hlt : i < L.length
  · have hi' : L[i]? = some L[i] := List.getElem?_eq_getElem hlt
    have hx := hn L[i] (List.getElem_mem hlt)
    have g1 : (i : Int) < L.length := by omega
    have g2 : (0 : Int) ≤ i ∧ (i : Int) < L.length := by omega
    generalize hsl : L[i] = sl at hi' hx
    obtain ⟨y, full, n⟩ := sl
    simp only at hx
    have c1 : (rows encSlot L)[i * 3 + 1]? = some (.bool full) := rows_at encSlot_len hi' (by decide)
    have c2 : (rows encSlot L)[i * 3 + 2]? = some (.int .i64 n) := rows_at encSlot_len hi' (by decide)
    cases full
    · have w1 : IntKind.i64.wrap (n + 1) = n + 1 := Go.IntWalk.i64_in _ (by omega)
      have w2 : IntKind.i64.wrap ((n + 1) * 1024) = (n + 1) * 1024 := Go.IntWalk.i64_in _ (by omega)
      have w3 : IntKind.i64.wrap ((n + 1) * 1024 + i) = (n + 1) * 1024 + i := Go.IntWalk.i64_in _ (by omega)
      have w4 : IntKind.i64.wrap ((L.countP (·.full) : Int) + 1) = (L.countP (·.full) : Int) + 1 := by
        have : L.countP (·.full) ≤ L.length := List.countP_le_length
        exact Go.IntWalk.i64_in _ (by omega)
      have hb1 : i * 3 + 3 ≤ (rows encSlot L).length := by rw [rows_len3]; omega
      have hsp : splice (rows encSlot L) (i * 3) [.int .i64 x, .bool true, .int .i64 (n + 1)] = rows encSlot (L.set i ⟨x, true, n + 1⟩) := rows_splice encSlot_len (b := ⟨x, true, n + 1⟩) hlt
      have hidx : L.findIdx? (fun s => !s.full) = some i := by
        rw [List.findIdx?_eq_some_iff_getElem]
        exact ⟨hlt, by rw [hsl]; rfl, fun j hj => by simp [hf j (by omega) hj]⟩
      have hput : putA L x = some (L.set i ⟨x, true, n + 1⟩, (n + 1) * 1024 + i) := by simp only [putA, hidx, hi']
      have hcnt : ((L.set i ⟨x, true, n + 1⟩).countP (·.full) : Int) = L.countP (·.full) + 1 := by rw [count_set hi']; simp
      generalize hL' : L.set i ⟨x, true, n + 1⟩ = L' at hsp hput hcnt
      have hlen : L'.length = L.length := by rw [← hL']; simp
      have k1 : (s.put l.b (.blk l.st (rows encSlot L'))).h[a]? = some (.blk 0 [.msl l.b l.st 3 0 L.length (l.cap L.length), .int .i64 (L.countP (·.full))]) := by rw [put_other _ _ _ _ hal]; exact ha
      have k2 : (s.put l.b (.blk l.st (rows encSlot L'))).h[l.b]? = some (.blk l.st (rows encSlot L')) := put_same _ _ _ lb
      have hi2 : L'[i]? = some ⟨x, true, n + 1⟩ := by rw [← hL']; simp [hlt]
      have c3 : (rows encSlot L')[i * 3 + 2]? = some (.int .i64 (n + 1)) := rows_at encSlot_len hi2 (by decide)
      repeat (refine runB ?_)
      have hnw : (MSt.put (s.put l.b (.blk l.st (rows encSlot L'))) a (.blk 0 [.msl l.b l.st 3 0 L.length (l.cap L.length), .int .i64 ((L.countP (·.full) : Int) + 1)])) = putSt s a l L' := by
        unfold putSt; rw [hcnt, hlen]
      have k3 : (MSt.put (s.put l.b (.blk l.st (rows encSlot L'))) a (.blk 0 [.msl l.b l.st 3 0 L.length (l.cap L.length), .int .i64 ((L.countP (·.full) : Int) + 1)])).h[l.b]? = some (.blk l.st (rows encSlot L')) := by
        rw [put_other _ _ _ _ (Ne.symm hal)]; exact k2
      refine MCalls.mono (handle_spec _ l (i * 3) (rows encSlot L') (n + 1) i k3 c3) ?_
      rintro r s' ⟨rfl, rfl⟩
      repeat (refine runB ?_)
      refine leave ?_
      rw [hput]
      exact ⟨rfl, hnw⟩
    · have w5 : IntKind.i64.wrap ((i : Int) + 1) = ((i + 1 : Nat) : Int) := by rw [Go.IntWalk.i64_in _ (by omega)]; omega
      repeat (refine runB ?_)
      refine ⟨L.length - (i + 1), by omega, i + 1, rfl, by omega, (evE), (evE), (evE), (evE), rfl, fun j hj hji => ?_⟩
      by_cases e : j = i
      · subst e; rw [hsl]
      · exact hf j hj (by omega)
  · have g1 : ¬ (i : Int) < L.length := by omega
    repeat (refine runB ?_)
    refine leave ?_
    have : putA L x = none := by
      have : L.findIdx? (fun s => !s.full) = none := by
        rw [List.findIdx?_eq_none_iff]
        intro y hy
        obtain ⟨j, hj, rfl⟩ := List.getElem_of_mem hy
        simp [hf j hj (by omega)]
      simp only [putA, this]
    rw [this]
    exact ⟨rfl, rfl⟩

end Go.Mir
