
import Derived.Test.YtbkbnchifeimpaaFacts
import Derived.Test.YtbkbnchifeimpaaArena
import Derived.Test.YtbkbnchifeimpaaArena2
import Derived.Test.YtbkbnchifeimpaaArena3
import Derived.KernelRfl
set_option maxRecDepth 10000
set_option maxHeartbeats 2000000
set_option pp.deepTerms false
set_option pp.deepTerms.threshold 5
set_option linter.unusedSimpArgs false
set_option linter.unusedVariables false
namespace Go.Mir
open Go.Proofs
attribute [local irreducible] mops mopsD MOper mthen mcatch MCode MCalls MInv MRound Yld Stays

def newA (n : Nat) : List Slot := List.replicate n ⟨0, false, 0⟩

theorem new_spec (s : MSt) (n : Int) :
    MCalls Try.prog 8 [.int .i64 n] s fun r s' => if n < 1 ∨ n > 1024 then r = .nilptr ∧ s' = s else
      r = .ptr (s.h.length + 1) 0 0 ∧ s' = s.ext [.blk 0 (rows encSlot (newA n.toNat)), .blk 0 [.msl s.h.length 0 3 0 n.toNat (some n.toNat), .int .i64 0]] := by
  by_cases h1 : n < 1
  · refine enter (f := 8) ?_; first | refine mseq ?_ | refine mregionL ?_ | skip
    repeat (refine runB ?_)
    refine leave ?_
    rw [if_pos (.inl h1)]; exact ⟨rfl, rfl⟩
  · by_cases h2 : n > 1024
    · refine enter (f := 8) ?_; first | refine mseq ?_ | refine mregionL ?_ | skip
      repeat (refine runB ?_)
      refine leave ?_
      rw [if_pos (.inr h2)]; exact ⟨rfl, rfl⟩
    · obtain ⟨k, rfl⟩ : ∃ k : Nat, n = k := ⟨n.toNat, by omega⟩
      have g : (0 : Int) ≤ k ∧ (k : Int) ≤ k ∧ (24 : Int) * k ≤ 281474976710656 ∧ (k : Int) < 9223372036854775808 := by omega
      have hz := mzeros_rows encSlot_len (a := ⟨0, false, 0⟩) rfl (by decide) k
      simp only [encSlot] at hz
      refine enter (f := 8) ?_; first | refine mseq ?_ | refine mregionL ?_ | skip
      repeat (refine runB ?_)
      refine leave ?_
      rw [if_neg (by omega)]
      simp only [push_ext, ext_ext, ext_len, List.length_cons, List.length_nil, Nat.zero_add, Int.toNat_natCast]
      exact ⟨trivial, rfl⟩


theorem newA_AM (s : MSt) (k : Nat) (h1 : k ≤ 1024) : AM (s.ext [.blk 0 (rows encSlot (newA k)), .blk 0 [.msl s.h.length 0 3 0 k (some k), .int .i64 0]]) (s.h.length + 1) ⟨s.h.length, 0, some⟩ (newA k) := by
  refine ⟨?_, ?_, by simp [newA]; exact h1, ?_⟩
  · rw [ext_h, ext_at]; simp [newA, List.countP_replicate]
  · rw [ext_h, ext_at0]; rfl
  · intro x hx
    simp only [newA, List.mem_replicate] at hx
    obtain ⟨_, rfl⟩ := hx
    decide

/-- The iterator over an arena. -/
def allF (a : Nat) : MV := .func (.func 41) [] [.fptr [.ptr a 0 0] 0]

theorem all_spec (s : MSt) (a : Nat) (ha : a < s.h.length) :
    MCalls Try.prog 12 [.ptr a 0 0] s fun r s' => r = allF a ∧ s' = s := by
  refine mfreeze ?_
  refine enter (f := 12) ?_; first | refine mseq ?_ | refine mregionL ?_ | skip
  repeat (refine runB ?_)
  refine leave ?_
  refine ⟨allF a, [.blk 0 [.ptr a 0 0]], rfl, rfl, rfl, ?_, rfl, rfl⟩
  refine .func _ _ _ _ _ rfl rfl (fun j hj => absurd hj (by simp)) (fun j hj hj' => ?_)
  have : j = 0 := by simp at hj; omega
  subst this
  refine .ptrF s.h.length 0 0 [.ptr a 0 0] _ (by simp) (by simp [MSt.ext]) rfl (fun j hj hj' => ?_)
  have : j = 0 := by simp at hj; omega
  subst this
  exact .ptr a a 0 0 (by simp [ha])

def allA (i : Nat) : List Slot → List (Int × Int)
  | [] => []
  | s :: L => if s.full then (s.n * 1024 + i, s.x) :: allA (i + 1) L else allA (i + 1) L

def AMh (h : List MObj) (a : Nat) (l : Loc) (L : List Slot) : Prop := AM { h := h, ls := [], gl := fun _ => none } a l L
theorem AM_h {s : MSt} {a : Nat} {l : Loc} {L : List Slot} : AM s a l L ↔ AMh s.h a l L := Iff.rfl

def allW (a : Nat) (l : Loc) (L : List Slot) (p : Int × Int) : Word := ⟨[.int .i64 p.1, .int .i64 p.2], id, fun h => AMh h a l L⟩

theorem allF_seq (a : Nat) (l : Loc) (L : List Slot) : MSeqT Try.prog (allF a) (fun h => AMh h a l L) ((allA 0 L).map (allW a l L)) := by
  intro y s K hI hT
  have hI' := hI
  obtain ⟨ha, hl, hL, hn⟩ := hI
  simp only at ha hl
  refine minv (l := [y, .fptr [.ptr a 0 0] 0]) rfl ?_
  refine enter (f := 41) ?_; first | refine mseq ?_ | refine mregionL ?_ | skip
  repeat (first | refine runB ?_ | refine stepsD ?_ | with_reducible refine mregionX (id := 5) [0, 1, 3, 7, 15, 31, 31, 31, 223, 31, 543, 1567, 3615, 8191, 16383, 32767] [⟨0, false, []⟩, ⟨1, false, []⟩, ⟨2, false, []⟩, ⟨3, false, []⟩, ⟨4, false, []⟩, ⟨5, false, []⟩, ⟨6, false, []⟩, ⟨7, false, []⟩, ⟨8, false, []⟩, ⟨9, false, []⟩, ⟨10, false, []⟩, ⟨11, false, []⟩, ⟨12, false, []⟩, ⟨13, true, []⟩, ⟨14, false, []⟩, ⟨15, false, []⟩] (by kernel_rfl) ?_)
  refine mloop (fun m env st => ∃ i : Nat, m = L.length - i ∧ i ≤ L.length ∧ env 12 = .int .i64 i ∧ env 11 = .int .i64 L.length ∧ env 0 = y ∧ env 1 = .fptr [.ptr a 0 0] 0 ∧ AMh st.h a l L ∧
      IterT Try.prog y ((allA i (L.drop i)).map (allW a l L)) st K) L.length
    ⟨0, by omega, by omega, (evE), (evE), (evE), (evE), hI', by simpa using hT⟩ ?_
  rintro m env st ⟨i, hm, hi, e12, e11, e0, e1, hI, hT⟩
  have hI' := hI
  obtain ⟨ha, hl, hL, hn⟩ := hI
  simp only at ha hl
  by_cases hlt : i < L.length
  · have hi' : L[i]? = some L[i] := List.getElem?_eq_getElem hlt
    have hx := hn L[i] (List.getElem_mem hlt)
    have g1 : (i : Int) < L.length := by omega
    have g2 : (0 : Int) ≤ i ∧ (i : Int) < L.length := by omega
    have hdr : L.drop i = L[i] :: L.drop (i + 1) := List.drop_eq_getElem_cons hlt
    rw [hdr] at hT
    generalize hsl : L[i] = sl at hi' hx hT
    obtain ⟨x, full, n⟩ := sl
    simp only at hx
    have c0 : (rows encSlot L)[i * 3]? = some (.int .i64 x) := rows_at0 encSlot_len hi' (by decide)
    have c1 : (rows encSlot L)[i * 3 + 1]? = some (.bool full) := rows_at encSlot_len hi' (by decide)
    have c2 : (rows encSlot L)[i * 3 + 2]? = some (.int .i64 n) := rows_at encSlot_len hi' (by decide)
    have w5 : IntKind.i64.wrap ((i : Int) + 1) = ((i + 1 : Nat) : Int) := by rw [Go.IntWalk.i64_in _ (by omega)]; omega
    have w2 : IntKind.i64.wrap (n * 1024) = n * 1024 := Go.IntWalk.i64_in _ (by omega)
    have w3 : IntKind.i64.wrap (n * 1024 + i) = n * 1024 + i := Go.IntWalk.i64_in _ (by omega)
    cases full
    · simp only [allA, Bool.false_eq_true, if_false] at hT
      repeat (first | refine runB ?_ | refine stepsD ?_ | with_reducible refine mregionX (id := 5) [0, 1, 3, 7, 15, 31, 31, 31, 223, 31, 543, 1567, 3615, 8191, 16383, 32767] [⟨0, false, []⟩, ⟨1, false, []⟩, ⟨2, false, []⟩, ⟨3, false, []⟩, ⟨4, false, []⟩, ⟨5, false, []⟩, ⟨6, false, []⟩, ⟨7, false, []⟩, ⟨8, false, []⟩, ⟨9, false, []⟩, ⟨10, false, []⟩, ⟨11, false, []⟩, ⟨12, false, []⟩, ⟨13, true, []⟩, ⟨14, false, []⟩, ⟨15, false, []⟩] (by kernel_rfl) ?_)
      exact ⟨L.length - (i + 1), by omega, i + 1, rfl, by omega, (evE), (evE), (evE), (evE), hI', hT⟩
    · simp only [allA, if_true, List.map_cons, IterT, allW, withH_id] at hT
      repeat (first | refine runB ?_ | refine stepsD ?_ | with_reducible refine mregionX (id := 5) [0, 1, 3, 7, 15, 31, 31, 31, 223, 31, 543, 1567, 3615, 8191, 16383, 32767] [⟨0, false, []⟩, ⟨1, false, []⟩, ⟨2, false, []⟩, ⟨3, false, []⟩, ⟨4, false, []⟩, ⟨5, false, []⟩, ⟨6, false, []⟩, ⟨7, false, []⟩, ⟨8, false, []⟩, ⟨9, false, []⟩, ⟨10, false, []⟩, ⟨11, false, []⟩, ⟨12, false, []⟩, ⟨13, true, []⟩, ⟨14, false, []⟩, ⟨15, false, []⟩] (by kernel_rfl) ?_)
      first | refine stepD_c evL (handle_spec st l (i * 3) (rows encSlot L) n i hl c2) ?_ | refine stepD_ci evE evB rfl evL (handle_spec st l (i * 3) (rows encSlot L) n i hl c2) ?_
      rw [w2, w3]
      repeat (first | refine runB ?_ | refine stepsD ?_ | with_reducible refine mregionX (id := 5) [0, 1, 3, 7, 15, 31, 31, 31, 223, 31, 543, 1567, 3615, 8191, 16383, 32767] [⟨0, false, []⟩, ⟨1, false, []⟩, ⟨2, false, []⟩, ⟨3, false, []⟩, ⟨4, false, []⟩, ⟨5, false, []⟩, ⟨6, false, []⟩, ⟨7, false, []⟩, ⟨8, false, []⟩, ⟨9, false, []⟩, ⟨10, false, []⟩, ⟨11, false, []⟩, ⟨12, false, []⟩, ⟨13, true, []⟩, ⟨14, false, []⟩, ⟨15, false, []⟩] (by kernel_rfl) ?_)
      refine oper_callf evE evL ?_
      refine hT.mono ?_
      rintro r s' ⟨hC, hr⟩
      rcases hr with ⟨rfl, hT⟩ | ⟨rfl, hK⟩
      · repeat (first | refine runB ?_ | refine stepsD ?_ | with_reducible refine mregionX (id := 5) [0, 1, 3, 7, 15, 31, 31, 31, 223, 31, 543, 1567, 3615, 8191, 16383, 32767] [⟨0, false, []⟩, ⟨1, false, []⟩, ⟨2, false, []⟩, ⟨3, false, []⟩, ⟨4, false, []⟩, ⟨5, false, []⟩, ⟨6, false, []⟩, ⟨7, false, []⟩, ⟨8, false, []⟩, ⟨9, false, []⟩, ⟨10, false, []⟩, ⟨11, false, []⟩, ⟨12, false, []⟩, ⟨13, true, []⟩, ⟨14, false, []⟩, ⟨15, false, []⟩] (by kernel_rfl) ?_)
        exact ⟨L.length - (i + 1), by omega, i + 1, rfl, by omega, (evE), (evE), (evE), (evE), hC, hT⟩
      · repeat (first | refine runB ?_ | refine stepsD ?_ | with_reducible refine mregionX (id := 5) [0, 1, 3, 7, 15, 31, 31, 31, 223, 31, 543, 1567, 3615, 8191, 16383, 32767] [⟨0, false, []⟩, ⟨1, false, []⟩, ⟨2, false, []⟩, ⟨3, false, []⟩, ⟨4, false, []⟩, ⟨5, false, []⟩, ⟨6, false, []⟩, ⟨7, false, []⟩, ⟨8, false, []⟩, ⟨9, false, []⟩, ⟨10, false, []⟩, ⟨11, false, []⟩, ⟨12, false, []⟩, ⟨13, true, []⟩, ⟨14, false, []⟩, ⟨15, false, []⟩] (by kernel_rfl) ?_)
        refine leave ?_
        exact hK
  · have g1 : ¬ (i : Int) < L.length := by omega
    have hd : L.drop i = [] := List.drop_eq_nil_of_le (by omega)
    rw [hd] at hT
    repeat (first | refine runB ?_ | refine stepsD ?_ | with_reducible refine mregionX (id := 5) [0, 1, 3, 7, 15, 31, 31, 31, 223, 31, 543, 1567, 3615, 8191, 16383, 32767] [⟨0, false, []⟩, ⟨1, false, []⟩, ⟨2, false, []⟩, ⟨3, false, []⟩, ⟨4, false, []⟩, ⟨5, false, []⟩, ⟨6, false, []⟩, ⟨7, false, []⟩, ⟨8, false, []⟩, ⟨9, false, []⟩, ⟨10, false, []⟩, ⟨11, false, []⟩, ⟨12, false, []⟩, ⟨13, true, []⟩, ⟨14, false, []⟩, ⟨15, false, []⟩] (by kernel_rfl) ?_)
    refine leave ?_
    exact hT

end Go.Mir
