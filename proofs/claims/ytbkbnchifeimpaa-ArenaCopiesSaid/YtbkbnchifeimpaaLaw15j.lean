import Derived.Test.YtbkbnchifeimpaaFacts
import Derived.Test.YtbkbnchifeimpaaArenaNil
import Derived.Test.YtbkbnchifeimpaaLaw15g
import Derived.Test.YtbkbnchifeimpaaLaw15i
import Derived.KernelRfl
set_option maxRecDepth 10000
set_option maxHeartbeats 2000000
set_option pp.deepTerms false
set_option pp.deepTerms.threshold 5
set_option linter.unusedSimpArgs false
set_option linter.unusedVariables false
namespace Go.Mir
open Go.Proofs
attribute [local irreducible] mops mopsD MOper mthen mcatch MCode MCalls MInv MRound Yld Stays
set_option maxRecDepth 100000

theorem AM_lt {s : MSt} {a : Nat} {l : Loc} {L : List Slot} (h : AM s a l L) : a < s.h.length ∧ l.b < s.h.length ∧ a ≠ l.b := by
  have ha := (List.getElem?_eq_some_iff.1 h.1).1
  have hb := (List.getElem?_eq_some_iff.1 h.2.1).1
  refine ⟨ha, hb, fun e => ?_⟩
  have h1 := h.1
  rw [e, h.2.1] at h1
  simp only [Option.some.injEq, MObj.blk.injEq] at h1
  have := congrArg List.length h1.2
  rw [rows_len3] at this
  simp at this; omega
theorem AM_ext {s : MSt} {a : Nat} {l : Loc} {L : List Slot} {J : List MObj} (h : AM s a l L) : AM (s.ext J) a l L :=
  ⟨by rw [ext_lo (AM_lt h).1]; exact h.1, by rw [ext_lo (AM_lt h).2.1]; exact h.2.1, h.2.2⟩
theorem putSt_len {s : MSt} {a : Nat} {l : Loc} {L : List Slot} : (putSt s a l L).h.length = s.h.length := by rw [putSt, put_len, put_len]
theorem putSt_self {s : MSt} {a : Nat} {l : Loc} {L : List Slot} (h : AM s a l L) : putSt s a l L = s := by
  rw [putSt, ← put_same' h.2.1, ← put_same' h.1]
theorem put_swap {s : MSt} {a b : Nat} {x y : MObj} (h : a ≠ b) : (s.put a x).put b y = (s.put b y).put a x := by
  simp only [MSt.put]; rw [List.set_comm _ _ h]
theorem putSt_putSt {s : MSt} {a : Nat} {l : Loc} {L L' : List Slot} (h : a ≠ l.b) : putSt (putSt s a l L) a l L' = putSt s a l L' := by
  have e : ∀ (t : MSt) (x y : MObj), (t.put a x).put l.b y = (t.put l.b y).put a x := fun t x y => put_swap h
  unfold putSt
  rw [e, put_pt, put_pt]
theorem putSt_ext {s : MSt} {a : Nat} {l : Loc} {L : List Slot} {J : List MObj} (ha : a < s.h.length) (hl : l.b < s.h.length) : putSt (s.ext J) a l L = (putSt s a l L).ext J := by
  rw [putSt, putSt, ext_put_lo hl, ext_put_lo (by rw [put_len]; exact ha)]
theorem putSt_set {s : MSt} {a : Nat} {l : Loc} {L L' : List Slot} (h : a ≠ l.b) (hl : L'.length = L.length) (hc : L'.countP (·.full) = L.countP (·.full)) : (putSt s a l L).put l.b (.blk l.st (rows encSlot L')) = putSt s a l L' := by
  have e : ∀ (t : MSt) (x y : MObj), (t.put a x).put l.b y = (t.put l.b y).put a x := fun t x y => put_swap h
  unfold putSt
  rw [e, put_pt, hl, hc]

theorem setA_same (L : List Slot) (h x : Int) : (setA L h x).length = L.length ∧ (setA L h x).countP (·.full) = L.countP (·.full) := by
  unfold setA
  split
  · split
    · rename_i s hs; exact ⟨by simp, count_full hs rfl⟩
    · exact ⟨rfl, rfl⟩
  · exact ⟨rfl, rfl⟩
theorem dropA_none {L : List Slot} {h : Int} (hf : findA L h = none) : dropA L h = L := by simp only [dropA, hf]

section
variable {s : MSt} {a : Nat} {l : Loc} {M : List Slot} {J : List MObj} {x h : Int}
theorem dput (hA : AM (putSt s a l M) a l M) (hl : a < s.h.length ∧ l.b < s.h.length ∧ a ≠ l.b) : MCalls Try.prog 10 [.ptr a 0 0, .int .i64 x] ((putSt s a l M).ext J) fun _ s' => s' = (putSt s a l (match putA M x with | some (L', _) => L' | none => M)).ext J :=
  (put_spec _ a l M x (AM_ext hA)).mono fun r s' h => by
    cases hp : putA M x with
    | none => rw [hp] at h; exact h.2
    | some p => rw [hp] at h; exact h.2.trans (by rw [putSt_ext (by rw [putSt_len]; exact hl.1) (by rw [putSt_len]; exact hl.2.1), putSt_putSt hl.2.2])
theorem dset (hA : AM (putSt s a l M) a l M) (hl : a < s.h.length ∧ l.b < s.h.length ∧ a ≠ l.b) : MCalls Try.prog 15 [.ptr a 0 0, .int .i64 h, .int .i64 x] ((putSt s a l M).ext J) fun _ s' => s' = (putSt s a l (setA M h x)).ext J :=
  (set_spec _ a l M h x (AM_ext hA)).mono fun r s' h' => by
    rw [h'.2, ext_put_lo (by rw [putSt_len]; exact hl.2.1), putSt_set hl.2.2 (setA_same M h x).1 (setA_same M h x).2]
theorem ddrop (hA : AM (putSt s a l M) a l M) (hl : a < s.h.length ∧ l.b < s.h.length ∧ a ≠ l.b) : MCalls Try.prog 13 [.ptr a 0 0, .int .i64 h] ((putSt s a l M).ext J) fun _ s' => s' = (putSt s a l (dropA M h)).ext J :=
  (drop_spec _ a l M h (AM_ext hA)).mono fun r s' h' => by
    rw [h'.2]
    cases hf : findA M h with
    | none => rw [dropA_none hf]; rfl
    | some k =>
      simp only [Option.isSome_some, if_true]
      rw [putSt_ext (by rw [putSt_len]; exact hl.1) (by rw [putSt_len]; exact hl.2.1), putSt_putSt hl.2.2]
end

attribute [local irreducible] putSt
theorem do_spec (s : MSt) (a : Nat) (l : Loc) (L : List Slot) (b : Nat) (cap : Option Nat) (acts : List Act15) (hA : AM s a l L) (hn : ∀ x ∈ L, 0 ≤ x.n ∧ x.n ≤ 1000000) (h60 : acts.length ≤ 60) :
    MCalls Try.prog 23 [.ptr a 0 0, sV encAct b cap acts] s fun r s' => ∃ J, s' = (putSt s a l (doA L acts)).ext J := by
  have hl := AM_lt hA
  have hL := hA.2.2.1
  refine enter (f := 23) ?_; first | refine mseq ?_ | refine mregionL ?_ | skip
  repeat (first | refine runB ?_ | refine stepsD ?_ | with_reducible refine mregionX (id := 3) [0, 1, 0, 4, 15, 31, 63, 63, 127, 511] [⟨0, false, []⟩, ⟨1, false, []⟩, ⟨2, false, []⟩, ⟨3, false, []⟩, ⟨4, false, []⟩, ⟨5, false, []⟩, ⟨6, false, []⟩, ⟨7, false, []⟩, ⟨8, false, []⟩, ⟨9, false, []⟩] (by kernel_rfl) ?_)
  refine mloop (fun m env st => ∃ (i : Nat) (M : List Slot) (J : List MObj), m = acts.length - i ∧ i ≤ acts.length ∧ env 0 = .ptr a 0 0 ∧ env 8 = sV encAct b cap acts ∧ env 9 = .int .i64 acts.length ∧ env 10 = .int .i64 i ∧ st = (putSt s a l M).ext J ∧
      M = doA L (acts.take i) ∧ M.length = L.length ∧ ∀ x ∈ M, 0 ≤ x.n ∧ x.n ≤ 1000000 + i) acts.length
    ⟨0, L, [], by omega, by omega, evE, evE, evE, evE, by rw [putSt_self hA, ext_nil], rfl, rfl, by simpa using hn⟩ ?_
  rintro m env st ⟨i, M, J, hm, hi, e0, e8, e9, e10, rfl, hM, hML, hMn⟩
  have hAM : AM (putSt s a l M) a l M := putSt_AM hA hML fun x hx => by have := hMn x hx; omega
  have H := Hid.mk (⟨hM, hML, hMn⟩ : M = doA L (acts.take i) ∧ M.length = L.length ∧ ∀ x ∈ M, 0 ≤ x.n ∧ x.n ≤ 1000000 + i)
  have HA := Hid.mk hAM
  have HN := Hid.mk hn
  have hpl : (putSt s a l M).h.length = s.h.length := putSt_len
  have HP := Hid.mk hpl
  clear hM hML hMn hAM hn hpl
  by_cases hlt : i < acts.length
  · have hstep : doA L (acts.take (i + 1)) = doA1 M acts[i] := by
      rw [List.take_add_one, List.getElem?_eq_getElem hlt, H.out.1, doA, List.foldl_append]; rfl
    have HS := Hid.mk hstep; clear hstep
    repeat (first | refine runB ?_ | refine stepsD ?_ | with_reducible refine mregionX (id := 3) [0, 1, 0, 4, 15, 31, 63, 63, 127, 511] [⟨0, false, []⟩, ⟨1, false, []⟩, ⟨2, false, []⟩, ⟨3, false, []⟩, ⟨4, false, []⟩, ⟨5, false, []⟩, ⟨6, false, []⟩, ⟨7, false, []⟩, ⟨8, false, []⟩, ⟨9, false, []⟩] (by kernel_rfl) ?_)
    first | refine stepD_c evL (all_spec _ a (by rw [ext_len, HP.out]; omega)) ?_ | refine stepD_ci evE evB rfl evL (all_spec _ a (by rw [ext_len, HP.out]; omega)) ?_
    repeat (first | refine runB ?_ | refine stepsD ?_ | with_reducible refine mregionX (id := 3) [0, 1, 0, 4, 15, 31, 63, 63, 127, 511] [⟨0, false, []⟩, ⟨1, false, []⟩, ⟨2, false, []⟩, ⟨3, false, []⟩, ⟨4, false, []⟩, ⟨5, false, []⟩, ⟨6, false, []⟩, ⟨7, false, []⟩, ⟨8, false, []⟩, ⟨9, false, []⟩] (by kernel_rfl) ?_)
    first | refine stepD_c evL (some_spec _ a l M acts[i].old (AM_ext HA.out)) ?_ | refine stepD_ci evE evB rfl evL (some_spec _ a l M acts[i].old (AM_ext HA.out)) ?_
    have H1 : Hid (doA1 M acts[i] = doA1 M acts[i]) := ⟨rfl⟩
    have fin : ∀ (M' : List Slot), M' = doA1 M acts[i] → M' = doA L (acts.take (i + 1)) ∧ M'.length = L.length ∧ ∀ x ∈ M', 0 ≤ x.n ∧ x.n ≤ 1000000 + ((i + 1 : Nat) : Int) := fun M' e => by
      obtain ⟨h1, h2⟩ := doA1_ok (x := acts[i]) H.out.2.2
      subst e
      exact ⟨HS.out.symm, by rw [h1, H.out.2.1], fun x hx => by have := h2 x hx; omega⟩
    have FIN := Hid.mk fin; clear fin
    by_cases k0 : acts[i].kind.tmod 3 = 0
    · have hd : (match putA M acts[i].x with | some (L', _) => L' | none => M) = doA1 M acts[i] := (if_pos k0).symm
      have HD := Hid.mk hd; clear hd
      repeat (first | refine runB ?_ | refine stepsD ?_ | with_reducible refine mregionX (id := 3) [0, 1, 0, 4, 15, 31, 63, 63, 127, 511] [⟨0, false, []⟩, ⟨1, false, []⟩, ⟨2, false, []⟩, ⟨3, false, []⟩, ⟨4, false, []⟩, ⟨5, false, []⟩, ⟨6, false, []⟩, ⟨7, false, []⟩, ⟨8, false, []⟩, ⟨9, false, []⟩] (by kernel_rfl) ?_)
      refine MCalls.mono (dput HA.out hl) ?_
      rintro r _ rfl
      rw [HD.out]
      repeat (first | refine runB ?_ | refine stepsD ?_ | with_reducible refine mregionX (id := 3) [0, 1, 0, 4, 15, 31, 63, 63, 127, 511] [⟨0, false, []⟩, ⟨1, false, []⟩, ⟨2, false, []⟩, ⟨3, false, []⟩, ⟨4, false, []⟩, ⟨5, false, []⟩, ⟨6, false, []⟩, ⟨7, false, []⟩, ⟨8, false, []⟩, ⟨9, false, []⟩] (by kernel_rfl) ?_)
      exact ⟨acts.length - (i + 1), by omega, i + 1, _, _, rfl, by omega, evE, evE, evE, evE, rfl, FIN.out _ rfl⟩
    · cases hp : pick15 ((allA 0 M).map (·.1)) acts[i].old with
      | none =>
        have hd : M = doA1 M acts[i] := by simp only [doA1, if_neg k0, hp]
        have HD := Hid.mk hd; clear hd
        have h1 : (pick15 ((allA 0 M).map (·.1)) acts[i].old).isSome = false := by rw [hp]; rfl
        repeat (first | refine runB ?_ | refine stepsD ?_ | with_reducible refine mregionX (id := 3) [0, 1, 0, 4, 15, 31, 63, 63, 127, 511] [⟨0, false, []⟩, ⟨1, false, []⟩, ⟨2, false, []⟩, ⟨3, false, []⟩, ⟨4, false, []⟩, ⟨5, false, []⟩, ⟨6, false, []⟩, ⟨7, false, []⟩, ⟨8, false, []⟩, ⟨9, false, []⟩] (by kernel_rfl) ?_)
        exact ⟨acts.length - (i + 1), by omega, i + 1, M, _, rfl, by omega, evE, evE, evE, evE, rfl, FIN.out _ HD.out⟩
      | some h =>
        have h1 : (pick15 ((allA 0 M).map (·.1)) acts[i].old).isSome = true := by rw [hp]; rfl
        have h2 : (pick15 ((allA 0 M).map (·.1)) acts[i].old).getD 0 = h := by rw [hp]; rfl
        by_cases k1 : acts[i].kind.tmod 3 = 1
        · have hd : setA M h acts[i].x = doA1 M acts[i] := by simp only [doA1, if_neg k0, hp, if_pos k1]
          have HD := Hid.mk hd; clear hd
          clear hp
          repeat (first | refine runB ?_ | refine stepsD ?_ | with_reducible refine mregionX (id := 3) [0, 1, 0, 4, 15, 31, 63, 63, 127, 511] [⟨0, false, []⟩, ⟨1, false, []⟩, ⟨2, false, []⟩, ⟨3, false, []⟩, ⟨4, false, []⟩, ⟨5, false, []⟩, ⟨6, false, []⟩, ⟨7, false, []⟩, ⟨8, false, []⟩, ⟨9, false, []⟩] (by kernel_rfl) ?_)
          refine MCalls.mono (dset HA.out hl) ?_
          rintro r _ rfl
          rw [Option.getD_some, HD.out]
          repeat (first | refine runB ?_ | refine stepsD ?_ | with_reducible refine mregionX (id := 3) [0, 1, 0, 4, 15, 31, 63, 63, 127, 511] [⟨0, false, []⟩, ⟨1, false, []⟩, ⟨2, false, []⟩, ⟨3, false, []⟩, ⟨4, false, []⟩, ⟨5, false, []⟩, ⟨6, false, []⟩, ⟨7, false, []⟩, ⟨8, false, []⟩, ⟨9, false, []⟩] (by kernel_rfl) ?_)
          exact ⟨acts.length - (i + 1), by omega, i + 1, _, _, rfl, by omega, evE, evE, evE, evE, rfl, FIN.out _ rfl⟩
        · have hd : dropA M h = doA1 M acts[i] := by simp only [doA1, if_neg k0, hp, if_neg k1]
          have HD := Hid.mk hd; clear hd
          clear hp
          repeat (first | refine runB ?_ | refine stepsD ?_ | with_reducible refine mregionX (id := 3) [0, 1, 0, 4, 15, 31, 63, 63, 127, 511] [⟨0, false, []⟩, ⟨1, false, []⟩, ⟨2, false, []⟩, ⟨3, false, []⟩, ⟨4, false, []⟩, ⟨5, false, []⟩, ⟨6, false, []⟩, ⟨7, false, []⟩, ⟨8, false, []⟩, ⟨9, false, []⟩] (by kernel_rfl) ?_)
          refine MCalls.mono (ddrop HA.out hl) ?_
          rintro r _ rfl
          rw [Option.getD_some, HD.out]
          repeat (first | refine runB ?_ | refine stepsD ?_ | with_reducible refine mregionX (id := 3) [0, 1, 0, 4, 15, 31, 63, 63, 127, 511] [⟨0, false, []⟩, ⟨1, false, []⟩, ⟨2, false, []⟩, ⟨3, false, []⟩, ⟨4, false, []⟩, ⟨5, false, []⟩, ⟨6, false, []⟩, ⟨7, false, []⟩, ⟨8, false, []⟩, ⟨9, false, []⟩] (by kernel_rfl) ?_)
          exact ⟨acts.length - (i + 1), by omega, i + 1, _, _, rfl, by omega, evE, evE, evE, evE, rfl, FIN.out _ rfl⟩
  · repeat (first | refine runB ?_ | refine stepsD ?_ | with_reducible refine mregionX (id := 3) [0, 1, 0, 4, 15, 31, 63, 63, 127, 511] [⟨0, false, []⟩, ⟨1, false, []⟩, ⟨2, false, []⟩, ⟨3, false, []⟩, ⟨4, false, []⟩, ⟨5, false, []⟩, ⟨6, false, []⟩, ⟨7, false, []⟩, ⟨8, false, []⟩, ⟨9, false, []⟩] (by kernel_rfl) ?_)
    refine leave ?_
    have := H.out.1
    rw [List.take_of_length_le (by omega)] at this
    subst this
    exact ⟨_, rfl⟩

end Go.Mir
