import Derived.Test.YtbkbnchifeimpaaFacts
import Derived.Test.YtbkbnchifeimpaaTree
import Derived.Test.YtbkbnchifeimpaaArenaNil
import Derived.Test.YtbkbnchifeimpaaLaw15g
import Derived.Test.YtbkbnchifeimpaaLaw15i
import Derived.Test.YtbkbnchifeimpaaLaw15j
import Derived.Test.YtbkbnchifeimpaaLaw15k
import Derived.Test.YtbkbnchifeimpaaLaw15l
import Derived.KernelRfl
set_option maxRecDepth 10000
set_option maxHeartbeats 2000000
set_option pp.deepTerms false
set_option pp.deepTerms.threshold 5
set_option linter.unusedSimpArgs false
set_option linter.unusedVariables false
namespace Go.Mir
open Go.Proofs
attribute [local irreducible] mops mopsD MOper mthen mcatch MCode MCalls MInv MRound Yld Stays
set_option maxRecDepth 100000

theorem allc_spec (s : MSt) (a : Nat) (l : Loc) (L : List Slot) (hA : AM s a l L) :
    MCalls Try.prog 17 [allF a] s fun r s' => ∃ b1 c1 b2 c2, r = .tuple [sV encInt b1 c1 ((allA 0 L).map (·.1)), sV encInt b2 c2 ((allA 0 L).map (·.2))] ∧ s' = s := by
  refine (allq_spec s a l L hA).mono ?_
  rintro r _ ⟨v1, v2, rfl, f1, f2, rfl⟩
  obtain ⟨b1, c1, rfl⟩ := f1.sV
  obtain ⟨b2, c2, rfl⟩ := f2.sV
  exact ⟨b1, c1, b2, c2, rfl, rfl⟩

theorem new_AM (s : MSt) (k : Nat) (hk : 1 ≤ k ∧ k ≤ 8) : AM (s.ext [.blk 0 (rows encSlot (newA k)), .blk 0 [.msl s.h.length 0 3 0 k (some k), .int .i64 0]]) (s.h.length + 1) ⟨s.h.length, 0, some⟩ (newA k) := by
  refine ⟨?_, ?_, by simp [newA]; omega, fun x hx => ?_⟩
  · rw [ext_hi (by omega), Nat.add_sub_cancel_left]; simp [newA, List.countP_replicate]
  · dsimp only
    rw [ext_hi (by omega), Nat.sub_self]; rfl
  · obtain ⟨_, rfl⟩ := List.mem_replicate.1 hx
    exact ⟨by decide, by decide⟩

theorem copies_spec (s : MSt) (size : Int) (b1 : Nat) (c1 : Option Nat) (l : List Act15) (b2 : Nat) (c2 : Option Nat) (more : List Act15) :
    MCalls Try.prog 5 [.int .i64 size, sV encAct b1 c1 l, sV encAct b2 c2 more] s fun r s' => r = .bool true ∧ s' = s := by
  refine mfreeze ?_
  obtain ⟨k, hk, e⟩ : ∃ k : Nat, (1 ≤ k ∧ k ≤ 8) ∧ IntKind.i64.wrap (1 + IntKind.i64.wrap ((IntKind.u64.wrap size).tmod 8)) = k := by
    have := wrap_u64_rng size
    generalize IntKind.u64.wrap size = u at this ⊢
    rw [Int.tmod_eq_emod_of_nonneg this.1]
    refine ⟨(1 + u % 8).toNat, by omega, ?_⟩
    rw [wrap_i64_c (n := u % 8) (by omega), wrap_i64_c (by omega)]
    omega
  have hn0 : ∀ x ∈ newA k, 0 ≤ x.n ∧ x.n ≤ 0 := fun x hx => by
    obtain ⟨_, rfl⟩ := List.mem_replicate.1 hx
    exact ⟨by decide, by decide⟩
  refine enter (f := 5) ?_; first | refine mseq ?_ | refine mregionL ?_ | skip
  repeat (refine runB ?_)
  refine new_call k (by omega) ?_
  by_cases h1 : 60 < l.length
  · repeat (refine runB ?_)
    refine leave ?_
    exact freeze_end (K := fun r s' => r = .bool true ∧ s' = s) ⟨_, rfl⟩ rfl ⟨rfl, rfl⟩
  by_cases h2 : 60 < more.length
  · repeat (refine runB ?_)
    refine leave ?_
    exact freeze_end (K := fun r s' => r = .bool true ∧ s' = s) ⟨_, rfl⟩ rfl ⟨rfl, rfl⟩
  repeat (refine runB ?_)
  refine oper_fv evE rfl evL ?_
  refine MCalls.mono (do_abs _ _ ⟨s.h.length, 0, some⟩ (newA k) b1 c1 l 0 (new_AM s k hk) hn0 (by decide) (by omega)) ?_
  intro r st1 hD
  have G1 := hD.grow s ⟨_, rfl⟩ (by omega) (Nat.le_refl _)
  have A1 := hD.hA
  clear hD
  generalize hM : doA (newA k) l = M at A1
  have hMok := doA_ok l hn0
  rw [hM] at hMok
  clear hM hn0
  have hMl : 0 < M.length := by rw [hMok.1]; simp [newA]; omega
  repeat (refine runB ?_)
  refine MCalls.mono (copy_abs _ _ _ M A1 hMl) ?_
  rintro r st2 ⟨c, l', rfl, hC⟩
  have ha1 := AM_lt A1
  have G2 := G1.trans hC.grow
  have A2 : AM st2 (s.h.length + 1) ⟨s.h.length, 0, some⟩ M := by
    obtain ⟨J, rfl⟩ := hC.grow
    exact AM_ext A1
  have B2 := hC.hA
  have hc1 := hC.lc
  have hc2 := hC.lb
  have hs1 := G1.len
  have hlen : ∀ M : List Slot, M.length ≤ 1024 → (allA 0 M).length ≤ 1024 := fun M h => by rw [allA_len]; exact Nat.le_trans List.countP_le_length h
  have hM1 := hlen M A1.2.2.1
  clear hC A1 G1
  have ha2 := AM_lt A2
  have hb2 := AM_lt B2
  dsimp only at ha1
  repeat (refine runB ?_)
  refine mto (all_spec _ _ ha2.1) ?_
  repeat (refine runB ?_)
  refine MCalls.mono (allc_spec _ _ _ M A2) ?_
  rintro _ _ ⟨p1, q1, p2, q2, rfl, e'⟩
  obtain rfl := e'.symm
  repeat (refine runB ?_)
  refine mto (all_spec _ _ hb2.1) ?_
  repeat (refine runB ?_)
  refine MCalls.mono (allc_spec _ _ _ M B2) ?_
  rintro _ _ ⟨p3, q3, p4, q4, rfl, e'⟩
  obtain rfl := e'.symm
  repeat (refine runB ?_)
  refine mto (psame sV_FS sV_FS rfl (by rw [List.length_map]; omega)) ?_
  repeat (refine runB ?_)
  refine mto (psame sV_FS sV_FS rfl (by rw [List.length_map]; omega)) ?_
  repeat (refine runB ?_)
  refine oper_fv evE rfl evL ?_
  refine MCalls.mono (do_abs _ c l' M b2 c2 more (0 + l.length) B2 hMok.2 (by omega) (by omega)) ?_
  intro r st3 hD
  have G3 := hD.grow s G2 (by omega) (by omega)
  have B3 := hD.hA
  have A3 := hD.stay _ _ _ A2 (by omega) (by omega) (by dsimp only; omega) (by dsimp only; omega)
  clear hD
  have ha3 := AM_lt A3
  have hb3 := AM_lt B3
  repeat (refine runB ?_)
  refine mto (all_spec _ _ ha3.1) ?_
  repeat (refine runB ?_)
  refine MCalls.mono (allc_spec _ _ _ M A3) ?_
  rintro _ _ ⟨p5, q5, p6, q6, rfl, e'⟩
  obtain rfl := e'.symm
  repeat (refine runB ?_)
  refine mto (psame sV_FS sV_FS rfl (by rw [List.length_map]; omega)) ?_
  repeat (refine runB ?_)
  refine mto (psame sV_FS sV_FS rfl (by rw [List.length_map]; omega)) ?_
  repeat (refine runB ?_)
  refine mto (len_spec _ _ _ M A3) ?_
  have hc : M.countP (·.full) ≤ (allA 0 M).length ∧ (allA 0 M).length ≤ M.countP (·.full) := by rw [allA_len]; exact ⟨Nat.le_refl _, Nat.le_refl _⟩
  repeat (refine runB ?_)
  refine oper_fv evE rfl evL ?_
  refine MCalls.mono (do_abs _ _ ⟨s.h.length, 0, some⟩ M b2 c2 more (0 + l.length) A3 hMok.2 (by omega) (by omega)) ?_
  intro r st4 hD
  have G4 := hD.grow s G3 (by omega) (Nat.le_refl _)
  have A4 := hD.hA
  have B4 := hD.stay _ _ _ B3 (by omega) (by dsimp only; omega) (by omega) (by dsimp only; omega)
  clear hD
  have ha4 := AM_lt A4
  have hb4 := AM_lt B4
  have hM4 := hlen _ A4.2.2.1
  repeat (refine runB ?_)
  refine mto (all_spec _ _ ha4.1) ?_
  repeat (refine runB ?_)
  refine MCalls.mono (allc_spec _ _ _ _ A4) ?_
  rintro _ _ ⟨p7, q7, p8, q8, rfl, e'⟩
  obtain rfl := e'.symm
  repeat (refine runB ?_)
  refine mto (all_spec _ _ hb4.1) ?_
  repeat (refine runB ?_)
  refine MCalls.mono (allc_spec _ _ _ _ B4) ?_
  rintro _ _ ⟨p9, q9, p10, q10, rfl, e'⟩
  obtain rfl := e'.symm
  repeat (refine runB ?_)
  refine mto (psame sV_FS sV_FS rfl (by rw [List.length_map]; omega)) ?_
  repeat (refine runB ?_)
  refine mto (psame sV_FS sV_FS rfl (by rw [List.length_map]; omega)) ?_
  repeat (refine runB ?_)
  refine leave ?_
  exact freeze_end (K := fun r s' => r = .bool true ∧ s' = s) G4 rfl ⟨rfl, rfl⟩

end Go.Mir
