/- Whatever the size and the acts, cordonlaw15.ArenaCopies returns true, and its arguments read as they did. Conditions: none. -/
import Derived.Test.YtbkbnchifeimpaaRows
import Derived.Test.YtbkbnchifeimpaaLaw15m
import Derived.Test.YtbkbnchifeimpaaMirC
import Derived.KernelRfl
set_option maxRecDepth 10000
set_option maxHeartbeats 2000000
set_option pp.deepTerms false
set_option pp.deepTerms.threshold 5
set_option linter.unusedSimpArgs false
set_option linter.unusedVariables false
namespace Go.Mir
open Go.Proofs
attribute [local irreducible] mops mopsD MOper mthen mcatch MCode MCalls MInv MRound Yld Stays
set_option maxRecDepth 100000

instance : CoC Try.prog 3 1 := ⟨by kernel_rfl⟩
instance : CoC Try.prog 30 4 := ⟨by kernel_rfl⟩
instance : RdC Try.prog 30 Act15 encAct (fun _ => True) := ⟨fun {H e w base spare held fuel cs x} h => by
  obtain ⟨xs, n, _, rfl, hl, hlen, hf⟩ := DataW.trod_struct Try.underlying30 h
  obtain ⟨a0, k0, _⟩ := rd_at (t := 3) (cs := (cs.drop 0).take (Try.prog.cellsOf 3)) (hf 0 _ rfl) (by rw [hlen]; decide)
  obtain ⟨a1, k1, _⟩ := rd_at (t := 3) (cs := (cs.drop 1).take (Try.prog.cellsOf 3)) (hf 1 _ rfl) (by rw [hlen]; decide)
  obtain ⟨a2, k2, _⟩ := rd_at (t := 3) (cs := (cs.drop 2).take (Try.prog.cellsOf 3)) (hf 2 _ rfl) (by rw [hlen]; decide)
  obtain ⟨a3, k3, _⟩ := rd_at (t := 3) (cs := (cs.drop 3).take (Try.prog.cellsOf 3)) (hf 3 _ rfl) (by rw [hlen]; decide)
  simp only [CoC.h, List.drop_zero] at k0 k1 k2 k3
  exact ⟨⟨a0, a1, a2, a3⟩, relL_whole (relL_take (relL_take (relL_take k0 k1) k2) k3) (by rw [hl, CoC.h]), trivial⟩⟩

end Go.Mir
namespace Go.Proofs.Ytbkbnchifeimpaa.ArenaCopiesRow
open Go.ChangeShapes Go.WideShapes Go.ChangeAt Go.RowKit Go.Mir
open Go.Proofs

theorem own : ownKnob Try.prog.godebug = none := by kernel_rfl
theorem laidOut : laidOutB Try.prog = true := by kernel_rfl

theorem lifted (os : Os) (started : os.Started) (H : Type) (enc : TypeId × Value → H) :
    ReturnsInHanded {} Try.checked os 5 .any (Rows.arenaCopiesSpec.pre6 enc Try.prog Try.f5 Rows.arenaCopiesRow.domain false) (Rows.arenaCopiesSpec.post enc Try.prog Try.f5 false true false false) := by
  refine returnsInHanded_of_change (C := Try.checked) own started (by kernel_rfl) Try.func5
    (ChangeSpec.witness6 (enc := enc) (C := Try.checked) false ⟨#[], #[.int .i64 0, .slice none 0 0, .slice none 0 0], []⟩ 8 (by kernel_rfl) (by kernel_rfl) (by kernel_rfl) (by kernel_rfl)) ?_
  intro W base args ds gs before hval0 hW hcnd _
  have hval : ∀ (j : Nat) t v, Try.f5.params[j]? = some t → args[j]? = some v → Value.okWide Try.prog W .any base t v := hval0
  have hW' := hW
  obtain ⟨p, q, hA0, hV, rfl, hfz, hnd⟩ := hW
  have hA : DataW.TrodAll enc Try.prog W 0 (fun _ => true) true Try.f5.params.toList args.toList ds p := hA0
  rw [Try.params5] at hA hval
  obtain ⟨v0, vs0, d0, ds0, p0, q0, hargs, rfl, rfl, h0, r0⟩ := trodAll_cons hA
  obtain ⟨v1, vs1, d1, ds1, p1, q1, rfl, rfl, rfl, h1, r1⟩ := trodAll_cons r0
  obtain ⟨v2, vs2, d2, ds2, p2, q2, rfl, rfl, rfl, h2, r2⟩ := trodAll_cons r1
  obtain ⟨rfl, rfl, rfl⟩ := trodAll_nil r2
  obtain rfl : args = #[v0, v1, v2] := by cases args; simp_all
  obtain ⟨rfl, rfl⟩ := trodVars_none hV
  have lt0 : ∀ x ∈ p0, x.block < W.heap.size := by obtain ⟨m, hm⟩ := h0; exact DataW.trod_lt m _ _ _ hm
  have lt1 : ∀ x ∈ p1, x.block < W.heap.size := by obtain ⟨m, hm⟩ := h1; exact DataW.trod_lt m _ _ _ hm
  have lt2 : ∀ x ∈ p2, x.block < W.heap.size := by obtain ⟨m, hm⟩ := h2; exact DataW.trod_lt m _ _ _ hm
  obtain ⟨n0, rfl⟩ := okWide_int Try.underlying3 (hval 0 3 v0 rfl rfl)
  obtain ⟨a1, len1, cap1, rfl⟩ := okWide_slice Try.underlying22 (hval 1 22 v1 rfl rfl)
  obtain ⟨a2, len2, cap2, rfl⟩ := okWide_slice Try.underlying22 (hval 2 22 v2 rfl rfl)
  obtain ⟨x0, m0, _⟩ := rd_arg h0 rfl
  obtain ⟨x1, m1, hx1, hl1⟩ := rd_arg h1 rfl
  obtain ⟨x2, m2, hx2, hl2⟩ := rd_arg h2 rfl
  clear hA0 hval0
  refine (law_calls (P := Try.prog) (f := 5) (args := [.int .i64 x0, sV encAct x1.nil x1.cap x1.l, sV encAct x2.nil x2.cap x2.l]) (fun s => copies_spec s x0 x1.nil x1.cap x1.l x2.nil x2.cap x2.l)
    (relL_cons (m0 _ rfl) (relL_cons (m1 _ rfl) (relL_one (m2 _ rfl))))).mono fun e W' ⟨he, bel⟩ => ?_
  subst he
  exact ⟨_, rfl, _, _, _, [], _, [], hW', trodAll_mk1 (shut_bool Try.underlying4 _), (trodAll_cons_mk (Below.trod laidOut (by kernel_rfl) (of_decide_eq_true (by kernel_rfl)) h0 bel lt0) (trodAll_cons_mk (Below.trod laidOut (by kernel_rfl) (of_decide_eq_true (by kernel_rfl)) h1 bel lt1) (trodAll_cons_mk (Below.trod laidOut (by kernel_rfl) (of_decide_eq_true (by kernel_rfl)) h2 bel lt2) trodAll_mk0))), rfl, bel.frame _, fun h => by cases h⟩

theorem over : Rows.arenaCopiesRow.holds Try.pinned (OpenSpec.ofChange Rows.arenaCopiesSpec) :=
  OpenClaim.holds_of_wide 5 Try.f5 rfl rfl rfl rfl rfl rfl rfl ⟨rfl, rfl, rfl, rfl, rfl⟩ rfl rfl rfl rfl rfl (by kernel_rfl) Try.func5 (by kernel_rfl)
    (of_decide_eq_true (by kernel_rfl)) (by unfold Func.isWrapper; first | (rw [if_pos (by decide +kernel)]; kernel_rfl) | (rw [if_neg (by decide +kernel)]; exact ⟨rfl, rfl⟩))
    (fun os started H enc _ => lifted os started H enc)

end Go.Proofs.Ytbkbnchifeimpaa.ArenaCopiesRow
namespace Go.Proofs.Ytbkbnchifeimpaa
theorem arenaCopies_holds : Rows.ArenaCopiesSaid := ArenaCopiesRow.over
#print axioms arenaCopies_holds
end Go.Proofs.Ytbkbnchifeimpaa
