import Derived.Test.YtbkbnchifeimpaaFacts
import Derived.Test.YtbkbnchifeimpaaTree
import Derived.Test.YtbkbnchifeimpaaArenaNil
import Derived.Test.YtbkbnchifeimpaaLaw15g
import Derived.Test.YtbkbnchifeimpaaLaw15i
import Derived.Test.YtbkbnchifeimpaaLaw15j
import Derived.KernelRfl
set_option maxRecDepth 10000
set_option maxHeartbeats 2000000
set_option pp.deepTerms false
set_option pp.deepTerms.threshold 5
set_option linter.unusedSimpArgs false
set_option linter.unusedVariables false
namespace Go.Mir
open Go.Proofs
attribute [local irreducible] mops mopsD MOper mthen mcatch MCode MCalls MInv MRound Yld Stays
set_option maxRecDepth 100000

instance : FlatC encSlot := ⟨fun _ => rfl⟩
theorem msrc_msl {α : Type} {enc : α → List MV} {s : MSt} {β st sz : Nat} {cap : Option Nat} {X : List α} [d : EncC enc sz] (h : s.h[β]? = some (.blk st (rows enc X))) : msrc s sz (.msl β st sz 0 X.length cap) = some (X.length, rows enc X) := by
  have hl := rows_len d.h X
  simp [msrc, mlenOf, mcellsOf, live_blk h, h, ← hl]
theorem oper_app0 {α : Type} {P : Program} {enc : α → List MV} {sz t xt e b : Nat} {dx : TypeDesc} {z : List MV} {X : List α} {s s' : MSt} {env : Nat → MV} {x y : Operand} {v : MV} {K : MV → MSt → Prop} [hu : Und P t (.slice e)] [hux : Und P xt dx] [h1 : SzC P e sz] [h2 : ByC P e b] [h3 : ZcC P e z] [he : EncC enc sz] [hf : FlatC enc]
    (hx : mev s env x = .fsl [] 0 (some 0)) (hy : mev s env y = v) (hv : msrc s sz v = some (X.length, rows enc X)) (hX : 0 < X.length) (h : K (.msl s.h.length X.length sz 0 X.length none) s') (hs : s.ext [.blk X.length (rows enc X)] = s' := by exact evH)
    (hbig : (2 * X.length + 192) * b ≤ 281474976710656 := by omega) (hdx : ∀ k, dx ≠ .int k := by intro k h; cases h) (hz : z.length = sz := by rfl) (hb : 0 < b := by decide) :
    MOper P (.call ⟨.builtin .append, ⟨[x, y]⟩, ⟨[t, xt]⟩⟩) env s K := by
  subst hs
  have e : mevs s env [x, y] = [.fsl [] 0 (some 0), v] := by
    show [mev s env x, mev s env y] = _
    rw [hx, hy]
  refine oper_builtin e ?_ h
  have hfl : (rows enc X).all MV.flat = true := all_flat_rows hf.h X
  simp only [mbuiltin]
  show mappend P s t xt (.fsl [] 0 (some 0)) v = _
  unfold mappend
  rw [hu.h, hux.h]
  cases dx with
  | int k => exact absurd rfl (hdx k)
  | _ =>
    simp only [h1.h, h2.h, h3.h, hv, mlenOf]
    rw [if_neg (by omega), if_pos ⟨by simpa using hbig, hb, hz, hfl⟩, if_pos ⟨by omega, by simp, by simp⟩]
    simp [push_ext]

theorem clone_spec (s : MSt) (l : Loc) (L : List Slot) (hl : s.h[l.b]? = some (.blk l.st (rows encSlot L))) (h0 : 0 < L.length) (h1 : L.length ≤ 1024) :
    MCalls Try.prog 43 [.msl l.b l.st 3 0 L.length (l.cap L.length)] s fun r s' => r = .msl s.h.length L.length 3 0 L.length none ∧ s' = s.ext [.blk L.length (rows encSlot L)] := by
  refine enter (f := 43) ?_; first | refine mseq ?_ | refine mregionL ?_ | skip
  repeat (refine runB ?_)
  refine oper_app0 (enc := encSlot) evE evE (msrc_msl hl) h0 ?_
  repeat (refine runB ?_)
  refine leave ?_
  exact ⟨rfl, rfl⟩

theorem clone_ext (s : MSt) (J : List MObj) (l : Loc) (L : List Slot) (hl : s.h[l.b]? = some (.blk l.st (rows encSlot L))) (h0 : 0 < L.length) (h1 : L.length ≤ 1024) :
    MCalls Try.prog 43 [.msl l.b l.st 3 0 L.length (l.cap L.length)] (s.ext J) fun r s' => r = .msl (s.h.length + J.length) L.length 3 0 L.length none ∧ s' = s.ext (J ++ [.blk L.length (rows encSlot L)]) := by
  refine (clone_spec (s.ext J) l L ?_ h0 h1).mono ?_
  · rw [← hl]
    have : l.b < s.h.length := (List.getElem?_eq_some_iff.1 hl).1
    exact ext_lo this
  · rintro r _ ⟨rfl, rfl⟩
    refine ⟨?_, ?_⟩
    · simp [MSt.ext]
    · rw [ext_ext]
theorem allA_mem {L : List Slot} {q : Int × Int} : ∀ {i : Nat}, q ∈ allA i L → ∃ (k : Nat) (x : Slot), L[k]? = some x ∧ q = (x.n * 1024 + ((i + k : Nat) : Int), x.x) := by
  induction L with
  | nil => intro i h; simp [allA] at h
  | cons x L ih =>
    intro i h
    have rest : q ∈ allA (i + 1) L → ∃ (k : Nat) (y : Slot), (x :: L)[k]? = some y ∧ q = (y.n * 1024 + ((i + k : Nat) : Int), y.x) := fun h => by
      obtain ⟨k, y, h1, h2⟩ := ih h
      exact ⟨k + 1, y, by simpa using h1, by rw [h2]; congr 2; omega⟩
    unfold allA at h
    split at h
    · rcases List.mem_cons.1 h with rfl | h
      · exact ⟨0, x, rfl, rfl⟩
      · exact rest h
    · exact rest h

theorem twin_spec (s : MSt) (n : Int) : MCalls Try.prog 24 [.int .i64 n] s fun r s' => r = .int .i64 n ∧ s' = s := by
  refine enter (f := 24) ?_; first | refine mseq ?_ | refine mregionL ?_ | skip
  repeat (refine runB ?_)
  refine leave ?_
  exact ⟨rfl, rfl⟩
theorem oper_fv {P : Program} {env : Nat → MV} {s : MSt} {K : MV → MSt → Prop} {n : FuncId} {f : Operand} {v : MV} {l : List Operand} {ts : Array TypeId} {vs : List MV} (hf : mev s env f = v) (hv : v = .func (.func n) [] []) (hx : mevs s env l = vs) (h : MCalls P n vs s K) : MOper P (.call ⟨.value f, ⟨l⟩, ts⟩) env s K := by
  refine mcallop (c := ⟨.value f, ⟨l⟩, ts⟩) (f := f) rfl (n := n) (first := []) (cap := []) (args := vs) (hf.trans hv) ?_ (by simpa using h)
  simp only [mevs_eq]; exact hx
def twinF : MV := .func (.func 24) [] []
structure CopyI (s : MSt) (L : List Slot) (full : Int) (nb nx nc : Nat) (st : MSt) : Prop where
  hb : st.h[nb]? = some (.blk L.length (rows encSlot L))
  hx : st.h[nx]? = some (.blk 0 [.msl nb L.length 3 0 L.length none, .int .i64 full])
  hc : st.h[nc]? = some (.blk 0 [.ptr nx 0 0])
  lb : s.h.length < nb
  lx : s.h.length < nx
  lc : s.h.length < nc
  nex : nb ≠ nx

theorem copy_spec (s : MSt) (a : Nat) (l : Loc) (L : List Slot) (hA : AM s a l L) (h0 : 0 < L.length) :
    MCalls Try.prog 18 [.ptr a 0 0, twinF] s fun r s' => ∃ nb nx nc J, r = .ptr nx 0 0 ∧ s' = s.ext (.blk 0 [twinF] :: J) ∧ CopyI s L (L.countP (·.full)) nb nx nc s' := by
  have hlt := AM_lt hA
  have HA := Hid.mk hA
  obtain ⟨ha, hl, hL, hn⟩ := hA
  refine enter (f := 18) ?_; first | refine mseq ?_ | refine mregionL ?_ | skip
  repeat (first | refine runB ?_ | refine stepsD ?_ | with_reducible refine mregionX (id := 7) [0, 1, 3, 7, 0, 16, 0, 0, 192, 511, 1023, 2047] [⟨0, false, []⟩, ⟨1, false, []⟩, ⟨2, false, []⟩, ⟨3, false, []⟩, ⟨4, false, []⟩, ⟨5, false, []⟩, ⟨6, false, []⟩, ⟨7, false, []⟩, ⟨8, true, [0, 1, 2, 3, 4, 5]⟩, ⟨9, false, []⟩, ⟨10, false, []⟩, ⟨11, true, []⟩] (by kernel_rfl) ?_)
  refine mid (fun env1 st1 => ∃ nb nx nc J, st1 = s.ext (.blk 0 [twinF] :: J) ∧ env1 0 = .ptr a 0 0 ∧ env1 3 = .ptr s.h.length 0 0 ∧ env1 5 = .ptr nc 0 0 ∧ CopyI s L (L.countP (·.full)) nb nx nc st1) ?_ ?_
  · skip
    refine mregionTX (id := 3) [0, 1, 3, 7, 15, 0, 32, 96, 224, 511, 1023, 0, 4095] [⟨0, false, []⟩, ⟨1, false, []⟩, ⟨2, false, []⟩, ⟨3, false, []⟩, ⟨5, false, []⟩, ⟨6, false, []⟩, ⟨7, false, []⟩, ⟨8, false, []⟩]
      (.two ⟨4, true, [5, 6, 7, 8]⟩ (lst [⟨9, false, []⟩] (.two ⟨10, true, []⟩ (lst [⟨11, true, [0, 1, 2, 3, 5, 6, 7, 8, 9]⟩, ⟨12, true, []⟩] .fin) ⟨11, true, [0, 1, 2, 3, 5, 6, 7, 8, 9]⟩ (lst [⟨10, true, []⟩, ⟨12, true, []⟩] .fin)))
        ⟨11, true, [0, 1, 2, 3, 5, 6, 7, 8]⟩ (lst [⟨4, true, [5, 6, 7, 8]⟩, ⟨9, false, []⟩, ⟨10, true, []⟩, ⟨12, true, []⟩] .fin)) (by kernel_rfl) ?_
    repeat (first | refine runB ?_ | refine stepsD ?_ | with_reducible refine mregionX (id := 7) [0, 1, 3, 7, 0, 16, 0, 0, 192, 511, 1023, 2047] [⟨0, false, []⟩, ⟨1, false, []⟩, ⟨2, false, []⟩, ⟨3, false, []⟩, ⟨4, false, []⟩, ⟨5, false, []⟩, ⟨6, false, []⟩, ⟨7, false, []⟩, ⟨8, true, [0, 1, 2, 3, 4, 5]⟩, ⟨9, false, []⟩, ⟨10, false, []⟩, ⟨11, true, []⟩] (by kernel_rfl) ?_)
    refine mopsT_twoE rfl rfl ?_ ?_
    · repeat (first | refine runB ?_ | refine stepsD ?_ | with_reducible refine mregionX (id := 7) [0, 1, 3, 7, 0, 16, 0, 0, 192, 511, 1023, 2047] [⟨0, false, []⟩, ⟨1, false, []⟩, ⟨2, false, []⟩, ⟨3, false, []⟩, ⟨4, false, []⟩, ⟨5, false, []⟩, ⟨6, false, []⟩, ⟨7, false, []⟩, ⟨8, true, [0, 1, 2, 3, 4, 5]⟩, ⟨9, false, []⟩, ⟨10, false, []⟩, ⟨11, true, []⟩] (by kernel_rfl) ?_)
      refine MCalls.mono (clone_ext s _ l L hl h0 hL) ?_
      rintro r _ ⟨rfl, rfl⟩
      repeat (first | refine runB ?_ | refine stepsD ?_ | with_reducible refine mregionX (id := 7) [0, 1, 3, 7, 0, 16, 0, 0, 192, 511, 1023, 2047] [⟨0, false, []⟩, ⟨1, false, []⟩, ⟨2, false, []⟩, ⟨3, false, []⟩, ⟨4, false, []⟩, ⟨5, false, []⟩, ⟨6, false, []⟩, ⟨7, false, []⟩, ⟨8, true, [0, 1, 2, 3, 4, 5]⟩, ⟨9, false, []⟩, ⟨10, false, []⟩, ⟨11, true, []⟩] (by kernel_rfl) ?_)
      refine mopsT_twoE rfl rfl ?_ ?_
      · repeat (first | refine runB ?_ | refine stepsD ?_ | with_reducible refine mregionX (id := 7) [0, 1, 3, 7, 0, 16, 0, 0, 192, 511, 1023, 2047] [⟨0, false, []⟩, ⟨1, false, []⟩, ⟨2, false, []⟩, ⟨3, false, []⟩, ⟨4, false, []⟩, ⟨5, false, []⟩, ⟨6, false, []⟩, ⟨7, false, []⟩, ⟨8, true, [0, 1, 2, 3, 4, 5]⟩, ⟨9, false, []⟩, ⟨10, false, []⟩, ⟨11, true, []⟩] (by kernel_rfl) ?_)
        refine mopsT_fin ?_
        refine ⟨s.h.length + 1, s.h.length + 2, s.h.length + 3, _, rfl, evE, evE, evE, ?_⟩
        constructor <;> first | exact ext_at s _ _ | omega
      · repeat (first | refine runB ?_ | refine stepsD ?_ | with_reducible refine mregionX (id := 7) [0, 1, 3, 7, 0, 16, 0, 0, 192, 511, 1023, 2047] [⟨0, false, []⟩, ⟨1, false, []⟩, ⟨2, false, []⟩, ⟨3, false, []⟩, ⟨4, false, []⟩, ⟨5, false, []⟩, ⟨6, false, []⟩, ⟨7, false, []⟩, ⟨8, true, [0, 1, 2, 3, 4, 5]⟩, ⟨9, false, []⟩, ⟨10, false, []⟩, ⟨11, true, []⟩] (by kernel_rfl) ?_)
        refine mopsT_fin ?_
        refine ⟨s.h.length + 1, s.h.length + 3, s.h.length + 2, _, rfl, evE, evE, evE, ?_⟩
        constructor <;> first | exact ext_at s _ _ | omega
    · repeat (first | refine runB ?_ | refine stepsD ?_ | with_reducible refine mregionX (id := 7) [0, 1, 3, 7, 0, 16, 0, 0, 192, 511, 1023, 2047] [⟨0, false, []⟩, ⟨1, false, []⟩, ⟨2, false, []⟩, ⟨3, false, []⟩, ⟨4, false, []⟩, ⟨5, false, []⟩, ⟨6, false, []⟩, ⟨7, false, []⟩, ⟨8, true, [0, 1, 2, 3, 4, 5]⟩, ⟨9, false, []⟩, ⟨10, false, []⟩, ⟨11, true, []⟩] (by kernel_rfl) ?_)
      refine MCalls.mono (clone_ext s _ l L hl h0 hL) ?_
      rintro r _ ⟨rfl, rfl⟩
      repeat (first | refine runB ?_ | refine stepsD ?_ | with_reducible refine mregionX (id := 7) [0, 1, 3, 7, 0, 16, 0, 0, 192, 511, 1023, 2047] [⟨0, false, []⟩, ⟨1, false, []⟩, ⟨2, false, []⟩, ⟨3, false, []⟩, ⟨4, false, []⟩, ⟨5, false, []⟩, ⟨6, false, []⟩, ⟨7, false, []⟩, ⟨8, true, [0, 1, 2, 3, 4, 5]⟩, ⟨9, false, []⟩, ⟨10, false, []⟩, ⟨11, true, []⟩] (by kernel_rfl) ?_)
      refine mopsT_fin ?_
      refine ⟨s.h.length + 2, s.h.length + 3, s.h.length + 1, _, rfl, evE, evE, evE, ?_⟩
      constructor <;> first | exact ext_at s _ _ | omega
  · rintro env1 st1 ⟨nb, nx, nc, J, rfl, e0, e3, e5, hI⟩
    have HI := Hid.mk hI
    obtain ⟨hb, hx, hc, lb, lx, lc, nex⟩ := hI

    repeat (first | refine runB ?_ | refine stepsD ?_ | with_reducible refine mregionX (id := 7) [0, 1, 3, 7, 0, 16, 0, 0, 192, 511, 1023, 2047] [⟨0, false, []⟩, ⟨1, false, []⟩, ⟨2, false, []⟩, ⟨3, false, []⟩, ⟨4, false, []⟩, ⟨5, false, []⟩, ⟨6, false, []⟩, ⟨7, false, []⟩, ⟨8, true, [0, 1, 2, 3, 4, 5]⟩, ⟨9, false, []⟩, ⟨10, false, []⟩, ⟨11, true, []⟩] (by kernel_rfl) ?_)
    refine MCalls.mono (all_spec _ a (by rw [ext_len]; omega)) ?_
    rintro r _ ⟨rfl, rfl⟩
    repeat (first | refine runB ?_ | refine stepsD ?_ | with_reducible refine mregionX (id := 7) [0, 1, 3, 7, 0, 16, 0, 0, 192, 511, 1023, 2047] [⟨0, false, []⟩, ⟨1, false, []⟩, ⟨2, false, []⟩, ⟨3, false, []⟩, ⟨4, false, []⟩, ⟨5, false, []⟩, ⟨6, false, []⟩, ⟨7, false, []⟩, ⟨8, true, [0, 1, 2, 3, 4, 5]⟩, ⟨9, false, []⟩, ⟨10, false, []⟩, ⟨11, true, []⟩] (by kernel_rfl) ?_)
    have hC : ∀ st, Grew s st → AMh st.h a l L := fun st hg => ⟨hg.at ha, hg.at hl, hL, hn⟩
    refine mrangeT FnC.ok evE (allF_seq a l L) (hC _ ⟨_, rfl⟩) ?_
    refine rfold_t (allW a l L) (fun qs st => st = s.ext (.blk 0 [twinF] :: J) ∧ ∀ q ∈ qs, q ∈ allA 0 L) ⟨rfl, fun q h => h⟩ ?_ ?_
    · rintro q qs st ⟨rfl, hq⟩
      refine ⟨rfl, fun L' => ?_⟩
      change MCode _ _ _ _ _ (upd (upd _ 23 (.int .i64 q.1)) 24 (.int .i64 q.2)) ((s.ext (.blk 0 [twinF] :: J)).pushL L')
      repeat (first | refine runB ?_ | refine stepsD ?_ | with_reducible refine mregionX (id := 7) [0, 1, 3, 7, 0, 16, 0, 0, 192, 511, 1023, 2047] [⟨0, false, []⟩, ⟨1, false, []⟩, ⟨2, false, []⟩, ⟨3, false, []⟩, ⟨4, false, []⟩, ⟨5, false, []⟩, ⟨6, false, []⟩, ⟨7, false, []⟩, ⟨8, true, [0, 1, 2, 3, 4, 5]⟩, ⟨9, false, []⟩, ⟨10, false, []⟩, ⟨11, true, []⟩] (by kernel_rfl) ?_)
      refine ⟨rfl, _, rfl, rfl, fun L2 => ?_⟩
      obtain ⟨k, x, hk, rfl⟩ := allA_mem (hq q (by simp))
      have hm : (x.n * 1024 + ((0 + k : Nat) : Int)).tmod 1024 = k := by
        have hkl := (List.getElem?_eq_some_iff.1 hk).1
        have := (hn x (List.mem_of_getElem? hk)).1
        rw [Int.tmod_eq_emod_of_nonneg (by omega)]
        omega
      have hkl := (List.getElem?_eq_some_iff.1 hk).1
      simp only []
      generalize x.n * 1024 + ((0 + k : Nat) : Int) = y at hm ⊢
      repeat (first | refine runB ?_ | refine stepsD ?_ | with_reducible refine mregionX (id := 7) [0, 1, 3, 7, 0, 16, 0, 0, 192, 511, 1023, 2047] [⟨0, false, []⟩, ⟨1, false, []⟩, ⟨2, false, []⟩, ⟨3, false, []⟩, ⟨4, false, []⟩, ⟨5, false, []⟩, ⟨6, false, []⟩, ⟨7, false, []⟩, ⟨8, true, [0, 1, 2, 3, 4, 5]⟩, ⟨9, false, []⟩, ⟨10, false, []⟩, ⟨11, true, []⟩] (by kernel_rfl) ?_)
      refine oper_fv evE rfl evL ?_
      refine MCalls.mono (twin_spec _ _) ?_
      rintro r _ ⟨rfl, rfl⟩
      have hks : (rows encSlot L).set (k * 3) (.int .i64 x.x) = rows encSlot L := by
        have h1 : (rows encSlot L)[k * 3]? = some (.int .i64 x.x) := rows_at0 encSlot_len hk (by decide)
        obtain ⟨h2, h3⟩ := List.getElem?_eq_some_iff.1 h1
        rw [← h3]
        exact List.set_getElem_self h2
      repeat (first | refine runB ?_ | refine stepsD ?_ | with_reducible refine mregionX (id := 7) [0, 1, 3, 7, 0, 16, 0, 0, 192, 511, 1023, 2047] [⟨0, false, []⟩, ⟨1, false, []⟩, ⟨2, false, []⟩, ⟨3, false, []⟩, ⟨4, false, []⟩, ⟨5, false, []⟩, ⟨6, false, []⟩, ⟨7, false, []⟩, ⟨8, true, [0, 1, 2, 3, 4, 5]⟩, ⟨9, false, []⟩, ⟨10, false, []⟩, ⟨11, true, []⟩] (by kernel_rfl) ?_)
      have hset : (MObj.blk 0 [twinF] :: J).set (nb - s.h.length) (.blk L.length (rows encSlot L)) = .blk 0 [twinF] :: J := by
        have h1 := hb
        rw [ext_hi (by omega)] at h1
        obtain ⟨h2, h3⟩ := List.getElem?_eq_some_iff.1 h1
        rw [← h3]
        exact List.set_getElem_self h2
      exact ⟨_, rfl, rfl, hC _ ⟨_, rfl⟩, by rw [hset], fun q h => hq q (by simp [h])⟩
    · rintro st ⟨rfl, -⟩
      repeat (first | refine runB ?_ | refine stepsD ?_ | with_reducible refine mregionX (id := 7) [0, 1, 3, 7, 0, 16, 0, 0, 192, 511, 1023, 2047] [⟨0, false, []⟩, ⟨1, false, []⟩, ⟨2, false, []⟩, ⟨3, false, []⟩, ⟨4, false, []⟩, ⟨5, false, []⟩, ⟨6, false, []⟩, ⟨7, false, []⟩, ⟨8, true, [0, 1, 2, 3, 4, 5]⟩, ⟨9, false, []⟩, ⟨10, false, []⟩, ⟨11, true, []⟩] (by kernel_rfl) ?_)
      refine leave ?_
      exact ⟨nb, nx, nc, J, rfl, rfl, HI.out⟩

end Go.Mir
