import Derived.Test.YtbkbnchifeimpaaFacts
set_option maxRecDepth 10000
set_option linter.unusedVariables false
set_option linter.unusedSimpArgs false
namespace Go.Mir
open Go.Proofs
/-! Regions in which two writers may stand in either order: the walk branches. -/

inductive DT
  | fin
  | non (d : DOp) (t : DT)
  | two (d : DOp) (t : DT) (e : DOp) (u : DT)

def okW (ops : Array Oper) (am : List Nat) (done ws : Nat) (d : DOp) : Bool :=
  decide (d.i < ops.size) && !done.testBit d.i && ((preds ops d.i).all fun j => done.testBit j) && ((List.range ops.size).all fun k => !done.testBit k || ws.testBit k || A am d.i k || d.ob.contains k) &&
      (d.ob.all fun k => done.testBit k && (dstOf ops k).isSome && (readsOf (popAt ops k)).all fun t => match writer ops t with
        | none => true
        | some j => A am k j || !done.testBit j)
def okT (ops : Array Oper) (am : List Nat) : (done ws : Nat) → DT → Bool
  | done, ws, .fin => (List.range ops.size).all fun i => done.testBit i
  | done, ws, .non d t => decide (d.i < ops.size) && !done.testBit d.i && ((preds ops d.i).all fun j => done.testBit j) && okT ops am (done ||| 2 ^ d.i) ws t
  | done, ws, .two d t e u => okW ops am done ws d && okW ops am done ws e && ((List.range ops.size).all fun k => done.testBit k || k == d.i || k == e.i || A am k d.i || A am k e.i) &&
    okT ops am (done ||| 2 ^ d.i) (ws ||| 2 ^ d.i) t && okT ops am (done ||| 2 ^ e.i) (ws ||| 2 ^ e.i) u
def okTree (ops : Array Oper) (am : List Nat) (t : DT) : Bool := okAm ops am && okReads ops am && okT ops am 0 0 t

def WrT (P : Program) (p : POp) (ob : List POp) (k : (Nat → MV) → MSt → Prop) (env : Nat → MV) (s : MSt) : Prop := match mwant env p.g with
    | some true => MOper P p.op env s fun v s' => (∀ q ∈ ob, Stay P env s' q) ∧ k (updo env p.dst v) s'
    | some false => k (updo env p.dst .undef) s
    | none => False
def mopsT (P : Program) (ops : Array Oper) (K : (Nat → MV) → MSt → Prop) : DT → (Nat → MV) → MSt → Prop
  | .fin, env, s => K env s
  | .non d t, env, s => ∃ v, Yld P (popAt ops d.i) env s v ∧ mopsT P ops K t (updo env (popAt ops d.i).dst v) s
  | .two d t e u, env, s => WrT P (popAt ops d.i) (d.ob.map (popAt ops)) (mopsT P ops K t) env s ∧ WrT P (popAt ops e.i) (e.ob.map (popAt ops)) (mopsT P ops K u) env s

structure DIT (P : Program) (ops : Array Oper) (am : List Nat) (K : (Nat → MV) → MSt → Prop) (env0 : Nat → MV) (D : Nat → Bool) (dm ws : Nat) (val : Nat → MV) (rest : DT) (S : MSt) (L : Nat → Bool) : Prop where
  dd : ∀ i < ops.size, D i = dm.testBit i
  dc : Closed ops D
  lc : Closed ops L
  ld : ∀ i, L i = true → D i = true
  dn : ∀ i, D i = true → i < ops.size
  st : ∀ i, D i = true → L i = false → Yld P (popAt ops i) (cenv ops env0 val (A am i)) S (val i)
  ok : okT ops am dm ws rest = true
  lw : ∀ i, ws.testBit i = true → L i = true
  w : mopsT P ops K rest (cenv ops env0 val D) S

theorem okT_non {ops am dm ws d t} (h : okT ops am dm ws (.non d t) = true) : d.i < ops.size ∧ dm.testBit d.i = false ∧ (∀ j ∈ preds ops d.i, dm.testBit j = true) ∧ okT ops am (dm ||| 2 ^ d.i) ws t = true := by
  simp only [okT, Bool.and_eq_true, decide_eq_true_eq, Bool.not_eq_true', List.all_eq_true] at h
  obtain ⟨⟨⟨h1, h2⟩, h3⟩, h4⟩ := h
  exact ⟨h1, h2, h3, h4⟩
theorem okW_spec {ops am dm ws d} (h : okW ops am dm ws d = true) : d.i < ops.size ∧ dm.testBit d.i = false ∧ (∀ j ∈ preds ops d.i, dm.testBit j = true) ∧
    ((∀ k < ops.size, dm.testBit k = true → ws.testBit k = false → A am d.i k = false → k ∈ d.ob) ∧ ∀ k ∈ d.ob, (dm.testBit k = true ∧ (dstOf ops k).isSome = true) ∧ ∀ t ∈ readsOf (popAt ops k), ∀ j, writer ops t = some j → A am k j = false → dm.testBit j = false) := by
  simp only [okW, Bool.and_eq_true, decide_eq_true_eq, Bool.not_eq_true', List.all_eq_true, Bool.or_eq_true, List.mem_range, List.contains_iff_mem] at h
  obtain ⟨⟨⟨⟨h1, h2⟩, h3⟩, h5⟩, h7⟩ := h
  refine ⟨h1, h2, h3, fun k hk hd hW hA => ?_, fun k hk => ⟨(h7 k hk).1, fun t ht j hj hA => ?_⟩⟩
  · rcases h5 k hk with ((h | h) | h) | h
    · rw [hd] at h; cases h
    · rw [hW] at h; cases h
    · rw [hA] at h; cases h
    · exact h
  · have := (h7 k hk).2 t ht
    rw [hj] at this
    simp only [Bool.or_eq_true, Bool.not_eq_true'] at this
    rcases this with h | h
    · rw [hA] at h; cases h
    · exact h

theorem absorbT {P ops am K env0 S L} (hk : Okd ops am) : ∀ (rest : DT) (D : Nat → Bool) (dm ws : Nat) (val : Nat → MV), DIT P ops am K env0 D dm ws val rest S L →
    ∃ D' dm' val' rest', DIT P ops am K env0 D' dm' ws val' rest' S L ∧ (∀ d t, rest' ≠ .non d t) ∧ (∀ k, L k = true → val' k = val k)
  | .fin, D, dm, ws, val, h => ⟨D, dm, val, .fin, h, (by intro d t e; cases e), fun _ _ => rfl⟩
  | .two d t e u, D, dm, ws, val, h => ⟨D, dm, val, _, h, (by intro d t e; cases e), fun _ _ => rfl⟩
  | .non ⟨i, wb, ob⟩ rest, D, dm, ws, val, h => by
    obtain ⟨o1, o2, o3, o6⟩ := okT_non h.ok
    simp only at o1 o2 o3 o6
    have hw := h.w
    simp only [mopsT] at hw
    obtain ⟨v, hy, hw⟩ := hw
    have hDi : D i = false := by rw [h.dd i o1]; exact o2
    have hLi : L i = false := by
      cases hl : L i with
      | false => rfl
      | true => rw [h.ld i hl] at hDi; cases hDi
    have hpD : ∀ j ∈ preds ops i, D j = true := fun j hj => by
      have hjs : j < ops.size := by have := hk.lt i o1 j hj; omega
      rw [h.dd j hjs]; exact o3 j hj
    have hnA : ∀ k, D k = true → A am k i = false := fun k hd => by
      cases hA : A am k i with
      | false => rfl
      | true =>
        have := anc_in hk h.dc k (h.dn k hd) (h.dc k (h.dn k hd) hd) i hA
        rw [hDi] at this; cases this
    have eD : cenv ops env0 val D = cenv ops env0 (setV val i v) D := cenv_val fun k hd => by
      have : k ≠ i := fun e => by rw [e, hDi] at hd; cases hd
      simp [setV, this]
    have hirr : A am i i = false := by
      cases hA : A am i i with
      | false => rfl
      | true =>
        have := anc_in hk h.dc i o1 hpD i hA
        rw [hDi] at this; cases this
    have h' : DIT P ops am K env0 (setL D i) (dm ||| 2 ^ i) ws (setV val i v) rest S L := by
      refine ⟨setL_bit h.dd, closed_set h.dc hpD, h.lc, fun k hl => ?_, fun k hd => ?_, fun k hd hl => ?_, o6, h.lw, ?_⟩
      · simp only [setL]; split
        · rfl
        · exact h.ld k hl
      · simp only [setL] at hd; split at hd
        · rename_i e; rw [e]; exact o1
        · exact h.dn k hd
      · by_cases e : k = i
        · subst e
          have e1 : cenv ops env0 (setV val k v) (A am k) = cenv ops env0 val (A am k) := cenv_val fun j hA => by
            have : j ≠ k := fun e => by rw [e, hirr] at hA; cases hA
            simp [setV, this]
          rw [e1]
          have : setV val k v k = v := by simp [setV]
          rw [this]
          refine hy.congr ?_
          exact cenv_reads o1 (anc_in hk h.dc k o1 hpD) (out_of hk o1 h.dc hDi)
        · have hd' : D k = true := by simpa [setL, e] using hd
          have e1 : cenv ops env0 (setV val i v) (A am k) = cenv ops env0 val (A am k) := cenv_val fun j hA => by
            have : j ≠ i := fun e => by rw [e, hnA k hd'] at hA; cases hA
            simp [setV, this]
          rw [e1]
          have : setV val i v k = val k := by simp [setV, e]
          rw [this]
          exact h.st k hd' hl
      · have := cenv_put (env0 := env0) (L := D) (val := setV val i v) (v := v) hk o1 (by simp [setV])
        rw [← eD, ← popAt_dst o1] at this
        rw [← this]; exact hw
    obtain ⟨D', dm', val', rest', g1, g2, g3⟩ := absorbT hk rest _ _ _ _ h'
    refine ⟨D', dm', val', rest', g1, g2, fun k hl => ?_⟩
    rw [g3 k hl]
    have : k ≠ i := fun e => by rw [e, hLi] at hl; cases hl
    simp [setV, this]


theorem di_doneT {P ops am K env0 D dm ws val rest S L} (hk : Okd ops am) (h : DIT P ops am K env0 D dm ws val rest S L) (hall : ∀ i < ops.size, L i = true) : K (cenv ops env0 val L) S := by
  obtain ⟨D', dm', val', rest', g1, g2, g3⟩ := absorbT hk rest D dm ws val h
  cases rest' with
  | non d t => exact absurd rfl (g2 d t)
  | two d t e u =>
    have hok := g1.ok
    simp only [okT, Bool.and_eq_true] at hok
    obtain ⟨o1, o2, _⟩ := okW_spec hok.1.1.1.1
    have := g1.ld d.i (hall d.i o1)
    rw [g1.dd d.i o1, o2] at this; cases this
  | fin =>
    have := g1.w
    simp only [mopsT] at this
    have e : cenv ops env0 val' D' = cenv ops env0 val L := by
      funext t
      unfold cenv
      split
      · rename_i k hw
        have hks := (writer_spec hw).1
        have hl := hall k hks
        rw [g1.ld k hl, hl, g3 k hl]
      · rfl
    rw [← e]; exact this

theorem run_anyT {P : Program} {N : Nat} {rd : Option Nat} {K : (Nat → MV) → MSt → Prop} {Q : Exit → Act → World → Prop} {ops : Array Oper} {am : List Nat} {env0 : Nat → MV} (hk : Okd ops am) (hall : ops.all (ofits N) = true) :
    ∀ (fuel : Nat) (listed : Array Bool) {D dm ws val rest S m w} {a : Act} {b0 : Nat} (_ : listed.size = ops.size) (_ : unl ops.size (Lof listed) ≤ fuel) (_ : DIT P ops am K env0 D dm ws val rest S (Lof listed))
      (_ : RelS m S w) (_ : RelE m S w (cenv ops env0 val (Lof listed)) a.tmps) (_ : a.tmps.size = N) (_ : Dfs b0 a.defers m S w)
      (_ : ∀ m' env' s' (a' : Act) w', K env' s' → RelS m' s' w' → RelE m' s' w' env' a'.tmps → a'.tmps.size = N → Dfs b0 a'.defers m' s' w' → Ext m S w m' s' w' → Q .normal a' w'),
      wpAnyIn (fence rd) 0 P .any ops Q fuel listed a w := by
  intro fuel
  induction fuel with
  | zero =>
    intro listed D dm ws val rest S m w a b0 hs hu hd hr he hN hf hq
    have ha := unl_zero (Nat.le_zero.1 hu)
    refine ⟨?_, hq m _ S a w (di_doneT hk hd ha) hr he hN hf (Ext.refl _ _ _)⟩
    rw [List.eq_nil_iff_forall_not_mem]
    intro i hi
    obtain ⟨h1, h2, _⟩ := ready_spec hs hi
    rw [ha i h1] at h2; cases h2
  | succ fuel ih =>
    intro listed D dm ws val rest S m w a b0 hs hu hd hr he hN hf hq
    refine ⟨fun h0 => hq m _ S a w (di_doneT hk hd (ready_ex hk hs h0)) hr he hN hf (Ext.refl _ _ _), fun i hi => ?_⟩
    obtain ⟨h1, h2, h3⟩ := ready_spec hs hi
    obtain ⟨D', dm', val', rest', g1, g2, g3⟩ := absorbT hk rest D dm ws val hd
    have eL : cenv ops env0 val (Lof listed) = cenv ops env0 val' (Lof listed) := cenv_val fun k hl => (g3 k hl).symm
    rw [eL] at he
    have hls : Lof (listed.setIfInBounds i true) = setL (Lof listed) i := Lof_set (by omega)
    have hu' : unl ops.size (Lof (listed.setIfInBounds i true)) ≤ fuel := by
      rw [hls]; have := unl_set h1 h2; omega
    have hs' : (listed.setIfInBounds i true).size = ops.size := by simpa using hs
    have hrd : ∀ t ∈ readsOf (popAt ops i), cenv ops env0 val' (Lof listed) t = cenv ops env0 val' (A am i) t := cenv_reads h1 (anc_in hk g1.lc i h1 h3) (out_of hk h1 g1.lc h2)
    have hirr : A am i i = false := by
      cases hA : A am i i with
      | false => rfl
      | true =>
        have := anc_in hk g1.lc i h1 h3 i hA
        rw [h2] at this; cases this
    cases hD : D' i with
    | true =>
      have hy : Yld P (popAt ops i) (cenv ops env0 val' (Lof listed)) S (val' i) := (g1.st i hD h2).congr fun t ht => (hrd t ht).symm
      refine exec_yld hall h1 hr he hN hy ?_
      intro m' w' r k1 k2 k3
      have hd' : DIT P ops am K env0 D' dm' ws val' rest' S (Lof (listed.setIfInBounds i true)) := by
        rw [hls]
        refine { g1 with lc := closed_set g1.lc h3, ld := fun k hl => ?_, st := fun k hd hl => g1.st k hd ?_, lw := fun k hk => by simp only [setL, g1.lw k hk, ite_self] }
        · simp only [setL] at hl; split at hl
          · rename_i e; rw [e]; exact hD
          · exact g1.ld k hl
        · simp only [setL] at hl; split at hl
          · cases hl
          · exact hl
      refine ih _ hs' hu' hd' k1 ?_ (by rw [updo_size]; exact hN) (by rw [put_defers]; exact hf.ext k3) (fun m'' env'' s'' a'' w'' q1 q2 q3 q4 q5 q6 => hq m'' env'' s'' a'' w'' q1 q2 q3 q4 q5 (k3.trans q6))
      have := (he.ext k3).updo (d := dstOf ops i) k2
      rw [cenv_put hk h1 rfl, ← hls] at this
      exact this
    | false =>
      have hdm : dm'.testBit i = false := by rw [← g1.dd i h1]; exact hD
      have pick : ∃ (d : DOp) (rest' : DT), d.i = i ∧ okW ops am dm' ws d = true ∧ okT ops am (dm' ||| 2 ^ d.i) (ws ||| 2 ^ d.i) rest' = true ∧ WrT P (popAt ops d.i) (d.ob.map (popAt ops)) (mopsT P ops K rest') (cenv ops env0 val' D') S := by
        have hok := g1.ok
        have hw := g1.w
        cases rest' with
        | non d t => exact absurd rfl (g2 d t)
        | fin =>
          simp only [okT, List.all_eq_true, List.mem_range] at hok
          rw [hok i h1] at hdm; cases hdm
        | two d t e u =>
          simp only [okT, Bool.and_eq_true, List.all_eq_true, List.mem_range, Bool.or_eq_true, beq_iff_eq] at hok
          obtain ⟨⟨⟨⟨q1, q2⟩, q3⟩, q4⟩, q5⟩ := hok
          have no : ∀ d : DOp, okW ops am dm' ws d = true → A am i d.i = true → False := fun d hd hA => by
            obtain ⟨o1, o2, _⟩ := okW_spec hd
            have hl := anc_in hk g1.lc i h1 h3 d.i hA
            have := g1.ld d.i hl
            rw [g1.dd d.i o1, o2] at this; cases this
          rcases q3 i h1 with (((h | h) | h) | h) | h
          · rw [hdm] at h; cases h
          · exact ⟨d, t, h.symm, q1, q4, hw.1⟩
          · exact ⟨e, u, h.symm, q2, q5, hw.2⟩
          · exact (no d q1 h).elim
          · exact (no e q2 h).elim
      obtain ⟨⟨di, dw, dob⟩, rest', hdi, okw, o6, hgw⟩ := pick
      · obtain ⟨o1, o2, o3, c1, c2⟩ := okW_spec okw
        simp only at hdi o1 o2 o3 o6 c1 c2 hgw
        subst hdi
        have hpD : ∀ j ∈ preds ops di, D' j = true := fun j hj => g1.ld j (h3 j hj)
        have hDr : ∀ t ∈ readsOf (popAt ops di), cenv ops env0 val' D' t = cenv ops env0 val' (Lof listed) t := fun t ht => by
          rw [hrd t ht]
          exact cenv_reads h1 (anc_in hk g1.dc di h1 hpD) (out_of hk h1 g1.dc hD) t ht
        have hnA : ∀ k, D' k = true → A am k di = false := fun k hd => by
          cases hA : A am k di with
          | false => rfl
          | true =>
            have := anc_in hk g1.dc k (g1.dn k hd) (g1.dc k (g1.dn k hd) hd) di hA
            rw [hD] at this; cases this
        have hsc : ofits N ops[di] = true := by rw [Array.all_eq_true] at hall; exact hall di h1
        have hdst : ∀ (j : Nat) (o' : Oper) (t : Nat), ops[j]? = some o' → o'.dst = some t → t < a.tmps.size := fun j o' t hj ht => by
          rw [Array.all_eq_true] at hall
          obtain ⟨hj', rfl⟩ := Array.getElem?_eq_some_iff.1 hj
          have := hall j hj'
          simp only [ofits, ht, Bool.and_eq_true, decide_eq_true_eq] at this
          rw [hN]; exact this.1.1
        have ho : ops[di]? = some ops[di] := by simp [h1]
        have hp : popAt ops di = ⟨ops[di].dst, ops[di].op, ops[di].guard.map fun g => ((ops[g.1]?).bind (·.dst), g.2)⟩ := by simp [popAt, h1]
        have hdd : dstOf ops di = ops[di].dst := by simp [dstOf, h1]
        simp only [WrT] at hgw
        have hmw : mwant (cenv ops env0 val' D') (popAt ops di).g = mwant (cenv ops env0 val' (Lof listed)) (popAt ops di).g := mwant_congr fun t b hg => hDr t (by simp [readsOf, hg])
        -- behind the writer
        have behind : ∀ (v : MV) (S' : MSt), (∀ k, D' k = true → Lof listed k = false → Yld P (popAt ops k) (cenv ops env0 val' (A am k)) S' (val' k)) →
            mopsT P ops K rest' (updo (cenv ops env0 val' D') (popAt ops di).dst v) S' →
            DIT P ops am K env0 (setL D' di) (dm' ||| 2 ^ di) (ws ||| 2 ^ di) (setV val' di v) rest' S' (Lof (listed.setIfInBounds di true)) := by
          intro v S' hst hw
          rw [hls]
          have eD : cenv ops env0 val' D' = cenv ops env0 (setV val' di v) D' := cenv_val fun k hd => by
            have : k ≠ di := fun e => by rw [e, hD] at hd; cases hd
            simp [setV, this]
          refine ⟨setL_bit g1.dd, closed_set g1.dc hpD, closed_set g1.lc h3, fun k hl => ?_, fun k hd => ?_, fun k hd hl => ?_, o6, fun k hk => ?_, ?_⟩
          · simp only [setL] at hl ⊢; split
            · rfl
            · rename_i e; rw [if_neg e] at hl; exact g1.ld k hl
          · simp only [setL] at hd; split at hd
            · rename_i e; rw [e]; exact h1
            · exact g1.dn k hd
          · have hki : k ≠ di := fun e => by simp [setL, e] at hl
            have hd' : D' k = true := by simpa [setL, hki] using hd
            have hl' : Lof listed k = false := by simpa [setL, hki] using hl
            have e1 : cenv ops env0 (setV val' di v) (A am k) = cenv ops env0 val' (A am k) := cenv_val fun j hA => by
              have : j ≠ di := fun e => by rw [e, hnA k hd'] at hA; cases hA
              simp [setV, this]
            rw [e1]
            have : setV val' di v k = val' k := by simp [setV, hki]
            rw [this]
            exact hst k hd' hl'
          · rw [bit_set, Bool.or_eq_true, decide_eq_true_eq] at hk
            simp only [setL]
            split
            · rfl
            · rename_i hne
              rcases hk with hk | hk
              · exact g1.lw k hk
              · exact absurd hk.symm hne
          · have := cenv_put (env0 := env0) (L := D') (val := setV val' di v) (v := v) hk h1 (by simp [setV])
            rw [← eD, ← popAt_dst h1] at this
            rw [← this]; exact hw
        have henv : ∀ v, updo (cenv ops env0 val' (Lof listed)) (dstOf ops di) v = cenv ops env0 (setV val' di v) (Lof (listed.setIfInBounds di true)) := fun v => by
          rw [hls, ← cenv_put (v := v) hk h1 (by simp [setV])]
          congr 1
          refine cenv_val fun k hl => ?_
          have : k ≠ di := fun e => by rw [e, h2] at hl; cases hl
          simp [setV, this]
        unfold wpOpIn
        simp only [ho]
        split at hgw
        · rename_i hmt
          rw [hmw, hp] at hmt
          rw [wanted_of he hdst hmt]
          simp only [if_true]
          rw [hp] at hgw
          have hgw' := hgw.congr (env' := cenv ops env0 val' (Lof listed)) fun t ht => hDr t (by rw [hp]; simp [readsOf, ht])
          refine wp_oper hr he hN hsc hgw' ?_
          rintro m' S' w' v r ⟨hob, hw⟩ k1 k2 k3
          rw [← hdd]
          have hst : ∀ k, D' k = true → Lof listed k = false → Yld P (popAt ops k) (cenv ops env0 val' (A am k)) S' (val' k) := by
            intro k hd hl
            have hks := g1.dn k hd
            have hnk : A am di k = false := by
              cases hA : A am di k with
              | false => rfl
              | true =>
                have := anc_in hk g1.lc di h1 h3 k hA
                rw [hl] at this; cases this
            have hko := c1 k hks (by rw [← g1.dd k hks]; exact hd) (by
                cases hw : ws.testBit k with
                | false => rfl
                | true => rw [g1.lw k hw] at hl; cases hl) hnk
            have hsy := hob (popAt ops k) (List.mem_map.2 ⟨k, hko, rfl⟩)
            have hrk : ∀ t ∈ readsOf (popAt ops k), cenv ops env0 val' D' t = cenv ops env0 val' (A am k) t := cenv_reads hks (anc_in hk g1.dc k hks (g1.dc k hks hd)) (fun t ht j hj hA => by
              have h := (c2 k hko).2 t ht j hj hA
              rw [g1.dd j (writer_spec hj).1]; exact h)
            unfold Stay at hsy
            rw [popAt_dst hks] at hsy
            cases hdk : dstOf ops k with
            | some t =>
              rw [hdk] at hsy
              have e : cenv ops env0 val' D' t = val' k := by simp [cenv, hk.wr k hks t hdk, hd]
              simp only [e] at hsy
              exact hsy.congr hrk
            | none => have := (c2 k hko).1.2; rw [hdk] at this; cases this
          have hd' := behind v S' hst (by rw [hp]; exact hw)
          refine ih _ hs' hu' hd' k1 ?_ (by rw [updo_size]; exact hN) (by rw [put_defers]; exact hf.ext k3) (fun m'' env'' s'' a'' w'' q1 q2 q3 q4 q5 q6 => hq m'' env'' s'' a'' w'' q1 q2 q3 q4 q5 (k3.trans q6))
          have := (he.ext k3).updo (d := dstOf ops di) k2
          rw [henv] at this
          exact this
        · rename_i hmf
          rw [hmw, hp] at hmf
          rw [wanted_of he hdst hmf]
          simp only [Bool.false_eq_true, if_false]
          refine ⟨fun f _ => wide_fn rd f, ?_⟩
          rw [← hdd]
          have hd' := behind .undef S g1.st hgw
          refine ih _ hs' hu' hd' hr ?_ (by rw [updo_size]; exact hN) (by rw [put_defers]; exact hf) hq
          have := he.updo (d := dstOf ops di) (undef_rel (m := m) (s := S) (w := w))
          rw [henv] at this
          exact this
        · exact hgw.elim


/-- **A region that draws its order.** -/
theorem mregionT {P N rd Q env s} (hm : P.follows .mixedOrders = true) {id : Nat} {ops : Array Oper} (am : List Nat) (t : DT) (hc : okTree ops am t = true)
    (h : mopsT P ops (fun env s => Q .normal env s) t env s) : MCode P N rd (.region id ops true) Q env s := by
  intro hs hrd m w a b0 hb h1 h2 h3 h4
  simp only [okTree, Bool.and_eq_true] at hc
  obtain ⟨⟨c1, c2⟩, c3⟩ := hc
  have hk := okd_of c1 c2
  have e0 : Ext m s w m s { w with drawn := w.drawn + 1 } := ext_heap rfl
  refine wpIn_region_any hm ?_
  have hL : Lof (Array.replicate ops.size false) = fun _ => false := by
    funext k
    unfold Lof
    by_cases hk : k < ops.size
    · simp [hk]
    · simp [hk]
  have hcv : cenv ops env (fun _ => .undef) (fun _ => false) = env := by
    funext t
    unfold cenv
    split <;> simp
  refine run_anyT (K := fun env s => Q .normal env s) (am := am) (env0 := env) (D := fun _ => false) (dm := 0) (ws := 0) (val := fun _ => .undef) (rest := t) (S := s) (m := m) (b0 := b0) hk (by simpa [cfits] using hs) ops.size (Array.replicate ops.size false) (by simp) ?_ ?_ (h1.heap rfl) ?_ h3 (h4.ext e0) ?_
  · unfold unl
    exact Nat.le_trans List.countP_le_length (by simp)
  · rw [hL]
    refine ⟨fun i hi => by simp, fun i hi h => by simp at h, fun i hi h => by simp at h, fun i h => by simp at h, fun i h => by simp at h, fun i h => by simp at h, c3, fun i h => by simp at h, ?_⟩
    rw [hcv]; exact h
  · rw [hL, hcv]
    exact h2.ext e0
  · intro m' env' s' a' w' k1 k2 k3 k4 k5 k6
    exact ⟨m', env', s', k1, k2, k3, k4, k5, e0.trans k6⟩


/-- Some that write nothing are walked, or each in its turn. -/
def lst : List DOp → DT → DT
  | [], t => t
  | ⟨i, false, ob⟩ :: l, t => .non ⟨i, false, ob⟩ (lst l t)
  | ⟨i, true, ob⟩ :: l, t => .two ⟨i, true, ob⟩ (lst l t) ⟨i, true, ob⟩ (lst l t)
theorem moper_mono {P : Program} {o : Op} {env : Nat → MV} {s : MSt} {K K' : MV → MSt → Prop} (h : MOper P o env s K) (hk : ∀ v s', K v s' → K' v s') : MOper P o env s K' := by
  cases o with
  | call c =>
    obtain ⟨callee, args, ts⟩ := c
    cases callee with
    | value f => exact MInv.mono h hk
    | _ =>
      simp only [MOper] at h ⊢
      refine h.imp (fun h => ?_) ?_
      · split at h
        · exact hk _ _ h
        · exact h
      rintro ⟨h0, β, t, xt, x, y, v, s', h1, h2, h3, h4, h5⟩
      exact ⟨h0, β, t, xt, x, y, v, s', h1, h2, h3, h4, hk _ _ h5⟩
  | _ =>
    simp only [MOper] at h ⊢
    split at h
    · exact hk _ _ h
    · exact h
theorem mopsT_lst {P : Program} {ops : Array Oper} {K : (Nat → MV) → MSt → Prop} {t : DT} : ∀ (l : List DOp) {env s}, mopsD P (mopsT P ops K t) (prepD ops l) env s → mopsT P ops K (lst l t) env s
  | [], _, _, h => h
  | ⟨i, false, ob⟩ :: l, env, s, h => by
    obtain ⟨v, h1, h2⟩ := h
    exact ⟨v, h1, mopsT_lst l h2⟩
  | ⟨i, true, ob⟩ :: l, env, s, h => by
    have : WrT P (popAt ops i) (ob.map (popAt ops)) (mopsT P ops K (lst l t)) env s := by
      simp only [prepD, List.map_cons, mopsD] at h
      unfold WrT
      split
      · rename_i hm
        rw [hm] at h
        exact moper_mono h fun v s' h => ⟨h.1, mopsT_lst l h.2⟩
      · rename_i hm
        rw [hm] at h
        exact mopsT_lst l h
      · rename_i hm
        rw [hm] at h
        exact h
    exact ⟨this, this⟩
/-- Either of two writers comes first. -/
theorem mopsT_two {P : Program} {ops : Array Oper} {K : (Nat → MV) → MSt → Prop} {d e : DOp} {t u : DT} {env s} (hd : d.w = true) (he : e.w = true) (h1 : mopsD P (mopsT P ops K t) (prepD ops [d]) env s) (h2 : mopsD P (mopsT P ops K u) (prepD ops [e]) env s) : mopsT P ops K (.two d t e u) env s := by
  obtain ⟨i, w, ob⟩ := d
  obtain ⟨j, w', ob'⟩ := e
  subst hd he
  exact ⟨(mopsT_lst [⟨i, true, ob⟩] h1).1, (mopsT_lst [⟨j, true, ob'⟩] h2).1⟩
theorem mregionTX {P : Program} {N : Nat} {rd : Option Nat} {Q : Exit → (Nat → MV) → MSt → Prop} {env : Nat → MV} {s : MSt} {id : Nat} {ops : Array Oper} [m : MixC P] (am : List Nat) (l : List DOp) (t : DT) (hc : okTree ops am (lst l t) = true)
    (h : mopsD P (mopsT P ops (fun env s => Q .normal env s) t) (prepE ops.toList l) env s) : MCode P N rd (.region id ops true) Q env s :=
  mregionT m.h am _ hc (mopsT_lst l (by rw [prepE_eq] at h; exact h))
theorem mopsT_twoE {P : Program} {ops : Array Oper} {K : (Nat → MV) → MSt → Prop} {d e : DOp} {l l' : List DOp} {t u : DT} {env s} (hd : d.w = true) (he : e.w = true) (h1 : mopsD P (mopsT P ops K t) (prepE ops.toList (d :: l)) env s) (h2 : mopsD P (mopsT P ops K u) (prepE ops.toList (e :: l')) env s) : mopsT P ops K (.two d (lst l t) e (lst l' u)) env s := by
  rw [prepE_eq] at h1 h2
  obtain ⟨i, w, ob⟩ := d
  obtain ⟨j, w', ob'⟩ := e
  subst hd he
  exact ⟨(mopsT_lst (⟨i, true, ob⟩ :: l) h1).1, (mopsT_lst (⟨j, true, ob'⟩ :: l') h2).1⟩
theorem mopsT_fin {P : Program} {ops : Array Oper} {I : (Nat → MV) → MSt → Prop} {Q : Exit → (Nat → MV) → MSt → Prop} {env s} (h : I env s) : mopsT P ops (fun env s => mthen I Q .normal env s) .fin env s := h
end Go.Mir
