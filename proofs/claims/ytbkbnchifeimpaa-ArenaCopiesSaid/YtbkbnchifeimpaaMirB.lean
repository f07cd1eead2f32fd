import Derived.Test.YtbkbnchifeimpaaMirA
import Derived.TacticsIn
import Derived.OrdersIn
set_option linter.unusedVariables false
set_option linter.unusedSimpArgs false
/- append, of the mirror. -/
namespace Go.Mir

theorem sim_append {P : Program} {m s w t xt x y rx ry v s'} {ty : TypeId} {ats : Array TypeId} {args : Array Value} (hr : RelS m s w) (hx : RelV m s w x rx) (hy : RelV m s w y ry)
    (ht : ats[0]? = some t) (hxt : ats[1]? = some xt) (ha0 : args[0]? = some rx) (ha1 : args[1]? = some ry) (h : mappend P s t xt x y = some (v, s')) :
    ∃ m' r w', (Builtin.append_ ats ty args).run P w = .ok r w' ∧ Ext m s w m' s' w' ∧ RelS m' s' w' ∧ RelV m' s' w' v r := by
  unfold mappend at h
  split at h
  rotate_left
  · simp at h
  rename_i e dx hu hux
  split at h
  · simp at h
  rename_i hdx
  split at h
  rotate_left
  · simp at h
  rename_i sz b z hs hb hz
  split at h
  rotate_left
  · simp at h
  rename_i n cs len hsrc hlen
  obtain ⟨hn, news, hLn, hln, hfn⟩ := sim_src (P := P) hr hy hsrc
  obtain ⟨base, cap, rfl, hlc⟩ := sim_lenOf hx hlen
  split at h
  · rename_i hn0
    subst hn0
    simp only [Option.some.injEq, Prod.mk.injEq] at h
    obtain ⟨rfl, rfl⟩ := h
    have hnil : news = [] := List.eq_nil_of_length_eq_zero (by omega)
    subst hnil
    refine ⟨m, _, w, ?_, Ext.refl _ _ _, hr, hx⟩
    rw [run_append_in ht hxt ha0 ha1 hu hux (fun k hk => hdx k hk) hs hn (hfn w rfl) (by omega)]
    cases base <;> rfl
  rename_i hn0
  split at h
  rotate_left
  · simp at h
  rename_i hcond
  obtain ⟨hbytes, hb0, hzl, hflat⟩ := hcond
  have hcs : cs.length = n * sz := by have := hLn.1; omega
  have hone : ∀ r ∈ news, one1 r = true := fun r hr' => by
    obtain ⟨j, hj, rfl⟩ := List.mem_iff_getElem.1 hr'
    have hj' : j < cs.length := by omega
    exact (hLn.2 j hj' hj).one (List.all_eq_true.1 hflat _ (List.getElem_mem hj'))
  have hnoY : ∀ v ∈ cs, v.noY = true := fun v hv => noY_of_flat (List.all_eq_true.1 hflat v hv)
  have grow := fun {olds : List Value} ho hlt => run_append_grow (P := P) (w := w) (ty := ty) (olds := olds) ht hxt ha0 ha1 hu hux (fun k hk => hdx k hk) hs hb hz hn hfn ho hlt hbytes hb0
  -- a new block holds what was there and what is new
  have fresh : ∀ (olds : List Value) (ocs : List MV) (rest : Array Value) (w' : World), RelL m s w ocs olds → (∀ v ∈ ocs, v.noY = true) → w'.heap = w.heap.push (.cells (olds.toArray ++ news.toArray ++ rest) e (0, 0)) → Calm3 w w' →
      ∀ st, Ext m s w (m.at s.h.length (w.heap.size, 0)) (s.push (.blk st (ocs ++ cs))) w' ∧ RelS (m.at s.h.length (w.heap.size, 0)) (s.push (.blk st (ocs ++ cs))) w' := by
    intro olds ocs rest w' hLo hyo hw hio st
    refine adopt (hio := hio) hr (by rw [hw]; simp) (fun x hx => by rw [hw]; simp [Array.getElem?_push]; omega) st w.heap.size 0 (ocs ++ cs) (olds.toArray ++ news.toArray ++ rest) e (0, 0) (Nat.le_refl _) (by rw [hw]; simp) (by simp) (by have := hLo.1; have := hLn.1; simp; omega) (fun j hj hj' => ?_) (fun v hv => ?_)
    · have h1 := hLo.1; have h2 := hLn.1
      simp only [Nat.zero_add] at hj' ⊢
      by_cases hjo : j < ocs.length
      · have := hLo.2 j hjo (by omega)
        rw [List.getElem_append_left hjo, Array.getElem_append_left (by simp; omega), Array.getElem_append_left (by simp; omega)]
        simpa using this
      · have hj3 : j - ocs.length < cs.length := by simp at hj; omega
        have := hLn.2 (j - ocs.length) hj3 (by omega)
        rw [List.getElem_append_right (by omega), Array.getElem_append_left (by simp; omega), Array.getElem_append_right (by simp; omega)]
        simp only [List.size_toArray, List.getElem_toArray, ← h1]
        exact this
    · rcases List.mem_append.1 hv with h | h
      · exact hyo v h
      · exact hnoY v h
  split at h
  · -- nil
    simp only [Option.some.injEq, Prod.mk.injEq] at h
    obtain ⟨rfl, rfl⟩ := h
    cases hx
    obtain ⟨nc, rest, w', g1, gio, g2, g3, zs, g4, g5⟩ := grow (olds := []) (fun w' _ => rfl) (by omega)
    obtain ⟨e1, r1⟩ := fresh [] [] rest w' ⟨rfl, by simp⟩ (by simp) (by simpa using g3) gio n
    simp only [List.nil_append] at e1 r1
    refine ⟨_, _, w', g1, e1, r1, ?_⟩
    have hw := RelV.msl (m := m.at s.h.length (w.heap.size, 0)) (s := s.push (.blk n cs)) (w := w') s.h.length n sz 0 n none nc (live_push s n cs) (by omega) (by simp)
      ⟨_, e, (0, 0), by simp only [at_same]; rw [g3]; simp; rfl, by
        simp only [at_same]
        simp [g4, g5, hzl, hln]
        rw [← Nat.add_mul]; exact Nat.mul_le_mul_right _ (by omega)⟩
    simp only [at_same] at hw
    rw [Nat.zero_add]
    simpa only [Nat.add_zero] using hw
  · -- frozen, the capacity known
    rename_i cells len' c
    split at h
    rotate_left
    · simp at h
    rename_i hc
    obtain ⟨hc1, hc2, hc3⟩ := hc
    simp only [Option.some.injEq, Prod.mk.injEq] at h
    obtain ⟨rfl, rfl⟩ := h
    simp only [mlenOf, Option.some.injEq] at hlen
    subst hlen
    have hcl : mcellsOf s sz len' (.fsl cells len' (some c)) = some (cells.take (len' * sz)) := by simp [mcellsOf, hc2]
    obtain ⟨a', c', olds, hsl, hLo, hlo, hload, hnone⟩ := sim_cellsOf (P := P) hr hx (by simp [mlenOf]) hcl
    simp only [Value.slice.injEq, true_and] at hsl
    obtain ⟨rfl, rfl⟩ := hsl
    have hcapc : cap = c := by cases hx with | fsl _ _ _ _ _ _ _ _ _ _ hcap => exact hcap c rfl
    obtain ⟨nc, rest, w', g1, gio, g2, g3, zs, g4, g5⟩ := grow (olds := olds) (fun w' hw => by
      cases base with
      | none => obtain ⟨h1, h2⟩ := hnone rfl; subst h1; subst h2; rfl
      | some b' => exact hload b' rfl w' hw) (by omega)
    obtain ⟨e1, r1⟩ := fresh olds _ rest w' hLo (fun v hv => noY_of_flat (List.all_eq_true.1 hc3 v hv)) g3 gio (len' + n)
    refine ⟨_, _, w', g1, e1, r1, ?_⟩
    have hw := RelV.msl (m := m.at s.h.length (w.heap.size, 0)) (s := s.push (.blk (len' + n) (cells.take (len' * sz) ++ cs))) (w := w') s.h.length (len' + n) sz 0 (len' + n) none nc (live_push s _ _) (by omega) (by simp)
      ⟨_, e, (0, 0), by simp only [at_same]; rw [g3]; simp; rfl, by
        simp only [at_same]
        simp [g4, g5, hzl, hln, hlo]
        rw [← Nat.add_mul, ← Nat.add_mul]; exact Nat.mul_le_mul_right _ (by omega)⟩
    simp only [at_same] at hw
    exact hw
  · -- the mirror's own
    rename_i β st sz' off len' cap'
    split at h
    rotate_left
    · simp at h
    rename_i st' cells hβ
    split at h
    rotate_left
    · simp at h
    rename_i hc
    obtain ⟨rfl, rfl, hc3⟩ := hc
    simp only [Option.some.injEq, Prod.mk.injEq] at h
    obtain ⟨rfl, rfl⟩ := h
    have hlv : s.isLive β st' = true := isLive_iff.2 ⟨cells, hβ⟩
    simp only [mlenOf, hlv, if_true, Option.some.injEq] at hlen
    subst hlen
    have hcl : mcellsOf s sz' len' (.msl β st' sz' off len' cap') = some ((cells.drop off).take (len' * sz')) := by simp [mcellsOf, hβ, hc3]
    obtain ⟨a', c', olds, hsl, hLo, hlo, hload, hnone⟩ := sim_cellsOf (P := P) hr hx (by simp [mlenOf, hlv]) hcl
    simp only [Value.slice.injEq, true_and] at hsl
    obtain ⟨rfl, rfl⟩ := hsl
    obtain ⟨arr, el, fz, a1, a2, a3, a4, a5⟩ := hr.blk β st' cells hβ
    have hyo : ∀ v ∈ (cells.drop off).take (len' * sz'), v.noY = true := fun v hv => by
      have hv' : v ∈ cells := List.mem_of_mem_drop (List.mem_of_mem_take hv)
      obtain ⟨j, hj, rfl⟩ := List.mem_iff_getElem.1 hv'
      exact noY_of_lt _ (a5 j hj)
    have hlt := lt_of_getElem? hβ
    by_cases hfit : len' + n ≤ cap
    · -- in place
      cases hx with
      | mslStale _ _ _ _ _ _ _ hst _ => rw [live_stale hst] at hlv; simp at hlv
      | msl _ _ _ _ _ _ _ hlive hlen2 hcap harr =>
      obtain ⟨arr1, el1, fz1, b1, b2⟩ := harr
      rw [a1] at b1
      simp only [Option.some.injEq, Obj.cells.injEq] at b1
      obtain ⟨rfl, rfl, rfl⟩ := b1
      have hmul : len' * sz' + n * sz' ≤ cap * sz' := by rw [← Nat.add_mul]; exact Nat.mul_le_mul_right _ hfit
      obtain ⟨w', arr', g1, gio, g2, g3, g4, g5, g6, g7⟩ := run_storeCells_real (P := P) news w (m.b β).1 ((m.b β).2 + off + len' * sz') 0 arr el fz a1 (by omega) a2 hone
      refine ⟨m.at β ((m.b β).1, (m.b β).2 + off), .slice (some ⟨(m.b β).1, (m.b β).2 + off, none⟩) (len' + n) cap, w', ?_, ?_⟩
      · rw [run_append_in ht hxt ha0 ha1 hu hux (fun k hk => hdx k hk) hs hn (hfn w rfl) hfit]
        simp only [add_addr, g1]
        rfl
      obtain ⟨e1, r1⟩ := replace_rel (w' := w') (hio := gio) hr hβ (nextSt st' (len' + n)) (nextSt_gt _ _) ((cells.drop off).take (len' * sz') ++ cs) (m.b β).1 ((m.b β).2 + off) (by omega) (fun x _ hx => g5 x hx)
        (fun arr1 el1 fz1 h1 => by
          rw [a1] at h1
          simp only [Option.some.injEq, Obj.cells.injEq] at h1
          obtain ⟨rfl, rfl, rfl⟩ := h1
          exact ⟨arr', g2, g3⟩) (.inl rfl) arr' el fz g2 (by rw [g3]; exact a2) (by simp; omega) (fun j hj hj' => by
          by_cases hjo : j < len' * sz'
          · have h1 := a4 (off + j) (by omega) (by omega)
            have h2 := g7 ((m.b β).2 + off + j) (by omega)
            have h4 : (m.b β).2 + (off + j) < arr.size := by omega
            have h3 : arr'[(m.b β).2 + off + j] = arr[(m.b β).2 + (off + j)] := by
              have h5 : arr'[(m.b β).2 + off + j]? = arr[(m.b β).2 + (off + j)]? := by rw [h2, Nat.add_assoc]
              rw [Array.getElem?_eq_getElem hj', Array.getElem?_eq_getElem h4] at h5
              exact Option.some.inj h5
            rw [List.getElem_append_left (by simp; omega), h3]
            simpa using h1
          · have hl3 : ((cells.drop off).take (len' * sz')).length = len' * sz' := by simp; omega
            have hj3 : j - len' * sz' < cs.length := by simp at hj; omega
            have h1 := hLn.2 (j - len' * sz') hj3 (by omega)
            have h2 := g6 (j - len' * sz') (by omega)
            rw [show (m.b β).2 + off + len' * sz' + 0 + (j - len' * sz') = (m.b β).2 + off + j from by omega, Array.getElem?_eq_getElem hj'] at h2
            simp only [Option.some.injEq] at h2
            rw [List.getElem_append_right (by omega), h2]
            simp only [hl3]
            exact h1) (fun v hv => by
          rcases List.mem_append.1 hv with h | h
          · exact hyo v h
          · exact hnoY v h)
      refine ⟨e1, r1, ?_⟩
      have hw := RelV.msl (m := m.at β ((m.b β).1, (m.b β).2 + off)) (s := s.put β (.blk (nextSt st' (len' + n)) ((cells.drop off).take (len' * sz') ++ cs))) (w := w') β (nextSt st' (len' + n)) sz' 0 (len' + n) none cap
        ⟨_, by rw [put_get _ _ _ _ hlt, if_pos rfl]⟩ hfit (by simp) ⟨arr', el, fz, by simp only [at_same]; exact g2, by simp only [at_same]; omega⟩
      simp only [at_same] at hw
      exact hw
    · -- elsewhere
      obtain ⟨nc, rest, w', g1, gio, g2, g3, zs, g4, g5⟩ := grow (olds := olds) (fun w' hw => by
        cases base with
        | none => obtain ⟨h1, h2⟩ := hnone rfl; subst h1; subst h2; rfl
        | some b' => exact hload b' rfl w' hw) (by omega)
      have hold : ∀ x, x < w.heap.size → w'.heap[x]? = w.heap[x]? := fun x hx => by rw [g3]; simp [Array.getElem?_push]; omega
      obtain ⟨e1, r1⟩ := replace_rel (w' := w') (hio := gio) hr hβ (nextSt st' (len' + n)) (nextSt_gt _ _) ((cells.drop off).take (len' * sz') ++ cs) w.heap.size 0 (by rw [g3]; simp) (fun x hx _ => hold x hx)
        (fun arr1 el1 fz1 h1 => ⟨arr1, by rw [hold _ (heap_lt h1)]; exact h1, rfl⟩) (.inr (Nat.le_refl _)) (olds.toArray ++ news.toArray ++ rest) e (0, 0) (by rw [g3]; simp) (by simp) (by have := hLo.1; have := hLn.1; simp at *; omega) (fun j hj hj' => by
          have h1 := hLo.1; have h2 := hLn.1
          simp only [Nat.zero_add] at hj' ⊢
          by_cases hjo : j < ((cells.drop off).take (len' * sz')).length
          · have := hLo.2 j hjo (by omega)
            rw [List.getElem_append_left hjo, Array.getElem_append_left (by simp; omega), Array.getElem_append_left (by simp; omega)]
            simpa using this
          · have hj3 : j - ((cells.drop off).take (len' * sz')).length < cs.length := by rw [List.length_append] at hj; omega
            have := hLn.2 (j - ((cells.drop off).take (len' * sz')).length) hj3 (by omega)
            rw [List.getElem_append_right (by omega), Array.getElem_append_left (by rw [List.length_append] at hj; simp; omega), Array.getElem_append_right (by simp; omega)]
            simp only [List.size_toArray, List.getElem_toArray, ← h1]
            exact this) (fun v hv => by
          rcases List.mem_append.1 hv with h | h
          · exact hyo v h
          · exact hnoY v h)
      refine ⟨_, _, w', g1, e1, r1, ?_⟩
      have hw := RelV.msl (m := m.at β (w.heap.size, 0)) (s := s.put β (.blk (nextSt st' (len' + n)) ((cells.drop off).take (len' * sz') ++ cs))) (w := w') β (nextSt st' (len' + n)) sz' 0 (len' + n) none nc
        ⟨_, by rw [put_get _ _ _ _ hlt, if_pos rfl]⟩ g2 (by simp) ⟨_, e, (0, 0), by simp only [at_same]; rw [g3]; simp; rfl, by
          simp only [at_same]
          simp [g4, g5, hzl, hln, hlo]
          rw [← Nat.add_mul, ← Nat.add_mul]; exact Nat.mul_le_mul_right _ (by omega)⟩
      simp only [at_same] at hw
      exact hw
  · simp at h


/-- The capacity that is known. -/
def mcapOf : MV → Option Nat
  | .nilsl => some 0
  | .fsl _ _ c => c
  | .msl _ _ _ _ _ c => c
  | _ => none

theorem sim_capOf {m s w x rx c} {a : Option Addr} {n rc : Nat} (hx : RelV m s w x rx) (h : mcapOf x = some c) (hl : ∃ k, mlenOf s x = some k) (hr : rx = .slice a n rc) : rc = c := by
  subst hr
  cases hx with
  | nilsl => simpa [mcapOf] using h
  | fsl _ _ _ _ _ _ _ _ _ _ hcap => exact hcap _ h
  | msl _ _ _ _ _ _ _ _ _ hcap => exact hcap _ h
  | mslStale _ _ _ _ _ _ _ st _ => obtain ⟨k, hk⟩ := hl; simp only [mlenOf, live_stale st] at hk; simp at hk
  | _ => simp [mcapOf] at h

/-- An append that surely lays a new block: it takes a number that waited. -/
def mgrow (P : Program) (s : MSt) (β t xt : Nat) (x y : MV) : Option (MV × MSt) :=
  match s.h[β]?, P.underlying t, P.underlying xt with
  | some .ghost, some (.slice e), some dx =>
    match dx with
    | .int _ => none
    | _ =>
    match sizeOf' P e, bytesOf P e, zeroCells P e with
    | some sz, some b, some z =>
      match msrc s sz y, mlenOf s x, mcapOf x with
      | some (n, cs), some len, some c =>
        match mcellsOf s sz len x with
        | some ocs => if n ≠ 0 ∧ c < len + n ∧ (2 * (len + n) + 192) * b ≤ 281474976710656 ∧ 0 < b ∧ z.length = sz ∧ cs.all MV.flat ∧ ocs.all MV.flat then
            some (.msl β (len + n) sz 0 (len + n) none, s.put β (.blk (len + n) (ocs ++ cs))) else none
        | none => none
      | _, _, _ => none
    | _, _, _ => none
  | _, _, _ => none

theorem sim_grow {P : Program} {m s w β t xt x y rx ry v s'} {ty : TypeId} {ats : Array TypeId} {args : Array Value} (hr : RelS m s w) (hx : RelV m s w x rx) (hy : RelV m s w y ry)
    (ht : ats[0]? = some t) (hxt : ats[1]? = some xt) (ha0 : args[0]? = some rx) (ha1 : args[1]? = some ry) (h : mgrow P s β t xt x y = some (v, s')) :
    ∃ m' r w', (Builtin.append_ ats ty args).run P w = .ok r w' ∧ Ext m s w m' s' w' ∧ RelS m' s' w' ∧ RelV m' s' w' v r := by
  unfold mgrow at h
  split at h
  rotate_left
  · simp at h
  rename_i e dx hgh hu hux
  split at h
  · simp at h
  rename_i hdx
  split at h
  rotate_left
  · simp at h
  rename_i sz b z hs hb hz
  split at h
  rotate_left
  · simp at h
  rename_i n cs len c hsrc hlen hcap
  split at h
  rotate_left
  · simp at h
  rename_i ocs hocs
  split at h
  rotate_left
  · simp at h
  rename_i hcond
  obtain ⟨hn0, hc1, hbytes, hb0, hzl, hflat, hoflat⟩ := hcond
  simp only [Option.some.injEq, Prod.mk.injEq] at h
  obtain ⟨rfl, rfl⟩ := h
  obtain ⟨hn, news, hLn, hln, hfn⟩ := sim_src (P := P) hr hy hsrc
  obtain ⟨base, cap, rfl, hlc⟩ := sim_lenOf hx hlen
  have hcapc : cap = c := sim_capOf hx hcap ⟨_, hlen⟩ rfl
  subst hcapc
  obtain ⟨a', c', olds, hsl, hLo, hlo, hload, hnone⟩ := sim_cellsOf (P := P) hr hx hlen hocs
  simp only [Value.slice.injEq, true_and] at hsl
  obtain ⟨rfl, rfl⟩ := hsl
  have hlt := lt_of_getElem? hgh
  obtain ⟨nc, rest, w', g1, gio, g2, g3, zs, g4, g5⟩ := run_append_grow (P := P) (w := w) (ty := ty) (olds := olds) ht hxt ha0 ha1 hu hux (fun k hk => hdx k hk) hs hb hz hn hfn (fun w' hw => by
      cases base with
      | none => obtain ⟨h1, h2⟩ := hnone rfl; subst h1; subst h2; rfl
      | some b' => exact hload b' rfl w' hw) (by omega) hbytes hb0
  obtain ⟨e1, r1⟩ := birth (w1 := w') (hio := gio) hr (by rw [g3]; simp) (fun x hx => by rw [g3]; simp [Array.getElem?_push]; omega) β hgh (len + n) w.heap.size 0 (ocs ++ cs) (olds.toArray ++ news.toArray ++ rest) e (0, 0) (Nat.le_refl _) (by rw [g3]; simp) (by simp)
    (by have := hLo.1; have := hLn.1; simp; omega) (fun j hj hj' => by
      have h1 := hLo.1; have h2 := hLn.1
      simp only [Nat.zero_add] at hj' ⊢
      by_cases hjo : j < ocs.length
      · have := hLo.2 j hjo (by omega)
        rw [List.getElem_append_left hjo, Array.getElem_append_left (by simp; omega), Array.getElem_append_left (by simp; omega)]
        simpa using this
      · have hj3 : j - ocs.length < cs.length := by simp at hj; omega
        have := hLn.2 (j - ocs.length) hj3 (by omega)
        rw [List.getElem_append_right (by omega), Array.getElem_append_left (by simp; omega), Array.getElem_append_right (by simp; omega)]
        simp only [List.size_toArray, List.getElem_toArray, ← h1]
        exact this) (fun v hv => by
      rcases List.mem_append.1 hv with h | h
      · exact noY_of_flat (List.all_eq_true.1 hoflat v h)
      · exact noY_of_flat (List.all_eq_true.1 hflat v h))
  refine ⟨_, _, w', g1, e1, r1, ?_⟩
  have hw := RelV.msl (m := m.at β (w.heap.size, 0)) (s := s.put β (.blk (len + n) (ocs ++ cs))) (w := w') β (len + n) sz 0 (len + n) none nc ⟨_, by rw [put_get _ _ _ _ hlt, if_pos rfl]⟩ (by omega) (by simp)
    ⟨_, e, (0, 0), by simp only [at_same]; rw [g3]; simp; rfl, by
      simp only [at_same]
      simp [g4, g5, hzl, hln, hlo]
      rw [← Nat.add_mul, ← Nat.add_mul]; exact Nat.mul_le_mul_right _ (by omega)⟩
  simp only [at_same] at hw
  exact hw

end Go.Mir

/- The mirror's operations together, and that each is a real one. -/
namespace Go.Mir

def mbuildSlice (P : Program) (t : TypeId) (len : Nat) (parts : List (Nat × MV)) : Option MV :=
  match P.underlying t with
  | some (.slice e) => match sizeOf' P e, zeroCells P e with
    | some n, some z => if len * n ≤ 16777216 ∧ z.length ≠ 0 then (mfill (fun i => some (i * n, n)) (mzeros z (len * n)) parts).map fun cs => .fsl cs len (some len) else none
    | _, _ => none
  | _ => none

theorem run_buildSlice {P : Program} {m s w t len parts} {rparts : Array (Nat × Value)} {e n z out} (hp : RelP m s w parts rparts.toList) (hu : P.underlying t = some (.slice e)) (hn : sizeOf' P e = some n) (hz : zeroCells P e = some z)
    (hc : len * n ≤ 16777216 ∧ z.length ≠ 0) (hf : mfill (fun i => some (i * n, n)) (mzeros z (len * n)) parts = some out) :
    ∃ (rout : Array Value) (w' : World), (Instr.buildSlice t len rparts).run P w = .ok (.slice (some ⟨w.heap.size, 0, none⟩) len len) w' ∧ Calm3 w w' ∧ w'.heap = w.heap.push (.cells rout e (0, 0)) ∧ RelL m s w out rout.toList := by
  obtain ⟨zv, z1, z2⟩ := zeroCells_spec hz w
  have hzr : RelL m s w z zv.cells.toList := by subst z2; exact ⟨by simp, fun j hj hj' => by simpa using rel_ofVal1 _⟩
  have hzne : zv.cells.size ≠ 0 := by have := hzr.1; simp at this; omega
  obtain ⟨rout, g1, g2⟩ := sim_fill (m := m) (s := s) (w := w) (fun i => some (i * n, n)) parts rparts.toList (mzeros z (len * n)) _ out hp.1 hp.2 (rel_zeros hzr hzne (len * n)) hf
  refine ⟨rout, w.alloc (.cells rout e (0, 0)), ?_, ⟨rfl, rfl, rfl⟩, rfl, g2⟩
  have h1 : ¬ (len * n > 2 ^ 24) := by omega
  simp only [Instr.buildSlice, Sem.run_bind, run_underlying' hu, Result.andThen, sizeOf'_spec hn w, h1, if_false]
  by_cases h0 : len * n = 0
  · have hem : ∀ f : Nat → Value, (Array.range 0).map f = #[] := fun f => by simp
    rw [h0, hem] at g1
    simp only [h0, if_true, hem, Sem.run_bind, Sem.run_pure, Result.andThen, g1, newRow, run_newObj]
    rfl
  · simp only [h0, if_false, Sem.run_bind, z1, Result.andThen, Sem.run_pure, g1, newRow, run_newObj]
    rfl

theorem sim_buildSlice {P : Program} {m s w t len parts v} {rparts : Array (Nat × Value)} (hr : RelS m s w) (hp : RelP m s w parts rparts.toList) (h : mbuildSlice P t len parts = some v) :
    ∃ r w', (Instr.buildSlice t len rparts).run P w = .ok r w' ∧ Ext m s w m s w' ∧ RelS m s w' ∧ RelV m s w' v r := by
  unfold mbuildSlice at h
  split at h
  rotate_left
  · simp at h
  rename_i e hu
  split at h
  rotate_left
  · simp at h
  rename_i n z hn hz
  split at h
  rotate_left
  · simp at h
  rename_i hc
  cases hf : mfill (fun i => some (i * n, n)) (mzeros z (len * n)) parts with
  | none => simp [hf] at h
  | some out =>
    simp only [hf, Option.map_some, Option.some.injEq] at h; subst h
    obtain ⟨rout, w', g1, gio, g2, g3⟩ := run_buildSlice hp hu hn hz hc hf
    have hw : w'.heap = (w.alloc (.cells rout e (0, 0))).heap := g2
    have ext : Ext m s w m s w' := ext_same_heap (ext_alloc (.cells rout e (0, 0))) hw gio
    refine ⟨_, w', g1, ext, (hr.alloc (.cells rout e (0, 0))).heap hw gio, ?_⟩
    refine .fsl _ _ _ w.heap.size 0 len rout.toList (by rw [g2]; simp) (not_own_new hr) (Nat.le_refl _) (by simp) g3.1 (fun j hj => ?_) (fun j hj hj' => (g3.2 j hj hj').ext ext)
    simp only [World.cell?, g2, Nat.zero_add]
    have hj' : j < rout.size := by simpa using hj
    simp [hj']

def mnilCheck (s : MSt) (x : MV) : Option MV :=
  match x with
  | .ptr β st _ => if s.isLive β st then some x else none
  | .fptr .. => some x
  | .func (.func _) _ _ => some x
  | .yield _ => some x
  | _ => none

/-- The operations of the mirror: all but calls of functions. -/
def mbuiltin (P : Program) (s : MSt) (b : Builtin) (ats : Array TypeId) (args : List MV) : Option (MV × MSt) :=
  match b, args with
  | .len, [x] => match ats[0]? with
    | some t => (mlen P s t x).map fun v => (v, s)
    | none => none
  | .append, [x, y] => match ats[0]?, ats[1]? with
    | some t, some xt => mappend P s t xt x y
    | _, _ => none
  | .min, [.int k x, .int k' y] => if k = k' then some (.int k (if y < x then y else x), s) else none
  | .max, [.int k x, .int k' y] => if k = k' then some (.int k (if y > x then y else x), s) else none
  | _, _ => none

def isIface (P : Program) (t : TypeId) : Option Bool := (P.underlying t).map fun d => match d with | .interface _ => true | _ => false

def mop (P : Program) (o : Op) (ev : Operand → MV) (s : MSt) : Option (MV × MSt) :=
  match o with
  | .move x | .assign x => some (ev x, s)
  | .pick c a b => match ev c with
    | .bool t => some (if t then ev a else ev b, s)
    | _ => none
  | .alloc e => malloc P s e
  | .box _ x => mbox s (ev x)
  | .build t parts => (mbuild P t (parts.toList.map fun p => (p.1, ev p.2))).map fun v => (v, s)
  | .buildSlice t len parts => (mbuildSlice P t len (parts.toList.map fun p => (p.1, ev p.2))).map fun v => (v, s)
  | .load t a => match lay P t with
    | some (ag, n) => (mload s ag n (ev a)).map fun v => (v, s)
    | none => none
  | .store t a x => match lay P t with
    | some (_, n) => (mstore s n (ev a) (ev x)).map fun s' => (.undef, s')
    | none => none
  | .nilCheck x => (mnilCheck s (ev x)).map fun v => (v, s)
  | .binOp op t x y _ => (mbin P s op t (ev x) (ev y)).map fun v => (v, s)
  | .unOp op _ x => (mun op (ev x)).map fun v => (v, s)
  | .convert src dst x => (mconv P s src dst (ev x)).map fun v => (v, s)
  | .makeInterface t x => if isIface P t = some false then some (.iface t (ev x), s) else none
  | .makeFunc fn first cap => match fn with
    | .yield _ => none
    | fn => some (.func fn (first.toList.map ev) (cap.toList.map ev), s)
  | .makeSlice t l c => mmake P s t (ev l) (ev c)
  | .slice t x lo hi mx => (mslice P s t (ev x) (lo.map ev) (hi.map ev) (mx.map ev)).map fun v => (v, s)
  | .fieldAddr t x f => match fOff P t f with
    | some (o, _, _) => (madd s (ev x) o).map fun v => (v, s)
    | none => none
  | .field t x f => (mfield P t (ev x) f).map fun v => (v, s)
  | .indexAddr t x i => (mindexAddr P s t (ev x) (ev i)).map fun v => (v, s)
  | .index t x i => (mindex P t (ev x) (ev i)).map fun v => (v, s)
  | .extract t i => match ev t with
    | .tuple vs => (vs[i]?).map fun v => (v, s)
    | _ => none
  | .call c => match c.callee with
    | .builtin b => mbuiltin P s b c.argTypes (c.args.toList.map ev)
    | _ => none
  | _ => none

/-- What an operation of the real machine comes to, mirrored. -/
def Sim (P : Program) (m : Emb) (s : MSt) (w : World) (x : Sem Next) (v : MV) (s' : MSt) : Prop :=
  ∃ nx w' m' r, x.run P w = .ok nx w' ∧ (nx = .value r ∨ (nx = .skip ∧ r = Go.undef)) ∧ Ext m s w m' s' w' ∧ RelS m' s' w' ∧ RelV m' s' w' v r

theorem sim_pure {P : Program} {m s w v r} (hr : RelS m s w) (hv : RelV m s w v r) : Sim P m s w (pure (.value r)) v s := ⟨_, w, m, r, rfl, .inl rfl, Ext.refl _ _ _, hr, hv⟩
theorem sim_v {P : Program} {m s w v r w'} {m' s'} {x : Sem Value} (h : x.run P w = .ok r w') (e : Ext m s w m' s' w') (hr : RelS m' s' w') (hv : RelV m' s' w' v r) : Sim P m s w (do pure (.value (← x))) v s' :=
  ⟨.value r, w', m', r, by simp only [Sem.run_bind, h, Result.andThen, Sem.run_pure], .inl rfl, e, hr, hv⟩
theorem sim_v0 {P : Program} {m s w v r} {x : Sem Value} (hr : RelS m s w) (h : x.run P w = .ok r w) (hv : RelV m s w v r) : Sim P m s w (do pure (.value (← x))) v s := sim_v h (Ext.refl _ _ _) hr hv

def plain2 (a b : Value) : Bool := match a, b with | .nilIface, .nilIface => false | .agg _, .agg _ => false | _, _ => true

theorem meq_plain {P : Program} {m s w t x y rx ry} {b : Bool} (hx : RelV m s w x rx) (hy : RelV m s w y ry) (h : meq P s t x y = some b) : plain2 rx ry = true := by
  unfold meq at h
  split at h
  · rename_i d hu
    split at h
    · cases hx; cases hy; rfl
    · split at h
      · split at h
        · rcases sim_nil hx h with ⟨_, _, rfl, _⟩ | ⟨_, _, _, _, rfl, _⟩ | ⟨_, _, rfl, _⟩ | ⟨_, rfl, _⟩ | ⟨_, _, _, _, rfl, _⟩ <;> rfl
        · split at h
          · rename_i hn
            rcases nilOf_spec hx hn with ⟨_, rfl⟩ | ⟨_, rfl⟩ | ⟨_, rfl⟩ | ⟨_, rfl⟩ <;> rfl
          · simp at h
      · simp at h
  · simp at h

theorem run_guard {P : Program} {op : BinOp} {t : TypeId} {x y : Operand} {a b : Value} {w : World} (h : plain2 a b = true) (K : Sem Value) :
    (do eqGuard op t x y a b; K : Sem Value).run P w = K.run P w := by
  simp only [Sem.run_bind, eqGuard_plain h, Result.andThen]

theorem binOp_eql {op : BinOp} {t : TypeId} {P : Program} {s : MSt} {m : Emb} {w : World} {x y rx ry} {b : Bool} (hx : RelV m s w x rx) (hy : RelV m s w y ry) (h : meq P s t x y = some b) (hop : op = .eql ∨ op = .neq) :
    (binOp op t rx ry).run P w = .ok (.bool (if op = .eql then b else !b)) w := by
  have he := sim_meq hx hy h
  have hp := meq_plain hx hy h
  have key : binOp op t rx ry = if op = .eql then (do pure (.bool (← Op.equal t rx ry))) else (do pure (.bool (!(← Op.equal t rx ry)))) := by
    unfold meq at h
    split at h
    · rename_i d hu
      split at h
      · cases hx; cases hy; rcases hop with rfl | rfl <;> rfl
      · split at h
        · split at h
          · rename_i hn
            rcases nilOf_spec hy hn with ⟨_, rfl⟩ | ⟨_, rfl⟩ | ⟨_, rfl⟩ | ⟨_, rfl⟩ <;>
            rcases sim_nil hx h with ⟨_, _, rfl, _⟩ | ⟨_, _, _, _, rfl, _⟩ | ⟨_, _, rfl, _⟩ | ⟨_, rfl, _⟩ | ⟨_, _, _, _, rfl, _⟩ <;> rcases hop with rfl | rfl <;> rfl
          · split at h
            · rename_i hn
              rcases nilOf_spec hx hn with ⟨_, rfl⟩ | ⟨_, rfl⟩ | ⟨_, rfl⟩ | ⟨_, rfl⟩ <;>
              rcases sim_nil hy h with ⟨_, _, rfl, _⟩ | ⟨_, _, _, _, rfl, _⟩ | ⟨_, _, rfl, _⟩ | ⟨_, rfl, _⟩ | ⟨_, _, _, _, rfl, _⟩ <;> rcases hop with rfl | rfl <;> rfl
            · simp at h
        · simp at h
    · simp at h
  rw [key]
  rcases hop with rfl | rfl
  · simp only [if_true, Sem.run_bind, he, Result.andThen, Sem.run_pure]
  · simp only [reduceCtorEq, if_false, Sem.run_bind, he, Result.andThen, Sem.run_pure]

theorem sim_bin {P : Program} {m s w op t x y rx ry v} {ox oy : Operand} (hx : RelV m s w x rx) (hy : RelV m s w y ry) (h : mbin P s op t x y = some v) :
    ∃ r, (do eqGuard op t ox oy rx ry; binOp op t rx ry : Sem Value).run P w = .ok r w ∧ RelV m s w v r := by
  unfold mbin at h
  split at h
  · rename_i k a k' b
    cases hx; cases hy
    rw [run_guard rfl]
    split at h
    · exact sim_shift (.inl rfl) h t
    · exact sim_shift (.inr rfl) h t
    · rename_i h1 h2
      split at h
      · rename_i hk
        subst hk
        exact sim_int ⟨fun e => h1 e, fun e => h2 e⟩ h t
      · simp at h
  · cases hx; cases hy
    rw [run_guard rfl]
    exact sim_str h t
  · split at h
    · cases hm : meq P s t x y with
      | none => simp [hm] at h
      | some b =>
        simp only [hm, Option.map_some, Option.some.injEq] at h; subst h
        rw [run_guard (meq_plain hx hy hm)]
        exact ⟨_, binOp_eql hx hy hm (.inl rfl), .bool _⟩
    · cases hm : meq P s t x y with
      | none => simp [hm] at h
      | some b =>
        simp only [hm, Option.map_some, Option.some.injEq] at h; subst h
        rw [run_guard (meq_plain hx hy hm)]
        exact ⟨_, binOp_eql hx hy hm (.inr rfl), .bool _⟩
    · simp at h

theorem relP_map {m s w} {ev : Operand → MV} {ρ : Operand → Value} (h : ∀ x, RelV m s w (ev x) (ρ x)) (ps : Array (Nat × Operand)) :
    RelP m s w (ps.toList.map fun p => (p.1, ev p.2)) (ps.map fun (i, x) => (i, ρ x)).toList := by
  refine ⟨by simp, fun j hj hj' => ?_⟩
  simp only [List.getElem_map, Array.getElem_toList, Array.toList_map]
  exact ⟨by first | rfl | trivial, h _⟩

theorem relO_map {m s w} {ev : Operand → MV} {ρ : Operand → Value} (h : ∀ x, RelV m s w (ev x) (ρ x)) (x : Option Operand) : RelO m s w (x.map ev) (x.map ρ) := by
  cases x with
  | none => exact .none
  | some x => exact .some (h x)

theorem sim_nilCheck {P : Program} {m s w} {ev : Operand → MV} {ρ : Operand → Value} (hr : RelS m s w) (hev : ∀ x, RelV m s w (ev x) (ρ x)) {o : Oper} {x : Operand} (ho : o.op = .nilCheck x) {v} (h : mnilCheck s (ev x) = some v) :
    Sim P m s w (execOp ρ o) v s := by
  have hx := hev x
  unfold execOp
  rw [ho]
  simp only
  generalize ρ x = rx at hx
  generalize ev x = y at hx h
  cases hx with
  | ptr β st off hl => simp only [mnilCheck, isLive_iff.2 hl, if_true, Option.some.injEq] at h; subst h; exact sim_pure hr (.ptr _ _ _ hl)
  | ptrStale β st off v hst hv => simp [mnilCheck, live_stale hst] at h
  | fptr cells off b base vs hb ho hl hc hv => simp only [mnilCheck, Option.some.injEq] at h; subst h; exact sim_pure hr (.fptr _ _ _ _ vs hb ho hl hc hv)
  | func fn fs cs rfs rcs hfn hf hc h1 h2 =>
    cases fn with
    | func f => simp only [mnilCheck, Option.some.injEq] at h; subst h; exact sim_pure hr (.func _ _ _ _ _ hfn hf hc h1 h2)
    | _ => simp [mnilCheck] at h
  | yield l hl => simp only [mnilCheck, Option.some.injEq] at h; subst h; exact sim_pure hr (.yield _ hl)
  | _ => simp [mnilCheck] at h

theorem rel_list_map {m s w} {ev : Operand → MV} {ρ : Operand → Value} (h : ∀ x, RelV m s w (ev x) (ρ x)) (xs : Array Operand) :
    (xs.toList.map ev).length = (xs.map ρ).size ∧ ∀ j (h : j < (xs.toList.map ev).length) (h' : j < (xs.map ρ).size), RelV m s w (xs.toList.map ev)[j] (xs.map ρ)[j] :=
  ⟨by simp, fun j hj hj' => by simpa using h _⟩

theorem args_get {m s w} {vs : List MV} {rs : Array Value} (hl : vs.length = rs.size) (h : ∀ j (h : j < vs.length) (h' : j < rs.size), RelV m s w vs[j] rs[j]) {j : Nat} {v : MV} (hv : vs[j]? = some v) :
    ∃ r, rs[j]? = some r ∧ RelV m s w v r := by
  obtain ⟨hj, rfl⟩ := List.getElem?_eq_some_iff.1 hv
  have hj' : j < rs.size := by omega
  exact ⟨rs[j], by simp [hj'], h j hj hj'⟩

theorem sim_builtin {P : Program} {m s w b ats ty consts v s'} {args : List MV} {rargs : Array Value} (hr : RelS m s w) (hl : args.length = rargs.size) (ha : ∀ j (h : j < args.length) (h' : j < rargs.size), RelV m s w args[j] rargs[j])
    (h : mbuiltin P s b ats args = some (v, s')) : Sim P m s w (builtin b ats ty consts rargs) v s' := by
  unfold mbuiltin at h
  split at h
  · rename_i x
    obtain ⟨rx, hrx, hx⟩ := args_get hl ha (j := 0) rfl
    split at h
    · rename_i t ht
      cases hm : mlen P s t x with
      | none => simp [hm] at h
      | some v0 =>
        simp only [hm, Option.map_some, Option.some.injEq, Prod.mk.injEq] at h
        obtain ⟨rfl, rfl⟩ := h
        obtain ⟨r, h1, h2⟩ := sim_len (P := P) (ty := ty) (ats := ats) (args := rargs) hr ht hrx hx hm
        exact sim_v0 hr h1 h2
    · simp at h
  · rename_i x y
    obtain ⟨rx, hrx, hx⟩ := args_get hl ha (j := 0) rfl
    obtain ⟨ry, hry, hy⟩ := args_get hl ha (j := 1) rfl
    split at h
    · rename_i t xt ht hxt
      obtain ⟨m', r, w', h1, h2, h3, h4⟩ := sim_append (ty := ty) hr hx hy ht hxt hrx hry h
      exact sim_v h1 h2 h3 h4
    · simp at h
  · rename_i k x k' y
    have h2 : rargs = #[.int k x, .int k' y] := by
      obtain ⟨rx, hrx, hx⟩ := args_get hl ha (j := 0) rfl
      obtain ⟨ry, hry, hy⟩ := args_get hl ha (j := 1) rfl
      cases hx; cases hy
      apply Array.ext_getElem?
      intro i
      match i with
      | 0 => simpa using hrx
      | 1 => simpa using hry
      | i + 2 => simp at hl; simp [← hl]
    subst h2
    split at h
    · rename_i hk
      simp only [Option.some.injEq, Prod.mk.injEq] at h
      obtain ⟨rfl, rfl⟩ := h
      exact sim_v0 hr rfl (.int _ _)
    · simp at h
  · rename_i k x k' y
    have h2 : rargs = #[.int k x, .int k' y] := by
      obtain ⟨rx, hrx, hx⟩ := args_get hl ha (j := 0) rfl
      obtain ⟨ry, hry, hy⟩ := args_get hl ha (j := 1) rfl
      cases hx; cases hy
      apply Array.ext_getElem?
      intro i
      match i with
      | 0 => simpa using hrx
      | 1 => simpa using hry
      | i + 2 => simp at hl; simp [← hl]
    subst h2
    split at h
    · rename_i hk
      simp only [Option.some.injEq, Prod.mk.injEq] at h
      obtain ⟨rfl, rfl⟩ := h
      exact sim_v0 hr rfl (.int _ _)
    · simp at h
  · simp at h

theorem option_map_pair {o : Option MV} {s s' : MSt} {v : MV} (h : (o.map fun v => (v, s)) = some (v, s')) : o = some v ∧ s' = s := by
  cases o <;> simp at h
  exact ⟨by rw [h.1], h.2.symm⟩

/-- **Every operation of the mirror is one of the real machine.** -/
theorem sim_op {P : Program} {m s w} {ev : Operand → MV} {ρ : Operand → Value} (hr : RelS m s w) (hev : ∀ x, RelV m s w (ev x) (ρ x)) (o : Oper) {v s'} (h : mop P o.op ev s = some (v, s')) :
    Sim P m s w (execOp ρ o) v s' := by
  obtain ⟨dst, op, ty, pos, aft, g⟩ := o
  simp only at h
  cases op <;> simp only [mop, reduceCtorEq] at h <;> simp only [execOp]
  case move x =>
    simp only [Option.some.injEq, Prod.mk.injEq] at h; obtain ⟨rfl, rfl⟩ := h
    exact sim_pure hr (hev x)
  case assign x =>
    simp only [Option.some.injEq, Prod.mk.injEq] at h; obtain ⟨rfl, rfl⟩ := h
    exact sim_pure hr (hev x)
  case pick c a b =>
    have hc := hev c
    split at h
    · rename_i t ht
      rw [ht] at hc
      cases hcc : ρ c with
      | bool b' =>
        rw [hcc] at hc
        cases hc
        simp only [Option.some.injEq, Prod.mk.injEq] at h; obtain ⟨rfl, rfl⟩ := h
        cases t
        · exact sim_pure hr (hev b)
        · exact sim_pure hr (hev a)
      | _ => rw [hcc] at hc; cases hc
    · simp at h
  case alloc e =>
    obtain ⟨m', r, w', h1, h2, h3, h4⟩ := sim_alloc hr h
    exact sim_v h1 h2 h3 h4
  case box e x =>
    obtain ⟨m', r, w', h1, h2, h3, h4⟩ := sim_box (t := e) hr (hev x) h
    exact sim_v h1 h2 h3 h4
  case build t parts =>
    obtain ⟨h0, rfl⟩ := option_map_pair h
    obtain ⟨r, h1, h2⟩ := sim_build (relP_map hev parts) h0
    exact sim_v0 hr h1 h2
  case buildSlice t len parts =>
    obtain ⟨h0, rfl⟩ := option_map_pair h
    obtain ⟨r, w', h1, h2, h3, h4⟩ := sim_buildSlice hr (relP_map hev parts) h0
    exact sim_v h1 h2 h3 h4
  case load t a =>
    split at h
    · rename_i ag n hl
      obtain ⟨h0, rfl⟩ := option_map_pair h
      obtain ⟨r, h1, h2⟩ := sim_load hr hl (hev a) h0
      exact sim_v0 hr h1 h2
    · simp at h
  case store t a x =>
    split at h
    · rename_i ag n hl
      cases hm : mstore s n (ev a) (ev x) with
      | none => simp [hm] at h
      | some s1 =>
        simp only [hm, Option.map_some, Option.some.injEq, Prod.mk.injEq] at h
        obtain ⟨rfl, rfl⟩ := h
        obtain ⟨w', h1, h2, h3⟩ := sim_store hr hl (hev a) (hev x) hm
        exact ⟨.skip, w', m, Go.undef, by simp only [Sem.run_bind, h1, Result.andThen, Sem.run_pure], .inr ⟨rfl, rfl⟩, h2, h3, .tuple [] #[] rfl (by simp)⟩
    · simp at h
  case nilCheck x =>
    obtain ⟨h0, rfl⟩ := option_map_pair h
    exact sim_nilCheck (o := ⟨dst, .nilCheck x, ty, pos, aft, g⟩) hr hev rfl h0
  case binOp op t x y yt =>
    obtain ⟨h0, rfl⟩ := option_map_pair h
    obtain ⟨r, h1, h2⟩ := sim_bin (hev x) (hev y) h0
    exact sim_v0 hr h1 h2
  case unOp op t x =>
    obtain ⟨h0, rfl⟩ := option_map_pair h
    obtain ⟨r, h1, h2⟩ := sim_un (hev x) h0
    exact sim_v0 hr h1 h2
  case convert src dst x =>
    obtain ⟨h0, rfl⟩ := option_map_pair h
    obtain ⟨r, w', h1, h2, h3, h4⟩ := sim_conv hr (hev x) h0
    exact sim_v h1 h2 h3 h4
  case makeInterface t x =>
    split at h
    · rename_i hi
      simp only [Option.some.injEq, Prod.mk.injEq] at h; obtain ⟨rfl, rfl⟩ := h
      unfold isIface at hi
      cases hu : P.underlying t with
      | none => simp [hu] at hi
      | some d =>
        simp only [hu, Option.map_some, Option.some.injEq] at hi
        have : (Instr.makeInterface t (ρ x)).run P w = .ok (.iface t (ρ x)) w := by
          simp only [Instr.makeInterface, Sem.run_bind, run_underlying' hu, Result.andThen]
          cases d <;> first | rfl | simp at hi
        exact sim_v0 hr this (.iface _ _ _ (hev x))
    · simp at h
  case makeFunc fn first cap =>
    have f1 := rel_list_map hev first
    have f2 := rel_list_map hev cap
    split at h
    · simp at h
    · rename_i hfn
      simp only [Option.some.injEq, Prod.mk.injEq] at h; obtain ⟨rfl, rfl⟩ := h
      exact sim_v0 hr rfl (.func _ _ _ _ _ (fun l hl => hfn l hl) f1.1 f2.1 f1.2 f2.2)
  case makeSlice t l c =>
    obtain ⟨m', r, w', h1, h2, h3, h4⟩ := sim_make hr (hev l) (hev c) h
    exact sim_v h1 h2 h3 h4
  case slice t x lo hi mx =>
    obtain ⟨h0, rfl⟩ := option_map_pair h
    obtain ⟨r, h1, h2⟩ := sim_slice (hev x) (relO_map hev lo) (relO_map hev hi) (relO_map hev mx) h0
    exact sim_v0 hr h1 h2
  case fieldAddr t x f =>
    split at h
    · rename_i o ag n hf
      obtain ⟨h0, rfl⟩ := option_map_pair h
      obtain ⟨r, h1, h2⟩ := sim_fieldAddr hf (hev x) h0
      exact sim_v0 hr h1 h2
    · simp at h
  case field t x f =>
    obtain ⟨h0, rfl⟩ := option_map_pair h
    obtain ⟨r, h1, h2⟩ := sim_field (hev x) h0
    exact sim_v0 hr h1 h2
  case indexAddr t x i =>
    obtain ⟨h0, rfl⟩ := option_map_pair h
    obtain ⟨r, h1, h2⟩ := sim_indexAddr (hev x) (hev i) h0
    exact sim_v0 hr h1 h2
  case index t x i =>
    obtain ⟨h0, rfl⟩ := option_map_pair h
    obtain ⟨r, h1, h2⟩ := sim_index (hev x) (hev i) h0
    exact sim_v0 hr h1 h2
  case extract t i =>
    have ht := hev t
    split at h
    · rename_i vs hvs
      rw [hvs] at ht
      obtain ⟨h0, rfl⟩ := option_map_pair h
      cases hr' : ρ t with
      | tuple rs =>
        rw [hr'] at ht
        cases ht with
        | tuple _ _ hl hc =>
          obtain ⟨r, h1, h2⟩ := args_get hl hc h0
          exact sim_v0 hr (by simp only [Instr.extract, h1, Sem.run_pure]) h2
      | _ => rw [hr'] at ht; cases ht
    · simp at h
  case call c =>
    obtain ⟨callee, args, ats⟩ := c
    split at h
    · rename_i b hb
      simp only at hb
      subst hb
      have f1 := rel_list_map hev args
      have hs := sim_builtin (P := P) (ty := ty) (consts := args.map fun | .const _ => true | _ => false) hr f1.1 f1.2 h
      obtain ⟨nx, w', m', r, g1, g2⟩ := hs
      refine ⟨nx, w', m', r, ?_, g2⟩
      rw [← g1]
      rfl
    · simp at h

end Go.Mir

/- The mirror's judgement on code. -/
namespace Go.Mir

def fence (rd : Option Nat) : Fence := { Fence.wide with round := rd }

/-- What a real call comes to. -/
def Called (P : Program) (f : FuncId) (args : Array Value) (w : World) (R : Value → World → Prop) : Prop :=
  ((callFunc f args).run P w = .ok (.enter f args) w ∧ CallsIn Fence.wide 0 P f args w (fun e w' => ∃ v, e = .returned v ∧ R v w')) ∨
  ∃ v w', (callFunc f args).run P w = .ok (.value v) w' ∧ R v w'

def Post (m : Emb) (s : MSt) (w : World) (K : MV → MSt → Prop) (v : Value) (w' : World) : Prop :=
  ∃ m' s' r, K r s' ∧ RelS m' s' w' ∧ RelV m' s' w' r v ∧ Ext m s w m' s' w'

/-- **A call of function f at the mirror's arguments, in the mirror's store, ends in K.** -/
def MCalls (P : Program) (f : FuncId) (args : List MV) (s : MSt) (K : MV → MSt → Prop) : Prop :=
  ∀ (m : Emb) (w : World) (rargs : Array Value), RelS m s w → RelL m s w args rargs.toList → Called P f rargs w (Post m s w K)

def MRound (P : Program) (l : Nat) (args : List MV) (s : MSt) (K : MV → MSt → Prop) : Prop :=
  ∀ (m : Emb) (w : World) (rargs : Array Value), RelS m s w → RelL m s w args rargs.toList → l < s.ls.length →
    ∃ f tmps assign body, (Instr.yield (m.l l) rargs).run P w = .ok (.round (m.l l) f tmps assign body) w ∧
      RoundIn Fence.wide 0 P (m.l l) f tmps assign body w (fun e w' => ∃ v, e = .returned v ∧ Post m s w K v w')

/-- **A call of a function value.** -/
def MInv (P : Program) : MV → List MV → MSt → (MV → MSt → Prop) → Prop
  | .func (.func f) first cap, args, s, K => MCalls P f (first ++ args ++ cap) s K
  | .yield l, args, s, K => MRound P l args s K
  | _, _, _, _ => False

theorem Post.mono {m s w K K' v w'} (h : Post m s w K v w') (hk : ∀ r s', K r s' → K' r s') : Post m s w K' v w' := by
  obtain ⟨m', s', r, h1, h2⟩ := h
  exact ⟨m', s', r, hk _ _ h1, h2⟩

theorem Called.mono {P : Program} {f : FuncId} {args : Array Value} {w : World} {R R' : Value → World → Prop} (h : Called P f args w R) (hr : ∀ v w', R v w' → R' v w') : Called P f args w R' := by
  rcases h with ⟨h1, h2⟩ | ⟨v, w', h1, h2⟩
  · exact .inl ⟨h1, h2.mono fun e w' ⟨v, he, h⟩ => ⟨v, he, hr _ _ h⟩⟩
  · exact .inr ⟨v, w', h1, hr _ _ h2⟩

theorem MCalls.mono {P : Program} {f : FuncId} {args : List MV} {s : MSt} {K K' : MV → MSt → Prop} (h : MCalls P f args s K) (hk : ∀ r s', K r s' → K' r s') : MCalls P f args s K' :=
  fun m w rargs hr ha => (h m w rargs hr ha).mono fun _ _ hp => hp.mono hk

theorem MRound.mono {P : Program} {l : Nat} {args : List MV} {s : MSt} {K K' : MV → MSt → Prop} (h : MRound P l args s K) (hk : ∀ r s', K r s' → K' r s') : MRound P l args s K' :=
  fun m w rargs hr ha hl => by
    obtain ⟨f, tmps, assign, body, h1, h2⟩ := h m w rargs hr ha hl
    exact ⟨f, tmps, assign, body, h1, h2.mono fun e w' ⟨v, he, hp⟩ => ⟨v, he, hp.mono hk⟩⟩

theorem MInv.mono {P : Program} {fv : MV} {args : List MV} {s : MSt} {K K' : MV → MSt → Prop} (h : MInv P fv args s K) (hk : ∀ r s', K r s' → K' r s') : MInv P fv args s K' := by
  unfold MInv at *
  split at h
  · exact MCalls.mono h hk
  · exact MRound.mono h hk
  · exact h.elim

/-! ### Code -/
def ofits (N : Nat) (o : Oper) : Bool := (match o.dst with | some d => decide (d < N) | none => true) && o.op.operands.all (Operand.fits N) && (match o.op with | .defer _ => false | _ => true)

def cfits (N : Nat) : Code → Bool
  | .region _ ops _ => ops.all (ofits N)
  | .seq a b => cfits N a && cfits N b
  | .cond c a b => Operand.fits N c && cfits N a && cfits N b
  | .block _ c => cfits N c
  | .loop c => cfits N c
  | .rangeFunc f ps a b => Operand.fits N f && ps.all (· < N) && cfits N a && cfits N b
  | .scope c => cfits N c
  | _ => true

/-- The marks of the loops over functions that an activation has entered. -/
def Dfs (b0 : Nat) (ds : List Deferred) (m : Emb) (s : MSt) (w : World) : Prop :=
  ∃ rs : List Nat, ds = rs.map (fun r => ({ target := .collected r, args := #[] } : Deferred)) ∧ rs.Nodup ∧ ∀ r ∈ rs, w.heap[r]? = some (.deferred (some [])) ∧ ¬ Own m s r ∧ b0 ≤ r

theorem Dfs.ext {b0 ds m s w m' s' w'} (h : Dfs b0 ds m s w) (e : Ext m s w m' s' w') : Dfs b0 ds m' s' w' := by
  obtain ⟨rs, h1, h2, h3⟩ := h
  exact ⟨rs, h1, h2, fun r hr => ⟨by rw [e.same r (heap_lt (h3 r hr).1) (h3 r hr).2.1]; exact (h3 r hr).1, not_own_ext e (heap_lt (h3 r hr).1) (h3 r hr).2.1, (h3 r hr).2.2⟩⟩

def CPost (N b0 : Nat) (m : Emb) (s : MSt) (w : World) (Q : Exit → (Nat → MV) → MSt → Prop) (ex : Exit) (a' : Act) (w' : World) : Prop :=
  ∃ m' env' s', Q ex env' s' ∧ RelS m' s' w' ∧ RelE m' s' w' env' a'.tmps ∧ a'.tmps.size = N ∧ Dfs b0 a'.defers m' s' w' ∧ Ext m s w m' s' w'

/-- **Code, walked in the mirror**: N temporaries; rd: the round in which it stands. -/
def MCode (P : Program) (N : Nat) (rd : Option Nat) (c : Code) (Q : Exit → (Nat → MV) → MSt → Prop) (env : Nat → MV) (s : MSt) : Prop :=
  cfits N c = true → (∀ l, rd = some l → l < s.ls.length) → ∀ (m : Emb) (w : World) (a : Act) (b0 : Nat), b0 ≤ w.heap.size → RelS m s w → RelE m s w env a.tmps → a.tmps.size = N → Dfs b0 a.defers m s w →
    c.wpIn (fence (rd.map m.l)) 0 P (CPost N b0 m s w Q) a w

theorem CPost.mono {N b0 m s w Q Q' ex a' w'} (h : CPost N b0 m s w Q ex a' w') (hq : ∀ ex env s', Q ex env s' → Q' ex env s') : CPost N b0 m s w Q' ex a' w' := by
  obtain ⟨m', env', s', h1, h2⟩ := h
  exact ⟨m', env', s', hq _ _ _ h1, h2⟩

theorem MCode.mono {P N rd c Q Q' env s} (h : MCode P N rd c Q env s) (hq : ∀ ex env s', Q ex env s' → Q' ex env s') : MCode P N rd c Q' env s :=
  fun hs hrd m w a b0 hb h1 h2 h3 h4 => wpIn_mono (h hs hrd m w a b0 hb h1 h2 h3 h4) fun _ _ _ hp => hp.mono hq

/-- The post from a later state on. -/
theorem CPost.from {N b0 m s w m1 s1 w1 Q ex a' w'} (e : Ext m s w m1 s1 w1) (h : CPost N b0 m1 s1 w1 Q ex a' w') : CPost N b0 m s w Q ex a' w' := by
  obtain ⟨m', env', s', h1, h2, h3, h4, h5, h6⟩ := h
  exact ⟨m', env', s', h1, h2, h3, h4, h5, e.trans h6⟩

def mthen (next : (Nat → MV) → MSt → Prop) (Q : Exit → (Nat → MV) → MSt → Prop) : Exit → (Nat → MV) → MSt → Prop
  | .normal, env, s => next env s
  | e, env, s => Q e env s

theorem rd_ext {m s w m' s' w'} (e : Ext m s w m' s' w') {rd : Option Nat} (h : ∀ l, rd = some l → l < s.ls.length) : rd.map m'.l = rd.map m.l ∧ ∀ l, rd = some l → l < s'.ls.length := by
  cases rd with
  | none => exact ⟨rfl, by simp⟩
  | some l => exact ⟨by simp [e.ls l (h l rfl)], fun l' hl => by rw [e.leq]; exact h l' hl⟩

theorem mseq {P N rd x y Q env s} (h : MCode P N rd x (mthen (fun env s => MCode P N rd y Q env s) Q) env s) : MCode P N rd (.seq x y) Q env s := by
  intro hs hrd m w a b0 hb h1 h2 h3 h4
  simp only [cfits, Bool.and_eq_true] at hs
  refine wpIn_seq (wpIn_mono (h hs.1 hrd m w a b0 hb h1 h2 h3 h4) ?_)
  rintro ex a' w' ⟨m', env', s', g1, g2, g3, g4, g5, g6⟩
  obtain ⟨e1, e2⟩ := rd_ext g6 hrd
  cases ex with
  | normal =>
    have := g1 hs.2 e2 m' w' a' b0 (Nat.le_trans hb g6.size) g2 g3 g4 g5
    rw [e1] at this
    exact wpIn_mono this fun _ _ _ hp => hp.from g6
  | exit id => exact ⟨m', env', s', g1, g2, g3, g4, g5, g6⟩
  | goto l => exact ⟨m', env', s', g1, g2, g3, g4, g5, g6⟩
  | ret => exact ⟨m', env', s', g1, g2, g3, g4, g5, g6⟩
  | panic ch => exact ⟨m', env', s', g1, g2, g3, g4, g5, g6⟩
  | outgrown => exact ⟨m', env', s', g1, g2, g3, g4, g5, g6⟩

theorem mend {P N rd Q env s} (h : Q .normal env s) : MCode P N rd .skip Q env s :=
  fun _ _ m _ _ _ _ h1 h2 h3 h4 => wpIn_skip ⟨m, env, s, h, h1, h2, h3, h4, Ext.refl _ _ _⟩
theorem mlabel {P N rd l Q env s} (h : Q .normal env s) : MCode P N rd (.label l) Q env s :=
  fun _ _ m _ _ _ _ h1 h2 h3 h4 => wpIn_label ⟨m, env, s, h, h1, h2, h3, h4, Ext.refl _ _ _⟩
theorem mexit {P N rd id Q env s} (h : Q (.exit id) env s) : MCode P N rd (.exit id) Q env s :=
  fun _ _ m _ _ _ _ h1 h2 h3 h4 => wpIn_exit ⟨m, env, s, h, h1, h2, h3, h4, Ext.refl _ _ _⟩
theorem mret {P N rd Q env s} (h : Q .ret env s) : MCode P N rd .ret Q env s :=
  fun _ _ m _ _ _ _ h1 h2 h3 h4 => wpIn_ret ⟨m, env, s, h, h1, h2, h3, h4, Ext.refl _ _ _⟩

theorem mcond {P N rd c x y Q env s} {b : Bool} (hc : mev s env c = .bool b) (ht : b = true → MCode P N rd x Q env s) (hf : b = false → MCode P N rd y Q env s) : MCode P N rd (.cond c x y) Q env s := by
  intro hs hrd m w a b0 hb h1 h2 h3 h4
  simp only [cfits, Bool.and_eq_true] at hs
  have hv := rel_mev h1 h2 c (by rw [h3]; exact hs.1.1)
  rw [hc] at hv
  have hbb : a.eval c = .bool b := by
    cases hcc : a.eval c with
    | bool b' => rw [hcc] at hv; cases hv; rfl
    | _ => rw [hcc] at hv; cases hv
  refine wpIn_cond hbb ?_
  cases b
  · exact hf rfl hs.2 hrd m w a b0 hb h1 h2 h3 h4
  · exact ht rfl hs.1.2 hrd m w a b0 hb h1 h2 h3 h4

def mcatch (id : Nat) (Q : Exit → (Nat → MV) → MSt → Prop) : Exit → (Nat → MV) → MSt → Prop
  | .exit id', env, s => if id' = id then Q .normal env s else Q (.exit id') env s
  | e, env, s => Q e env s

theorem mblock {P N rd id c Q env s} (h : MCode P N rd c (mcatch id Q) env s) : MCode P N rd (.block id c) Q env s := by
  intro hs hrd m w a b0 hb h1 h2 h3 h4
  refine wpIn_block (wpIn_mono (h (by simpa [cfits] using hs) hrd m w a b0 hb h1 h2 h3 h4) ?_)
  rintro ex a' w' ⟨m', env', s', g1, g2⟩
  cases ex with
  | exit id' =>
    simp only [mcatch] at g1
    simp only [Exit.inBlock]
    split
    · rename_i h; rw [if_pos h] at g1; exact ⟨m', env', s', g1, g2⟩
    · rename_i h; rw [if_neg h] at g1; exact ⟨m', env', s', g1, g2⟩
  | normal => exact ⟨m', env', s', g1, g2⟩
  | goto l => exact ⟨m', env', s', g1, g2⟩
  | ret => exact ⟨m', env', s', g1, g2⟩
  | panic ch => exact ⟨m', env', s', g1, g2⟩
  | outgrown => exact ⟨m', env', s', g1, g2⟩

end Go.Mir

/- Loops, regions, calls of functions in the mirror. -/
namespace Go.Mir

theorem wpIn_loop_n {F : Fence} {n : Nat} {P : Program} {Q : Exit → Act → World → Prop} {c : Code} (I : Nat → Act → World → Prop)
    (round : ∀ i a w, I i a w → c.wpIn F n P (Exit.then (fun a' w' => ∃ i', i' < i ∧ I i' a' w') Q) a w) {i : Nat} {a : Act} {w : World} (h₀ : I i a w) : (Code.loop c).wpIn F n P Q a w := by
  intro b k cs hro hb hr
  have key : ∀ i a w, I i a w → ∃ e a' w', Q e a' w' ∧ ArrivesIn (Machine.fenced P F) P (lone (b.atR a (.code c :: .inLoop c :: k)) cs w) b k cs e a' w' := by
    intro i
    induction i using Nat.strongRecOn with
    | _ i ih =>
      intro a w hI
      obtain ⟨e, a₁, w₁, hq, harr⟩ := round i a w hI b (.inLoop c :: k) cs hro hb hr
      cases e with
      | normal =>
        obtain ⟨i', hlt, hI₁⟩ := hq
        obtain ⟨e₂, a₂, w₂, hq₂, harr₂⟩ := ih i' hlt a₁ w₁ hI₁
        exact ⟨e₂, a₂, w₂, hq₂, .of_steps (StepsIn.trans harr (.one (fenced_calm hb hr rfl) stepR_inLoop)) harr₂⟩
      | exit id => exact ⟨_, a₁, w₁, hq, .pass (x := .inLoop c) rfl (fun _ _ => .inl (by simp)) harr⟩
      | goto l => exact ⟨_, a₁, w₁, hq, .pass (x := .inLoop c) rfl (fun _ _ => .inl (by simp)) harr⟩
      | ret => exact ⟨_, a₁, w₁, hq, .pass (x := .inLoop c) rfl (fun _ _ => .inl (by simp)) harr⟩
      | panic ch => exact ⟨_, a₁, w₁, hq, .pass (x := .inLoop c) rfl (fun _ _ => .inl (by simp)) harr⟩
      | outgrown => exact ⟨_, a₁, w₁, hq, .pass (x := .inLoop c) rfl (fun _ _ => .inl (by simp)) harr⟩
  obtain ⟨e, a', w', hq, harr⟩ := key i a w h₀
  exact ⟨e, a', w', hq, .of_steps (.one (fenced_calm hb hr rfl) stepR_loop) harr⟩

/-- A loop: what holds at the head of each round, and a number that falls. -/
theorem mloop {P N rd c Q env s} (I : Nat → (Nat → MV) → MSt → Prop) (i : Nat) (h0 : I i env s)
    (round : ∀ i env s, I i env s → MCode P N rd c (mthen (fun env s => ∃ i', i' < i ∧ I i' env s) Q) env s) : MCode P N rd (.loop c) Q env s := by
  intro hs hrd m w a b0 hb h1 h2 h3 h4
  refine wpIn_loop_n (fun i a' w' => ∃ m' env' s', I i env' s' ∧ RelS m' s' w' ∧ RelE m' s' w' env' a'.tmps ∧ a'.tmps.size = N ∧ Dfs b0 a'.defers m' s' w' ∧ Ext m s w m' s' w') ?_ (i := i)
    ⟨m, env, s, h0, h1, h2, h3, h4, Ext.refl _ _ _⟩
  rintro i a' w' ⟨m', env', s', g1, g2, g3, g4, g5, g6⟩
  obtain ⟨e1, e2⟩ := rd_ext g6 hrd
  have := round i env' s' g1 (by simpa [cfits] using hs) e2 m' w' a' b0 (Nat.le_trans hb g6.size) g2 g3 g4 g5
  rw [e1] at this
  refine wpIn_mono this ?_
  rintro ex a'' w'' ⟨m'', env'', s'', k1, k2, k3, k4, k5, k6⟩
  cases ex with
  | normal =>
    obtain ⟨i', hlt, hI⟩ := k1
    exact ⟨i', hlt, m'', env'', s'', hI, k2, k3, k4, k5, g6.trans k6⟩
  | exit id => exact ⟨m'', env'', s'', k1, k2, k3, k4, k5, g6.trans k6⟩
  | goto l => exact ⟨m'', env'', s'', k1, k2, k3, k4, k5, g6.trans k6⟩
  | ret => exact ⟨m'', env'', s'', k1, k2, k3, k4, k5, g6.trans k6⟩
  | panic ch => exact ⟨m'', env'', s'', k1, k2, k3, k4, k5, g6.trans k6⟩
  | outgrown => exact ⟨m'', env'', s'', k1, k2, k3, k4, k5, g6.trans k6⟩

/-! ### Regions -/
/-- An append that takes a number that waited. -/
def MGrow (P : Program) (c : Call) (env : Nat → MV) (s : MSt) (K : MV → MSt → Prop) : Prop :=
  c.callee = .builtin .append ∧ ∃ β t xt x y v s', c.argTypes[0]? = some t ∧ c.argTypes[1]? = some xt ∧ c.args.toList.map (mev s env) = [x, y] ∧ mgrow P s β t xt x y = some (v, s') ∧ K v s'

/-- One operation of the mirror: what it comes to. -/
def MOper (P : Program) (op : Op) (env : Nat → MV) (s : MSt) (K : MV → MSt → Prop) : Prop :=
  match op with
  | .call c => match c.callee with
    | .value f => MInv P (mev s env f) (c.args.toList.map (mev s env)) s K
    | _ => (match mop P op (mev s env) s with
      | some (v, s') => K v s'
      | none => False) ∨ MGrow P c env s K
  | _ => match mop P op (mev s env) s with
    | some (v, s') => K v s'
    | none => False

structure POp where
  dst : Option Nat
  op : Op
  g : Option (Option Nat × Bool)

def prep (ops : Array Oper) : List POp := ops.toList.map fun o => ⟨o.dst, o.op, o.guard.map fun g => ((ops[g.1]?).bind (·.dst), g.2)⟩

/-- Is an operation under that guard carried out? -/
def mwant (env : Nat → MV) : Option (Option Nat × Bool) → Option Bool
  | none => some true
  | some (none, _) => some false
  | some (some t, b) => match env t with
    | .bool x => some (x == b)
    | .tuple [] => some false
    | _ => none

def mops (P : Program) (K : (Nat → MV) → MSt → Prop) : List POp → (Nat → MV) → MSt → Prop
  | [], env, s => K env s
  | o :: os, env, s => match mwant env o.g with
    | some true => MOper P o.op env s fun v s' => mops P K os (updo env o.dst v) s'
    | some false => mops P K os (updo env o.dst .undef) s
    | none => False

theorem wanted_of {m s w env} {a : Act} (he : RelE m s w env a.tmps) {ops : Array Oper} {o : Oper} {b : Bool} (hsc : ∀ (j : Nat) (o' : Oper) (t : Nat), ops[j]? = some o' → o'.dst = some t → t < a.tmps.size)
    (h : mwant env (o.guard.map fun g => ((ops[g.1]?).bind (·.dst), g.2)) = some b) : Region.wanted o (yielded ops a.tmps) = b := by
  unfold Region.wanted
  cases hg : o.guard with
  | none => simp [hg, mwant] at h; subst h; rfl
  | some g =>
    obtain ⟨j, want⟩ := g
    simp only [hg, Option.map_some] at h
    simp only [yielded]
    cases hj : (ops[j]?).bind (·.dst) with
    | none => simp [hj, mwant] at h; subst h; simp
    | some t =>
      simp only [hj, mwant] at h
      have ht : t < a.tmps.size := by
        cases ho : ops[j]? with
        | none => simp [ho] at hj
        | some o' => simp [ho] at hj; exact hsc j o' t ho hj
      have hv := he t ht
      simp only [Option.bind_some, ht, Array.getElem?_eq_getElem]
      split at h
      · rename_i x hx
        rw [hx] at hv
        cases hh : a.tmps[t] with
        | bool y =>
          rw [hh] at hv; cases hv
          simp only [Option.some.injEq] at h; subst h
          simp only
          cases x <;> cases want <;> rfl
        | _ => rw [hh] at hv; cases hv
      · rename_i hx
        rw [hx] at hv
        simp only [Option.some.injEq] at h; subst h
        cases hh : a.tmps[t] with
        | tuple y => simp
        | _ => rw [hh] at hv; cases hv
      · simp at h

theorem mev_fits {N : Nat} {o : Oper} (h : ofits N o = true) : (∀ d, o.dst = some d → d < N) ∧ (∀ x ∈ o.op.operands, Operand.fits N x = true) ∧ (∀ c, o.op ≠ .defer c) := by
  simp only [ofits, Bool.and_eq_true] at h
  refine ⟨fun d hd => by have := h.1.1; rw [hd] at this; simpa using this, fun x hx => ?_, fun c hc => by have := h.2; rw [hc] at this; simp at this⟩
  have := h.1.2
  rw [Array.all_eq_true] at this
  obtain ⟨i, hi, rfl⟩ := Array.mem_iff_getElem.1 hx
  exact this i hi

theorem wide_fn (rd : Option Nat) (f : FuncId) : (fence rd).fn f := trivial

theorem mop_congr {P : Program} {op : Op} {ev ev' : Operand → MV} {s : MSt} (h : ∀ x ∈ op.operands, ev x = ev' x) : mop P op ev s = mop P op ev' s := by
  cases op <;> simp only [mop]
  case move x => rw [h x (by simp [Op.operands])]
  case assign x => rw [h x (by simp [Op.operands])]
  case pick c a b => rw [h c (by simp [Op.operands]), h a (by simp [Op.operands]), h b (by simp [Op.operands])]
  case box e x => rw [h x (by simp [Op.operands])]
  case build t parts =>
    have : (parts.toList.map fun p => (p.1, ev p.2)) = parts.toList.map fun p => (p.1, ev' p.2) := List.map_congr_left fun p hp => by
      rw [h p.2 (by simp only [Op.operands, List.mem_toArray, List.mem_map]; exact ⟨p, hp, rfl⟩)]
    rw [this]
  case buildSlice t len parts =>
    have : (parts.toList.map fun p => (p.1, ev p.2)) = parts.toList.map fun p => (p.1, ev' p.2) := List.map_congr_left fun p hp => by
      rw [h p.2 (by simp only [Op.operands, List.mem_toArray, List.mem_map]; exact ⟨p, hp, rfl⟩)]
    rw [this]
  case load t a => rw [h a (by simp [Op.operands])]
  case store t a x => rw [h a (by simp [Op.operands]), h x (by simp [Op.operands])]
  case nilCheck x => rw [h x (by simp [Op.operands])]
  case binOp op t x y yt => rw [h x (by simp [Op.operands]), h y (by simp [Op.operands])]
  case unOp op t x => rw [h x (by simp [Op.operands])]
  case convert src dst x => rw [h x (by simp [Op.operands])]
  case makeInterface t x => rw [h x (by simp [Op.operands])]
  case makeFunc fn first cap =>
    have e1 : first.toList.map ev = first.toList.map ev' := List.map_congr_left fun x hx => h x (by simp only [Op.operands, Array.mem_append]; exact .inl (by simpa using hx))
    have e2 : cap.toList.map ev = cap.toList.map ev' := List.map_congr_left fun x hx => h x (by simp only [Op.operands, Array.mem_append]; exact .inr (by simpa using hx))
    rw [e1, e2]
  case makeSlice t l c => rw [h l (by simp [Op.operands]), h c (by simp [Op.operands])]
  case slice t x lo hi mx =>
    have e : ∀ o : Option Operand, (∀ z, o = some z → z ∈ (Op.slice t x lo hi mx).operands) → o.map ev = o.map ev' := fun o ho => by
      cases o with
      | none => rfl
      | some y => simp [h y (ho y rfl)]
    rw [h x (by simp [Op.operands]), e lo (by rintro y rfl; simp [Op.operands]), e hi (by rintro y rfl; simp [Op.operands]), e mx (by rintro y rfl; simp [Op.operands])]
  case fieldAddr t x f => rw [h x (by simp [Op.operands])]
  case field t x f => rw [h x (by simp [Op.operands])]
  case indexAddr t x i => rw [h x (by simp [Op.operands]), h i (by simp [Op.operands])]
  case index t x i => rw [h x (by simp [Op.operands]), h i (by simp [Op.operands])]
  case extract t i => rw [h t (by simp [Op.operands])]
  case call c =>
    have : c.args.toList.map ev = c.args.toList.map ev' := List.map_congr_left fun x hx => h x (by simp only [Op.operands, Call.operands, Array.mem_append]; exact .inr (by simpa using hx))
    rw [this]

/-- An operation, in a frame of N temporaries. -/
theorem sim_op' {P : Program} {N : Nat} {m s w env} {a : Act} {o : Oper} (hr : RelS m s w) (he : RelE m s w env a.tmps) (hN : a.tmps.size = N) (hsc : ofits N o = true) {v s'} (h : mop P o.op (mev s env) s = some (v, s')) :
    Sim P m s w (execOp a.eval o) v s' := by
  have hop := (mev_fits hsc).2.1
  let ev' : Operand → MV := fun x => if Operand.fits N x then mev s env x else .any
  have hc : mop P o.op (mev s env) s = mop P o.op ev' s := mop_congr fun x hx => by simp only [ev', hop x hx, if_true]
  rw [hc] at h
  refine sim_op hr (fun x => ?_) o h
  simp only [ev']
  split
  · rename_i hx
    exact rel_mev hr he x (by rw [hN]; exact hx)
  · exact .any _

/-- A call of a function value on the real side. -/
theorem sim_inv {P : Program} {m s w} {fv : MV} {rf : Value} {args : List MV} {rargs : Array Value} {K : MV → MSt → Prop} (hr : RelS m s w) (hf : RelV m s w fv rf) (ha : RelL m s w args rargs.toList) (h : MInv P fv args s K) :
    ∃ d, (Deferred.ofValue rf rargs).run P w = .ok d w ∧
      ((∃ f args', (invoke d.target d.args).run P w = .ok (.enter f args') w ∧ CallsIn Fence.wide 0 P f args' w (fun e w' => ∃ v, e = .returned v ∧ Post m s w K v w')) ∨
       (∃ l f tmps assign body, (invoke d.target d.args).run P w = .ok (.round l f tmps assign body) w ∧ RoundIn Fence.wide 0 P l f tmps assign body w (fun e w' => ∃ v, e = .returned v ∧ Post m s w K v w')) ∨
       (∃ v w', (invoke d.target d.args).run P w = .ok (.value v) w' ∧ Post m s w K v w')) := by
  unfold MInv at h
  split at h
  · rename_i f first cap
    cases hf with
    | func _ _ _ rfs rcs hfn hl1 hl2 h1 h2 =>
      refine ⟨{ target := .fn (.func f) rcs, args := rfs ++ rargs }, rfl, ?_⟩
      have hL : RelL m s w (first ++ args ++ cap) (rfs ++ rargs ++ rcs).toList := by
        have a1 : RelL m s w first rfs.toList := ⟨by simpa using hl1, fun j hj hj' => h1 j hj (by simpa using hj')⟩
        have a2 : RelL m s w cap rcs.toList := ⟨by simpa using hl2, fun j hj hj' => h2 j hj (by simpa using hj')⟩
        have app : ∀ {x y : List MV} {rx ry : List Value}, RelL m s w x rx → RelL m s w y ry → RelL m s w (x ++ y) (rx ++ ry) := fun {x y rx ry} h1 h2 => by
          refine ⟨by simp [h1.1, h2.1], fun j hj hj' => ?_⟩
          have e1 := h1.1
          by_cases hjx : j < x.length
          · rw [List.getElem_append_left hjx, List.getElem_append_left (by omega)]; exact h1.2 j hjx (by omega)
          · rw [List.getElem_append_right (by omega), List.getElem_append_right (by omega)]
            have := h2.2 (j - x.length) (by simp at hj; omega) (by simp at hj'; omega)
            simpa only [e1] using this
        simpa using app (app a1 ha) a2
      rcases h m w (rfs ++ rargs ++ rcs) hr hL with ⟨c1, c2⟩ | ⟨v, w', c1, c2⟩
      · exact .inl ⟨f, _, c1, c2⟩
      · exact .inr (.inr ⟨v, w', c1, c2⟩)
  · rename_i l
    cases hf with
    | yield _ hl =>
      obtain ⟨f, tmps, assign, body, c1, c2⟩ := h m w rargs hr ha hl
      refine ⟨{ target := .fn (.yield (m.l l)) #[], args := #[] ++ rargs }, rfl, .inr (.inl ⟨m.l l, f, tmps, assign, body, ?_, c2⟩)⟩
      simpa [invoke] using c1
  · exact h.elim

/-- One operation, carried out in a frame. -/
theorem wp_oper {P : Program} {N : Nat} {rd : Option Nat} {m s w env} {a : Act} {o : Oper} {K : MV → MSt → Prop} {next : Act → World → Prop} {Q : Exit → Act → World → Prop} (hr : RelS m s w) (he : RelE m s w env a.tmps) (hN : a.tmps.size = N)
    (hsc : ofits N o = true) (h : MOper P o.op env s K)
    (hnext : ∀ m' s' w' v r, K v s' → RelS m' s' w' → RelV m' s' w' v r → Ext m s w m' s' w' → next (a.put o.dst r) w') :
    o.wpIn (fence rd) 0 P a w next Q := by
  refine ⟨fun f _ => wide_fn rd f, ?_⟩
  rw [Oper.semAt_eq _ _ _ (mev_fits hsc).2.2]
  have simple : ∀ {v s'}, mop P o.op (mev s env) s = some (v, s') → K v s' → o.uponIn (fence rd) 0 P a next Q ((execOp a.eval o).run P w) := fun {v s'} hm hk => by
    obtain ⟨nx, w', m', r, h1, h2, h3, h4, h5⟩ := sim_op' hr he hN hsc hm
    rw [h1]
    rcases h2 with rfl | ⟨rfl, rfl⟩
    · exact hnext m' s' w' v r hk h4 h5 h3
    · exact hnext m' s' w' v _ hk h4 h5 h3
  unfold MOper at h
  split at h
  · rename_i c hc
    split at h
    · rename_i f hf
      have hop := (mev_fits hsc).2.1
      have hopf : ∀ x ∈ c.operands, Operand.fits N x = true := fun x hx => hop x (by rw [hc]; exact hx)
      have hcf : f ∈ c.operands := by simp only [Call.operands, hf, Array.mem_append]; exact .inl (by simp)
      have hca : ∀ x ∈ c.args, x ∈ c.operands := fun x hx => by simp only [Call.operands, Array.mem_append]; exact .inr hx
      have hfv := rel_mev hr he f (by rw [hN]; exact hopf f hcf)
      have hL : RelL m s w (c.args.toList.map (mev s env)) (c.args.map a.eval).toList := by
        refine ⟨by simp, fun j hj hj' => ?_⟩
        simp only [List.getElem_map, Array.getElem_toList, Array.toList_map]
        refine rel_mev hr he _ (by rw [hN]; exact hopf _ (hca _ (Array.getElem_mem _)))
      obtain ⟨d, hd1, hd2⟩ := sim_inv hr hfv hL h
      have hexec : ∀ {x : Result Next}, (invoke d.target d.args).run P w = x → (execOp a.eval o).run P w = x := fun {x} hx => by
        simp only [execOp, hc, Sem.run_bind, resolve, hf, hd1, Result.andThen, hx]
      rcases hd2 with ⟨f', args', g1, g2⟩ | ⟨l, f', tmps, assign, body, g1, g2⟩ | ⟨v, w', g1, g2⟩
      · rw [hexec g1]
        refine ⟨fun h => by simp [fence, Fence.wide] at h, ?_⟩
        refine (g2 : CallsIn (fence rd) 0 P f' args' w _).mono ?_
        rintro e w' ⟨v, rfl, m', s', r, k1, k2, k3, k4⟩
        exact hnext m' s' w' r v k1 k2 k3 k4
      · rw [hexec g1]
        refine ⟨fun h => by simp [fence, Fence.wide] at h, ?_⟩
        refine (g2 : RoundIn (fence rd) 0 P l f' tmps assign body w _).mono ?_
        rintro e w' ⟨v, rfl, m', s', r, k1, k2, k3, k4⟩
        exact hnext m' s' w' r v k1 k2 k3 k4
      · rw [hexec g1]
        obtain ⟨m', s', r, k1, k2, k3, k4⟩ := g2
        exact hnext m' s' w' r v k1 k2 k3 k4
    · rcases h with h | ⟨hcal, β, t, xt, x, y, v, s', ht, hxt, hxy, hg, hk⟩
      · split at h
        · rename_i v s' hm
          exact simple hm h
        · exact h.elim
      · have hop := (mev_fits hsc).2.1
        have hca : ∀ x ∈ c.args, Operand.fits N x = true := fun x hx => hop x (by rw [hc]; simp only [Op.operands, Call.operands, Array.mem_append]; exact .inr hx)
        have hL : RelL m s w (c.args.toList.map (mev s env)) (c.args.map a.eval).toList := by
          refine ⟨by simp, fun j hj hj' => ?_⟩
          simp only [List.getElem_map, Array.getElem_toList, Array.toList_map]
          refine rel_mev hr he _ (by rw [hN]; exact hca _ (Array.getElem_mem _))
        rw [hxy] at hL
        obtain ⟨rx, hrx, hx⟩ := args_get (by simpa using hL.1) (fun j h h' => hL.2 j h (by simpa using h')) (j := 0) (v := x) rfl
        obtain ⟨ry, hry, hy⟩ := args_get (by simpa using hL.1) (fun j h h' => hL.2 j h (by simpa using h')) (j := 1) (v := y) rfl
        obtain ⟨m', r, w', h1, h2, h3, h4⟩ := sim_grow (P := P) (ty := o.type) (ats := c.argTypes) hr hx hy ht hxt hrx hry hg
        have hexec : (execOp a.eval o).run P w = .ok (.value r) w' := by
          have : (builtin .append c.argTypes o.type (c.args.map fun | .const _ => true | _ => false) (c.args.map a.eval)).run P w = .ok (.value r) w' := by
            simp only [builtin, Sem.run_bind, h1, Result.andThen, Sem.run_pure]
          obtain ⟨dst, op, ty, pos, aft, g⟩ := o
          obtain ⟨callee, args, ats⟩ := c
          simp only at hc hcal
          subst hc hcal
          rw [← this]
          rfl
        rw [hexec]
        exact hnext m' s' w' v r hk h3 h4 h2
  · split at h
    · rename_i v s' hm
      exact simple hm h
    · exact h.elim

theorem put_defers (a : Act) (d : Option Nat) (v : Value) : (a.put d v).defers = a.defers := by cases d <;> rfl

theorem undef_rel {m s w} : RelV m s w .undef Go.undef := .tuple [] #[] rfl (by simp)

/-- The operations of a region, in the text's order. -/
theorem wp_mops {P : Program} {N : Nat} {rd : Option Nat} {K : (Nat → MV) → MSt → Prop} {Q : Exit → Act → World → Prop} {ops : Array Oper} (hall : ops.all (ofits N) = true) :
    ∀ (l : List Nat) (_ : ∀ i ∈ l, i < ops.size) {m s w env} {a : Act} (_ : RelS m s w) (_ : RelE m s w env a.tmps) (_ : a.tmps.size = N) {b0 : Nat} (_ : Dfs b0 a.defers m s w)
      (_ : mops P K (l.filterMap fun i => (ops[i]?).map fun o => (⟨o.dst, o.op, o.guard.map fun g => ((ops[g.1]?).bind (·.dst), g.2)⟩ : POp)) env s)
      (_ : ∀ m' env' s' (a' : Act) w', K env' s' → RelS m' s' w' → RelE m' s' w' env' a'.tmps → a'.tmps.size = N → Dfs b0 a'.defers m' s' w' → Ext m s w m' s' w' → Q .normal a' w'),
      wpOpsIn (fence rd) 0 P ops Q l a w
  | [], _, m, s, w, env, a, hr, he, hN, b0, hd, h, hq => by
    simp only [wpOpsIn]
    exact hq m env s a w h hr he hN hd (Ext.refl _ _ _)
  | i :: l, hlt, m, s, w, env, a, hr, he, hN, b0, hd, h, hq => by
    have hi : i < ops.size := hlt i (by simp)
    have ho : ops[i]? = some ops[i] := by simp [hi]
    have hsc : ofits N ops[i] = true := by rw [Array.all_eq_true] at hall; exact hall i hi
    simp only [List.filterMap_cons, ho, Option.map_some, mops] at h
    simp only [wpOpsIn, ho]
    have hdst : ∀ (j : Nat) (o' : Oper) (t : Nat), ops[j]? = some o' → o'.dst = some t → t < a.tmps.size := fun j o' t hj hd' => by
      rw [hN]
      obtain ⟨hj', rfl⟩ := Array.getElem?_eq_some_iff.1 hj
      have : ofits N ops[j] = true := by rw [Array.all_eq_true] at hall; exact hall j hj'
      exact (mev_fits this).1 t hd'
    split at h
    · rename_i hw
      rw [wanted_of he hdst hw]
      simp only [if_true]
      refine wp_oper hr he hN hsc h ?_
      intro m' s' w' v r hk h1 h2 h3
      refine wp_mops hall l (fun x hx => hlt x (by simp [hx])) h1 ((he.ext h3).updo h2) (by rw [updo_size]; exact hN) (by rw [put_defers]; exact hd.ext h3) hk ?_
      intro m'' env'' s'' a'' w'' k1 k2 k3 k4 k5 k6
      exact hq m'' env'' s'' a'' w'' k1 k2 k3 k4 k5 (h3.trans k6)
    · rename_i hw
      rw [wanted_of he hdst hw]
      simp only [Bool.false_eq_true, if_false]
      refine ⟨fun f _ => wide_fn rd f, ?_⟩
      refine wp_mops hall l (fun x hx => hlt x (by simp [hx])) hr (he.updo undef_rel) (by rw [updo_size]; exact hN) (by rw [put_defers]; exact hd) h hq
    · exact h.elim

theorem prep_eq (ops : Array Oper) : prep ops = (List.range ops.size).filterMap fun i => (ops[i]?).map fun o => (⟨o.dst, o.op, o.guard.map fun g => ((ops[g.1]?).bind (·.dst), g.2)⟩ : POp) := by
  unfold prep
  have key : ∀ (f : Oper → POp) (l : List Oper), (List.range l.length).filterMap (fun i => (l[i]?).map f) = l.map f := by
    intro f l
    induction l with
    | nil => rfl
    | cons x l ih =>
      rw [List.length_cons, List.range_succ_eq_map, List.filterMap_cons]
      simp only [List.getElem?_cons_zero, Option.map_some, List.filterMap_map, List.map_cons]
      congr 1
  have := key (fun o => (⟨o.dst, o.op, o.guard.map fun g => ((ops[g.1]?).bind (·.dst), g.2)⟩ : POp)) ops.toList
  rw [← this]
  simp

/-- **A region whose order is fixed.** -/
theorem mregion {P N rd id ops Q env s} (h : mops P (fun env s => Q .normal env s) (prep ops) env s) : MCode P N rd (.region id ops false) Q env s := by
  intro hs hrd m w a b0 hb h1 h2 h3 h4
  refine wpIn_region (wp_mops (K := fun env s => Q .normal env s) (by simpa [cfits] using hs) _ (fun i hi => by simpa using hi) h1 h2 h3 h4 (by rw [← prep_eq]; exact h) ?_)
  intro m' env' s' a' w' k1 k2 k3 k4 k5 k6
  exact ⟨m', env', s', k1, k2, k3, k4, k5, k6⟩

end Go.Mir

/- Functions of the mirror, from their bodies. -/
namespace Go.Mir

theorem RelV.calm {m s w w' v r} (h : RelV m s w v r) (hsz : w.heap.size ≤ w'.heap.size)
    (hc : ∀ (b : Nat) (o : Obj), w.heap[b]? = some o → (∀ ds, o ≠ .deferred ds) → w'.heap[b]? = some o) : RelV m s w' v r := by
  have cell : ∀ {b o : Nat} {v : Value}, w.cell? ⟨b, o, none⟩ = some v → w'.cell? ⟨b, o, none⟩ = some v := fun {b o v} h => by
    unfold World.cell? at h ⊢
    split at h
    · rename_i c el fz hb
      have := hc b _ hb (by simp)
      simp only [this]
      exact h
    · simp at h
  induction h with
  | int k n => exact .int k n
  | bool b => exact .bool b
  | flt k n => exact .flt k n
  | str l => exact .str l
  | nilptr => exact .nilptr
  | nilsl => exact .nilsl
  | nilmap => exact .nilmap
  | nilfunc => exact .nilfunc
  | niliface => exact .niliface
  | esl a c => exact .esl a c
  | ptr β st off h => exact .ptr _ _ _ h
  | ptrStale β st off v h hv => exact .ptrStale _ _ _ _ h hv
  | fptr cells off b base vs hb ho hl hc' hv ih => exact .fptr cells off b base vs (Nat.lt_of_lt_of_le hb hsz) ho hl (fun j hj => cell (hc' j hj)) ih
  | msl β st sz off len cap rcap h hlen hcap harr =>
    obtain ⟨arr, el, fz, h1, h2⟩ := harr
    exact .msl _ _ _ _ _ _ _ h hlen hcap ⟨arr, el, fz, hc _ _ h1 (by simp), h2⟩
  | mslStale β st sz off len cap v h hv => exact .mslStale _ _ _ _ _ _ _ h hv
  | fsl cells len cap b off rcap vs hb ho hlen hcap hl hc' hv ih => exact .fsl cells len cap b off rcap vs (Nat.lt_of_lt_of_le hb hsz) ho hlen hcap hl (fun j hj => cell (hc' j hj)) ih
  | map β es h => exact .map β es h
  | mapStale β v h hv => exact .mapStale _ _ h hv
  | func fn fs cs rfs rcs hfn hf hc' h1 h2 ih1 ih2 => exact .func fn fs cs rfs rcs hfn hf hc' ih1 ih2
  | yield l h => exact .yield l h
  | iface t v rv h ih => exact .iface t v rv ih
  | agg cs rcs hc' h ih => exact .agg cs rcs hc' ih
  | tuple cs rcs hc' h ih => exact .tuple cs rcs hc' ih
  | any v => exact .any v

theorem RelS.calm {m s w w'} (hr : RelS m s w) (hsz : w.heap.size ≤ w'.heap.size)
    (hc : ∀ (b : Nat) (o : Obj), w.heap[b]? = some o → (∀ ds, o ≠ .deferred ds) → w'.heap[b]? = some o) : RelS m s w' := by
  refine { hr with blk := ?_, map := ?_, loop := ?_, gl := fun g c hg => ⟨(hr.gl g c hg).1.calm hsz hc, (hr.gl g c hg).2⟩ }
  · intro β st cells hb
    obtain ⟨arr, el, fz, h1, h2, h3, h4, h5⟩ := hr.blk β st cells hb
    exact ⟨arr, el, fz, hc _ _ h1 (by simp), h2, h3, fun j hj hj' => (h4 j hj hj').calm hsz hc, h5⟩
  · intro β es hb
    obtain ⟨res, clock, h1, h2, h3⟩ := hr.map β es hb
    exact ⟨res, clock, hc _ _ h1 (by simp), h2, fun j hj hj' => ⟨(h3 j hj hj').1.calm hsz hc, (h3 j hj hj').2.1.calm hsz hc, (h3 j hj hj').2.2⟩⟩
  · intro l L hl
    obtain ⟨R, h1, a1, a2, a3, a4, a5, a6, a7, a8⟩ := hr.loop l L hl
    exact ⟨R, hc _ _ h1 (by simp), a1, a2, a3, a4, a5, a6, a7, fun j hj => ⟨(a8 j hj).1.calm hsz hc, (a8 j hj).2⟩⟩

theorem Ext.late {m0 s0 w0 m s w w'} (e : Ext m0 s0 w0 m s w) (hsz : w'.heap.size = w.heap.size) (h : ∀ b, b < w0.heap.size → w'.heap[b]? = w.heap[b]?) (hio : Calm3 w w') : Ext m0 s0 w0 m s w' :=
  { e with io := e.io.trans hio, size := by rw [hsz]; exact e.size, same := fun b hb ho => by rw [h b hb]; exact e.same b hb ho, arr := fun b arr el fz hh => by rw [h b (heap_lt hh)]; exact e.arr b arr el fz hh }

/-- What a function's result variables hold. -/
def mres1 (P : Program) (env : Nat → MV) (s : MSt) : ResultVar → Option MV
  | .tmp t => some (env t)
  | .cell a t => match lay P t with
    | some (ag, n) => mload s ag n (env a)
    | none => none

def mresL (P : Program) (env : Nat → MV) (s : MSt) : List ResultVar → Option (List MV)
  | [] => some []
  | r :: rs => match mres1 P env s r, mresL P env s rs with
    | some v, some vs => some (v :: vs)
    | _, _ => none

def mresults (P : Program) (fn : Func) (env : Nat → MV) (s : MSt) : Option MV :=
  match mresL P env s fn.results.toList with
  | some [v] => some v
  | some vs => some (.tuple vs)
  | none => none

def rfits (N : Nat) : ResultVar → Bool
  | .tmp t => t < N
  | .cell a _ => a < N

theorem run_resL {P : Program} {m s w env} {tmps : Array Value} (hr : RelS m s w) (he : RelE m s w env tmps) : ∀ (rs : List ResultVar) (vs : List MV), rs.all (rfits tmps.size) = true → mresL P env s rs = some vs →
    ∃ rvs : List Value, (rs.mapM fun x => match x with
      | ResultVar.tmp t => (pure (tmps.getD t Go.undef) : Sem Value)
      | ResultVar.cell a t => do loadVar t (← asAddr (tmps.getD a Go.undef))).run P w = .ok rvs w ∧ RelL m s w vs rvs
  | [], vs, _, h => by simp [mresL] at h; subst h; exact ⟨[], rfl, rfl, by simp⟩
  | r :: rs, vs, hsc, h => by
    simp only [List.all_cons, Bool.and_eq_true] at hsc
    simp only [mresL] at h
    split at h
    · rename_i v vs' h1 h2
      simp only [Option.some.injEq] at h; subst h
      obtain ⟨rvs, g1, g2⟩ := run_resL hr he rs vs' hsc.2 h2
      have h3 : ∃ rv, ((match r with
          | ResultVar.tmp t => (pure (tmps.getD t Go.undef) : Sem Value)
          | ResultVar.cell a t => do loadVar t (← asAddr (tmps.getD a Go.undef))) : Sem Value).run P w = .ok rv w ∧ RelV m s w v rv := by
        cases r with
        | tmp t =>
          simp only [mres1, Option.some.injEq] at h1; subst h1
          have ht : t < tmps.size := by simpa [rfits] using hsc.1
          exact ⟨_, rfl, by simpa [ht] using he t ht⟩
        | cell a t =>
          have ht : a < tmps.size := by simpa [rfits] using hsc.1
          simp only [mres1] at h1
          split at h1
          · rename_i ag n hl
            have hv := he a ht
            obtain ⟨rv, g3, g4⟩ := sim_load hr hl hv h1
            refine ⟨rv, ?_, g4⟩
            have hget : tmps.getD a Go.undef = tmps[a] := by simp [ht]
            show (do loadVar t (← asAddr (tmps.getD a Go.undef)) : Sem Value).run P w = .ok rv w
            rw [hget]
            generalize tmps[a] = x at g3 hv
            cases hx : x with
            | pointer p =>
              cases p with
              | none => rw [hx] at g3; simp [Instr.loadAt, Instr.sureAddr] at g3
              | some p => rw [hx] at g3; simpa [Instr.loadAt, Instr.sureAddr, asAddr] using g3
            | _ => rw [hx] at g3; simp [Instr.loadAt, Instr.sureAddr] at g3
          · simp at h1
      obtain ⟨rv, g3, g4⟩ := h3
      refine ⟨rv :: rvs, ?_, by simp [g2.1], fun j hj hj' => ?_⟩
      · simp only [List.mapM_cons, Sem.run_bind, g3, Result.andThen, g1, Sem.run_pure]
      · cases j with
        | zero => exact g4
        | succ j => exact g2.2 j (by simp at hj; omega) (by simp at hj'; omega)
    · simp at h

theorem run_results {P : Program} {m s w env} {tmps : Array Value} {fn : Func} (hr : RelS m s w) (he : RelE m s w env tmps) (hsc : fn.results.toList.all (rfits tmps.size) = true) {v : MV} (h : mresults P fn env s = some v) :
    ∃ rv, (results fn tmps).run P w = .ok rv w ∧ RelV m s w v rv := by
  unfold mresults at h
  cases hL : mresL P env s fn.results.toList with
  | none => simp [hL] at h
  | some vs =>
    obtain ⟨rvs, g1, g2⟩ := run_resL (P := P) hr he _ _ hsc hL
    have hm : (fn.results.mapM fun x => match x with
      | ResultVar.tmp t => (pure (tmps.getD t Go.undef) : Sem Value)
      | ResultVar.cell a t => do loadVar t (← asAddr (tmps.getD a Go.undef))).run P w = .ok rvs.toArray w := by
      rw [← Array.toArray_toList (xs := fn.results), List.mapM_toArray, Sem.run_map, g1]
      rfl
    have hrun : (results fn tmps).run P w = .ok (if h : rvs.toArray.size = 1 then rvs.toArray[0] else Value.tuple rvs.toArray) w := by
      have e : results fn tmps = (do
          let vs ← fn.results.mapM fun x => match x with
            | ResultVar.tmp t => (pure (tmps.getD t Go.undef) : Sem Value)
            | ResultVar.cell a t => do loadVar t (← asAddr (tmps.getD a Go.undef))
          pure (if h : vs.size = 1 then vs[0] else Value.tuple vs)) := rfl
      rw [e, Sem.run_bind, hm]
      rfl
    refine ⟨_, hrun, ?_⟩
    have hl := g2.1
    rw [hL] at h
    split at h
    · rename_i v' hv
      simp only [Option.some.injEq] at h hv; subst h; subst hv
      have h1 : rvs.toArray.size = 1 := by simp at hl ⊢; omega
      rw [dif_pos h1]
      simpa using g2.2 0 (by simp) (by simp at hl; omega)
    · rename_i vs' hne hv
      simp only [Option.some.injEq] at h hv; subst h; subst hv
      have h1 : ¬ rvs.toArray.size = 1 := fun h1 => by
        have : vs.length = 1 := by simp at h1; omega
        match vs, this with
        | [v], _ => exact hne v rfl
      rw [dif_neg h1]
      exact .tuple _ _ (by simpa using hl) (fun j hj hj' => g2.2 j hj (by simpa using hj'))
    · simp at h

/-- A frame leaves through its marks. -/
theorem leaves_marks {P : Program} {fn : Func} {tmps : Array Value} {R : Ending → World → Prop} : ∀ (rs : List Nat) (w : World), rs.Nodup → (∀ r ∈ rs, w.heap[r]? = some (.deferred (some []))) →
    (∀ w' : World, w'.heap.size = w.heap.size → (∀ b, b ∉ rs → w'.heap[b]? = w.heap[b]?) → Calm3 w w' → ∃ v, (results fn tmps).run P w' = .ok v w' ∧ R (.returned v) w') →
    LeavesInM Fence.wide 0 P fn tmps R (rs.map fun r => ({ target := .collected r, args := #[] } : Deferred)) .returning w
  | [], w, _, _, h => by
    obtain ⟨v, h1, h2⟩ := h w rfl (fun _ _ => rfl) (Calm3.refl w)
    exact ⟨v, h1, h2⟩
  | r :: rs, w, hnd, hb, h => by
    have hr := hb r (by simp)
    have hlt := heap_lt hr
    simp only [List.nodup_cons] at hnd
    refine ⟨by simp, .inl ⟨r, _, rfl, run_takeDeferred hr, ?_⟩⟩
    refine leaves_marks rs _ hnd.2 (fun r' hr' => ?_) (fun w' hsz hsame hio => ?_)
    · have : r' ≠ r := fun e => hnd.1 (e ▸ hr')
      rw [World.putObj_heap_other this]; exact hb r' (by simp [hr'])
    · refine h w' (by simpa using hsz) (fun b hbn => ?_) (Calm3.trans ⟨rfl, rfl, rfl⟩ hio)
      simp only [List.mem_cons, not_or] at hbn
      rw [hsame b hbn.2, World.putObj_heap_other hbn.1]

def initEnv (args : List MV) : Nat → MV := fun i => args.getD i .undef

def bodyOf (fn : Func) : Code := fn.body.getD (.refuse "")

/-- The closed facts on a function. -/
structure FnOK (P : Program) (f : FuncId) (fn : Func) (N : Nat) : Prop where
  at_ : P.funcs[f]? = some fn
  name : (fn.name == "runtime.NumGoroutine") = false
  body : fn.body.isSome = true
  ntmps : fn.ntmps = N
  sc : (cfits N (bodyOf fn) && fn.results.toList.all (rfits N)) = true

theorem mcalls {P : Program} {f : FuncId} {fn : Func} {N : Nat} (hf : FnOK P f fn N) {args : List MV} {s : MSt} {K : MV → MSt → Prop} (hargs : args.length ≤ N)
    (h : MCode P N none (bodyOf fn) (fun ex env s' => (ex = .normal ∨ ex = .ret) ∧ ∃ r, mresults P fn env s' = some r ∧ K r s') (initEnv args) s) : MCalls P f args s K := by
  intro m w rargs hr ha
  have hsc := hf.sc
  rw [Bool.and_eq_true] at hsc
  have hbody : fn.body = some (bodyOf fn) := by
    have := hf.body
    unfold bodyOf
    cases hb : fn.body with
    | none => rw [hb] at this; simp at this
    | some c => rfl
  have hlen : args.length = rargs.size := by simpa using ha.1
  refine .inl ⟨?_, ?_⟩
  · simp only [callFunc, Sem.run_bind, run_program, Result.andThen, hf.at_, hf.name, Bool.false_eq_true, if_false, hbody, Option.isNone_some, Sem.run_pure]
  · refine callsIn_of_wp_marks hf.at_ hbody trivial ?_ rfl
    have hN : (rargs ++ Array.replicate (fn.ntmps - rargs.size) Go.undef).size = N := by simp [hf.ntmps]; omega
    have he : RelE m s w (initEnv args) (rargs ++ Array.replicate (fn.ntmps - rargs.size) Go.undef) := by
      intro j hj
      by_cases hja : j < rargs.size
      · rw [Array.getElem_append_left hja]
        have hja' : j < args.length := by omega
        have e1 : initEnv args j = args[j] := by simp [initEnv, List.getD, hja']
        rw [e1]
        exact ha.2 j hja' (by simpa using hja)
      · rw [Array.getElem_append_right (by omega)]
        have hja' : args.length ≤ j := by omega
        have e1 : initEnv args j = .undef := by simp [initEnv, List.getD, List.getElem?_eq_none hja']
        rw [e1, Array.getElem_replicate]
        exact undef_rel
    have hw := h hsc.1 (by simp) m w { tmps := rargs ++ Array.replicate (fn.ntmps - rargs.size) Go.undef, defers := [] } w.heap.size (Nat.le_refl _) hr he hN ⟨[], rfl, by simp, by simp⟩
    refine wpIn_mono hw ?_
    rintro ex a' w' ⟨m', env', s', ⟨hex, r, hres, hk⟩, g2, g3, g4, ⟨rs, g5, g6, g7⟩, g8⟩
    have fin : LeavesInM Fence.wide 0 P fn a'.tmps (fun e w' => ∃ v, e = .returned v ∧ Post m s w K v w') a'.defers .returning w' := by
      rw [g5]
      refine leaves_marks rs w' g6 (fun r hr => (g7 r hr).1) (fun w2 hsz hsame hio => ?_)
      have calm : ∀ (b : Nat) (o : Obj), w'.heap[b]? = some o → (∀ ds, o ≠ .deferred ds) → w2.heap[b]? = some o := fun b o hb ho => by
        rw [hsame b (fun hm => by have := (g7 b hm).1; rw [this] at hb; exact ho _ (by simpa using hb.symm))]; exact hb
      have r2 := g2.calm (Nat.le_of_eq hsz.symm) calm
      have e2 : RelE m' s' w2 env' a'.tmps := fun j hj => (g3 j hj).calm (Nat.le_of_eq hsz.symm) calm
      obtain ⟨rv, k1, k2⟩ := run_results r2 e2 (by rw [g4]; exact hsc.2) hres
      refine ⟨rv, k1, rv, rfl, m', s', r, hk, r2, k2, g8.late hsz (fun b hb => hsame b fun hm => ?_) hio⟩
      have := (g7 b hm).2.2
      omega
    rcases hex with rfl | rfl
    · exact fin
    · exact fin

end Go.Mir

/- Ranging over functions, in the mirror. -/
namespace Go.Mir

def MSt.pushL (s : MSt) (L : MLoop) : MSt := { s with ls := s.ls ++ [L] }
def MSt.popL (s : MSt) : MSt := { s with ls := s.ls.dropLast }
def MSt.setL (s : MSt) (l : Nat) (L : MLoop) : MSt := { s with ls := s.ls.set l L }
def Emb.atl (m : Emb) (l x : Nat) : Emb := { m with l := fun y => if y = l then x else m.l y }

theorem pop_push (s : MSt) (L : MLoop) : (s.pushL L).popL = s := by simp [MSt.pushL, MSt.popL]

/-- The record of a new loop. -/
theorem pushL_rel {m s w w1} (hr : RelS m s w) (hsz : w.heap.size ≤ w1.heap.size) (hold : ∀ b, b < w.heap.size → w1.heap[b]? = w.heap[b]?) (L : MLoop) (l : Nat) (hl : w.heap.size ≤ l) (R : Loop) (hR : w1.heap[l]? = some (.loop R))
    (h1 : R.fn = L.fn ∧ R.params = L.params ∧ R.assign = L.assign ∧ R.body = L.body ∧ R.state = L.state ∧ R.pending = L.pending ∧ R.tmps.size = L.n) (h2 : RelE m s w L.env R.tmps) (hio : Calm3 w w1 := by exact ⟨rfl, rfl, rfl⟩) :
    ExtW m s w (m.atl s.ls.length l) (s.pushL L) w1 ∧ RelS (m.atl s.ls.length l) (s.pushL L) w1 := by
  have atn : (m.atl s.ls.length l).l s.ls.length = l := by simp [Emb.atl]
  have atm : ∀ {x : Nat}, x < s.ls.length → (m.atl s.ls.length l).l x = m.l x := fun {x} h => by
    have : x ≠ s.ls.length := by omega
    simp [Emb.atl, this]
  have get : ∀ {x : Nat} {L' : MLoop}, (s.pushL L).ls[x]? = some L' → (x < s.ls.length ∧ s.ls[x]? = some L') ∨ (x = s.ls.length ∧ L' = L) := fun {x L'} h => by
    simp only [MSt.pushL, List.getElem?_append] at h
    split at h
    · rename_i hx; exact .inl ⟨hx, h⟩
    · rename_i hx
      have hx2 : x - s.ls.length < 1 := by have := lt_of_getElem? h; simpa using this
      have hx3 : x = s.ls.length := by omega
      subst hx3
      simp at h
      exact .inr ⟨rfl, h.symm⟩
  have e : ExtW m s w (m.atl s.ls.length l) (s.pushL L) w1 := by
    refine { io := hio, size := hsz, same := fun b hb _ => hold b hb, own := ?_, arr := fun b arr el fz h => ⟨arr, by rw [hold b (heap_lt h)]; exact h, rfl⟩, hlen := Nat.le_refl _, dead := fun _ h => h, blk := fun _ st c h => .inr ⟨st, c, h, Nat.le_refl _, fun _ => rfl⟩,
             map := fun _ es h => .inr ⟨es, h, rfl⟩, llen := by simp [MSt.pushL], ls := fun x hx => atm hx, lst := ?_, gl := rfl }
    · intro b hb
      rcases hb with h | h | ⟨x, L', h, rfl⟩
      · exact .inl (.inl h)
      · exact .inl (.inr (.inl h))
      · rcases get h with ⟨hx, h⟩ | ⟨rfl, rfl⟩
        · rw [atm hx]; exact .inl (.inr (.inr ⟨x, L', h, rfl⟩))
        · rw [atn]; exact .inr hl
    · intro x L' h
      have hx := lt_of_getElem? h
      exact ⟨L', by simp [MSt.pushL, List.getElem?_append, hx]; exact (List.getElem?_eq_some_iff.1 h).2, rfl, rfl, rfl, rfl, rfl, rfl⟩
  refine ⟨e, hr.stepW e ?_ ?_ ?_ ?_ ?_ ?_⟩
  · intro β st c h
    exact .inl ⟨h, rfl, hold _ (blk_heap hr h)⟩
  · intro β es h
    exact .inl ⟨h, rfl, hold _ (own_lt hr (.inr (.inl ⟨β, es, h, rfl⟩)))⟩
  · intro x L' h
    rcases get h with ⟨hx, h⟩ | ⟨rfl, rfl⟩
    · exact .inl ⟨h, atm hx, hold _ (own_lt hr (.inr (.inr ⟨x, L', h, rfl⟩)))⟩
    · right
      refine ⟨R, by rw [atn]; exact hR, h1.1, h1.2.1, h1.2.2.1, h1.2.2.2.1, h1.2.2.2.2.1, h1.2.2.2.2.2.1, h1.2.2.2.2.2.2, fun j hj => ⟨(h2 j hj).extW e, (h2 j hj).lt⟩⟩
  · intro β β' st st' c c' h h' he
    exact hr.injb _ _ _ _ _ _ h h' he
  · intro β β' c c' h h' he
    exact hr.injm _ _ _ _ h h' he
  · intro x x' hx hx' he
    have hx : x < s.ls.length + 1 := by simpa [MSt.pushL] using hx
    have hx' : x' < s.ls.length + 1 := by simpa [MSt.pushL] using hx'
    have own : ∀ {y : Nat}, y < s.ls.length → m.l y < w.heap.size := fun {y} hy => own_lt hr (.inr (.inr ⟨y, s.ls[y], by simp [hy], rfl⟩))
    by_cases h1 : x = s.ls.length <;> by_cases h2 : x' = s.ls.length
    · omega
    · rw [h1, atn, atm (by omega)] at he
      have := own (y := x') (by omega); omega
    · rw [h2, atn, atm (by omega)] at he
      have := own (y := x) (by omega); omega
    · rw [atm (by omega), atm (by omega)] at he
      exact hr.injl _ _ (by omega) (by omega) he

/-- Fewer loops: what speaks of none of those gone keeps its relation. -/
theorem RelV.fewer {m s s2 w w2 v r} (h : RelV m s w v r) (hh : s2.h = s.h) (ho : ∀ b, Own m s2 b → Own m s b) (hsz : w.heap.size ≤ w2.heap.size)
    (hc : ∀ (b : Nat) (arr : Array Value) (el : TypeId) (fz : Nat × Nat), w.heap[b]? = some (.cells arr el fz) → w2.heap[b]? = some (.cells arr el fz)) (nb : Nat) (hlt : v.lt nb s2.ls.length = true) : RelV m s2 w2 v r := by
  have cell : ∀ {b o : Nat} {v : Value}, w.cell? ⟨b, o, none⟩ = some v → w2.cell? ⟨b, o, none⟩ = some v := fun {b o v} h => by
    unfold World.cell? at h ⊢
    split at h
    · rename_i c el fz hb
      have := hc b _ _ _ hb
      simp only [this]
      exact h
    · simp at h
  have live : ∀ {β st : Nat}, s.live β st → s2.live β st := fun {β st} ⟨c, h⟩ => ⟨c, by rw [hh]; exact h⟩
  have stale : ∀ {β st : Nat}, s.stale β st → s2.stale β st := fun {β st} h => by
    unfold MSt.stale at *; rw [hh]; exact h
  induction h with
  | int k n => exact .int k n
  | bool b => exact .bool b
  | flt k n => exact .flt k n
  | str l => exact .str l
  | nilptr => exact .nilptr
  | nilsl => exact .nilsl
  | nilmap => exact .nilmap
  | nilfunc => exact .nilfunc
  | niliface => exact .niliface
  | esl a c => exact .esl a c
  | ptr β st off h => exact .ptr _ _ _ (live h)
  | ptrStale β st off v h hv => exact .ptrStale _ _ _ _ (stale h) hv
  | fptr cells off b base vs hb ho' hl hc' hv ih =>
    simp only [MV.lt] at hlt
    exact .fptr cells off b base vs (Nat.lt_of_lt_of_le hb hsz) (fun h => ho' (ho _ h)) hl (fun j hj => cell (hc' j hj)) (fun j hj hj' => ih j hj hj' (lts_at hlt j hj))
  | msl β st sz off len cap rcap h hlen hcap harr =>
    obtain ⟨arr, el, fz, h1, h2⟩ := harr
    exact .msl _ _ _ _ _ _ _ (live h) hlen hcap ⟨arr, el, fz, hc _ _ _ _ h1, h2⟩
  | mslStale β st sz off len cap v h hv => exact .mslStale _ _ _ _ _ _ _ (stale h) hv
  | fsl cells len cap b off rcap vs hb ho' hlen hcap hl hc' hv ih =>
    simp only [MV.lt] at hlt
    exact .fsl cells len cap b off rcap vs (Nat.lt_of_lt_of_le hb hsz) (fun h => ho' (ho _ h)) hlen hcap hl (fun j hj => cell (hc' j hj)) (fun j hj hj' => ih j hj hj' (lts_at hlt j hj))
  | map β es h => exact .map β es (by rw [hh]; exact h)
  | mapStale β v h hv => exact .mapStale _ _ (by rw [hh]; exact h) hv
  | func fn fs cs rfs rcs hfn hf hc' h1 h2 ih1 ih2 =>
    simp only [MV.lt, Bool.and_eq_true] at hlt
    exact .func fn fs cs rfs rcs hfn hf hc' (fun j hj hj' => ih1 j hj hj' (lts_at hlt.1 j hj)) (fun j hj hj' => ih2 j hj hj' (lts_at hlt.2 j hj))
  | yield l h => exact .yield l (by simpa [MV.lt] using hlt)
  | iface t v rv h ih => exact .iface t v rv (ih (by simpa [MV.lt] using hlt))
  | agg cs rcs hc' h ih =>
    simp only [MV.lt] at hlt
    exact .agg cs rcs hc' (fun j hj hj' => ih j hj hj' (lts_at hlt j hj))
  | tuple cs rcs hc' h ih =>
    simp only [MV.lt] at hlt
    exact .tuple cs rcs hc' (fun j hj hj' => ih j hj hj' (lts_at hlt j hj))
  | any v => exact .any v

theorem popL_get {s : MSt} {x : Nat} {L : MLoop} (h : s.popL.ls[x]? = some L) : s.ls[x]? = some L ∧ x < s.ls.length - 1 := by
  have hx := lt_of_getElem? h
  simp [MSt.popL] at hx
  refine ⟨?_, hx⟩
  obtain ⟨h1, h2⟩ := List.getElem?_eq_some_iff.1 h
  simp only [MSt.popL, List.getElem_dropLast] at h2
  rw [← h2]
  exact List.getElem?_eq_getElem _

/-- The last loop is over: its record is the mirror's no more. -/
theorem popL_rel {m s w w2} (hr : RelS m s w) (hne : 0 < s.ls.length) (hsz : w2.heap.size = w.heap.size) (hsame : ∀ b, b ≠ m.l (s.ls.length - 1) → w2.heap[b]? = w.heap[b]?)
    (hrec : ∃ R, w.heap[m.l (s.ls.length - 1)]? = some (.loop R)) : RelS m s.popL w2 := by
  obtain ⟨R0, hR0⟩ := hrec
  have own : ∀ b, Own m s.popL b → Own m s b := fun b h => by
    rcases h with h | h | ⟨l, L, h, rfl⟩
    · exact .inl h
    · exact .inr (.inl h)
    · exact .inr (.inr ⟨l, L, (popL_get h).1, rfl⟩)
  have hc : ∀ (b : Nat) (arr : Array Value) (el : TypeId) (fz : Nat × Nat), w.heap[b]? = some (.cells arr el fz) → w2.heap[b]? = some (.cells arr el fz) := fun b arr el fz h => by
    rw [hsame b fun e => by rw [e, hR0] at h; simp at h]; exact h
  have hplen : s.popL.ls.length = s.ls.length - 1 := by simp [MSt.popL]
  refine { blk := ?_, map := ?_, loop := ?_, injb := hr.injb, injm := hr.injm, injl := ?_, gl := ?_ }
  · intro β st cells hb
    obtain ⟨arr, el, fz, h1, h2, h3, h4, h5⟩ := hr.blk β st cells hb
    exact ⟨arr, el, fz, hc _ _ _ _ h1, h2, h3, fun j hj hj' => (h4 j hj hj').fewer rfl own (Nat.le_of_eq hsz.symm) hc s.h.length (lt_mono (Nat.le_refl _) (Nat.zero_le _) _ (h5 j hj)), h5⟩
  · intro β es hb
    obtain ⟨res, clock, h1, h2, h3⟩ := hr.map β es hb
    refine ⟨res, clock, by rw [hsame _ fun e => by rw [e, hR0] at h1; simp at h1]; exact h1, h2, fun j hj hj' => ?_⟩
    obtain ⟨a1, a2, a3, a4⟩ := h3 j hj hj'
    exact ⟨a1.fewer rfl own (Nat.le_of_eq hsz.symm) hc s.h.length (lt_mono (Nat.le_refl _) (Nat.zero_le _) _ a3), a2.fewer rfl own (Nat.le_of_eq hsz.symm) hc s.h.length (lt_mono (Nat.le_refl _) (Nat.zero_le _) _ a4), a3, a4⟩
  · intro l L hl
    obtain ⟨hl, hlt⟩ := popL_get hl
    obtain ⟨R, h1, a1, a2, a3, a4, a5, a6, a7, a8⟩ := hr.loop l L hl
    have hne' : m.l l ≠ m.l (s.ls.length - 1) := fun e => by have := hr.injl _ _ (by omega) (by omega) e; omega
    exact ⟨R, by rw [hsame _ hne']; exact h1, a1, a2, a3, a4, a5, a6, a7, fun j hj => ⟨(a8 j hj).1.fewer rfl own (Nat.le_of_eq hsz.symm) hc s.h.length (lt_mono (Nat.le_refl _) (by omega) _ (a8 j hj).2), (a8 j hj).2⟩⟩
  · intro l l' hl hl'
    exact hr.injl _ _ (by omega) (by omega)
  · intro g c hg
    have h := hr.gl g c hg
    exact ⟨h.1.fewer rfl own (Nat.le_of_eq hsz.symm) hc s.h.length (lt_mono (Nat.zero_le _) (Nat.zero_le _) _ h.2), h.2⟩

/-- A loop's record is turned: its state and what is pending. -/
theorem setL_rel {m s w} (hr : RelS m s w) {l : Nat} {L : MLoop} (hL : s.ls[l]? = some L) (st : LoopState) (pd : Option Code) {R : Loop} (hR : w.heap[m.l l]? = some (.loop R)) :
    Ext m s w m (s.setL l { L with state := st, pending := pd }) (w.putObj (m.l l) (.loop { R with state := st, pending := pd })) ∧
      RelS m (s.setL l { L with state := st, pending := pd }) (w.putObj (m.l l) (.loop { R with state := st, pending := pd })) := by
  have hlt := lt_of_getElem? hL
  have get : ∀ {x : Nat} {L' : MLoop}, (s.setL l { L with state := st, pending := pd }).ls[x]? = some L' → (x = l ∧ L' = { L with state := st, pending := pd }) ∨ (x ≠ l ∧ s.ls[x]? = some L') := fun {x L'} h => by
    simp only [MSt.setL, List.getElem?_set] at h
    by_cases hx : l = x
    · subst hx
      simp only [if_true, hlt, Option.some.injEq] at h
      exact .inl ⟨rfl, h.symm⟩
    · rw [if_neg hx] at h
      exact .inr ⟨fun e => hx e.symm, h⟩
  have own : ∀ {b : Nat}, Own m (s.setL l { L with state := st, pending := pd }) b → Own m s b := fun {b} h => by
    rcases h with h | h | ⟨x, L', h, rfl⟩
    · exact .inl h
    · exact .inr (.inl h)
    · rcases get h with ⟨rfl, _⟩ | ⟨_, h⟩
      · exact .inr (.inr ⟨x, L, hL, rfl⟩)
      · exact .inr (.inr ⟨x, L', h, rfl⟩)
  have other : ∀ {b : Nat}, b ≠ m.l l → (w.putObj (m.l l) (.loop { R with state := st, pending := pd })).heap[b]? = w.heap[b]? := fun {b} h => World.putObj_heap_other h
  have notl : ∀ {b : Nat} {o : Obj}, w.heap[b]? = some o → (∀ r, o ≠ .loop r) → b ≠ m.l l := fun {b o} h hn e => by
    rw [e, hR] at h; exact hn R (by simpa using h.symm)
  have e : Ext m s w m (s.setL l { L with state := st, pending := pd }) (w.putObj (m.l l) (.loop { R with state := st, pending := pd })) := by
    refine { size := by simp, same := fun b _ hno => other fun e => hno (.inr (.inr ⟨l, L, hL, e.symm⟩)), own := fun b h => .inl (own h), arr := fun b arr el fz h => ⟨arr, by rw [other (notl h (by simp))]; exact h, rfl⟩, hlen := Nat.le_refl _,
             dead := fun _ h => h, blk := fun _ st c h => .inr ⟨st, c, h, Nat.le_refl _, fun _ => rfl⟩, map := fun _ es h => .inr ⟨es, h, rfl⟩, llen := by simp [MSt.setL], leq := by simp [MSt.setL], ls := fun _ _ => rfl, lst := ?_, gl := rfl }
    intro x L' h
    by_cases hx : x = l
    · subst hx
      rw [hL] at h
      simp only [Option.some.injEq] at h; subst h
      exact ⟨{ L with state := st, pending := pd }, by simp only [MSt.setL, List.getElem?_set, if_true, hlt], rfl, rfl, rfl, rfl, rfl, rfl⟩
    · exact ⟨L', by simp only [MSt.setL, List.getElem?_set, if_neg (Ne.symm hx)]; exact h, rfl, rfl, rfl, rfl, rfl, rfl⟩
  refine ⟨e, hr.step e ?_ ?_ ?_ hr.injb hr.injm ?_⟩
  · intro β st' c h
    obtain ⟨arr, el, fz, h1, _⟩ := hr.blk β st' c h
    exact .inl ⟨h, rfl, other (notl h1 (by simp))⟩
  · intro β es h
    obtain ⟨res, clock, h1, _⟩ := hr.map β es h
    exact .inl ⟨h, rfl, other (notl h1 (by simp))⟩
  · intro x L' h
    rcases get h with ⟨rfl, rfl⟩ | ⟨hx, h⟩
    · right
      obtain ⟨R', h1, a1, a2, a3, a4, a5, a6, a7, a8⟩ := hr.loop x L hL
      rw [hR] at h1
      simp only [Option.some.injEq, Obj.loop.injEq] at h1
      subst h1
      exact ⟨_, World.putObj_heap_same (heap_lt hR), a1, a2, a3, a4, rfl, rfl, a7, fun j hj => ⟨(a8 j hj).1.ext e, (a8 j hj).2⟩⟩
    · exact .inl ⟨h, rfl, other fun he => hx (hr.injl _ _ (lt_of_getElem? h) hlt he)⟩
  · intro x x' hx hx'
    exact hr.injl _ _ (by simpa [MSt.setL] using hx) (by simpa [MSt.setL] using hx')

end Go.Mir

/- A round of a range over a function; the statement. -/
namespace Go.Mir

/-- The loop's variables take what yield was handed. -/
def setMany (env : Nat → MV) : List Tmp → List MV → Nat → MV
  | t :: ts, v :: vs => setMany (upd env t v) ts vs
  | _, _ => env

theorem setMany_rel {m s w} : ∀ (ts : List Tmp) (vs : List MV) (rs : List Value) (env : Nat → MV) (tmps : Array Value), RelE m s w env tmps → RelL m s w vs rs →
    RelE m s w (setMany env ts vs) ((ts.zip rs).foldl (fun (tmps : Array Value) (x : Tmp × Value) => tmps.setIfInBounds x.1 x.2) tmps) ∧ ((ts.zip rs).foldl (fun (tmps : Array Value) (x : Tmp × Value) => tmps.setIfInBounds x.1 x.2) tmps).size = tmps.size
  | [], vs, rs, env, tmps, he, _ => ⟨by simpa [setMany] using he, by simp⟩
  | t :: ts, [], rs, env, tmps, he, hL => by
    have : rs = [] := by cases rs with | nil => rfl | cons _ _ => simp [RelL] at hL
    subst this; exact ⟨by simpa [setMany] using he, by simp⟩
  | t :: ts, v :: vs, rs, env, tmps, he, hL => by
    cases rs with
    | nil => simp [RelL] at hL
    | cons r rs =>
      have h0 : RelV m s w v r := hL.2 0 (by simp) (by simp)
      have hL' : RelL m s w vs rs := ⟨by simpa using hL.1, fun j hj hj' => by
        have h := hL.2 (j + 1) (by simp; omega) (by simp; omega)
        simpa only [List.getElem_cons_succ] using h⟩
      obtain ⟨h1, h2⟩ := setMany_rel ts vs rs (upd env t v) (tmps.setIfInBounds t r) (he.upd h0) hL'
      simp only [List.zip_cons_cons, List.foldl_cons, setMany]
      exact ⟨h1, by simpa using h2⟩

/-- How a round may end, and what then becomes of its loop. -/
def roundEnd (l : Nat) (K : MV → MSt → Prop) (ex : Exit) (_env : Nat → MV) (s : MSt) : Prop :=
  ∃ L, s.ls[l]? = some L ∧ match ex with
    | .normal => K (.bool true) (s.setL l { L with state := .ready, pending := none })
    | .ret => K (.bool false) (s.setL l { L with state := .done, pending := some .ret })
    | .exit id => K (.bool false) (s.setL l { L with state := .done, pending := some (.exit id) })
    | .goto t => K (.bool false) (s.setL l { L with state := .done, pending := some (.goto t) })
    | _ => False

theorem mround {P : Program} {l : Nat} {L : MLoop} {args : List MV} {s : MSt} {K : MV → MSt → Prop} (hL : s.ls[l]? = some L) (hn : args.length = L.params.size) (hfit : (cfits L.n L.assign && cfits L.n L.body) = true)
    (h : MCode P L.n (some l) L.assign (fun ex env1 s1 => ex = .normal ∧ ∃ L1, s1.ls[l]? = some L1 ∧ L1.state = .ready ∧ L1.pending = none ∧
      MCode P L.n (some l) L.body (roundEnd l K) env1 (s1.setL l { L1 with state := .busy, pending := none })) (setMany L.env L.params.toList args) s) :
    MRound P l args s K := by
  intro m w rargs hr ha hl
  rw [Bool.and_eq_true] at hfit
  obtain ⟨R, hR, a1, a2, a3, a4, a5, a6, a7, a8⟩ := hr.loop l L hL
  have hsz : rargs.size = R.params.size := by have := ha.1; rw [a2]; simp at this; omega
  have hy := run_yield (P := P) hR hsz
  refine ⟨R.fn, _, R.assign, R.body, hy, ?_⟩
  have hzip : ((R.params.zip rargs).foldl (fun (tmps : Array Value) (x : Tmp × Value) => match x with | (t, a) => tmps.setIfInBounds t a) R.tmps) =
      ((R.params.toList.zip rargs.toList).foldl (fun (tmps : Array Value) (x : Tmp × Value) => tmps.setIfInBounds x.1 x.2) R.tmps) := by
    rw [← Array.foldl_toList, Array.toList_zip]
  rw [hzip]
  obtain ⟨e1, e2⟩ := setMany_rel R.params.toList args rargs.toList L.env R.tmps (fun j hj => (a8 j hj).1) ha
  refine roundIn_of_wpIn trivial ?_
  rw [a3, a4]
  have h1 := h hfit.1 (fun l' hl' => by cases hl'; exact hl) m w { tmps := ((R.params.toList.zip rargs.toList).foldl (fun (tmps : Array Value) (x : Tmp × Value) => tmps.setIfInBounds x.1 x.2) R.tmps), defers := [] } w.heap.size (Nat.le_refl _) hr
    (by rw [← a2]; exact e1) (by rw [e2, a7]) ⟨[], rfl, by simp, by simp⟩
  refine wpIn_mono (h1 : L.assign.wpIn (Fence.wide.inRound (m.l l)) 0 P _ _ w) ?_
  rintro ex a' w1 ⟨m1, env1, s1, ⟨rfl, L1, hL1, hst, hpd, hbody⟩, g2, g3, g4, g5, g6⟩
  obtain ⟨R1, hR1, b1, b2, b3, b4, b5, b6, b7, b8⟩ := g2.loop l L1 hL1
  have hml : m1.l l = m.l l := g6.ls l hl
  have hbr := run_beginRound (P := P) hR1 (b5.trans hst)
  rw [hml] at hbr hR1
  refine ⟨_, hbr, ?_⟩
  obtain ⟨x1, x2⟩ := setL_rel g2 hL1 .busy none (R := R1) (by rw [hml]; exact hR1)
  have hR1p : R1.pending = none := b6.trans hpd
  have hRe : ({ R1 with state := .busy, pending := none } : Loop) = { R1 with state := .busy } := by rw [← hR1p]
  rw [hml, hRe] at x1 x2
  obtain ⟨d1, d2, d3⟩ := g5
  have hd2 := Dfs.ext ⟨d1, d2, d3⟩ x1
  have h2 := hbody hfit.2 (fun l' hl' => by cases hl'; simp [MSt.setL]; exact lt_of_getElem? hL1) m1 _ a' w.heap.size (Nat.le_trans g6.size x1.size) x2 (g3.ext x1) g4 hd2
  have hrd : (some l).map m1.l = some (m.l l) := by simp [hml]
  rw [hrd] at h2
  refine wpIn_mono (h2 : L.body.wpIn (Fence.wide.inRound (m.l l)) 0 P _ _ _) ?_
  rintro ex2 a2' w2 ⟨m2, env2, s2, ⟨L2, hL2, hK⟩, k2, k3, k4, k5, k6⟩
  have hml2 : m2.l l = m.l l := (k6.ls l (by simp [MSt.setL]; exact lt_of_getElem? hL1)).trans hml
  obtain ⟨R2, hR2, c1, c2, c3, c4, c5, c6, c7, c8⟩ := k2.loop l L2 hL2
  rw [hml2] at hR2
  have fin : ∀ (jump : Option Code) (st : LoopState), st = (if jump.isNone then LoopState.ready else .done) → K (.bool jump.isNone) (s2.setL l { L2 with state := st, pending := jump }) →
      ∃ v w', (Instr.endRound (m.l l) jump).run P w2 = .ok v w' ∧ ∃ v', (Ending.returned v) = .returned v' ∧ Post m s w K v' w' := fun jump st hst hk => by
    obtain ⟨y1, y2⟩ := setL_rel k2 hL2 st jump (R := R2) (by rw [hml2]; exact hR2)
    rw [hml2] at y1 y2
    refine ⟨_, _, run_endRound (P := P) jump hR2, _, rfl, m2, _, _, hk, ?_, .bool _, ?_⟩
    · rw [← hst]; exact y2
    · rw [← hst]; exact (g6.trans x1).trans (k6.trans y1)
  cases ex2 with
  | normal => exact fin none .ready rfl hK
  | ret => exact fin (some .ret) .done rfl hK
  | exit id => exact fin (some (.exit id)) .done rfl hK
  | goto t => exact fin (some (.goto t)) .done rfl hK
  | panic ch => exact hK.elim
  | outgrown => exact hK.elim

/-- What is asked when the function that was ranged over has returned. -/
def rangeEnd (P : Program) (N : Nat) (rd : Option Nat) (Q : Exit → (Nat → MV) → MSt → Prop) (env : Nat → MV) (_r : MV) (s' : MSt) : Prop :=
  ∃ (sf : MSt) (Lf : MLoop), s' = sf.pushL Lf ∧ Lf.state ≠ .busy ∧ match Lf.pending with
    | none => Q .normal env sf
    | some c => cfits N c = true ∧ MCode P N rd c Q env sf

def loop0 (fn : FuncId) (N : Nat) (env : Nat → MV) (ps : Array Tmp) (assign body : Code) : MLoop :=
  { fn, n := N, env, params := ps, assign, body, state := .ready, pending := none }

theorem called_enter {P : Program} {f : FuncId} {fn : Func} {N : Nat} (hf : FnOK P f fn N) {args : Array Value} {w : World} {R : Value → World → Prop} (h : Called P f args w R) :
    (callFunc f args).run P w = .ok (.enter f args) w ∧ CallsIn Fence.wide 0 P f args w (fun e w' => ∃ v, e = .returned v ∧ R v w') := by
  rcases h with h | ⟨v, w', h, _⟩
  · exact h
  · have hbody : fn.body.isNone = false := by
      have := hf.body
      cases hb : fn.body <;> simp_all
    simp only [callFunc, Sem.run_bind, run_program, Result.andThen, hf.at_, hf.name, Bool.false_eq_true, if_false, hbody, Sem.run_pure] at h
    simp at h

/-- **The statement 'for .. := range f'.** -/
theorem mrangeFunc {P N rd g ps assign body Q env s} {f : FuncId} {first cap : List MV} {fn : Func} {Nf : Nat} (hfv : mev s env g = .func (.func f) first cap) (hf : FnOK P f fn Nf)
    (h : ∀ fn0, MCalls P f (first ++ [.yield s.ls.length] ++ cap) (s.pushL (loop0 fn0 N env ps assign body)) (rangeEnd P N rd Q env)) : MCode P N rd (.rangeFunc g ps assign body) Q env s := by
  intro hs hrd m w a b0 hb hr he hN hd
  simp only [cfits, Bool.and_eq_true] at hs
  obtain ⟨⟨⟨hs1, hs2⟩, hs3⟩, hs4⟩ := hs
  have hgv := rel_mev hr he g (by rw [hN]; exact hs1)
  rw [hfv] at hgv
  generalize hrg : a.eval g = rg at hgv
  cases hgv with
  | func _ _ _ rfs rcs hfn hl1 hl2 hrel1 hrel2 =>
  refine wpIn_rangeFunc ?_
  intro fn0 _
  -- the record is laid
  have hlay : ∃ (l : Nat) (mark : List Deferred) (w₁ : World) (R : Loop), (Instr.enterLoop fn0 a.tmps ps assign body (rd.map m.l)).run P w = .ok (l, mark) w₁ ∧ Calm3 w w₁ ∧ w.heap.size ≤ l ∧ w.heap.size ≤ w₁.heap.size ∧ (∀ b, b < w.heap.size → w₁.heap[b]? = w.heap[b]?) ∧
      w₁.heap[l]? = some (.loop R) ∧ (R.fn = fn0 ∧ R.params = ps ∧ R.assign = assign ∧ R.body = body ∧ R.state = .ready ∧ R.pending = none ∧ R.tmps = a.tmps) ∧
      (mark = [] ∨ ∃ D, mark = [{ target := .collected D, args := #[] }] ∧ w.heap.size ≤ D ∧ w₁.heap[D]? = some (.deferred (some [])) ∧ D ≠ l) := by
    cases hrd' : rd with
    | none =>
      refine ⟨w.heap.size + 1, [{ target := .collected w.heap.size, args := #[] }], (w.alloc (.deferred (some []))).alloc (.loop { state := .ready, pending := none, fn := fn0, tmps := a.tmps, params := ps, assign, body, defers := w.heap.size }),
        { state := .ready, pending := none, fn := fn0, tmps := a.tmps, params := ps, assign, body, defers := w.heap.size }, run_enterLoop_outer fn0 a.tmps ps assign body, ⟨rfl, rfl, rfl⟩, by omega, by simp; omega, fun b hb => ?_, by rw [alloc_get, if_pos (by simp)], ⟨rfl, rfl, rfl, rfl, rfl, rfl, rfl⟩, .inr ⟨w.heap.size, rfl, Nat.le_refl _, ?_, by omega⟩⟩
      · rw [alloc_get, if_neg (by simp; omega), alloc_get, if_neg (by omega)]
      · rw [alloc_get, if_neg (by simp), alloc_get, if_pos rfl]
    | some l0 =>
      have hl0 := hrd l0 hrd'
      obtain ⟨R0, hR0, _⟩ := hr.loop l0 (s.ls[l0]'hl0) (by simp)
      refine ⟨w.heap.size, [], w.alloc (.loop { state := .ready, pending := none, fn := fn0, tmps := a.tmps, params := ps, assign, body, defers := R0.defers }), { state := .ready, pending := none, fn := fn0, tmps := a.tmps, params := ps, assign, body, defers := R0.defers }, ?_, ⟨rfl, rfl, rfl⟩, Nat.le_refl _, by simp, fun b hb => by rw [alloc_get, if_neg (by omega)], by rw [alloc_get, if_pos rfl], ⟨rfl, rfl, rfl, rfl, rfl, rfl, rfl⟩, .inl rfl⟩
      simp only [Instr.enterLoop, Option.map_some, Sem.run_bind, run_getLoop hR0, Result.andThen, Sem.run_pure, run_newObj]
      rfl
  obtain ⟨l, mark, w₁, R, hent, hio, hl, hsz1, hold1, hR, ⟨r1, r2, r3, r4, r5, r6, r7⟩, hmark⟩ := hlay
  obtain ⟨e1, hr1⟩ := pushL_rel (hio := hio) hr hsz1 hold1 (loop0 fn0 N env ps assign body) l hl R hR ⟨r1, r2, r3, r4, r5, r6, by rw [r7]; exact hN⟩ (by rw [r7]; exact he)
  have hml : (m.atl s.ls.length l).l s.ls.length = l := by simp [Emb.atl]
  have hL : RelL (m.atl s.ls.length l) (s.pushL (loop0 fn0 N env ps assign body)) w₁ (first ++ [.yield s.ls.length] ++ cap) (rfs ++ #[Value.func (.yield l) #[] #[]] ++ rcs).toList := by
    have app : ∀ {x y : List MV} {rx ry : List Value}, RelL (m.atl s.ls.length l) (s.pushL (loop0 fn0 N env ps assign body)) w₁ x rx → RelL (m.atl s.ls.length l) (s.pushL (loop0 fn0 N env ps assign body)) w₁ y ry →
        RelL (m.atl s.ls.length l) (s.pushL (loop0 fn0 N env ps assign body)) w₁ (x ++ y) (rx ++ ry) := fun {x y rx ry} h1 h2 => by
      refine ⟨by simp [h1.1, h2.1], fun j hj hj' => ?_⟩
      have e1 := h1.1
      by_cases hjx : j < x.length
      · rw [List.getElem_append_left hjx, List.getElem_append_left (by omega)]; exact h1.2 j hjx (by omega)
      · rw [List.getElem_append_right (by omega), List.getElem_append_right (by omega)]
        have := h2.2 (j - x.length) (by simp at hj; omega) (by simp at hj'; omega)
        simpa only [e1] using this
    have a1 : RelL (m.atl s.ls.length l) (s.pushL (loop0 fn0 N env ps assign body)) w₁ first rfs.toList := ⟨by simpa using hl1, fun j hj hj' => (hrel1 j hj (by simpa using hj')).extW e1⟩
    have a2 : RelL (m.atl s.ls.length l) (s.pushL (loop0 fn0 N env ps assign body)) w₁ cap rcs.toList := ⟨by simpa using hl2, fun j hj hj' => (hrel2 j hj (by simpa using hj')).extW e1⟩
    have a3 : RelL (m.atl s.ls.length l) (s.pushL (loop0 fn0 N env ps assign body)) w₁ [.yield s.ls.length] [Value.func (.yield l) #[] #[]] := ⟨rfl, fun j hj hj' => by
      have : j = 0 := by simp at hj; omega
      subst this
      have hy := RelV.yield (m := m.atl s.ls.length l) (s := s.pushL (loop0 fn0 N env ps assign body)) (w := w₁) s.ls.length (by simp [MSt.pushL])
      rw [hml] at hy
      exact hy⟩
    simpa using app (app a1 a3) a2
  obtain ⟨c1, c2⟩ := called_enter hf (h fn0 _ w₁ _ hr1 hL)
  refine ⟨l, mark, w₁, { target := .fn (.func f) rcs, args := rfs ++ #[Value.func (.yield l) #[] #[]] }, w₁, f, _, w₁, hent, ?_, fun _ _ => trivial, c1, fun hh => by simp [fence, Fence.wide] at hh, ?_⟩
  · have hmap : Array.map a.eval #[Operand.const (Value.func (.yield l) #[] #[])] = #[Value.func (.yield l) #[] #[]] := by simp [Act.eval]
    simp only [resolve, hrg, hmap]
    rfl
  · refine (c2 : CallsIn (fence (rd.map m.l)) 0 P f _ w₁ _).mono ?_
    rintro e w₃ ⟨v, rfl, m', s', r, ⟨sf, Lf, rfl, hnb, hend⟩, k2, k3, k4⟩
    -- the function has returned
    have hfl : sf.ls.length = s.ls.length := by have := k4.leq; simpa [MSt.pushL] using this
    have hlast : (sf.pushL Lf).ls[s.ls.length]? = some Lf := by rw [← hfl]; simp [MSt.pushL]
    have hml' : m'.l s.ls.length = l := (k4.ls _ (by simp [MSt.pushL])).trans hml
    obtain ⟨R3, hR3, d1, d2, d3, d4, d5, d6, d7, d8⟩ := k2.loop _ Lf hlast
    rw [hml'] at hR3
    have hnb' : R3.state ≠ .busy := by rw [d5]; exact hnb
    have hrunE := run_endLoop (P := P) hR3 hnb'
    have hlen3 : (sf.pushL Lf).ls.length - 1 = s.ls.length := by simp [MSt.pushL, hfl]
    have hr4 : RelS m' sf (w₃.putObj l (.loop { R3 with state := .exhausted })) := by
      have := popL_rel (w2 := w₃.putObj l (.loop { R3 with state := .exhausted })) k2 (by simp [MSt.pushL]) (by simp) (fun b hb => by rw [hlen3, hml'] at hb; exact World.putObj_heap_other hb) ⟨R3, by rw [hlen3, hml']; exact hR3⟩
      rwa [pop_push] at this
    have ext : Ext m s w m' sf (w₃.putObj l (.loop { R3 with state := .exhausted })) := by
      have eW := e1.trans k4.toExtW
      refine { eW with io := eW.io.trans ⟨rfl, rfl, rfl⟩, size := by simpa using eW.size, same := fun b hb ho => ?_, own := fun b hb => ?_, arr := fun b arr el fz hh => ?_, llen := Nat.le_of_eq hfl.symm, leq := hfl, lst := fun x L' hx => ?_ }
      · rw [World.putObj_heap_other (by omega)]; exact eW.same b hb ho
      · refine eW.own b ?_
        rcases hb with hb | hb | ⟨x, L', hx, rfl⟩
        · exact .inl hb
        · exact .inr (.inl hb)
        · exact .inr (.inr ⟨x, L', by simp only [MSt.pushL, List.getElem?_append, lt_of_getElem? hx, if_true]; exact hx, rfl⟩)
      · rw [World.putObj_heap_other (by have := heap_lt hh; omega)]; exact eW.arr b arr el fz hh
      · obtain ⟨L2, hL2, y⟩ := eW.lst x L' hx
        have hxl := lt_of_getElem? hx
        refine ⟨L2, ?_, y⟩
        simp only [MSt.pushL, List.getElem?_append] at hL2
        rw [if_pos (by omega)] at hL2
        exact hL2
    have hD : Dfs b0 (mark ++ a.defers) m' sf (w₃.putObj l (.loop { R3 with state := .exhausted })) := by
      obtain ⟨rs, q1, q2, q3⟩ := hd.ext ext
      rcases hmark with rfl | ⟨D, rfl, hD1, hD2, hD3⟩
      · exact ⟨rs, by simpa using q1, q2, q3⟩
      · have hDo : ¬ Own (m.atl s.ls.length l) (s.pushL (loop0 fn0 N env ps assign body)) D := fun ho => by
          have hd0 : ∀ {o : Obj}, w₁.heap[D]? = some o → o = .deferred (some []) := fun {o} h => by rw [hD2] at h; exact (by simpa using h.symm)
          rcases ho with ⟨β, st, c, hh, he'⟩ | ⟨β, es, hh, he'⟩ | ⟨x, L', hh, he'⟩
          · obtain ⟨_, _, _, hx, _⟩ := hr1.blk β st c hh; rw [he'] at hx; have := hd0 hx; simp at this
          · obtain ⟨_, _, hx, _⟩ := hr1.map β es hh; rw [he'] at hx; have := hd0 hx; simp at this
          · obtain ⟨_, hx, _⟩ := hr1.loop x L' hh; rw [he'] at hx; have := hd0 hx; simp at this
        have hD4 : w₃.heap[D]? = some (.deferred (some [])) := by rw [k4.same D (heap_lt hD2) hDo]; exact hD2
        refine ⟨D :: rs, by simp [q1], ?_, fun r hr' => ?_⟩
        · refine List.nodup_cons.2 ⟨fun hm => ?_, q2⟩
          obtain ⟨rs0, p1, p2, p3⟩ := hd
          have : rs0 = rs := by
            have h' := p1.symm.trans q1
            have hinj : ∀ {x y : Nat}, ({ target := .collected x, args := #[] } : Deferred) = { target := .collected y, args := #[] } → x = y := fun {x y} h => by simpa using h
            exact (List.map_inj_right (fun x y h => hinj h)).1 h'
          subst this
          have := heap_lt (p3 D hm).1
          omega
        · rcases List.mem_cons.1 hr' with rfl | hr'
          · refine ⟨by rw [World.putObj_heap_other hD3]; exact hD4, fun ho => ?_, by omega⟩
            have := not_own_ext k4 (heap_lt hD2) hDo
            apply this
            rcases ho with hb | hb | ⟨x, L', hx, hy⟩
            · exact .inl hb
            · exact .inr (.inl hb)
            · exact .inr (.inr ⟨x, L', by simp only [MSt.pushL, List.getElem?_append, lt_of_getElem? hx, if_true]; exact hx, hy⟩)
          · exact q3 r hr'
    have heF := he.ext ext
    refine ⟨R3.pending, _, hrunE, ?_⟩
    generalize w₃.putObj l (.loop { R3 with state := .exhausted }) = w4 at hr4 ext hD heF
    rw [d6]
    cases hp : Lf.pending with
    | none =>
      rw [hp] at hend
      exact ⟨m', env, sf, hend, hr4, heF, hN, hD, ext⟩
    | some c =>
      rw [hp] at hend
      obtain ⟨x1, x2⟩ := rd_ext ext hrd
      have := hend.2 hend.1 x2 m' _ { a with defers := mark ++ a.defers } b0 (Nat.le_trans hb ext.size) hr4 heF hN hD
      rw [x1] at this
      exact wpIn_mono this fun _ _ _ hp => hp.from ext

end Go.Mir

/- Iterators as lists. -/
namespace Go.Mir

/-- An iterator's word: yield is called with each, till one says no. -/
def IterWp (P : Program) (y : MV) : List (List MV) → MSt → (MSt → Prop) → Prop
  | [], s, K => K s
  | x :: xs, s, K => MInv P y x s fun b s' => (b = .bool true ∧ IterWp P y xs s' K) ∨ (b = .bool false ∧ K s')

/-- **The iterator fv goes through xs, whatever its yield does.** -/
def MSeq (P : Program) (fv : MV) (xs : List (List MV)) : Prop := ∀ (y : MV) (s : MSt) (K : MSt → Prop), IterWp P y xs s K → MInv P fv [y] s fun _ s' => K s'

/-- The rounds of a range over a list of what comes. -/
def RFold (P : Program) (N : Nat) (ps : Array Tmp) (assign body : Code) (Q : Exit → (Nat → MV) → MSt → Prop) (env : Nat → MV) : List (List MV) → MSt → Prop
  | [], s => Q .normal env s
  | x :: xs, s => x.length = ps.size ∧ ∀ L : MLoop, MCode P N (some s.ls.length) assign (fun ex env1 s1 => ex = .normal ∧ ∃ t1 : MSt, s1 = t1.pushL L ∧ t1.ls.length = s.ls.length ∧
      ∀ L2 : MLoop, MCode P N (some s.ls.length) body (fun ex env2 s2 => ∃ t2 : MSt, s2 = t2.pushL L2 ∧ t2.ls.length = s.ls.length ∧
        match ex with
        | .normal => RFold P N ps assign body Q env xs t2
        | .ret => Q .ret env t2
        | .exit id => Q (.exit id) env t2
        | _ => False) env1 (t1.pushL L2)) (setMany env ps.toList x) (s.pushL L)

theorem pushL_get (s : MSt) (L : MLoop) : (s.pushL L).ls[s.ls.length]? = some L := by simp [MSt.pushL]
theorem setL_push (s : MSt) (L L' : MLoop) : (s.pushL L).setL s.ls.length L' = s.pushL L' := by simp [MSt.pushL, MSt.setL]

theorem iter_of_fold {P : Program} {N : Nat} {rd : Option Nat} {ps : Array Tmp} {assign body : Code} {Q : Exit → (Nat → MV) → MSt → Prop} {env : Nat → MV} (fn0 : FuncId) (hfit : (cfits N assign && cfits N body) = true) (n : Nat) :
    ∀ (xs : List (List MV)) (s : MSt), s.ls.length = n → RFold P N ps assign body Q env xs s → IterWp P (.yield n) xs (s.pushL (loop0 fn0 N env ps assign body)) (rangeEnd P N rd Q env .undef)
  | [], s, _, h => ⟨s, _, rfl, by simp [loop0], h⟩
  | x :: xs, s, hn, h => by
    subst hn
    obtain ⟨hx, h⟩ := h
    simp only [IterWp, MInv]
    refine mround (L := loop0 fn0 N env ps assign body) (pushL_get _ _) hx hfit ?_
    refine (h (loop0 fn0 N env ps assign body)).mono ?_
    rintro ex env1 s1 ⟨rfl, t1, rfl, ht1, hb⟩
    refine ⟨rfl, loop0 fn0 N env ps assign body, by rw [← ht1]; exact pushL_get _ _, rfl, rfl, ?_⟩
    have e1 : (t1.pushL (loop0 fn0 N env ps assign body)).setL s.ls.length { loop0 fn0 N env ps assign body with state := .busy, pending := none } = t1.pushL { loop0 fn0 N env ps assign body with state := .busy, pending := none } := by rw [← ht1, setL_push]
    rw [e1]
    refine (hb _).mono ?_
    rintro ex env2 s2 ⟨t2, rfl, ht2, hq⟩
    refine ⟨_, by rw [← ht2]; exact pushL_get _ _, ?_⟩
    have e2 : ∀ L' L2 : MLoop, (t2.pushL L2).setL s.ls.length L' = t2.pushL L' := fun L' L2 => by rw [← ht2, setL_push]
    cases ex with
    | normal =>
      simp only [e2]
      have := iter_of_fold (rd := rd) fn0 hfit s.ls.length xs t2 ht2 hq
      exact .inl ⟨by first | rfl | trivial, this⟩
    | ret =>
      simp only [e2]
      exact .inr ⟨by first | rfl | trivial, t2, _, rfl, by simp, rfl, mret hq⟩
    | exit id =>
      simp only [e2]
      exact .inr ⟨by first | rfl | trivial, t2, _, rfl, by simp, rfl, mexit hq⟩
    | goto t => exact hq.elim
    | panic ch => exact hq.elim
    | outgrown => exact hq.elim

/-- **'for x := range seq': the rounds, one for each that comes.** -/
theorem mrange {P N rd g ps assign body Q env s} {f : FuncId} {first cap : List MV} {fn : Func} {Nf : Nat} (hf : FnOK P f fn Nf) (hfv : mev s env g = .func (.func f) first cap) {xs : List (List MV)}
    (hseq : MSeq P (.func (.func f) first cap) xs) (h : RFold P N ps assign body Q env xs s) : MCode P N rd (.rangeFunc g ps assign body) Q env s := by
  intro hs
  have hs' := hs
  simp only [cfits, Bool.and_eq_true] at hs'
  refine mrangeFunc hfv hf (fun fn0 => ?_) hs
  have := hseq (.yield s.ls.length) _ _ (iter_of_fold (rd := rd) fn0 (by simp [hs'.1.2, hs'.2]) s.ls.length xs s rfl h)
  exact this

end Go.Mir

/- What a call leaves behind, told anew: blocks that nobody writes any more are frozen into values, what is lost is dropped, the rest is numbered anew. -/
namespace Go.Mir

/-- A value told anew. κ: the new numbers of the blocks that are kept. -/
inductive Pk (H : List MObj) (κ : Nat → Option Nat) : MV → MV → Prop
  | same (v) (n ny : Nat) (h : v.lt n ny = true) (hk : ∀ β, β < n → κ β = some β) : Pk H κ v v
  | any (v) : Pk H κ v .any
  | yield (l) : Pk H κ (.yield l) (.yield l)
  | ptr (β β' st off) (h : κ β = some β') : Pk H κ (.ptr β st off) (.ptr β' st off)
  | msl (β β' st sz off len cap) (h : κ β = some β') : Pk H κ (.msl β st sz off len cap) (.msl β' st sz off len cap)
  | map (β β') (h : κ β = some β') : Pk H κ (.map β) (.map β')
  | ptrF (β st off) (cells cs : List MV) (h : κ β = none) (hb : H[β]? = some (.blk st cells)) (hl : cells.length = cs.length) (hc : ∀ j (h : j < cells.length) (h' : j < cs.length), Pk H κ cells[j] cs[j]) : Pk H κ (.ptr β st off) (.fptr cs off)
  | mslF (β st sz off len cap k) (cells cs : List MV) (h : κ β = none) (hb : H[β]? = some (.blk st cells)) (hk : off + k ≤ cells.length) (hl : k = cs.length)
      (hc : ∀ j (h : off + j < cells.length) (h' : j < cs.length), Pk H κ cells[off + j] cs[j]) (cap' : Option Nat) (hcap : cap' = cap ∨ cap' = none) : Pk H κ (.msl β st sz off len cap) (.fsl cs len cap')
  | fptr (cells cs off) (hl : cells.length = cs.length) (hc : ∀ j (h : j < cells.length) (h' : j < cs.length), Pk H κ cells[j] cs[j]) : Pk H κ (.fptr cells off) (.fptr cs off)
  | fsl (cells cs len cap) (hl : cells.length = cs.length) (hc : ∀ j (h : j < cells.length) (h' : j < cs.length), Pk H κ cells[j] cs[j]) (cap' : Option Nat) (hcap : cap' = cap ∨ cap' = none) : Pk H κ (.fsl cells len cap) (.fsl cs len cap')
  | func (fn fs fs' cs cs') (h1 : fs.length = fs'.length) (h2 : cs.length = cs'.length) (hf : ∀ j (h : j < fs.length) (h' : j < fs'.length), Pk H κ fs[j] fs'[j]) (hc : ∀ j (h : j < cs.length) (h' : j < cs'.length), Pk H κ cs[j] cs'[j]) :
      Pk H κ (.func fn fs cs) (.func fn fs' cs')
  | iface (t v v') (h : Pk H κ v v') : Pk H κ (.iface t v) (.iface t v')
  | agg (cells cs) (hl : cells.length = cs.length) (hc : ∀ j (h : j < cells.length) (h' : j < cs.length), Pk H κ cells[j] cs[j]) : Pk H κ (.agg cells) (.agg cs)
  | tuple (cells cs) (hl : cells.length = cs.length) (hc : ∀ j (h : j < cells.length) (h' : j < cs.length), Pk H κ cells[j] cs[j]) : Pk H κ (.tuple cells) (.tuple cs)

/-- An object told anew. -/
inductive PkO (H : List MObj) (κ : Nat → Option Nat) : MObj → MObj → Prop
  | dead (o) : PkO H κ o .dead
  | ghost : PkO H κ .ghost .ghost
  | blk (st) (cells cs : List MV) (hl : cells.length = cs.length) (hc : ∀ j (h : j < cells.length) (h' : j < cs.length), Pk H κ cells[j] cs[j]) : PkO H κ (.blk st cells) (.blk st cs)
  | map (es es' : List (MV × MV)) (hl : es.length = es'.length) (hc : ∀ j (h : j < es.length) (h' : j < es'.length), Pk H κ es[j].1 es'[j].1 ∧ Pk H κ es[j].2 es'[j].2) : PkO H κ (.map es) (.map es')

/-- What lies in a store, told anew: the first n blocks keep their numbers; inv: whence each block of the new store comes. -/
structure Repack (n : Nat) (s' s'' : MSt) (κ : Nat → Option Nat) (inv : Nat → Nat) : Prop where
  ls : s''.ls = s'.ls
  gl : s''.gl = s'.gl
  len : n ≤ s''.h.length
  low : ∀ β, β < n → κ β = some β
  to : ∀ β β', κ β = some β' → β' < s''.h.length ∧ inv β' = β
  back : ∀ β', β' < s''.h.length → κ (inv β') = some β'
  obj : ∀ (β' : Nat) (o'' : MObj), s''.h[β']? = some o'' → ∃ o' : MObj, s'.h[inv β']? = some o' ∧ PkO s'.h κ o' o''

def Emb.via (m : Emb) (inv : Nat → Nat) : Emb := { b := fun β => m.b (inv β), m := fun β => m.m (inv β), l := m.l }

theorem own_pack {n m s' s'' κ inv} (h : Repack n s' s'' κ inv) {b : Nat} (ho : Own (m.via inv) s'' b) : Own m s' b := by
  rcases ho with ⟨β, st, c, hb, rfl⟩ | ⟨β, es, hb, rfl⟩ | ⟨l, L, hl, rfl⟩
  · obtain ⟨o', h1, h2⟩ := h.obj β _ hb
    cases h2 with
    | blk _ cells cs hl hc => exact .inl ⟨inv β, st, cells, h1, rfl⟩
  · obtain ⟨o', h1, h2⟩ := h.obj β _ hb
    cases h2 with
    | map es0 _ hl hc => exact .inr (.inl ⟨inv β, es0, h1, rfl⟩)
  · exact .inr (.inr ⟨l, L, by rw [← h.ls]; exact hl, rfl⟩)

theorem pack_at {n s' s'' κ inv} (h : Repack n s' s'' κ inv) {β β' : Nat} (hk : κ β = some β') {o' : MObj} (ho : s'.h[β]? = some o') : ∃ o'', s''.h[β']? = some o'' ∧ PkO s'.h κ o' o'' := by
  obtain ⟨h1, h2⟩ := h.to β β' hk
  have h3 : s''.h[β']? = some s''.h[β'] := List.getElem?_eq_getElem h1
  obtain ⟨o1, h4, h5⟩ := h.obj β' _ h3
  rw [h2, ho] at h4
  simp only [Option.some.injEq] at h4; subst h4
  exact ⟨_, h3, h5⟩

theorem pack_live {n s' s'' κ inv} (h : Repack n s' s'' κ inv) {β β' st : Nat} (hk : κ β = some β') (hl : s'.live β st) : s''.live β' st ∨ s''.stale β' st := by
  obtain ⟨c, hc⟩ := hl
  obtain ⟨o'', h1, h2⟩ := pack_at h hk hc
  cases h2 with
  | dead _ => exact .inr (.inl h1)
  | blk _ _ cs _ _ => exact .inl ⟨cs, h1⟩

theorem pack_stale {n s' s'' κ inv} (h : Repack n s' s'' κ inv) {β β' st : Nat} (hk : κ β = some β') (hl : s'.stale β st) : s''.stale β' st := by
  rcases hl with hd | ⟨st', c, hc, hlt⟩
  · obtain ⟨o'', h1, h2⟩ := pack_at h hk hd
    cases h2 with
    | dead _ => exact .inl h1
  · obtain ⟨o'', h1, h2⟩ := pack_at h hk hc
    cases h2 with
    | dead _ => exact .inl h1
    | blk _ _ cs _ _ => exact .inr ⟨st', cs, h1, hlt⟩

theorem not_own_pack {n m s' s'' κ inv} (h : Repack n s' s'' κ inv) {b : Nat} (ho : ¬ Own m s' b) : ¬ Own (m.via inv) s'' b := fun h' => ho (own_pack h h')

theorem dropped {n m s' s'' κ inv w} (hp : Repack n s' s'' κ inv) (hr : RelS m s' w) {β st : Nat} {cells : List MV} (hk : κ β = none) (hb : s'.h[β]? = some (.blk st cells)) : ¬ Own (m.via inv) s'' (m.b β).1 := by
  obtain ⟨arr, el, fz, a1, _⟩ := hr.blk β st cells hb
  intro ho
  rcases ho with ⟨γ, st2, c, hγ, he⟩ | ⟨γ, es, hγ, he⟩ | ⟨l, L, hl, he⟩
  · obtain ⟨o', h1, h2⟩ := hp.obj γ _ hγ
    cases h2 with
    | blk _ cells2 cs hl hc =>
      have := hr.injb _ _ _ _ _ _ h1 hb he
      have hback := hp.back γ (lt_of_getElem? hγ)
      rw [this, hk] at hback
      simp at hback
  · obtain ⟨o', h1, h2⟩ := hp.obj γ _ hγ
    cases h2 with
    | map es0 _ hl hc =>
      obtain ⟨res, clock, hm, _⟩ := hr.map _ _ h1
      rw [show m.m (inv γ) = (m.b β).1 from he, a1] at hm
      simp at hm
  · obtain ⟨R, hR, _⟩ := hr.loop l L (by rw [← hp.ls]; exact hl)
    rw [show m.l l = (m.b β).1 from he, a1] at hR
    simp at hR

theorem same_rel {n m s' s'' κ inv w} (hp : Repack n s' s'' κ inv) {v r} (h : RelV m s' w v r) : ∀ (k ny : Nat), v.lt k ny = true → (∀ β, β < k → κ β = some β) → RelV (m.via inv) s'' w v r := by
  have inv_low : ∀ {k β : Nat}, (∀ β, β < k → κ β = some β) → β < k → inv β = β := fun {k β} hk hb => (hp.to β β (hk β hb)).2
  induction h with
  | int k n => intros; exact .int k n
  | bool b => intros; exact .bool b
  | flt k n => intros; exact .flt k n
  | str l => intros; exact .str l
  | nilptr => intros; exact .nilptr
  | nilsl => intros; exact .nilsl
  | nilmap => intros; exact .nilmap
  | nilfunc => intros; exact .nilfunc
  | niliface => intros; exact .niliface
  | esl a c => intros; exact .esl a c
  | ptr β st off hl =>
    intro k ny hlt hk
    have hb : β < k := by simpa [MV.lt] using hlt
    rcases pack_live hp (hk β hb) hl with h | h
    · have := RelV.ptr (m := m.via inv) (w := w) β st off h
      simp only [Emb.via, inv_low hk hb] at this
      exact this
    · exact .ptrStale _ _ _ _ h rfl
  | ptrStale β st off v h hv =>
    intro k ny hlt hk
    exact .ptrStale _ _ _ _ (pack_stale hp (hk β (by simpa [MV.lt] using hlt)) h) hv
  | fptr cells off b base vs hb ho hl hc hv ih =>
    intro k ny hlt hk
    simp only [MV.lt] at hlt
    exact .fptr cells off b base vs hb (not_own_pack hp ho) hl hc (fun j hj hj' => ih j hj hj' k ny (lts_at hlt j hj) hk)
  | msl β st sz off len cap rcap hl hlen hcap harr =>
    intro k ny hlt hk
    have hb : β < k := by simpa [MV.lt] using hlt
    rcases pack_live hp (hk β hb) hl with h | h
    · have := RelV.msl (m := m.via inv) (w := w) β st sz off len cap rcap h hlen hcap (by simp only [Emb.via, inv_low hk hb]; exact harr)
      simp only [Emb.via, inv_low hk hb] at this
      exact this
    · exact .mslStale _ _ _ _ _ _ _ h rfl
  | mslStale β st sz off len cap v h hv =>
    intro k ny hlt hk
    exact .mslStale _ _ _ _ _ _ _ (pack_stale hp (hk β (by simpa [MV.lt] using hlt)) h) hv
  | fsl cells len cap b off rcap vs hb ho hlen hcap hl hc hv ih =>
    intro k ny hlt hk
    simp only [MV.lt] at hlt
    exact .fsl cells len cap b off rcap vs hb (not_own_pack hp ho) hlen hcap hl hc (fun j hj hj' => ih j hj hj' k ny (lts_at hlt j hj) hk)
  | map β es h =>
    intro k ny hlt hk
    have hb : β < k := by simpa [MV.lt] using hlt
    obtain ⟨o'', h1, h2⟩ := pack_at hp (hk β hb) h
    cases h2 with
    | dead _ => exact .mapStale _ _ h1 rfl
    | map _ es' hl hc =>
      have := RelV.map (m := m.via inv) (w := w) β es' h1
      simp only [Emb.via, inv_low hk hb] at this
      exact this
  | mapStale β v h hv =>
    intro k ny hlt hk
    have hb : β < k := by simpa [MV.lt] using hlt
    obtain ⟨o'', h1, h2⟩ := pack_at hp (hk β hb) h
    cases h2 with
    | dead _ => exact .mapStale _ _ h1 hv
  | func fn fs cs rfs rcs hfn hf hc h1 h2 ih1 ih2 =>
    intro k ny hlt hk
    simp only [MV.lt, Bool.and_eq_true] at hlt
    exact .func fn fs cs rfs rcs hfn hf hc (fun j hj hj' => ih1 j hj hj' k ny (lts_at hlt.1 j hj) hk) (fun j hj hj' => ih2 j hj hj' k ny (lts_at hlt.2 j hj) hk)
  | yield l h => intros; exact .yield l (by rw [hp.ls]; exact h)
  | iface t v rv h ih =>
    intro k ny hlt hk
    exact .iface t v rv (ih k ny (by simpa [MV.lt] using hlt) hk)
  | agg cs rcs hc h ih =>
    intro k ny hlt hk
    simp only [MV.lt] at hlt
    exact .agg cs rcs hc (fun j hj hj' => ih j hj hj' k ny (lts_at hlt j hj) hk)
  | tuple cs rcs hc h ih =>
    intro k ny hlt hk
    simp only [MV.lt] at hlt
    exact .tuple cs rcs hc (fun j hj hj' => ih j hj hj' k ny (lts_at hlt j hj) hk)
  | any v => intros; exact .any v

theorem Pk.rel {n m s' s'' κ inv w} (hp : Repack n s' s'' κ inv) (hr : RelS m s' w) {v v'} (h : Pk s'.h κ v v') : ∀ {r}, RelV m s' w v r → RelV (m.via inv) s'' w v' r := by
  induction h with
  | same v n ny h hk => intro r hv; exact same_rel hp hv n ny h hk
  | any v => intro r _; exact .any r
  | yield l => intro r hv; cases hv with | yield _ h => exact .yield l (by rw [hp.ls]; exact h)
  | ptr β β' st off h =>
    intro r hv
    have hinv := (hp.to β β' h).2
    cases hv with
    | ptr _ _ _ hl =>
      rcases pack_live hp h hl with h | h
      · have := RelV.ptr (m := m.via inv) (w := w) β' st off h
        simp only [Emb.via, hinv] at this
        exact this
      · exact .ptrStale _ _ _ _ h rfl
    | ptrStale _ _ _ _ hs hv => exact .ptrStale _ _ _ _ (pack_stale hp h hs) hv
  | msl β β' st sz off len cap h =>
    intro r hv
    have hinv := (hp.to β β' h).2
    cases hv with
    | msl _ _ _ _ _ _ rcap hl hlen hcap harr =>
      rcases pack_live hp h hl with h | h
      · have := RelV.msl (m := m.via inv) (w := w) β' st sz off len cap rcap h hlen hcap (by simp only [Emb.via, hinv]; exact harr)
        simp only [Emb.via, hinv] at this
        exact this
      · exact .mslStale _ _ _ _ _ _ _ h rfl
    | mslStale _ _ _ _ _ _ _ hs hv => exact .mslStale _ _ _ _ _ _ _ (pack_stale hp h hs) hv
  | map β β' h =>
    intro r hv
    have hinv := (hp.to β β' h).2
    cases hv with
    | map _ es hm =>
      obtain ⟨o'', h1, h2⟩ := pack_at hp h hm
      cases h2 with
      | dead _ => exact .mapStale _ _ h1 rfl
      | map _ es' hl hc =>
        have := RelV.map (m := m.via inv) (w := w) β' es' h1
        simp only [Emb.via, hinv] at this
        exact this
    | mapStale _ _ hm hv =>
      obtain ⟨o'', h1, h2⟩ := pack_at hp h hm
      cases h2 with
      | dead _ => exact .mapStale _ _ h1 hv
  | ptrF β st off cells cs hk hb hl hc ih =>
    intro r hv
    cases hv with
    | ptr _ _ _ _ =>
      obtain ⟨arr, el, fz, a1, a2, a3, a4, a5⟩ := hr.blk β st cells hb
      have hb0 := blk_heap hr hb
      refine .fptr cs off (m.b β).1 (m.b β).2 ((arr.toList.drop (m.b β).2).take cells.length) hb0 (dropped hp hr hk hb) (by simp; omega) (fun j hj => ?_) (fun j hj hj' => ?_)
      · simp at hj
        have h1 : (m.b β).2 + j < arr.size := by omega
        simp [World.cell?, a1, h1]
      · have hj2 : j < cells.length := by omega
        have := ih j hj2 hj (a4 j hj2 (by omega))
        simpa using this
    | ptrStale _ _ _ _ hs _ =>
      exfalso
      rcases hs with h1 | ⟨st', c, h1, hlt⟩
      · rw [hb] at h1; simp at h1
      · rw [hb] at h1; simp at h1; omega
  | mslF β st sz off len cap k cells cs hk hb hkl hl hc cap' hcap' ih =>
    intro r hv
    cases hv with
    | msl _ _ _ _ _ _ rcap hl' hlen hcap harr =>
      obtain ⟨arr, el, fz, a1, a2, a3, a4, a5⟩ := hr.blk β st cells hb
      have hb0 := blk_heap hr hb
      refine .fsl cs len cap' (m.b β).1 ((m.b β).2 + off) rcap ((arr.toList.drop ((m.b β).2 + off)).take k) hb0 (dropped hp hr hk hb) hlen (fun c hc => ?_) (by simp; omega) (fun j hj => ?_) (fun j hj hj' => ?_)
      · rcases hcap' with rfl | rfl
        · exact hcap c hc
        · simp at hc
      · simp at hj
        have h1 : (m.b β).2 + off + j < arr.size := by omega
        simp [World.cell?, a1, h1]
      · have hj2 : off + j < cells.length := by omega
        have := ih j hj2 hj (a4 (off + j) hj2 (by omega))
        simpa [Nat.add_assoc] using this
    | mslStale _ _ _ _ _ _ _ hs _ =>
      exfalso
      rcases hs with h1 | ⟨st', c, h1, hlt⟩
      · rw [hb] at h1; simp at h1
      · rw [hb] at h1; simp at h1; omega
  | fptr cells cs off hl hc ih =>
    intro r hv
    cases hv with
    | fptr _ _ b base vs hb ho hl' hc' hv => exact .fptr cs off b base vs hb (not_own_pack hp ho) (by omega) hc' (fun j hj hj' => ih j (by omega) hj (hv j (by omega) hj'))
  | fsl cells cs len cap hl hc cap' hcap' ih =>
    intro r hv
    cases hv with
    | fsl _ _ _ b off rcap vs hb ho hlen hcap hl' hc' hv =>
      refine .fsl cs len cap' b off rcap vs hb (not_own_pack hp ho) hlen (fun c hc => ?_) (by omega) hc' (fun j hj hj' => ih j (by omega) hj (hv j (by omega) hj'))
      rcases hcap' with rfl | rfl
      · exact hcap c hc
      · simp at hc
  | func fn fs fs' cs cs' h1 h2 hf hc ihf ihc =>
    intro r hv
    cases hv with
    | func _ _ _ rfs rcs hfn hl1 hl2 hr1 hr2 => exact .func fn fs' cs' rfs rcs hfn (by omega) (by omega) (fun j hj hj' => ihf j (by omega) hj (hr1 j (by omega) hj')) (fun j hj hj' => ihc j (by omega) hj (hr2 j (by omega) hj'))
  | iface t v v' h ih => intro r hv; cases hv with | iface _ _ rv h' => exact .iface t v' rv (ih h')
  | agg cells cs hl hc ih => intro r hv; cases hv with | agg _ rcs hl' h' => exact .agg cs rcs (by omega) (fun j hj hj' => ih j (by omega) hj (h' j (by omega) hj'))
  | tuple cells cs hl hc ih => intro r hv; cases hv with | tuple _ rcs hl' h' => exact .tuple cs rcs (by omega) (fun j hj hj' => ih j (by omega) hj (h' j (by omega) hj'))

theorem Pk.noY {H κ v v'} (h : Pk H κ v v') (hH : ∀ (β st : Nat) (cells : List MV), H[β]? = some (.blk st cells) → ∀ c ∈ cells, c.noY = true) : v.noY = true → v'.noY = true := by
  have lst : ∀ {l l' : List MV}, l.length = l'.length → (∀ j (h : j < l.length) (h' : j < l'.length), l[j].noY = true → l'[j].noY = true) → MV.noY.noYs l = true → MV.noY.noYs l' = true := by
    intro l
    induction l with
    | nil => intro l' hl _ _; cases l' with | nil => rfl | cons _ _ => simp at hl
    | cons a l ih =>
      intro l' hl hj hy
      cases l' with
      | nil => simp at hl
      | cons a' l' =>
        simp only [MV.noY.noYs, Bool.and_eq_true] at hy ⊢
        exact ⟨hj 0 (by simp) (by simp) hy.1, ih (by simpa using hl) (fun j h h' => by
          have := hj (j + 1) (by simp; omega) (by simp; omega)
          simpa only [List.getElem_cons_succ] using this) hy.2⟩
  have all : ∀ {l : List MV}, (∀ c ∈ l, c.noY = true) → MV.noY.noYs l = true := by
    intro l
    induction l with
    | nil => intro _; rfl
    | cons a l ih => intro h; simp only [MV.noY.noYs, Bool.and_eq_true]; exact ⟨h a (by simp), ih fun c hc => h c (by simp [hc])⟩
  induction h with
  | same v n ny h hk => exact id
  | any v => intro _; rfl
  | yield l => exact id
  | ptr => intro _; rfl
  | msl => intro _; rfl
  | map => intro _; rfl
  | ptrF β st off cells cs hk hb hl hc ih => intro _; simp only [MV.noY]; exact lst hl (fun j h h' hy => ih j h h' hy) (all (hH _ _ _ hb))
  | mslF β st sz off len cap k cells cs hk hb hkl hl hc cap' hcap' ih =>
    intro _
    simp only [MV.noY]
    refine all fun c hc' => ?_
    obtain ⟨j, hj, rfl⟩ := List.mem_iff_getElem.1 hc'
    exact ih j (by omega) hj (hH _ _ _ hb _ (List.getElem_mem _))
  | fptr cells cs off hl hc ih => simp only [MV.noY]; exact lst hl (fun j h h' hy => ih j h h' hy)
  | fsl cells cs len cap hl hc cap' hcap' ih => simp only [MV.noY]; exact lst hl (fun j h h' hy => ih j h h' hy)
  | func fn fs fs' cs cs' h1 h2 hf hc ihf ihc => simp only [MV.noY, Bool.and_eq_true]; exact fun h => ⟨lst h1 (fun j h h' hy => ihf j h h' hy) h.1, lst h2 (fun j h h' hy => ihc j h h' hy) h.2⟩
  | iface t v v' h ih => simpa only [MV.noY] using ih
  | agg cells cs hl hc ih => simp only [MV.noY]; exact lst hl (fun j h h' hy => ih j h h' hy)
  | tuple cells cs hl hc ih => simp only [MV.noY]; exact lst hl (fun j h h' hy => ih j h h' hy)

theorem pack_relS {n m s' s'' κ inv w} (hp : Repack n s' s'' κ inv) (hr : RelS m s' w) (hlo : ∀ (l : Nat) (L : MLoop), s'.ls[l]? = some L → ∀ j, j < L.n → (L.env j).lt n l = true) : RelS (m.via inv) s'' w := by
  have hH : ∀ (β st : Nat) (cells : List MV), s'.h[β]? = some (.blk st cells) → ∀ c ∈ cells, c.noY = true := fun β st cells hb c hc => by
    obtain ⟨arr, el, fz, a1, a2, a3, a4, a5⟩ := hr.blk β st cells hb
    obtain ⟨j, hj, rfl⟩ := List.mem_iff_getElem.1 hc
    exact noY_of_lt _ (a5 j hj)
  refine { blk := ?_, map := ?_, loop := ?_, injb := ?_, injm := ?_, injl := ?_, gl := ?_ }
  · intro β st cs hb
    obtain ⟨o', h1, h2⟩ := hp.obj β _ hb
    cases h2 with
    | blk _ cells _ hl hc =>
      obtain ⟨arr, el, fz, a1, a2, a3, a4, a5⟩ := hr.blk _ st cells h1
      refine ⟨arr, el, fz, a1, a2, by simp only [Emb.via]; omega, fun j hj hj' => (hc j (by omega) hj).rel hp hr (a4 j (by omega) hj'), fun j hj => ?_⟩
      have hj' : (m.b (inv β)).2 + j < arr.size := by omega
      exact lt_of_noY _ ((hc j (by omega) hj).rel hp hr (a4 j (by omega) hj')).lt ((hc j (by omega) hj).noY hH (noY_of_lt _ (a5 j (by omega))))
  · intro β es hb
    obtain ⟨o', h1, h2⟩ := hp.obj β _ hb
    cases h2 with
    | map es0 _ hl hc =>
      obtain ⟨res, clock, b1, b2, b3⟩ := hr.map _ es0 h1
      refine ⟨res, clock, b1, by omega, fun j hj hj' => ?_⟩
      obtain ⟨c1, c2⟩ := hc j (by omega) hj
      obtain ⟨d1, d2, d3, d4⟩ := b3 j (by omega) hj'
      exact ⟨c1.rel hp hr d1, c2.rel hp hr d2, lt_of_noY _ (c1.rel hp hr d1).lt (c1.noY hH (noY_of_lt _ d3)), lt_of_noY _ (c2.rel hp hr d2).lt (c2.noY hH (noY_of_lt _ d4))⟩
  · intro l L hl
    rw [hp.ls] at hl
    obtain ⟨R, h1, a1, a2, a3, a4, a5, a6, a7, a8⟩ := hr.loop l L hl
    refine ⟨R, h1, a1, a2, a3, a4, a5, a6, a7, fun j hj => ?_⟩
    have hlt := hlo l L hl j (by omega)
    exact ⟨same_rel hp (a8 j hj).1 n l hlt hp.low, lt_mono hp.len (Nat.le_refl _) _ hlt⟩
  · intro β β' st st' c c' h h' he
    obtain ⟨o1, h1, h2⟩ := hp.obj β _ h
    obtain ⟨o2, h3, h4⟩ := hp.obj β' _ h'
    cases h2 with
    | blk _ cells1 _ _ _ => cases h4 with
      | blk _ cells2 _ _ _ =>
        have := hr.injb _ _ _ _ _ _ h1 h3 he
        have b1 := hp.back β (lt_of_getElem? h)
        have b2 := hp.back β' (lt_of_getElem? h')
        rw [this, b2] at b1
        exact (Option.some.inj b1).symm
  · intro β β' c c' h h' he
    obtain ⟨o1, h1, h2⟩ := hp.obj β _ h
    obtain ⟨o2, h3, h4⟩ := hp.obj β' _ h'
    cases h2 with
    | map es1 _ _ _ => cases h4 with
      | map es2 _ _ _ =>
        have := hr.injm _ _ _ _ h1 h3 he
        have b1 := hp.back β (lt_of_getElem? h)
        have b2 := hp.back β' (lt_of_getElem? h')
        rw [this, b2] at b1
        exact (Option.some.inj b1).symm
  · intro l l' hl hl'
    exact hr.injl l l' (by rw [← hp.ls]; exact hl) (by rw [← hp.ls]; exact hl')
  · intro g c hg
    rw [hp.gl] at hg
    have h := hr.gl g c hg
    exact ⟨same_rel hp h.1 0 0 h.2 (by simp), h.2⟩

theorem pack_ext {m0 s w m s' s'' κ inv w'} (hp : Repack s.h.length s' s'' κ inv) (e : Ext m0 s w m s' w') : Ext m0 s w (m.via inv) s'' w' := by
  have invl : ∀ {β : Nat}, β < s.h.length → inv β = β := fun {β} hb => (hp.to β β (hp.low β hb)).2
  refine { io := e.io, size := e.size, same := e.same, own := fun b hb => e.own b (own_pack hp hb), arr := e.arr, hlen := hp.len, dead := ?_, blk := ?_, map := ?_, llen := by rw [hp.ls]; exact e.llen, leq := by rw [hp.ls]; exact e.leq, ls := e.ls, lst := ?_, gl := hp.gl.trans e.gl }
  · intro β h
    obtain ⟨o'', h1, h2⟩ := pack_at hp (hp.low β (lt_of_getElem? h)) (e.dead β h)
    cases h2 with
    | dead _ => exact h1
  · intro β st c h
    have hb := lt_of_getElem? h
    rcases e.blk β st c h with h1 | ⟨st', c', h1, hle, he⟩
    · obtain ⟨o'', h3, h4⟩ := pack_at hp (hp.low β hb) h1
      cases h4 with
      | dead _ => exact .inl h3
    · obtain ⟨o'', h3, h4⟩ := pack_at hp (hp.low β hb) h1
      cases h4 with
      | dead _ => exact .inl h3
      | blk _ _ cs _ _ => exact .inr ⟨st', cs, h3, hle, fun h => by simp only [Emb.via, invl hb]; exact he h⟩
  · intro β es h
    have hb := lt_of_getElem? h
    rcases e.map β es h with h1 | ⟨es', h1, he⟩
    · obtain ⟨o'', h3, h4⟩ := pack_at hp (hp.low β hb) h1
      cases h4 with
      | dead _ => exact .inl h3
    · obtain ⟨o'', h3, h4⟩ := pack_at hp (hp.low β hb) h1
      cases h4 with
      | dead _ => exact .inl h3
      | map _ es'' _ _ => exact .inr ⟨es'', h3, by simp only [Emb.via, invl hb]; exact he⟩
  · intro l L hl
    obtain ⟨L', h1, h2⟩ := e.lst l L hl
    exact ⟨L', by rw [hp.ls]; exact h1, h2⟩

/-- **A call's result and what it left, told anew.** -/
theorem mpack {P : Program} {f : FuncId} {args : List MV} {s : MSt} {K : MV → MSt → Prop}
    (h : MCalls P f args s fun r' s' => ∃ r s'' κ inv, Repack s.h.length s' s'' κ inv ∧ s'.ls = s.ls ∧ Pk s'.h κ r' r ∧ K r s'') : MCalls P f args s K := by
  intro m w rargs hr ha
  refine (h m w rargs hr ha).mono ?_
  rintro v w' ⟨m', s', r', ⟨r, s'', κ, inv, h1, h2, h3, h4⟩, g2, g3, g4⟩
  refine ⟨m'.via inv, s'', r, h4, pack_relS h1 g2 (fun l L hl j hj => ?_), h3.rel h1 g2 g3, pack_ext h1 g4⟩
  rw [h2] at hl
  obtain ⟨R, a0, a1, a2, a3, a4, a5, a6, a7, a8⟩ := hr.loop l L hl
  exact (a8 j (by omega)).2

/-- The new store is the old one: all new blocks are dropped. -/
theorem repack_drop {s s' : MSt} (extra : List MObj) (h1 : s'.h = s.h ++ extra) (h2 : s'.ls = s.ls) (h3 : s'.gl = s.gl) (hold : ∀ β, β < s.h.length → ∀ o, s.h[β]? = some o → PkO s'.h (fun β => if β < s.h.length then some β else none) o o) :
    Repack s.h.length s' s (fun β => if β < s.h.length then some β else none) id where
  ls := h2.symm
  gl := h3.symm
  len := Nat.le_refl _
  low := fun β hb => by simp [hb]
  to := fun β β' h => by
    split at h
    · rename_i hb; simp only [Option.some.injEq] at h; subst h; exact ⟨hb, rfl⟩
    · simp at h
  back := fun β hb => by simp [hb]
  obj := fun β o h => by
    have hb := lt_of_getElem? h
    refine ⟨o, ?_, hold β hb o h⟩
    rw [h1, id, List.getElem?_append, if_pos hb]; exact h

/-- **A call that leaves nothing behind but its result.** -/
theorem mfreeze {P : Program} {f : FuncId} {args : List MV} {s : MSt} {K : MV → MSt → Prop}
    (h : MCalls P f args s fun r' s' => ∃ r extra, s'.h = s.h ++ extra ∧ s'.ls = s.ls ∧ s'.gl = s.gl ∧ Pk s'.h (fun β => if β < s.h.length then some β else none) r' r ∧ K r s) : MCalls P f args s K := by
  intro m w rargs hr ha
  refine (h m w rargs hr ha).mono ?_
  rintro v w' ⟨m', s', r', ⟨r, extra, h1, h2, h3, h4, h5⟩, g2, g3, g4⟩
  have hk : ∀ β, β < s.h.length → (fun β => if β < s.h.length then some β else none) β = some β := fun β hb => by simp [hb]
  have hp := repack_drop extra h1 h2 h3 fun β hb o ho => by
    cases o with
    | dead => exact .dead _
    | ghost => exact .ghost
    | blk st cells =>
      obtain ⟨arr, el, fz, a1, a2, a3, a4, a5⟩ := hr.blk β st cells ho
      exact .blk st cells cells rfl fun j hj _ => .same _ _ _ (a5 j hj) hk
    | map es =>
      obtain ⟨res, clock, b1, b2, b3⟩ := hr.map β es ho
      exact .map es es rfl fun j hj _ => ⟨.same _ _ _ (b3 j hj (by omega)).2.2.1 hk, .same _ _ _ (b3 j hj (by omega)).2.2.2 hk⟩
  refine ⟨m'.via id, s, r, h5, pack_relS hp g2 (fun l L hl j hj => ?_), h4.rel hp g2 g3, pack_ext hp g4⟩
  rw [h2] at hl
  obtain ⟨R, a0, a1, a2, a3, a4, a5, a6, a7, a8⟩ := hr.loop l L hl
  exact (a8 j (by omega)).2

end Go.Mir

/- Words for the walk in the mirror. -/
namespace Go.Mir

def isCallV : Op → Bool
  | .call c => (match c.callee with | .value _ => true | _ => false)
  | _ => false

section
variable {P : Program} {N : Nat} {rd : Option Nat} {Q : Exit → (Nat → MV) → MSt → Prop} {env : Nat → MV} {s : MSt}

theorem mthen_normal {next : (Nat → MV) → MSt → Prop} (h : next env s) : mthen next Q .normal env s := h
theorem mthen_ret {next : (Nat → MV) → MSt → Prop} (h : Q .ret env s) : mthen next Q .ret env s := h
theorem mthen_exit {next : (Nat → MV) → MSt → Prop} {id : Nat} (h : Q (.exit id) env s) : mthen next Q (.exit id) env s := h
theorem mcatch_normal {id : Nat} (h : Q .normal env s) : mcatch id Q .normal env s := h
theorem mcatch_ret {id : Nat} (h : Q .ret env s) : mcatch id Q .ret env s := h
theorem mcatch_exit {id : Nat} (h : Q .normal env s) : mcatch id Q (.exit id) env s := by simp only [mcatch, if_true]; exact h
theorem mcatch_other {id id' : Nat} (hne : (id' == id) = false) (h : Q (.exit id') env s) : mcatch id Q (.exit id') env s := by
  have : ¬ id' = id := by simpa using hne
  simp only [mcatch, if_neg this]; exact h

theorem mcond_true {c : Operand} {x y : Code} (hc : mev s env c = .bool true) (h : MCode P N rd x Q env s) : MCode P N rd (.cond c x y) Q env s :=
  mcond hc (fun _ => h) (fun h => by cases h)
theorem mcond_false {c : Operand} {x y : Code} (hc : mev s env c = .bool false) (h : MCode P N rd y Q env s) : MCode P N rd (.cond c x y) Q env s :=
  mcond hc (fun h => by cases h) (fun _ => h)

theorem mops_end {K : (Nat → MV) → MSt → Prop} (h : K env s) : mops P K [] env s := h
theorem mops_cons {K : (Nat → MV) → MSt → Prop} {d : Option Nat} {o : Op} {os : List POp} (h : MOper P o env s fun v s' => mops P K os (updo env d v) s') : mops P K (⟨d, o, none⟩ :: os) env s := h
theorem mops_skip {K : (Nat → MV) → MSt → Prop} {d : Option Nat} {o : Op} {os : List POp} {g : Option Nat × Bool} (hw : mwant env (some g) = some false) (h : mops P K os (updo env d .undef) s) : mops P K (⟨d, o, some g⟩ :: os) env s := by
  simp only [mops, hw]; exact h
theorem mops_do {K : (Nat → MV) → MSt → Prop} {d : Option Nat} {o : Op} {os : List POp} {g : Option Nat × Bool} (hw : mwant env (some g) = some true) (h : MOper P o env s fun v s' => mops P K os (updo env d v) s') : mops P K (⟨d, o, some g⟩ :: os) env s := by
  simp only [mops, hw]; exact h
/-- A guarded operation, both ways parted. -/
theorem mops_part {K : (Nat → MV) → MSt → Prop} {d : Option Nat} {o : Op} {os : List POp} {g : Option Nat × Bool} {b : Bool} (hw : mwant env (some g) = some b)
    (ht : b = true → MOper P o env s fun v s' => mops P K os (updo env d v) s') (hf : b = false → mops P K os (updo env d .undef) s) : mops P K (⟨d, o, some g⟩ :: os) env s := by
  cases b
  · exact mops_skip hw (hf rfl)
  · exact mops_do hw (ht rfl)

/-- An operation that is no call. -/
theorem moper {op : Op} {K : MV → MSt → Prop} {v : MV} {s' : MSt} (hc : isCallV op = false) (h : mop P op (mev s env) s = some (v, s')) (hk : K v s') : MOper P op env s K := by
  unfold MOper
  split
  · split
    · rename_i hcc; simp only [isCallV, hcc] at hc; cases hc
    · rw [h]; exact .inl hk
  · rw [h]; exact hk

/-- A guarded operation that only reckons, both ways in one. -/
theorem mops_ite {K : (Nat → MV) → MSt → Prop} {d : Option Nat} {o : Op} {os : List POp} {g : Option Nat × Bool} {b : Bool} {v : MV} (hw : mwant env (some g) = some b)
    (hc : isCallV o = false) (h : b = true → mop P o (mev s env) s = some (v, s))
    (hk : mops P K os (updo env d (if b then v else .undef)) s) : mops P K (⟨d, o, some g⟩ :: os) env s := by
  refine mops_part hw (fun hb => moper hc (h hb) ?_) (fun hb => ?_)
  · rw [hb] at hk; exact hk
  · rw [hb] at hk; exact hk

/-- A call of a function that is named. -/
theorem mcallop {c : Call} {f : Operand} {K : MV → MSt → Prop} {n : FuncId} {first cap args : List MV} (hcal : c.callee = .value f) (hf : mev s env f = .func (.func n) first cap) (ha : c.args.toList.map (mev s env) = args)
    (h : MCalls P n (first ++ args ++ cap) s K) : MOper P (.call c) env s K := by
  unfold MOper
  simp only
  split
  · rename_i f' hf'
    rw [hcal] at hf'
    cases hf'
    rw [hf, ha]; exact h
  · rename_i hne; exact absurd hcal (hne _)
/-- A call of a function value. -/
theorem mcallval {c : Call} {f : Operand} {K : MV → MSt → Prop} {fv : MV} {args : List MV} (hcal : c.callee = .value f) (hf : mev s env f = fv) (ha : c.args.toList.map (mev s env) = args)
    (h : MInv P fv args s K) : MOper P (.call c) env s K := by
  unfold MOper
  simp only
  split
  · rename_i f' hf'
    rw [hcal] at hf'
    cases hf'
    rw [hf, ha]; exact h
  · rename_i hne; exact absurd hcal (hne _)

end

theorem mwant_true {env : Nat → MV} {t : Nat} {x : Bool} (h : env t = .bool x) : mwant env (some (some t, true)) = some x := by simp [mwant, h]
theorem mwant_false {env : Nat → MV} {t : Nat} {x : Bool} (h : env t = .bool x) : mwant env (some (some t, false)) = some (!x) := by simp [mwant, h]

theorem ite_and (b q : Bool) : (if b = true then MV.bool q else MV.bool false) = .bool (b && q) := by cases b <;> rfl
theorem ite_or (b q : Bool) : (if b = true then MV.bool true else MV.bool q) = .bool (b || q) := by cases b <;> rfl
theorem ite_or' (b q : Bool) (v : MV) : (if b = true then MV.bool true else if (!b) = true then MV.bool q else v) = .bool (b || q) := by cases b <;> rfl
theorem ite_and' (b q : Bool) (v : MV) : (if b = true then (if b = true then MV.bool q else v) else MV.bool false) = .bool (b && q) := by cases b <;> rfl

end Go.Mir

/- Stores in one form: what was there, and new blocks in a row behind it. -/
namespace Go.Mir

def MSt.ext (s : MSt) (l : List MObj) : MSt := { s with h := s.h ++ l }

theorem push_ext (s : MSt) (o : MObj) : s.push o = s.ext [o] := rfl
theorem ext_ext (s : MSt) (l l' : List MObj) : (s.ext l).ext l' = s.ext (l ++ l') := by simp [MSt.ext]
theorem ext_nil (s : MSt) : s.ext [] = s := by simp [MSt.ext]
theorem ext_len (s : MSt) (l : List MObj) : (s.ext l).h.length = s.h.length + l.length := by simp [MSt.ext]
theorem ext_ls (s : MSt) (l : List MObj) : (s.ext l).ls = s.ls := rfl
theorem ext_gl (s : MSt) (l : List MObj) : (s.ext l).gl = s.gl := rfl
theorem ext_h (s : MSt) (l : List MObj) : (s.ext l).h = s.h ++ l := rfl
theorem ext_at (s : MSt) (l : List MObj) (k : Nat) : (s.h ++ l)[s.h.length + k]? = l[k]? := by
  rw [List.getElem?_append_right (by omega)]
  congr 1; omega
theorem ext_at0 (s : MSt) (l : List MObj) : (s.h ++ l)[s.h.length]? = l[0]? := ext_at s l 0
theorem ext_old (s : MSt) (l : List MObj) (β : Nat) (h : β < s.h.length) : (s.h ++ l)[β]? = s.h[β]? := List.getElem?_append_left h
theorem ext_put (s : MSt) (l : List MObj) (k : Nat) (o : MObj) : (s.ext l).put (s.h.length + k) o = s.ext (l.set k o) := by
  have : (s.h ++ l).set (s.h.length + k) o = s.h ++ l.set k o := by
    rw [List.set_append_right _ _ (by omega)]
    congr 2; omega
  simp only [MSt.put, MSt.ext, this]
theorem ext_put0 (s : MSt) (l : List MObj) (o : MObj) : (s.ext l).put s.h.length o = s.ext (l.set 0 o) := ext_put s l 0 o
theorem ext_put_old (s : MSt) (l : List MObj) (β : Nat) (o : MObj) (h : β < s.h.length) : (s.ext l).put β o = (s.put β o).ext l := by
  simp only [MSt.put, MSt.ext, List.set_append_left _ _ h]
theorem put_len (s : MSt) (β : Nat) (o : MObj) : (s.put β o).h.length = s.h.length := by simp [MSt.put]
theorem put_ls (s : MSt) (β : Nat) (o : MObj) : (s.put β o).ls = s.ls := rfl
theorem put_gl (s : MSt) (β : Nat) (o : MObj) : (s.put β o).gl = s.gl := rfl
theorem put_same (s : MSt) (β : Nat) (o : MObj) (h : β < s.h.length) : (s.put β o).h[β]? = some o := by rw [put_get _ _ _ _ h, if_pos rfl]
theorem put_other (s : MSt) (β γ : Nat) (o : MObj) (h : γ ≠ β) : (s.put β o).h[γ]? = s.h[γ]? := by
  simp only [MSt.put, List.getElem?_set, if_neg (Ne.symm h)]

theorem pushL_h (s : MSt) (L : MLoop) : (s.pushL L).h = s.h := rfl
theorem pushL_gl (s : MSt) (L : MLoop) : (s.pushL L).gl = s.gl := rfl
theorem ext_pushL (s : MSt) (l : List MObj) (L : MLoop) : (s.ext l).pushL L = (s.pushL L).ext l := rfl
theorem put_pushL (s : MSt) (β : Nat) (o : MObj) (L : MLoop) : (s.put β o).pushL L = (s.pushL L).put β o := rfl

theorem bytes_flat (l : List UInt8) : (mbytes l).all MV.flat = true := by simp [mbytes, mbyte, MV.flat, MV.noY]
theorem bytes_len (l : List UInt8) : (mbytes l).length = l.length := by simp [mbytes]
theorem bytes_at (l : List UInt8) (i : Nat) : (mbytes l)[i]? = (l[i]?).map mbyte := by simp [mbytes]
theorem bytes_drop (l : List UInt8) (i : Nat) : (mbytes l).drop i = mbytes (l.drop i) := by simp [mbytes]
theorem bytes_take (l : List UInt8) (i : Nat) : (mbytes l).take i = mbytes (l.take i) := by simp [mbytes]
theorem bytes_append (l l' : List UInt8) : mbytes l ++ mbytes l' = mbytes (l ++ l') := by simp [mbytes]
theorem bytes_lt (l : List UInt8) (a b : Nat) : MV.lt.lts a b (mbytes l) = true := by
  rw [lts_iff]; intro v hv; simp [mbytes] at hv; obtain ⟨x, _, rfl⟩ := hv; rfl
theorem bytes_noY (l : List UInt8) : MV.noY.noYs (mbytes l) = true := by
  induction l with
  | nil => rfl
  | cons a l ih => simp only [mbytes, List.map_cons, MV.noY.noYs, Bool.and_eq_true] at ih ⊢; exact ⟨rfl, ih⟩

/-- A slice of bytes that stays as it is. -/
abbrev MV.bytes (l : List UInt8) : MV := .fsl (mbytes l) l.length none

end Go.Mir

/- Regions that draw their order, in the mirror: one order is walked, a check shows that all come to the same. -/
namespace Go.Mir

def tmpsOf (o : Op) : List Nat := o.operands.toList.filterMap fun | .tmp t => some t | _ => none

theorem mev_congr {s : MSt} {env env' : Nat → MV} {o : Op} (h : ∀ t ∈ tmpsOf o, env t = env' t) : ∀ x ∈ o.operands, mev s env x = mev s env' x := by
  intro x hx
  cases x with
  | tmp t => exact h t (List.mem_filterMap.2 ⟨.tmp t, by simpa using hx, rfl⟩)
  | _ => rfl

theorem map_congr_mem {α β : Type} {f g : α → β} : ∀ {l : List α}, (∀ x ∈ l, f x = g x) → l.map f = l.map g
  | [], _ => rfl
  | x :: l, h => by rw [List.map_cons, List.map_cons, h x (by simp), map_congr_mem fun y hy => h y (by simp [hy])]

theorem optmap_congr {α β : Type} {f g : α → β} {o : Option α} (h : ∀ x ∈ o.toList, f x = g x) : o.map f = o.map g := by
  cases o with
  | none => rfl
  | some x => simp [h x (by simp)]

theorem MOper.congr {P : Program} {o : Op} {env env' : Nat → MV} {s : MSt} {K : MV → MSt → Prop} (h : ∀ t ∈ tmpsOf o, env t = env' t) (hm : MOper P o env s K) : MOper P o env' s K := by
  have h1 := mev_congr (s := s) h
  unfold MOper at *
  rw [← mop_congr h1]
  split
  · rename_i c
    simp only at hm ⊢
    split
    · rename_i f hc
      simp only [hc] at hm
      have e1 : mev s env' f = mev s env f := (h1 f (by simp [Op.operands, Call.operands, hc])).symm
      have e2 : c.args.toList.map (mev s env') = c.args.toList.map (mev s env) := (map_congr_mem fun p hp => h1 p (by simp only [Op.operands, Call.operands, hc]; simp; right; simpa using hp)).symm
      rw [e1, e2]; exact hm
    · rename_i hc
      split at hm
      · rename_i f hf; exact absurd hf (hc f)
      · refine hm.imp id ?_
        rintro ⟨hcal, β, t, xt, x, y, v, s', ht, hxt, hxy, hg⟩
        refine ⟨hcal, β, t, xt, x, y, v, s', ht, hxt, ?_, hg⟩
        rw [← hxy]
        exact (map_congr_mem fun p hp => h1 p (by simp only [Op.operands, Call.operands, hcal]; simpa using hp)).symm
  · rename_i hne
    split at hm
    · rename_i c
      exact absurd rfl (hne c)
    · exact hm

theorem mwant_congr {env env' : Nat → MV} {g : Option (Option Nat × Bool)} (h : ∀ t b, g = some (some t, b) → env t = env' t) : mwant env g = mwant env' g := by
  cases g with
  | none => rfl
  | some g =>
    obtain ⟨t, b⟩ := g
    cases t with
    | none => rfl
    | some t => simp only [mwant, h t b rfl]


/-! ### The static side -/
def popAt (ops : Array Oper) (i : Nat) : POp := match ops[i]? with
  | some o => ⟨o.dst, o.op, o.guard.map fun g => ((ops[g.1]?).bind (·.dst), g.2)⟩
  | none => ⟨none, .alloc 0, some (none, true)⟩

def dstOf (ops : Array Oper) (k : Nat) : Option Nat := (ops[k]?).bind (·.dst)
def writer (ops : Array Oper) (t : Nat) : Option Nat := (List.range ops.size).find? fun k => dstOf ops k == some t
def onsOf (o : Oper) : List Nat := (o.after.toList.filter (Region.binds .any)).map (·.on)
def preds (ops : Array Oper) (i : Nat) : List Nat := match ops[i]? with | some o => onsOf o | none => []
/-- What an operation looks at: its operands' temporaries, and its guard's. -/
def readsOf (p : POp) : List Nat := tmpsOf p.op ++ (match p.g with | some (some t, _) => [t] | _ => [])
def A (am : List Nat) (i k : Nat) : Bool := (am.getD i 0).testBit k

/-- The table of those ahead. -/
def okAm (ops : Array Oper) (am : List Nat) : Bool :=
  (List.range ops.size).all fun i => ((preds ops i).all fun j => j < i) &&
    (am.getD i 0 == (am.getD i 0 &&& (preds ops i).foldl (fun x j => x ||| (2 ^ j) ||| am.getD j 0) 0))
/-- What each looks at is set ahead of it, or behind it; and is set once. -/
def okReads (ops : Array Oper) (am : List Nat) : Bool :=
  (List.range ops.size).all fun i => ((readsOf (popAt ops i)).all fun t => match writer ops t with
      | none => true
      | some k => A am i k || k == i || A am k i) &&
    (match dstOf ops i with | some t => writer ops t == some i | none => true)

structure DOp where
  i : Nat
  w : Bool
  ob : List Nat

/-- The order that is walked: each behind those ahead of it; each behind a writer has it ahead; whose value stands across a writer is named there. -/
def okOrd (ops : Array Oper) (am : List Nat) : (done ws : Nat) → List DOp → Bool
  | done, _, [] => (List.range ops.size).all fun i => done.testBit i
  | done, ws, d :: rest =>
    decide (d.i < ops.size) && !done.testBit d.i && ((preds ops d.i).all fun j => done.testBit j) && (am.getD d.i 0 &&& ws == ws) &&
    (!d.w || (((List.range ops.size).all fun k => !done.testBit k || A am d.i k || d.ob.contains k) &&
      (d.ob.all fun k => done.testBit k && (dstOf ops k).isSome && (readsOf (popAt ops k)).all fun t => match writer ops t with
        | none => true
        | some j => A am k j || !done.testBit j))) &&
    okOrd ops am (done ||| 2 ^ d.i) (if d.w then ws ||| 2 ^ d.i else ws) rest

def okDraw (ops : Array Oper) (am : List Nat) (ord : List DOp) : Bool := okAm ops am && okReads ops am && okOrd ops am 0 0 ord

/-! ### The walk -/
/-- An operation comes to v, and leaves the store. -/
def Yld (P : Program) (p : POp) (env : Nat → MV) (s : MSt) (v : MV) : Prop :=
  (mwant env p.g = some true ∧ MOper P p.op env s fun r s' => r = v ∧ s' = s) ∨ (mwant env p.g = some false ∧ v = .undef)

structure DP where
  p : POp
  w : Bool
  ob : List POp

def prepD (ops : Array Oper) (ord : List DOp) : List DP := ord.map fun d => ⟨popAt ops d.i, d.w, d.ob.map (popAt ops)⟩

def Stay (P : Program) (env : Nat → MV) (s : MSt) (p : POp) : Prop := match p.dst with
  | some t => Yld P p env s (env t)
  | none => ∃ v, Yld P p env s v

def mopsD (P : Program) (K : (Nat → MV) → MSt → Prop) : List DP → (Nat → MV) → MSt → Prop
  | [], env, s => K env s
  | ⟨p, false, _⟩ :: rest, env, s => ∃ v, Yld P p env s v ∧ mopsD P K rest (updo env p.dst v) s
  | ⟨p, true, ob⟩ :: rest, env, s => match mwant env p.g with
    | some true => MOper P p.op env s fun v s' => (∀ q ∈ ob, Stay P env s' q) ∧ mopsD P K rest (updo env p.dst v) s'
    | some false => mopsD P K rest (updo env p.dst .undef) s
    | none => False

/-! ### The proof -/
theorem Yld.congr {P : Program} {p : POp} {env env' : Nat → MV} {s : MSt} {v : MV} (h : ∀ t ∈ readsOf p, env t = env' t) (hy : Yld P p env s v) : Yld P p env' s v := by
  have h1 : mwant env p.g = mwant env' p.g := mwant_congr fun t b hg => h t (by simp [readsOf, hg])
  have h2 : ∀ t ∈ tmpsOf p.op, env t = env' t := fun t ht => h t (by simp [readsOf, ht])
  rcases hy with ⟨a, b⟩ | ⟨a, b⟩
  · exact .inl ⟨h1 ▸ a, b.congr h2⟩
  · exact .inr ⟨h1 ▸ a, b⟩

def cenv (ops : Array Oper) (env0 : Nat → MV) (val : Nat → MV) (L : Nat → Bool) : Nat → MV := fun t => match writer ops t with
  | some k => if L k then val k else env0 t
  | none => env0 t

theorem writer_spec {ops : Array Oper} {t k : Nat} (h : writer ops t = some k) : k < ops.size ∧ dstOf ops k = some t := by
  have h1 := List.find?_some h
  have h2 := List.mem_of_find?_eq_some h
  exact ⟨by simpa using h2, by simpa using h1⟩

structure Okd (ops : Array Oper) (am : List Nat) : Prop where
  lt : ∀ i < ops.size, ∀ j ∈ preds ops i, j < i
  aa : ∀ i < ops.size, ∀ k, A am i k = true → ∃ j ∈ preds ops i, k = j ∨ A am j k = true
  rd : ∀ i < ops.size, ∀ t ∈ readsOf (popAt ops i), ∀ k, writer ops t = some k → A am i k = true ∨ k = i ∨ A am k i = true
  wr : ∀ i < ops.size, ∀ t, dstOf ops i = some t → writer ops t = some i

theorem testBit_fold {am : List Nat} {k : Nat} : ∀ (l : List Nat) (x : Nat), (l.foldl (fun x j => x ||| (2 ^ j) ||| am.getD j 0) x).testBit k = true → x.testBit k = true ∨ ∃ j ∈ l, k = j ∨ A am j k = true
  | [], x, h => .inl h
  | j :: l, x, h => by
    rcases testBit_fold l _ h with h | ⟨j', h1, h2⟩
    · simp only [Nat.testBit_or, Bool.or_eq_true, Nat.testBit_two_pow, decide_eq_true_eq] at h
      rcases h with (h | h) | h
      · exact .inl h
      · exact .inr ⟨j, by simp, .inl h.symm⟩
      · exact .inr ⟨j, by simp, .inr h⟩
    · exact .inr ⟨j', by simp [h1], h2⟩

theorem okd_of {ops : Array Oper} {am : List Nat} (h1 : okAm ops am = true) (h2 : okReads ops am = true) : Okd ops am := by
  simp only [okAm, okReads, List.all_eq_true, List.mem_range, Bool.and_eq_true, decide_eq_true_eq, beq_iff_eq] at h1 h2
  refine ⟨fun i hi => (h1 i hi).1, fun i hi k hk => ?_, fun i hi t ht k hw => ?_, fun i hi t hd => ?_⟩
  · have := (h1 i hi).2
    unfold A at hk
    rw [this, Nat.testBit_and, Bool.and_eq_true] at hk
    rcases testBit_fold _ _ hk.2 with h | h
    · simp at h
    · exact h
  · have := (h2 i hi).1 t ht
    rw [hw] at this
    simp only [Bool.or_eq_true, beq_iff_eq] at this
    rcases this with (h | h) | h
    · exact .inl h
    · exact .inr (.inl h)
    · exact .inr (.inr h)
  · have := (h2 i hi).2
    rw [hd] at this
    simpa using this

def Closed (ops : Array Oper) (L : Nat → Bool) : Prop := ∀ i < ops.size, L i = true → ∀ j ∈ preds ops i, L j = true

theorem anc_in {ops am} (hk : Okd ops am) {L : Nat → Bool} (hL : Closed ops L) : ∀ i, i < ops.size → (∀ j ∈ preds ops i, L j = true) → ∀ k, A am i k = true → L k = true := by
  intro i
  induction i using Nat.strongRecOn with
  | _ i ih =>
    intro hi hp k hA
    obtain ⟨j, hj, h⟩ := hk.aa i hi k hA
    have hjl := hp j hj
    have hji := hk.lt i hi j hj
    rcases h with rfl | h
    · exact hjl
    · exact ih j hji (by omega) (hL j (by omega) hjl) k h

def setL (L : Nat → Bool) (i : Nat) : Nat → Bool := fun k => if k = i then true else L k
def setV (val : Nat → MV) (i : Nat) (v : MV) : Nat → MV := fun k => if k = i then v else val k

theorem cenv_val {ops env0 val val' L} (h : ∀ k, L k = true → val k = val' k) : cenv ops env0 val L = cenv ops env0 val' L := by
  funext t
  unfold cenv
  split
  · split
    · exact h _ (by assumption)
    · rfl
  · rfl

theorem cenv_put {ops am env0 val L i v} (hk : Okd ops am) (hi : i < ops.size) (hv : val i = v) : updo (cenv ops env0 val L) (dstOf ops i) v = cenv ops env0 val (setL L i) := by
  funext t
  cases hd : dstOf ops i with
  | none =>
    simp only [updo, cenv]
    split
    · rename_i k hw
      have : k ≠ i := fun e => by
        have := (writer_spec hw).2
        rw [e, hd] at this; cases this
      simp [setL, this]
    · rfl
  | some d =>
    simp only [updo, upd]
    by_cases ht : t = d
    · subst ht
      simp only [if_true, cenv, hk.wr i hi t hd, setL]
      exact hv.symm
    · simp only [ht, if_false, cenv]
      split
      · rename_i k hw
        have : k ≠ i := fun e => by
          have h1 := (writer_spec hw).2
          rw [e, hd] at h1
          exact ht (by simpa using h1.symm)
        simp [setL, this]
      · rfl

/-- On what an operation looks at, all sets that have those ahead of it, and none behind, agree. -/
theorem cenv_reads {ops am env0 val L i} (_ : i < ops.size) (h1 : ∀ k, A am i k = true → L k = true)
    (h2 : ∀ t ∈ readsOf (popAt ops i), ∀ k, writer ops t = some k → A am i k = false → L k = false) :
    ∀ t ∈ readsOf (popAt ops i), cenv ops env0 val L t = cenv ops env0 val (A am i) t := by
  intro t ht
  unfold cenv
  split
  · rename_i k hw
    cases hA : A am i k with
    | true => rw [h1 k hA]
    | false => rw [h2 t ht k hw hA]
  · rfl

theorem out_of {ops am L i} (hk : Okd ops am) (hi : i < ops.size) (hL : Closed ops L) (hn : L i = false) : ∀ t ∈ readsOf (popAt ops i), ∀ k, writer ops t = some k → A am i k = false → L k = false := by
  intro t ht k hw hA
  rcases hk.rd i hi t ht k hw with h | rfl | h
  · rw [h] at hA; cases hA
  · exact hn
  · cases hl : L k with
    | false => rfl
    | true =>
      have hks := (writer_spec hw).1
      have := anc_in hk hL k hks (hL k hks hl) i h
      rw [hn] at this; cases this

/-- Where a walk and a run stand: D is what the walk has done, L what the run. -/
structure DI (P : Program) (ops : Array Oper) (am : List Nat) (K : (Nat → MV) → MSt → Prop) (env0 : Nat → MV) (D : Nat → Bool) (dm ws : Nat) (val : Nat → MV) (rest : List DOp) (S : MSt) (L : Nat → Bool) : Prop where
  dd : ∀ i < ops.size, D i = dm.testBit i
  dc : Closed ops D
  lc : Closed ops L
  ld : ∀ i, L i = true → D i = true
  dn : ∀ i, D i = true → i < ops.size
  st : ∀ i, D i = true → L i = false → Yld P (popAt ops i) (cenv ops env0 val (A am i)) S (val i)
  ok : okOrd ops am dm ws rest = true
  w : mopsD P K (prepD ops rest) (cenv ops env0 val D) S

theorem popAt_dst {ops : Array Oper} {i : Nat} (hi : i < ops.size) : (popAt ops i).dst = dstOf ops i := by simp [popAt, dstOf, hi]

theorem okOrd_cons {ops am dm ws d rest} (h : okOrd ops am dm ws (d :: rest) = true) : d.i < ops.size ∧ dm.testBit d.i = false ∧ (∀ j ∈ preds ops d.i, dm.testBit j = true) ∧ (∀ k, ws.testBit k = true → A am d.i k = true) ∧
    (d.w = true → (∀ k < ops.size, dm.testBit k = true → A am d.i k = false → k ∈ d.ob) ∧ ∀ k ∈ d.ob, (dm.testBit k = true ∧ (dstOf ops k).isSome = true) ∧ ∀ t ∈ readsOf (popAt ops k), ∀ j, writer ops t = some j → A am k j = false → dm.testBit j = false) ∧
    okOrd ops am (dm ||| 2 ^ d.i) (if d.w then ws ||| 2 ^ d.i else ws) rest = true := by
  simp only [okOrd, Bool.and_eq_true, decide_eq_true_eq, Bool.not_eq_true', List.all_eq_true, beq_iff_eq, Bool.or_eq_true, List.mem_range, List.contains_iff_mem] at h
  obtain ⟨⟨⟨⟨⟨h1, h2⟩, h3⟩, h4⟩, h5⟩, h6⟩ := h
  refine ⟨h1, h2, h3, fun k hk => ?_, fun hw => ?_, h6⟩
  · rw [← h4, Nat.testBit_and, Bool.and_eq_true] at hk
    exact hk.1
  · rcases h5 with h5 | ⟨h5, h7⟩
    · rw [hw] at h5; cases h5
    · refine ⟨fun k hk hd hA => ?_, fun k hk => ⟨(h7 k hk).1, fun t ht j hj hA => ?_⟩⟩
      · rcases h5 k hk with (h | h) | h
        · rw [hd] at h; cases h
        · rw [hA] at h; cases h
        · exact h
      · have := (h7 k hk).2 t ht
        rw [hj] at this
        simp only [Bool.or_eq_true, Bool.not_eq_true'] at this
        rcases this with h | h
        · rw [hA] at h; cases h
        · exact h

theorem bit_set {dm i k : Nat} : (dm ||| 2 ^ i).testBit k = (dm.testBit k || decide (i = k)) := by simp [Nat.testBit_or, Nat.testBit_two_pow]

theorem setL_bit {n dm i : Nat} {D : Nat → Bool} (h : ∀ k < n, D k = dm.testBit k) : ∀ k < n, setL D i k = (dm ||| 2 ^ i).testBit k := by
  intro k hk
  rw [bit_set, setL]
  by_cases e : k = i
  · subst e; simp
  · have : ¬ i = k := fun e' => e e'.symm
    simp [e, this, h k hk]

theorem closed_set {ops : Array Oper} {L : Nat → Bool} {i : Nat} (hL : Closed ops L) (hp : ∀ j ∈ preds ops i, L j = true) : Closed ops (setL L i) := by
  intro k hk hl j hj
  unfold setL at hl ⊢
  split
  · rfl
  · by_cases e : k = i
    · subst e; exact hp j hj
    · rw [if_neg e] at hl; exact hL k hk hl j hj

/-- The walk goes on to the next writer. -/
theorem absorb {P ops am K env0 S L} (hk : Okd ops am) : ∀ (rest : List DOp) (D : Nat → Bool) (dm ws : Nat) (val : Nat → MV), DI P ops am K env0 D dm ws val rest S L →
    ∃ D' dm' val' rest', DI P ops am K env0 D' dm' ws val' rest' S L ∧ (∀ d ∈ rest'.head?, d.w = true) ∧ (∀ k, L k = true → val' k = val k)
  | [], D, dm, ws, val, h => ⟨D, dm, val, [], h, by simp, fun _ _ => rfl⟩
  | ⟨i, true, ob⟩ :: rest, D, dm, ws, val, h => ⟨D, dm, val, _, h, by simp, fun _ _ => rfl⟩
  | ⟨i, false, ob⟩ :: rest, D, dm, ws, val, h => by
    obtain ⟨o1, o2, o3, o4, _, o6⟩ := okOrd_cons h.ok
    simp only at o1 o2 o3 o4 o6
    have hw := h.w
    simp only [prepD, List.map_cons, mopsD] at hw
    obtain ⟨v, hy, hw⟩ := hw
    have hDi : D i = false := by rw [h.dd i o1]; exact o2
    have hLi : L i = false := by
      cases hl : L i with
      | false => rfl
      | true => rw [h.ld i hl] at hDi; cases hDi
    have hpD : ∀ j ∈ preds ops i, D j = true := fun j hj => by
      have hjs : j < ops.size := by have := hk.lt i o1 j hj; omega
      rw [h.dd j hjs]; exact o3 j hj
    have hnA : ∀ k, D k = true → A am k i = false := fun k hd => by
      cases hA : A am k i with
      | false => rfl
      | true =>
        have := anc_in hk h.dc k (h.dn k hd) (h.dc k (h.dn k hd) hd) i hA
        rw [hDi] at this; cases this
    have eD : cenv ops env0 val D = cenv ops env0 (setV val i v) D := cenv_val fun k hd => by
      have : k ≠ i := fun e => by rw [e, hDi] at hd; cases hd
      simp [setV, this]
    have hirr : A am i i = false := by
      cases hA : A am i i with
      | false => rfl
      | true =>
        have := anc_in hk h.dc i o1 hpD i hA
        rw [hDi] at this; cases this
    have h' : DI P ops am K env0 (setL D i) (dm ||| 2 ^ i) ws (setV val i v) rest S L := by
      refine ⟨setL_bit h.dd, closed_set h.dc hpD, h.lc, fun k hl => ?_, fun k hd => ?_, fun k hd hl => ?_, o6, ?_⟩
      · simp only [setL]; split
        · rfl
        · exact h.ld k hl
      · simp only [setL] at hd; split at hd
        · rename_i e; rw [e]; exact o1
        · exact h.dn k hd
      · by_cases e : k = i
        · subst e
          have e1 : cenv ops env0 (setV val k v) (A am k) = cenv ops env0 val (A am k) := cenv_val fun j hA => by
            have : j ≠ k := fun e => by rw [e, hirr] at hA; cases hA
            simp [setV, this]
          rw [e1]
          have : setV val k v k = v := by simp [setV]
          rw [this]
          refine hy.congr ?_
          exact cenv_reads o1 (anc_in hk h.dc k o1 hpD) (out_of hk o1 h.dc hDi)
        · have hd' : D k = true := by simpa [setL, e] using hd
          have e1 : cenv ops env0 (setV val i v) (A am k) = cenv ops env0 val (A am k) := cenv_val fun j hA => by
            have : j ≠ i := fun e => by rw [e, hnA k hd'] at hA; cases hA
            simp [setV, this]
          rw [e1]
          have : setV val i v k = val k := by simp [setV, e]
          rw [this]
          exact h.st k hd' hl
      · have := cenv_put (env0 := env0) (L := D) (val := setV val i v) (v := v) hk o1 (by simp [setV])
        rw [← eD, ← popAt_dst o1] at this
        rw [← this]; exact hw
    obtain ⟨D', dm', val', rest', g1, g2, g3⟩ := absorb hk rest _ _ _ _ h'
    refine ⟨D', dm', val', rest', g1, g2, fun k hl => ?_⟩
    rw [g3 k hl]
    have : k ≠ i := fun e => by rw [e, hLi] at hl; cases hl
    simp [setV, this]


theorem exec_yld {P : Program} {N : Nat} {rd : Option Nat} {ops : Array Oper} {Q : Exit → Act → World → Prop} {next : Act → World → Prop} (hall : ops.all (ofits N) = true) {i : Nat} (hi : i < ops.size) {m S w env} {a : Act} {v : MV}
    (hr : RelS m S w) (he : RelE m S w env a.tmps) (hN : a.tmps.size = N) (hy : Yld P (popAt ops i) env S v)
    (hnext : ∀ m' w' r, RelS m' S w' → RelV m' S w' v r → Ext m S w m' S w' → next (a.put (dstOf ops i) r) w') : wpOpIn (fence rd) 0 P ops Q i next a w := by
  have hsc : ofits N ops[i] = true := by rw [Array.all_eq_true] at hall; exact hall i hi
  have hdst : ∀ (j : Nat) (o' : Oper) (t : Nat), ops[j]? = some o' → o'.dst = some t → t < a.tmps.size := fun j o' t hj ht => by
    rw [Array.all_eq_true] at hall
    obtain ⟨hj', rfl⟩ := Array.getElem?_eq_some_iff.1 hj
    have := hall j hj'
    simp only [ofits, ht, Bool.and_eq_true, decide_eq_true_eq] at this
    rw [hN]; exact this.1.1
  have ho : ops[i]? = some ops[i] := by simp [hi]
  have hp : popAt ops i = ⟨ops[i].dst, ops[i].op, ops[i].guard.map fun g => ((ops[g.1]?).bind (·.dst), g.2)⟩ := by simp [popAt, hi]
  have hd : dstOf ops i = ops[i].dst := by simp [dstOf, hi]
  rw [hp] at hy
  unfold wpOpIn
  simp only [ho]
  rcases hy with ⟨h1, h2⟩ | ⟨h1, h2⟩
  · rw [wanted_of he hdst h1]
    simp only [if_true]
    refine wp_oper hr he hN hsc h2 ?_
    rintro m' s' w' v' r ⟨rfl, rfl⟩ g1 g2 g3
    rw [← hd]
    exact hnext m' w' r g1 g2 g3
  · rw [wanted_of he hdst h1]
    subst h2
    simp only [Bool.false_eq_true, if_false]
    refine ⟨fun f _ => wide_fn rd f, ?_⟩
    rw [← hd]
    exact hnext m w _ hr undef_rel (Ext.refl _ _ _)

def Lof (listed : Array Bool) : Nat → Bool := fun i => listed.getD i false

theorem Lof_set {listed : Array Bool} {i : Nat} (hi : i < listed.size) : Lof (listed.setIfInBounds i true) = setL (Lof listed) i := by
  funext k
  unfold Lof setL
  by_cases e : k = i
  · subst e; simp [hi]
  · have : i ≠ k := fun e' => e e'.symm
    rw [if_neg e]
    by_cases hk : k < listed.size
    · simp [hk, this]
    · simp [hk]

def unl (n : Nat) (L : Nat → Bool) : Nat := (List.range n).countP fun i => !L i

theorem unl_set {n : Nat} {L : Nat → Bool} {i : Nat} (hi : i < n) (hL : L i = false) : unl n (setL L i) < unl n L := by
  unfold unl
  have key : ∀ (l : List Nat), l.countP (fun k => !setL L i k) ≤ l.countP (fun k => !L k) ∧ (i ∈ l → l.countP (fun k => !setL L i k) < l.countP (fun k => !L k)) := by
    intro l
    induction l with
    | nil => exact ⟨Nat.le_refl _, fun h => by simp at h⟩
    | cons x l ih =>
      simp only [List.countP_cons]
      by_cases e : x = i
      · subst e
        have h1 : (!setL L x x) = false := by simp [setL]
        have h2 : (!L x) = true := by simp [hL]
        simp only [h1, h2, if_true]
        have := ih.1
        exact ⟨by simp; omega, fun _ => by simp; omega⟩
      · have h1 : setL L i x = L x := by simp [setL, e]
        rw [h1]
        refine ⟨by have := ih.1; omega, fun hm => ?_⟩
        have : i ∈ l := by
          rcases List.mem_cons.1 hm with h | h
          · exact absurd h.symm e
          · exact h
        have := ih.2 this
        omega
  exact (key _).2 (by simpa using hi)

theorem unl_zero {n : Nat} {L : Nat → Bool} (h : unl n L = 0) : ∀ i < n, L i = true := by
  intro i hi
  have := List.countP_eq_zero.1 h i (by simpa using hi)
  simpa using this

theorem ready_spec {ops : Array Oper} {listed : Array Bool} (hs : listed.size = ops.size) {i : Nat} (h : i ∈ Region.ready .any ops listed) : i < ops.size ∧ Lof listed i = false ∧ ∀ j ∈ preds ops i, Lof listed j = true := by
  obtain ⟨h1, o, ho, h2⟩ := mem_ready.1 h
  have hi : i < ops.size := (Array.getElem?_eq_some_iff.1 ho).1
  refine ⟨hi, ?_, fun j hj => ?_⟩
  · unfold Lof
    have : i < listed.size := by omega
    simpa [this] using h1
  · simp only [preds, ho, onsOf, List.mem_map, List.mem_filter] at hj
    obtain ⟨e, ⟨he, hb⟩, rfl⟩ := hj
    exact h2 e (by simpa using he) hb

theorem ready_ex {ops : Array Oper} {am : List Nat} (hk : Okd ops am) {listed : Array Bool} (hs : listed.size = ops.size) (h : Region.ready .any ops listed = []) : ∀ i, i < ops.size → Lof listed i = true := by
  intro i
  induction i using Nat.strongRecOn with
  | _ i ih =>
    intro hi
    cases hl : Lof listed i with
    | true => rfl
    | false =>
      have : i ∈ Region.ready .any ops listed := by
        refine mem_ready.2 ⟨?_, ops[i], by simp [hi], fun e he hb => ?_⟩
        · unfold Lof at hl
          have : i < listed.size := by omega
          simpa [this] using hl
        · have hj : e.on ∈ preds ops i := by
            simp only [preds, hi, Array.getElem?_eq_getElem, onsOf, List.mem_map, List.mem_filter]
            exact ⟨e, ⟨by simpa using he, hb⟩, rfl⟩
          have hlt := hk.lt i hi _ hj
          exact ih e.on hlt (by omega)
      rw [h] at this; simp at this

theorem di_done {P ops am K env0 D dm ws val rest S L} (hk : Okd ops am) (h : DI P ops am K env0 D dm ws val rest S L) (hall : ∀ i < ops.size, L i = true) : K (cenv ops env0 val L) S := by
  obtain ⟨D', dm', val', rest', g1, g2, g3⟩ := absorb hk rest D dm ws val h
  cases rest' with
  | cons d rest' =>
    obtain ⟨o1, o2, _⟩ := okOrd_cons g1.ok
    have := g1.ld d.i (hall d.i o1)
    rw [g1.dd d.i o1, o2] at this; cases this
  | nil =>
    have := g1.w
    simp only [prepD, List.map_nil, mopsD] at this
    have e : cenv ops env0 val' D' = cenv ops env0 val L := by
      funext t
      unfold cenv
      split
      · rename_i k hw
        have hks := (writer_spec hw).1
        have hl := hall k hks
        rw [g1.ld k hl, hl, g3 k hl]
      · rfl
    rw [← e]; exact this

theorem okOrd_all {ops am} : ∀ (rest : List DOp) (dm ws : Nat), okOrd ops am dm ws rest = true → ∀ i < ops.size, dm.testBit i = true ∨ ∃ d ∈ rest, d.i = i
  | [], dm, ws, h, i, hi => by simp only [okOrd, List.all_eq_true, List.mem_range] at h; exact .inl (h i hi)
  | d :: rest, dm, ws, h, i, hi => by
    obtain ⟨_, _, _, _, _, o6⟩ := okOrd_cons h
    rcases okOrd_all rest _ _ o6 i hi with h | ⟨d', h1, h2⟩
    · rw [bit_set, Bool.or_eq_true, decide_eq_true_eq] at h
      rcases h with h | h
      · exact .inl h
      · exact .inr ⟨d, by simp, h⟩
    · exact .inr ⟨d', by simp [h1], h2⟩

theorem okOrd_ws {ops am} : ∀ (rest : List DOp) (dm ws : Nat), okOrd ops am dm ws rest = true → ∀ d ∈ rest, ∀ k, ws.testBit k = true → A am d.i k = true
  | [], dm, ws, h, d, hd => by simp at hd
  | d0 :: rest, dm, ws, h, d, hd => by
    obtain ⟨_, _, _, o4, _, o6⟩ := okOrd_cons h
    rcases List.mem_cons.1 hd with rfl | hd
    · exact o4
    · intro k hk
      refine okOrd_ws rest _ _ o6 d hd k ?_
      split
      · rw [bit_set, hk]; rfl
      · exact hk

theorem run_any {P : Program} {N : Nat} {rd : Option Nat} {K : (Nat → MV) → MSt → Prop} {Q : Exit → Act → World → Prop} {ops : Array Oper} {am : List Nat} {env0 : Nat → MV} (hk : Okd ops am) (hall : ops.all (ofits N) = true) :
    ∀ (fuel : Nat) (listed : Array Bool) {D dm ws val rest S m w} {a : Act} {b0 : Nat} (_ : listed.size = ops.size) (_ : unl ops.size (Lof listed) ≤ fuel) (_ : DI P ops am K env0 D dm ws val rest S (Lof listed))
      (_ : RelS m S w) (_ : RelE m S w (cenv ops env0 val (Lof listed)) a.tmps) (_ : a.tmps.size = N) (_ : Dfs b0 a.defers m S w)
      (_ : ∀ m' env' s' (a' : Act) w', K env' s' → RelS m' s' w' → RelE m' s' w' env' a'.tmps → a'.tmps.size = N → Dfs b0 a'.defers m' s' w' → Ext m S w m' s' w' → Q .normal a' w'),
      wpAnyIn (fence rd) 0 P .any ops Q fuel listed a w := by
  intro fuel
  induction fuel with
  | zero =>
    intro listed D dm ws val rest S m w a b0 hs hu hd hr he hN hf hq
    have ha := unl_zero (Nat.le_zero.1 hu)
    refine ⟨?_, hq m _ S a w (di_done hk hd ha) hr he hN hf (Ext.refl _ _ _)⟩
    rw [List.eq_nil_iff_forall_not_mem]
    intro i hi
    obtain ⟨h1, h2, _⟩ := ready_spec hs hi
    rw [ha i h1] at h2; cases h2
  | succ fuel ih =>
    intro listed D dm ws val rest S m w a b0 hs hu hd hr he hN hf hq
    refine ⟨fun h0 => hq m _ S a w (di_done hk hd (ready_ex hk hs h0)) hr he hN hf (Ext.refl _ _ _), fun i hi => ?_⟩
    obtain ⟨h1, h2, h3⟩ := ready_spec hs hi
    obtain ⟨D', dm', val', rest', g1, g2, g3⟩ := absorb hk rest D dm ws val hd
    have eL : cenv ops env0 val (Lof listed) = cenv ops env0 val' (Lof listed) := cenv_val fun k hl => (g3 k hl).symm
    rw [eL] at he
    have hls : Lof (listed.setIfInBounds i true) = setL (Lof listed) i := Lof_set (by omega)
    have hu' : unl ops.size (Lof (listed.setIfInBounds i true)) ≤ fuel := by
      rw [hls]; have := unl_set h1 h2; omega
    have hs' : (listed.setIfInBounds i true).size = ops.size := by simpa using hs
    have hrd : ∀ t ∈ readsOf (popAt ops i), cenv ops env0 val' (Lof listed) t = cenv ops env0 val' (A am i) t := cenv_reads h1 (anc_in hk g1.lc i h1 h3) (out_of hk h1 g1.lc h2)
    have hirr : A am i i = false := by
      cases hA : A am i i with
      | false => rfl
      | true =>
        have := anc_in hk g1.lc i h1 h3 i hA
        rw [h2] at this; cases this
    cases hD : D' i with
    | true =>
      have hy : Yld P (popAt ops i) (cenv ops env0 val' (Lof listed)) S (val' i) := (g1.st i hD h2).congr fun t ht => (hrd t ht).symm
      refine exec_yld hall h1 hr he hN hy ?_
      intro m' w' r k1 k2 k3
      have hd' : DI P ops am K env0 D' dm' ws val' rest' S (Lof (listed.setIfInBounds i true)) := by
        rw [hls]
        refine { g1 with lc := closed_set g1.lc h3, ld := fun k hl => ?_, st := fun k hd hl => g1.st k hd ?_ }
        · simp only [setL] at hl; split at hl
          · rename_i e; rw [e]; exact hD
          · exact g1.ld k hl
        · simp only [setL] at hl; split at hl
          · cases hl
          · exact hl
      refine ih _ hs' hu' hd' k1 ?_ (by rw [updo_size]; exact hN) (by rw [put_defers]; exact hf.ext k3) (fun m'' env'' s'' a'' w'' q1 q2 q3 q4 q5 q6 => hq m'' env'' s'' a'' w'' q1 q2 q3 q4 q5 (k3.trans q6))
      have := (he.ext k3).updo (d := dstOf ops i) k2
      rw [cenv_put hk h1 rfl, ← hls] at this
      exact this
    | false =>
      have hdm : dm'.testBit i = false := by rw [← g1.dd i h1]; exact hD
      cases rest' with
      | nil =>
        rcases okOrd_all _ _ _ g1.ok i h1 with h | ⟨d, h, _⟩
        · rw [hdm] at h; cases h
        · simp at h
      | cons d rest' =>
        obtain ⟨o1, o2, o3, o4, o5, o6⟩ := okOrd_cons g1.ok
        have hdw : d.w = true := g2 d (by simp)
        have hdi : d.i = i := by
          rcases okOrd_all _ _ _ g1.ok i h1 with h | ⟨d', h, he⟩
          · rw [hdm] at h; cases h
          · rcases List.mem_cons.1 h with rfl | h
            · exact he
            · rw [hdw, if_pos rfl] at o6
              have hA := okOrd_ws _ _ _ o6 d' h d.i (by rw [bit_set]; simp)
              rw [he] at hA
              have hl := anc_in hk g1.lc i h1 h3 d.i hA
              have := g1.ld d.i hl
              rw [g1.dd d.i o1, o2] at this; cases this
        obtain ⟨di, dw, dob⟩ := d
        simp only at hdw hdi o1 o2 o3 o4 o5 o6
        subst hdw hdi
        simp only [if_true] at o6
        obtain ⟨c1, c2⟩ := o5 rfl
        have hpD : ∀ j ∈ preds ops di, D' j = true := fun j hj => g1.ld j (h3 j hj)
        have hDr : ∀ t ∈ readsOf (popAt ops di), cenv ops env0 val' D' t = cenv ops env0 val' (Lof listed) t := fun t ht => by
          rw [hrd t ht]
          exact cenv_reads h1 (anc_in hk g1.dc di h1 hpD) (out_of hk h1 g1.dc hD) t ht
        have hnA : ∀ k, D' k = true → A am k di = false := fun k hd => by
          cases hA : A am k di with
          | false => rfl
          | true =>
            have := anc_in hk g1.dc k (g1.dn k hd) (g1.dc k (g1.dn k hd) hd) di hA
            rw [hD] at this; cases this
        have hsc : ofits N ops[di] = true := by rw [Array.all_eq_true] at hall; exact hall di h1
        have hdst : ∀ (j : Nat) (o' : Oper) (t : Nat), ops[j]? = some o' → o'.dst = some t → t < a.tmps.size := fun j o' t hj ht => by
          rw [Array.all_eq_true] at hall
          obtain ⟨hj', rfl⟩ := Array.getElem?_eq_some_iff.1 hj
          have := hall j hj'
          simp only [ofits, ht, Bool.and_eq_true, decide_eq_true_eq] at this
          rw [hN]; exact this.1.1
        have ho : ops[di]? = some ops[di] := by simp [h1]
        have hp : popAt ops di = ⟨ops[di].dst, ops[di].op, ops[di].guard.map fun g => ((ops[g.1]?).bind (·.dst), g.2)⟩ := by simp [popAt, h1]
        have hdd : dstOf ops di = ops[di].dst := by simp [dstOf, h1]
        have hgw := g1.w
        simp only [prepD, List.map_cons, mopsD] at hgw
        have hmw : mwant (cenv ops env0 val' D') (popAt ops di).g = mwant (cenv ops env0 val' (Lof listed)) (popAt ops di).g := mwant_congr fun t b hg => hDr t (by simp [readsOf, hg])
        -- behind the writer
        have behind : ∀ (v : MV) (S' : MSt), (∀ k, D' k = true → Lof listed k = false → Yld P (popAt ops k) (cenv ops env0 val' (A am k)) S' (val' k)) →
            mopsD P K (prepD ops rest') (updo (cenv ops env0 val' D') (popAt ops di).dst v) S' →
            DI P ops am K env0 (setL D' di) (dm' ||| 2 ^ di) (ws ||| 2 ^ di) (setV val' di v) rest' S' (Lof (listed.setIfInBounds di true)) := by
          intro v S' hst hw
          rw [hls]
          have eD : cenv ops env0 val' D' = cenv ops env0 (setV val' di v) D' := cenv_val fun k hd => by
            have : k ≠ di := fun e => by rw [e, hD] at hd; cases hd
            simp [setV, this]
          refine ⟨setL_bit g1.dd, closed_set g1.dc hpD, closed_set g1.lc h3, fun k hl => ?_, fun k hd => ?_, fun k hd hl => ?_, o6, ?_⟩
          · simp only [setL] at hl ⊢; split
            · rfl
            · rename_i e; rw [if_neg e] at hl; exact g1.ld k hl
          · simp only [setL] at hd; split at hd
            · rename_i e; rw [e]; exact h1
            · exact g1.dn k hd
          · have hki : k ≠ di := fun e => by simp [setL, e] at hl
            have hd' : D' k = true := by simpa [setL, hki] using hd
            have hl' : Lof listed k = false := by simpa [setL, hki] using hl
            have e1 : cenv ops env0 (setV val' di v) (A am k) = cenv ops env0 val' (A am k) := cenv_val fun j hA => by
              have : j ≠ di := fun e => by rw [e, hnA k hd'] at hA; cases hA
              simp [setV, this]
            rw [e1]
            have : setV val' di v k = val' k := by simp [setV, hki]
            rw [this]
            exact hst k hd' hl'
          · have := cenv_put (env0 := env0) (L := D') (val := setV val' di v) (v := v) hk h1 (by simp [setV])
            rw [← eD, ← popAt_dst h1] at this
            rw [← this]; exact hw
        have henv : ∀ v, updo (cenv ops env0 val' (Lof listed)) (dstOf ops di) v = cenv ops env0 (setV val' di v) (Lof (listed.setIfInBounds di true)) := fun v => by
          rw [hls, ← cenv_put (v := v) hk h1 (by simp [setV])]
          congr 1
          refine cenv_val fun k hl => ?_
          have : k ≠ di := fun e => by rw [e, h2] at hl; cases hl
          simp [setV, this]
        unfold wpOpIn
        simp only [ho]
        split at hgw
        · rename_i hmt
          rw [hmw, hp] at hmt
          rw [wanted_of he hdst hmt]
          simp only [if_true]
          rw [hp] at hgw
          have hgw' := hgw.congr (env' := cenv ops env0 val' (Lof listed)) fun t ht => hDr t (by rw [hp]; simp [readsOf, ht])
          refine wp_oper hr he hN hsc hgw' ?_
          rintro m' S' w' v r ⟨hob, hw⟩ k1 k2 k3
          rw [← hdd]
          have hst : ∀ k, D' k = true → Lof listed k = false → Yld P (popAt ops k) (cenv ops env0 val' (A am k)) S' (val' k) := by
            intro k hd hl
            have hks := g1.dn k hd
            have hnk : A am di k = false := by
              cases hA : A am di k with
              | false => rfl
              | true =>
                have := anc_in hk g1.lc di h1 h3 k hA
                rw [hl] at this; cases this
            have hko := c1 k hks (by rw [← g1.dd k hks]; exact hd) hnk
            have hsy := hob (popAt ops k) (List.mem_map.2 ⟨k, hko, rfl⟩)
            have hrk : ∀ t ∈ readsOf (popAt ops k), cenv ops env0 val' D' t = cenv ops env0 val' (A am k) t := cenv_reads hks (anc_in hk g1.dc k hks (g1.dc k hks hd)) (fun t ht j hj hA => by
              have h := (c2 k hko).2 t ht j hj hA
              rw [g1.dd j (writer_spec hj).1]; exact h)
            unfold Stay at hsy
            rw [popAt_dst hks] at hsy
            cases hdk : dstOf ops k with
            | some t =>
              rw [hdk] at hsy
              have e : cenv ops env0 val' D' t = val' k := by simp [cenv, hk.wr k hks t hdk, hd]
              simp only [e] at hsy
              exact hsy.congr hrk
            | none => have := (c2 k hko).1.2; rw [hdk] at this; cases this
          have hd' := behind v S' hst (by rw [hp]; exact hw)
          refine ih _ hs' hu' hd' k1 ?_ (by rw [updo_size]; exact hN) (by rw [put_defers]; exact hf.ext k3) (fun m'' env'' s'' a'' w'' q1 q2 q3 q4 q5 q6 => hq m'' env'' s'' a'' w'' q1 q2 q3 q4 q5 (k3.trans q6))
          have := (he.ext k3).updo (d := dstOf ops di) k2
          rw [henv] at this
          exact this
        · rename_i hmf
          rw [hmw, hp] at hmf
          rw [wanted_of he hdst hmf]
          simp only [Bool.false_eq_true, if_false]
          refine ⟨fun f _ => wide_fn rd f, ?_⟩
          rw [← hdd]
          have hd' := behind .undef S g1.st hgw
          refine ih _ hs' hu' hd' hr ?_ (by rw [updo_size]; exact hN) (by rw [put_defers]; exact hf) hq
          have := he.updo (d := dstOf ops di) (undef_rel (m := m) (s := S) (w := w))
          rw [henv] at this
          exact this
        · exact hgw.elim


/-- **A region that draws its order.** -/
theorem mregionD {P N rd Q env s} (hm : P.follows .mixedOrders = true) {id : Nat} {ops : Array Oper} (am : List Nat) (ord : List DOp) (hc : okDraw ops am ord = true)
    (h : mopsD P (fun env s => Q .normal env s) (prepD ops ord) env s) : MCode P N rd (.region id ops true) Q env s := by
  intro hs hrd m w a b0 hb h1 h2 h3 h4
  simp only [okDraw, Bool.and_eq_true] at hc
  obtain ⟨⟨c1, c2⟩, c3⟩ := hc
  have hk := okd_of c1 c2
  have e0 : Ext m s w m s { w with drawn := w.drawn + 1 } := ext_heap rfl
  refine wpIn_region_any hm ?_
  have hL : Lof (Array.replicate ops.size false) = fun _ => false := by
    funext k
    unfold Lof
    by_cases hk : k < ops.size
    · simp [hk]
    · simp [hk]
  have hcv : cenv ops env (fun _ => .undef) (fun _ => false) = env := by
    funext t
    unfold cenv
    split <;> simp
  refine run_any (K := fun env s => Q .normal env s) (am := am) (env0 := env) (D := fun _ => false) (dm := 0) (ws := 0) (val := fun _ => .undef) (rest := ord) (S := s) (m := m) (b0 := b0) hk (by simpa [cfits] using hs) ops.size (Array.replicate ops.size false) (by simp) ?_ ?_ (h1.heap rfl) ?_ h3 (h4.ext e0) ?_
  · unfold unl
    exact Nat.le_trans List.countP_le_length (by simp)
  · rw [hL]
    refine ⟨fun i hi => by simp, fun i hi h => by simp at h, fun i hi h => by simp at h, fun i h => by simp at h, fun i h => by simp at h, fun i h => by simp at h, c3, ?_⟩
    rw [hcv]; exact h
  · rw [hL, hcv]
    exact h2.ext e0
  · intro m' env' s' a' w' k1 k2 k3 k4 k5 k6
    exact ⟨m', env', s', k1, k2, k3, k4, k5, e0.trans k6⟩

/-! ### Steps of the walk -/
section
variable {P : Program} {env : Nat → MV} {s : MSt} {K : (Nat → MV) → MSt → Prop} {d : Option Nat} {o : Op} {ob : List POp} {os : List DP}

theorem mopsD_end (h : K env s) : mopsD P K [] env s := h
theorem mopsD_v {v : MV} (hc : isCallV o = false) (h : mop P o (mev s env) s = some (v, s)) (hk : mopsD P K os (updo env d v) s) : mopsD P K (⟨⟨d, o, none⟩, false, ob⟩ :: os) env s :=
  ⟨v, .inl ⟨rfl, moper hc h ⟨rfl, rfl⟩⟩, hk⟩
theorem mopsD_skip {g : Option Nat × Bool} {w : Bool} (hw : mwant env (some g) = some false) (hk : mopsD P K os (updo env d .undef) s) : mopsD P K (⟨⟨d, o, some g⟩, w, ob⟩ :: os) env s := by
  cases w
  · exact ⟨.undef, .inr ⟨hw, rfl⟩, hk⟩
  · simp only [mopsD, hw]; exact hk
theorem mopsD_do {g : Option Nat × Bool} {v : MV} (hw : mwant env (some g) = some true) (hc : isCallV o = false) (h : mop P o (mev s env) s = some (v, s)) (hk : mopsD P K os (updo env d v) s) : mopsD P K (⟨⟨d, o, some g⟩, false, ob⟩ :: os) env s :=
  ⟨v, .inl ⟨hw, moper hc h ⟨rfl, rfl⟩⟩, hk⟩
theorem mopsD_ite {g : Option Nat × Bool} {b : Bool} {v : MV} (hw : mwant env (some g) = some b) (hc : isCallV o = false) (h : b = true → mop P o (mev s env) s = some (v, s))
    (hk : mopsD P K os (updo env d (if b then v else .undef)) s) : mopsD P K (⟨⟨d, o, some g⟩, false, ob⟩ :: os) env s := by
  cases b
  · exact mopsD_skip hw hk
  · exact mopsD_do hw hc (h rfl) hk
/-- A writer. -/
theorem mopsD_w (h : MOper P o env s fun v s' => (∀ q ∈ ob, Stay P env s' q) ∧ mopsD P K os (updo env d v) s') : mopsD P K (⟨⟨d, o, none⟩, true, ob⟩ :: os) env s := h
theorem mopsD_wg {g : Option Nat × Bool} {b : Bool} (hw : mwant env (some g) = some b) (h : b = true → MOper P o env s fun v s' => (∀ q ∈ ob, Stay P env s' q) ∧ mopsD P K os (updo env d v) s')
    (hk : b = false → mopsD P K os (updo env d .undef) s) : mopsD P K (⟨⟨d, o, some g⟩, true, ob⟩ :: os) env s := by
  cases b
  · exact mopsD_skip hw (hk rfl)
  · simp only [mopsD, hw]; exact h rfl
/-- A call that leaves the store. -/
theorem mopsD_c {v : MV} (h : MOper P o env s fun r s' => r = v ∧ s' = s) (hk : mopsD P K os (updo env d v) s) : mopsD P K (⟨⟨d, o, none⟩, false, ob⟩ :: os) env s :=
  ⟨v, .inl ⟨rfl, h⟩, hk⟩
theorem mopsD_cg {g : Option Nat × Bool} {b : Bool} {v : MV} (hw : mwant env (some g) = some b) (h : b = true → MOper P o env s fun r s' => r = v ∧ s' = s) (hk : mopsD P K os (updo env d (if b then v else .undef)) s) : mopsD P K (⟨⟨d, o, some g⟩, false, ob⟩ :: os) env s := by
  cases b
  · exact mopsD_skip hw hk
  · exact ⟨v, .inl ⟨hw, h rfl⟩, hk⟩
theorem stay_v {t : Nat} {v : MV} (hc : isCallV o = false) (he : env t = v) (h : mop P o (mev s env) s = some (v, s)) : Stay P env s ⟨some t, o, none⟩ := by
  unfold Stay; simp only [he]; exact .inl ⟨rfl, moper hc h ⟨rfl, rfl⟩⟩
end

end Go.Mir
