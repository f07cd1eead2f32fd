import Derived.Test.YtbkbnchifeimpaaFacts
import Derived.Test.YtbkbnchifeimpaaArenaNil
import Derived.Test.YtbkbnchifeimpaaLaw15a
import Derived.Test.YtbkbnchifeimpaaLaw15b
import Derived.Test.YtbkbnchifeimpaaLaw15c
import Derived.Test.YtbkbnchifeimpaaRef15c
import Derived.Test.YtbkbnchifeimpaaRef15d
import Derived.Test.YtbkbnchifeimpaaLaw15d
import Derived.Test.YtbkbnchifeimpaaLaw15e
import Derived.Test.YtbkbnchifeimpaaLaw15f
import Derived.KernelRfl
set_option maxRecDepth 10000
set_option maxHeartbeats 2000000
set_option pp.deepTerms false
set_option pp.deepTerms.threshold 5
set_option linter.unusedSimpArgs false
set_option linter.unusedVariables false
namespace Go.Mir
open Go.Proofs
attribute [local irreducible] mops mopsD MOper mthen mcatch MCode MCalls MInv MRound Yld Stays
set_option maxRecDepth 100000

structure Act15 where
  kind : Int
  x : Int
  h : Int
  old : Int
def encAct (t : Act15) : List MV := [.int .i64 t.kind, .int .i64 t.x, .int .i64 t.h, .int .i64 t.old]
instance : EncC encAct 4 := ⟨fun _ => rfl⟩
instance : FlatC encAct := ⟨fun _ => rfl⟩
attribute [go_sem] encAct

instance : Pure1 Try.prog 9 [] True (.bool true) := ⟨fun _ s => lives15_spec s⟩

instance (x : Int) : Pure1 Try.prog 10 [.nilptr, .int .i64 x] True (.tuple [.int .i64 0, .int .i64 1]) := ⟨fun _ s => put_nil s x⟩
instance (x : Int) : Pure1 Try.prog 14 [.nilptr, .int .i64 x] True (.tuple [.int .i64 0, .bool false]) := ⟨fun _ s => get_nil s x⟩
instance (x y : Int) : Pure1 Try.prog 15 [.nilptr, .int .i64 x, .int .i64 y] True (.bool false) := ⟨fun _ s => set_nil s x y⟩
instance (x : Int) : Pure1 Try.prog 13 [.nilptr, .int .i64 x] True (.bool false) := ⟨fun _ s => drop_nil s x⟩
instance : Pure1 Try.prog 16 [.nilptr] True (.int .i64 0) := ⟨fun _ s => len_nil s⟩
instance : Pure1 Try.prog 18 [.nilptr, .nilfunc] True .nilptr := ⟨fun _ s => copy_nil s⟩
instance : Pure1 Try.prog 12 [.nilptr] True allN := ⟨fun _ s => all_nil s⟩

theorem allq_spec (s : MSt) (a : Nat) (l : Loc) (L : List Slot) (hA : AM s a l L) :
    MCalls Try.prog 17 [allF a] s fun r s' => ∃ v1 v2, r = .tuple [v1, v2] ∧ FS encInt v1 ((allA 0 L).map (·.1)) ∧ FS encInt v2 ((allA 0 L).map (·.2)) ∧ s' = s := by
  refine all15_spec s _ _ _ _ _ (allA 0 L) (fun h => AMh h a l L) FnC.ok (allF_seq a l L) (fun st hg => ?_) ?_
  · obtain ⟨h1, h2, h3⟩ := hA
    exact ⟨hg.at h1, hg.at h2, h3⟩
  · rw [allA_len]
    have : L.countP (·.full) ≤ L.length := List.countP_le_length
    have := hA.2.2.1
    omega
theorem allqn_spec (s : MSt) : MCalls Try.prog 17 [allN] s fun r s' => ∃ v1 v2, r = .tuple [v1, v2] ∧ FS encInt v1 [] ∧ FS encInt v2 [] ∧ s' = s :=
  all15_spec s _ _ _ _ _ [] (fun _ => True) FnC.ok (allN_seq _) (fun st hg => trivial) (by decide)

/-- The store in the law's loop. -/
def playSt (s : MSt) (T : List Thing15) (G : List Int) (L : List Slot) (size : Int) (J : List MObj) : MSt :=
  s.ext (accO encT T :: accO encInt G :: .blk 0 (rows encSlot L) :: .blk 0 [.msl (s.h.length + 2) 0 3 0 L.length (some L.length), .int .i64 (L.countP (·.full))] :: .blk 0 [.int .i64 size, accV encT .nilsl s.h.length 4 T] :: J)

theorem play_AM {s T G L size J} (h1 : L.length ≤ 1024) (h2 : low L) : AM (playSt s T G L size J) (s.h.length + 3) ⟨s.h.length + 2, 0, some⟩ L := by
  refine ⟨?_, ?_, h1, h2⟩
  · rw [playSt, ext_hi (by omega), Nat.add_sub_cancel_left]; rfl
  · dsimp only
    rw [playSt, ext_hi (by omega), Nat.add_sub_cancel_left]; rfl
theorem play_RA {s T G L size J} (h2 : lowT T) : RA (playSt s T G L size J) (s.h.length + 4) s.h.length size T := by
  refine ⟨?_, ?_, h2⟩
  · rw [playSt, ext_hi (by omega), Nat.add_sub_cancel_left]; rfl
  · rw [playSt, ext_hi (by omega), Nat.sub_self]; rfl
theorem play_put {s T G L L' size J} (h : L'.length = L.length) : putSt (playSt s T G L size J) (s.h.length + 3) ⟨s.h.length + 2, 0, some⟩ L' = playSt s T G L' size J := by
  rw [putSt]; dsimp only
  rw [playSt, playSt, ext_put_hi (by omega), ext_put_hi (by omega), Nat.add_sub_cancel_left, Nat.add_sub_cancel_left]; rfl
theorem play_set {s T G L L' size J} (h : L'.length = L.length) (hc : L'.countP (·.full) = L.countP (·.full)) : (playSt s T G L size J).put (s.h.length + 2) (.blk 0 (rows encSlot L')) = playSt s T G L' size J := by
  rw [playSt, playSt, ext_put_hi (by omega), Nat.add_sub_cancel_left, h, hc]; rfl
theorem play_putR {s T T' G L size J} : putRSt (playSt s T G L size J) (s.h.length + 4) s.h.length size T' = playSt s T' G L size J := by
  rw [putRSt, playSt, playSt, ext_put_hi (by omega), ext_put_hi (by omega), Nat.add_sub_cancel_left, Nat.sub_self]; rfl
theorem play_same {s : MSt} {T T' : List Thing15} {G L size J} (h : T'.length = T.length) : playSt s T' G L size J =
    s.ext (accO encT T' :: accO encInt G :: .blk 0 (rows encSlot L) :: .blk 0 [.msl (s.h.length + 2) 0 3 0 L.length (some L.length), .int .i64 (L.countP (·.full))] :: .blk 0 [.int .i64 size, accV encT .nilsl s.h.length 4 T] :: J) := by
  rw [playSt, accV_same h]
theorem psame {s : MSt} {u v : MV} {a b : List Int} (hu : FS encInt u a) (hv : FS encInt v b) (hab : a = b) (hbig : a.length < 4611686018427387904) : MCalls Try.prog 22 [u, v] s fun r s' => r = .bool true ∧ s' = s :=
  (same_spec s u v a b hu hv hbig).mono fun r s' h => by rw [hab] at h; exact ⟨by rw [h.1]; simp, h.2⟩
theorem play_ext {s T G L size J K} : (playSt s T G L size J).ext K = playSt s T G L size (J ++ K) := by
  rw [playSt, playSt, ext_ext]; rfl

/-- What holds at the head of each round. -/
structure Play15 (size : Nat) (i : Nat) (L : List Slot) (T : List Thing15) (G : List Int) : Prop where
  same : Same15 L T
  len : L.length = size
  tl : T.length ≤ i
  gl : G.length ≤ i
  tn : ∀ t ∈ T, 0 ≤ t.n ∧ t.n ≤ 1000

theorem Play15.lowT {size i L T G} (h : Play15 size i L T G) (hs : size ≤ 1024) (hi : i ≤ 60) : lowT T := by
  refine ⟨by have := h.tl; omega, fun t ht => ?_⟩
  obtain ⟨k, hk, e⟩ := h.same.sl t ht
  have := h.tn t ht
  have := h.len
  omega
theorem Play15.low {size i L T G} (h : Play15 size i L T G) (hs : size ≤ 1024) (hi : i ≤ 60) : low L := same_low h.same (by rw [h.len]; exact hs) (by have := h.tl; omega)

theorem play_init {s : MSt} {k : Nat} : s.ext [accO encT [], accO encInt [], .blk 0 (rows encSlot (newA k)), .blk 0 [.msl (s.h.length + 2) 0 3 0 k (some k), .int .i64 0], .blk 0 [.int .i64 k, .nilsl]] = playSt s [] [] (newA k) k [] := by
  simp [playSt, newA, List.countP_replicate, accV_nil]
def PE15 (s : MSt) (env : Nat → MV) (G : List Int) (b : Nat) (cap : Option Nat) (acts : List Act15) (i : Nat) : Prop :=
  env 5 = .ptr (s.h.length + 3) 0 0 ∧ env 13 = .ptr (s.h.length + 4) 0 0 ∧ env 14 = accV encInt .nilsl (s.h.length + 1) 1 G ∧ env 98 = sV encAct b cap acts ∧ env 99 = .int .i64 acts.length ∧ env 100 = .int .i64 i

section
variable {s : MSt} {T T' : List Thing15} {G : List Int} {L L' : List Slot} {k : Nat} {J : List MObj} {x g h : Int}
theorem pput_some (hL : L.length ≤ 1024) (hl : low L) (hp : putA L x = some (L', g)) (hn : L'.length = L.length) : MCalls Try.prog 10 [.ptr (s.h.length + 3) 0 0, .int .i64 x] (playSt s T G L k J) fun r s' => r = .tuple [.int .i64 g, .int .i64 0] ∧ s' = playSt s T G L' k J :=
  (put_spec _ _ _ L x (play_AM hL hl)).mono fun r s' h => by rw [hp] at h; exact ⟨h.1, h.2.trans (play_put hn)⟩
theorem pput_none (hL : L.length ≤ 1024) (hl : low L) (hp : putA L x = none) : MCalls Try.prog 10 [.ptr (s.h.length + 3) 0 0, .int .i64 x] (playSt s T G L k J) fun r s' => r = .tuple [.int .i64 0, .int .i64 6] ∧ s' = playSt s T G L k J :=
  (put_spec _ _ _ L x (play_AM hL hl)).mono fun r s' h => by rw [hp] at h; exact h
theorem pputR_some (hT : lowT T) (hk : k ≤ 1024) (ht : T.length < 999999) (hp : putT T k x = some (T', g)) : MCalls Try.prog 20 [.ptr (s.h.length + 4) 0 0, .int .i64 x] (playSt s T G L k J) fun r s' => r = .tuple [.int .i64 g, .bool true] ∧ s' = playSt s T' G L k J :=
  (putR_spec _ _ _ k T x (play_RA hT) (by omega) hk ht).mono fun r s' h => by rw [hp] at h; exact ⟨h.1, h.2.trans play_putR⟩
theorem pputR_none (hT : lowT T) (hk : k ≤ 1024) (ht : T.length < 999999) (hp : putT T k x = none) : MCalls Try.prog 20 [.ptr (s.h.length + 4) 0 0, .int .i64 x] (playSt s T G L k J) fun r s' => r = .tuple [.int .i64 0, .bool false] ∧ s' = playSt s T G L k J :=
  (putR_spec _ _ _ k T x (play_RA hT) (by omega) hk ht).mono fun r s' h => by rw [hp] at h; exact h
theorem pget_some {j : Nat} {sl : Slot} (hL : L.length ≤ 1024) (hl : low L) (hf : findA L h = some j) (hj : L[j]? = some sl) : MCalls Try.prog 14 [.ptr (s.h.length + 3) 0 0, .int .i64 h] (playSt s T G L k J) fun r s' => r = .tuple [.int .i64 sl.x, .bool true] ∧ s' = playSt s T G L k J :=
  (get_spec _ _ _ L h (play_AM hL hl)).mono fun r s' h => by rw [hf, Option.bind_some, hj] at h; exact h
theorem pget_none (hL : L.length ≤ 1024) (hl : low L) (hf : findA L h = none) : MCalls Try.prog 14 [.ptr (s.h.length + 3) 0 0, .int .i64 h] (playSt s T G L k J) fun r s' => r = .tuple [.int .i64 0, .bool false] ∧ s' = playSt s T G L k J :=
  (get_spec _ _ _ L h (play_AM hL hl)).mono fun r s' h => by rw [hf, Option.bind_none] at h; exact h
theorem count_full {j : Nat} {sl t : Slot} (hj : L[j]? = some sl) (h : sl.full = t.full) : (L.set j t).countP (·.full) = L.countP (·.full) := by
  have := count_set (t := t) hj
  rw [h] at this
  split at this <;> omega
theorem pset_some {j : Nat} {sl : Slot} (hL : L.length ≤ 1024) (hl : low L) (hf : findA L h = some j) (hj : L[j]? = some sl) : MCalls Try.prog 15 [.ptr (s.h.length + 3) 0 0, .int .i64 h, .int .i64 x] (playSt s T G L k J) fun r s' => r = .bool true ∧ s' = playSt s T G (L.set j { sl with x := x }) k J :=
  (set_spec _ _ _ L h x (play_AM hL hl)).mono fun r s' h' => by
    have e : setA L h x = L.set j { sl with x := x } := by simp only [setA, hf, hj]
    rw [hf, e] at h'; exact ⟨h'.1, h'.2.trans (play_set (by simp) (count_full hj rfl))⟩
theorem pset_none (hL : L.length ≤ 1024) (hl : low L) (hf : findA L h = none) : MCalls Try.prog 15 [.ptr (s.h.length + 3) 0 0, .int .i64 h, .int .i64 x] (playSt s T G L k J) fun r s' => r = .bool false ∧ s' = playSt s T G L k J :=
  (set_spec _ _ _ L h x (play_AM hL hl)).mono fun r s' h' => by
    have e : setA L h x = L := by simp only [setA, hf]
    rw [hf, e] at h'; exact ⟨h'.1, h'.2.trans (play_set rfl rfl)⟩
theorem pdrop_some {j : Nat} {sl : Slot} (hL : L.length ≤ 1024) (hl : low L) (hf : findA L h = some j) (hj : L[j]? = some sl) : MCalls Try.prog 13 [.ptr (s.h.length + 3) 0 0, .int .i64 h] (playSt s T G L k J) fun r s' => r = .bool true ∧ s' = playSt s T G (L.set j ⟨0, false, sl.n⟩) k J :=
  (drop_spec _ _ _ L h (play_AM hL hl)).mono fun r s' h' => by
    have e : dropA L h = L.set j ⟨0, false, sl.n⟩ := by simp only [dropA, hf, hj]
    rw [hf, e] at h'; exact ⟨h'.1, h'.2.trans (play_put (by simp))⟩
theorem pdrop_none (hL : L.length ≤ 1024) (hl : low L) (hf : findA L h = none) : MCalls Try.prog 13 [.ptr (s.h.length + 3) 0 0, .int .i64 h] (playSt s T G L k J) fun r s' => r = .bool false ∧ s' = playSt s T G L k J :=
  (drop_spec _ _ _ L h (play_AM hL hl)).mono fun r s' h => by rw [hf] at h; exact h
end

theorem putT_n {T T' : List Thing15} {k : Nat} {x g : Int} (h : putT T k x = some (T', g)) (hl : T.length ≤ 60) (hn : ∀ t ∈ T, 0 ≤ t.n ∧ t.n ≤ 1000) : ∀ t ∈ T', 0 ≤ t.n ∧ t.n ≤ 1000 := by
  unfold putT at h
  split at h
  · simp only [Option.some.injEq, Prod.mk.injEq] at h
    obtain ⟨rfl, -⟩ := h
    intro t ht
    rcases List.mem_append.1 ht with ht | ht
    · exact hn t ht
    · simp only [List.mem_singleton] at ht; subst ht
      have : T.countP (slotP ‹Nat›) ≤ T.length := List.countP_le_length
      simp only
      omega
  · cases h
theorem set_n {T : List Thing15} {i : Nat} {t u : Thing15} (hi : T[i]? = some t) (hu : u.n = t.n) (hn : ∀ t ∈ T, 0 ≤ t.n ∧ t.n ≤ 1000) : ∀ t ∈ T.set i u, 0 ≤ t.n ∧ t.n ≤ 1000 := by
  intro y hy
  rcases List.mem_or_eq_of_mem_set hy with hy | rfl
  · exact hn y hy
  · rw [hu]; exact hn t (List.mem_of_getElem? hi)

theorem new_call {s s1 : MSt} {n m : Nat} {K : MV → MSt → Prop} (k : Nat) (hk : 1 ≤ k ∧ k ≤ 1024) (h : K (.ptr m 0 0) s1) (hn : s.h.length = n := by exact evN) (hm : n + 1 = m := by exact evN)
    (hs : s.ext [.blk 0 (rows encSlot (newA k)), .blk 0 [.msl n 0 3 0 k (some k), .int .i64 0]] = s1 := by exact evH) : MCalls Try.prog 8 [.int .i64 k] s K := by
  refine (new_spec s k).mono ?_
  rintro r s' hr
  rw [if_neg (by omega)] at hr
  obtain ⟨rfl, rfl⟩ := hr
  subst hn hm hs
  exact h

theorem plays_spec (s : MSt) (size : Int) (b : Nat) (cap : Option Nat) (acts : List Act15) :
    MCalls Try.prog 4 [.int .i64 size, sV encAct b cap acts] s fun r s' => r = .bool true ∧ s' = s := by
  refine mfreeze ?_
  by_cases h60 : 60 < acts.length
  · refine enter (f := 4) ?_; first | refine mseq ?_ | refine mregionL ?_ | skip
    repeat (first | refine runB ?_ | refine stepsD ?_ | with_reducible refine mregionX (id := 37) [0, 1, 3, 7, 0, 0, 32, 127, 255, 511] [⟨0, false, []⟩, ⟨1, false, []⟩, ⟨2, false, []⟩, ⟨3, false, []⟩, ⟨4, false, []⟩, ⟨5, false, []⟩, ⟨6, false, []⟩, ⟨7, false, []⟩, ⟨8, false, []⟩, ⟨9, true, []⟩] (by kernel_rfl) ?_)
    refine leave ?_
    exact freeze_end (K := fun r s' => r = .bool true ∧ s' = s) ⟨[], (ext_nil s).symm⟩ rfl ⟨rfl, rfl⟩
  by_cases hsz : size < 1 ∨ 1024 < size
  · have hnew := fun s => new_spec s size
    simp only [if_pos (show size < 1 ∨ size > 1024 by omega)] at hnew
    have HN := Hid.mk hnew; clear hnew
    rcases hsz with hsz | hsz
    all_goals
        refine enter (f := 4) ?_; first | refine mseq ?_ | refine mregionL ?_ | skip
        repeat (first | refine runB ?_ | refine stepsD ?_ | with_reducible refine mregionX (id := 37) [0, 1, 3, 7, 0, 0, 32, 127, 255, 511] [⟨0, false, []⟩, ⟨1, false, []⟩, ⟨2, false, []⟩, ⟨3, false, []⟩, ⟨4, false, []⟩, ⟨5, false, []⟩, ⟨6, false, []⟩, ⟨7, false, []⟩, ⟨8, false, []⟩, ⟨9, true, []⟩] (by kernel_rfl) ?_)
        refine mto (HN.out _) ?_
        repeat (first | refine runB ?_ | refine stepsD ?_ | with_reducible refine mregionX (id := 37) [0, 1, 3, 7, 0, 0, 32, 127, 255, 511] [⟨0, false, []⟩, ⟨1, false, []⟩, ⟨2, false, []⟩, ⟨3, false, []⟩, ⟨4, false, []⟩, ⟨5, false, []⟩, ⟨6, false, []⟩, ⟨7, false, []⟩, ⟨8, false, []⟩, ⟨9, true, []⟩] (by kernel_rfl) ?_)
        refine MCalls.mono (allqn_spec _) ?_
        rintro _ _ ⟨v1, v2, rfl, f1, f2, e⟩
        obtain rfl := e.symm
        obtain ⟨b1, c1, rfl⟩ := f1.sV
        obtain ⟨b2, c2, rfl⟩ := f2.sV
        clear f1 f2
        repeat (first | refine runB ?_ | refine stepsD ?_ | with_reducible refine mregionX (id := 37) [0, 1, 3, 7, 0, 0, 32, 127, 255, 511] [⟨0, false, []⟩, ⟨1, false, []⟩, ⟨2, false, []⟩, ⟨3, false, []⟩, ⟨4, false, []⟩, ⟨5, false, []⟩, ⟨6, false, []⟩, ⟨7, false, []⟩, ⟨8, false, []⟩, ⟨9, true, []⟩] (by kernel_rfl) ?_)
        refine leave ?_
        exact freeze_end (K := fun r s' => r = .bool true ∧ s' = s) ⟨[], (ext_nil s).symm⟩ rfl ⟨rfl, rfl⟩
  · obtain ⟨k, rfl⟩ : ∃ k : Nat, size = k := ⟨size.toNat, by omega⟩
    refine enter (f := 4) ?_; first | refine mseq ?_ | refine mregionL ?_ | skip
    refine mghosts [accO encT [], accO encInt []] ?_
    repeat (first | refine runB ?_ | refine stepsD ?_ | with_reducible refine mregionX (id := 37) [0, 1, 3, 7, 0, 0, 32, 127, 255, 511] [⟨0, false, []⟩, ⟨1, false, []⟩, ⟨2, false, []⟩, ⟨3, false, []⟩, ⟨4, false, []⟩, ⟨5, false, []⟩, ⟨6, false, []⟩, ⟨7, false, []⟩, ⟨8, false, []⟩, ⟨9, true, []⟩] (by kernel_rfl) ?_)
    refine new_call k (by omega) ?_
    repeat (first | refine runB ?_ | refine stepsD ?_ | with_reducible refine mregionX (id := 37) [0, 1, 3, 7, 0, 0, 32, 127, 255, 511] [⟨0, false, []⟩, ⟨1, false, []⟩, ⟨2, false, []⟩, ⟨3, false, []⟩, ⟨4, false, []⟩, ⟨5, false, []⟩, ⟨6, false, []⟩, ⟨7, false, []⟩, ⟨8, false, []⟩, ⟨9, true, []⟩] (by kernel_rfl) ?_)
    refine mloop (fun m env st => ∃ (i : Nat) (L : List Slot) (T : List Thing15) (G : List Int) (J : List MObj), m = acts.length - i ∧ i ≤ acts.length ∧ PE15 s env G b cap acts i ∧ st = playSt s T G L k J ∧ Play15 k i L T G) acts.length
      ⟨0, newA k, [], [], [], by omega, by omega, ⟨evE, evE, evE, evE, evE, evE⟩, play_init, ⟨same_new k, by simp [newA], by simp, by simp, by simp⟩⟩ ?_
    rintro m env st ⟨i, L, T, G, J, hm, hi, ⟨e5, e13, e14, e98, e99, e100⟩, rfl, hP⟩
    by_cases hlt : i < acts.length
    · have lT := hP.lowT (by omega) (by omega)
      have lL := hP.low (by omega) (by omega)
      have hGl := hP.gl
      have hTl := hP.tl
      have HP := Hid.mk hP; have LT := Hid.mk lT; have LL := Hid.mk lL; clear hP lT lL
      have sR : StopR 18 := ⟨⟩
      unfold playSt
      repeat (first | refine runB ?_ | refine stepsD ?_ | with_reducible refine mregionX (id := 37) [0, 1, 3, 7, 0, 0, 32, 127, 255, 511] [⟨0, false, []⟩, ⟨1, false, []⟩, ⟨2, false, []⟩, ⟨3, false, []⟩, ⟨4, false, []⟩, ⟨5, false, []⟩, ⟨6, false, []⟩, ⟨7, false, []⟩, ⟨8, false, []⟩, ⟨9, true, []⟩] (by kernel_rfl) ?_)
      clear sR
      refine mid2 (fun env1 st1 => ∃ hv : Int, st1 = playSt s T G L k (J ++ [.blk 0 (encAct acts[i])]) ∧ PE15 s env1 G b cap acts i ∧ env1 17 = .int .i64 hv ∧ env1 16 = .ptr (s.h.length + (J.length + 1 + 1 + 1 + 1 + 1)) 0 0) ?_ ?_
      · by_cases ho : 0 < acts[i].old
        · by_cases hg : 0 < G.length
          · have hmod : 0 ≤ acts[i].old % (G.length : Int) ∧ acts[i].old % (G.length : Int) < G.length := ⟨Int.emod_nonneg _ (by omega), Int.emod_lt_of_pos _ (by omega)⟩
            have hmod2 : (acts[i].old % (G.length : Int)).toNat < G.length := by omega
            repeat (first | refine runB ?_ | refine stepsD ?_ | with_reducible refine mregionX (id := 37) [0, 1, 3, 7, 0, 0, 32, 127, 255, 511] [⟨0, false, []⟩, ⟨1, false, []⟩, ⟨2, false, []⟩, ⟨3, false, []⟩, ⟨4, false, []⟩, ⟨5, false, []⟩, ⟨6, false, []⟩, ⟨7, false, []⟩, ⟨8, false, []⟩, ⟨9, true, []⟩] (by kernel_rfl) ?_)
            exact ⟨_, rfl, ⟨evE, evE, evE, evE, evE, evE⟩, evE, evE⟩
          · repeat (first | refine runB ?_ | refine stepsD ?_ | with_reducible refine mregionX (id := 37) [0, 1, 3, 7, 0, 0, 32, 127, 255, 511] [⟨0, false, []⟩, ⟨1, false, []⟩, ⟨2, false, []⟩, ⟨3, false, []⟩, ⟨4, false, []⟩, ⟨5, false, []⟩, ⟨6, false, []⟩, ⟨7, false, []⟩, ⟨8, false, []⟩, ⟨9, true, []⟩] (by kernel_rfl) ?_)
            exact ⟨_, rfl, ⟨evE, evE, evE, evE, evE, evE⟩, evE, evE⟩
        · repeat (first | refine runB ?_ | refine stepsD ?_ | with_reducible refine mregionX (id := 37) [0, 1, 3, 7, 0, 0, 32, 127, 255, 511] [⟨0, false, []⟩, ⟨1, false, []⟩, ⟨2, false, []⟩, ⟨3, false, []⟩, ⟨4, false, []⟩, ⟨5, false, []⟩, ⟨6, false, []⟩, ⟨7, false, []⟩, ⟨8, false, []⟩, ⟨9, true, []⟩] (by kernel_rfl) ?_)
          exact ⟨_, rfl, ⟨evE, evE, evE, evE, evE, evE⟩, evE, evE⟩
      · clear e5 e13 e14 e98 e99 e100 env
        rintro env st ⟨hv, rfl, ⟨e5, e13, e14, e98, e99, e100⟩, e17, e16⟩
        have sB : StopB 2 := ⟨⟩
        unfold playSt
        repeat (first | refine runB ?_ | refine stepsD ?_ | with_reducible refine mregionX (id := 37) [0, 1, 3, 7, 0, 0, 32, 127, 255, 511] [⟨0, false, []⟩, ⟨1, false, []⟩, ⟨2, false, []⟩, ⟨3, false, []⟩, ⟨4, false, []⟩, ⟨5, false, []⟩, ⟨6, false, []⟩, ⟨7, false, []⟩, ⟨8, false, []⟩, ⟨9, true, []⟩] (by kernel_rfl) ?_)
        refine mto (findR_spec _ _ _ _ T hv (play_RA LT.out)) ?_
        repeat (first | refine runB ?_ | refine stepsD ?_ | with_reducible refine mregionX (id := 37) [0, 1, 3, 7, 0, 0, 32, 127, 255, 511] [⟨0, false, []⟩, ⟨1, false, []⟩, ⟨2, false, []⟩, ⟨3, false, []⟩, ⟨4, false, []⟩, ⟨5, false, []⟩, ⟨6, false, []⟩, ⟨7, false, []⟩, ⟨8, false, []⟩, ⟨9, true, []⟩] (by kernel_rfl) ?_)
        clear sB
        have hL : L.length ≤ 1024 := by rw [HP.out.len]; omega
        have hk : k ≤ 1024 := by omega
        have hsf := same_find HP.out.same hL hv
        refine mid (fun env1 st1 => ∃ L' T' G' J', st1 = playSt s T' G' L' k J' ∧ PE15 s env1 G' b cap acts i ∧ Play15 k (i + 1) L' T' G') ?_ ?_
        · by_cases k0 : acts[i].kind = 0
          · clear hsf
            have hsp := same_put HP.out.same acts[i].x
            rw [HP.out.len] at hsp
            cases hpa : putA L acts[i].x with
            | some p =>
              obtain ⟨L', g⟩ := p
              rw [hpa] at hsp
              obtain ⟨T', hpt, hS, hl1, hl2⟩ := hsp
              have H : Hid (L'.length = k ∧ T'.length = T.length + 1 ∧ Same15 L' T' ∧ putT T k acts[i].x = some (T', g)) := ⟨⟨hl1, hl2, hS, hpt⟩⟩
              have HA := Hid.mk hpa
              clear hpa hpt hS hl1 hl2
              repeat (first | refine runB ?_ | refine stepsD ?_ | with_reducible refine mregionX (id := 37) [0, 1, 3, 7, 0, 0, 32, 127, 255, 511] [⟨0, false, []⟩, ⟨1, false, []⟩, ⟨2, false, []⟩, ⟨3, false, []⟩, ⟨4, false, []⟩, ⟨5, false, []⟩, ⟨6, false, []⟩, ⟨7, false, []⟩, ⟨8, false, []⟩, ⟨9, true, []⟩] (by kernel_rfl) ?_)
              refine mto (pput_some hL LL.out HA.out (by rw [H.out.1, HP.out.len])) ?_
              unfold playSt
              repeat (first | refine runB ?_ | refine stepsD ?_ | with_reducible refine mregionX (id := 37) [0, 1, 3, 7, 0, 0, 32, 127, 255, 511] [⟨0, false, []⟩, ⟨1, false, []⟩, ⟨2, false, []⟩, ⟨3, false, []⟩, ⟨4, false, []⟩, ⟨5, false, []⟩, ⟨6, false, []⟩, ⟨7, false, []⟩, ⟨8, false, []⟩, ⟨9, true, []⟩] (by kernel_rfl) ?_)
              refine mto (pputR_some LT.out hk (by omega) H.out.2.2.2) ?_
              unfold playSt
              repeat (first | refine runB ?_ | refine stepsD ?_ | with_reducible refine mregionX (id := 37) [0, 1, 3, 7, 0, 0, 32, 127, 255, 511] [⟨0, false, []⟩, ⟨1, false, []⟩, ⟨2, false, []⟩, ⟨3, false, []⟩, ⟨4, false, []⟩, ⟨5, false, []⟩, ⟨6, false, []⟩, ⟨7, false, []⟩, ⟨8, false, []⟩, ⟨9, true, []⟩] (by kernel_rfl) ?_)
              exact ⟨L', T', G ++ [g], _, rfl, ⟨evE, evE, evE, evE, evE, evE⟩, ⟨H.out.2.2.1, H.out.1, by rw [H.out.2.1]; omega, by simp; omega, putT_n H.out.2.2.2 (by omega) HP.out.tn⟩⟩
            | none =>
              rw [hpa] at hsp
              have H := Hid.mk hsp
              have HA := Hid.mk hpa
              clear hpa hsp
              repeat (first | refine runB ?_ | refine stepsD ?_ | with_reducible refine mregionX (id := 37) [0, 1, 3, 7, 0, 0, 32, 127, 255, 511] [⟨0, false, []⟩, ⟨1, false, []⟩, ⟨2, false, []⟩, ⟨3, false, []⟩, ⟨4, false, []⟩, ⟨5, false, []⟩, ⟨6, false, []⟩, ⟨7, false, []⟩, ⟨8, false, []⟩, ⟨9, true, []⟩] (by kernel_rfl) ?_)
              refine mto (pput_none hL LL.out HA.out) ?_
              unfold playSt
              repeat (first | refine runB ?_ | refine stepsD ?_ | with_reducible refine mregionX (id := 37) [0, 1, 3, 7, 0, 0, 32, 127, 255, 511] [⟨0, false, []⟩, ⟨1, false, []⟩, ⟨2, false, []⟩, ⟨3, false, []⟩, ⟨4, false, []⟩, ⟨5, false, []⟩, ⟨6, false, []⟩, ⟨7, false, []⟩, ⟨8, false, []⟩, ⟨9, true, []⟩] (by kernel_rfl) ?_)
              refine mto (pputR_none LT.out hk (by omega) H.out) ?_
              unfold playSt
              repeat (first | refine runB ?_ | refine stepsD ?_ | with_reducible refine mregionX (id := 37) [0, 1, 3, 7, 0, 0, 32, 127, 255, 511] [⟨0, false, []⟩, ⟨1, false, []⟩, ⟨2, false, []⟩, ⟨3, false, []⟩, ⟨4, false, []⟩, ⟨5, false, []⟩, ⟨6, false, []⟩, ⟨7, false, []⟩, ⟨8, false, []⟩, ⟨9, true, []⟩] (by kernel_rfl) ?_)
              exact ⟨L, T, G, _, rfl, ⟨evE, evE, evE, evE, evE, evE⟩, ⟨HP.out.same, HP.out.len, by omega, by omega, HP.out.tn⟩⟩
          · cases hf : findA L hv with
            | none =>
              rw [hf] at hsf
              have hfi : findI T hv = -1 := by unfold findI; rw [hsf]
              have HF := Hid.mk hf
              clear hsf hf
              by_cases k1 : acts[i].kind = 1
              · repeat (first | refine runB ?_ | refine stepsD ?_ | with_reducible refine mregionX (id := 37) [0, 1, 3, 7, 0, 0, 32, 127, 255, 511] [⟨0, false, []⟩, ⟨1, false, []⟩, ⟨2, false, []⟩, ⟨3, false, []⟩, ⟨4, false, []⟩, ⟨5, false, []⟩, ⟨6, false, []⟩, ⟨7, false, []⟩, ⟨8, false, []⟩, ⟨9, true, []⟩] (by kernel_rfl) ?_)
                refine mto (pget_none hL LL.out HF.out) ?_
                unfold playSt
                repeat (first | refine runB ?_ | refine stepsD ?_ | with_reducible refine mregionX (id := 37) [0, 1, 3, 7, 0, 0, 32, 127, 255, 511] [⟨0, false, []⟩, ⟨1, false, []⟩, ⟨2, false, []⟩, ⟨3, false, []⟩, ⟨4, false, []⟩, ⟨5, false, []⟩, ⟨6, false, []⟩, ⟨7, false, []⟩, ⟨8, false, []⟩, ⟨9, true, []⟩] (by kernel_rfl) ?_)
                exact ⟨L, T, G, _, rfl, ⟨evE, evE, evE, evE, evE, evE⟩, ⟨HP.out.same, HP.out.len, by omega, by omega, HP.out.tn⟩⟩
              by_cases k2 : acts[i].kind = 2
              · repeat (first | refine runB ?_ | refine stepsD ?_ | with_reducible refine mregionX (id := 37) [0, 1, 3, 7, 0, 0, 32, 127, 255, 511] [⟨0, false, []⟩, ⟨1, false, []⟩, ⟨2, false, []⟩, ⟨3, false, []⟩, ⟨4, false, []⟩, ⟨5, false, []⟩, ⟨6, false, []⟩, ⟨7, false, []⟩, ⟨8, false, []⟩, ⟨9, true, []⟩] (by kernel_rfl) ?_)
                refine mto (pset_none hL LL.out HF.out) ?_
                unfold playSt
                repeat (first | refine runB ?_ | refine stepsD ?_ | with_reducible refine mregionX (id := 37) [0, 1, 3, 7, 0, 0, 32, 127, 255, 511] [⟨0, false, []⟩, ⟨1, false, []⟩, ⟨2, false, []⟩, ⟨3, false, []⟩, ⟨4, false, []⟩, ⟨5, false, []⟩, ⟨6, false, []⟩, ⟨7, false, []⟩, ⟨8, false, []⟩, ⟨9, true, []⟩] (by kernel_rfl) ?_)
                exact ⟨L, T, G, _, rfl, ⟨evE, evE, evE, evE, evE, evE⟩, ⟨HP.out.same, HP.out.len, by omega, by omega, HP.out.tn⟩⟩
              by_cases k3 : acts[i].kind = 3
              · repeat (first | refine runB ?_ | refine stepsD ?_ | with_reducible refine mregionX (id := 37) [0, 1, 3, 7, 0, 0, 32, 127, 255, 511] [⟨0, false, []⟩, ⟨1, false, []⟩, ⟨2, false, []⟩, ⟨3, false, []⟩, ⟨4, false, []⟩, ⟨5, false, []⟩, ⟨6, false, []⟩, ⟨7, false, []⟩, ⟨8, false, []⟩, ⟨9, true, []⟩] (by kernel_rfl) ?_)
                refine mto (pdrop_none hL LL.out HF.out) ?_
                unfold playSt
                repeat (first | refine runB ?_ | refine stepsD ?_ | with_reducible refine mregionX (id := 37) [0, 1, 3, 7, 0, 0, 32, 127, 255, 511] [⟨0, false, []⟩, ⟨1, false, []⟩, ⟨2, false, []⟩, ⟨3, false, []⟩, ⟨4, false, []⟩, ⟨5, false, []⟩, ⟨6, false, []⟩, ⟨7, false, []⟩, ⟨8, false, []⟩, ⟨9, true, []⟩] (by kernel_rfl) ?_)
                exact ⟨L, T, G, _, rfl, ⟨evE, evE, evE, evE, evE, evE⟩, ⟨HP.out.same, HP.out.len, by omega, by omega, HP.out.tn⟩⟩
              · repeat (first | refine runB ?_ | refine stepsD ?_ | with_reducible refine mregionX (id := 37) [0, 1, 3, 7, 0, 0, 32, 127, 255, 511] [⟨0, false, []⟩, ⟨1, false, []⟩, ⟨2, false, []⟩, ⟨3, false, []⟩, ⟨4, false, []⟩, ⟨5, false, []⟩, ⟨6, false, []⟩, ⟨7, false, []⟩, ⟨8, false, []⟩, ⟨9, true, []⟩] (by kernel_rfl) ?_)
                exact ⟨L, T, G, _, rfl, ⟨evE, evE, evE, evE, evE, evE⟩, ⟨HP.out.same, HP.out.len, by omega, by omega, HP.out.tn⟩⟩
            | some j =>
              rw [hf] at hsf
              obtain ⟨at_, sl, hft, hj, hfull, hti⟩ := hsf
              have hlt2 : at_ < T.length := (List.getElem?_eq_some_iff.1 hti).1
              have hfi : findI T hv = at_ := by unfold findI; rw [hft]
              have hget : T[at_] = ⟨j, sl.n, sl.x, false⟩ := (List.getElem?_eq_some_iff.1 hti).2
              have H : Hid (findA L hv = some j ∧ L[j]? = some sl ∧ sl.full = true ∧ T[at_]? = some ⟨j, sl.n, sl.x, false⟩) := ⟨⟨hf, hj, hfull, hti⟩⟩
              have H2 : Hid (Same15 (L.set j { sl with x := acts[i].x }) (T.set at_ ⟨j, sl.n, acts[i].x, false⟩)) := ⟨same_set HP.out.same hj hfull hti acts[i].x⟩
              have H3 : Hid (Same15 (L.set j ⟨0, false, sl.n⟩) (T.set at_ ⟨j, sl.n, sl.x, true⟩)) := ⟨same_drop HP.out.same hj hfull hti⟩
              have W2 : Hid ((rows encT T).set (at_ * 4 + 2) (.int .i64 acts[i].x) = rows encT (T.set at_ ⟨j, sl.n, acts[i].x, false⟩) ∧ (T.set at_ ⟨j, sl.n, acts[i].x, false⟩).length = T.length) := ⟨⟨rows_set encT_len hti (by decide) rfl, by simp⟩⟩
              have W3 : Hid ((rows encT T).set (at_ * 4 + 3) (.bool true) = rows encT (T.set at_ ⟨j, sl.n, sl.x, true⟩) ∧ (T.set at_ ⟨j, sl.n, sl.x, true⟩).length = T.length) := ⟨⟨rows_set encT_len hti (by decide) rfl, by simp⟩⟩
              clear hft hj hfull hti hf
              by_cases k1 : acts[i].kind = 1
              · repeat (first | refine runB ?_ | refine stepsD ?_ | with_reducible refine mregionX (id := 37) [0, 1, 3, 7, 0, 0, 32, 127, 255, 511] [⟨0, false, []⟩, ⟨1, false, []⟩, ⟨2, false, []⟩, ⟨3, false, []⟩, ⟨4, false, []⟩, ⟨5, false, []⟩, ⟨6, false, []⟩, ⟨7, false, []⟩, ⟨8, false, []⟩, ⟨9, true, []⟩] (by kernel_rfl) ?_)
                refine mto (pget_some hL LL.out H.out.1 H.out.2.1) ?_
                unfold playSt
                repeat (first | refine runB ?_ | refine stepsD ?_ | with_reducible refine mregionX (id := 37) [0, 1, 3, 7, 0, 0, 32, 127, 255, 511] [⟨0, false, []⟩, ⟨1, false, []⟩, ⟨2, false, []⟩, ⟨3, false, []⟩, ⟨4, false, []⟩, ⟨5, false, []⟩, ⟨6, false, []⟩, ⟨7, false, []⟩, ⟨8, false, []⟩, ⟨9, true, []⟩] (by kernel_rfl) ?_)
                exact ⟨L, T, G, _, rfl, ⟨evE, evE, evE, evE, evE, evE⟩, ⟨HP.out.same, HP.out.len, by omega, by omega, HP.out.tn⟩⟩
              by_cases k2 : acts[i].kind = 2
              · repeat (first | refine runB ?_ | refine stepsD ?_ | with_reducible refine mregionX (id := 37) [0, 1, 3, 7, 0, 0, 32, 127, 255, 511] [⟨0, false, []⟩, ⟨1, false, []⟩, ⟨2, false, []⟩, ⟨3, false, []⟩, ⟨4, false, []⟩, ⟨5, false, []⟩, ⟨6, false, []⟩, ⟨7, false, []⟩, ⟨8, false, []⟩, ⟨9, true, []⟩] (by kernel_rfl) ?_)
                refine mto (pset_some hL LL.out H.out.1 H.out.2.1) ?_
                unfold playSt
                have w2 := W2.out
                clear hget
                repeat (first | refine runB ?_ | refine stepsD ?_ | with_reducible refine mregionX (id := 37) [0, 1, 3, 7, 0, 0, 32, 127, 255, 511] [⟨0, false, []⟩, ⟨1, false, []⟩, ⟨2, false, []⟩, ⟨3, false, []⟩, ⟨4, false, []⟩, ⟨5, false, []⟩, ⟨6, false, []⟩, ⟨7, false, []⟩, ⟨8, false, []⟩, ⟨9, true, []⟩] (by kernel_rfl) ?_)
                exact ⟨_, _, G, _, (play_same (by simp)).symm, ⟨evE, evE, evE, evE, evE, evE⟩, ⟨H2.out, by simp [HP.out.len], by simp; omega, by omega, set_n H.out.2.2.2 rfl HP.out.tn⟩⟩
              by_cases k3 : acts[i].kind = 3
              · repeat (first | refine runB ?_ | refine stepsD ?_ | with_reducible refine mregionX (id := 37) [0, 1, 3, 7, 0, 0, 32, 127, 255, 511] [⟨0, false, []⟩, ⟨1, false, []⟩, ⟨2, false, []⟩, ⟨3, false, []⟩, ⟨4, false, []⟩, ⟨5, false, []⟩, ⟨6, false, []⟩, ⟨7, false, []⟩, ⟨8, false, []⟩, ⟨9, true, []⟩] (by kernel_rfl) ?_)
                refine mto (pdrop_some hL LL.out H.out.1 H.out.2.1) ?_
                unfold playSt
                have w3 := W3.out
                clear hget
                repeat (first | refine runB ?_ | refine stepsD ?_ | with_reducible refine mregionX (id := 37) [0, 1, 3, 7, 0, 0, 32, 127, 255, 511] [⟨0, false, []⟩, ⟨1, false, []⟩, ⟨2, false, []⟩, ⟨3, false, []⟩, ⟨4, false, []⟩, ⟨5, false, []⟩, ⟨6, false, []⟩, ⟨7, false, []⟩, ⟨8, false, []⟩, ⟨9, true, []⟩] (by kernel_rfl) ?_)
                exact ⟨_, _, G, _, (play_same (by simp)).symm, ⟨evE, evE, evE, evE, evE, evE⟩, ⟨H3.out, by simp [HP.out.len], by simp; omega, by omega, set_n H.out.2.2.2 rfl HP.out.tn⟩⟩
              · repeat (first | refine runB ?_ | refine stepsD ?_ | with_reducible refine mregionX (id := 37) [0, 1, 3, 7, 0, 0, 32, 127, 255, 511] [⟨0, false, []⟩, ⟨1, false, []⟩, ⟨2, false, []⟩, ⟨3, false, []⟩, ⟨4, false, []⟩, ⟨5, false, []⟩, ⟨6, false, []⟩, ⟨7, false, []⟩, ⟨8, false, []⟩, ⟨9, true, []⟩] (by kernel_rfl) ?_)
                exact ⟨L, T, G, _, rfl, ⟨evE, evE, evE, evE, evE, evE⟩, ⟨HP.out.same, HP.out.len, by omega, by omega, HP.out.tn⟩⟩
        · clear hsf HP LT LL hGl hTl e5 e13 e14 e98 e99 e100 e16 e17 env hL L T G J
          rintro env st ⟨L, T, G, J, rfl, ⟨e5, e13, e14, e98, e99, e100⟩, hP⟩
          have HP := Hid.mk hP
          have LT := Hid.mk (hP.lowT hk (by omega))
          have LL := Hid.mk (hP.low hk (by omega))
          clear hP
          have hL : L.length ≤ 1024 := by rw [HP.out.len]; omega
          have hA : L.countP (·.full) = (allA 0 L).length := (allA_len L 0).symm
          have hAR : allA 0 L = allT T k := by have := same_all' HP.out.same; rw [HP.out.len] at this; exact this.symm
          have hlen1 : (allA 0 L).length ≤ 1024 := by rw [← hA]; exact Nat.le_trans List.countP_le_length hL
          have HA := Hid.mk hA; have HR := Hid.mk hAR; clear hA hAR
          unfold playSt
          repeat (first | refine runB ?_ | refine stepsD ?_ | with_reducible refine mregionX (id := 37) [0, 1, 3, 7, 0, 0, 32, 127, 255, 511] [⟨0, false, []⟩, ⟨1, false, []⟩, ⟨2, false, []⟩, ⟨3, false, []⟩, ⟨4, false, []⟩, ⟨5, false, []⟩, ⟨6, false, []⟩, ⟨7, false, []⟩, ⟨8, false, []⟩, ⟨9, true, []⟩] (by kernel_rfl) ?_)
          refine mto (all_spec _ (s.h.length + 3) (by simp [MSt.ext])) ?_
          repeat (first | refine runB ?_ | refine stepsD ?_ | with_reducible refine mregionX (id := 37) [0, 1, 3, 7, 0, 0, 32, 127, 255, 511] [⟨0, false, []⟩, ⟨1, false, []⟩, ⟨2, false, []⟩, ⟨3, false, []⟩, ⟨4, false, []⟩, ⟨5, false, []⟩, ⟨6, false, []⟩, ⟨7, false, []⟩, ⟨8, false, []⟩, ⟨9, true, []⟩] (by kernel_rfl) ?_)
          refine MCalls.mono (allq_spec _ _ _ L (play_AM hL LL.out)) ?_
          rintro _ _ ⟨v1, v2, rfl, f1, f2, e⟩
          obtain rfl := e.symm
          obtain ⟨b1, c1, rfl⟩ := f1.sV
          obtain ⟨b2, c2, rfl⟩ := f2.sV
          clear f1 f2 e
          repeat (first | refine runB ?_ | refine stepsD ?_ | with_reducible refine mregionX (id := 37) [0, 1, 3, 7, 0, 0, 32, 127, 255, 511] [⟨0, false, []⟩, ⟨1, false, []⟩, ⟨2, false, []⟩, ⟨3, false, []⟩, ⟨4, false, []⟩, ⟨5, false, []⟩, ⟨6, false, []⟩, ⟨7, false, []⟩, ⟨8, false, []⟩, ⟨9, true, []⟩] (by kernel_rfl) ?_)
          refine mto (allR_spec _ _ _ k T (play_RA LT.out) hk) ?_
          repeat (first | refine runB ?_ | refine stepsD ?_ | with_reducible refine mregionX (id := 37) [0, 1, 3, 7, 0, 0, 32, 127, 255, 511] [⟨0, false, []⟩, ⟨1, false, []⟩, ⟨2, false, []⟩, ⟨3, false, []⟩, ⟨4, false, []⟩, ⟨5, false, []⟩, ⟨6, false, []⟩, ⟨7, false, []⟩, ⟨8, false, []⟩, ⟨9, true, []⟩] (by kernel_rfl) ?_)
          refine mto (psame sV_FS fsV_FS (by rw [HR.out]) (by rw [List.length_map]; omega)) ?_
          repeat (first | refine runB ?_ | refine stepsD ?_ | with_reducible refine mregionX (id := 37) [0, 1, 3, 7, 0, 0, 32, 127, 255, 511] [⟨0, false, []⟩, ⟨1, false, []⟩, ⟨2, false, []⟩, ⟨3, false, []⟩, ⟨4, false, []⟩, ⟨5, false, []⟩, ⟨6, false, []⟩, ⟨7, false, []⟩, ⟨8, false, []⟩, ⟨9, true, []⟩] (by kernel_rfl) ?_)
          refine mto (psame sV_FS fsV_FS (by rw [HR.out]) (by rw [List.length_map]; omega)) ?_
          repeat (first | refine runB ?_ | refine stepsD ?_ | with_reducible refine mregionX (id := 37) [0, 1, 3, 7, 0, 0, 32, 127, 255, 511] [⟨0, false, []⟩, ⟨1, false, []⟩, ⟨2, false, []⟩, ⟨3, false, []⟩, ⟨4, false, []⟩, ⟨5, false, []⟩, ⟨6, false, []⟩, ⟨7, false, []⟩, ⟨8, false, []⟩, ⟨9, true, []⟩] (by kernel_rfl) ?_)
          refine mto (len_spec _ _ _ L (play_AM hL LL.out)) ?_
          have hc : L.countP (·.full) ≤ (allT T k).length ∧ (allT T k).length ≤ L.countP (·.full) := by rw [HA.out, HR.out]; exact ⟨Nat.le_refl _, Nat.le_refl _⟩
          repeat (first | refine runB ?_ | refine stepsD ?_ | with_reducible refine mregionX (id := 37) [0, 1, 3, 7, 0, 0, 32, 127, 255, 511] [⟨0, false, []⟩, ⟨1, false, []⟩, ⟨2, false, []⟩, ⟨3, false, []⟩, ⟨4, false, []⟩, ⟨5, false, []⟩, ⟨6, false, []⟩, ⟨7, false, []⟩, ⟨8, false, []⟩, ⟨9, true, []⟩] (by kernel_rfl) ?_)
          exact ⟨acts.length - (i + 1), by omega, i + 1, L, T, G, J, rfl, by omega, ⟨evE, evE, evE, evE, evE, evE⟩, rfl, HP.out⟩
    · repeat (first | refine runB ?_ | refine stepsD ?_ | with_reducible refine mregionX (id := 37) [0, 1, 3, 7, 0, 0, 32, 127, 255, 511] [⟨0, false, []⟩, ⟨1, false, []⟩, ⟨2, false, []⟩, ⟨3, false, []⟩, ⟨4, false, []⟩, ⟨5, false, []⟩, ⟨6, false, []⟩, ⟨7, false, []⟩, ⟨8, false, []⟩, ⟨9, true, []⟩] (by kernel_rfl) ?_)
      refine leave ?_
      exact freeze_end (K := fun r s' => r = .bool true ∧ s' = s) ⟨_, rfl⟩ rfl ⟨rfl, rfl⟩

end Go.Mir
