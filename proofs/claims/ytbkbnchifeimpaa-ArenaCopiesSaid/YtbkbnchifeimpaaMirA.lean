import Derived.CallsIn
import Derived.OrdersIn
import Derived.RangeFuncRecord
import Derived.RangeFuncLeaves
import Derived.Laws.World
import Derived.Laws.Sem
import Derived.Laws.Strings
import Derived.Laws.BytesString
import Derived.IntWalk
set_option linter.unusedVariables false
set_option linter.unusedSimpArgs false
/- The mirror: values whose unchanging memory is written out, stores of numbered blocks, and what it says that a real world is mirrored. -/
namespace Go.Mir

/-- Mirror values. 'fsl', 'fptr' carry what lies in memory that nobody writes any more; 'ptr', 'msl', 'map' name blocks of the mirror's store. -/
inductive MV where
  | int (k : IntKind) (n : Int)
  | bool (b : Bool)
  | flt (k : FloatKind) (bits : Nat)
  | str (l : List UInt8)
  | nilptr | nilsl | nilmap | nilfunc | niliface
  | ptr (β st off : Nat)
  | fptr (cells : List MV) (off : Nat)
  | msl (β st sz off len : Nat) (cap : Option Nat)
  | fsl (cells : List MV) (len : Nat) (cap : Option Nat)
  /-- An empty slice that is not nil, of whatever memory. -/
  | esl
  | map (β : Nat)
  | func (fn : Fn) (first captured : List MV)
  | yield (l : Nat)
  | iface (t : TypeId) (v : MV)
  | agg (cells : List MV)
  | tuple (vs : List MV)
  | any
  deriving Inhabited

abbrev MV.undef : MV := .tuple []

inductive MObj where
  | dead
  /-- A number that waits for a block: nothing points there. -/
  | ghost
  | blk (st : Nat) (cells : List MV)
  | map (entries : List (MV × MV))
  deriving Inhabited

/-- A loop over a function, as the mirror holds it. -/
structure MLoop where
  fn : FuncId
  n : Nat
  env : Nat → MV
  params : Array Tmp
  assign : Code
  body : Code
  state : LoopState
  pending : Option Code

structure MSt where
  h : List MObj
  ls : List MLoop
  /-- What package-level variables are known to hold, unchanging. -/
  gl : Nat → Option (List MV)

/-- Where the mirror's blocks and loops lie. -/
structure Emb where
  b : Nat → Nat × Nat
  m : Nat → Nat
  l : Nat → Nat

def MSt.live (s : MSt) (β st : Nat) : Prop := ∃ cells, s.h[β]? = some (.blk st cells)

/-- A block of the real heap that the mirror may write. -/
def Own (m : Emb) (s : MSt) (b : Nat) : Prop :=
  (∃ β st cells, s.h[β]? = some (.blk st cells) ∧ (m.b β).1 = b) ∨ (∃ β es, s.h[β]? = some (.map es) ∧ m.m β = b) ∨ (∃ l L, s.ls[l]? = some L ∧ m.l l = b)

/-- May a slice or pointer of that stamp be come to no more? -/
def MSt.stale (s : MSt) (β st : Nat) : Prop :=
  s.h[β]? = some .dead ∨ ∃ st' cells, s.h[β]? = some (.blk st' cells) ∧ st < st'

def one1 (v : Value) : Bool := match v with | .agg _ | .tuple _ => false | _ => true

inductive RelV (m : Emb) (s : MSt) (w : World) : MV → Value → Prop
  | int (k n) : RelV m s w (.int k n) (.int k n)
  | bool (b) : RelV m s w (.bool b) (.bool b)
  | flt (k n) : RelV m s w (.flt k n) (.float k n)
  | str (l) : RelV m s w (.str l) (.string ⟨l.toArray⟩)
  | nilptr : RelV m s w .nilptr (.pointer none)
  | nilsl : RelV m s w .nilsl (.slice none 0 0)
  | nilmap : RelV m s w .nilmap (.map none)
  | nilfunc : RelV m s w .nilfunc .nilFunc
  | niliface : RelV m s w .niliface .nilIface
  | ptr (β st off) (h : s.live β st) : RelV m s w (.ptr β st off) (.pointer (some ⟨(m.b β).1, (m.b β).2 + off, none⟩))
  | ptrStale (β st off v) (h : s.stale β st) (hv : one1 v = true) : RelV m s w (.ptr β st off) v
  | fptr (cells off b base) (vs : List Value) (hb : b < w.heap.size) (ho : ¬ Own m s b) (hl : cells.length = vs.length)
      (hc : ∀ j (h : j < vs.length), w.cell? ⟨b, base + j, none⟩ = some vs[j])
      (hv : ∀ j (h : j < cells.length) (h' : j < vs.length), RelV m s w cells[j] vs[j]) :
      RelV m s w (.fptr cells off) (.pointer (some ⟨b, base + off, none⟩))
  | msl (β st sz off len cap rcap) (h : s.live β st) (hlen : len ≤ rcap) (hcap : ∀ c, cap = some c → rcap = c)
      (harr : ∃ arr el fz, w.heap[(m.b β).1]? = some (.cells arr el fz) ∧ (m.b β).2 + off + rcap * sz ≤ arr.size) :
      RelV m s w (.msl β st sz off len cap) (.slice (some ⟨(m.b β).1, (m.b β).2 + off, none⟩) len rcap)
  | mslStale (β st sz off len cap v) (h : s.stale β st) (hv : one1 v = true) : RelV m s w (.msl β st sz off len cap) v
  | fsl (cells len cap b off rcap) (vs : List Value) (hb : b < w.heap.size) (ho : ¬ Own m s b) (hlen : len ≤ rcap) (hcap : ∀ c, cap = some c → rcap = c)
      (hl : cells.length = vs.length) (hc : ∀ j (h : j < vs.length), w.cell? ⟨b, off + j, none⟩ = some vs[j])
      (hv : ∀ j (h : j < cells.length) (h' : j < vs.length), RelV m s w cells[j] vs[j]) :
      RelV m s w (.fsl cells len cap) (.slice (some ⟨b, off, none⟩) len rcap)
  | esl (a cap) : RelV m s w .esl (.slice (some a) 0 cap)
  | map (β es) (h : s.h[β]? = some (.map es)) : RelV m s w (.map β) (.map (some (m.m β)))
  | mapStale (β v) (h : s.h[β]? = some .dead) (hv : one1 v = true) : RelV m s w (.map β) v
  | func (fn fs cs) (rfs rcs : Array Value) (hfn : ∀ l, fn ≠ .yield l) (hf : fs.length = rfs.size) (hc : cs.length = rcs.size)
      (h1 : ∀ j (h : j < fs.length) (h' : j < rfs.size), RelV m s w fs[j] rfs[j])
      (h2 : ∀ j (h : j < cs.length) (h' : j < rcs.size), RelV m s w cs[j] rcs[j]) :
      RelV m s w (.func fn fs cs) (.func fn rfs rcs)
  | yield (l) (h : l < s.ls.length) : RelV m s w (.yield l) (.func (.yield (m.l l)) #[] #[])
  | iface (t v rv) (h : RelV m s w v rv) : RelV m s w (.iface t v) (.iface t rv)
  | agg (cs) (rcs : Array Value) (hc : cs.length = rcs.size) (h : ∀ j (h : j < cs.length) (h' : j < rcs.size), RelV m s w cs[j] rcs[j]) :
      RelV m s w (.agg cs) (.agg rcs)
  | tuple (cs) (rcs : Array Value) (hc : cs.length = rcs.size) (h : ∀ j (h : j < cs.length) (h' : j < rcs.size), RelV m s w cs[j] rcs[j]) :
      RelV m s w (.tuple cs) (.tuple rcs)
  | any (v) : RelV m s w .any v

end Go.Mir

/- The mirror's relation to a world, and what a step may turn: all that is not the mirror's own stays as it is. -/
namespace Go.Mir

theorem cell?_congr {w w' : World} {b : Nat} (h : w'.heap[b]? = w.heap[b]?) (o : Nat) : w'.cell? ⟨b, o, none⟩ = w.cell? ⟨b, o, none⟩ := by
  simp [World.cell?, h]

/-- All numbers of blocks in a value are below nb, all loops below ny. -/
def MV.lt (nb ny : Nat) : MV → Bool
  | .ptr β _ _ => β < nb
  | .msl β _ _ _ _ _ => β < nb
  | .map β => β < nb
  | .yield l => l < ny
  | .fptr cs _ => lts nb ny cs
  | .fsl cs _ _ => lts nb ny cs
  | .func _ fs cs => lts nb ny fs && lts nb ny cs
  | .iface _ v => MV.lt nb ny v
  | .agg cs => lts nb ny cs
  | .tuple cs => lts nb ny cs
  | _ => true
where
  lts (nb ny : Nat) : List MV → Bool
    | [] => true
    | v :: vs => MV.lt nb ny v && lts nb ny vs

theorem lts_iff {nb ny : Nat} {l : List MV} : MV.lt.lts nb ny l = true ↔ ∀ v ∈ l, v.lt nb ny = true := by
  induction l with
  | nil => simp [MV.lt.lts]
  | cons a l ih => simp [MV.lt.lts, ih]

theorem lts_of {nb ny : Nat} {l : List MV} (h : ∀ j (h : j < l.length), l[j].lt nb ny = true) : MV.lt.lts nb ny l = true :=
  lts_iff.2 fun v hv => by obtain ⟨j, hj, rfl⟩ := List.mem_iff_getElem.1 hv; exact h j hj

theorem lts_at {nb ny : Nat} {l : List MV} (h : MV.lt.lts nb ny l = true) (j : Nat) (hj : j < l.length) : l[j].lt nb ny = true :=
  lts_iff.1 h _ (List.getElem_mem hj)

theorem lt_of_getElem? {α : Type} {l : List α} {i : Nat} {a : α} (h : l[i]? = some a) : i < l.length := (List.getElem?_eq_some_iff.1 h).1

theorem RelV.lt {m s w v r} (h : RelV m s w v r) : v.lt s.h.length s.ls.length = true := by
  induction h with
  | ptr β st off h => obtain ⟨c, hc⟩ := h; simpa [MV.lt] using lt_of_getElem? hc
  | ptrStale β st off v h hv =>
    rcases h with h | ⟨_, _, h, _⟩ <;> simpa [MV.lt] using lt_of_getElem? h
  | msl β st sz off len cap rcap h => obtain ⟨c, hc⟩ := h; simpa [MV.lt] using lt_of_getElem? hc
  | mslStale β st sz off len cap v h hv =>
    rcases h with h | ⟨_, _, h, _⟩ <;> simpa [MV.lt] using lt_of_getElem? h
  | map β es h => simpa [MV.lt] using lt_of_getElem? h
  | mapStale β v h hv => simpa [MV.lt] using lt_of_getElem? h
  | yield l h => simpa [MV.lt] using h
  | fptr cells off b base vs hb ho hl hc hv ih =>
    exact lts_of fun j hj => ih j hj (hl ▸ hj)
  | fsl cells len cap b off rcap vs hb ho hlen hcap hl hc hv ih =>
    exact lts_of fun j hj => ih j hj (hl ▸ hj)
  | func fn fs cs rfs rcs hfn hf hc h1 h2 ih1 ih2 =>
    simp only [MV.lt, Bool.and_eq_true]
    exact ⟨lts_of fun j hj => ih1 j hj (hf ▸ hj), lts_of fun j hj => ih2 j hj (hc ▸ hj)⟩
  | iface t v rv h ih => simpa [MV.lt] using ih
  | agg cs rcs hc h ih => exact lts_of fun j hj => ih j hj (hc ▸ hj)
  | tuple cs rcs hc h ih => exact lts_of fun j hj => ih j hj (hc ▸ hj)
  | _ => rfl

structure RelS (m : Emb) (s : MSt) (w : World) : Prop where
  blk : ∀ β st cells, s.h[β]? = some (.blk st cells) → ∃ arr el fz, w.heap[(m.b β).1]? = some (.cells arr el fz) ∧
    (∀ j, j < arr.size → (decide (fz.1 ≤ j) && decide (j < fz.2)) = false) ∧ (m.b β).2 + cells.length ≤ arr.size ∧
    (∀ j (h : j < cells.length) (h' : (m.b β).2 + j < arr.size), RelV m s w cells[j] arr[(m.b β).2 + j]) ∧ (∀ j (h : j < cells.length), cells[j].lt s.h.length 0 = true)
  map : ∀ β es, s.h[β]? = some (.map es) → ∃ res clock, w.heap[m.m β]? = some (.map res clock) ∧ es.length = res.size ∧
    ∀ j (h : j < es.length) (h' : j < res.size), RelV m s w es[j].1 res[j].key ∧ RelV m s w es[j].2 res[j].val ∧ es[j].1.lt s.h.length 0 = true ∧ es[j].2.lt s.h.length 0 = true
  loop : ∀ l L, s.ls[l]? = some L → ∃ R : Loop, w.heap[m.l l]? = some (.loop R) ∧ R.fn = L.fn ∧ R.params = L.params ∧ R.assign = L.assign ∧ R.body = L.body ∧
    R.state = L.state ∧ R.pending = L.pending ∧ R.tmps.size = L.n ∧ (∀ j (h : j < R.tmps.size), RelV m s w (L.env j) R.tmps[j] ∧ (L.env j).lt s.h.length l = true)
  injb : ∀ β β' st st' c c', s.h[β]? = some (.blk st c) → s.h[β']? = some (.blk st' c') → (m.b β).1 = (m.b β').1 → β = β'
  injm : ∀ β β' c c', s.h[β]? = some (.map c) → s.h[β']? = some (.map c') → m.m β = m.m β' → β = β'
  injl : ∀ l l', l < s.ls.length → l' < s.ls.length → m.l l = m.l l' → l = l'
  gl : ∀ (g : Nat) (cells : List MV), s.gl g = some cells → RelV m s w (.fptr cells 0) (.pointer (some ⟨g, 0, none⟩)) ∧ (MV.fptr cells 0).lt 0 0 = true

/-- The outside world, the tape and what was printed are as they were. -/
def Calm3 (w w' : World) : Prop := w'.os = w.os ∧ w'.tape = w.tape ∧ w'.output = w.output
theorem Calm3.refl (w : World) : Calm3 w w := ⟨rfl, rfl, rfl⟩
theorem Calm3.trans {a b c : World} (h : Calm3 a b) (k : Calm3 b c) : Calm3 a c := ⟨k.1.trans h.1, k.2.1.trans h.2.1, k.2.2.trans h.2.2⟩

structure ExtW (m : Emb) (s : MSt) (w : World) (m' : Emb) (s' : MSt) (w' : World) : Prop where
  size : w.heap.size ≤ w'.heap.size
  same : ∀ b, b < w.heap.size → ¬ Own m s b → w'.heap[b]? = w.heap[b]?
  own : ∀ b, Own m' s' b → Own m s b ∨ w.heap.size ≤ b
  arr : ∀ (b : Nat) (arr : Array Value) (el : TypeId) (fz : Nat × Nat), w.heap[b]? = some (.cells arr el fz) → ∃ arr' : Array Value, w'.heap[b]? = some (.cells arr' el fz) ∧ arr'.size = arr.size
  hlen : s.h.length ≤ s'.h.length
  dead : ∀ β : Nat, s.h[β]? = some .dead → s'.h[β]? = some .dead
  blk : ∀ (β st : Nat) (c : List MV), s.h[β]? = some (.blk st c) → s'.h[β]? = some .dead ∨ ∃ (st' : Nat) (c' : List MV), s'.h[β]? = some (.blk st' c') ∧ st ≤ st' ∧ (st' = st → m'.b β = m.b β)
  map : ∀ (β : Nat) (es : List (MV × MV)), s.h[β]? = some (.map es) → s'.h[β]? = some .dead ∨ ∃ es' : List (MV × MV), s'.h[β]? = some (.map es') ∧ m'.m β = m.m β
  llen : s.ls.length ≤ s'.ls.length
  ls : ∀ l : Nat, l < s.ls.length → m'.l l = m.l l
  lst : ∀ (l : Nat) (L : MLoop), s.ls[l]? = some L → ∃ L' : MLoop, s'.ls[l]? = some L' ∧ L'.fn = L.fn ∧ L'.n = L.n ∧ L'.env = L.env ∧ L'.params = L.params ∧ L'.assign = L.assign ∧ L'.body = L.body
  gl : s'.gl = s.gl
  io : Calm3 w w' := by exact ⟨rfl, rfl, rfl⟩

structure Ext (m : Emb) (s : MSt) (w : World) (m' : Emb) (s' : MSt) (w' : World) : Prop extends ExtW m s w m' s' w' where
  leq : s'.ls.length = s.ls.length

theorem Ext.refl (m s w) : Ext m s w m s w where
  size := Nat.le_refl _
  same := fun _ _ _ => rfl
  own := fun _ h => .inl h
  arr := fun _ arr _ _ h => ⟨arr, h, rfl⟩
  hlen := Nat.le_refl _
  dead := fun _ h => h
  blk := fun _ st c h => .inr ⟨st, c, h, Nat.le_refl _, fun _ => rfl⟩
  map := fun _ es h => .inr ⟨es, h, rfl⟩
  llen := Nat.le_refl _
  leq := rfl
  ls := fun _ _ => rfl
  lst := fun _ L h => ⟨L, h, rfl, rfl, rfl, rfl, rfl, rfl⟩
  gl := rfl

theorem ExtW.trans {m s w m' s' w' m'' s'' w''} (a : ExtW m s w m' s' w') (b : ExtW m' s' w' m'' s'' w'') : ExtW m s w m'' s'' w'' where
  size := Nat.le_trans a.size b.size
  same := fun x hx ho => by
    have hx' : x < w'.heap.size := Nat.lt_of_lt_of_le hx a.size
    have ho' : ¬ Own m' s' x := fun h => (a.own x h).elim ho (fun h => by omega)
    rw [b.same x hx' ho', a.same x hx ho]
  own := fun x h => (b.own x h).elim (a.own x) (fun h => .inr (Nat.le_trans a.size h))
  arr := fun x arr el fz h => by
    obtain ⟨arr1, h1, e1⟩ := a.arr x arr el fz h
    obtain ⟨arr2, h2, e2⟩ := b.arr x arr1 el fz h1
    exact ⟨arr2, h2, e2.trans e1⟩
  hlen := Nat.le_trans a.hlen b.hlen
  dead := fun β h => b.dead β (a.dead β h)
  blk := fun β st c h => by
    rcases a.blk β st c h with h1 | ⟨st1, c1, h1, hle1, he1⟩
    · exact .inl (b.dead β h1)
    · rcases b.blk β st1 c1 h1 with h2 | ⟨st2, c2, h2, hle2, he2⟩
      · exact .inl h2
      · refine .inr ⟨st2, c2, h2, Nat.le_trans hle1 hle2, fun e => ?_⟩
        rw [he2 (by omega), he1 (by omega)]
  map := fun β es h => by
    rcases a.map β es h with h1 | ⟨es1, h1, e1⟩
    · exact .inl (b.dead β h1)
    · rcases b.map β es1 h1 with h2 | ⟨es2, h2, e2⟩
      · exact .inl h2
      · exact .inr ⟨es2, h2, e2.trans e1⟩
  llen := Nat.le_trans a.llen b.llen
  ls := fun l hl => (b.ls l (Nat.lt_of_lt_of_le hl a.llen)).trans (a.ls l hl)
  lst := fun l L h => by
    obtain ⟨L1, h1, a1, a2, a3, a4, a5, a6⟩ := a.lst l L h
    obtain ⟨L2, h2, b1, b2, b3, b4, b5, b6⟩ := b.lst l L1 h1
    exact ⟨L2, h2, b1.trans a1, b2.trans a2, b3.trans a3, b4.trans a4, b5.trans a5, b6.trans a6⟩
  gl := b.gl.trans a.gl
  io := a.io.trans b.io

theorem Ext.trans {m s w m' s' w' m'' s'' w''} (a : Ext m s w m' s' w') (b : Ext m' s' w' m'' s'' w'') : Ext m s w m'' s'' w'' :=
  { toExtW := a.toExtW.trans b.toExtW, leq := b.leq.trans a.leq }

theorem stale_ext {m s w m' s' w'} (e : ExtW m s w m' s' w') {β st : Nat} (h : s.stale β st) : s'.stale β st := by
  rcases h with h | ⟨st1, c1, h1, hlt⟩
  · exact .inl (e.dead β h)
  · rcases e.blk β st1 c1 h1 with h2 | ⟨st2, c2, h2, hle, _⟩
    · exact .inl h2
    · exact .inr ⟨st2, c2, h2, by omega⟩

theorem not_own_extW {m s w m' s' w'} (e : ExtW m s w m' s' w') {b : Nat} (hb : b < w.heap.size) (h : ¬ Own m s b) : ¬ Own m' s' b :=
  fun h' => (e.own b h').elim h (fun h => by omega)

theorem not_own_ext {m s w m' s' w'} (e : Ext m s w m' s' w') {b : Nat} (hb : b < w.heap.size) (h : ¬ Own m s b) : ¬ Own m' s' b := not_own_extW e.toExtW hb h

theorem RelV.extW {m s w m' s' w' v r} (h : RelV m s w v r) (e : ExtW m s w m' s' w') : RelV m' s' w' v r := by
  induction h with
  | int k n => exact .int k n
  | bool b => exact .bool b
  | flt k n => exact .flt k n
  | str l => exact .str l
  | nilptr => exact .nilptr
  | nilsl => exact .nilsl
  | nilmap => exact .nilmap
  | nilfunc => exact .nilfunc
  | niliface => exact .niliface
  | esl a cap => exact .esl a cap
  | ptr β st off h =>
    obtain ⟨c, hc⟩ := h
    rcases e.blk β st c hc with h2 | ⟨st2, c2, h2, hle, he⟩
    · exact .ptrStale _ _ _ _ (.inl h2) rfl
    · by_cases hst : st2 = st
      · rw [← he hst]; exact .ptr _ _ _ ⟨c2, hst ▸ h2⟩
      · exact .ptrStale _ _ _ _ (.inr ⟨st2, c2, h2, by omega⟩) rfl
  | ptrStale β st off v h hv => exact .ptrStale _ _ _ _ (stale_ext e h) hv
  | fptr cells off b base vs hb ho hl hc hv ih =>
    refine .fptr cells off b base vs (Nat.lt_of_lt_of_le hb e.size) (not_own_extW e hb ho) hl (fun j hj => ?_) ih
    rw [cell?_congr (e.same b hb ho)]; exact hc j hj
  | msl β st sz off len cap rcap h hlen hcap harr =>
    obtain ⟨c, hc⟩ := h
    rcases e.blk β st c hc with h2 | ⟨st2, c2, h2, hle, he⟩
    · exact .mslStale _ _ _ _ _ _ _ (.inl h2) rfl
    · by_cases hst : st2 = st
      · obtain ⟨arr, el, fz, ha, hsz⟩ := harr
        obtain ⟨arr', ha', hsz'⟩ := e.arr _ _ _ _ ha
        have hb := he hst
        rw [← hb]
        refine .msl _ _ _ _ _ _ _ ⟨c2, hst ▸ h2⟩ hlen hcap ⟨arr', el, fz, by rw [hb]; exact ha', by rw [hb, hsz']; exact hsz⟩
      · exact .mslStale _ _ _ _ _ _ _ (.inr ⟨st2, c2, h2, by omega⟩) rfl
  | mslStale β st sz off len cap v h hv => exact .mslStale _ _ _ _ _ _ _ (stale_ext e h) hv
  | fsl cells len cap b off rcap vs hb ho hlen hcap hl hc hv ih =>
    refine .fsl cells len cap b off rcap vs (Nat.lt_of_lt_of_le hb e.size) (not_own_extW e hb ho) hlen hcap hl (fun j hj => ?_) ih
    rw [cell?_congr (e.same b hb ho)]; exact hc j hj
  | map β es h =>
    rcases e.map β es h with h2 | ⟨es2, h2, he⟩
    · exact .mapStale _ _ h2 rfl
    · rw [← he]; exact .map β es2 h2
  | mapStale β v h hv => exact .mapStale _ _ (e.dead β h) hv
  | func fn fs cs rfs rcs hfn hf hc h1 h2 ih1 ih2 => exact .func fn fs cs rfs rcs hfn hf hc ih1 ih2
  | yield l h => rw [← e.ls l h]; exact .yield l (Nat.lt_of_lt_of_le h e.llen)
  | iface t v rv h ih => exact .iface t v rv ih
  | agg cs rcs hc h ih => exact .agg cs rcs hc ih
  | tuple cs rcs hc h ih => exact .tuple cs rcs hc ih
  | any v => exact .any v

theorem RelV.ext {m s w m' s' w' v r} (h : RelV m s w v r) (e : Ext m s w m' s' w') : RelV m' s' w' v r := h.extW e.toExtW

def MV.noY : MV → Bool
  | .yield _ => false
  | .fptr cs _ => noYs cs
  | .fsl cs _ _ => noYs cs
  | .func _ fs cs => noYs fs && noYs cs
  | .iface _ v => v.noY
  | .agg cs => noYs cs
  | .tuple cs => noYs cs
  | _ => true
where
  noYs : List MV → Bool
    | [] => true
    | v :: vs => v.noY && noYs vs

/-- The value of one cell, that bears no loop. -/
def MV.flat : MV → Bool
  | .agg _ | .tuple _ | .any => false
  | v => v.noY

def MV.cells : MV → List MV
  | .agg cs => cs
  | v => [v]

theorem RelV.one {m s w v r} (h : RelV m s w v r) (hf : v.flat = true) : one1 r = true := by
  cases h <;> first | rfl | assumption | simp [MV.flat] at hf

mutual
theorem lt_of_noY {nb ny : Nat} : ∀ (v : MV), v.lt nb ny = true → v.noY = true → v.lt nb 0 = true
  | .int .., _, _ | .bool .., _, _ | .flt .., _, _ | .str .., _, _ | .nilptr, _, _ | .nilsl, _, _ | .nilmap, _, _ | .nilfunc, _, _ | .niliface, _, _ | .esl, _, _ | .any, _, _ => by simp [MV.lt]
  | .ptr .., h, _ | .msl .., h, _ | .map .., h, _ => by simpa [MV.lt] using h
  | .yield _, _, h => by simp [MV.noY] at h
  | .fptr cs _, h, h' => by simp only [MV.lt, MV.noY] at h h' ⊢; exact lts_of_noY cs h h'
  | .fsl cs _ _, h, h' => by simp only [MV.lt, MV.noY] at h h' ⊢; exact lts_of_noY cs h h'
  | .func _ fs cs, h, h' => by
    simp only [MV.lt, MV.noY, Bool.and_eq_true] at h h' ⊢
    exact ⟨lts_of_noY fs h.1 h'.1, lts_of_noY cs h.2 h'.2⟩
  | .iface _ v, h, h' => by simp only [MV.lt, MV.noY] at h h' ⊢; exact lt_of_noY v h h'
  | .agg cs, h, h' => by simp only [MV.lt, MV.noY] at h h' ⊢; exact lts_of_noY cs h h'
  | .tuple cs, h, h' => by simp only [MV.lt, MV.noY] at h h' ⊢; exact lts_of_noY cs h h'
theorem lts_of_noY {nb ny : Nat} : ∀ (l : List MV), MV.lt.lts nb ny l = true → MV.noY.noYs l = true → MV.lt.lts nb 0 l = true
  | [], _, _ => by simp [MV.lt.lts]
  | v :: vs, h, h' => by
    simp only [MV.lt.lts, MV.noY.noYs, Bool.and_eq_true] at h h' ⊢
    exact ⟨lt_of_noY v h.1 h'.1, lts_of_noY vs h.2 h'.2⟩
end

mutual
theorem noY_of_lt {nb : Nat} : ∀ (v : MV), v.lt nb 0 = true → v.noY = true
  | .int .., _ | .bool .., _ | .flt .., _ | .str .., _ | .nilptr, _ | .nilsl, _ | .nilmap, _ | .nilfunc, _ | .niliface, _ | .esl, _ | .any, _ => by simp [MV.noY]
  | .ptr .., _ | .msl .., _ | .map .., _ => by simp [MV.noY]
  | .yield _, h => by simp [MV.lt] at h
  | .fptr cs _, h => by simp only [MV.lt, MV.noY] at h ⊢; exact noYs_of_lts cs h
  | .fsl cs _ _, h => by simp only [MV.lt, MV.noY] at h ⊢; exact noYs_of_lts cs h
  | .func _ fs cs, h => by
    simp only [MV.lt, MV.noY, Bool.and_eq_true] at h ⊢
    exact ⟨noYs_of_lts fs h.1, noYs_of_lts cs h.2⟩
  | .iface _ v, h => by simp only [MV.lt, MV.noY] at h ⊢; exact noY_of_lt v h
  | .agg cs, h => by simp only [MV.lt, MV.noY] at h ⊢; exact noYs_of_lts cs h
  | .tuple cs, h => by simp only [MV.lt, MV.noY] at h ⊢; exact noYs_of_lts cs h
theorem noYs_of_lts {nb : Nat} : ∀ (l : List MV), MV.lt.lts nb 0 l = true → MV.noY.noYs l = true
  | [], _ => by simp [MV.noY.noYs]
  | v :: vs, h => by
    simp only [MV.lt.lts, MV.noY.noYs, Bool.and_eq_true] at h ⊢
    exact ⟨noY_of_lt v h.1, noYs_of_lts vs h.2⟩
end

theorem noY_of_flat {v : MV} (h : v.flat = true) : v.noY = true := by cases v <;> simp_all [MV.flat, MV.noY]

mutual
theorem lt_mono {nb ny nb' ny' : Nat} (h1 : nb ≤ nb') (h2 : ny ≤ ny') : ∀ (v : MV), v.lt nb ny = true → v.lt nb' ny' = true
  | .int .., _ | .bool .., _ | .flt .., _ | .str .., _ | .nilptr, _ | .nilsl, _ | .nilmap, _ | .nilfunc, _ | .niliface, _ | .esl, _ | .any, _ => by simp [MV.lt]
  | .ptr .., h | .msl .., h | .map .., h => by simp [MV.lt] at h ⊢; omega
  | .yield _, h => by simp [MV.lt] at h ⊢; omega
  | .fptr cs _, h => by simp only [MV.lt] at h ⊢; exact lts_mono h1 h2 cs h
  | .fsl cs _ _, h => by simp only [MV.lt] at h ⊢; exact lts_mono h1 h2 cs h
  | .func _ fs cs, h => by
    simp only [MV.lt, Bool.and_eq_true] at h ⊢
    exact ⟨lts_mono h1 h2 fs h.1, lts_mono h1 h2 cs h.2⟩
  | .iface _ v, h => by simp only [MV.lt] at h ⊢; exact lt_mono h1 h2 v h
  | .agg cs, h => by simp only [MV.lt] at h ⊢; exact lts_mono h1 h2 cs h
  | .tuple cs, h => by simp only [MV.lt] at h ⊢; exact lts_mono h1 h2 cs h
theorem lts_mono {nb ny nb' ny' : Nat} (h1 : nb ≤ nb') (h2 : ny ≤ ny') : ∀ (l : List MV), MV.lt.lts nb ny l = true → MV.lt.lts nb' ny' l = true
  | [], _ => by simp [MV.lt.lts]
  | v :: vs, h => by
    simp only [MV.lt.lts, Bool.and_eq_true] at h ⊢
    exact ⟨lt_mono h1 h2 v h.1, lts_mono h1 h2 vs h.2⟩
end

def RelE (m : Emb) (s : MSt) (w : World) (env : Nat → MV) (tmps : Array Value) : Prop := ∀ j (h : j < tmps.size), RelV m s w (env j) tmps[j]
def RelL (m : Emb) (s : MSt) (w : World) (vs : List MV) (rs : List Value) : Prop := vs.length = rs.length ∧ ∀ j (h : j < vs.length) (h' : j < rs.length), RelV m s w vs[j] rs[j]

theorem RelE.ext {m s w m' s' w' env tmps} (h : RelE m s w env tmps) (e : Ext m s w m' s' w') : RelE m' s' w' env tmps := fun j hj => (h j hj).ext e
theorem RelL.ext {m s w m' s' w' vs rs} (h : RelL m s w vs rs) (e : Ext m s w m' s' w') : RelL m' s' w' vs rs := ⟨h.1, fun j hj hj' => (h.2 j hj hj').ext e⟩

def upd (env : Nat → MV) (i : Nat) (v : MV) : Nat → MV := fun j => if j = i then v else env j
def updo (env : Nat → MV) : Option Nat → MV → Nat → MV
  | some i, v => upd env i v
  | none, _ => env

theorem upd_same {env : Nat → MV} {i : Nat} {v : MV} : upd env i v i = v := by simp [upd]
theorem upd_ne {env : Nat → MV} {i j : Nat} {v : MV} (h : j ≠ i) : upd env i v j = env j := by simp [upd, h]

theorem RelE.upd {m s w env tmps i v r} (h : RelE m s w env tmps) (hv : RelV m s w v r) : RelE m s w (upd env i v) (tmps.setIfInBounds i r) := by
  intro j hj
  have hj' : j < tmps.size := by simpa using hj
  by_cases e : j = i
  · subst e; simp [Mir.upd]; exact hv
  · simp only [Mir.upd, e, if_false]
    rw [Array.getElem_setIfInBounds_ne hj' (Ne.symm e)]
    exact h j hj'

theorem RelE.updo {m s w env} {a : Act} {d : Option Nat} {v r} (h : RelE m s w env a.tmps) (hv : RelV m s w v r) : RelE m s w (updo env d v) (a.put d r).tmps := by
  cases d with
  | none => exact h
  | some i => exact h.upd hv

theorem updo_size (a : Act) (d : Option Nat) (r : Value) : (a.put d r).tmps.size = a.tmps.size := by cases d <;> simp [Act.put]

end Go.Mir

/- What a new block, a store, a draw do to the mirror's relation. -/
namespace Go.Mir

def MSt.push (s : MSt) (o : MObj) : MSt := { s with h := s.h ++ [o] }
def MSt.put (s : MSt) (β : Nat) (o : MObj) : MSt := { s with h := s.h.set β o }
def Emb.at (m : Emb) (β : Nat) (x : Nat × Nat) : Emb := { m with b := fun γ => if γ = β then x else m.b γ }
def Emb.atm (m : Emb) (β : Nat) (x : Nat) : Emb := { m with m := fun γ => if γ = β then x else m.m γ }

theorem at_same (m : Emb) (β : Nat) (x : Nat × Nat) : (m.at β x).b β = x := by simp [Emb.at]

theorem push_get (s : MSt) (o : MObj) (β : Nat) : (s.push o).h[β]? = if β = s.h.length then some o else s.h[β]? := by
  simp only [MSt.push, List.getElem?_append]
  by_cases h1 : β < s.h.length
  · have h2 : β ≠ s.h.length := by omega
    simp only [h1, if_true, h2, if_false]
  · by_cases h2 : β = s.h.length
    · subst h2; simp
    · simp only [h1, h2, if_false]
      rw [List.getElem?_eq_none (by simp; omega), List.getElem?_eq_none (by omega)]

theorem put_get (s : MSt) (o : MObj) (β γ : Nat) (hb : β < s.h.length) : (s.put β o).h[γ]? = if γ = β then some o else s.h[γ]? := by
  simp only [MSt.put, List.getElem?_set]
  by_cases h : γ = β
  · subst h; simp [hb]
  · have : β ≠ γ := fun e => h e.symm
    simp [h, this]

theorem alloc_get (w : World) (o : Obj) (b : Nat) : (w.alloc o).heap[b]? = if b = w.heap.size then some o else w.heap[b]? := by
  simp only [World.alloc, Array.getElem?_push]

theorem ext_heap {m s w w'} (h : w'.heap = w.heap) (hio : Calm3 w w' := by exact ⟨rfl, rfl, rfl⟩) : Ext m s w m s w' := by
  have e := Ext.refl m s w
  exact { e with io := hio, size := by rw [h]; exact Nat.le_refl _, same := fun b _ _ => by rw [h], arr := fun b arr el fz hh => ⟨arr, by rw [h]; exact hh, rfl⟩ }

theorem RelS.heap {m s w w'} (hr : RelS m s w) (h : w'.heap = w.heap) (hio : Calm3 w w' := by exact ⟨rfl, rfl, rfl⟩) : RelS m s w' := by
  have e : Ext m s w m s w' := ext_heap h hio
  refine { hr with blk := ?_, map := ?_, loop := ?_, gl := fun g c hg => ⟨(hr.gl g c hg).1.ext e, (hr.gl g c hg).2⟩ }
  · intro β st cells hb
    obtain ⟨arr, el, fz, h1, h2, h3, h4, h5⟩ := hr.blk β st cells hb
    exact ⟨arr, el, fz, by rw [h]; exact h1, h2, h3, fun j hj hj' => (h4 j hj hj').ext e, h5⟩
  · intro β es hb
    obtain ⟨res, clock, h1, h2, h3⟩ := hr.map β es hb
    exact ⟨res, clock, by rw [h]; exact h1, h2, fun j hj hj' => ⟨(h3 j hj hj').1.ext e, (h3 j hj hj').2.1.ext e, (h3 j hj hj').2.2⟩⟩
  · intro l L hl
    obtain ⟨R, h1, a1, a2, a3, a4, a5, a6, a7, a8⟩ := hr.loop l L hl
    exact ⟨R, by rw [h]; exact h1, a1, a2, a3, a4, a5, a6, a7, fun j hj => ⟨(a8 j hj).1.ext e, (a8 j hj).2⟩⟩

/-- A new block that is nobody's to write: memory that will not change. -/
theorem ext_alloc {m : Emb} {s : MSt} {w : World} (o : Obj) : Ext m s w m s (w.alloc o) := by
  have e := Ext.refl m s w
  refine { e with size := by simp, same := fun b hb _ => ?_, arr := fun b arr el fz hh => ⟨arr, ?_, rfl⟩ }
  · rw [alloc_get, if_neg (by omega)]
  · have : b < w.heap.size := by
      rcases Nat.lt_or_ge b w.heap.size with h | h
      · exact h
      · simp [Array.getElem?_eq_none h] at hh
    rw [alloc_get, if_neg (by omega)]; exact hh

theorem own_lt {m s w b} (hr : RelS m s w) (h : Own m s b) : b < w.heap.size := by
  have key : ∀ {o : Obj}, w.heap[b]? = some o → b < w.heap.size := fun {o} h => by
    rcases Nat.lt_or_ge b w.heap.size with h' | h'
    · exact h'
    · simp [Array.getElem?_eq_none h'] at h
  rcases h with ⟨β, st, c, h, rfl⟩ | ⟨β, es, h, rfl⟩ | ⟨l, L, h, rfl⟩
  · obtain ⟨_, _, _, h1, _⟩ := hr.blk β st c h; exact key h1
  · obtain ⟨_, _, h1, _⟩ := hr.map β es h; exact key h1
  · obtain ⟨_, h1, _⟩ := hr.loop l L h; exact key h1

theorem RelS.alloc {m s w} (o : Obj) (hr : RelS m s w) : RelS m s (w.alloc o) := by
  have e := ext_alloc (m := m) (s := s) (w := w) o
  have old : ∀ {b : Nat} {x : Obj}, w.heap[b]? = some x → (w.alloc o).heap[b]? = some x := fun {b x} h => by
    have : b < w.heap.size := by
      rcases Nat.lt_or_ge b w.heap.size with h' | h'
      · exact h'
      · simp [Array.getElem?_eq_none h'] at h
    rw [alloc_get, if_neg (by omega)]; exact h
  refine { hr with blk := ?_, map := ?_, loop := ?_, gl := fun g c hg => ⟨(hr.gl g c hg).1.ext e, (hr.gl g c hg).2⟩ }
  · intro β st cells hb
    obtain ⟨arr, el, fz, h1, h2, h3, h4, h5⟩ := hr.blk β st cells hb
    exact ⟨arr, el, fz, old h1, h2, h3, fun j hj hj' => (h4 j hj hj').ext e, h5⟩
  · intro β es hb
    obtain ⟨res, clock, h1, h2, h3⟩ := hr.map β es hb
    exact ⟨res, clock, old h1, h2, fun j hj hj' => ⟨(h3 j hj hj').1.ext e, (h3 j hj hj').2.1.ext e, (h3 j hj hj').2.2⟩⟩
  · intro l L hl
    obtain ⟨R, h1, a1, a2, a3, a4, a5, a6, a7, a8⟩ := hr.loop l L hl
    exact ⟨R, old h1, a1, a2, a3, a4, a5, a6, a7, fun j hj => ⟨(a8 j hj).1.ext e, (a8 j hj).2⟩⟩

theorem not_own_new {m s w} (hr : RelS m s w) : ¬ Own m s w.heap.size := fun h => Nat.lt_irrefl _ (own_lt hr h)

def BlkOK (m : Emb) (s : MSt) (w : World) (β : Nat) (cells : List MV) : Prop := ∃ arr el fz, w.heap[(m.b β).1]? = some (.cells arr el fz) ∧
    (∀ j, j < arr.size → (decide (fz.1 ≤ j) && decide (j < fz.2)) = false) ∧ (m.b β).2 + cells.length ≤ arr.size ∧
    (∀ j (h : j < cells.length) (h' : (m.b β).2 + j < arr.size), RelV m s w cells[j] arr[(m.b β).2 + j]) ∧ (∀ j (h : j < cells.length), cells[j].lt s.h.length 0 = true)
def MapOK (m : Emb) (s : MSt) (w : World) (β : Nat) (es : List (MV × MV)) : Prop := ∃ res clock, w.heap[m.m β]? = some (.map res clock) ∧ es.length = res.size ∧
    ∀ j (h : j < es.length) (h' : j < res.size), RelV m s w es[j].1 res[j].key ∧ RelV m s w es[j].2 res[j].val ∧ es[j].1.lt s.h.length 0 = true ∧ es[j].2.lt s.h.length 0 = true
def LoopOK (m : Emb) (s : MSt) (w : World) (l : Nat) (L : MLoop) : Prop := ∃ R : Loop, w.heap[m.l l]? = some (.loop R) ∧ R.fn = L.fn ∧ R.params = L.params ∧ R.assign = L.assign ∧ R.body = L.body ∧
    R.state = L.state ∧ R.pending = L.pending ∧ R.tmps.size = L.n ∧ (∀ j (h : j < R.tmps.size), RelV m s w (L.env j) R.tmps[j] ∧ (L.env j).lt s.h.length l = true)

/-- The relation, carried over a step: each of the mirror's objects is as it was, or is shown anew. -/
theorem RelS.stepW {m s w m' s' w'} (hr : RelS m s w) (e : ExtW m s w m' s' w')
    (hb : ∀ (β st : Nat) (c : List MV), s'.h[β]? = some (.blk st c) → (s.h[β]? = some (.blk st c) ∧ m'.b β = m.b β ∧ w'.heap[(m.b β).1]? = w.heap[(m.b β).1]?) ∨ BlkOK m' s' w' β c)
    (hm : ∀ (β : Nat) (es : List (MV × MV)), s'.h[β]? = some (.map es) → (s.h[β]? = some (.map es) ∧ m'.m β = m.m β ∧ w'.heap[m.m β]? = w.heap[m.m β]?) ∨ MapOK m' s' w' β es)
    (hl : ∀ (l : Nat) (L : MLoop), s'.ls[l]? = some L → (s.ls[l]? = some L ∧ m'.l l = m.l l ∧ w'.heap[m.l l]? = w.heap[m.l l]?) ∨ LoopOK m' s' w' l L)
    (ib : ∀ β β' st st' c c', s'.h[β]? = some (.blk st c) → s'.h[β']? = some (.blk st' c') → (m'.b β).1 = (m'.b β').1 → β = β')
    (im : ∀ β β' c c', s'.h[β]? = some (.map c) → s'.h[β']? = some (.map c') → m'.m β = m'.m β' → β = β')
    (il : ∀ l l', l < s'.ls.length → l' < s'.ls.length → m'.l l = m'.l l' → l = l') : RelS m' s' w' where
  blk := fun β st c h => by
    rcases hb β st c h with ⟨h1, h2, h3⟩ | h1
    · obtain ⟨arr, el, fz, a1, a2, a3, a4, a5⟩ := hr.blk β st c h1
      rw [h2]
      exact ⟨arr, el, fz, by rw [h3]; exact a1, a2, a3, fun j hj hj' => (a4 j hj hj').extW e, fun j hj => lt_mono e.hlen (Nat.le_refl _) _ (a5 j hj)⟩
    · exact h1
  map := fun β es h => by
    rcases hm β es h with ⟨h1, h2, h3⟩ | h1
    · obtain ⟨res, clock, a1, a2, a3⟩ := hr.map β es h1
      rw [h2]
      exact ⟨res, clock, by rw [h3]; exact a1, a2, fun j hj hj' => ⟨(a3 j hj hj').1.extW e, (a3 j hj hj').2.1.extW e, lt_mono e.hlen (Nat.le_refl _) _ (a3 j hj hj').2.2.1, lt_mono e.hlen (Nat.le_refl _) _ (a3 j hj hj').2.2.2⟩⟩
    · exact h1
  loop := fun l L h => by
    rcases hl l L h with ⟨h1, h2, h3⟩ | h1
    · obtain ⟨R, a1, b1, b2, b3, b4, b5, b6, b7, b8⟩ := hr.loop l L h1
      rw [h2]
      exact ⟨R, by rw [h3]; exact a1, b1, b2, b3, b4, b5, b6, b7, fun j hj => ⟨(b8 j hj).1.extW e, lt_mono e.hlen (Nat.le_refl _) _ (b8 j hj).2⟩⟩
    · exact h1
  injb := ib
  injm := im
  injl := il
  gl := fun g cells h => ⟨(hr.gl g cells (by rw [← e.gl]; exact h)).1.extW e, (hr.gl g cells (by rw [← e.gl]; exact h)).2⟩

theorem RelS.step {m s w m' s' w'} (hr : RelS m s w) (e : Ext m s w m' s' w')
    (hb : ∀ (β st : Nat) (c : List MV), s'.h[β]? = some (.blk st c) → (s.h[β]? = some (.blk st c) ∧ m'.b β = m.b β ∧ w'.heap[(m.b β).1]? = w.heap[(m.b β).1]?) ∨ BlkOK m' s' w' β c)
    (hm : ∀ (β : Nat) (es : List (MV × MV)), s'.h[β]? = some (.map es) → (s.h[β]? = some (.map es) ∧ m'.m β = m.m β ∧ w'.heap[m.m β]? = w.heap[m.m β]?) ∨ MapOK m' s' w' β es)
    (hl : ∀ (l : Nat) (L : MLoop), s'.ls[l]? = some L → (s.ls[l]? = some L ∧ m'.l l = m.l l ∧ w'.heap[m.l l]? = w.heap[m.l l]?) ∨ LoopOK m' s' w' l L)
    (ib : ∀ β β' st st' c c', s'.h[β]? = some (.blk st c) → s'.h[β']? = some (.blk st' c') → (m'.b β).1 = (m'.b β').1 → β = β')
    (im : ∀ β β' c c', s'.h[β]? = some (.map c) → s'.h[β']? = some (.map c') → m'.m β = m'.m β' → β = β')
    (il : ∀ l l', l < s'.ls.length → l' < s'.ls.length → m'.l l = m'.l l' → l = l') : RelS m' s' w' := hr.stepW e.toExtW hb hm hl ib im il

theorem heap_lt {w : World} {b : Nat} {o : Obj} (h : w.heap[b]? = some o) : b < w.heap.size := by
  rcases Nat.lt_or_ge b w.heap.size with h' | h'
  · exact h'
  · simp [Array.getElem?_eq_none h'] at h

theorem blk_heap {m s w} (hr : RelS m s w) {β st c} (h : s.h[β]? = some (.blk st c)) : (m.b β).1 < w.heap.size := own_lt hr (.inl ⟨β, st, c, h, rfl⟩)

/-- A real block, laid since w, becomes the mirror's own new block. -/
theorem adopt {m s w w1} (hr : RelS m s w) (hsz : w.heap.size ≤ w1.heap.size) (hold : ∀ b, b < w.heap.size → w1.heap[b]? = w.heap[b]?) (st0 b base : Nat) (vs : List MV) (rs : Array Value) (el : TypeId) (fz : Nat × Nat)
    (hnew : w.heap.size ≤ b) (hb : w1.heap[b]? = some (.cells rs el fz)) (hfz : ∀ j, j < rs.size → (decide (fz.1 ≤ j) && decide (j < fz.2)) = false)
    (hl : base + vs.length ≤ rs.size) (hv : ∀ j (h : j < vs.length) (h' : base + j < rs.size), RelV m s w vs[j] rs[base + j]) (hy : ∀ v ∈ vs, v.noY = true) (hio : Calm3 w w1 := by exact ⟨rfl, rfl, rfl⟩) :
    Ext m s w (m.at s.h.length (b, base)) (s.push (.blk st0 vs)) w1 ∧ RelS (m.at s.h.length (b, base)) (s.push (.blk st0 vs)) w1 := by
  have hne : ∀ {β : Nat} {o : MObj}, s.h[β]? = some o → β ≠ s.h.length := fun {β o} h e => by
    have := lt_of_getElem? h; omega
  have atm : ∀ {β : Nat}, β ≠ s.h.length → (m.at s.h.length (b, base)).b β = m.b β := fun {β} h => by simp [Emb.at, h]
  have atn : (m.at s.h.length (b, base)).b s.h.length = (b, base) := by simp [Emb.at]
  have old : ∀ {β : Nat} {o : MObj}, s.h[β]? = some o → (s.push (.blk st0 vs)).h[β]? = some o := fun {β o} h => by
    rw [push_get, if_neg (hne h)]; exact h
  have e' : Ext m s w (m.at s.h.length (b, base)) (s.push (.blk st0 vs)) w1 := by
    refine { io := hio, size := hsz, same := fun x hx _ => hold x hx, own := ?_, arr := fun x arr el fz h => ⟨arr, by rw [hold x (heap_lt h)]; exact h, rfl⟩, hlen := by simp [MSt.push], dead := fun β h => old h,
             blk := fun β st c h => .inr ⟨st, c, old h, Nat.le_refl _, fun _ => atm (hne h)⟩, map := fun β es h => .inr ⟨es, old h, rfl⟩, llen := Nat.le_refl _, leq := rfl, ls := fun _ _ => rfl, lst := (Ext.refl m s w).lst, gl := rfl }
    intro x hx
    rcases hx with ⟨β, st, c, h, rfl⟩ | ⟨β, es, h, rfl⟩ | h
    · rw [push_get] at h
      by_cases hβ : β = s.h.length
      · subst hβ; rw [atn]; exact .inr hnew
      · rw [if_neg hβ] at h; rw [atm hβ]; exact .inl (.inl ⟨β, st, c, h, rfl⟩)
    · rw [push_get] at h
      by_cases hβ : β = s.h.length
      · simp [hβ] at h
      · rw [if_neg hβ] at h; exact .inl (.inr (.inl ⟨β, es, h, rfl⟩))
    · exact .inl (.inr (.inr h))
  refine ⟨e', hr.step e' ?_ ?_ ?_ ?_ ?_ hr.injl⟩
  · intro β st c h
    rw [push_get] at h
    by_cases hβ : β = s.h.length
    · subst hβ
      simp only [if_true, Option.some.injEq, MObj.blk.injEq] at h
      obtain ⟨rfl, rfl⟩ := h
      right
      refine ⟨rs, el, fz, by rw [atn]; exact hb, hfz, by rw [atn]; exact hl, fun j hj hj' => ?_, fun j hj => ?_⟩
      · simp only [atn] at hj' ⊢
        exact (hv j hj hj').ext e'
      · have hrel := hv j hj (by omega)
        exact lt_mono (by simp [MSt.push]) (Nat.le_refl _) _ (lt_of_noY _ hrel.lt (hy _ (List.getElem_mem hj)))
    · rw [if_neg hβ] at h
      exact .inl ⟨h, atm hβ, hold _ (blk_heap hr h)⟩
  · intro β es h
    rw [push_get] at h
    by_cases hβ : β = s.h.length
    · simp [hβ] at h
    · rw [if_neg hβ] at h
      exact .inl ⟨h, rfl, hold _ (own_lt hr (.inr (.inl ⟨β, es, h, rfl⟩)))⟩
  · intro l L h
    exact .inl ⟨h, rfl, hold _ (own_lt hr (.inr (.inr ⟨l, L, h, rfl⟩)))⟩
  · intro β β' st st' c c' h h' he
    rw [push_get] at h h'
    by_cases h1 : β = s.h.length <;> by_cases h2 : β' = s.h.length
    · rw [h1, h2]
    · rw [if_neg h2] at h'
      rw [h1, atn, atm h2] at he
      have := blk_heap hr h'
      simp at he; omega
    · rw [if_neg h1] at h
      rw [h2, atn, atm h1] at he
      have := blk_heap hr h
      simp at he; omega
    · rw [if_neg h1] at h
      rw [if_neg h2] at h'
      rw [atm h1, atm h2] at he
      exact hr.injb _ _ _ _ _ _ h h' he
  · intro β β' c c' h h' he
    rw [push_get] at h h'
    by_cases h1 : β = s.h.length
    · simp [h1] at h
    · by_cases h2 : β' = s.h.length
      · simp [h2] at h'
      · rw [if_neg h1] at h
        rw [if_neg h2] at h'
        exact hr.injm _ _ _ _ h h' he

/-- A number that waited takes a real block, laid since w. -/
theorem birth {m s w w1} (hr : RelS m s w) (hsz : w.heap.size ≤ w1.heap.size) (hold : ∀ b, b < w.heap.size → w1.heap[b]? = w.heap[b]?) (β : Nat) (hβ : s.h[β]? = some .ghost) (st0 b base : Nat) (vs : List MV) (rs : Array Value) (el : TypeId) (fz : Nat × Nat)
    (hnew : w.heap.size ≤ b) (hb : w1.heap[b]? = some (.cells rs el fz)) (hfz : ∀ j, j < rs.size → (decide (fz.1 ≤ j) && decide (j < fz.2)) = false)
    (hl : base + vs.length ≤ rs.size) (hv : ∀ j (h : j < vs.length) (h' : base + j < rs.size), RelV m s w vs[j] rs[base + j]) (hy : ∀ v ∈ vs, v.noY = true) (hio : Calm3 w w1 := by exact ⟨rfl, rfl, rfl⟩) :
    Ext m s w (m.at β (b, base)) (s.put β (.blk st0 vs)) w1 ∧ RelS (m.at β (b, base)) (s.put β (.blk st0 vs)) w1 := by
  have hlt : β < s.h.length := lt_of_getElem? hβ
  have hne : ∀ {γ : Nat} {o : MObj}, s.h[γ]? = some o → o ≠ .ghost → γ ≠ β := fun {γ o} h ho e => by
    subst e; rw [hβ] at h; exact ho (by simpa using h.symm)
  have atm : ∀ {γ : Nat}, γ ≠ β → (m.at β (b, base)).b γ = m.b γ := fun {γ} h => by simp [Emb.at, h]
  have atn : (m.at β (b, base)).b β = (b, base) := by simp [Emb.at]
  have old : ∀ {γ : Nat} {o : MObj}, s.h[γ]? = some o → o ≠ .ghost → (s.put β (.blk st0 vs)).h[γ]? = some o := fun {γ o} h ho => by
    rw [put_get _ _ _ _ hlt, if_neg (hne h ho)]; exact h
  have e' : Ext m s w (m.at β (b, base)) (s.put β (.blk st0 vs)) w1 := by
    refine { io := hio, size := hsz, same := fun x hx _ => hold x hx, own := ?_, arr := fun x arr el fz h => ⟨arr, by rw [hold x (heap_lt h)]; exact h, rfl⟩, hlen := by simp [MSt.put], dead := fun γ h => old h (by simp),
             blk := fun γ st c h => .inr ⟨st, c, old h (by simp), Nat.le_refl _, fun _ => atm (hne h (by simp))⟩, map := fun γ es h => .inr ⟨es, old h (by simp), rfl⟩, llen := Nat.le_refl _, leq := rfl, ls := fun _ _ => rfl, lst := (Ext.refl m s w).lst, gl := rfl }
    intro x hx
    rcases hx with ⟨γ, st, c, h, rfl⟩ | ⟨γ, es, h, rfl⟩ | h
    · rw [put_get _ _ _ _ hlt] at h
      by_cases hγ : γ = β
      · subst hγ; rw [atn]; exact .inr hnew
      · rw [if_neg hγ] at h; rw [atm hγ]; exact .inl (.inl ⟨γ, st, c, h, rfl⟩)
    · rw [put_get _ _ _ _ hlt] at h
      by_cases hγ : γ = β
      · simp [hγ] at h
      · rw [if_neg hγ] at h; exact .inl (.inr (.inl ⟨γ, es, h, rfl⟩))
    · exact .inl (.inr (.inr h))
  refine ⟨e', hr.step e' ?_ ?_ ?_ ?_ ?_ hr.injl⟩
  · intro γ st c h
    rw [put_get _ _ _ _ hlt] at h
    by_cases hγ : γ = β
    · subst hγ
      simp only [if_true, Option.some.injEq, MObj.blk.injEq] at h
      obtain ⟨rfl, rfl⟩ := h
      right
      refine ⟨rs, el, fz, by rw [atn]; exact hb, hfz, by rw [atn]; exact hl, fun j hj hj' => ?_, fun j hj => ?_⟩
      · simp only [atn] at hj' ⊢
        exact (hv j hj hj').ext e'
      · have hrel := hv j hj (by omega)
        exact lt_mono (by simp [MSt.put]) (Nat.le_refl _) _ (lt_of_noY _ hrel.lt (hy _ (List.getElem_mem hj)))
    · rw [if_neg hγ] at h
      exact .inl ⟨h, atm hγ, hold _ (blk_heap hr h)⟩
  · intro γ es h
    rw [put_get _ _ _ _ hlt] at h
    by_cases hγ : γ = β
    · simp [hγ] at h
    · rw [if_neg hγ] at h
      exact .inl ⟨h, rfl, hold _ (own_lt hr (.inr (.inl ⟨γ, es, h, rfl⟩)))⟩
  · intro l L h
    exact .inl ⟨h, rfl, hold _ (own_lt hr (.inr (.inr ⟨l, L, h, rfl⟩)))⟩
  · intro γ γ' st st' c c' h h' he
    rw [put_get _ _ _ _ hlt] at h h'
    by_cases h1 : γ = β <;> by_cases h2 : γ' = β
    · rw [h1, h2]
    · rw [if_neg h2] at h'
      rw [h1, atn, atm h2] at he
      have := blk_heap hr h'
      simp at he; omega
    · rw [if_neg h1] at h
      rw [h2, atn, atm h1] at he
      have := blk_heap hr h
      simp at he; omega
    · rw [if_neg h1] at h
      rw [if_neg h2] at h'
      rw [atm h1, atm h2] at he
      exact hr.injb _ _ _ _ _ _ h h' he
  · intro γ γ' c c' h h' he
    rw [put_get _ _ _ _ hlt] at h h'
    by_cases h1 : γ = β
    · simp [h1] at h
    · by_cases h2 : γ' = β
      · simp [h2] at h'
      · rw [if_neg h1] at h
        rw [if_neg h2] at h'
        exact hr.injm _ _ _ _ h h' he

/-- A number that waits, laid by. -/
theorem ghost_rel {m s w} (hr : RelS m s w) : Ext m s w m (s.push .ghost) w ∧ RelS m (s.push .ghost) w := by
  have hne : ∀ {β : Nat} {o : MObj}, s.h[β]? = some o → β ≠ s.h.length := fun {β o} h e => by
    have := lt_of_getElem? h; omega
  have old : ∀ {β : Nat} {o : MObj}, s.h[β]? = some o → (s.push .ghost).h[β]? = some o := fun {β o} h => by
    rw [push_get, if_neg (hne h)]; exact h
  have back : ∀ {β : Nat} {o : MObj}, (s.push .ghost).h[β]? = some o → o ≠ .ghost → s.h[β]? = some o := fun {β o} h ho => by
    rw [push_get] at h
    split at h
    · exact absurd (by simpa using h.symm) ho
    · exact h
  have e' : Ext m s w m (s.push .ghost) w := by
    refine { size := Nat.le_refl _, same := fun x hx _ => rfl, own := ?_, arr := fun x arr el fz h => ⟨arr, h, rfl⟩, hlen := by simp [MSt.push], dead := fun γ h => old h,
             blk := fun γ st c h => .inr ⟨st, c, old h, Nat.le_refl _, fun _ => rfl⟩, map := fun γ es h => .inr ⟨es, old h, rfl⟩, llen := Nat.le_refl _, leq := rfl, ls := fun _ _ => rfl, lst := (Ext.refl m s w).lst, gl := rfl }
    intro x hx
    rcases hx with ⟨γ, st, c, h, rfl⟩ | ⟨γ, es, h, rfl⟩ | h
    · exact .inl (.inl ⟨γ, st, c, back h (by simp), rfl⟩)
    · exact .inl (.inr (.inl ⟨γ, es, back h (by simp), rfl⟩))
    · exact .inl (.inr (.inr h))
  exact ⟨e', hr.step e' (fun γ st c h => .inl ⟨back h (by simp), rfl, rfl⟩) (fun γ es h => .inl ⟨back h (by simp), rfl, rfl⟩) (fun l L h => .inl ⟨h, rfl, rfl⟩)
    (fun _ _ _ _ _ _ h h' he => hr.injb _ _ _ _ _ _ (back h (by simp)) (back h' (by simp)) he) (fun _ _ _ _ h h' he => hr.injm _ _ _ _ (back h (by simp)) (back h' (by simp)) he) hr.injl⟩

/-- A new block of the mirror's own. -/
theorem push_rel {m s w} (hr : RelS m s w) (st0 : Nat) (vs : List MV) (rs : Array Value) (t : TypeId) (hl : vs.length ≤ rs.size)
    (hv : ∀ j (h : j < vs.length) (h' : j < rs.size), RelV m s w vs[j] rs[j]) (hy : ∀ v ∈ vs, v.noY = true) :
    Ext m s w (m.at s.h.length (w.heap.size, 0)) (s.push (.blk st0 vs)) (w.alloc (.cells rs t)) ∧ RelS (m.at s.h.length (w.heap.size, 0)) (s.push (.blk st0 vs)) (w.alloc (.cells rs t)) :=
  adopt (w1 := w.alloc (.cells rs t)) hr (by simp) (fun b hb => by rw [alloc_get, if_neg (by omega)]) st0 w.heap.size 0 vs rs t (0, 0) (Nat.le_refl _) (by rw [alloc_get, if_pos rfl]) (fun j _ => by simp)
    (by simpa using hl) (fun j h h' => by simpa using hv j h (by simpa using h')) hy

/-- The state of a cell's block after a store. -/
theorem setCell_get (w : World) (a : Addr) (v : Value) (ha : a.spot = none) (arr : Array Value) (el : TypeId) (fz : Nat × Nat) (h : w.heap[a.block]? = some (.cells arr el fz)) :
    (w.setCell a v).heap[a.block]? = some (.cells (arr.setIfInBounds a.off v) el fz) := by
  simp [World.setCell, Array.getElem?_modify, h, ha]

theorem setCell_other (w : World) (a : Addr) (v : Value) (b : Nat) (h : b ≠ a.block) : (w.setCell a v).heap[b]? = w.heap[b]? := by
  have : ¬ a.block = b := fun e => h e.symm
  simp [World.setCell, Array.getElem?_modify, this]

/-- One cell of the mirror's own is written. -/
theorem set_rel {m s w} (hr : RelS m s w) (β st : Nat) (cells : List MV) (hβ : s.h[β]? = some (.blk st cells)) (off : Nat) (hoff : off < cells.length) (v : MV) (r : Value) (hv : RelV m s w v r) (hy : v.noY = true) :
    Ext m s w m (s.put β (.blk st (cells.set off v))) (w.setCell ⟨(m.b β).1, (m.b β).2 + off, none⟩ r) ∧ RelS m (s.put β (.blk st (cells.set off v))) (w.setCell ⟨(m.b β).1, (m.b β).2 + off, none⟩ r) := by
  have hlt : β < s.h.length := lt_of_getElem? hβ
  obtain ⟨arr, el, fz, a1, a2, a3, a4, a5⟩ := hr.blk β st cells hβ
  have own0 : ∀ {b : Nat}, Own m (s.put β (.blk st (cells.set off v))) b → Own m s b := fun {b} h => by
    rcases h with ⟨γ, st', c, h, rfl⟩ | ⟨γ, es, h, rfl⟩ | h
    · rw [put_get _ _ _ _ hlt] at h
      by_cases hg : γ = β
      · subst hg; exact .inl ⟨γ, st, cells, hβ, rfl⟩
      · rw [if_neg hg] at h; exact .inl ⟨γ, st', c, h, rfl⟩
    · rw [put_get _ _ _ _ hlt] at h
      by_cases hg : γ = β
      · simp [hg] at h
      · rw [if_neg hg] at h; exact .inr (.inl ⟨γ, es, h, rfl⟩)
    · exact .inr (.inr h)
  have e : Ext m s w m (s.put β (.blk st (cells.set off v))) (w.setCell ⟨(m.b β).1, (m.b β).2 + off, none⟩ r) := by
    refine { size := by simp, same := ?_, own := fun b h => .inl (own0 h), arr := ?_, hlen := by simp [MSt.put], dead := ?_, blk := ?_, map := ?_, llen := Nat.le_refl _, leq := rfl, ls := fun _ _ => rfl, lst := (Ext.refl m s w).lst, gl := rfl }
    · intro b _ hno
      refine setCell_other _ _ _ _ fun he => hno (.inl ⟨β, st, cells, hβ, he.symm⟩)
    · intro b arr' el' fz' h
      by_cases hb : b = (m.b β).1
      · subst hb
        exact ⟨_, setCell_get w ⟨(m.b β).1, (m.b β).2 + off, none⟩ r rfl arr' el' fz' h, by simp⟩
      · exact ⟨arr', by rw [setCell_other _ _ _ _ hb]; exact h, rfl⟩
    · intro γ h
      rw [put_get _ _ _ _ hlt]
      by_cases hg : γ = β
      · rw [hg, hβ] at h; simp at h
      · rw [if_neg hg]; exact h
    · intro γ st' c h
      rw [put_get _ _ _ _ hlt]
      by_cases hg : γ = β
      · subst hg
        rw [hβ] at h
        simp only [Option.some.injEq, MObj.blk.injEq] at h
        obtain ⟨rfl, rfl⟩ := h
        exact .inr ⟨st, _, by rw [if_pos rfl], Nat.le_refl _, fun _ => rfl⟩
      · exact .inr ⟨st', c, by rw [if_neg hg]; exact h, Nat.le_refl _, fun _ => rfl⟩
    · intro γ es h
      rw [put_get _ _ _ _ hlt]
      by_cases hg : γ = β
      · rw [hg, hβ] at h; simp at h
      · exact .inr ⟨es, by rw [if_neg hg]; exact h, rfl⟩
  have notb : ∀ {x : Nat} {o : Obj}, w.heap[x]? = some o → (∀ arr el fz, o ≠ .cells arr el fz) → x ≠ (m.b β).1 := fun {x o} h hn he => by
    rw [he, a1] at h; exact hn arr el fz (by simpa using h.symm)
  refine ⟨e, hr.step e ?_ ?_ ?_ ?_ ?_ hr.injl⟩
  · intro γ st' c h
    rw [put_get _ _ _ _ hlt] at h
    by_cases hg : γ = β
    · subst hg
      simp only [if_true, Option.some.injEq, MObj.blk.injEq] at h
      obtain ⟨rfl, rfl⟩ := h
      right
      refine ⟨_, el, fz, setCell_get w ⟨(m.b γ).1, (m.b γ).2 + off, none⟩ r rfl arr el fz a1, by simpa using a2, by simpa using a3, fun j hj hj' => ?_, fun j hj => ?_⟩
      · have hj1 : j < cells.length := by simpa using hj
        have hj2 : (m.b γ).2 + j < arr.size := by simpa using hj'
        by_cases hjo : j = off
        · subst hjo
          simp only [List.getElem_set_self, Array.getElem_setIfInBounds_self]
          exact hv.ext e
        · rw [List.getElem_set_ne (Ne.symm hjo), Array.getElem_setIfInBounds_ne (by simpa using hj') (by show (m.b γ).2 + off ≠ (m.b γ).2 + j; omega)]
          exact (a4 j hj1 hj2).ext e
      · have hj1 : j < cells.length := by simpa using hj
        by_cases hjo : j = off
        · subst hjo
          simp only [List.getElem_set_self]
          exact lt_mono (by simp [MSt.put]) (Nat.le_refl _) _ (lt_of_noY _ hv.lt hy)
        · rw [List.getElem_set_ne (Ne.symm hjo)]
          exact lt_mono (by simp [MSt.put]) (Nat.le_refl _) _ (a5 j hj1)
    · rw [if_neg hg] at h
      refine .inl ⟨h, rfl, setCell_other _ _ _ _ fun he => hg (hr.injb _ _ _ _ _ _ h hβ he)⟩
  · intro γ es h
    rw [put_get _ _ _ _ hlt] at h
    by_cases hg : γ = β
    · simp [hg] at h
    · rw [if_neg hg] at h
      obtain ⟨res, clock, h1, _⟩ := hr.map γ es h
      exact .inl ⟨h, rfl, setCell_other _ _ _ _ (notb h1 (by simp))⟩
  · intro l L h
    obtain ⟨R, h1, _⟩ := hr.loop l L h
    exact .inl ⟨h, rfl, setCell_other _ _ _ _ (notb h1 (by simp))⟩
  · intro γ γ' st1 st2 c c' h h' he
    rw [put_get _ _ _ _ hlt] at h h'
    have get : ∀ {δ st c}, (if δ = β then some (MObj.blk st (cells.set off v)) else s.h[δ]?) = some (.blk st c) → True := fun _ => trivial
    have up : ∀ {δ st1 c1}, (if δ = β then some (MObj.blk st (cells.set off v)) else s.h[δ]?) = some (.blk st1 c1) → ∃ st2 c2, s.h[δ]? = some (.blk st2 c2) := fun {δ st1 c1} h => by
      by_cases hd : δ = β
      · subst hd; exact ⟨_, _, hβ⟩
      · rw [if_neg hd] at h; exact ⟨_, _, h⟩
    obtain ⟨_, _, g1⟩ := up h
    obtain ⟨_, _, g2⟩ := up h'
    exact hr.injb _ _ _ _ _ _ g1 g2 he
  · intro γ γ' c c' h h' he
    rw [put_get _ _ _ _ hlt] at h h'
    have up : ∀ {δ c1}, (if δ = β then some (MObj.blk st (cells.set off v)) else s.h[δ]?) = some (.map c1) → s.h[δ]? = some (.map c1) := fun {δ c1} h => by
      by_cases hd : δ = β
      · simp [hd] at h
      · rw [if_neg hd] at h; exact h
    exact hr.injm _ _ _ _ (up h) (up h') he

end Go.Mir

/- Loads and stores of the mirror, and the real ones. -/
namespace Go.Mir

/-- Is a type's value of several cells, and how many. -/
def lay (P : Program) (t : TypeId) : Option (Bool × Nat) :=
  match P.underlying t, P.info? t with
  | some d, some i => some ((match d with | .struct _ | .array _ _ => true | _ => false), i.size)
  | _, _ => none

theorem run_underlying' {P : Program} {t : TypeId} {d : TypeDesc} (h : P.underlying t = some d) (w : World) : (underlying t).run P w = .ok d w := by
  simp [underlying, h]

theorem run_typeInfo' {P : Program} {t : TypeId} {i : TypeInfo} (h : P.info? t = some i) (w : World) : (typeInfo t).run P w = .ok i w := by
  simp [typeInfo, h]

theorem lay_spec {P : Program} {t : TypeId} {ag : Bool} {n : Nat} (h : lay P t = some (ag, n)) (w : World) :
    (isAgg t).run P w = .ok ag w ∧ (sizeOf t).run P w = .ok n w := by
  unfold lay at h
  cases hu : P.underlying t with
  | none => simp [hu] at h
  | some d =>
    cases hi : P.info? t with
    | none => simp [hu, hi] at h
    | some i =>
      simp only [hu, hi, Option.some.injEq, Prod.mk.injEq] at h
      obtain ⟨rfl, rfl⟩ := h
      refine ⟨?_, by simp [sizeOf, run_typeInfo' hi]⟩
      simp only [isAgg, Sem.run_bind, run_underlying' hu, Result.andThen]
      cases d <;> rfl

theorem add_addr (b o n : Nat) : (⟨b, o, none⟩ : Addr).add n = ⟨b, o + n, none⟩ := by
  unfold Addr.add
  split
  · subst_vars; rfl
  · rfl

theorem run_load' {P : Program} {w : World} {a : Addr} {v : Value} (h : w.cell? a = some v) : (load a).run P w = .ok v w := by
  simp [load, Sem.run, h]

theorem run_loadCellsFrom {P : Program} {w : World} (b o : Nat) : ∀ (vs : List Value) (i : Nat) (acc : Array Value),
    (∀ j (h : j < vs.length), w.cell? ⟨b, o + (i + j), none⟩ = some vs[j]) → (loadCellsFrom ⟨b, o, none⟩ i vs.length acc).run P w = .ok (acc ++ vs.toArray) w
  | [], i, acc, _ => by simp [loadCellsFrom]
  | v :: vs, i, acc, h => by
    have h0 := h 0 (by simp)
    simp only [List.length_cons, loadCellsFrom, Sem.run_bind, add_addr]
    rw [run_load' (by simpa using h0)]
    simp only [Result.andThen]
    rw [run_loadCellsFrom b o vs (i + 1) (acc.push v) (fun j hj => by
      have := h (j + 1) (by simp; omega)
      simp only [List.getElem_cons_succ] at this
      rw [← this]; congr 2; omega)]
    simp

theorem run_loadCells {P : Program} {w : World} (b o : Nat) (vs : List Value) (h : ∀ j (h : j < vs.length), w.cell? ⟨b, o + j, none⟩ = some vs[j]) :
    (loadCells ⟨b, o, none⟩ vs.length).run P w = .ok vs.toArray w := by
  unfold loadCells
  rw [run_loadCellsFrom b o vs 0 #[] (fun j hj => by simpa using h j hj)]
  simp

def readAt (ag : Bool) (n : Nat) (cells : List MV) (off : Nat) : Option MV :=
  if ag then (if off + n ≤ cells.length then some (.agg ((cells.drop off).take n)) else none) else cells[off]?

/-- What a load of the mirror's comes to. -/
def mload (s : MSt) (ag : Bool) (n : Nat) : MV → Option MV
  | .ptr β st off => match s.h[β]? with
    | some (.blk st' cells) => if st' = st then readAt ag n cells off else none
    | _ => none
  | .fptr cells off => readAt ag n cells off
  | _ => none

theorem sim_read {P : Program} {m s w} {t : TypeId} {ag : Bool} {n : Nat} (hl : lay P t = some (ag, n)) (b base : Nat) (cells : List MV) (rs : List Value) (hlen : cells.length ≤ rs.length)
    (hc : ∀ j (h : j < rs.length), w.cell? ⟨b, base + j, none⟩ = some rs[j]) (hv : ∀ j (h : j < cells.length) (h' : j < rs.length), RelV m s w cells[j] rs[j])
    {off : Nat} {v : MV} (h : readAt ag n cells off = some v) : ∃ r, (loadVar t ⟨b, base + off, none⟩).run P w = .ok r w ∧ RelV m s w v r := by
  obtain ⟨l1, l2⟩ := lay_spec hl w
  unfold readAt at h
  cases ag with
  | true =>
    simp only [if_true] at h
    split at h
    · rename_i hle
      simp only [Option.some.injEq] at h
      subst h
      have hlen2 : ((rs.drop off).take n).length = n := by simp; omega
      have hrun : (loadCells ⟨b, base + off, none⟩ n).run P w = .ok ((rs.drop off).take n).toArray w := by
        conv => lhs; rw [← hlen2]
        refine run_loadCells b (base + off) _ (fun j hj => ?_)
        rw [hlen2] at hj
        have := hc (off + j) (by omega)
        rw [Nat.add_assoc, this]
        simp
      refine ⟨.agg ((rs.drop off).take n).toArray, ?_, ?_⟩
      · simp only [loadVar, Sem.run_bind, l1, Result.andThen, l2, hrun, if_true]
        rfl
      · refine .agg _ _ (by simp; omega) (fun j hj hj' => ?_)
        have hj1 : j < n := by simp at hj; omega
        have := hv (off + j) (by simp at hj; omega) (by simp at hj; omega)
        simpa using this
    · simp at h
  | false =>
    simp only [Bool.false_eq_true, if_false] at h
    obtain ⟨hlt, he⟩ := List.getElem?_eq_some_iff.1 h
    have hlt' : off < rs.length := by omega
    refine ⟨rs[off], ?_, he ▸ hv off hlt hlt'⟩
    simp only [loadVar, Sem.run_bind, l1, Result.andThen, Bool.false_eq_true, if_false]
    exact run_load' (hc off hlt')

theorem sim_load {P : Program} {m s w} {t : TypeId} {ag : Bool} {n : Nat} (hr : RelS m s w) (hl : lay P t = some (ag, n)) {a v : MV} {ra : Value} (ha : RelV m s w a ra)
    (h : mload s ag n a = some v) : ∃ r, (Instr.loadAt t ra).run P w = .ok r w ∧ RelV m s w v r := by
  cases ha with
  | ptr β st off hlive =>
    obtain ⟨c, hc⟩ := hlive
    simp only [mload, hc, if_true] at h
    obtain ⟨arr, el, fz, a1, a2, a3, a4, a5⟩ := hr.blk β st c hc
    simp only [Instr.loadAt, Instr.sureAddr, Sem.run_bind, Sem.run_pure, Result.andThen]
    refine sim_read hl (m.b β).1 (m.b β).2 c (arr.toList.drop (m.b β).2) (by simp; omega) (fun j hj => ?_) (fun j hj hj' => ?_) h
    · simp at hj
      have h1 : (m.b β).2 + j < arr.size := by omega
      simp [World.cell?, a1, h1]
    · simp at hj'
      have := a4 j hj (by omega)
      simpa using this
  | ptrStale β st off v' hst hv' =>
    rcases hst with h1 | ⟨st', c, h1, hlt⟩
    · simp [mload, h1] at h
    · have : st' ≠ st := by omega
      simp [mload, h1, this] at h
  | fptr cells off b base vs hb ho hlen hc hv =>
    simp only [Instr.loadAt, Instr.sureAddr, Sem.run_bind, Sem.run_pure, Result.andThen]
    exact sim_read hl b base cells vs (by omega) hc hv h
  | _ => simp [mload] at h

/-! ### Stores -/
def splice : List MV → Nat → List MV → List MV
  | cells, _, [] => cells
  | cells, off, v :: vs => splice (cells.set off v) (off + 1) vs

theorem splice_length : ∀ (cells : List MV) (off : Nat) (vs : List MV), (splice cells off vs).length = cells.length
  | _, _, [] => rfl
  | cells, off, v :: vs => by simp [splice, splice_length (cells.set off v) (off + 1) vs]

theorem put_put (s : MSt) (β : Nat) (o o' : MObj) : (s.put β o).put β o' = s.put β o' := by simp [MSt.put]

theorem run_store' {P : Program} {w : World} {a : Addr} {v u : Value} (hv : one1 v = true) (hc : w.cell? a = some u) (hf : w.frozen? a = false) : (store a v).run P w = .ok () (w.setCell a v) := by
  unfold store
  cases v <;> simp_all [one1, Sem.run]

/-- A row of cells of the mirror's own is written, one behind the other. -/
theorem sim_storeCells {P : Program} : ∀ (vs : List MV) (rs : List Value) {m s w} (_ : RelS m s w) (β st : Nat) (cells : List MV) (_ : s.h[β]? = some (.blk st cells)) (off i : Nat) (_ : off + i + vs.length ≤ cells.length)
    (_ : RelL m s w vs rs) (_ : ∀ v ∈ vs, v.flat = true),
    ∃ w', (storeCells ⟨(m.b β).1, (m.b β).2 + off, none⟩ rs i).run P w = .ok () w' ∧ Ext m s w m (s.put β (.blk st (splice cells (off + i) vs))) w' ∧ RelS m (s.put β (.blk st (splice cells (off + i) vs))) w'
  | [], rs, m, s, w, hr, β, st, cells, hβ, off, i, hle, hL, hf => by
    have : rs = [] := by cases rs with | nil => rfl | cons _ _ => simp [RelL] at hL
    subst this
    have hput : s.put β (.blk st (splice cells (off + i) [])) = s := by
      obtain ⟨hlt, he⟩ := List.getElem?_eq_some_iff.1 hβ
      simp only [splice, MSt.put]
      rw [← he, List.set_getElem_self]
    rw [hput]
    exact ⟨w, by simp [storeCells], Ext.refl _ _ _, hr⟩
  | v :: vs, rs, m, s, w, hr, β, st, cells, hβ, off, i, hle, hL, hf => by
    cases rs with
    | nil => simp [RelL] at hL
    | cons r rs =>
      have hv : RelV m s w v r := hL.2 0 (by simp) (by simp)
      have hflat : v.flat = true := hf v (by simp)
      have hoff : off + i < cells.length := by simp at hle; omega
      obtain ⟨arr, el, fz, a1, a2, a3, a4, a5⟩ := hr.blk β st cells hβ
      have hsz : (m.b β).2 + (off + i) < arr.size := by omega
      obtain ⟨e1, hr1⟩ := set_rel hr β st cells hβ (off + i) hoff v r hv (noY_of_flat hflat)
      have hβ1 : (s.put β (.blk st (cells.set (off + i) v))).h[β]? = some (.blk st (cells.set (off + i) v)) := by
        rw [put_get _ _ _ _ (lt_of_getElem? hβ), if_pos rfl]
      have hL1 : RelL m (s.put β (.blk st (cells.set (off + i) v))) (w.setCell ⟨(m.b β).1, (m.b β).2 + (off + i), none⟩ r) vs rs := by
        refine RelL.ext (m := m) (s := s) (w := w) ⟨by simpa using hL.1, fun j hj hj' => ?_⟩ e1
        have := hL.2 (j + 1) (by simp; omega) (by simp; omega)
        simpa using this
      obtain ⟨w', h1, h2, h3⟩ := sim_storeCells (P := P) vs rs hr1 β st _ hβ1 off (i + 1) (by simp at hle ⊢; omega) hL1 (fun v hv => hf v (by simp [hv]))
      refine ⟨w', ?_, ?_, ?_⟩
      · simp only [storeCells, Sem.run_bind, add_addr]
        have ha : (m.b β).2 + off + i = (m.b β).2 + (off + i) := by omega
        rw [ha, run_store' (u := arr[(m.b β).2 + (off + i)]) (hv.one hflat) (by simp [World.cell?, a1, hsz]) (by
          simp only [World.frozen?, a1]
          exact a2 _ hsz)]
        exact h1
      · have := e1.trans h2
        rw [put_put] at this
        exact this
      · rw [put_put] at h3
        exact h3

/-- What a store of the mirror's comes to. -/
def mstore (s : MSt) (n : Nat) (a v : MV) : Option MSt :=
  match a with
  | .ptr β st off => match s.h[β]? with
    | some (.blk st' cells) => if st' = st ∧ v.cells.length = n ∧ off + n ≤ cells.length ∧ v.cells.all MV.flat then some (s.put β (.blk st (splice cells off v.cells))) else none
    | _ => none
  | _ => none

theorem RelV.cells {m s w v r} (h : RelV m s w v r) (hf : v.cells.all MV.flat = true) : RelL m s w v.cells r.cells.toList := by
  cases h with
  | agg cs rcs hc hh => exact ⟨by simpa [MV.cells, Value.cells] using hc, fun j hj hj' => hh j hj (by simpa [Value.cells] using hj')⟩
  | any v => simp [MV.cells, MV.flat] at hf
  | tuple cs rcs hc hh => simp [MV.cells, MV.flat] at hf
  | ptrStale β st off _ h hv => cases r <;> simp [one1] at hv <;> exact ⟨rfl, fun j hj hj' => by simp [MV.cells] at hj; subst hj; exact .ptrStale _ _ _ _ h (by rfl)⟩
  | mslStale β st sz off len cap _ h hv => cases r <;> simp [one1] at hv <;> exact ⟨rfl, fun j hj hj' => by simp [MV.cells] at hj; subst hj; exact .mslStale _ _ _ _ _ _ _ h (by rfl)⟩
  | mapStale β _ h hv => cases r <;> simp [one1] at hv <;> exact ⟨rfl, fun j hj hj' => by simp [MV.cells] at hj; subst hj; exact .mapStale _ _ h (by rfl)⟩
  | int k n => exact ⟨rfl, fun j hj hj' => by simp [MV.cells] at hj; subst hj; exact .int k n⟩
  | bool b => exact ⟨rfl, fun j hj hj' => by simp [MV.cells] at hj; subst hj; exact .bool b⟩
  | flt k n => exact ⟨rfl, fun j hj hj' => by simp [MV.cells] at hj; subst hj; exact .flt k n⟩
  | str l => exact ⟨rfl, fun j hj hj' => by simp [MV.cells] at hj; subst hj; exact .str l⟩
  | nilptr => exact ⟨rfl, fun j hj hj' => by simp [MV.cells] at hj; subst hj; exact .nilptr⟩
  | nilsl => exact ⟨rfl, fun j hj hj' => by simp [MV.cells] at hj; subst hj; exact .nilsl⟩
  | nilmap => exact ⟨rfl, fun j hj hj' => by simp [MV.cells] at hj; subst hj; exact .nilmap⟩
  | nilfunc => exact ⟨rfl, fun j hj hj' => by simp [MV.cells] at hj; subst hj; exact .nilfunc⟩
  | esl a cap => exact ⟨rfl, fun j hj hj' => by simp [MV.cells] at hj; subst hj; exact .esl a cap⟩
  | niliface => exact ⟨rfl, fun j hj hj' => by simp [MV.cells] at hj; subst hj; exact .niliface⟩
  | ptr β st off h => exact ⟨rfl, fun j hj hj' => by simp [MV.cells] at hj; subst hj; exact .ptr _ _ _ h⟩
  | fptr cells off b base vs hb ho hl hc hv => exact ⟨rfl, fun j hj hj' => by simp [MV.cells] at hj; subst hj; exact .fptr cells off b base vs hb ho hl hc hv⟩
  | msl β st sz off len cap rcap h1 h2 h3 h4 => exact ⟨rfl, fun j hj hj' => by simp [MV.cells] at hj; subst hj; exact .msl _ _ _ _ _ _ _ h1 h2 h3 h4⟩
  | fsl cells len cap b off rcap vs hb ho hlen hcap hl hc hv => exact ⟨rfl, fun j hj hj' => by simp [MV.cells] at hj; subst hj; exact .fsl cells len cap b off rcap vs hb ho hlen hcap hl hc hv⟩
  | map β es h => exact ⟨rfl, fun j hj hj' => by simp [MV.cells] at hj; subst hj; exact .map _ _ h⟩
  | func fn fs cs rfs rcs h1 h2 h3 h4 h5 => exact ⟨rfl, fun j hj hj' => by simp [MV.cells] at hj; subst hj; exact .func _ _ _ _ _ h1 h2 h3 h4 h5⟩
  | yield l h => exact ⟨rfl, fun j hj hj' => by simp [MV.cells] at hj; subst hj; exact .yield _ h⟩
  | iface t v rv h => exact ⟨rfl, fun j hj hj' => by simp [MV.cells] at hj; subst hj; exact .iface _ _ _ h⟩

theorem sim_store {P : Program} {m s w} {t : TypeId} {ag : Bool} {n : Nat} (hr : RelS m s w) (hl : lay P t = some (ag, n)) {a v : MV} {ra rv : Value} (ha : RelV m s w a ra) (hv : RelV m s w v rv)
    {s' : MSt} (h : mstore s n a v = some s') : ∃ w', (Instr.storeAt t ra rv).run P w = .ok () w' ∧ Ext m s w m s' w' ∧ RelS m s' w' := by
  obtain ⟨l1, l2⟩ := lay_spec hl w
  cases ha with
  | ptr β st off hlive =>
    obtain ⟨c, hc⟩ := hlive
    simp only [mstore, hc] at h
    split at h
    · rename_i hcond
      obtain ⟨_, hn, hle, hflat⟩ := hcond
      simp only [Option.some.injEq] at h
      subst h
      have hcells := hv.cells hflat
      obtain ⟨w', h1, h2, h3⟩ := sim_storeCells (P := P) v.cells rv.cells.toList hr β st c hc off 0 (by omega) hcells (fun x hx => List.all_eq_true.1 hflat x hx)
      have hsize : rv.cells.size = n := by rw [← hn, hcells.1]; simp
      refine ⟨w', ?_, h2, h3⟩
      simp only [Instr.storeAt, Instr.sureAddr, Sem.run_bind, Sem.run_pure, Result.andThen, storeVar, l2, hsize, ne_eq, not_true_eq_false, if_false]
      exact h1
    · simp at h
  | ptrStale β st off v' hst hv' =>
    rcases hst with h1 | ⟨st', c, h1, hlt⟩
    · simp [mstore, h1] at h
    · have : st' ≠ st := by omega
      simp [mstore, h1, this] at h
  | _ => simp [mstore] at h

end Go.Mir

/- The mirror's operations on values. -/
namespace Go.Mir

/-- A known value, as the mirror has it. -/
def ofVal1 : Value → MV
  | .bool b => .bool b
  | .int k n => .int k n
  | .float k n => .flt k n
  | .string s => .str s.data.toList
  | .pointer none => .nilptr
  | .slice none 0 0 => .nilsl
  | .map none => .nilmap
  | .nilFunc => .nilfunc
  | .nilIface => .niliface
  | .func fn a b => if a.size = 0 ∧ b.size = 0 then (match fn with | .func f => .func (.func f) [] [] | _ => .any) else .any
  | _ => .any
def ofVal : Value → MV
  | .agg cs => .agg (cs.toList.map ofVal1)
  | .tuple cs => .tuple (cs.toList.map ofVal1)
  | v => ofVal1 v

theorem rel_ofVal1 {m s w} (v : Value) : RelV m s w (ofVal1 v) v := by
  unfold ofVal1
  split
  · exact .bool _
  · exact .int _ _
  · exact .flt _ _
  · rename_i s0
    have := RelV.str (m := m) (s := s) (w := w) s0.data.toList
    simpa using this
  · exact .nilptr
  · exact .nilsl
  · exact .nilmap
  · exact .nilfunc
  · exact .niliface
  · rename_i fn a b
    split
    · rename_i h
      split
      · have ha : a = #[] := Array.eq_empty_of_size_eq_zero h.1
        have hb : b = #[] := Array.eq_empty_of_size_eq_zero h.2
        subst ha; subst hb
        exact .func _ _ _ _ _ (by simp) (by simp) (by simp) (by simp) (by simp)
      · exact .any _
    · exact .any _
  · exact .any _

theorem rel_ofVal {m s w} (v : Value) : RelV m s w (ofVal v) v := by
  unfold ofVal
  split
  · exact .agg _ _ (by simp) (fun j hj hj' => by simpa using rel_ofVal1 _)
  · exact .tuple _ _ (by simp) (fun j hj hj' => by simpa using rel_ofVal1 _)
  · exact rel_ofVal1 _

theorem noY_ofVal1 (v : Value) : (ofVal1 v).noY = true := by
  unfold ofVal1
  split
  all_goals first
    | rfl
    | (split
       · split <;> rfl
       · rfl)

def mev (s : MSt) (env : Nat → MV) : Operand → MV
  | .tmp t => env t
  | .const v => ofVal v
  | .global g => match s.gl g with | some cells => .fptr cells 0 | none => .any
  | .func f => .func (.func f) [] []

/-- The operand's temporary is one of the frame's. -/
def Operand.fits (N : Nat) : Operand → Bool
  | .tmp t => t < N
  | _ => true

theorem rel_mev {m s w env} {a : Act} (hr : RelS m s w) (he : RelE m s w env a.tmps) (x : Operand) (hx : Operand.fits a.tmps.size x = true) : RelV m s w (mev s env x) (a.eval x) := by
  cases x with
  | tmp t =>
    simp only [Operand.fits, decide_eq_true_eq] at hx
    have := he t hx
    simpa [mev, Act.eval, hx] using this
  | const v => exact rel_ofVal v
  | global g =>
    simp only [mev, Act.eval]
    split
    · exact (hr.gl _ _ (by assumption)).1
    · exact .any _
  | func f => exact .func _ _ _ _ _ (by simp) (by simp) (by simp) (by simp) (by simp)

/-! ### Numbers -/
def mint (op : BinOp) (k : IntKind) (a b : Int) : Option MV :=
  match op with
  | .add => some (.int k (k.wrap (a + b)))
  | .sub => some (.int k (k.wrap (a - b)))
  | .mul => some (.int k (k.wrap (a * b)))
  | .quo => if b = 0 then none else some (.int k (k.wrap (a.tdiv b)))
  | .rem => if b = 0 then none else some (.int k (a.tmod b))
  | .and => some (.int k (k.wrap (BitVec.ofInt k.bits a &&& BitVec.ofInt k.bits b).toNat))
  | .or => some (.int k (k.wrap (BitVec.ofInt k.bits a ||| BitVec.ofInt k.bits b).toNat))
  | .xor => some (.int k (k.wrap (BitVec.ofInt k.bits a ^^^ BitVec.ofInt k.bits b).toNat))
  | .andNot => some (.int k (k.wrap (BitVec.ofInt k.bits a &&& ~~~ BitVec.ofInt k.bits b).toNat))
  | .eql => some (.bool (a == b))
  | .neq => some (.bool (a != b))
  | .lss => some (.bool (decide (a < b)))
  | .leq => some (.bool (decide (a ≤ b)))
  | .gtr => some (.bool (decide (a > b)))
  | .geq => some (.bool (decide (a ≥ b)))
  | _ => none

def mshift (op : BinOp) (k : IntKind) (a b : Int) : Option MV :=
  if b < 0 then none else
  match op with
  | .shl => some (.int k (k.wrap (a * 2 ^ min b.toNat k.bits)))
  | .shr => some (.int k (a.fdiv (2 ^ min b.toNat k.bits)))
  | _ => none

def mstr (op : BinOp) (a b : List UInt8) : Option MV :=
  match op with
  | .add => if (a.length + b.length : Nat) < 2 ^ 63 then some (.str (a ++ b)) else none
  | .eql => some (.bool (a == b))
  | .neq => some (.bool !(a == b))
  | .lss => some (.bool (Op.bytesLess a b))
  | .leq => some (.bool (Op.bytesLess a b || a == b))
  | .gtr => some (.bool !(Op.bytesLess a b || a == b))
  | .geq => some (.bool !(Op.bytesLess a b))
  | _ => none

/-- Is a mirror's address one that is come to? -/
def MSt.isLive (s : MSt) (β st : Nat) : Bool := match s.h[β]? with | some (.blk st' _) => st' == st | _ => false

theorem isLive_iff {s : MSt} {β st : Nat} : s.isLive β st = true ↔ s.live β st := by
  unfold MSt.isLive MSt.live
  split
  · rename_i st' c h
    simp only [beq_iff_eq, h, Option.some.injEq, MObj.blk.injEq]
    constructor
    · rintro rfl; exact ⟨c, rfl, rfl⟩
    · rintro ⟨_, h1, _⟩; exact h1
  · rename_i h
    constructor
    · intro h; simp at h
    · rintro ⟨c, hc⟩; exact absurd hc (h _ _)

/-- Is a value of that kind nil? -/
def misNil (s : MSt) : MV → Option Bool
  | .nilptr | .nilsl | .nilmap | .nilfunc => some true
  | .fptr .. | .fsl .. | .esl | .func .. | .yield _ => some false
  | .ptr β st _ | .msl β st _ _ _ _ => if s.isLive β st then some false else none
  | .map β => match s.h[β]? with | some (.map _) => some false | _ => none
  | _ => none

def nilOf : MV → Bool
  | .nilptr | .nilsl | .nilmap | .nilfunc => true
  | _ => false

def kindOf : MV → Nat
  | .nilptr | .ptr .. | .fptr .. => 1
  | .nilsl | .msl .. | .fsl .. | .esl => 2
  | .nilmap | .map _ => 3
  | .nilfunc | .func .. | .yield _ => 4
  | _ => 0
def tkind : TypeDesc → Nat
  | .pointer _ => 1
  | .slice _ => 2
  | .map _ _ => 3
  | .func _ _ _ => 4
  | .bool => 6
  | _ => 5

/-- '==' of a type: of two bools; of what may be nil with nil. -/
def meq (P : Program) (s : MSt) (t : TypeId) (x y : MV) : Option Bool :=
  match P.underlying t with
  | some d => match x, y with
    | .bool a, .bool b => if tkind d = 6 then some (a == b) else none
    | x, y => if tkind d = kindOf x ∧ tkind d = kindOf y then (if nilOf y then misNil s x else if nilOf x then misNil s y else none) else none
  | none => none

def mbin (P : Program) (s : MSt) (op : BinOp) (t : TypeId) (x y : MV) : Option MV :=
  match x, y with
  | .int k a, .int k' b => match op with
    | .shl | .shr => mshift op k a b
    | _ => if k = k' then mint op k a b else none
  | .str a, .str b => mstr op a b
  | x, y => match op with
    | .eql => (meq P s t x y).map .bool
    | .neq => (meq P s t x y).map fun b => .bool !b
    | _ => none

theorem sim_int {P : Program} {m s w} {op : BinOp} {k : IntKind} {a b : Int} {v : MV} (hop : op ≠ .shl ∧ op ≠ .shr) (h : mint op k a b = some v) (t : TypeId) :
    ∃ r, (binOp op t (.int k a) (.int k b)).run P w = .ok r w ∧ RelV m s w v r := by
  cases op <;> simp only [mint, Option.some.injEq, reduceCtorEq] at h
  case quo =>
    split at h
    · simp at h
    · rename_i hb
      simp only [Option.some.injEq] at h; subst h
      exact ⟨_, by simp only [binOp, ne_eq, not_true_eq_false, if_false, Op.intDiv, hb]; rfl, .int _ _⟩
  case rem =>
    split at h
    · simp at h
    · rename_i hb
      simp only [Option.some.injEq] at h; subst h
      exact ⟨_, by simp only [binOp, ne_eq, not_true_eq_false, if_false, Op.intDiv, hb]; rfl, .int _ _⟩
  all_goals
    subst h
    refine ⟨_, by simp only [binOp, ne_eq, not_true_eq_false, if_false]; rfl, ?_⟩
    first | exact .int _ _ | exact .bool _

theorem sim_shift {P : Program} {m s w} {op : BinOp} {k k' : IntKind} {a b : Int} {v : MV} (hop : op = .shl ∨ op = .shr) (h : mshift op k a b = some v) (t : TypeId) :
    ∃ r, (binOp op t (.int k a) (.int k' b)).run P w = .ok r w ∧ RelV m s w v r := by
  unfold mshift at h
  split at h
  · simp at h
  · rename_i hb
    rcases hop with rfl | rfl <;> simp only [Option.some.injEq] at h <;> subst h
    · exact ⟨_, by simp only [binOp, Op.shift, hb, if_false]; rfl, .int _ _⟩
    · exact ⟨_, by simp only [binOp, Op.shift, hb, if_false]; rfl, .int _ _⟩

theorem sim_str {P : Program} {m s w} {op : BinOp} {a b : List UInt8} {v : MV} (h : mstr op a b = some v) (t : TypeId) :
    ∃ r, (binOp op t (.string ⟨a.toArray⟩) (.string ⟨b.toArray⟩)).run P w = .ok r w ∧ RelV m s w v r := by
  have ta : (ByteArray.mk a.toArray).toList = a := ByteArray.toList_mk a
  have tb : (ByteArray.mk b.toArray).toList = b := ByteArray.toList_mk b
  have sa : (ByteArray.mk a.toArray).size = a.length := by simp [ByteArray.size]
  have sb : (ByteArray.mk b.toArray).size = b.length := by simp [ByteArray.size]
  cases op <;> simp only [mstr, Option.some.injEq, reduceCtorEq] at h
  case add =>
    split at h
    · rename_i hlt
      simp only [Option.some.injEq] at h; subst h
      refine ⟨.string ⟨(a ++ b).toArray⟩, ?_, .str _⟩
      have hn : ¬ (((a.length + b.length : Nat) : Int) > IntKind.i64.max) := by
        have : IntKind.i64.max = 9223372036854775807 := by decide
        rw [this]; omega
      have happ : (ByteArray.mk a.toArray) ++ (ByteArray.mk b.toArray) = ⟨(a ++ b).toArray⟩ := by
        apply ByteArray.ext
        simp
      simp only [binOp, Op.stringOp, sa, sb, hn, if_false, Sem.run_pure, happ]
    · simp at h
  all_goals
    subst h
    refine ⟨_, by simp only [binOp, Op.stringOp, ta, tb]; rfl, ?_⟩
    first | exact .bool _

theorem live_stale {s : MSt} {β st : Nat} (hst : s.stale β st) : s.isLive β st = false := by
  rcases hst with h1 | ⟨st', c, h1, hlt⟩
  · simp [MSt.isLive, h1]
  · simp [MSt.isLive, h1]; omega

theorem sim_nil {m s w x rx} {b : Bool} (hx : RelV m s w x rx) (h : misNil s x = some b) :
    (kindOf x = 1 ∧ ∃ p, rx = .pointer p ∧ p.isNone = b) ∨ (kindOf x = 2 ∧ ∃ p l c, rx = .slice p l c ∧ p.isNone = b) ∨ (kindOf x = 3 ∧ ∃ p, rx = .map p ∧ p.isNone = b) ∨
    (kindOf x = 4 ∧ rx = .nilFunc ∧ b = true) ∨ (kindOf x = 4 ∧ ∃ f x y, rx = .func f x y ∧ b = false) := by
  cases hx <;> simp only [misNil, Option.some.injEq, reduceCtorEq] at h
  case nilptr => exact .inl ⟨rfl, _, rfl, by simpa using h⟩
  case nilsl => exact .inr (.inl ⟨rfl, _, _, _, rfl, by simpa using h⟩)
  case nilmap => exact .inr (.inr (.inl ⟨rfl, _, rfl, by simpa using h⟩))
  case nilfunc => exact .inr (.inr (.inr (.inl ⟨rfl, rfl, h.symm⟩)))
  case ptr hl => split at h <;> simp at h; exact .inl ⟨rfl, _, rfl, by simpa using h⟩
  case ptrStale hst _ => rw [live_stale hst] at h; simp at h
  case fptr => exact .inl ⟨rfl, _, rfl, by simpa using h⟩
  case msl => split at h <;> simp at h; exact .inr (.inl ⟨rfl, _, _, _, rfl, by simpa using h⟩)
  case mslStale hst _ => rw [live_stale hst] at h; simp at h
  case fsl => exact .inr (.inl ⟨rfl, _, _, _, rfl, by simpa using h⟩)
  case esl => exact .inr (.inl ⟨rfl, _, _, _, rfl, by simpa using h⟩)
  case map hm => simp only [hm, Option.some.injEq] at h; exact .inr (.inr (.inl ⟨rfl, _, rfl, by simpa using h⟩))
  case mapStale hm _ => simp [hm] at h
  case func => exact .inr (.inr (.inr (.inr ⟨rfl, _, _, _, rfl, h.symm⟩)))
  case yield => exact .inr (.inr (.inr (.inr ⟨rfl, _, _, _, rfl, h.symm⟩)))

theorem nilOf_spec {m s w y ry} (hy : RelV m s w y ry) (h : nilOf y = true) : (kindOf y = 1 ∧ ry = .pointer none) ∨ (kindOf y = 2 ∧ ry = .slice none 0 0) ∨ (kindOf y = 3 ∧ ry = .map none) ∨ (kindOf y = 4 ∧ ry = .nilFunc) := by
  cases hy <;> simp [nilOf, kindOf] at h ⊢

theorem eq_nil_right {P : Program} {t : TypeId} {d : TypeDesc} (hu : P.underlying t = some d) (w : World) (n : Nat) {rx ry : Value} {b : Bool} (k : Nat) (hk : tkind d = k)
    (hx : (k = 1 ∧ ∃ p, rx = .pointer p ∧ p.isNone = b) ∨ (k = 2 ∧ ∃ p l c, rx = .slice p l c ∧ p.isNone = b) ∨ (k = 3 ∧ ∃ p, rx = .map p ∧ p.isNone = b) ∨
      (k = 4 ∧ rx = .nilFunc ∧ b = true) ∨ (k = 4 ∧ ∃ f x y, rx = .func f x y ∧ b = false))
    (hy : (k = 1 ∧ ry = .pointer none) ∨ (k = 2 ∧ ry = .slice none 0 0) ∨ (k = 3 ∧ ry = .map none) ∨ (k = 4 ∧ ry = .nilFunc)) :
    (Op.equalIn (n + 1) t rx ry).run P w = .ok b w ∧ (Op.equalIn (n + 1) t ry rx).run P w = .ok b w := by
  rcases hx with ⟨h1, p, rfl, hp⟩ | ⟨h1, p, l, c, rfl, hp⟩ | ⟨h1, p, rfl, hp⟩ | ⟨h1, rfl, rfl⟩ | ⟨h1, f, x, y, rfl, rfl⟩ <;>
    rcases hy with ⟨h2, rfl⟩ | ⟨h2, rfl⟩ | ⟨h2, rfl⟩ | ⟨h2, rfl⟩ <;> (try (exfalso; omega)) <;>
    cases d <;> simp only [tkind] at hk <;> (try (exfalso; omega)) <;>
    simp only [Op.equalIn, Sem.run_bind, run_underlying' hu, Result.andThen] <;>
    first
      | (cases p <;> simp at hp <;> subst hp <;> exact ⟨rfl, rfl⟩)
      | exact ⟨rfl, rfl⟩

theorem eq_bool {P : Program} {t : TypeId} {d : TypeDesc} (hu : P.underlying t = some d) (w : World) (n : Nat) (hk : tkind d = 6) (a b : Bool) :
    (Op.equalIn (n + 1) t (.bool a) (.bool b)).run P w = .ok (a == b) w := by
  cases d <;> simp [tkind] at hk
  simp only [Op.equalIn, Sem.run_bind, run_underlying' hu, Result.andThen]
  rfl

theorem sim_meq {P : Program} {m s w t x y rx ry} {b : Bool} (hx : RelV m s w x rx) (hy : RelV m s w y ry) (h : meq P s t x y = some b) :
    (Op.equal t rx ry).run P w = .ok b w := by
  unfold meq at h
  have e : Op.equal t rx ry = Op.equalIn (9999 + 1) t rx ry := rfl
  rw [e]
  split at h
  · rename_i d hu
    split at h
    · rename_i a c
      cases hx; cases hy
      split at h
      · rename_i hk
        simp only [Option.some.injEq] at h; subst h
        exact eq_bool hu w 9999 hk a c
      · simp at h
    · split at h
      · rename_i hk
        split at h
        · rename_i hn
          have h1 := sim_nil hx h
          have h2 := nilOf_spec hy hn
          rw [← hk.1] at h1
          rw [← hk.2] at h2
          exact (eq_nil_right hu w 9999 _ rfl h1 h2).1
        · split at h
          · rename_i hn
            have h1 := sim_nil hy h
            have h2 := nilOf_spec hx hn
            rw [← hk.2] at h1
            rw [← hk.1] at h2
            exact (eq_nil_right hu w 9999 _ rfl h1 h2).2
          · simp at h
      · simp at h
  · simp at h

theorem eqGuard_plain {P : Program} {op : BinOp} {t : TypeId} {x y : Operand} {a b : Value} {w : World} (h : (match a, b with | .nilIface, .nilIface => false | .agg _, .agg _ => false | _, _ => true) = true) :
    (eqGuard op t x y a b).run P w = .ok () w := by
  revert h
  cases a <;> cases b <;> intro h <;> first
    | exact absurd h Bool.false_ne_true
    | (unfold eqGuard; split <;> rfl)

end Go.Mir

/- The mirror's operations that read types and memory. -/
namespace Go.Mir

def mun (op : UnOp) (x : MV) : Option MV :=
  match op, x with
  | .neg, .int k n => some (.int k (k.wrap (0 - n)))
  | .xor, .int k n => mint .xor k (if k.signed then -1 else k.max) n
  | .not, .bool b => some (.bool !b)
  | _, _ => none

theorem sim_un {P : Program} {m s w op x rx v} (hx : RelV m s w x rx) (h : mun op x = some v) : ∃ r, (Op.unary op rx).run P w = .ok r w ∧ RelV m s w v r := by
  unfold mun at h
  split at h
  · cases hx; simp only [Option.some.injEq] at h; subst h; exact ⟨_, rfl, .int _ _⟩
  · cases hx
    simp only [mint, Option.some.injEq] at h; subst h
    exact ⟨_, rfl, .int _ _⟩
  · cases hx; simp only [Option.some.injEq] at h; subst h; exact ⟨_, rfl, .bool _⟩
  · simp at h

/-- A field's place and size. -/
def fOff (P : Program) (t : TypeId) (f : Nat) : Option (Nat × Bool × Nat) :=
  match P.underlying t with
  | some (.struct fs) => match fs[f]? with
    | some fd => match lay P fd.type with
      | some (ag, n) => if n = 0 then none else some (fd.offset, ag, n)
      | none => none
    | none => none
  | _ => none

theorem fOff_spec {P : Program} {t : TypeId} {f o n : Nat} {ag : Bool} (h : fOff P t f = some (o, ag, n)) :
    ∃ fs fd, P.underlying t = some (.struct fs) ∧ fs[f]? = some fd ∧ fd.offset = o ∧ lay P fd.type = some (ag, n) ∧ n ≠ 0 := by
  unfold fOff at h
  split at h
  · rename_i fs hu
    split at h
    · rename_i fd hf
      split at h
      · rename_i ag' n' hl
        split at h
        · simp at h
        · rename_i hn
          simp only [Option.some.injEq, Prod.mk.injEq] at h
          obtain ⟨rfl, rfl, rfl⟩ := h
          exact ⟨fs, fd, hu, hf, rfl, hl, hn⟩
      · simp at h
    · simp at h
  · simp at h

/-- An address moved on. -/
def madd (s : MSt) (x : MV) (n : Nat) : Option MV :=
  match x with
  | .ptr β st off => if s.isLive β st then some (.ptr β st (off + n)) else none
  | .fptr cells off => some (.fptr cells (off + n))
  | _ => none

theorem sim_add {m s w x rx v} {n : Nat} (hx : RelV m s w x rx) (h : madd s x n = some v) : ∃ b o, rx = .pointer (some ⟨b, o, none⟩) ∧ RelV m s w v (.pointer (some ⟨b, o + n, none⟩)) := by
  cases hx <;> simp only [madd, Option.some.injEq, reduceCtorEq] at h
  case ptr β st off hl =>
    split at h <;> simp at h
    subst h
    exact ⟨_, _, rfl, by rw [Nat.add_assoc]; exact .ptr _ _ _ hl⟩
  case ptrStale hst _ => rw [live_stale hst] at h; simp at h
  case fptr cells off b base vs hb ho hl hc hv =>
    subst h
    exact ⟨_, _, rfl, by rw [Nat.add_assoc]; exact .fptr _ _ _ _ vs hb ho hl hc hv⟩

theorem sim_fieldAddr {P : Program} {m s w t f x rx v o ag n} (hf : fOff P t f = some (o, ag, n)) (hx : RelV m s w x rx) (h : madd s x o = some v) :
    ∃ r, (Instr.fieldAt t rx f).run P w = .ok r w ∧ RelV m s w v r := by
  obtain ⟨fs, fd, hu, hfd, rfl, hl, hn⟩ := fOff_spec hf
  obtain ⟨b, o', rfl, hv⟩ := sim_add hx h
  refine ⟨_, ?_, hv⟩
  simp only [Instr.fieldAt, Sem.run_bind, run_underlying' hu, Result.andThen, hfd, Instr.sureAddr, Sem.run_pure, fieldPlace, (lay_spec hl w).2, hn, if_false, add_addr]

/-- A part of an aggregate. -/
def mpart (ag : Bool) (n : Nat) (cs : List MV) (off : Nat) : Option MV :=
  if ag then (if off + n ≤ cs.length then some (.agg ((cs.drop off).take n)) else none) else cs[off]?

theorem sim_part {P : Program} {m s w t ag n} (hl : lay P t = some (ag, n)) {cs : List MV} {rcs : Array Value} (hlen : cs.length = rcs.size) (hc : ∀ j (h : j < cs.length) (h' : j < rcs.size), RelV m s w cs[j] rcs[j]) {off : Nat} {v : MV}
    (h : mpart ag n cs off = some v) : ∃ r, (part t rcs off).run P w = .ok r w ∧ RelV m s w v r := by
  obtain ⟨l1, l2⟩ := lay_spec hl w
  unfold mpart at h
  cases ag with
  | true =>
    simp only [if_true] at h
    split at h
    · simp only [Option.some.injEq] at h; subst h
      refine ⟨_, by simp only [part, Sem.run_bind, l1, Result.andThen, if_true, l2]; rfl, ?_⟩
      refine .agg _ _ (by simp; omega) (fun j hj hj' => ?_)
      simp at hj hj'
      simpa using hc (off + j) (by omega) (by omega)
    · simp at h
  | false =>
    simp only [Bool.false_eq_true, if_false] at h
    obtain ⟨hlt, he⟩ := List.getElem?_eq_some_iff.1 h
    have hlt' : off < rcs.size := by omega
    refine ⟨rcs[off], ?_, he ▸ hc off hlt hlt'⟩
    simp only [part, Sem.run_bind, l1, Result.andThen, Bool.false_eq_true, if_false]
    simp [hlt']

def mfield (P : Program) (t : TypeId) (x : MV) (f : Nat) : Option MV :=
  match x, fOff P t f with
  | .agg cs, some (o, ag, n) => mpart ag n cs o
  | _, _ => none

theorem sim_field {P : Program} {m s w t x rx f v} (hx : RelV m s w x rx) (h : mfield P t x f = some v) : ∃ r, (Instr.field t rx f).run P w = .ok r w ∧ RelV m s w v r := by
  unfold mfield at h
  split at h
  · rename_i cs o ag n hf
    obtain ⟨fs, fd, hu, hfd, rfl, hl, hn⟩ := fOff_spec hf
    cases hx with
    | agg _ rcs hlen hc =>
      obtain ⟨r, h1, h2⟩ := sim_part hl hlen hc h
      exact ⟨r, by simp only [Instr.field, Sem.run_bind, run_underlying' hu, Result.andThen, hfd, asAgg, Sem.run_pure]; exact h1, h2⟩
  · simp at h

/-- The element of a slice or an array: its layout; an array's length. -/
def elemLay (P : Program) (t : TypeId) : Option (Option Nat × Bool × Nat) :=
  match P.underlying t with
  | some (.slice e) => (lay P e).map fun (ag, n) => (none, ag, n)
  | some (.array len e) => (lay P e).map fun (ag, n) => (some len, ag, n)
  | _ => none

theorem elemLay_slice {P : Program} {t : TypeId} {ag n} (h : elemLay P t = some (none, ag, n)) : ∃ e, P.underlying t = some (.slice e) ∧ lay P e = some (ag, n) := by
  unfold elemLay at h
  split at h
  · rename_i e hu
    cases hl : lay P e with
    | none => simp [hl] at h
    | some x => simp [hl] at h; exact ⟨e, hu, by rw [hl]; cases x; simp_all⟩
  · rename_i len e hu
    cases hl : lay P e <;> simp [hl] at h
  · simp at h

theorem elemLay_array {P : Program} {t : TypeId} {len ag n} (h : elemLay P t = some (some len, ag, n)) : ∃ e, P.underlying t = some (.array len e) ∧ lay P e = some (ag, n) := by
  unfold elemLay at h
  split at h
  · rename_i e hu
    cases hl : lay P e <;> simp [hl] at h
  · rename_i len' e hu
    cases hl : lay P e with
    | none => simp [hl] at h
    | some x =>
      simp [hl] at h
      obtain ⟨rfl, h2, h3⟩ := h
      exact ⟨e, hu, by rw [hl]; cases x; simp_all⟩
  · simp at h

def mindexAddr (P : Program) (s : MSt) (t : TypeId) (x i : MV) : Option MV :=
  match i, elemLay P t with
  | .int _ i, some (none, _, n) => match x with
    | .msl β st _ off len _ => if 0 ≤ i ∧ i < len ∧ s.isLive β st then some (.ptr β st (off + i.toNat * n)) else none
    | .fsl cells len _ => if 0 ≤ i ∧ i < len then some (.fptr cells (i.toNat * n)) else none
    | _ => none
  | .int _ i, some (some len, _, n) => if 0 ≤ i ∧ i < len then madd s x (i.toNat * n) else none
  | _, _ => none

theorem sim_indexAddr {P : Program} {m s w t x rx i ri v} (hx : RelV m s w x rx) (hi : RelV m s w i ri) (h : mindexAddr P s t x i = some v) :
    ∃ r, (Instr.indexAt t rx ri).run P w = .ok r w ∧ RelV m s w v r := by
  unfold mindexAddr at h
  split at h
  · rename_i k i ag n he
    obtain ⟨e, hu, hl⟩ := elemLay_slice he
    cases hi
    split at h
    · rename_i β st sz off len cap
      split at h
      · rename_i hc
        simp only [Option.some.injEq] at h; subst h
        cases hx with
        | msl _ _ _ _ _ _ rcap hlive hlen hcap harr =>
          refine ⟨_, ?_, .ptr _ _ _ hlive⟩
          simp only [Instr.indexAt, asIntOf, Sem.run_bind, Sem.run_pure, Result.andThen, run_underlying' hu, hc.1, hc.2.1, and_self, if_true, (lay_spec hl w).2, add_addr, Nat.add_assoc]
        | mslStale _ _ _ _ _ _ _ hst _ => rw [live_stale hst] at hc; simp at hc
      · simp at h
    · rename_i cells len cap
      split at h
      · rename_i hc
        simp only [Option.some.injEq] at h; subst h
        cases hx with
        | fsl _ _ _ b off rcap vs hb ho hlen hcap hl' hc' hv =>
          refine ⟨_, ?_, .fptr _ _ b off vs hb ho hl' hc' hv⟩
          simp only [Instr.indexAt, asIntOf, Sem.run_bind, Sem.run_pure, Result.andThen, run_underlying' hu, hc.1, hc.2, and_self, if_true, (lay_spec hl w).2, add_addr]
      · simp at h
    · simp at h
  · rename_i k i len ag n he
    obtain ⟨e, hu, hl⟩ := elemLay_array he
    cases hi
    split at h
    · rename_i hc
      obtain ⟨b, o, rfl, hv⟩ := sim_add hx h
      refine ⟨_, ?_, hv⟩
      simp only [Instr.indexAt, asIntOf, Sem.run_bind, Sem.run_pure, Result.andThen, run_underlying' hu, Instr.sureAddr, hc.1, hc.2, and_self, if_true, (lay_spec hl w).2, add_addr]
    · simp at h
  · simp at h

def mbyte (b : UInt8) : MV := .int .u8 b.toNat
def mbytes (l : List UInt8) : List MV := l.map mbyte

def mindex (P : Program) (t : TypeId) (x i : MV) : Option MV :=
  match i, x with
  | .int _ i, .str l => match P.underlying t with
    | some .string => if 0 ≤ i then (l[i.toNat]?).map mbyte else none
    | _ => none
  | .int _ i, .agg cs => match elemLay P t with
    | some (some len, ag, n) => if 0 ≤ i ∧ i < len then mpart ag n cs (i.toNat * n) else none
    | _ => none
  | _, _ => none

theorem sim_index {P : Program} {m s w t x rx i ri v} (hx : RelV m s w x rx) (hi : RelV m s w i ri) (h : mindex P t x i = some v) :
    ∃ r, (Instr.index t rx ri).run P w = .ok r w ∧ RelV m s w v r := by
  unfold mindex at h
  split at h
  · rename_i k i l
    cases hi; cases hx
    split at h
    · rename_i hu
      split at h
      · rename_i h0
        cases hg : l[i.toNat]? with
        | none => simp [hg] at h
        | some b =>
          simp only [hg, Option.map_some, Option.some.injEq] at h; subst h
          refine ⟨.int .u8 b.toNat, ?_, .int _ _⟩
          have hb : (ByteArray.mk l.toArray)[i.toNat]? = some b := by
            obtain ⟨hlt, he⟩ := List.getElem?_eq_some_iff.1 hg
            have hs : i.toNat < (ByteArray.mk l.toArray).size := by simpa [ByteArray.size] using hlt
            rw [getElem?_pos (ByteArray.mk l.toArray) i.toNat hs]
            congr 1
          simp only [Instr.index, asIntOf, Sem.run_bind, Sem.run_pure, Result.andThen, run_underlying' hu, h0, if_true, hb]
      · simp at h
    · simp at h
  · rename_i k i cs
    cases hi
    split at h
    · rename_i len ag n he
      obtain ⟨e, hu, hl⟩ := elemLay_array he
      split at h
      · rename_i hc
        cases hx with
        | agg _ rcs hlen hcs =>
          obtain ⟨r, h1, h2⟩ := sim_part hl hlen hcs h
          exact ⟨r, by simp only [Instr.index, asIntOf, Sem.run_bind, Sem.run_pure, Result.andThen, run_underlying' hu, hc.1, hc.2, and_self, if_true, (lay_spec hl w).2]; exact h1, h2⟩
      · simp at h
    · simp at h
  · simp at h

end Go.Mir

/- Slices cut, conversions, aggregates built, new blocks. -/
namespace Go.Mir

/-- A bound of a slice expression. -/
def mbound (x : Option MV) (dflt upper : Nat) : Option Nat :=
  match x with
  | none => if dflt ≤ upper then some dflt else none
  | some (.int _ i) => if 0 ≤ i ∧ i ≤ upper then some i.toNat else none
  | some _ => none

inductive RelO (m : Emb) (s : MSt) (w : World) : Option MV → Option Value → Prop
  | none : RelO m s w none none
  | some {v r} (h : RelV m s w v r) : RelO m s w (some v) (some r)

theorem run_sliceBound {P : Program} {w : World} {k : IntKind} {i : Int} {y : Nat} (c : BoundsCode) (h : 0 ≤ i ∧ i ≤ y) : (Instr.sliceBound (.int k i) y c).run P w = .ok i.toNat w := by
  simp only [Instr.sliceBound, asIntOf, Sem.run_bind, Sem.run_pure, Result.andThen, h, and_self, if_true]

theorem mbound_some {m s w x y dflt upper n} (hx : RelO m s w (some x) (some y)) (h : mbound (some x) dflt upper = some n) : ∃ k i, y = .int k i ∧ 0 ≤ i ∧ i ≤ upper ∧ n = i.toNat := by
  cases hx with
  | some hx =>
    cases hx <;> simp only [mbound, reduceCtorEq] at h
    split at h <;> simp at h
    rename_i k i hc
    exact ⟨k, i, rfl, hc.1, hc.2, h.symm⟩

/-- The three bounds of a cut: 'cap' is what the capacity is known to be at least (so much at 'max'), 'len' the default and the bound of 'high'. -/
theorem run_sliceBounds {P : Program} {m s w} (isSlice : Bool) (len cap mxU : Nat) {lo hi mx : Option MV} {rlo rhi rmx : Option Value} (hlo : RelO m s w lo rlo) (hhi : RelO m s w hi rhi) (hmx : RelO m s w mx rmx)
    (hcap : len ≤ cap) (hU : mxU ≤ cap) {l h x : Nat} (e1 : mbound mx mxU mxU = some x) (e2 : mbound hi len (if mx.isSome then x else len) = some h) (e3 : mbound lo 0 h = some l) (hms : mx.isSome = true → hi.isSome = true) :
    ∃ c, (Instr.sliceBounds isSlice len cap rlo rhi rmx).run P w = .ok (l, h, c) w ∧ (mx.isSome = true → c = x) ∧ (mx = none → c = cap) ∧ l ≤ h ∧ h ≤ c := by
  have hl : l ≤ h := by
    cases hlo with
    | none => simp [mbound] at e3; omega
    | some hlo =>
      obtain ⟨k, i, _, h1, h2, h3⟩ := mbound_some (.some hlo) e3
      omega
  cases hmx with
  | none =>
    simp only [Option.isSome_none, Bool.false_eq_true, if_false] at e2
    have hh : h ≤ len := by
      cases hhi with
      | none => simp [mbound] at e2; omega
      | some hhi =>
        obtain ⟨k, i, _, h1, h2, h3⟩ := mbound_some (.some hhi) e2
        omega
    refine ⟨cap, ?_, by simp, fun _ => rfl, hl, by omega⟩
    unfold Instr.sliceBounds
    cases hhi with
    | none =>
      simp [mbound] at e2
      subst e2
      cases hlo with
      | none => simp [mbound] at e3; subst e3; rfl
      | some hlo =>
        obtain ⟨k, i, rfl, h1, h2, h3⟩ := mbound_some (.some hlo) e3
        simp only [Sem.run_bind, Sem.run_pure, Result.andThen]
        rw [run_sliceBound _ ⟨h1, by omega⟩, ← h3]
    | some hhi =>
      obtain ⟨k, i, rfl, h1, h2, h3⟩ := mbound_some (.some hhi) e2
      simp only [Sem.run_bind, Sem.run_pure, Result.andThen]
      rw [run_sliceBound _ ⟨h1, by omega⟩, ← h3]
      cases hlo with
      | none => simp [mbound] at e3; subst e3; rfl
      | some hlo =>
        obtain ⟨k', i', rfl, h1', h2', h3'⟩ := mbound_some (.some hlo) e3
        simp only [Sem.run_bind]
        rw [run_sliceBound _ ⟨h1', by omega⟩, ← h3']
        rfl
  | some hmx =>
    obtain ⟨k, i, rfl, h1, h2, h3⟩ := mbound_some (.some hmx) e1
    simp only [Option.isSome_some, if_true] at e2
    cases hhi with
    | none => simp at hms
    | some hhi =>
      obtain ⟨k', i', rfl, h1', h2', h3'⟩ := mbound_some (.some hhi) e2
      refine ⟨x, ?_, fun _ => rfl, by simp, hl, by omega⟩
      unfold Instr.sliceBounds
      simp only [Sem.run_bind]
      rw [run_sliceBound _ ⟨h1, by omega⟩, ← h3]
      simp only [Result.andThen]
      rw [run_sliceBound _ ⟨h1', by omega⟩, ← h3']
      simp only [Result.andThen]
      cases hlo with
      | none => simp [mbound] at e3; subst e3; rfl
      | some hlo =>
        obtain ⟨k'', i'', rfl, h1'', h2'', h3''⟩ := mbound_some (.some hlo) e3
        simp only [Sem.run_bind]
        rw [run_sliceBound _ ⟨h1'', by omega⟩, ← h3'']
        rfl

def capU : Option Nat → Nat → Nat
  | some c, len => max c len
  | none, len => len

/-- The bounds of a cut of a slice: low, high, and what the new capacity is known to be. -/
def mcut (len : Nat) (cap : Option Nat) (lo hi mx : Option MV) : Option (Nat × Nat × Option Nat) :=
  match mbound mx (capU cap len) (capU cap len) with
  | none => none
  | some m => match mbound hi len (if mx.isSome then m else len) with
    | none => none
    | some h => match mbound lo 0 h with
      | none => none
      | some l => some (l, h, if mx.isSome then some (m - l) else cap.map (· - l))

/-- What a slice expression of the mirror's comes to: of a string, of a slice. -/
def mslice (P : Program) (s : MSt) (t : TypeId) (x : MV) (lo hi mx : Option MV) : Option MV :=
  if mx.isSome && hi.isNone then none else
  match P.underlying t, x with
  | some .string, .str b =>
    if mx.isSome then none else
    match mbound hi b.length b.length with
    | some h => (mbound lo 0 h).map fun l => .str ((b.drop l).take (h - l))
    | none => none
  | some (.slice e), x => match lay P e with
    | none => none
    | some (_, n) =>
      match x with
      | .nilsl => (mcut 0 (some 0) lo hi mx).map fun _ => .nilsl
      | .fsl cells len cap => match mcut len cap lo hi mx with
        | some (l, h, c) => if h ≤ len then some (.fsl ((cells.drop (l * n)).take ((h - l) * n)) (h - l) c) else none
        | none => none
      | .msl β st sz off len cap => match mcut len cap lo hi mx with
        | some (l, h, c) => if s.isLive β st ∧ h ≤ len ∧ sz = n then (if h = l ∧ 0 < l then some .esl else some (.msl β st sz (off + l * n) (h - l) c)) else none
        | none => none
      | _ => none
  | _, _ => none

theorem RelO.isSome {m s w x y} (h : RelO m s w x y) : x.isSome = y.isSome := by cases h <;> rfl

theorem cut_spec {P : Program} {m s w} {len : Nat} {cap : Option Nat} {rcap : Nat} {lo hi mx : Option MV} {rlo rhi rmx : Option Value} (hlo : RelO m s w lo rlo) (hhi : RelO m s w hi rhi) (hmx : RelO m s w mx rmx)
    (hlen : len ≤ rcap) (hcap : ∀ c, cap = some c → rcap = c) (hmh : (mx.isSome && hi.isNone) = false) {l h : Nat} {oc : Option Nat}
    (hh : mcut len cap lo hi mx = some (l, h, oc)) :
    ∃ c, (Instr.sliceBounds true len rcap rlo rhi rmx).run P w = .ok (l, h, c) w ∧ l ≤ h ∧ h ≤ c ∧ (∀ c', oc = some c' → c - l = c') ∧ c ≤ rcap := by
  have hu : capU cap len ≤ rcap := by
    cases cap with
    | none => exact hlen
    | some c => have := hcap c rfl; simp only [capU]; omega
  unfold mcut at hh
  split at hh
  · simp at hh
  · rename_i mm hm
    split at hh
    · simp at hh
    · rename_i h1 hh'
      split at hh
      · simp at hh
      · rename_i l1 hl'
        simp only [Option.some.injEq, Prod.mk.injEq] at hh
        obtain ⟨rfl, rfl, rfl⟩ := hh
        have hms : mx.isSome = true → hi.isSome = true := by
          intro h1; rw [h1] at hmh; cases hi <;> simp at hmh ⊢
        obtain ⟨c, h1, h2, h3, h4, h5⟩ := run_sliceBounds (P := P) true len rcap (capU cap len) hlo hhi hmx hlen hu hm hh' hl' hms
        refine ⟨c, h1, h4, h5, fun c' hc' => ?_, ?_⟩
        · cases mx with
          | none =>
            simp only [Option.isSome_none, Bool.false_eq_true, if_false] at hc'
            cases cap with
            | none => simp at hc'
            | some c0 => simp at hc'; have := hcap c0 rfl; have := h3 rfl; omega
          | some mx' =>
            simp only [Option.isSome_some, if_true, Option.some.injEq] at hc'
            have := h2 rfl; omega
        · cases mx with
          | none => have := h3 rfl; omega
          | some mx' =>
            have := h2 rfl
            cases hmx with
            | some hmx =>
              obtain ⟨_, _, _, _, h7, h8⟩ := mbound_some (.some hmx) hm
              omega

theorem sim_slice {P : Program} {m s w t x rx v} {lo hi mx : Option MV} {rlo rhi rmx : Option Value} (hx : RelV m s w x rx) (hlo : RelO m s w lo rlo) (hhi : RelO m s w hi rhi) (hmx : RelO m s w mx rmx)
    (h : mslice P s t x lo hi mx = some v) : ∃ r, (Instr.sliceAt t rx rlo rhi rmx).run P w = .ok r w ∧ RelV m s w v r := by
  unfold mslice at h
  split at h
  · simp at h
  · rename_i hmh
    have hmh : (mx.isSome && hi.isNone) = false := Bool.eq_false_iff.2 hmh
    split at h
    · rename_i b hu
      cases hx
      split at h
      · simp at h
      · rename_i hmx0
        split at h
        · rename_i hh e2
          cases e3 : mbound lo 0 hh with
          | none => simp [e3] at h
          | some l =>
            simp only [e3, Option.map_some, Option.some.injEq] at h; subst h
            have hmx1 : mx = none := by simpa using hmx0
            subst hmx1
            cases hmx
            obtain ⟨c, h1, _, _, h4, h5⟩ := run_sliceBounds (P := P) (m := m) (s := s) false b.length b.length b.length hlo hhi .none (Nat.le_refl _) (Nat.le_refl _) (l := l) (h := hh) (x := b.length) (by simp [mbound]) (by simpa using e2) e3 (by simp)
            have hsz : (ByteArray.mk b.toArray).size = b.length := by simp [ByteArray.size]
            refine ⟨.string ⟨((b.drop l).take (hh - l)).toArray⟩, ?_, .str _⟩
            simp only [Instr.sliceAt, Sem.run_bind, run_underlying' hu, Result.andThen, Instr.slice, hsz, Option.isSome_none, Bool.false_eq_true, if_false, h1, Sem.run_pure]
            congr 2
            apply ByteArray.ext
            apply Array.ext'
            simp
        · simp at h
    · rename_i e hu
      split at h
      · simp at h
      · rename_i ag n hl
        split at h
        · cases hx
          cases e0 : mcut 0 (some 0) lo hi mx with
          | none => simp [e0] at h
          | some x0 =>
            obtain ⟨l, hh, oc⟩ := x0
            simp only [e0, Option.map_some, Option.some.injEq] at h; subst h
            obtain ⟨c, h1, h3, h4, h5, h6⟩ := cut_spec (P := P) (rcap := 0) hlo hhi hmx (Nat.le_refl 0) (by simp) hmh e0
            have hc : c = 0 := by omega
            have hl0 : l = 0 := by omega
            have hh0 : hh = 0 := by omega
            subst hc; subst hl0; subst hh0
            refine ⟨_, ?_, .nilsl⟩
            simp only [Instr.sliceAt, Sem.run_bind, run_underlying' hu, Result.andThen, Instr.slice, h1, (lay_spec hl w).2, Sem.run_pure]
            rfl
        · rename_i cells len cap
          split at h
          · rename_i l hh oc e0
            split at h
            · rename_i hle
              simp only [Option.some.injEq] at h; subst h
              cases hx with
              | fsl _ _ _ b off rcap vs hb ho hlen hcap hl' hc' hv =>
                obtain ⟨c, h1, h3, h4, h5, h6⟩ := cut_spec (P := P) hlo hhi hmx hlen hcap hmh e0
                have hrun : (Instr.sliceAt t (.slice (some ⟨b, off, none⟩) len rcap) rlo rhi rmx).run P w = .ok (.slice (if c = l then some ⟨b, off, none⟩ else some ⟨b, off + l * n, none⟩) (hh - l) (c - l)) w := by
                  simp only [Instr.sliceAt, Sem.run_bind, run_underlying' hu, Result.andThen, Instr.slice, h1, (lay_spec hl w).2, Sem.run_pure, Option.map_some, add_addr]
                refine ⟨_, hrun, ?_⟩
                by_cases hcl : c = l
                · have : hh = l := by omega
                  subst this
                  rw [if_pos hcl]
                  simp only [Nat.sub_self, Nat.zero_mul, List.take_zero]
                  exact .fsl [] 0 oc b off _ [] hb ho (by omega) (fun c' hc' => h5 c' hc') rfl (by simp) (by simp)
                · rw [if_neg hcl]
                  refine .fsl _ _ oc b _ _ ((vs.drop (l * n)).take ((hh - l) * n)) hb ho (by omega) h5 (by simp [hl']) (fun j hj => ?_) (fun j hj hj' => ?_)
                  · simp at hj
                    rw [Nat.add_assoc, hc' (l * n + j) (by omega)]
                    simp
                  · simp at hj hj'
                    simpa using hv (l * n + j) (by omega) (by omega)
            · simp at h
          · simp at h
        · rename_i β st sz off len cap
          split at h
          · rename_i l hh oc e0
            split at h
            · rename_i hle
              obtain ⟨hlv, hle, rfl⟩ := hle
              cases hx with
              | msl _ _ _ _ _ _ rcap hlive hlen hcap harr =>
                obtain ⟨c, h1, h3, h4, h5, h6⟩ := cut_spec (P := P) hlo hhi hmx hlen hcap hmh e0
                have hrun : (Instr.sliceAt t (.slice (some ⟨(m.b β).1, (m.b β).2 + off, none⟩) len rcap) rlo rhi rmx).run P w = .ok (.slice (if c = l then some ⟨(m.b β).1, (m.b β).2 + off, none⟩ else some ⟨(m.b β).1, (m.b β).2 + off + l * sz, none⟩) (hh - l) (c - l)) w := by
                  simp only [Instr.sliceAt, Sem.run_bind, run_underlying' hu, Result.andThen, Instr.slice, h1, (lay_spec hl w).2, Sem.run_pure, Option.map_some, add_addr]
                refine ⟨_, hrun, ?_⟩
                split at h
                · rename_i hz
                  simp only [Option.some.injEq] at h; subst h
                  obtain ⟨rfl, _⟩ := hz
                  rw [Nat.sub_self]
                  split <;> exact .esl _ _
                · rename_i hz
                  simp only [Option.some.injEq] at h; subst h
                  obtain ⟨arr, el, fz, ha1, ha2⟩ := harr
                  have hmul : l * sz + (c - l) * sz ≤ rcap * sz := by
                    rw [← Nat.add_mul]; exact Nat.mul_le_mul_right _ (by omega)
                  by_cases hcl : c = l
                  · have hhl : hh = l := by omega
                    have hl0 : l = 0 := by
                      rcases Nat.eq_zero_or_pos l with h | h
                      · exact h
                      · exact absurd ⟨hhl, h⟩ hz
                    rw [if_pos hcl]
                    subst hl0
                    simp only [Nat.zero_mul, Nat.add_zero]
                    exact .msl _ _ _ _ _ _ _ hlive (by omega) h5 ⟨arr, el, fz, ha1, by rw [Nat.sub_zero]; simp at hmul; omega⟩
                  · rw [if_neg hcl, Nat.add_assoc]
                    exact .msl _ _ _ _ _ _ _ hlive (by omega) h5 ⟨arr, el, fz, ha1, by omega⟩
              | mslStale _ _ _ _ _ _ _ hst _ => rw [live_stale hst] at hlv; simp at hlv
            · simp at h
          · simp at h
        · simp at h
    · simp at h

end Go.Mir

/- Conversions, lengths, new blocks. -/
namespace Go.Mir

def unbytes : List MV → Option (List UInt8)
  | [] => some []
  | .int .u8 n :: r => (unbytes r).map (UInt8.ofNat n.toNat :: ·)
  | _ :: _ => none

theorem unbytes_mbytes (l : List UInt8) : unbytes (mbytes l) = some l := by
  induction l with
  | nil => rfl
  | cons a l ih => simp only [mbytes, List.map_cons, mbyte, unbytes] at ih ⊢; rw [ih]; simp

def isU8 (P : Program) (e : TypeId) : Bool := match P.underlying e with | some (.int .u8) => true | _ => false

theorem isU8_spec {P : Program} {e : TypeId} (h : isU8 P e = true) : P.underlying e = some (.int .u8) := by
  unfold isU8 at h
  split at h
  · assumption
  · simp at h

/-- The cells of a slice that are read. -/
def mcellsOf (s : MSt) (sz n : Nat) (x : MV) : Option (List MV) :=
  match x with
  | .nilsl => if n = 0 then some [] else none
  | .esl => if n = 0 then some [] else none
  | .fsl cells _ _ => if n * sz ≤ cells.length then some (cells.take (n * sz)) else none
  | .msl β st _ off _ _ => match s.h[β]? with
    | some (.blk st' cells) => if st' = st ∧ off + n * sz ≤ cells.length then some ((cells.drop off).take (n * sz)) else none
    | _ => none
  | _ => none

def mlenOf (s : MSt) : MV → Option Nat
  | .nilsl => some 0
  | .esl => some 0
  | .fsl _ len _ => some len
  | .msl β st _ _ len _ => if s.isLive β st then some len else none
  | _ => none

theorem sim_lenOf {m s w x rx n} (hx : RelV m s w x rx) (h : mlenOf s x = some n) : ∃ a c, rx = .slice a n c ∧ n ≤ c := by
  cases hx <;> simp only [mlenOf, Option.some.injEq, reduceCtorEq] at h
  case nilsl => subst h; exact ⟨_, _, rfl, Nat.le_refl _⟩
  case esl => subst h; exact ⟨_, _, rfl, Nat.zero_le _⟩
  case fsl => subst h; exact ⟨_, _, rfl, by assumption⟩
  case msl => split at h <;> simp at h; subst h; exact ⟨_, _, rfl, by assumption⟩
  case mslStale hst _ => rw [live_stale hst] at h; simp at h

theorem cell?_heap {w w' : World} (h : w'.heap = w.heap) (a : Addr) : w'.cell? a = w.cell? a := by simp [World.cell?, h]

theorem sim_cellsOf {P : Program} {m s w sz n x rx cs} (hr : RelS m s w) (hx : RelV m s w x rx) (hn : mlenOf s x = some n) (h : mcellsOf s sz n x = some cs) :
    ∃ a c rs, rx = .slice a n c ∧ RelL m s w cs rs ∧ rs.length = n * sz ∧ (∀ b, a = some b → ∀ w' : World, w'.heap = w.heap → (loadCells b (n * sz)).run P w' = .ok rs.toArray w') ∧ (a = none → n = 0 ∧ rs = []) := by
  cases hx <;> simp only [mcellsOf, mlenOf, Option.some.injEq, reduceCtorEq] at h hn
  case nilsl =>
    subst hn; simp at h; subst h
    exact ⟨none, 0, [], rfl, ⟨rfl, by simp⟩, by simp, by simp, fun _ => ⟨rfl, rfl⟩⟩
  case esl a cap =>
    subst hn; simp at h; subst h
    refine ⟨some a, cap, [], rfl, ⟨rfl, by simp⟩, by simp, fun b hb w' hw => ?_, by simp⟩
    simp [loadCells, loadCellsFrom]
  case fsl cells len cap b off rcap vs hb ho hlen hcap hl hc hv =>
    subst hn
    split at h
    · rename_i hle
      simp only [Option.some.injEq] at h; subst h
      have hl2 : (vs.take (len * sz)).length = len * sz := by simp; omega
      refine ⟨_, rcap, vs.take (len * sz), rfl, ⟨by simp [hl], fun j hj hj' => ?_⟩, hl2, fun b' hb' w' hw => ?_, by simp⟩
      · simp at hj hj'; simpa using hv j (by omega) (by omega)
      · simp only [Option.some.injEq] at hb'; subst hb'
        conv => lhs; rw [← hl2]
        refine run_loadCells b off _ (fun j hj => ?_)
        rw [hl2] at hj
        rw [cell?_heap hw, hc j (by omega)]; simp
    · simp at h
  case msl β st sz' off len cap rcap hlive hlen hcap harr =>
    obtain ⟨c, hc⟩ := hlive
    have hlv : s.isLive β st = true := isLive_iff.2 ⟨c, hc⟩
    simp only [hlv, if_true, Option.some.injEq] at hn; subst hn
    simp only [hc, true_and] at h
    split at h
    · rename_i hle
      simp only [Option.some.injEq] at h; subst h
      obtain ⟨arr, el, fz, a1, a2, a3, a4, a5⟩ := hr.blk β st c hc
      have hl2 : ((arr.toList.drop ((m.b β).2 + off)).take (len * sz)).length = len * sz := by simp; omega
      refine ⟨_, rcap, (arr.toList.drop ((m.b β).2 + off)).take (len * sz), rfl, ⟨by rw [hl2]; simp; omega, fun j hj hj' => ?_⟩, hl2, fun b' hb' w' hw => ?_, by simp⟩
      · rw [hl2] at hj'
        have := a4 (off + j) (by omega) (by omega)
        simp only [List.getElem_take, List.getElem_drop, Array.getElem_toList, Nat.add_assoc]
        exact this
      · simp only [Option.some.injEq] at hb'; subst hb'
        conv => lhs; rw [← hl2]
        refine run_loadCells _ _ _ (fun j hj => ?_)
        rw [hl2] at hj
        have h1 : (m.b β).2 + off + j < arr.size := by omega
        rw [cell?_heap hw]
        simp [World.cell?, a1, h1]
    · simp at h
  case mslStale hst _ => rw [live_stale hst] at hn; simp at hn

/-- A conversion of the mirror's. -/
def mconv (P : Program) (s : MSt) (src dst : TypeId) (x : MV) : Option MV :=
  match P.underlying src with
  | none => none
  | some ds => match P.underlying dst with
    | some (.int k) => match x with
      | .int _ n => some (.int k (k.wrap n))
      | _ => none
    | some .string => match x with
      | .str l => some (.str l)
      | x => match ds with
        | .slice e => if isU8 P e then (mlenOf s x).bind fun n => (mcellsOf s 1 n x).bind fun cs => (unbytes cs).map .str else none
        | _ => none
    | some (.slice e) => match x with
      | .str l => if isU8 P e then some (.fsl (mbytes l) l.length none) else none
      | _ => none
    | _ => none

theorem rel_unbytes {m s w} : ∀ (cs : List MV) (rs : List Value) (l : List UInt8), RelL m s w cs rs → unbytes cs = some l → ∃ ns : List Int, rs = ns.map (Value.int .u8) ∧ l = ns.map fun n => UInt8.ofNat n.toNat
  | [], rs, l, hL, h => by
    have : rs = [] := by cases rs with | nil => rfl | cons _ _ => simp [RelL] at hL
    subst this
    simp [unbytes] at h; subst h
    exact ⟨[], rfl, rfl⟩
  | c :: cs, rs, l, hL, h => by
    cases rs with
    | nil => simp [RelL] at hL
    | cons r rs =>
      have h0 : RelV m s w c r := hL.2 0 (by simp) (by simp)
      have hL' : RelL m s w cs rs := ⟨by simpa using hL.1, fun j hj hj' => by
        have h := hL.2 (j + 1) (by simp; omega) (by simp; omega)
        simpa only [List.getElem_cons_succ] using h⟩
      cases h0 with
      | int k n =>
        cases k with
        | u8 =>
          cases hu : unbytes cs with
          | none => simp [unbytes, hu] at h
          | some l' =>
            simp only [unbytes, hu, Option.map_some, Option.some.injEq] at h; subst h
            obtain ⟨ns, h1, h2⟩ := rel_unbytes cs rs l' hL' hu
            exact ⟨n :: ns, by simp [h1], by simp [h2]⟩
        | _ => simp [unbytes] at h
      | _ => simp [unbytes] at h

theorem foldl_push_list (ns : List Int) : ∀ (b : List UInt8), ns.foldl (fun (r : ByteArray) n => r.push (UInt8.ofNat n.toNat)) ⟨b.toArray⟩ = ⟨(b ++ ns.map fun n => UInt8.ofNat n.toNat).toArray⟩ := by
  induction ns with
  | nil => intro b; simp
  | cons n ns ih =>
    intro b
    have : (ByteArray.mk b.toArray).push (UInt8.ofNat n.toNat) = ⟨(b ++ [UInt8.ofNat n.toNat]).toArray⟩ := by
      apply ByteArray.ext; simp [ByteArray.push]
    simp only [List.foldl_cons, this, ih]
    simp

theorem ext_same_heap {m s w w1 w'} (e : Ext m s w m s w1) (h : w'.heap = w1.heap) (hio : Calm3 w1 w') : Ext m s w m s w' := e.trans (ext_heap h hio)

theorem modify_push (a : Array Obj) (x : Obj) (f : Obj → Obj) : (a.push x).modify a.size f = a.push (f x) := by
  apply Array.ext_getElem?
  intro i
  simp only [Array.getElem?_modify, Array.getElem?_push]
  by_cases h : i = a.size
  · subst h; simp
  · have h' : ¬ a.size = i := fun e => h e.symm
    simp [h, h']

theorem run_s2b {P : Program} (w : World) (e : TypeId) (l : List UInt8) :
    ∃ (w' : World) (arr : Array Value) (n c : Nat), (Conv.stringToBytes e ⟨l.toArray⟩).run P w = .ok (.slice (some ⟨w.heap.size, 0, none⟩) l.length c) w' ∧ Calm3 w w' ∧
      w'.heap = w.heap.push (.cells arr e (n, n + 1)) ∧ arr.size = n ∧ l.length ≤ c ∧ c ≤ n ∧ ∀ j (h : j < l.length), arr[j]? = some (.int .u8 l[j].toNat) := by
  have hsz : (ByteArray.mk l.toArray).size = l.length := by simp [ByteArray.size]
  let q := Question.appendCap l.length 0 e
  let c := q.cut (w.tape w.drawn q)
  have hc : l.length ≤ c := by simp only [c, q, Question.cut]; omega
  let arr : Array Value := (l.toArray.map fun b => Value.int .u8 b.toNat) ++ Array.replicate (c - l.length) (.int .u8 0)
  have ha : arr.size = c := by simp [arr]; omega
  refine ⟨({ w with drawn := w.drawn + 1, heap := w.heap.push (.cells arr e (0, 0)) } : World).freeze ⟨w.heap.size, arr.size, none⟩ 1, arr, arr.size, c, ?_, ?_, ?_, rfl, hc, by omega, ?_⟩
  · simp only [Conv.stringToBytes, hsz, Sem.run_bind, newRow, run_newObj, Result.andThen, Sem.run_pure, markStringish, run_shape]
    rw [show (choose (.appendCap l.length 0 e)).run P w = .ok c { w with drawn := w.drawn + 1 } from rfl]
    simp only [World.shape?, Array.getElem?_push_size]
    rfl
  · simp only [World.freeze]
    split <;> exact ⟨rfl, rfl, rfl⟩
  · simp only [World.freeze]
    rw [if_neg (by simp)]
    rw [modify_push]
    simp
  · intro j hj
    have : j < (l.toArray.map fun b => Value.int .u8 b.toNat).size := by simpa using hj
    simp only [arr]
    rw [Array.getElem?_append_left this]
    simp [hj]

/-- A conversion, which may lay memory that nobody writes. -/
theorem sim_conv {P : Program} {m s w src dst x rx v} (hr : RelS m s w) (hx : RelV m s w x rx) (h : mconv P s src dst x = some v) :
    ∃ r w', (convert src dst rx).run P w = .ok r w' ∧ Ext m s w m s w' ∧ RelS m s w' ∧ RelV m s w' v r := by
  unfold mconv at h
  split at h
  · simp at h
  · rename_i ds hs
    split at h
    · rename_i k hd
      split at h
      · cases hx
        simp only [Option.some.injEq] at h; subst h
        refine ⟨_, w, ?_, Ext.refl _ _ _, hr, .int _ _⟩
        simp only [convert, Sem.run_bind, run_underlying' hs, run_underlying' hd, Result.andThen]
        rfl
      · simp at h
    · rename_i hd
      split at h
      · cases hx
        simp only [Option.some.injEq] at h; subst h
        refine ⟨_, w, ?_, Ext.refl _ _ _, hr, .str _⟩
        simp only [convert, Sem.run_bind, run_underlying' hs, run_underlying' hd, Result.andThen]
        rfl
      · split at h
        · rename_i e
          split at h
          · rename_i hu
            have he := isU8_spec hu
            cases hn : mlenOf s x with
            | none => simp [hn] at h
            | some n =>
              cases hc : mcellsOf s 1 n x with
              | none => simp [hn, hc] at h
              | some cs =>
                cases hb : unbytes cs with
                | none => simp [hn, hc, hb] at h
                | some l =>
                  simp only [hn, hc, hb, Option.bind_some, Option.map_some, Option.some.injEq] at h; subst h
                  obtain ⟨a, c, rs, rfl, hL, hlen, hload, hnone⟩ := sim_cellsOf (P := P) hr hx hn hc
                  obtain ⟨ns, rfl, rfl⟩ := rel_unbytes cs rs l hL hb
                  refine ⟨_, w, ?_, Ext.refl _ _ _, hr, .str _⟩
                  rw [run_convert_bytes_string w src dst e a n c hs he hd]
                  cases a with
                  | none =>
                    obtain ⟨rfl, h2⟩ := hnone rfl
                    have : ns = [] := by simpa using h2
                    subst this
                    rfl
                  | some b =>
                    rw [run_bytesToString w b n c ns (by have := hload b rfl w rfl; simpa using this)]
                    have := foldl_push_list ns []
                    simp only [List.nil_append] at this
                    rw [← this]
                    rfl
          · simp at h
        · simp at h
    · rename_i e hd
      split at h
      · rename_i l
        split at h
        · rename_i hu
          have he := isU8_spec hu
          cases hx
          simp only [Option.some.injEq] at h; subst h
          obtain ⟨w', arr, n, c, h1, hio, h2, h3, h4, h5, h6⟩ := run_s2b (P := P) w e l
          have hw : w'.heap = (w.alloc (.cells arr e (n, n + 1))).heap := by rw [h2]; rfl
          have ext : Ext m s w m s w' := ext_same_heap (ext_alloc (.cells arr e (n, n + 1))) hw hio
          have hrs : RelS m s w' := (hr.alloc (.cells arr e (n, n + 1))).heap hw hio
          refine ⟨.slice (some ⟨w.heap.size, 0, none⟩) l.length c, w', ?_, ext, hrs, ?_⟩
          · simp only [convert, Sem.run_bind, run_underlying' hs, run_underlying' hd, Result.andThen, run_underlying' he]
            exact h1
          · refine .fsl _ _ none w.heap.size 0 c (l.map fun b => Value.int .u8 b.toNat) (by rw [h2]; simp) (not_own_new hr) h4 (by simp) (by simp [mbytes]) (fun j hj => ?_) (fun j hj hj' => ?_)
            · simp only [List.length_map] at hj
              have h7 := h6 j hj
              simp only [World.cell?, h2, Nat.zero_add]
              simp [h7]
            · simp only [mbytes, List.getElem_map, mbyte]
              exact .int _ _
        · simp at h
      · simp at h
    · simp at h

def mlen (P : Program) (s : MSt) (t : TypeId) (x : MV) : Option MV :=
  match P.underlying t with
  | some .string => match x with
    | .str l => some (.int .i64 l.length)
    | _ => none
  | some (.array n _) => some (.int .i64 n)
  | some (.slice _) => (mlenOf s x).map fun (n : Nat) => MV.int .i64 n
  | some (.map _ _) => match x with
    | .nilmap => some (.int .i64 0)
    | .map β => match s.h[β]? with
      | some (.map es) => some (.int .i64 es.length)
      | _ => none
    | _ => none
  | _ => none

theorem sim_len {P : Program} {m s w t x rx v} {ty : TypeId} {ats : Array TypeId} {args : Array Value} (hr : RelS m s w) (ht : ats[0]? = some t) (ha : args[0]? = some rx) (hx : RelV m s w x rx) (h : mlen P s t x = some v) :
    ∃ r, (Builtin.len_ ats ty args).run P w = .ok r w ∧ RelV m s w v r := by
  unfold mlen at h
  simp only [Builtin.len_, ht, ha]
  split at h
  · rename_i hu
    split at h
    · cases hx
      simp only [Option.some.injEq] at h; subst h
      refine ⟨_, by simp only [Sem.run_bind, run_underlying' hu, Result.andThen]; rfl, ?_⟩
      simp only [ByteArray.size, List.size_toArray, goInt]
      exact .int _ _
    · simp at h
  · rename_i n e hu
    simp only [Option.some.injEq] at h; subst h
    exact ⟨_, by simp only [Sem.run_bind, run_underlying' hu, Result.andThen]; cases rx <;> rfl, .int _ _⟩
  · rename_i e hu
    cases hn : mlenOf s x with
    | none => simp [hn] at h
    | some n =>
      simp only [hn, Option.map_some, Option.some.injEq] at h; subst h
      obtain ⟨a, c, rfl, _⟩ := sim_lenOf hx hn
      exact ⟨_, by simp only [Sem.run_bind, run_underlying' hu, Result.andThen]; rfl, .int _ _⟩
  · rename_i hu
    split at h
    · cases hx
      simp only [Option.some.injEq] at h; subst h
      exact ⟨_, by simp only [Sem.run_bind, run_underlying' hu, Result.andThen]; rfl, .int _ _⟩
    · rename_i β
      split at h
      · rename_i es hes
        simp only [Option.some.injEq] at h; subst h
        cases hx with
        | map _ es' h' =>
          obtain ⟨res, clock, h1, h2, _⟩ := hr.map β es hes
          refine ⟨_, ?_, .int _ _⟩
          simp only [Sem.run_bind, run_underlying' hu, Result.andThen, getObj, Sem.run, h1]
          rw [h2]; rfl
        | mapStale _ _ h' _ => rw [h'] at hes; simp at hes
      · simp at h
    · simp at h
  · simp at h

/-! ### New blocks -/
def zeroCells (P : Program) (t : TypeId) : Option (List MV) := (P.info? t).bind fun i => i.zero.map fun v => v.cells.toList.map ofVal1

theorem zeroCells_spec {P : Program} {t : TypeId} {z : List MV} (h : zeroCells P t = some z) (w : World) : ∃ v, (zeroValue t).run P w = .ok v w ∧ v.cells.toList.map ofVal1 = z := by
  unfold zeroCells at h
  cases hi : P.info? t with
  | none => simp [hi] at h
  | some i =>
    cases hz : i.zero with
    | none => simp [hi, hz] at h
    | some v =>
      simp only [hi, hz, Option.bind_some, Option.map_some, Option.some.injEq] at h
      exact ⟨v, by simp [zeroValue, run_typeInfo' hi, hz], h⟩

def mnew (s : MSt) (st : Nat) (cells : List MV) : MV × MSt := (.ptr s.h.length st 0, s.push (.blk st cells))

theorem live_push (s : MSt) (st : Nat) (cells : List MV) : (s.push (.blk st cells)).live s.h.length st := ⟨cells, by rw [push_get, if_pos rfl]⟩

def malloc (P : Program) (s : MSt) (t : TypeId) : Option (MV × MSt) := (zeroCells P t).map fun z => mnew s 0 z

theorem sim_newRow {P : Program} {m s w} (hr : RelS m s w) (st : Nat) (t : TypeId) (cells : List MV) (rs : Array Value) (hL : RelL m s w cells rs.toList) (hy : ∀ v ∈ cells, v.noY = true) :
    ∃ m' w', (newRow t rs).run P w = .ok ⟨w.heap.size, 0, none⟩ w' ∧ Ext m s w m' (s.push (.blk st cells)) w' ∧ RelS m' (s.push (.blk st cells)) w' ∧
      m'.b s.h.length = (w.heap.size, 0) ∧ w'.heap[w.heap.size]? = some (.cells rs t (0, 0)) := by
  obtain ⟨h1, h2⟩ := push_rel hr st cells rs t (by have := hL.1; simp at this; omega) (fun j hj hj' => hL.2 j hj hj') hy
  refine ⟨_, _, ?_, h1, h2, by simp [Emb.at], by rw [alloc_get, if_pos rfl]⟩
  simp only [newRow, Sem.run_bind, run_newObj, Result.andThen, Sem.run_pure]
  rfl

theorem sim_alloc {P : Program} {m s w t v s'} (hr : RelS m s w) (h : malloc P s t = some (v, s')) :
    ∃ m' r w', (Instr.alloc t true (.tuple #[])).run P w = .ok r w' ∧ Ext m s w m' s' w' ∧ RelS m' s' w' ∧ RelV m' s' w' v r := by
  unfold malloc at h
  cases hz : zeroCells P t with
  | none => simp [hz] at h
  | some z =>
    simp only [hz, Option.map_some, mnew, Option.some.injEq, Prod.mk.injEq] at h
    obtain ⟨rfl, rfl⟩ := h
    obtain ⟨zv, h1, h2⟩ := zeroCells_spec hz w
    have hL : RelL m s w z zv.cells.toList := by
      subst h2
      exact ⟨by simp, fun j hj hj' => by simpa using rel_ofVal1 _⟩
    obtain ⟨m', w', g1, g2, g3, g4, g5⟩ := sim_newRow (P := P) hr 0 t z zv.cells hL (fun v hv => by
      subst h2
      obtain ⟨x, _, rfl⟩ := List.mem_map.1 hv
      exact noY_ofVal1 x)
    refine ⟨m', .pointer (some ⟨w.heap.size, 0, none⟩), w', ?_, g2, g3, ?_⟩
    rotate_left
    · have := RelV.ptr (m := m') (w := w') s.h.length 0 0 (live_push s 0 z)
      rw [g4] at this
      exact this
    · simp only [Instr.alloc, Sem.run_bind, h1, Result.andThen, newVar, g1, Sem.run_pure]

def mbox (s : MSt) (v : MV) : Option (MV × MSt) := if v.cells.all MV.flat then some (mnew s 0 v.cells) else none

theorem sim_box {P : Program} {m s w t x rx v s'} (hr : RelS m s w) (hx : RelV m s w x rx) (h : mbox s x = some (v, s')) :
    ∃ m' r w', (Instr.box t rx).run P w = .ok r w' ∧ Ext m s w m' s' w' ∧ RelS m' s' w' ∧ RelV m' s' w' v r := by
  unfold mbox at h
  split at h
  · rename_i hf
    simp only [mnew, Option.some.injEq, Prod.mk.injEq] at h
    obtain ⟨rfl, rfl⟩ := h
    obtain ⟨m', w', g1, g2, g3, g4, g5⟩ := sim_newRow (P := P) hr 0 t x.cells rx.cells (hx.cells hf) (fun v hv => noY_of_flat (List.all_eq_true.1 hf v hv))
    refine ⟨m', .pointer (some ⟨w.heap.size, 0, none⟩), w', ?_, g2, g3, ?_⟩
    rotate_left
    · have := RelV.ptr (m := m') (w := w') s.h.length 0 0 (live_push s 0 x.cells)
      rw [g4] at this
      exact this
    · simp only [Instr.box, Sem.run_bind, newVar, g1, Sem.run_pure, Result.andThen]
  · simp at h

end Go.Mir

/- Aggregates, slices made, appended to, copied. -/
namespace Go.Mir

theorem rel_splice {m s w} (off : Nat) : ∀ (vs : List MV) (rs : List Value) (k : Nat) (cells : List MV) (arr : Array Value), RelL m s w cells arr.toList → RelL m s w vs rs →
    RelL m s w (splice cells (off + k) vs) ((rs.zipIdx k).foldl (fun (cs : Array Value) (x : Value × Nat) => cs.setIfInBounds (off + x.2) x.1) arr).toList
  | [], rs, k, cells, arr, hc, hv => by
    have : rs = [] := by cases rs with | nil => rfl | cons _ _ => simp [RelL] at hv
    subst this; exact hc
  | v :: vs, rs, k, cells, arr, hc, hv => by
    cases rs with
    | nil => simp [RelL] at hv
    | cons r rs =>
      have h0 : RelV m s w v r := hv.2 0 (by simp) (by simp)
      have hv' : RelL m s w vs rs := ⟨by simpa using hv.1, fun j hj hj' => by
        have h := hv.2 (j + 1) (by simp; omega) (by simp; omega)
        simpa only [List.getElem_cons_succ] using h⟩
      simp only [splice, List.zipIdx_cons, List.foldl_cons]
      refine rel_splice off vs rs (k + 1) _ _ ⟨by simpa using hc.1, fun j hj hj' => ?_⟩ hv'
      simp only [List.length_set] at hj
      simp only [Array.toList_setIfInBounds, List.length_set] at hj'
      simp only [Array.toList_setIfInBounds]
      by_cases e : off + k = j
      · subst e; simp only [List.getElem_set_self]; exact h0
      · rw [List.getElem_set_ne e, List.getElem_set_ne e]; exact hc.2 j hj hj'

def mfill (place : Nat → Option (Nat × Nat)) (cells : List MV) : List (Nat × MV) → Option (List MV)
  | [] => some cells
  | (i, v) :: rest => match place i with
    | none => none
    | some (off, size) => if v.cells.length = size ∧ off + size ≤ cells.length ∧ v.cells.all MV.flat then mfill place (splice cells off v.cells) rest else none

theorem sim_fill {m s w} (place : Nat → Option (Nat × Nat)) : ∀ (ps : List (Nat × MV)) (rps : List (Nat × Value)) (cells : List MV) (arr : Array Value) (out : List MV), ps.length = rps.length →
    (∀ j (h : j < ps.length) (h' : j < rps.length), ps[j].1 = rps[j].1 ∧ RelV m s w ps[j].2 rps[j].2) → RelL m s w cells arr.toList → mfill place cells ps = some out →
    ∃ rout, Instr.fill place arr rps = some rout ∧ RelL m s w out rout.toList
  | [], rps, cells, arr, out, hl, _, hc, h => by
    have : rps = [] := by cases rps with | nil => rfl | cons _ _ => simp at hl
    subst this
    simp only [mfill, Option.some.injEq] at h; subst h
    exact ⟨arr, rfl, hc⟩
  | (i, v) :: ps, rps, cells, arr, out, hl, hp, hc, h => by
    cases rps with
    | nil => simp at hl
    | cons rp rps =>
      obtain ⟨ri, rv⟩ := rp
      obtain ⟨h1, h2⟩ := hp 0 (by simp) (by simp)
      simp only [List.getElem_cons_zero] at h1 h2
      subst h1
      simp only [mfill] at h
      cases hpl : place i with
      | none => simp [hpl] at h
      | some os =>
        obtain ⟨off, size⟩ := os
        simp only [hpl] at h
        split at h
        · rename_i hcond
          obtain ⟨a1, a2, a3⟩ := hcond
          have hcells := h2.cells a3
          have hsz : rv.cells.size = size := by have := hcells.1; simp at this; omega
          have harr : cells.length = arr.size := by have := hc.1; simpa using this
          have := rel_splice off v.cells rv.cells.toList 0 cells arr hc hcells
          simp only [Nat.add_zero] at this
          have hfold : (rv.cells.zipIdx.foldl (fun (cs : Array Value) (x : Value × Nat) => cs.setIfInBounds (off + x.2) x.1) arr) =
              (rv.cells.toList.zipIdx 0).foldl (fun (cs : Array Value) (x : Value × Nat) => cs.setIfInBounds (off + x.2) x.1) arr := by
            rw [← Array.foldl_toList, Array.toList_zipIdx]
          obtain ⟨rout, g1, g2⟩ := sim_fill place ps rps (splice cells off v.cells) _ out (by simpa using hl) (fun j hj hj' => by
            have h := hp (j + 1) (by simp; omega) (by simp; omega)
            simpa only [List.getElem_cons_succ] using h) this h
          refine ⟨rout, ?_, g2⟩
          simp only [Instr.fill, hpl]
          rw [if_neg (by simp [hsz]; omega)]
          rw [hfold]; exact g1
        · simp at h

def placesOf (P : Program) (fs : Array Field) : Option (List (Nat × Nat)) := fs.toList.mapM fun f => (P.info? f.type).map fun i => (f.offset, i.size)

theorem run_places {P : Program} {w : World} : ∀ (fs : List Field) (ps : List (Nat × Nat)), (fs.mapM fun f => (P.info? f.type).map fun i => (f.offset, i.size)) = some ps →
    (fs.mapM fun f => do pure (f.offset, ← sizeOf f.type) : Sem (List (Nat × Nat))).run P w = .ok ps w
  | [], ps, h => by simp at h; subst h; rfl
  | f :: fs, ps, h => by
    simp only [List.mapM_cons, Option.bind_eq_bind] at h
    cases hi : P.info? f.type with
    | none => simp [hi] at h
    | some i =>
      simp only [hi, Option.map_some, Option.bind_some] at h
      cases hr : (fs.mapM fun f => (P.info? f.type).map fun i => (f.offset, i.size)) with
      | none => simp [hr] at h
      | some ps' =>
        simp only [hr, Option.bind_some] at h
        have h : (f.offset, i.size) :: ps' = ps := by simpa using h
        subst h
        have ih := run_places (w := w) fs ps' hr
        simp only [List.mapM_cons, Sem.run_bind, sizeOf, run_typeInfo' hi, Result.andThen, Sem.run_pure] at ih ⊢
        rw [ih]

def mbuild (P : Program) (t : TypeId) (parts : List (Nat × MV)) : Option MV :=
  match zeroCells P t, P.underlying t with
  | some z, some (.struct fs) => match placesOf P fs with
    | some ps => (mfill (ps[·]?) z parts).map .agg
    | none => none
  | some z, some (.array _ e) => match P.info? e with
    | some i => (mfill (fun j => some (j * i.size, i.size)) z parts).map .agg
    | none => none
  | _, _ => none

def RelP (m : Emb) (s : MSt) (w : World) (ps : List (Nat × MV)) (rps : List (Nat × Value)) : Prop :=
  ps.length = rps.length ∧ ∀ j (h : j < ps.length) (h' : j < rps.length), ps[j].1 = rps[j].1 ∧ RelV m s w ps[j].2 rps[j].2

theorem sim_build {P : Program} {m s w t parts v} {rparts : Array (Nat × Value)} (hp : RelP m s w parts rparts.toList) (h : mbuild P t parts = some v) :
    ∃ r, (Instr.build t rparts).run P w = .ok r w ∧ RelV m s w v r := by
  unfold mbuild at h
  have zrel : ∀ {z : List MV} {zv : Value}, zv.cells.toList.map ofVal1 = z → RelL m s w z zv.cells.toList := fun {z zv} h => by
    subst h; exact ⟨by simp, fun j hj hj' => by simpa using rel_ofVal1 _⟩
  split at h
  · rename_i z fs hz hu
    split at h
    · rename_i ps hps
      cases hf : mfill (ps[·]?) z parts with
      | none => simp [hf] at h
      | some out =>
        simp only [hf, Option.map_some, Option.some.injEq] at h; subst h
        obtain ⟨zv, h1, h2⟩ := zeroCells_spec hz w
        obtain ⟨rout, g1, g2⟩ := sim_fill (m := m) (s := s) (w := w) (ps[·]?) parts rparts.toList z zv.cells out hp.1 hp.2 (zrel h2) hf
        refine ⟨.agg rout, ?_, .agg _ _ (by simpa using g2.1) (fun j hj hj' => g2.2 j hj hj')⟩
        have hm : (fs.mapM fun f => do pure (f.offset, ← sizeOf f.type) : Sem (Array (Nat × Nat))).run P w = .ok ps.toArray w := by
          rw [← Array.toArray_toList (xs := fs), List.mapM_toArray, Sem.run_map, run_places _ _ hps]
          rfl
        simp only [Instr.build, Sem.run_bind, h1, run_underlying' hu, Result.andThen]
        simp only [hm]
        have hg : (fun (x : Nat) => ps.toArray[x]?) = (ps[·]?) := by funext x; simp
        rw [hg, g1]
        rfl
    · simp at h
  · rename_i z n e hz hu
    split at h
    · rename_i i hi
      cases hf : mfill (fun j => some (j * i.size, i.size)) z parts with
      | none => simp [hf] at h
      | some out =>
        simp only [hf, Option.map_some, Option.some.injEq] at h; subst h
        obtain ⟨zv, h1, h2⟩ := zeroCells_spec hz w
        obtain ⟨rout, g1, g2⟩ := sim_fill (m := m) (s := s) (w := w) _ parts rparts.toList z zv.cells out hp.1 hp.2 (zrel h2) hf
        refine ⟨.agg rout, ?_, .agg _ _ (by simpa using g2.1) (fun j hj hj' => g2.2 j hj hj')⟩
        simp only [Instr.build, Sem.run_bind, h1, run_underlying' hu, Result.andThen, sizeOf, run_typeInfo' hi, Sem.run_pure, g1]
    · simp at h
  · simp at h

def mzeros (z : List MV) (n : Nat) : List MV := (List.range n).map fun i => z.getD (i % z.length) .undef

theorem mzeros_one (a : MV) (n : Nat) : mzeros [a] n = List.replicate n a := by
  apply List.ext_getElem
  · simp [mzeros]
  · intro i h1 h2; simp [mzeros, Nat.mod_one]

theorem mzeros_noY {z : List MV} (hz : ∀ v ∈ z, v.noY = true) (n : Nat) : ∀ v ∈ mzeros z n, v.noY = true := by
  intro v hv
  obtain ⟨i, _, rfl⟩ := List.mem_map.1 hv
  simp only [List.getD]
  cases h : z[i % z.length]? with
  | none => rfl
  | some x => exact hz x (List.mem_of_getElem? h)

theorem rel_zeros {m s w} {z : List MV} {zs : Array Value} (hL : RelL m s w z zs.toList) (hne : zs.size ≠ 0) (n : Nat) : RelL m s w (mzeros z n) ((Array.range n).map (zs[· % zs.size]!)).toList := by
  have hlen : z.length = zs.size := by simpa using hL.1
  refine ⟨by simp [mzeros], fun j hj hj' => ?_⟩
  simp [mzeros] at hj
  have hlt : j % zs.size < zs.size := Nat.mod_lt _ (by omega)
  have hlt' : j % zs.size < z.length := by omega
  have e2 : zs[j % zs.size]! = zs[j % zs.size] := getElem!_pos zs _ hlt
  have := hL.2 (j % zs.size) hlt' (by simpa using hlt)
  have e3 : z[j % zs.size]?.getD MV.undef = z[j % zs.size] := by rw [List.getElem?_eq_getElem hlt']; rfl
  simp only [mzeros, List.getElem_map, List.getElem_range, hlen, List.getD, Array.toList_map, Array.toList_range, e2]
  rw [e3]
  exact this

def bytesOf (P : Program) (t : TypeId) : Option Nat := (P.info? t).map (·.bytes)
def sizeOf' (P : Program) (t : TypeId) : Option Nat := (P.info? t).map (·.size)

theorem sizeOf'_spec {P : Program} {t : TypeId} {n : Nat} (h : sizeOf' P t = some n) (w : World) : (sizeOf t).run P w = .ok n w := by
  unfold sizeOf' at h
  cases hi : P.info? t with
  | none => simp [hi] at h
  | some i => simp [hi] at h; subst h; simp [sizeOf, run_typeInfo' hi]

/-- 'make' of a slice. -/
def mmake (P : Program) (s : MSt) (t : TypeId) (len cap : MV) : Option (MV × MSt) :=
  match P.underlying t, len, cap with
  | some (.slice e), .int _ l, .int _ c =>
    match sizeOf' P e, bytesOf P e, zeroCells P e with
    | some n, some b, some z =>
      if 0 ≤ l ∧ l ≤ c ∧ (b : Int) * c ≤ 281474976710656 ∧ c < 9223372036854775808 ∧ z.length ≠ 0 then
        some (.msl s.h.length 0 n 0 l.toNat (some c.toNat), s.push (.blk 0 (mzeros z (c.toNat * n))))
      else none
    | _, _, _ => none
  | _, _, _ => none

theorem wrap_i64 {n : Int} (h1 : -9223372036854775808 ≤ n) (h2 : n < 9223372036854775808) : IntKind.i64.wrap n = n := IntWalk.i64_in n ⟨h1, by omega⟩

theorem sim_make {P : Program} {m s w t len cap rlen rcap v s'} (hr : RelS m s w) (hl : RelV m s w len rlen) (hc : RelV m s w cap rcap) (h : mmake P s t len cap = some (v, s')) :
    ∃ m' r w', (Instr.makeSlice t rlen rcap).run P w = .ok r w' ∧ Ext m s w m' s' w' ∧ RelS m' s' w' ∧ RelV m' s' w' v r := by
  unfold mmake at h
  split at h
  · rename_i e kl l kc c hu
    cases hl; cases hc
    split at h
    · rename_i n b z hn hb hz
      split at h
      · rename_i hcond
        obtain ⟨c1, c2, c3, c4, c5⟩ := hcond
        simp only [Option.some.injEq, Prod.mk.injEq] at h
        obtain ⟨rfl, rfl⟩ := h
        obtain ⟨zv, z1, z2⟩ := zeroCells_spec hz w
        have hzr : RelL m s w z zv.cells.toList := by subst z2; exact ⟨by simp, fun j hj hj' => by simpa using rel_ofVal1 _⟩
        have hzne : zv.cells.size ≠ 0 := by have := hzr.1; simp at this; omega
        have hbi : ∃ i, P.info? e = some i ∧ i.bytes = b := by
          unfold bytesOf at hb
          cases hi : P.info? e with
          | none => simp [hi] at hb
          | some i => simp [hi] at hb; exact ⟨i, rfl, hb⟩
        obtain ⟨i, hi, hib⟩ := hbi
        have wl : IntKind.i64.wrap l = l := wrap_i64 (by omega) (by omega)
        have wc : IntKind.i64.wrap c = c := wrap_i64 (by omega) (by omega)
        have tl : ∀ x : Int, 0 ≤ x → x ≤ c → (decide (x < 0) || decide ((b : Int) * x > 2 ^ 48)) = false := fun x h0 hx => by
          have h3 : (b : Int) * x ≤ b * c := Int.mul_le_mul_of_nonneg_left hx (by omega)
          simp only [Bool.or_eq_false_iff, decide_eq_false_iff_not]
          exact ⟨by omega, by omega⟩
        have hrow : RelL m s w (mzeros z (c.toNat * n)) ((Array.range (c.toNat * n)).map (zv.cells[· % zv.cells.size]!)).toList := rel_zeros hzr hzne _
        obtain ⟨m', w', g1, g2, g3, g4, g5⟩ := sim_newRow (P := P) hr 0 e (mzeros z (c.toNat * n)) ((Array.range (c.toNat * n)).map (zv.cells[· % zv.cells.size]!)) hrow
          (mzeros_noY (fun v hv => by
            subst z2
            obtain ⟨x, _, rfl⟩ := List.mem_map.1 hv
            exact noY_ofVal1 x) _)
        refine ⟨m', .slice (some ⟨w.heap.size, 0, none⟩) l.toNat c.toNat, w', ?_, g2, g3, ?_⟩
        · have hcond : ((decide (c < 0) || decide ((b : Int) * c > 2 ^ 48)) || decide (l < 0) || decide (l > c)) = false := by
            rw [tl c (by omega) (Int.le_refl _)]
            simp only [Bool.false_or, Bool.or_eq_false_iff, decide_eq_false_iff_not]
            omega
          simp only [Instr.makeSlice, Sem.run_bind, run_underlying' hu, Result.andThen, asInt, asIntOf, Sem.run_pure, run_typeInfo' hi, hib, wl, wc]
          simp only [hcond, Bool.false_eq_true, if_false, Sem.run_bind, run_askRoom, Result.andThen, sizeOf'_spec hn w]
          by_cases h0 : c.toNat * n = 0
          · simp only [h0, if_true]
            rw [h0] at g1
            have hem : ∀ f : Nat → Value, (Array.range 0).map f = #[] := fun f => by simp
            rw [hem] at g1
            simp only [hem, Sem.run_bind, Sem.run_pure, Result.andThen, g1]
          · simp only [h0, if_false, Sem.run_bind, z1, Result.andThen, Sem.run_pure, g1]
        · have hw := RelV.msl (m := m') (s := s.push (.blk 0 (mzeros z (c.toNat * n)))) (w := w') s.h.length 0 n 0 l.toNat (some c.toNat) c.toNat (live_push s 0 _) (by omega) (by simp)
            ⟨_, e, (0, 0), by rw [g4]; exact g5, by rw [g4]; simp⟩
          rw [g4] at hw
          exact hw
      · simp at h
    · simp at h
  · simp at h

/-! ### append -/
theorem growBy_le (need : Nat) : ∀ (k c : Nat), c ≤ 2 * need + 192 → Builtin.growBy need k c ≤ 2 * need + 192
  | 0, c, h => by simpa [Builtin.growBy] using h
  | k + 1, c, h => by
    simp only [Builtin.growBy]
    split
    · exact h
    · rename_i hc
      exact growBy_le need k _ (by omega)

theorem nextcap_le {need cap : Nat} (h : cap < need) : Builtin.nextslicecap need cap ≤ 2 * need + 192 := by
  unfold Builtin.nextslicecap
  split
  · omega
  · split
    · omega
    · exact growBy_le need 4 cap (by omega)

/-- What is appended: how many, and their cells. -/
def msrc (s : MSt) (sz : Nat) (x : MV) : Option (Nat × List MV) :=
  match x with
  | .str l => if sz = 1 then some (l.length, mbytes l) else none
  | x => (mlenOf s x).bind fun n => (mcellsOf s sz n x).map fun cs => (n, cs)

/-- The stamp behind an append. -/
def nextSt (st n : Nat) : Nat := if st < n then n else st + 1

def mappend (P : Program) (s : MSt) (t xt : TypeId) (x y : MV) : Option (MV × MSt) :=
  match P.underlying t, P.underlying xt with
  | some (.slice e), some dx =>
    match dx with
    | .int _ => none
    | _ =>
    match sizeOf' P e, bytesOf P e, zeroCells P e with
    | some sz, some b, some z =>
      match msrc s sz y, mlenOf s x with
      | some (n, cs), some len =>
        if n = 0 then some (x, s) else
        if (2 * (len + n) + 192) * b ≤ 281474976710656 ∧ 0 < b ∧ z.length = sz ∧ cs.all MV.flat then
          match x with
          | .nilsl => some (.msl s.h.length n sz 0 n none, s.push (.blk n cs))
          | .fsl cells len (some c) => if c < len + n ∧ len * sz ≤ cells.length ∧ (cells.take (len * sz)).all MV.flat then some (.msl s.h.length (len + n) sz 0 (len + n) none, s.push (.blk (len + n) (cells.take (len * sz) ++ cs))) else none
          | .msl β st sz' off len _ => match s.h[β]? with
            | some (.blk st' cells) => if st' = st ∧ sz' = sz ∧ off + len * sz ≤ cells.length then some (.msl β (nextSt st (len + n)) sz 0 (len + n) none, s.put β (.blk (nextSt st (len + n)) ((cells.drop off).take (len * sz) ++ cs))) else none
            | _ => none
          | _ => none
        else none
      | _, _ => none
    | _, _, _ => none
  | _, _ => none

theorem sim_src {P : Program} {m s w sz y ry n cs} (hr : RelS m s w) (hy : RelV m s w y ry) (h : msrc s sz y = some (n, cs)) :
    (Builtin.lenOf ry).run P w = .ok n w ∧ ∃ rs, RelL m s w cs rs ∧ rs.length = n * sz ∧ ∀ w' : World, w'.heap = w.heap → (Builtin.firstCells sz n ry).run P w' = .ok rs.toArray w' := by
  have gen : ∀ {y}, RelV m s w y ry → ((mlenOf s y).bind fun n => (mcellsOf s sz n y).map fun cs => (n, cs)) = some (n, cs) →
      (Builtin.lenOf ry).run P w = .ok n w ∧ ∃ rs, RelL m s w cs rs ∧ rs.length = n * sz ∧ ∀ w' : World, w'.heap = w.heap → (Builtin.firstCells sz n ry).run P w' = .ok rs.toArray w' := fun {y} hy h => by
    cases hn : mlenOf s y with
    | none => simp [hn] at h
    | some n' =>
      cases hc : mcellsOf s sz n' y with
      | none => simp [hn, hc] at h
      | some cs' =>
        simp only [hn, hc, Option.bind_some, Option.map_some, Option.some.injEq, Prod.mk.injEq] at h
        obtain ⟨rfl, rfl⟩ := h
        obtain ⟨a, c, rs, rfl, hL, hlen, hload, hnone⟩ := sim_cellsOf (P := P) hr hy hn hc
        refine ⟨rfl, rs, hL, hlen, fun w' hw => ?_⟩
        cases a with
        | none => obtain ⟨rfl, rfl⟩ := hnone rfl; rfl
        | some b => exact hload b rfl w' hw
  unfold msrc at h
  split at h
  · rename_i l
    split at h
    · rename_i hsz
      simp only [Option.some.injEq, Prod.mk.injEq] at h
      obtain ⟨rfl, rfl⟩ := h
      cases hy
      subst hsz
      refine ⟨by simp [Builtin.lenOf, ByteArray.size], l.map fun b => Value.int .u8 b.toNat, ⟨by simp [mbytes], fun j hj hj' => ?_⟩, by simp, fun w' _ => ?_⟩
      · simp only [mbytes, List.getElem_map, mbyte]; exact .int _ _
      · simp only [Builtin.firstCells, Sem.run_pure]
        congr 1
        have : ((ByteArray.mk l.toArray).extract 0 l.length) = ⟨l.toArray⟩ := by
          apply ByteArray.ext; simp
        rw [this]
        simp
    · simp at h
  · exact gen hy h

end Go.Mir

/- A block that grows: append. -/
namespace Go.Mir

/-- A block of the mirror's own is replaced: it lies elsewhere, or there, and holds other cells; nobody's elder pointers into it count any more. -/
theorem replace_rel {m s w w'} (hr : RelS m s w) {β st : Nat} {cells : List MV} (hβ : s.h[β]? = some (.blk st cells)) (st2 : Nat) (hst : st < st2) (cells2 : List MV) (b2 base2 : Nat)
    (hsz : w.heap.size ≤ w'.heap.size) (hold : ∀ x, x < w.heap.size → x ≠ (m.b β).1 → w'.heap[x]? = w.heap[x]?)
    (harr : ∀ (arr : Array Value) (el : TypeId) (fz : Nat × Nat), w.heap[(m.b β).1]? = some (.cells arr el fz) → ∃ arr' : Array Value, w'.heap[(m.b β).1]? = some (.cells arr' el fz) ∧ arr'.size = arr.size)
    (hb2 : b2 = (m.b β).1 ∨ w.heap.size ≤ b2) (arr2 : Array Value) (el2 : TypeId) (fz2 : Nat × Nat) (h2 : w'.heap[b2]? = some (.cells arr2 el2 fz2))
    (hfz : ∀ j, j < arr2.size → (decide (fz2.1 ≤ j) && decide (j < fz2.2)) = false) (hl : base2 + cells2.length ≤ arr2.size)
    (hv : ∀ j (h : j < cells2.length) (h' : base2 + j < arr2.size), RelV m s w cells2[j] arr2[base2 + j]) (hy : ∀ v ∈ cells2, v.noY = true) (hio : Calm3 w w') :
    Ext m s w (m.at β (b2, base2)) (s.put β (.blk st2 cells2)) w' ∧ RelS (m.at β (b2, base2)) (s.put β (.blk st2 cells2)) w' := by
  have hlt : β < s.h.length := lt_of_getElem? hβ
  have get : ∀ γ : Nat, (s.put β (.blk st2 cells2)).h[γ]? = if γ = β then some (.blk st2 cells2) else s.h[γ]? := fun γ => put_get _ _ _ _ hlt
  have atn : (m.at β (b2, base2)).b β = (b2, base2) := by simp [Emb.at]
  have atm : ∀ {γ : Nat}, γ ≠ β → (m.at β (b2, base2)).b γ = m.b γ := fun {γ} h => by simp [Emb.at, h]
  obtain ⟨arr, el, fz, a1, a2, a3, a4, a5⟩ := hr.blk β st cells hβ
  have e : Ext m s w (m.at β (b2, base2)) (s.put β (.blk st2 cells2)) w' := by
    refine { io := hio, size := hsz, same := fun x hx ho => hold x hx fun he => ho (.inl ⟨β, st, cells, hβ, he.symm⟩), own := ?_, arr := ?_, hlen := by simp [MSt.put], dead := ?_, blk := ?_, map := ?_, llen := Nat.le_refl _, leq := rfl, ls := fun _ _ => rfl, lst := (Ext.refl m s w).lst, gl := rfl }
    · intro x hx
      rcases hx with ⟨γ, st', c, h, rfl⟩ | ⟨γ, es, h, rfl⟩ | h
      · rw [get] at h
        by_cases hg : γ = β
        · subst hg; rw [atn]
          exact hb2.elim (fun h => .inl (.inl ⟨γ, st, cells, hβ, h.symm⟩)) .inr
        · rw [if_neg hg] at h; rw [atm hg]; exact .inl (.inl ⟨γ, st', c, h, rfl⟩)
      · rw [get] at h
        by_cases hg : γ = β
        · simp [hg] at h
        · rw [if_neg hg] at h; exact .inl (.inr (.inl ⟨γ, es, h, rfl⟩))
      · exact .inl (.inr (.inr h))
    · intro x arr' el' fz' h
      by_cases hx : x = (m.b β).1
      · subst hx; exact harr arr' el' fz' h
      · exact ⟨arr', by rw [hold x (heap_lt h) hx]; exact h, rfl⟩
    · intro γ h
      rw [get]
      by_cases hg : γ = β
      · rw [hg, hβ] at h; simp at h
      · rw [if_neg hg]; exact h
    · intro γ st' c h
      rw [get]
      by_cases hg : γ = β
      · subst hg
        rw [hβ] at h
        simp only [Option.some.injEq, MObj.blk.injEq] at h
        obtain ⟨rfl, rfl⟩ := h
        exact .inr ⟨st2, cells2, by rw [if_pos rfl], by omega, fun h => by omega⟩
      · exact .inr ⟨st', c, by rw [if_neg hg]; exact h, Nat.le_refl _, fun _ => atm hg⟩
    · intro γ es h
      rw [get]
      by_cases hg : γ = β
      · rw [hg, hβ] at h; simp at h
      · exact .inr ⟨es, by rw [if_neg hg]; exact h, rfl⟩
  have notb : ∀ {x : Nat} {o : Obj}, w.heap[x]? = some o → (∀ arr el fz, o ≠ .cells arr el fz) → x ≠ (m.b β).1 := fun {x o} h hn he => by
    rw [he, a1] at h; exact hn arr el fz (by simpa using h.symm)
  refine ⟨e, hr.step e ?_ ?_ ?_ ?_ ?_ hr.injl⟩
  · intro γ st' c h
    rw [get] at h
    by_cases hg : γ = β
    · subst hg
      simp only [if_true, Option.some.injEq, MObj.blk.injEq] at h
      obtain ⟨rfl, rfl⟩ := h
      right
      refine ⟨arr2, el2, fz2, by rw [atn]; exact h2, hfz, by rw [atn]; exact hl, fun j hj hj' => ?_, fun j hj => ?_⟩
      · simp only [atn] at hj' ⊢
        exact (hv j hj hj').ext e
      · exact lt_mono (by simp [MSt.put]) (Nat.le_refl _) _ (lt_of_noY _ (hv j hj (by omega)).lt (hy _ (List.getElem_mem hj)))
    · rw [if_neg hg] at h
      exact .inl ⟨h, atm hg, hold _ (blk_heap hr h) fun he => hg (hr.injb _ _ _ _ _ _ h hβ he)⟩
  · intro γ es h
    rw [get] at h
    by_cases hg : γ = β
    · simp [hg] at h
    · rw [if_neg hg] at h
      obtain ⟨res, clock, h1, _⟩ := hr.map γ es h
      exact .inl ⟨h, rfl, hold _ (heap_lt h1) (notb h1 (by simp))⟩
  · intro l L h
    obtain ⟨R, h1, _⟩ := hr.loop l L h
    exact .inl ⟨h, rfl, hold _ (heap_lt h1) (notb h1 (by simp))⟩
  · intro γ γ' st1 st3 c c' h h' he
    rw [get] at h h'
    by_cases h1 : γ = β <;> by_cases h3 : γ' = β
    · rw [h1, h3]
    · rw [if_neg h3] at h'
      rw [h1, atn, atm h3] at he
      simp only at he
      rcases hb2 with hb | hb
      · exact absurd (hr.injb _ _ _ _ _ _ h' hβ (by rw [← he, hb])) h3
      · have := blk_heap hr h'; omega
    · rw [if_neg h1] at h
      rw [h3, atn, atm h1] at he
      simp only at he
      rcases hb2 with hb | hb
      · exact absurd (hr.injb _ _ _ _ _ _ h hβ (by rw [he, hb])) h1
      · have := blk_heap hr h; omega
    · rw [if_neg h1] at h
      rw [if_neg h3] at h'
      rw [atm h1, atm h3] at he
      exact hr.injb _ _ _ _ _ _ h h' he
  · intro γ γ' c c' h h' he
    rw [get] at h h'
    by_cases h1 : γ = β
    · simp [h1] at h
    · by_cases h3 : γ' = β
      · simp [h3] at h'
      · rw [if_neg h1] at h
        rw [if_neg h3] at h'
        exact hr.injm _ _ _ _ h h' he

/-- Real cells written one behind the other. -/
theorem run_storeCells_real {P : Program} : ∀ (rs : List Value) (w : World) (b pos i : Nat) (arr : Array Value) (el : TypeId) (fz : Nat × Nat), w.heap[b]? = some (.cells arr el fz) → pos + i + rs.length ≤ arr.size →
    (∀ j, j < arr.size → (decide (fz.1 ≤ j) && decide (j < fz.2)) = false) → (∀ r ∈ rs, one1 r = true) →
    ∃ w' arr', (storeCells ⟨b, pos, none⟩ rs i).run P w = .ok () w' ∧ Calm3 w w' ∧ w'.heap[b]? = some (.cells arr' el fz) ∧ arr'.size = arr.size ∧ w'.heap.size = w.heap.size ∧ (∀ x, x ≠ b → w'.heap[x]? = w.heap[x]?) ∧
      (∀ j (h : j < rs.length), arr'[pos + i + j]? = some rs[j]) ∧ (∀ j, j < pos + i → arr'[j]? = arr[j]?)
  | [], w, b, pos, i, arr, el, fz, h, _, _, _ => ⟨w, arr, rfl, Calm3.refl w, h, rfl, rfl, fun _ _ => rfl, by simp, fun _ _ => rfl⟩
  | r :: rs, w, b, pos, i, arr, el, fz, h, hle, hfz, h1 => by
    have hlt : pos + i < arr.size := by simp at hle; omega
    have hset := setCell_get w ⟨b, pos + i, none⟩ r rfl arr el fz h
    obtain ⟨w', arr', g1, gio, g2, g3, g4, g5, g6, g7⟩ := run_storeCells_real (P := P) rs (w.setCell ⟨b, pos + i, none⟩ r) b pos (i + 1) _ el fz hset (by simp at hle ⊢; omega) (by simpa using hfz) (fun x hx => h1 x (by simp [hx]))
    refine ⟨w', arr', ?_, Calm3.trans ⟨rfl, rfl, rfl⟩ gio, g2, by simpa using g3, by simpa using g4, fun x hx => by rw [g5 x hx]; exact setCell_other _ _ _ _ hx, fun j hj => ?_, fun j hj => ?_⟩
    · simp only [storeCells, Sem.run_bind, add_addr]
      rw [run_store' (u := arr[pos + i]) (h1 r (by simp)) (by simp [World.cell?, h, hlt]) (by simp only [World.frozen?, h]; exact hfz _ hlt)]
      exact g1
    · cases j with
      | zero =>
        rw [g7 (pos + i + 0) (by omega)]
        simp [hlt]
      | succ j =>
        have := g6 j (by simpa using hj)
        rw [show pos + i + (j + 1) = pos + (i + 1) + j from by omega, this]
        rfl
    · rw [g7 j (by omega)]
      rw [Array.getElem?_setIfInBounds_ne (by simp; omega)]

theorem nextSt_gt (st n : Nat) : st < nextSt st n := by unfold nextSt; split <;> omega

theorem sizeOf_bytes {P : Program} {e : TypeId} {sz b : Nat} (hs : sizeOf' P e = some sz) (hb : bytesOf P e = some b) : ∃ i, P.info? e = some i ∧ i.size = sz ∧ i.bytes = b := by
  unfold sizeOf' at hs
  unfold bytesOf at hb
  cases hi : P.info? e with
  | none => simp [hi] at hs
  | some i => simp [hi] at hs hb; exact ⟨i, rfl, hs, hb⟩

section
variable {P : Program} {w : World} {t xt e : TypeId} {dx : TypeDesc} {ty : TypeId} {ats : Array TypeId} {args : Array Value} {base : Option Addr} {len cap n sz b : Nat} {ry : Value} {news : List Value}

theorem run_append_in (ht : ats[0]? = some t) (hxt : ats[1]? = some xt) (ha0 : args[0]? = some (.slice base len cap)) (ha1 : args[1]? = some ry) (hu : P.underlying t = some (.slice e)) (hux : P.underlying xt = some dx)
    (hdx : ∀ k, dx ≠ .int k) (hs : sizeOf' P e = some sz) (hn : (Builtin.lenOf ry).run P w = .ok n w) (hf : (Builtin.firstCells sz n ry).run P w = .ok news.toArray w) (hle : len + n ≤ cap) :
    (Builtin.append_ ats ty args).run P w = (((match base with | some a => storeCells (a.add (len * sz)) news | none => pure ()) : Sem Unit).run P w).andThen fun _ w' => .ok (.slice base (len + n) cap) w' := by
  cases dx <;> first | exact absurd rfl (hdx _) | skip
  all_goals
    simp only [Builtin.append_, ht, hxt, ha0, ha1, Sem.run_bind, run_underlying' hu, Result.andThen, sizeOf'_spec hs w, run_underlying' hux, Sem.run_pure, Bool.false_eq_true, if_false, hn, hle, if_true, Bool.not_false, hf]
    cases base <;> simp only [Sem.run_bind, Sem.run_pure] <;> rfl

theorem run_append_grow (ht : ats[0]? = some t) (hxt : ats[1]? = some xt) (ha0 : args[0]? = some (.slice base len cap)) (ha1 : args[1]? = some ry) (hu : P.underlying t = some (.slice e)) (hux : P.underlying xt = some dx)
    (hdx : ∀ k, dx ≠ .int k) (hs : sizeOf' P e = some sz) (hb : bytesOf P e = some b) {z : List MV} (hz : zeroCells P e = some z) {olds : List Value}
    (hn : (Builtin.lenOf ry).run P w = .ok n w) (hf : ∀ w' : World, w'.heap = w.heap → (Builtin.firstCells sz n ry).run P w' = .ok news.toArray w')
    (ho : ∀ w' : World, w'.heap = w.heap → (Builtin.firstCells sz len (.slice base len cap)).run P w' = .ok olds.toArray w') (hlt : cap < len + n) (hbytes : (2 * (len + n) + 192) * b ≤ 281474976710656) (hb0 : 0 < b) :
    ∃ (nc : Nat) (rest : Array Value) (w' : World), (Builtin.append_ ats ty args).run P w = .ok (.slice (some ⟨w.heap.size, 0, none⟩) (len + n) nc) w' ∧ Calm3 w w' ∧ len + n ≤ nc ∧
      w'.heap = w.heap.push (.cells (olds.toArray ++ news.toArray ++ rest) e (0, 0)) ∧ ∃ zs : Nat, rest.size = (nc - (len + n)) * zs ∧ zs = z.length := by
  obtain ⟨i, hi, his, hib⟩ := sizeOf_bytes hs hb
  have hcap : Builtin.nextslicecap (len + n) cap * b ≤ 281474976710656 := Nat.le_trans (Nat.mul_le_mul_right _ (nextcap_le hlt)) hbytes
  let q := Question.appendCap (len + n) cap e
  let nc := q.cut (w.tape w.drawn q)
  have hnc : len + n ≤ nc := by simp only [nc, q, Question.cut]; omega
  have hz' : ∃ v, i.zero = some v ∧ v.cells.toList.map ofVal1 = z := by
    unfold zeroCells at hz
    cases hzz : i.zero with
    | none => simp [hi, hzz] at hz
    | some v => simp [hi, hzz] at hz; exact ⟨v, rfl, by simpa using hz⟩
  obtain ⟨zv, z1, z2⟩ := hz'
  refine ⟨nc, Builtin.zeroCells zv.cells (nc - (len + n)), { w with drawn := w.drawn + 1, heap := w.heap.push (.cells (olds.toArray ++ news.toArray ++ Builtin.zeroCells zv.cells (nc - (len + n))) e (0, 0)) }, ?_, ⟨rfl, rfl, rfl⟩, hnc, rfl, zv.cells.size, ?_, ?_⟩
  · have h1 : ¬ (len + n ≤ cap) := by omega
    have h2 : ¬ (((len + n : Nat) : Int) > IntKind.i64.max ∧ (False ∨ b = 0)) := fun h => h.2.elim id (fun h => by omega)
    have h3 : ¬ (Builtin.nextslicecap (len + n) cap * b > 2 ^ 48) := by omega
    have hch : (choose (.appendCap (len + n) cap e)).run P w = .ok nc { w with drawn := w.drawn + 1 } := rfl
    cases dx <;> first | exact absurd rfl (hdx _) | skip
    all_goals simp only [Builtin.append_, ht, hxt, ha0, ha1, Sem.run_bind, run_underlying' hu, Result.andThen, sizeOf'_spec hs w, run_underlying' hux, Sem.run_pure, Bool.false_eq_true, if_false, hn, h1, run_typeInfo' hi, hib, h2, h3, hch, run_askRoom,
      ho { w with drawn := w.drawn + 1 } rfl, Bool.not_false, if_true, hf { w with drawn := w.drawn + 1 } rfl, zeroValue, z1, newRow, run_newObj]
  · simp [Builtin.zeroCells]
  · rw [← z2]; simp

end

end Go.Mir
