import Derived.Test.YtbkbnchifeimpaaMirB
import Derived.IntWalk
import Derived.Below
import Derived.ProofKit
import Derived.OpenShut
import Derived.ShutString
import Derived.ChangeOld
import Derived.DataReads
set_option linter.unusedVariables false
set_option linter.unusedSimpArgs false
/- Small rules for walks: what simp is given. -/
namespace Go.Mir

theorem upd_at (env : Nat → MV) (i : Nat) (v : MV) (j : Nat) : upd env i v j = if j = i then v else env j := rfl
section
variable {P : Program} {N : Nat} {rd : Option Nat} {Q : Exit → (Nat → MV) → MSt → Prop} {env : Nat → MV} {s : MSt}
theorem mcond_t {c : Operand} {x y : Code} {v : MV} (hc : mev s env c = v) (hv : v = .bool true) (h : MCode P N rd x Q env s) : MCode P N rd (.cond c x y) Q env s := mcond_true (hc.trans hv) h
theorem mcond_f {c : Operand} {x y : Code} {v : MV} (hc : mev s env c = v) (hv : v = .bool false) (h : MCode P N rd y Q env s) : MCode P N rd (.cond c x y) Q env s := mcond_false (hc.trans hv) h
end
theorem solveE {a b : MV} (h : a = b) : a = b := h
theorem solveL {a b : List MV} (h : a = b) : a = b := h
theorem solveP {a b : List (Nat × MV)} (h : a = b) : a = b := h
theorem solveM {a b : Option MV} (h : a = b) : a = b := h
theorem solveO {α : Type} {a : Option α} {v : α} (h : a = some v) : a = some v := h
theorem solveY {a v : MV} {s s' : MSt} (h : a = v ∧ s = s') : a = v ∧ s = s' := h
theorem args_arr (l : List Operand) (ev : Operand → MV) : (l.toArray.toList.map ev) = l.map ev := rfl
theorem isCall_b {b : Builtin} {a : Array Operand} {t : Array TypeId} : isCallV (.call { callee := .builtin b, args := a, argTypes := t }) = false := rfl

theorem live_blk {s : MSt} {β st : Nat} {c : List MV} (h : s.h[β]? = some (.blk st c)) : s.isLive β st = true := by simp [MSt.isLive, h]

theorem load_cell {s : MSt} {β st off : Nat} {c : List MV} {n : Nat} (h : s.h[β]? = some (.blk st c)) : mload s false n (.ptr β st off) = c[off]? := by simp [mload, h, readAt]
theorem load_agg {s : MSt} {β st off : Nat} {c : List MV} {n : Nat} (h : s.h[β]? = some (.blk st c)) : mload s true n (.ptr β st off) = if off + n ≤ c.length then some (.agg ((c.drop off).take n)) else none := by simp [mload, h, readAt]

/-- One cell of a row is written. -/
theorem splice1 (cells : List MV) (off : Nat) (v : MV) : splice cells off [v] = cells.set off v := rfl
theorem splice2 (cells : List MV) (off : Nat) (v u : MV) : splice cells off [v, u] = (cells.set off v).set (off + 1) u := rfl
theorem splice3 (cells : List MV) (off : Nat) (v u x : MV) : splice cells off [v, u, x] = ((cells.set off v).set (off + 1) u).set (off + 2) x := rfl
theorem splice0 (cells : List MV) (off : Nat) : splice cells off [] = cells := rfl

/-- The operations of a region in the plain. -/
def dstAt (ops : List Oper) (j : Nat) : Option Nat := match ops[j]? with
  | some ⟨d, _, _, _, _, _⟩ => d
  | none => none
def prepL (ops : List Oper) : List Oper → List POp
  | [] => []
  | ⟨d, o, _, _, _, none⟩ :: os => ⟨d, o, none⟩ :: prepL ops os
  | ⟨d, o, _, _, _, some (j, b)⟩ :: os => ⟨d, o, some (dstAt ops j, b)⟩ :: prepL ops os
theorem dstAt_eq (ops : Array Oper) (j : Nat) : dstAt ops.toList j = (ops[j]?).bind (·.dst) := by
  unfold dstAt
  rw [Array.getElem?_toList]
  cases ops[j]? <;> rfl
theorem prepL_eq (ops : Array Oper) : ∀ l : List Oper, prepL ops.toList l = l.map fun o => ⟨o.dst, o.op, o.guard.map fun g => ((ops[g.1]?).bind (·.dst), g.2)⟩
  | [] => rfl
  | ⟨d, o, _, _, _, none⟩ :: os => by simp [prepL, prepL_eq ops os]
  | ⟨d, o, _, _, _, some (j, b)⟩ :: os => by simp [prepL, prepL_eq ops os, dstAt_eq]
theorem mregionL {P N rd id ops Q env s} (h : mops P (fun env s => Q .normal env s) (prepL ops.toList ops.toList) env s) : MCode P N rd (.region id ops false) Q env s :=
  mregion (by rw [prepL_eq] at h; exact h)

def popL (ops : List Oper) (i : Nat) : POp := match ops[i]? with
  | some ⟨d, o, _, _, _, none⟩ => ⟨d, o, none⟩
  | some ⟨d, o, _, _, _, some (j, b)⟩ => ⟨d, o, some (dstAt ops j, b)⟩
  | none => ⟨none, .alloc 0, some (none, true)⟩
theorem popL_eq (ops : Array Oper) (i : Nat) : popL ops.toList i = popAt ops i := by
  unfold popL popAt
  rw [Array.getElem?_toList]
  cases h : ops[i]? with
  | none => rfl
  | some o =>
    obtain ⟨d, o, t, p, a, g⟩ := o
    cases g with
    | none => rfl
    | some g => obtain ⟨j, b⟩ := g; simp [dstAt_eq]
def prepE (ops : List Oper) : List DOp → List DP
  | [] => []
  | ⟨i, w, ob⟩ :: l => ⟨popL ops i, w, ob.map (popL ops)⟩ :: prepE ops l
theorem prepE_eq (ops : Array Oper) : ∀ l, prepE ops.toList l = prepD ops l
  | [] => rfl
  | ⟨i, w, ob⟩ :: l => by
    simp only [prepE, prepE_eq ops l, prepD, List.map_cons, popL_eq]
    congr 2
    exact List.map_congr_left fun k _ => popL_eq ops k
theorem mregionE {P N rd Q env s} (hm : P.follows .mixedOrders = true) {id : Nat} {ops : Array Oper} (am : List Nat) (ord : List DOp) (hc : okDraw ops am ord = true)
    (h : mopsD P (fun env s => Q .normal env s) (prepE ops.toList ord) env s) : MCode P N rd (.region id ops true) Q env s :=
  mregionD hm am ord hc (by rw [prepE_eq] at h; exact h)

/-- A row of things, each of so many cells. -/
def rows {α : Type} (enc : α → List MV) (l : List α) : List MV := l.flatMap enc

theorem rows_nil {α : Type} (enc : α → List MV) : rows enc [] = [] := rfl
theorem rows_cons {α : Type} (enc : α → List MV) (a : α) (l : List α) : rows enc (a :: l) = enc a ++ rows enc l := by simp [rows]
theorem rows_append {α : Type} (enc : α → List MV) (l l' : List α) : rows enc (l ++ l') = rows enc l ++ rows enc l' := by simp [rows]
theorem rows_len {α : Type} {enc : α → List MV} {n : Nat} (he : ∀ a, (enc a).length = n) : ∀ l : List α, (rows enc l).length = l.length * n
  | [] => by simp [rows]
  | a :: l => by rw [rows_cons, List.length_append, he, rows_len he l, List.length_cons, Nat.succ_mul]; omega
theorem rows_drop {α : Type} {enc : α → List MV} {n : Nat} (he : ∀ a, (enc a).length = n) : ∀ (l : List α) (i : Nat), (rows enc l).drop (i * n) = rows enc (l.drop i)
  | [], i => by simp [rows]
  | a :: l, 0 => by simp
  | a :: l, i + 1 => by
    rw [rows_cons, List.drop_succ_cons, ← rows_drop he l i, Nat.succ_mul, Nat.add_comm, ← List.drop_drop]
    have hz : (enc a).drop n = [] := List.drop_of_length_le (by rw [he]; exact Nat.le_refl _)
    rw [List.drop_append_of_le_length (by rw [he]; exact Nat.le_refl _), hz, List.nil_append]
theorem rows_take {α : Type} {enc : α → List MV} {n : Nat} (he : ∀ a, (enc a).length = n) : ∀ (l : List α) (i : Nat), (rows enc l).take (i * n) = rows enc (l.take i)
  | [], i => by simp [rows]
  | a :: l, 0 => by simp [rows]
  | a :: l, i + 1 => by
    rw [rows_cons, List.take_succ_cons, rows_cons, ← rows_take he l i, Nat.succ_mul, Nat.add_comm, List.take_add, List.take_append_of_le_length (by rw [he]; exact Nat.le_refl _), List.take_of_length_le (by rw [he]; exact Nat.le_refl _)]
    have hz : (enc a).drop n = [] := List.drop_of_length_le (by rw [he]; exact Nat.le_refl _)
    rw [List.drop_append_of_le_length (by rw [he]; exact Nat.le_refl _), hz, List.nil_append]
/-- A part of one thing of a row. -/
theorem rows_at {α : Type} {enc : α → List MV} {n : Nat} (he : ∀ a, (enc a).length = n) {l : List α} {i j : Nat} {a : α} (hi : l[i]? = some a) (hj : j < n) : (rows enc l)[i * n + j]? = (enc a)[j]? := by
  have h := rows_drop he l i
  have h1 : (rows enc l)[i * n + j]? = ((rows enc l).drop (i * n))[j]? := by rw [List.getElem?_drop]
  obtain ⟨hlt, rfl⟩ := List.getElem?_eq_some_iff.1 hi
  rw [h1, h, List.drop_eq_getElem_cons hlt, rows_cons, List.getElem?_append_left (by rw [he]; exact hj)]
theorem rows_at0 {α : Type} {enc : α → List MV} {n : Nat} (he : ∀ a, (enc a).length = n) {l : List α} {i : Nat} {a : α} (hi : l[i]? = some a) (hj : 0 < n) : (rows enc l)[i * n]? = (enc a)[0]? := rows_at he hi hj
/-- A whole thing of a row. -/
theorem rows_one {α : Type} {enc : α → List MV} {n : Nat} (he : ∀ a, (enc a).length = n) {l : List α} {i : Nat} {a : α} (hi : l[i]? = some a) : ((rows enc l).drop (i * n)).take n = enc a := by
  obtain ⟨hlt, rfl⟩ := List.getElem?_eq_some_iff.1 hi
  rw [rows_drop he, List.drop_eq_getElem_cons hlt, rows_cons, List.take_append_of_le_length (by rw [he]; exact Nat.le_refl _), List.take_of_length_le (by rw [he]; exact Nat.le_refl _)]
theorem set_append_left' {α : Type} (l l' : List α) (i : Nat) (a : α) (h : i < l.length) : (l ++ l').set i a = l.set i a ++ l' := List.set_append_left i a h
theorem set_append_right' {α : Type} (l l' : List α) (i : Nat) (a : α) (h : l.length ≤ i) : (l ++ l').set i a = l ++ l'.set (i - l.length) a := List.set_append_right i a h
/-- A part of one thing of a row is written. -/
theorem rows_set {α : Type} {enc : α → List MV} {n : Nat} (he : ∀ a, (enc a).length = n) : ∀ {l : List α} {i j : Nat} {a b : α} {v : MV} (_ : l[i]? = some a) (_ : j < n) (_ : (enc a).set j v = enc b), (rows enc l).set (i * n + j) v = rows enc (l.set i b)
  | [], i, j, a, b, v, hi, hj, hb => by simp at hi
  | x :: l, 0, j, a, b, v, hi, hj, hb => by
    simp only [List.getElem?_cons_zero, Option.some.injEq] at hi; subst hi
    rw [List.set_cons_zero, rows_cons, rows_cons, Nat.zero_mul, Nat.zero_add, set_append_left' _ _ _ _ (by rw [he]; exact hj), hb]
  | x :: l, i + 1, j, a, b, v, hi, hj, hb => by
    simp only [List.getElem?_cons_succ] at hi
    rw [List.set_cons_succ, rows_cons, rows_cons, set_append_right' _ _ _ _ (by rw [he, Nat.succ_mul]; omega), he]
    have : (i + 1) * n + j - n = i * n + j := by rw [Nat.succ_mul]; omega
    rw [this, rows_set he hi hj hb]
/-- A whole thing of a row is written. -/
theorem rows_splice {α : Type} {enc : α → List MV} {n : Nat} (he : ∀ a, (enc a).length = n) {l : List α} {i : Nat} {b : α} (hi : i < l.length) : splice (rows enc l) (i * n) (enc b) = rows enc (l.set i b) := by
  have key : ∀ (pre mid suf vs : List MV), vs.length = mid.length → splice (pre ++ mid ++ suf) pre.length vs = pre ++ vs ++ suf := by
    intro pre mid suf vs
    induction vs generalizing pre mid with
    | nil => intro h; cases mid with
      | nil => simp [splice]
      | cons => simp at h
    | cons v vs ih =>
      intro h
      cases mid with
      | nil => simp at h
      | cons x mid =>
        simp only [splice]
        have h1 : (pre ++ x :: mid ++ suf).set pre.length v = (pre ++ [v]) ++ mid ++ suf := by
          rw [List.append_assoc, set_append_right' _ _ _ _ (Nat.le_refl _)]
          simp
        rw [h1]
        have := ih (pre ++ [v]) mid (by simpa using h)
        simp only [List.length_append, List.length_singleton] at this
        rw [this]
        simp
  have h1 : rows enc l = rows enc (l.take i) ++ enc l[i] ++ rows enc (l.drop (i + 1)) := by
    conv => lhs; rw [← List.take_append_drop i l, List.drop_eq_getElem_cons hi, rows_append, rows_cons]
    simp
  have h2 : rows enc (l.set i b) = rows enc (l.take i) ++ enc b ++ rows enc (l.drop (i + 1)) := by
    rw [List.set_eq_take_append_cons_drop, if_pos hi, rows_append, rows_cons]; simp
  rw [h1, h2]
  have h3 : i * n = (rows enc (l.take i)).length := by rw [rows_len he, List.length_take, Nat.min_eq_left (Nat.le_of_lt hi)]
  rw [h3]
  exact key _ _ _ _ (by rw [he, he])

theorem all_flat_rows {α : Type} {enc : α → List MV} (hf : ∀ a, (enc a).all MV.flat = true) (l : List α) : (rows enc l).all MV.flat = true := by
  simp only [rows, List.all_flatMap]
  rw [List.all_eq_true]
  intro a _
  exact hf a


/-! ### Operands and operations, one rule each -/
def mevs (s : MSt) (env : Nat → MV) : List Operand → List MV
  | [] => []
  | x :: l => mev s env x :: mevs s env l
theorem mevs_eq (s : MSt) (env : Nat → MV) : ∀ l, l.map (mev s env) = mevs s env l
  | [] => rfl
  | x :: l => by rw [List.map_cons, mevs_eq s env l]; rfl
def mevp (s : MSt) (env : Nat → MV) : List (Nat × Operand) → List (Nat × MV)
  | [] => []
  | (i, x) :: l => (i, mev s env x) :: mevp s env l
theorem mevp_eq (s : MSt) (env : Nat → MV) : ∀ l : List (Nat × Operand), l.map (fun p => (p.1, mev s env p.2)) = mevp s env l
  | [] => rfl
  | (i, x) :: l => by rw [List.map_cons, mevp_eq s env l]; rfl

section
variable {P : Program} {s : MSt} {env : Nat → MV} {K : MV → MSt → Prop}
theorem ev_tmp {t : Nat} : mev s env (.tmp t) = env t := rfl
theorem ev_int {k : IntKind} {n : Int} : mev s env (.const (.int k n)) = .int k n := rfl
theorem ev_bool {b : Bool} : mev s env (.const (.bool b)) = .bool b := rfl
theorem ev_str {x : ByteArray} : mev s env (.const (.string x)) = .str x.data.toList := rfl
theorem ev_nilptr : mev s env (.const (.pointer none)) = .nilptr := rfl
theorem ev_nilsl : mev s env (.const (.slice none 0 0)) = .nilsl := rfl
theorem ev_nilmap : mev s env (.const (.map none)) = .nilmap := rfl
theorem ev_nilfunc : mev s env (.const .nilFunc) = .nilfunc := rfl
theorem ev_niliface : mev s env (.const .nilIface) = .niliface := rfl
theorem ev_agg {cs : Array Value} : mev s env (.const (.agg cs)) = .agg (cs.toList.map ofVal1) := rfl
theorem ev_func {f : FuncId} : mev s env (.func f) = .func (.func f) [] [] := rfl
theorem ev_global {g : Nat} {c : List MV} (h : s.gl g = some c) : mev s env (.global g) = .fptr c 0 := by simp [mev, h]
theorem evo_some {i : Nat} {v : MV} {j : Nat} : updo env (some i) v j = if j = i then v else env j := rfl
theorem evo_none {v : MV} {j : Nat} : updo env none v j = env j := rfl
theorem evu {i : Nat} {v : MV} {j : Nat} : upd env i v j = if j = i then v else env j := rfl
theorem evi {l : List MV} {j : Nat} : initEnv l j = l.getD j .undef := rfl

theorem oper_move {x : Operand} {v : MV} (hx : mev s env x = v) (h : K v s) : MOper P (.move x) env s K := by subst hx; exact h
theorem oper_assign {x : Operand} {v : MV} (hx : mev s env x = v) (h : K v s) : MOper P (.assign x) env s K := by subst hx; exact h
theorem oper_pick {c a b : Operand} {t : Bool} {va vb v : MV} (hc : mev s env c = .bool t) (ha : mev s env a = va) (hb : mev s env b = vb) (hv : (if t = true then va else vb) = v) (h : K v s) : MOper P (.pick c a b) env s K := by
  unfold MOper; simp only [mop, hc, ha, hb]; rw [hv]; exact h
theorem oper_un {o : UnOp} {t : TypeId} {x : Operand} {a v : MV} (hx : mev s env x = a) (hv : mun o a = some v) (h : K v s) : MOper P (.unOp o t x) env s K := by
  unfold MOper; simp only [mop, hx, hv, Option.map_some]; exact h
theorem oper_bin {o : BinOp} {t t' : TypeId} {x y : Operand} {a b v : MV} (hx : mev s env x = a) (hy : mev s env y = b) (hv : mbin P s o t a b = some v) (h : K v s) : MOper P (.binOp o t x y t') env s K := by
  unfold MOper; simp only [mop, hx, hy, hv, Option.map_some]; exact h
theorem oper_load {t : TypeId} {x : Operand} {a v : MV} {ag : Bool} {n : Nat} (hl : lay P t = some (ag, n)) (hx : mev s env x = a) (hv : mload s ag n a = some v) (h : K v s) : MOper P (.load t x) env s K := by
  unfold MOper; simp only [mop, hl, hx, hv, Option.map_some]; exact h
theorem oper_store {t : TypeId} {x y : Operand} {a b : MV} {ag : Bool} {n : Nat} {s' : MSt} (hl : lay P t = some (ag, n)) (hx : mev s env x = a) (hy : mev s env y = b) (hv : mstore s n a b = some s') (h : K .undef s') : MOper P (.store t x y) env s K := by
  unfold MOper; simp only [mop, hl, hx, hy, hv, Option.map_some]; exact h
theorem oper_nilCheck {x : Operand} {a v : MV} (hx : mev s env x = a) (hv : mnilCheck s a = some v) (h : K v s) : MOper P (.nilCheck x) env s K := by
  unfold MOper; simp only [mop, hx, hv, Option.map_some]; exact h
theorem oper_convert {t t' : TypeId} {x : Operand} {a v : MV} (hx : mev s env x = a) (hv : mconv P s t t' a = some v) (h : K v s) : MOper P (.convert t t' x) env s K := by
  unfold MOper; simp only [mop, hx, hv, Option.map_some]; exact h
theorem oper_iface {t : TypeId} {x : Operand} {a : MV} (hi : isIface P t = some false) (hx : mev s env x = a) (h : K (.iface t a) s) : MOper P (.makeInterface t x) env s K := by
  unfold MOper; simp only [mop, hi, hx, if_true]; exact h
theorem oper_func {f : FuncId} {x y : List Operand} {a b : List MV} (hx : mevs s env x = a) (hy : mevs s env y = b) (h : K (.func (.func f) a b) s) : MOper P (.makeFunc (.func f) ⟨x⟩ ⟨y⟩) env s K := by
  unfold MOper; simp only [mop, mevs_eq, hx, hy]; exact h
theorem oper_alloc {t : TypeId} {v : MV} {s' : MSt} (hv : malloc P s t = some (v, s')) (h : K v s') : MOper P (.alloc t) env s K := by
  unfold MOper; simp only [mop, hv]; exact h
theorem oper_box {t : TypeId} {x : Operand} {a v : MV} {s' : MSt} (hx : mev s env x = a) (hv : mbox s a = some (v, s')) (h : K v s') : MOper P (.box t x) env s K := by
  unfold MOper; simp only [mop, hx, hv]; exact h
theorem oper_build {t : TypeId} {ps : List (Nat × Operand)} {a : List (Nat × MV)} {v : MV} (hx : mevp s env ps = a) (hv : mbuild P t a = some v) (h : K v s) : MOper P (.build t ⟨ps⟩) env s K := by
  unfold MOper; simp only [mop, mevp_eq, hx, hv, Option.map_some]; exact h
theorem oper_buildSlice {t : TypeId} {n : Nat} {ps : List (Nat × Operand)} {a : List (Nat × MV)} {v : MV} (hx : mevp s env ps = a) (hv : mbuildSlice P t n a = some v) (h : K v s) : MOper P (.buildSlice t n ⟨ps⟩) env s K := by
  unfold MOper; simp only [mop, mevp_eq, hx, hv, Option.map_some]; exact h
theorem oper_makeSlice {t : TypeId} {x y : Operand} {a b v : MV} {s' : MSt} (hx : mev s env x = a) (hy : mev s env y = b) (hv : mmake P s t a b = some (v, s')) (h : K v s') : MOper P (.makeSlice t x y) env s K := by
  unfold MOper; simp only [mop, hx, hy, hv]; exact h
def mevo (s : MSt) (env : Nat → MV) : Option Operand → Option MV
  | none => none
  | some x => some (mev s env x)
theorem mevo_eq (o : Option Operand) : o.map (mev s env) = mevo s env o := by cases o <;> rfl
theorem evo_n : mevo s env none = none := rfl
theorem evo_s {x : Operand} : mevo s env (some x) = some (mev s env x) := rfl
theorem oper_slice {t : TypeId} {x : Operand} {lo hi mx : Option Operand} {a v : MV} {b c d : Option MV} (hx : mev s env x = a) (h1 : mevo s env lo = b) (h2 : mevo s env hi = c) (h3 : mevo s env mx = d) (hv : mslice P s t a b c d = some v) (h : K v s) : MOper P (.slice t x lo hi mx) env s K := by
  unfold MOper; simp only [mop, mevo_eq, hx, h1, h2, h3, hv, Option.map_some]; exact h
theorem oper_fieldAddr {t : TypeId} {f : Nat} {x : Operand} {a v : MV} {o n : Nat} {ag : Bool} (hf : fOff P t f = some (o, ag, n)) (hx : mev s env x = a) (hv : madd s a o = some v) (h : K v s) : MOper P (.fieldAddr t x f) env s K := by
  unfold MOper; simp only [mop, hf, hx, hv, Option.map_some]; exact h
theorem oper_field {t : TypeId} {f : Nat} {x : Operand} {a v : MV} (hx : mev s env x = a) (hv : mfield P t a f = some v) (h : K v s) : MOper P (.field t x f) env s K := by
  unfold MOper; simp only [mop, hx, hv, Option.map_some]; exact h
theorem oper_indexAddr {t : TypeId} {x y : Operand} {a b v : MV} (hx : mev s env x = a) (hy : mev s env y = b) (hv : mindexAddr P s t a b = some v) (h : K v s) : MOper P (.indexAddr t x y) env s K := by
  unfold MOper; simp only [mop, hx, hy, hv, Option.map_some]; exact h
theorem oper_index {t : TypeId} {x y : Operand} {a b v : MV} (hx : mev s env x = a) (hy : mev s env y = b) (hv : mindex P t a b = some v) (h : K v s) : MOper P (.index t x y) env s K := by
  unfold MOper; simp only [mop, hx, hy, hv, Option.map_some]; exact h
theorem oper_extract {t : Operand} {i : Nat} {vs : List MV} {v : MV} (hx : mev s env t = .tuple vs) (hv : vs[i]? = some v) (h : K v s) : MOper P (.extract t i) env s K := by
  unfold MOper; simp only [mop, hx, hv, Option.map_some]; exact h
theorem oper_builtin {b : Builtin} {l : List Operand} {ts : Array TypeId} {as : List MV} {v : MV} {s' : MSt} (hx : mevs s env l = as) (hv : mbuiltin P s b ts as = some (v, s')) (h : K v s') : MOper P (.call ⟨.builtin b, ⟨l⟩, ts⟩) env s K := by
  unfold MOper; simp only [mop, mevs_eq, hx, hv]; exact .inl h
theorem oper_call {n : FuncId} {l : List Operand} {ts : Array TypeId} {as : List MV} (hx : mevs s env l = as) (h : MCalls P n as s K) : MOper P (.call ⟨.value (.func n), ⟨l⟩, ts⟩) env s K := by
  refine mcallop (c := ⟨.value (.func n), ⟨l⟩, ts⟩) (f := .func n) rfl (n := n) (first := []) (cap := []) (args := as) rfl ?_ (by simpa using h)
  simp only [mevs_eq]; exact hx
theorem oper_callv {f : Operand} {l : List Operand} {ts : Array TypeId} {fv : MV} {as : List MV} (hf : mev s env f = fv) (hx : mevs s env l = as) (h : MInv P fv as s K) : MOper P (.call ⟨.value f, ⟨l⟩, ts⟩) env s K := by
  refine mcallval (c := ⟨.value f, ⟨l⟩, ts⟩) (f := f) rfl hf ?_ h
  simp only [mevs_eq]; exact hx
theorem evs_nil : mevs s env [] = [] := rfl
theorem evs_cons {x : Operand} {l : List Operand} : mevs s env (x :: l) = mev s env x :: mevs s env l := rfl
theorem evp_nil : mevp s env [] = [] := rfl
theorem evp_cons {i : Nat} {x : Operand} {l : List (Nat × Operand)} : mevp s env ((i, x) :: l) = (i, mev s env x) :: mevp s env l := rfl
end

section
variable {P : Program} {env : Nat → MV} {s : MSt} {K : (Nat → MV) → MSt → Prop} {d : Option Nat} {o : Op} {os : List POp} {ob : List POp} {od : List DP}
theorem step_cons (h : MOper P o env s fun v s' => mops P K os (updo env d v) s') : mops P K (⟨d, o, none⟩ :: os) env s := h
theorem step_if {t : Nat} {w b : Bool} {v : MV} (hw : env t = v) (hv : v = .bool w) (hb : (w == b) = true) (h : MOper P o env s fun v s' => mops P K os (updo env d v) s') : mops P K (⟨d, o, some (some t, b)⟩ :: os) env s := by
  subst hv
  simp only [mops, mwant, hw, hb]; exact h
theorem step_not {t : Nat} {w b : Bool} {v : MV} (hw : env t = v) (hv : v = .bool w) (hb : (w == b) = false) (h : mops P K os (updo env d .undef) s) : mops P K (⟨d, o, some (some t, b)⟩ :: os) env s := by
  subst hv
  simp only [mops, mwant, hw, hb]; exact h
theorem step_undef {t : Nat} {b : Bool} {v : MV} (hw : env t = v) (hv : v = .tuple []) (h : mops P K os (updo env d .undef) s) : mops P K (⟨d, o, some (some t, b)⟩ :: os) env s := by
  subst hv
  simp only [mops, mwant, hw]; exact h
theorem stepD_if {t : Nat} {w b : Bool} {v u : MV} (hw : env t = v) (hv : v = .bool w) (hb : (w == b) = true) (h : MOper P o env s fun r s' => r = u ∧ s' = s) (hk : mopsD P K od (updo env d u) s) : mopsD P K (⟨⟨d, o, some (some t, b)⟩, false, ob⟩ :: od) env s := by
  subst hv
  exact ⟨u, .inl ⟨by simp only [mwant, hw, hb], h⟩, hk⟩
theorem stepD_not {t : Nat} {w b wr : Bool} {v : MV} (hw : env t = v) (hv : v = .bool w) (hb : (w == b) = false) (hk : mopsD P K od (updo env d .undef) s) : mopsD P K (⟨⟨d, o, some (some t, b)⟩, wr, ob⟩ :: od) env s := by
  subst hv
  exact mopsD_skip (by simp only [mwant, hw, hb]) hk
theorem stepD_undef {t : Nat} {b wr : Bool} {v : MV} (hw : env t = v) (hv : v = .tuple []) (hk : mopsD P K od (updo env d .undef) s) : mopsD P K (⟨⟨d, o, some (some t, b)⟩, wr, ob⟩ :: od) env s := by
  subst hv
  exact mopsD_skip (by simp only [mwant, hw]) hk
/-- A writer, nothing standing across it. -/
theorem stepD_w (h : MOper P o env s fun v s' => mopsD P K od (updo env d v) s') : mopsD P K (⟨⟨d, o, none⟩, true, []⟩ :: od) env s := by
  have e : (fun (v : MV) (s' : MSt) => (∀ q ∈ ([] : List POp), Stay P env s' q) ∧ mopsD P K od (updo env d v) s') = fun v s' => mopsD P K od (updo env d v) s' := by
    funext v s'; simp
  exact mopsD_w (by rw [e]; exact h)
theorem stepD_wi {t : Nat} {w b : Bool} {v : MV} (hw : env t = v) (hv : v = .bool w) (hb : (w == b) = true) (h : MOper P o env s fun v s' => mopsD P K od (updo env d v) s') : mopsD P K (⟨⟨d, o, some (some t, b)⟩, true, []⟩ :: od) env s := by
  subst hv
  have e : (fun (v : MV) (s' : MSt) => (∀ q ∈ ([] : List POp), Stay P env s' q) ∧ mopsD P K od (updo env d v) s') = fun v s' => mopsD P K od (updo env d v) s' := by
    funext v s'; simp
  simp only [mopsD, mwant, hw, hb]
  rw [e]; exact h
end

end Go.Mir

/- Iterators that look at the store, and change it between two words. -/
namespace Go.Mir

theorem put_same' {s : MSt} {β : Nat} {o : MObj} (h : s.h[β]? = some o) : s = s.put β o := by
  obtain ⟨h1, rfl⟩ := List.getElem?_eq_some_iff.1 h
  simp [MSt.put]

def MSt.withH (s : MSt) (u : List MObj → List MObj) : MSt := { s with h := u s.h }

structure Word where
  x : List MV
  u : List MObj → List MObj
  C : List MObj → Prop

/-- An iterator's words: ahead of each the store is changed; yield is called; behind it something holds of the store. -/
def IterT (P : Program) (y : MV) : List Word → MSt → (MSt → Prop) → Prop
  | [], s, K => K s
  | w :: ws, s, K => MInv P y w.x (s.withH w.u) fun b s' => w.C s'.h ∧ ((b = .bool true ∧ IterT P y ws s' K) ∨ (b = .bool false ∧ K s'))

/-- **The iterator fv, called in a store of which I holds, says these words.** -/
def MSeqT (P : Program) (fv : MV) (I : List MObj → Prop) (ws : List Word) : Prop := ∀ (y : MV) (s : MSt) (K : MSt → Prop), I s.h → IterT P y ws s K → MInv P fv [y] s fun _ s' => K s'

def RFoldT (P : Program) (N : Nat) (ps : Array Tmp) (assign body : Code) (Q : Exit → (Nat → MV) → MSt → Prop) (env : Nat → MV) : List Word → MSt → Prop
  | [], s => Q .normal env s
  | w :: ws, s => w.x.length = ps.size ∧ ∀ L : MLoop, MCode P N (some s.ls.length) assign (fun ex env1 s1 => ex = .normal ∧ ∃ t1 : MSt, s1 = t1.pushL L ∧ t1.ls.length = s.ls.length ∧
      ∀ L2 : MLoop, MCode P N (some s.ls.length) body (fun ex env2 s2 => ∃ t2 : MSt, s2 = t2.pushL L2 ∧ t2.ls.length = s.ls.length ∧ w.C t2.h ∧
        match ex with
        | .normal => RFoldT P N ps assign body Q env ws t2
        | .ret => Q .ret env t2
        | .exit id => Q (.exit id) env t2
        | _ => False) env1 (t1.pushL L2)) (setMany env ps.toList w.x) ((s.withH w.u).pushL L)

theorem iterT_of_fold {P : Program} {N : Nat} {rd : Option Nat} {ps : Array Tmp} {assign body : Code} {Q : Exit → (Nat → MV) → MSt → Prop} {env : Nat → MV} (fn0 : FuncId) (hfit : (cfits N assign && cfits N body) = true) (n : Nat) :
    ∀ (xs : List Word) (s : MSt), s.ls.length = n → RFoldT P N ps assign body Q env xs s → IterT P (.yield n) xs (s.pushL (loop0 fn0 N env ps assign body)) (rangeEnd P N rd Q env .undef)
  | [], s, _, h => ⟨s, _, rfl, by simp [loop0], h⟩
  | x :: xs, s, hn, h => by
    subst hn
    obtain ⟨hx, h⟩ := h
    simp only [IterT, MInv]
    have hg : ((s.pushL (loop0 fn0 N env ps assign body)).withH x.u) = (s.withH x.u).pushL (loop0 fn0 N env ps assign body) := rfl
    rw [hg]
    refine mround (L := loop0 fn0 N env ps assign body) (pushL_get (s.withH x.u) _) hx hfit ?_
    refine (h (loop0 fn0 N env ps assign body)).mono ?_
    rintro ex env1 s1 ⟨rfl, t1, rfl, ht1, hb⟩
    refine ⟨rfl, loop0 fn0 N env ps assign body, by rw [← ht1]; exact pushL_get _ _, rfl, rfl, ?_⟩
    have e1 : (t1.pushL (loop0 fn0 N env ps assign body)).setL s.ls.length { loop0 fn0 N env ps assign body with state := .busy, pending := none } = t1.pushL { loop0 fn0 N env ps assign body with state := .busy, pending := none } := by rw [← ht1, setL_push]
    rw [e1]
    refine (hb _).mono ?_
    rintro ex env2 s2 ⟨t2, rfl, ht2, hC, hq⟩
    refine ⟨_, by rw [← ht2]; exact pushL_get _ _, ?_⟩
    have e2 : ∀ L' L2 : MLoop, (t2.pushL L2).setL s.ls.length L' = t2.pushL L' := fun L' L2 => by rw [← ht2, setL_push]
    cases ex with
    | normal =>
      simp only [e2]
      have := iterT_of_fold (rd := rd) fn0 hfit s.ls.length xs t2 ht2 hq
      exact ⟨hC, .inl ⟨by first | rfl | trivial, this⟩⟩
    | ret =>
      simp only [e2]
      exact ⟨hC, .inr ⟨by first | rfl | trivial, t2, _, rfl, by simp, rfl, mret hq⟩⟩
    | exit id =>
      simp only [e2]
      exact ⟨hC, .inr ⟨by first | rfl | trivial, t2, _, rfl, by simp, rfl, mexit hq⟩⟩
    | goto t => exact hq.elim
    | panic ch => exact hq.elim
    | outgrown => exact hq.elim

theorem mrangeT {P N rd g ps assign body Q env s} {f : FuncId} {first cap : List MV} {fn : Func} {Nf : Nat} (hf : FnOK P f fn Nf) {I : List MObj → Prop} {xs : List Word}
    (hfv : mev s env g = .func (.func f) first cap) (hseq : MSeqT P (.func (.func f) first cap) I xs) (hI : I s.h) (h : RFoldT P N ps assign body Q env xs s) : MCode P N rd (.rangeFunc g ps assign body) Q env s := by
  intro hs
  have hs' := hs
  simp only [cfits, Bool.and_eq_true] at hs'
  refine mrangeFunc hfv hf (fun fn0 => ?_) hs
  have := hseq (.yield s.ls.length) (s.pushL _) _ hI (iterT_of_fold (rd := rd) fn0 (by simp [hs'.1.2, hs'.2]) s.ls.length xs s rfl h)
  exact this


theorem mzeros_rows {α : Type} {enc : α → List MV} {a : α} {z : List MV} {n : Nat} (he : ∀ a, (enc a).length = n) (hz : enc a = z) (hn : 0 < n) (k : Nat) : mzeros z (k * n) = rows enc (List.replicate k a) := by
  have hzl : z.length = n := by rw [← hz]; exact he a
  apply List.ext_getElem?
  intro j
  have hlen : (rows enc (List.replicate k a)).length = k * n := by rw [rows_len he]; simp
  by_cases hj : j < k * n
  · have hq : j / n < k := (Nat.div_lt_iff_lt_mul hn).2 hj
    have hr : j % n < n := Nat.mod_lt _ hn
    have h1 : (rows enc (List.replicate k a))[j]? = (enc a)[j % n]? := by
      have e : j = j / n * n + j % n := by rw [Nat.mul_comm]; exact (Nat.div_add_mod j n).symm
      conv => lhs; rw [e]
      exact rows_at he (by rw [List.getElem?_replicate, if_pos hq]) hr
    rw [h1, hz]
    simp only [mzeros, List.getElem?_map, List.getElem?_range hj, Option.map_some, hzl]
    have : j % n < z.length := by omega
    simp [List.getD, List.getElem?_eq_getElem this]
  · rw [List.getElem?_eq_none (by simp [mzeros]; omega), List.getElem?_eq_none (by rw [hlen]; omega)]

theorem withH_id (s : MSt) : s.withH id = s := rfl


theorem mmake_ok {P : Program} {s : MSt} {t e : TypeId} {sz b k : Nat} {z : List MV} (hu : P.underlying t = some (.slice e)) (h1 : sizeOf' P e = some sz) (h2 : bytesOf P e = some b) (h3 : zeroCells P e = some z)
    (hz : z.length ≠ 0) (hk : b * k ≤ 281474976710656) (hk2 : k < 9223372036854775808) : mmake P s t (.int .i64 k) (.int .i64 k) = some (.msl s.h.length 0 sz 0 k (some k), s.push (.blk 0 (mzeros z (k * sz)))) := by
  have c : (0 : Int) ≤ k ∧ (k : Int) ≤ k ∧ ((b : Nat) : Int) * k ≤ 281474976710656 ∧ (k : Int) < 9223372036854775808 ∧ z.length ≠ 0 := by
    refine ⟨by omega, by omega, ?_, by omega, hz⟩
    have : ((b * k : Nat) : Int) ≤ 281474976710656 := by omega
    simpa using this
  simp only [mmake, hu, h1, h2, h3, if_pos c, Int.toNat_natCast]


theorem minv {P : Program} {f : FuncId} {first cap args l : List MV} {s : MSt} {K : MV → MSt → Prop} (hl : first ++ args ++ cap = l) (h : MCalls P f l s K) : MInv P (.func (.func f) first cap) args s K := by
  subst hl; exact h
theorem oper_callf {P : Program} {s : MSt} {env : Nat → MV} {K : MV → MSt → Prop} {f : Operand} {l : List Operand} {ts : Array TypeId} {fv : MV} {as : List MV} (hf : mev s env f = fv) (hx : mevs s env l = as) (h : MInv P fv as s K) : MOper P (.call ⟨.value f, ⟨l⟩, ts⟩) env s K := oper_callv hf hx h

end Go.Mir

/- Stores that have grown, and rows that are put together one by one. -/
namespace Go.Mir

/-- The same store, and new blocks behind it. -/
def Grew (s st : MSt) : Prop := ∃ extra, st = s.ext extra

theorem Grew.refl (s : MSt) : Grew s s := ⟨[], (ext_nil s).symm⟩
theorem Grew.push {s st : MSt} (h : Grew s st) (o : MObj) : Grew s (st.push o) := by
  obtain ⟨e, rfl⟩ := h
  exact ⟨e ++ [o], by rw [push_ext, ext_ext]⟩
theorem Grew.len {s st : MSt} (h : Grew s st) : s.h.length ≤ st.h.length := by
  obtain ⟨e, rfl⟩ := h
  rw [ext_len]; omega
theorem Grew.at {s st : MSt} (h : Grew s st) {β : Nat} {o : MObj} (hb : s.h[β]? = some o) : st.h[β]? = some o := by
  obtain ⟨e, rfl⟩ := h
  rw [ext_h, ext_old _ _ _ (List.getElem?_eq_some_iff.1 hb).1]; exact hb
theorem Grew.put {s st : MSt} (h : Grew s st) {β : Nat} (hb : s.h.length ≤ β) (o : MObj) : Grew s (st.put β o) := by
  obtain ⟨e, rfl⟩ := h
  obtain ⟨k, rfl⟩ : ∃ k, β = s.h.length + k := ⟨β - s.h.length, by omega⟩
  rw [ext_put]
  exact ⟨_, rfl⟩
theorem Grew.trans {s st su : MSt} (h : Grew s st) (h' : Grew st su) : Grew s su := by
  obtain ⟨e, rfl⟩ := h
  obtain ⟨e', rfl⟩ := h'
  exact ⟨e ++ e', by rw [ext_ext]⟩
theorem Grew.ls {s st : MSt} (h : Grew s st) : st.ls = s.ls := by obtain ⟨e, rfl⟩ := h; rfl
theorem Grew.gl {s st : MSt} (h : Grew s st) : st.gl = s.gl := by obtain ⟨e, rfl⟩ := h; rfl
theorem Grew.of {s st : MSt} (h1 : s.h.length ≤ st.h.length) (h2 : ∀ β, β < s.h.length → st.h[β]? = s.h[β]?) (h3 : st.ls = s.ls) (h4 : st.gl = s.gl) : Grew s st := by
  refine ⟨st.h.drop s.h.length, ?_⟩
  obtain ⟨h, ls, gl⟩ := st
  simp only at h1 h2 h3 h4 ⊢
  subst h3 h4
  simp only [MSt.ext]
  congr 1
  have : h.take s.h.length = s.h := by
    apply List.ext_getElem?
    intro i
    rw [List.getElem?_take]
    split
    · exact h2 i (by assumption)
    · rw [List.getElem?_eq_none (by omega)]
  conv => lhs; rw [← List.take_append_drop s.h.length h, this]

theorem push_new (s : MSt) (o : MObj) : (s.push o).h[s.h.length]? = some o := by simp [MSt.push]
theorem push_put (s : MSt) (o o' : MObj) : (s.push o).put s.h.length o' = s.push o' := by simp [MSt.push, MSt.put]
theorem push_old (s : MSt) (o : MObj) (β : Nat) (h : β < s.h.length) : (s.push o).h[β]? = s.h[β]? := by simp [MSt.push, List.getElem?_append_left h]
theorem push_len (s : MSt) (o : MObj) : (s.push o).h.length = s.h.length + 1 := by simp [MSt.push]

/-- A row of the mirror's own that is put together from nothing. -/
def Acc {α : Type} (enc : α → List MV) (sz : Nat) (lo : Nat) (s : MSt) (v : MV) (T : List α) : Prop :=
  (T = [] ∧ (v = .nilsl ∨ v = .fsl [] 0 (some 0))) ∨ ∃ β, lo ≤ β ∧ v = .msl β T.length sz 0 T.length none ∧ s.h[β]? = some (.blk T.length (rows enc T))

def accBlk : MV → Option Nat
  | .msl β _ _ _ _ _ => some β
  | _ => none

theorem Acc.len {α : Type} {enc : α → List MV} {sz lo s v} {T : List α} (h : Acc enc sz lo s v T) : mlenOf s v = some T.length := by
  rcases h with ⟨rfl, rfl | rfl⟩ | ⟨β, _, rfl, hb⟩
  · rfl
  · rfl
  · simp [mlenOf, live_blk hb]

theorem Acc.frame {α : Type} {enc : α → List MV} {sz lo s s' v} {T : List α} (h : Acc enc sz lo s v T) (hf : ∀ β, accBlk v = some β → s'.h[β]? = s.h[β]?) : Acc enc sz lo s' v T := by
  rcases h with ⟨rfl, rfl | rfl⟩ | ⟨β, h1, rfl, hb⟩
  · exact .inl ⟨rfl, .inl rfl⟩
  · exact .inl ⟨rfl, .inr rfl⟩
  · exact .inr ⟨β, h1, rfl, by rw [hf β rfl]; exact hb⟩
theorem Acc.lt {α : Type} {enc : α → List MV} {sz lo s v} {T : List α} (h : Acc enc sz lo s v T) {β : Nat} (hb : accBlk v = some β) : lo ≤ β ∧ β < s.h.length := by
  rcases h with ⟨rfl, rfl | rfl⟩ | ⟨γ, h1, rfl, h2⟩
  · cases hb
  · cases hb
  · simp only [accBlk, Option.some.injEq] at hb; subst hb
    exact ⟨h1, (List.getElem?_eq_some_iff.1 h2).1⟩
theorem Acc.push {α : Type} {enc : α → List MV} {sz lo s v} {T : List α} (h : Acc enc sz lo s v T) (o : MObj) : Acc enc sz lo (s.push o) v T :=
  h.frame fun β hb => push_old _ _ _ (h.lt hb).2

/-- Some more is put behind it. -/
theorem acc_append {α : Type} {P : Program} {enc : α → List MV} {s : MSt} {t xt e sz b lo : Nat} {dx : TypeDesc} {z : List MV} {v y : MV} {T X : List α} (hu : P.underlying t = some (.slice e)) (hux : P.underlying xt = some dx) (hdx : ∀ k, dx ≠ .int k)
    (h1 : sizeOf' P e = some sz) (h2 : bytesOf P e = some b) (h3 : zeroCells P e = some z) (hz : z.length = sz) (hb : 0 < b) (he : ∀ a, (enc a).length = sz) (hfl : ∀ a, (enc a).all MV.flat = true)
    (hy : msrc s sz y = some (X.length, rows enc X)) (hA : Acc enc sz lo s v T) (hbig : (2 * (T.length + X.length) + 192) * b ≤ 281474976710656) (hlo : lo ≤ s.h.length) :
    ∃ v' s', mappend P s t xt v y = some (v', s') ∧ Acc enc sz lo s' v' (T ++ X) ∧ s'.ls = s.ls ∧ s'.gl = s.gl ∧ s.h.length ≤ s'.h.length ∧ (∀ γ, γ < s.h.length → accBlk v ≠ some γ → s'.h[γ]? = s.h[γ]?) ∧ (accBlk v' = accBlk v ∨ accBlk v' = some s.h.length) := by
  have hX : (rows enc X).all MV.flat = true := all_flat_rows hfl X
  have red : mappend P s t xt v y = (match (generalizing := false) msrc s sz y, mlenOf s v with
      | some (n, cs), some len =>
        if n = 0 then some (v, s) else
        if (2 * (len + n) + 192) * b ≤ 281474976710656 ∧ 0 < b ∧ z.length = sz ∧ cs.all MV.flat then
          match (generalizing := false) v with
          | .nilsl => some (.msl s.h.length n sz 0 n none, s.push (.blk n cs))
          | .fsl cells len (some c) => if c < len + n ∧ len * sz ≤ cells.length ∧ (cells.take (len * sz)).all MV.flat then some (.msl s.h.length (len + n) sz 0 (len + n) none, s.push (.blk (len + n) (cells.take (len * sz) ++ cs))) else none
          | .msl β st sz' off len _ => match s.h[β]? with
            | some (.blk st' cells) => if st' = st ∧ sz' = sz ∧ off + len * sz ≤ cells.length then some (.msl β (nextSt st (len + n)) sz 0 (len + n) none, s.put β (.blk (nextSt st (len + n)) ((cells.drop off).take (len * sz) ++ cs))) else none
            | _ => none
          | _ => none
        else none
      | _, _ => none) := by
    unfold mappend
    rw [hu, hux]
    cases dx with
    | int k => exact absurd rfl (hdx k)
    | _ => simp only [h1, h2, h3]; rfl
  rw [red, hy, hA.len]
  simp only
  by_cases hX0 : X = []
  · subst hX0
    refine ⟨v, s, by simp, by simpa using hA, rfl, rfl, Nat.le_refl _, fun _ _ _ => rfl, .inl rfl⟩
  have hn : X.length ≠ 0 := fun h => hX0 (List.length_eq_zero_iff.1 h)
  rw [if_neg hn, if_pos ⟨hbig, hb, hz, hX⟩]
  rcases hA with ⟨rfl, rfl | rfl⟩ | ⟨β, g1, rfl, g2⟩
  · refine ⟨_, _, rfl, .inr ⟨s.h.length, hlo, by simp, ?_⟩, rfl, rfl, by rw [push_len]; omega, fun γ hγ _ => push_old _ _ _ hγ, .inr rfl⟩
    rw [push_new]; simp
  · have hc : 0 < 0 + X.length ∧ 0 * sz ≤ ([] : List MV).length ∧ (([] : List MV).take (0 * sz)).all MV.flat = true := ⟨by omega, by simp, by simp⟩
    refine ⟨_, _, if_pos hc, .inr ⟨s.h.length, hlo, by simp, ?_⟩, rfl, rfl, by rw [push_len]; omega, fun γ hγ _ => push_old _ _ _ hγ, .inr rfl⟩
    rw [push_new]; simp
  · simp only [g2]
    have hl : (rows enc T).length = T.length * sz := rows_len he T
    rw [if_pos ⟨trivial, trivial, by rw [hl]; omega⟩]
    have hns : nextSt T.length (T.length + X.length) = T.length + X.length := by unfold nextSt; rw [if_pos (by omega)]
    have hlt := (List.getElem?_eq_some_iff.1 g2).1
    refine ⟨_, _, rfl, .inr ⟨β, g1, by rw [hns]; simp, ?_⟩, rfl, rfl, by rw [put_len]; exact Nat.le_refl _, fun γ hγ hne => ?_, .inl rfl⟩
    · rw [put_same _ _ _ hlt, hns, rows_append, List.length_append, List.drop_zero, List.take_of_length_le (by rw [hl]; exact Nat.le_refl _)]
    · exact put_other _ _ _ _ fun e => hne (by rw [e]; rfl)

theorem msrc_one {α : Type} {enc : α → List MV} {s : MSt} {sz : Nat} (x : α) (he : (enc x).length = sz) : msrc s sz (.fsl (enc x) 1 (some 1)) = some ([x].length, rows enc [x]) := by
  have h : (enc x).take sz = enc x := List.take_of_length_le (by omega)
  simp [msrc, mlenOf, mcellsOf, he, rows, h]


/-! ### What stands across a writer -/
def Stays (P : Program) (env : Nat → MV) (s : MSt) : List POp → Prop
  | [] => True
  | q :: l => Stay P env s q ∧ Stays P env s l
theorem stays_all {P : Program} {env : Nat → MV} {s : MSt} : ∀ {l : List POp}, Stays P env s l → ∀ q ∈ l, Stay P env s q
  | [], _, q, hq => by simp at hq
  | a :: l, h, q, hq => by
    rcases List.mem_cons.1 hq with rfl | hq
    · exact h.1
    · exact stays_all h.2 q hq
theorem stays_of {P : Program} {env : Nat → MV} {s : MSt} : ∀ {l : List POp}, (∀ q ∈ l, Stay P env s q) → Stays P env s l
  | [], _ => trivial
  | a :: l, h => ⟨h a (by simp), stays_of fun q hq => h q (by simp [hq])⟩
section
variable {P : Program} {env : Nat → MV} {s : MSt} {K : (Nat → MV) → MSt → Prop} {d : Option Nat} {o : Op} {ob l : List POp} {od : List DP}
theorem stays_nil : Stays P env s [] := trivial
theorem stays_cons {t : Nat} {v : MV} (he : env t = v) (h : MOper P o env s fun r s' => r = v ∧ s' = s) (hl : Stays P env s l) : Stays P env s (⟨some t, o, none⟩ :: l) := by
  refine ⟨?_, hl⟩
  unfold Stay
  simp only [he]
  exact .inl ⟨rfl, h⟩
theorem stays_if {t t' : Nat} {w b : Bool} {v u : MV} (hw : env t' = u) (hu : u = .bool w) (hb : (w == b) = true) (he : env t = v) (h : MOper P o env s fun r s' => r = v ∧ s' = s) (hl : Stays P env s l) : Stays P env s (⟨some t, o, some (some t', b)⟩ :: l) := by
  subst hu
  refine ⟨?_, hl⟩
  unfold Stay
  simp only [he]
  exact .inl ⟨by simp only [mwant, hw, hb], h⟩
theorem stays_not {t t' : Nat} {w b : Bool} {u : MV} (hw : env t' = u) (hu : u = .bool w) (hb : (w == b) = false) (he : env t = .undef) (hl : Stays P env s l) : Stays P env s (⟨some t, o, some (some t', b)⟩ :: l) := by
  subst hu
  refine ⟨?_, hl⟩
  unfold Stay
  simp only [he]
  exact .inr ⟨by simp only [mwant, hw, hb], rfl⟩
theorem stepD_ob (h : MOper P o env s fun v s' => Stays P env s' ob ∧ mopsD P K od (updo env d v) s') : mopsD P K (⟨⟨d, o, none⟩, true, ob⟩ :: od) env s := by
  refine mopsD_w ?_
  have e : (fun (v : MV) (s' : MSt) => (∀ q ∈ ob, Stay P env s' q) ∧ mopsD P K od (updo env d v) s') = fun v s' => Stays P env s' ob ∧ mopsD P K od (updo env d v) s' := by
    funext v s'
    exact propext ⟨fun h => ⟨stays_of h.1, h.2⟩, fun h => ⟨stays_all h.1, h.2⟩⟩
  rw [e]; exact h
end

/-- A frozen row of things. -/
def FS {α : Type} (enc : α → List MV) (v : MV) (l : List α) : Prop := (l = [] ∧ v = .nilsl) ∨ (∃ cap, v = .fsl (rows enc l) l.length cap) ∨ (l = [] ∧ v = .esl)

def encInt (x : Int) : List MV := [.int .i64 x]
theorem encInt_len (x : Int) : (encInt x).length = 1 := rfl
theorem encInt_flat (x : Int) : (encInt x).all MV.flat = true := rfl


theorem lenOf_nil {s : MSt} : mlenOf s .nilsl = some 0 := rfl
theorem lenOf_esl {s : MSt} : mlenOf s .esl = some 0 := rfl
theorem lenOf_fsl {s : MSt} {c : List MV} {n : Nat} {k : Option Nat} : mlenOf s (.fsl c n k) = some n := rfl
theorem lenOf_msl {s : MSt} {β st sz off len : Nat} {k : Option Nat} : mlenOf s (.msl β st sz off len k) = if s.isLive β st then some len else none := rfl


/-! ### A range over a function, by what holds ahead of each round -/
def MSt.withLs (s : MSt) (ls : List MLoop) : MSt := { s with ls := ls }
def RNext (Q : Exit → (Nat → MV) → MSt → Prop) (env : Nat → MV) (J : MSt → Prop) : Exit → MSt → Prop
  | .normal, t => J t
  | .ret, t => Q .ret env t
  | .exit id, t => Q (.exit id) env t
  | _, _ => False

theorem withLs_pushL {s : MSt} {ls : List MLoop} {L : MLoop} (h : s.ls = ls ++ [L]) : s = (s.withLs ls).pushL L := by
  obtain ⟨a, b, c⟩ := s
  simp only at h
  subst h
  rfl

theorem rfold_inv {P : Program} {N : Nat} {ps : Array Tmp} {assign body : Code} {Q : Exit → (Nat → MV) → MSt → Prop} {env : Nat → MV} (I : List Word → MSt → Prop)
    (step : ∀ (w : Word) (ws : List Word) (st : MSt), I (w :: ws) st → w.x.length = ps.size ∧ ∀ su : MSt, su.h = w.u st.h → su.gl = st.gl → (∃ L, su.ls = st.ls ++ [L]) →
      MCode P N (some st.ls.length) assign (fun ex env1 s1 => ex = .normal ∧ s1.ls = su.ls ∧
        ∀ sv : MSt, sv.h = s1.h → sv.gl = s1.gl → (∃ L, sv.ls = st.ls ++ [L]) → MCode P N (some st.ls.length) body (fun ex _ s2 => s2.ls = sv.ls ∧ w.C s2.h ∧ RNext Q env (I ws) ex (s2.withLs st.ls)) env1 sv) (setMany env ps.toList w.x) su)
    (fin : ∀ st, I [] st → Q .normal env st) : ∀ (ws : List Word) (s : MSt), I ws s → RFoldT P N ps assign body Q env ws s
  | [], s, h => fin s h
  | w :: ws, s, h => by
    obtain ⟨h1, h2⟩ := step w ws s h
    refine ⟨h1, fun L => ?_⟩
    refine (h2 ((s.withH w.u).pushL L) rfl rfl ⟨L, rfl⟩).mono ?_
    rintro ex env1 s1 ⟨rfl, hl, hb⟩
    have hl' : s1.ls = s.ls ++ [L] := hl
    refine ⟨rfl, s1.withLs s.ls, withLs_pushL hl', rfl, fun L2 => ?_⟩
    refine (hb ((s1.withLs s.ls).pushL L2) rfl rfl ⟨L2, rfl⟩).mono ?_
    rintro ex env2 s2 ⟨hl2, hc, hn⟩
    have hl2' : s2.ls = s.ls ++ [L2] := hl2
    refine ⟨s2.withLs s.ls, withLs_pushL hl2', rfl, hc, ?_⟩
    cases ex with
    | normal => exact rfold_inv I step fin ws _ hn
    | ret => exact hn
    | exit id => exact hn
    | _ => exact hn.elim


theorem Acc.cells {α : Type} {enc : α → List MV} {sz lo s v} {T : List α} (h : Acc enc sz lo s v T) : v.cells = [v] ∧ v.flat = true := by
  rcases h with ⟨rfl, rfl | rfl⟩ | ⟨β, _, rfl, _⟩
  · exact ⟨rfl, rfl⟩
  · exact ⟨rfl, rfl⟩
  · exact ⟨rfl, rfl⟩
theorem mstore_one {s : MSt} {β st : Nat} {u v : MV} (h : s.h[β]? = some (.blk st [u])) (hv : v.cells = [v] ∧ v.flat = true) : mstore s 1 (.ptr β st 0) v = some (s.put β (.blk st [v])) := by
  simp [mstore, h, hv.1, hv.2, splice]

/-- What is put together is told as frozen. -/
theorem Acc.pk {α : Type} {enc : α → List MV} {sz n : Nat} {s : MSt} {v : MV} {T : List α} (h : Acc enc sz n s v T) (he : ∀ a, (enc a).length = sz) (hf : ∀ a, ∀ x ∈ enc a, x.lt 0 0 = true) :
    ∃ r, Pk s.h (fun β => if β < n then some β else none) v r ∧ FS enc r T := by
  rcases h with ⟨rfl, rfl | rfl⟩ | ⟨β, h1, rfl, h2⟩
  · exact ⟨.nilsl, .same _ 0 0 rfl (by omega), .inl ⟨rfl, rfl⟩⟩
  · exact ⟨.fsl [] 0 (some 0), .same _ 0 0 rfl (by omega), .inr (.inl ⟨some 0, rfl⟩)⟩
  · have hl : (rows enc T).length = T.length * sz := rows_len he T
    refine ⟨.fsl (rows enc T) T.length none, .mslF β T.length sz 0 T.length none (rows enc T).length (rows enc T) (rows enc T) (by simp; omega) h2 (by omega) rfl (fun j hj hj' => ?_) none (.inl rfl), .inr (.inl ⟨none, rfl⟩)⟩
    have hm : (rows enc T)[j] ∈ rows enc T := List.getElem_mem _
    simp only [Nat.zero_add]
    simp only [rows, List.mem_flatMap] at hm
    obtain ⟨a, _, hx⟩ := hm
    exact .same _ 0 0 (hf a _ hx) (by omega)


theorem stays_and {P : Program} {env env' : Nat → MV} {s : MSt} {K : (Nat → MV) → MSt → Prop} {ob : List POp} {od : List DP} (h1 : Stays P env s ob) (h2 : mopsD P K od env' s) : Stays P env s ob ∧ mopsD P K od env' s := ⟨h1, h2⟩


theorem splice_all : ∀ (vs pre cells : List MV) (_ : vs.length = cells.length), splice (pre ++ cells) pre.length vs = pre ++ vs
  | [], pre, [], _ => rfl
  | [], pre, c :: cs, h => by simp at h
  | v :: vs, pre, [], h => by simp at h
  | v :: vs, pre, c :: cs, h => by
    have h1 : (pre ++ c :: cs).set pre.length v = (pre ++ [v]) ++ cs := by
      rw [set_append_right' _ _ _ _ (Nat.le_refl _)]; simp
    have := splice_all vs (pre ++ [v]) cs (by simpa using h)
    rw [List.length_append, List.length_singleton] at this
    rw [splice, h1, this]; simp
theorem splice_whole {vs cells : List MV} (h : vs.length = cells.length) : splice cells 0 vs = vs := by simpa using splice_all vs [] cells h


theorem freeze_end {s st : MSt} {v : MV} {K : MV → MSt → Prop} (hg : Grew s st) (hv : v.lt 0 0 = true) (hK : K v s) :
    ∃ r extra, st.h = s.h ++ extra ∧ st.ls = s.ls ∧ st.gl = s.gl ∧ Pk st.h (fun β => if β < s.h.length then some β else none) v r ∧ K r s := by
  obtain ⟨e, rfl⟩ := hg
  exact ⟨v, e, rfl, rfl, rfl, .same v 0 0 hv (by omega), hK⟩


theorem mstore_at {s : MSt} {β st off : Nat} {cells : List MV} {v : MV} (h : s.h[β]? = some (.blk st cells)) (ho : off + 1 ≤ cells.length) (hv : v.cells = [v] ∧ v.flat = true) : mstore s 1 (.ptr β st off) v = some (s.put β (.blk st (cells.set off v))) := by
  simp [mstore, h, hv.1, hv.2, splice, ho]


/-- What holds between two pieces of code. -/
theorem mid {P : Program} {N : Nat} {rd : Option Nat} {c : Code} {next : (Nat → MV) → MSt → Prop} {Q : Exit → (Nat → MV) → MSt → Prop} {env : Nat → MV} {s : MSt} (I : (Nat → MV) → MSt → Prop)
    (h1 : MCode P N rd c (mthen I Q) env s) (h2 : ∀ env s, I env s → next env s) : MCode P N rd c (mthen next Q) env s :=
  h1.mono fun ex env s h => by cases ex <;> first | exact h2 _ _ h | exact h
/-- What holds behind a loop's block. -/
theorem midCatch {P : Program} {N : Nat} {rd : Option Nat} {c : Code} {id : Nat} {next : (Nat → MV) → MSt → Prop} {Q : Exit → (Nat → MV) → MSt → Prop} {env : Nat → MV} {s : MSt} (I : (Nat → MV) → MSt → Prop)
    (h1 : MCode P N rd c (mcatch id (mthen I Q)) env s) (h2 : ∀ env s, I env s → next env s) : MCode P N rd c (mcatch id (mthen next Q)) env s :=
  h1.mono fun ex env s h => by
    cases ex with
    | exit k =>
      simp only [mcatch] at h ⊢
      split
      · rename_i e; rw [if_pos e] at h; exact h2 _ _ h
      · rename_i e; rw [if_neg e] at h; exact h
    | normal => exact h2 _ _ h
    | _ => exact h

end Go.Mir

/- Walks in short: facts on types as instances, steps that a tactic of the rule itself decides. -/
set_option linter.unusedVariables false
set_option linter.unusedSimpArgs false
namespace Go.Mir

class Und (P : Program) (t : TypeId) (d : outParam TypeDesc) : Prop where
  h : P.underlying t = some d
class LayC (P : Program) (t : TypeId) (ag : outParam Bool) (n : outParam Nat) : Prop where
  h : lay P t = some (ag, n)
class OffC (P : Program) (t : TypeId) (f : Nat) (o : outParam Nat) (ag : outParam Bool) (n : outParam Nat) : Prop where
  h : fOff P t f = some (o, ag, n)
class SzC (P : Program) (t : TypeId) (n : outParam Nat) : Prop where
  h : sizeOf' P t = some n
class ByC (P : Program) (t : TypeId) (n : outParam Nat) : Prop where
  h : bytesOf P t = some n
class ZcC (P : Program) (t : TypeId) (z : outParam (List MV)) : Prop where
  h : zeroCells P t = some z
class ElC (P : Program) (t : TypeId) (l : outParam (Option Nat)) (ag : outParam Bool) (n : outParam Nat) : Prop where
  h : elemLay P t = some (l, ag, n)
class IfcC (P : Program) (t : TypeId) (b : outParam Bool) : Prop where
  h : isIface P t = some b
class U8C (P : Program) (t : TypeId) (b : outParam Bool) : Prop where
  h : isU8 P t = b
class BuildC (P : Program) (t : TypeId) (f : outParam (Nat → Option (Nat × Nat))) (z : outParam (List MV)) : Prop where
  h : ∀ ps, mbuild P t ps = (mfill f z ps).map .agg
class BuildSC (P : Program) (t : TypeId) (n : Nat) (f : outParam (Nat → Option (Nat × Nat))) (z : outParam (List MV)) : Prop where
  h : ∀ ps, mbuildSlice P t n ps = (mfill f z ps).map fun cs => .fsl cs n (some n)
class FnC (P : Program) (k : FuncId) (f : outParam Func) (N : outParam Nat) : Prop where
  ok : FnOK P k f N
class ResC (f : Func) (rs : outParam (List ResultVar)) : Prop where
  h : f.results.toList = rs
class MixC (P : Program) : Prop where
  h : P.follows .mixedOrders = true

theorem und_c {P : Program} {t : TypeId} {d : TypeDesc} [c : Und P t d] : P.underlying t = some d := c.h
theorem lay_c {P : Program} {t : TypeId} {ag n} [c : LayC P t ag n] : lay P t = some (ag, n) := c.h
theorem off_c {P : Program} {t : TypeId} {f o ag n} [c : OffC P t f o ag n] : fOff P t f = some (o, ag, n) := c.h
theorem sz_c {P : Program} {t : TypeId} {n} [c : SzC P t n] : sizeOf' P t = some n := c.h
theorem by_c {P : Program} {t : TypeId} {n} [c : ByC P t n] : bytesOf P t = some n := c.h
theorem zc_c {P : Program} {t : TypeId} {z} [c : ZcC P t z] : zeroCells P t = some z := c.h
theorem el_c {P : Program} {t : TypeId} {l ag n} [c : ElC P t l ag n] : elemLay P t = some (l, ag, n) := c.h
theorem ifc_c {P : Program} {t : TypeId} {b} [c : IfcC P t b] : isIface P t = some b := c.h
theorem u8_c {P : Program} {t : TypeId} {b} [c : U8C P t b] : isU8 P t = b := c.h
theorem build_c {P : Program} {t : TypeId} {f z} [c : BuildC P t f z] (ps : List (Nat × MV)) : mbuild P t ps = (mfill f z ps).map .agg := c.h ps
theorem buildS_c {P : Program} {t : TypeId} {n f z} [c : BuildSC P t n f z] (ps : List (Nat × MV)) : mbuildSlice P t n ps = (mfill f z ps).map fun cs => .fsl cs n (some n) := c.h ps
theorem res_c {f : Func} {rs} [c : ResC f rs] : f.results.toList = rs := c.h

theorem wrap_i64_c {n : Int} (h : -9223372036854775808 ≤ n ∧ n ≤ 9223372036854775807) : IntKind.i64.wrap n = n := IntWalk.i64_in n h
theorem wrap_u8_c {n : Int} (h : 0 ≤ n ∧ n ≤ 255) : IntKind.u8.wrap n = n := IntWalk.u8_in n h
theorem wrap_i32_c {n : Int} (h : -2147483648 ≤ n ∧ n ≤ 2147483647) : IntKind.i32.wrap n = n := IntWalk.i32_in n h
theorem wrap_u32_c {n : Int} (h : 0 ≤ n ∧ n ≤ 4294967295) : IntKind.u32.wrap n = n := IntWalk.u32_in n h
theorem wrap_u64_c {n : Int} (h : 0 ≤ n ∧ n ≤ 18446744073709551615) : IntKind.u64.wrap n = n := IntWalk.u64_in n h
theorem wrap_u64_eq (n : Int) : IntKind.u64.wrap n = n % 18446744073709551616 := by unfold IntKind.wrap; simp [IntKind.bits, IntKind.signed]
theorem wrap_u64_rng (n : Int) : 0 ≤ IntKind.u64.wrap n ∧ IntKind.u64.wrap n ≤ 18446744073709551615 := by rw [wrap_u64_eq]; omega
theorem int_beq {a b : Int} : (a == b) = decide (a = b) := rfl
theorem int_bne {a b : Int} : (a != b) = !decide (a = b) := rfl
theorem idx_ok {a b : Int} {α : Type} {x y : α} (h : 0 ≤ a ∧ a < b) : (if 0 ≤ a ∧ a < b then x else y) = x := if_pos h

class EncC {α : Type} (enc : α → List MV) (n : outParam Nat) : Prop where
  h : ∀ a, (enc a).length = n
theorem rows_get {α : Type} {enc : α → List MV} {n : Nat} [c : EncC enc n] {l : List α} {i j : Nat} (hj : j < n) : (rows enc l)[i * n + j]? = (l[i]?).bind fun a => (enc a)[j]? := by
  cases h : l[i]? with
  | some a => exact rows_at c.h h hj
  | none =>
    have hl : l.length ≤ i := List.getElem?_eq_none_iff.1 h
    rw [List.getElem?_eq_none (by rw [rows_len c.h]; have := Nat.mul_le_mul_right n hl; omega)]; rfl
theorem rows_get0 {α : Type} {enc : α → List MV} {n : Nat} [c : EncC enc n] {l : List α} {i : Nat} (hj : 0 < n) : (rows enc l)[i * n]? = (l[i]?).bind fun a => (enc a)[0]? := rows_get hj
theorem rows_get1 {α : Type} {enc : α → List MV} [c : EncC enc 1] {l : List α} {i : Nat} : (rows enc l)[i]? = (l[i]?).bind fun a => (enc a)[0]? := by
  have := rows_get (enc := enc) (l := l) (i := i) (j := 0) (by decide)
  simpa using this
theorem rows_length {α : Type} {enc : α → List MV} {n : Nat} [c : EncC enc n] {l : List α} : (rows enc l).length = l.length * n := rows_len c.h l
theorem rows_one' {α : Type} {enc : α → List MV} {n : Nat} [c : EncC enc n] {l : List α} {i : Nat} (hi : i < l.length) : ((rows enc l).drop (i * n)).take n = enc l[i] := rows_one c.h (List.getElem?_eq_getElem hi)
theorem get_lt {α : Type} {l : List α} {i : Nat} (h : i < l.length) : l[i]? = some l[i] := List.getElem?_eq_getElem h

theorem ext_lo {s : MSt} {l : List MObj} {n : Nat} (h : n < s.h.length) : (s.ext l).h[n]? = s.h[n]? := List.getElem?_append_left h
theorem ext_hi {s : MSt} {l : List MObj} {n : Nat} (h : s.h.length ≤ n) : (s.ext l).h[n]? = l[n - s.h.length]? := List.getElem?_append_right h
theorem ext_put_lo {s : MSt} {l : List MObj} {n : Nat} {o : MObj} (h : n < s.h.length) : (s.ext l).put n o = (s.put n o).ext l := ext_put_old s l n o h
theorem ext_put_hi {s : MSt} {l : List MObj} {n : Nat} {o : MObj} (h : s.h.length ≤ n) : (s.ext l).put n o = s.ext (l.set (n - s.h.length) o) := by
  obtain ⟨k, rfl⟩ : ∃ k, n = s.h.length + k := ⟨n - s.h.length, by omega⟩
  rw [ext_put, Nat.add_sub_cancel_left]
theorem put_pt {s : MSt} {n : Nat} {o o' : MObj} : (s.put n o).put n o' = s.put n o' := put_put s n o o'
theorem pushL_put {s : MSt} {n : Nat} {o : MObj} {L : MLoop} : (s.pushL L).put n o = (s.put n o).pushL L := rfl
theorem pushL_ext {s : MSt} {l : List MObj} {L : MLoop} : (s.pushL L).ext l = (s.ext l).pushL L := rfl
theorem get_app {α : Type} {J L : List α} {k : Nat} : (J ++ L)[J.length + k]? = L[k]? := by rw [List.getElem?_append_right (by omega)]; congr 1; omega
theorem get_app0 {α : Type} {J L : List α} : (J ++ L)[J.length]? = L[0]? := get_app (k := 0)
theorem set_app {α : Type} {J L : List α} {k : Nat} {x : α} : (J ++ L).set (J.length + k) x = J ++ L.set k x := by rw [List.set_append_right _ _ (by omega)]; congr 2; omega
theorem set_app0 {α : Type} {J L : List α} {x : α} : (J ++ L).set J.length x = J ++ L.set 0 x := set_app (k := 0)
theorem bool_ft {b : Bool} : (false == b) = !b := by cases b <;> rfl
theorem bool_tt {b : Bool} : (true == b) = b := by cases b <;> rfl
theorem bool_tf {b : Bool} : (b == false) = !b := by cases b <;> rfl
theorem bool_t2 {b : Bool} : (b == true) = b := by cases b <;> rfl
attribute [go_sem] bool_ft bool_tt bool_tf bool_t2 Bool.not_not get_app get_app0 set_app set_app0 List.append_assoc List.length_append
theorem if_pos_c {c : Prop} [Decidable c] {α : Type} {x y : α} (h : c) : (if c then x else y) = x := if_pos h
theorem if_neg_c {c : Prop} [Decidable c] {α : Type} {x y : α} (h : ¬ c) : (if c then x else y) = y := if_neg h
attribute [go_sem] if_pos_c if_neg_c
theorem cl_int (k : IntKind) (n : Int) : (MV.int k n).cells = [(MV.int k n)] := rfl
theorem fl_int (k : IntKind) (n : Int) : (MV.int k n).flat = true := rfl
theorem cl_bool (b : Bool) : (MV.bool b).cells = [(MV.bool b)] := rfl
theorem fl_bool (b : Bool) : (MV.bool b).flat = true := rfl
theorem cl_flt (k : FloatKind) (b : Nat) : (MV.flt k b).cells = [(MV.flt k b)] := rfl
theorem fl_flt (k : FloatKind) (b : Nat) : (MV.flt k b).flat = true := rfl
theorem cl_str (l : List UInt8) : (MV.str l).cells = [(MV.str l)] := rfl
theorem fl_str (l : List UInt8) : (MV.str l).flat = true := rfl
theorem cl_nilptr  : MV.nilptr.cells = [MV.nilptr] := rfl
theorem fl_nilptr  : MV.nilptr.flat = true := rfl
theorem cl_nilsl  : MV.nilsl.cells = [MV.nilsl] := rfl
theorem fl_nilsl  : MV.nilsl.flat = true := rfl
theorem cl_nilmap  : MV.nilmap.cells = [MV.nilmap] := rfl
theorem fl_nilmap  : MV.nilmap.flat = true := rfl
theorem cl_nilfunc  : MV.nilfunc.cells = [MV.nilfunc] := rfl
theorem fl_nilfunc  : MV.nilfunc.flat = true := rfl
theorem cl_niliface  : MV.niliface.cells = [MV.niliface] := rfl
theorem fl_niliface  : MV.niliface.flat = true := rfl
theorem cl_ptr (a b c : Nat) : (MV.ptr a b c).cells = [(MV.ptr a b c)] := rfl
theorem fl_ptr (a b c : Nat) : (MV.ptr a b c).flat = true := rfl
theorem cl_msl (a b c d e : Nat) (f : Option Nat) : (MV.msl a b c d e f).cells = [(MV.msl a b c d e f)] := rfl
theorem fl_msl (a b c d e : Nat) (f : Option Nat) : (MV.msl a b c d e f).flat = true := rfl
theorem cl_esl  : MV.esl.cells = [MV.esl] := rfl
theorem fl_esl  : MV.esl.flat = true := rfl
theorem cl_map (a : Nat) : (MV.map a).cells = [(MV.map a)] := rfl
theorem fl_map (a : Nat) : (MV.map a).flat = true := rfl
theorem cl_fptr (l : List MV) (o : Nat) : (MV.fptr l o).cells = [(MV.fptr l o)] := rfl
theorem fl_fptr (l : List MV) (o : Nat) : (MV.fptr l o).flat = MV.noY.noYs l := rfl
theorem cl_fsl (l : List MV) (n : Nat) (c : Option Nat) : (MV.fsl l n c).cells = [(MV.fsl l n c)] := rfl
theorem fl_fsl (l : List MV) (n : Nat) (c : Option Nat) : (MV.fsl l n c).flat = MV.noY.noYs l := rfl
theorem cl_func (f : Fn) (l m : List MV) : (MV.func f l m).cells = [(MV.func f l m)] := rfl
theorem fl_func (f : Fn) (l m : List MV) : (MV.func f l m).flat = (MV.noY.noYs l && MV.noY.noYs m) := rfl
theorem cl_iface (t : TypeId) (v : MV) : (MV.iface t v).cells = [(MV.iface t v)] := rfl
theorem fl_iface (t : TypeId) (v : MV) : (MV.iface t v).flat = v.noY := rfl
theorem cl_agg (l : List MV) : (MV.agg l).cells = l := rfl
attribute [go_sem] cl_int fl_int cl_bool fl_bool cl_flt fl_flt cl_str fl_str cl_nilptr fl_nilptr cl_nilsl fl_nilsl cl_nilmap fl_nilmap cl_nilfunc fl_nilfunc cl_niliface fl_niliface cl_ptr fl_ptr cl_msl fl_msl cl_esl fl_esl cl_map fl_map cl_fptr fl_fptr cl_fsl fl_fsl cl_func fl_func cl_iface fl_iface cl_agg
attribute [go_sem ↓] ev_tmp ev_int ev_bool ev_str ev_nilptr ev_nilsl ev_nilmap ev_nilfunc ev_niliface ev_agg ev_func evo_some evo_none evu evi evs_nil evs_cons evp_nil evp_cons evo_n evo_s
attribute [go_sem] List.getD_cons_zero List.getD_cons_succ Bool.false_eq_true ofVal1 List.map_cons List.map_nil und_c lay_c off_c sz_c by_c zc_c el_c ifc_c u8_c build_c buildS_c wrap_i64_c wrap_u8_c wrap_i32_c wrap_u32_c wrap_u64_c int_beq int_bne Int.tmod_eq_emod_of_nonneg idx_ok decide_true decide_false not_true_eq_false not_false_eq_true Bool.false_or Bool.or_true Bool.true_or Bool.or_false Bool.and_false Bool.false_and mbin mint mun mbyte meq misNil nilOf kindOf tkind MSt.isLive mload readAt madd mindexAddr mindex mfield mpart mbuiltin mlen lenOf_nil lenOf_esl lenOf_fsl lenOf_msl mnilCheck mfill MV.noY MV.noY.noYs splice1 splice_whole mstore mconv mslice mcut mbound capU malloc mnew mbox if_true if_false ite_true ite_false beq_self_eq_true Bool.and_self Bool.and_true Bool.true_and Bool.not_true Bool.not_false Option.map_some Option.map_none Option.bind_some Option.isSome Option.isNone List.length_cons List.length_nil List.getElem?_cons_zero List.getElem?_cons_succ List.all_cons List.all_nil List.set_cons_zero List.set_cons_succ List.drop_zero Nat.zero_add Nat.add_zero Nat.zero_mul Nat.mul_one Nat.one_mul and_self and_true true_and decide_eq_true_eq Int.toNat_natCast Int.zero_add Int.add_zero List.getElem?_toArray
attribute [go_sem] mmake put_other put_same put_len put_ls put_gl push_ext ext_ext List.cons_append List.nil_append ext_len ext_ls ext_gl ext_lo ext_hi ext_put_lo ext_put_hi put_pt pushL_h pushL_gl pushL_put pushL_ext Nat.add_sub_cancel_left Nat.add_sub_cancel Nat.sub_self List.getElem_cons_zero List.getElem_cons_succ rows_get rows_get0 rows_get1 rows_length rows_one'
attribute [go_sem low] get_lt
/-- What the steps are not to see. -/
structure Hid (p : Prop) : Prop where
  out : p
/-- An operand's value. -/
theorem evE {a b : MV} (h : a = b := by simp only [go_sem, ↓reduceIte, Nat.reduceEqDiff, *] <;> rfl) : a = b := h
theorem evL {a b : List MV} (h : a = b := by simp only [go_sem, ↓reduceIte, Nat.reduceEqDiff, *] <;> rfl) : a = b := h
theorem evP {a b : List (Nat × MV)} (h : a = b := by simp only [go_sem, ↓reduceIte, Nat.reduceEqDiff, *] <;> rfl) : a = b := h
theorem evM {a b : Option MV} (h : a = b := by simp only [go_sem, ↓reduceIte, Nat.reduceEqDiff, *] <;> rfl) : a = b := h
/-- What an operation comes to. -/
theorem evO {α : Type} {a b : Option α} (h : a = b := by first | rfl | (simp (disch := first | assumption | omega | (simp only [put_len, ext_len, pushL_h, List.length_cons, List.length_nil]; omega) | (simp (disch := first | assumption | omega) only [ext_lo, ext_hi, put_same, put_other, put_len, ext_len, pushL_h, Nat.add_sub_cancel_left, Nat.sub_self, List.getElem?_cons_zero, List.getElem?_cons_succ, get_app, get_app0, *]; done) | rfl | decide) only [go_sem, Nat.reduceEqDiff, Nat.reduceAdd, Nat.reduceMul, Nat.reduceSub, Nat.reduceDiv, Nat.reduceMod, Nat.reduceLeDiff, Int.reduceAdd, Int.reduceMul, Int.reduceSub, Int.reduceNeg, Int.reduceEq, Int.reduceNe, Int.reduceLT, Int.reduceLE, Int.reduceGT, Int.reduceGE, Int.reduceToNat, reduceIte, reduceCtorEq, *] <;> rfl)) : a = b := h
theorem evS {α : Type} {a : Option α} {v : α} (h : a = some v := by simp (disch := first | assumption | omega | (simp only [put_len, ext_len, pushL_h, List.length_cons, List.length_nil]; omega) | (simp (disch := first | assumption | omega) only [ext_lo, ext_hi, put_same, put_other, put_len, ext_len, pushL_h, Nat.add_sub_cancel_left, Nat.sub_self, List.getElem?_cons_zero, List.getElem?_cons_succ, get_app, get_app0, *]; done) | rfl | decide) only [go_sem, Nat.reduceEqDiff, Nat.reduceAdd, Nat.reduceMul, Nat.reduceSub, Nat.reduceDiv, Nat.reduceMod, Nat.reduceLeDiff, Int.reduceAdd, Int.reduceMul, Int.reduceSub, Int.reduceNeg, Int.reduceEq, Int.reduceNe, Int.reduceLT, Int.reduceLE, Int.reduceGT, Int.reduceGE, Int.reduceToNat, reduceIte, reduceCtorEq, *] <;> rfl) : a = some v := h
theorem evH {a b : MSt} (h : a = b := by first | (simp (disch := first | assumption | omega | (simp only [put_len, ext_len, pushL_h, List.length_cons, List.length_nil]; omega) | (simp (disch := first | assumption | omega) only [ext_lo, ext_hi, put_same, put_other, put_len, ext_len, pushL_h, Nat.add_sub_cancel_left, Nat.sub_self, List.getElem?_cons_zero, List.getElem?_cons_succ, get_app, get_app0, *]; done) | rfl | decide) only [go_sem, Nat.reduceEqDiff, Nat.reduceAdd, Nat.reduceMul, Nat.reduceSub, Nat.reduceDiv, Nat.reduceMod, Nat.reduceLeDiff, Int.reduceAdd, Int.reduceMul, Int.reduceSub, Int.reduceNeg, Int.reduceEq, Int.reduceNe, Int.reduceLT, Int.reduceLE, Int.reduceGT, Int.reduceGE, Int.reduceToNat, reduceIte, reduceCtorEq, *]; rfl) | rfl) : a = b := h
/-- A test that is decided. -/
theorem evT {v : MV} (h : v = .bool true := by first | rfl | (refine congrArg MV.bool ?_; first | assumption | (simp (disch := omega) only [decide_eq_true_eq, Bool.not_eq_true', decide_eq_false_iff_not, Bool.and_eq_true, Bool.or_eq_true, *]; done) | (simp only [decide_eq_true_eq, Bool.not_eq_true', decide_eq_false_iff_not, Bool.and_eq_true, Bool.or_eq_true]; omega))) : v = .bool true := h
theorem evF {v : MV} (h : v = .bool false := by first | rfl | (refine congrArg MV.bool ?_; first | assumption | (simp (disch := omega) only [decide_eq_false_iff_not, Bool.not_eq_false', decide_eq_true_eq, Bool.and_eq_false_iff, Bool.or_eq_false_iff, *]; done) | (simp only [decide_eq_false_iff_not, Bool.not_eq_false', decide_eq_true_eq, Bool.and_eq_false_iff, Bool.or_eq_false_iff]; omega))) : v = .bool false := h
theorem evB {v : MV} {w b : Bool} (h : v = .bool w ∧ w = b := by first | exact ⟨evT, rfl⟩ | exact ⟨evF, rfl⟩) : v = .bool w ∧ w = b := h
theorem evU {v : MV} (h : v = .tuple [] := by rfl) : v = .tuple [] := h

section
variable {P : Program} {s : MSt} {env : Nat → MV} {K : MV → MSt → Prop}
theorem op_load {t : TypeId} {x : Operand} {a v : MV} {ag : Bool} {n : Nat} [LayC P t ag n] (h : K v s) (hx : mev s env x = a := by exact evE) (hv : mload s ag n a = some v := by exact evS) : MOper P (.load t x) env s K := oper_load lay_c hx hv h
theorem op_store {t : TypeId} {x y : Operand} {a b : MV} {ag : Bool} {n : Nat} {s' : MSt} [LayC P t ag n] (h : K .undef s') (hx : mev s env x = a := by exact evE) (hy : mev s env y = b := by exact evE) (hv : mstore s n a b = some s' := by exact evS) : MOper P (.store t x y) env s K := oper_store lay_c hx hy hv h
theorem op_fieldAddr {t : TypeId} {f : Nat} {x : Operand} {a v : MV} {o n : Nat} {ag : Bool} [OffC P t f o ag n] (h : K v s) (hx : mev s env x = a := by exact evE) (hv : madd s a o = some v := by exact evS) : MOper P (.fieldAddr t x f) env s K := oper_fieldAddr off_c hx hv h
theorem op_pickT {c a b : Operand} {u v : MV} (hc : mev s env c = u) (hu : u = .bool true) (ha : mev s env a = v) (h : K v s) : MOper P (.pick c a b) env s K := oper_pick (hc.trans hu) ha rfl (if_pos rfl) h
theorem op_pickF {c a b : Operand} {u v : MV} (hc : mev s env c = u) (hu : u = .bool false) (hb : mev s env b = v) (h : K v s) : MOper P (.pick c a b) env s K := oper_pick (hc.trans hu) rfl hb (if_neg Bool.false_ne_true) h
theorem op_pickOr {c a b : Operand} {x y : Bool} (hc : mev s env c = .bool x) (ha : mev s env a = .bool true) (hb : mev s env b = .bool y) (h : K (.bool (x || y)) s) : MOper P (.pick c a b) env s K := oper_pick hc ha hb (by cases x <;> rfl) h
theorem op_pickAnd {c a b : Operand} {x y : Bool} (hc : mev s env c = .bool x) (ha : mev s env a = .bool y) (hb : mev s env b = .bool false) (h : K (.bool (x && y)) s) : MOper P (.pick c a b) env s K := oper_pick hc ha hb (by cases x <;> rfl) h
theorem op_iface {t : TypeId} {x : Operand} {a : MV} [IfcC P t false] (h : K (.iface t a) s) (hx : mev s env x = a := by exact evE) : MOper P (.makeInterface t x) env s K := oper_iface ifc_c hx h
end

/-- What is left to show, out of sight of the steps. -/
structure Left (q : Prop) : Prop where
  out : q

theorem evI {a b : MV} {t : Bool} {v : MV} (h : (if t = true then a else b) = v := by first | exact if_pos rfl | exact if_neg Bool.false_ne_true | (simp only [if_true, if_false, Bool.false_eq_true, *] <;> rfl)) : (if t = true then a else b) = v := h
section
variable {P : Program} {env : Nat → MV} {s : MSt} {K : (Nat → MV) → MSt → Prop} {d : Option Nat} {o : Op} {os : List POp}
theorem step_if2 {t : Nat} {w b : Bool} {v : MV} {u : Bool} (hw : env t = v) (hv : v = .bool w ∧ w = u) (hb : (u == b) = true) (h : MOper P o env s fun v s' => mops P K os (updo env d v) s') : mops P K (⟨d, o, some (some t, b)⟩ :: os) env s := step_if hw hv.1 (by rw [hv.2]; exact hb) h
theorem step_not2 {t : Nat} {w b : Bool} {v : MV} {u : Bool} (hw : env t = v) (hv : v = .bool w ∧ w = u) (hb : (u == b) = false) (h : mops P K os (updo env d .undef) s) : mops P K (⟨d, o, some (some t, b)⟩ :: os) env s := step_not hw hv.1 (by rw [hv.2]; exact hb) h
end

section
variable {P : Program} {N : Nat} {rd : Option Nat} {Q : Exit → (Nat → MV) → MSt → Prop} {env : Nat → MV} {s : MSt} {K : (Nat → MV) → MSt → Prop} {d : Option Nat} {o : Op} {os : List POp} {ob l : List POp} {od : List DP}
/-- Both ways of a test. -/
theorem mcondP {c : Operand} {x y : Code} {p : Prop} [Decidable p] (hc : mev s env c = .bool (decide p)) (ht : p → MCode P N rd x Q env s) (hf : ¬ p → MCode P N rd y Q env s) : MCode P N rd (.cond c x y) Q env s :=
  mcond hc (fun h => ht (of_decide_eq_true h)) (fun h => hf (of_decide_eq_false h))
theorem mcondN {c : Operand} {x y : Code} {p : Prop} [Decidable p] (hc : mev s env c = .bool (!decide p)) (ht : ¬ p → MCode P N rd x Q env s) (hf : p → MCode P N rd y Q env s) : MCode P N rd (.cond c x y) Q env s :=
  mcond hc (fun h => ht (of_decide_eq_false (by simpa using h))) (fun h => hf (of_decide_eq_true (by simpa using h)))
theorem mcondB {c : Operand} {x y : Code} {b : Bool} (hc : mev s env c = .bool (!b)) (ht : b = false → MCode P N rd x Q env s) (hf : b = true → MCode P N rd y Q env s) : MCode P N rd (.cond c x y) Q env s :=
  mcond hc (fun h => ht (by simpa using h)) (fun h => hf (by simpa using h))
theorem step_sp {t : Nat} {p : Prop} [Decidable p] {b : Bool} (hw : env t = .bool (decide p)) (ht : p → mops P K (⟨d, o, some (some t, b)⟩ :: os) env s) (hf : ¬ p → mops P K (⟨d, o, some (some t, b)⟩ :: os) env s) : mops P K (⟨d, o, some (some t, b)⟩ :: os) env s :=
  if h : p then ht h else hf h
theorem step_sn {t : Nat} {p : Prop} [Decidable p] {b : Bool} (hw : env t = .bool (!decide p)) (ht : p → mops P K (⟨d, o, some (some t, b)⟩ :: os) env s) (hf : ¬ p → mops P K (⟨d, o, some (some t, b)⟩ :: os) env s) : mops P K (⟨d, o, some (some t, b)⟩ :: os) env s :=
  if h : p then ht h else hf h
theorem step_sb {t : Nat} {w b : Bool} (hw : env t = .bool w) (ht : w = true → mops P K (⟨d, o, some (some t, b)⟩ :: os) env s) (hf : w = false → mops P K (⟨d, o, some (some t, b)⟩ :: os) env s) : mops P K (⟨d, o, some (some t, b)⟩ :: os) env s := by
  cases w
  · exact hf rfl
  · exact ht rfl
theorem step_snb {t : Nat} {w b : Bool} (hw : env t = .bool (!w)) (ht : w = true → mops P K (⟨d, o, some (some t, b)⟩ :: os) env s) (hf : w = false → mops P K (⟨d, o, some (some t, b)⟩ :: os) env s) : mops P K (⟨d, o, some (some t, b)⟩ :: os) env s := by
  cases w
  · exact hf rfl
  · exact ht rfl
theorem stepD_sp {t : Nat} {p : Prop} [Decidable p] {b w : Bool} (hw : env t = .bool (decide p)) (ht : p → mopsD P K (⟨⟨d, o, some (some t, b)⟩, w, ob⟩ :: od) env s) (hf : ¬ p → mopsD P K (⟨⟨d, o, some (some t, b)⟩, w, ob⟩ :: od) env s) : mopsD P K (⟨⟨d, o, some (some t, b)⟩, w, ob⟩ :: od) env s :=
  if h : p then ht h else hf h
theorem stepD_sn {t : Nat} {p : Prop} [Decidable p] {b w : Bool} (hw : env t = .bool (!decide p)) (ht : p → mopsD P K (⟨⟨d, o, some (some t, b)⟩, w, ob⟩ :: od) env s) (hf : ¬ p → mopsD P K (⟨⟨d, o, some (some t, b)⟩, w, ob⟩ :: od) env s) : mopsD P K (⟨⟨d, o, some (some t, b)⟩, w, ob⟩ :: od) env s :=
  if h : p then ht h else hf h
theorem stepD_sb {t : Nat} {x b w : Bool} (hw : env t = .bool x) (ht : x = true → mopsD P K (⟨⟨d, o, some (some t, b)⟩, w, ob⟩ :: od) env s) (hf : x = false → mopsD P K (⟨⟨d, o, some (some t, b)⟩, w, ob⟩ :: od) env s) : mopsD P K (⟨⟨d, o, some (some t, b)⟩, w, ob⟩ :: od) env s := by
  cases x
  · exact hf rfl
  · exact ht rfl
theorem stepD_snb {t : Nat} {x b w : Bool} (hw : env t = .bool (!x)) (ht : x = true → mopsD P K (⟨⟨d, o, some (some t, b)⟩, w, ob⟩ :: od) env s) (hf : x = false → mopsD P K (⟨⟨d, o, some (some t, b)⟩, w, ob⟩ :: od) env s) : mopsD P K (⟨⟨d, o, some (some t, b)⟩, w, ob⟩ :: od) env s := by
  cases x
  · exact hf rfl
  · exact ht rfl
/-! Regions that draw their order. -/
theorem moper_inv {s : MSt} {K : MV → MSt → Prop} (hc : isCallV o = false) (h : MOper P o env s K) : ∃ v s', K v s' ∧ ∀ K' : MV → MSt → Prop, K' v s' → MOper P o env s K' := by
  have simple : ∀ {o' : Op} (_ : o = o') (_ : ∀ K' : MV → MSt → Prop, MOper P o' env s K' = (match mop P o' (mev s env) s with | some (v, s') => K' v s' | none => False)), ∃ v s', K v s' ∧ ∀ K' : MV → MSt → Prop, K' v s' → MOper P o env s K' := by
    rintro o' rfl key
    rw [key] at h
    split at h
    · rename_i v s' he
      exact ⟨v, s', h, fun K' hk => by rw [key, he]; exact hk⟩
    · exact h.elim
  cases o with
  | call c =>
    cases hcc : c.callee with
    | value f => simp [isCallV, hcc] at hc
    | _ =>
      simp only [MOper, hcc] at h ⊢
      rcases h with h | ⟨hcal, β, t, xt, x, y, v, s', ht, hxt, hxy, hg, hk⟩
      · split at h
        · rename_i v s' he
          exact ⟨v, s', h, fun K' hk => .inl hk⟩
        · exact h.elim
      · exact ⟨v, s', hk, fun K' hk => .inr ⟨hcal, β, t, xt, x, y, v, s', ht, hxt, hxy, hg, hk⟩⟩
  | _ => exact simple rfl fun _ => rfl
theorem stepD_v (hc : isCallV o = false) (h : MOper P o env s fun v s' => s' = s ∧ mopsD P K od (updo env d v) s') : mopsD P K (⟨⟨d, o, none⟩, false, ob⟩ :: od) env s := by
  obtain ⟨v, s', ⟨rfl, h1⟩, h2⟩ := moper_inv hc h
  exact mopsD_c (h2 _ ⟨rfl, rfl⟩) h1
theorem stepD_vi {t : Nat} {w b : Bool} {v : MV} {u : Bool} (hc : isCallV o = false) (hw : env t = v) (hv : v = .bool w ∧ w = u) (hb : (u == b) = true) (h : MOper P o env s fun v s' => s' = s ∧ mopsD P K od (updo env d v) s') : mopsD P K (⟨⟨d, o, some (some t, b)⟩, false, ob⟩ :: od) env s := by
  obtain ⟨v, s', ⟨rfl, h1⟩, h2⟩ := moper_inv hc h
  exact stepD_if hw hv.1 (by rw [hv.2]; exact hb) (h2 _ ⟨rfl, rfl⟩) h1
theorem stepD_no {t : Nat} {w b wr : Bool} {v : MV} {u : Bool} (hw : env t = v) (hv : v = .bool w ∧ w = u) (hb : (u == b) = false) (h : mopsD P K od (updo env d .undef) s) : mopsD P K (⟨⟨d, o, some (some t, b)⟩, wr, ob⟩ :: od) env s := stepD_not hw hv.1 (by rw [hv.2]; exact hb) h
theorem stepD_un {t : Nat} {b wr : Bool} {v : MV} (hw : env t = v) (hv : v = .tuple []) (h : mopsD P K od (updo env d .undef) s) : mopsD P K (⟨⟨d, o, some (some t, b)⟩, wr, ob⟩ :: od) env s := stepD_undef hw hv h
theorem stepD_wi2 {t : Nat} {w b : Bool} {v : MV} {u : Bool} (hw : env t = v) (hv : v = .bool w ∧ w = u) (hb : (u == b) = true) (h : MOper P o env s fun v s' => Stays P env s' ob ∧ mopsD P K od (updo env d v) s') : mopsD P K (⟨⟨d, o, some (some t, b)⟩, true, ob⟩ :: od) env s := by
  obtain ⟨rfl, rfl⟩ := hv
  have hb' : mwant env (some (some t, b)) = some true := by simp only [mwant, hw, hb]
  have e : (fun (v : MV) (s' : MSt) => (∀ q ∈ ob, Stay P env s' q) ∧ mopsD P K od (updo env d v) s') = fun v s' => Stays P env s' ob ∧ mopsD P K od (updo env d v) s' := by
    funext v s'
    exact propext ⟨fun h => ⟨stays_of h.1, h.2⟩, fun h => ⟨stays_all h.1, h.2⟩⟩
  simp only [mopsD, hb', e]
  exact h
/-- A call that leaves the store. -/
theorem stepD_c {n : FuncId} {a : List Operand} {ts : Array TypeId} {as : List MV} {v : MV} (hx : mevs s env a = as) (h : MCalls P n as s fun r s' => r = v ∧ s' = s) (hk : mopsD P K od (updo env d v) s) :
    mopsD P K (⟨⟨d, .call ⟨.value (.func n), ⟨a⟩, ts⟩, none⟩, false, ob⟩ :: od) env s := mopsD_c (oper_call hx h) hk
theorem stepD_ci {n : FuncId} {a : List Operand} {ts : Array TypeId} {as : List MV} {v u : MV} {t : Nat} {w b w' : Bool} (hw : env t = u) (hu : u = .bool w ∧ w = w') (hb : (w' == b) = true) (hx : mevs s env a = as) (h : MCalls P n as s fun r s' => r = v ∧ s' = s) (hk : mopsD P K od (updo env d v) s) :
    mopsD P K (⟨⟨d, .call ⟨.value (.func n), ⟨a⟩, ts⟩, some (some t, b)⟩, false, ob⟩ :: od) env s := stepD_if hw hu.1 (by rw [hu.2]; exact hb) (oper_call hx h) hk
theorem stays_v {t : Nat} {v : MV} (hc : isCallV o = false) (he : env t = v) (h : MOper P o env s fun r s' => (r = v ∧ s' = s) ∧ Stays P env s l) : Stays P env s (⟨some t, o, none⟩ :: l) := by
  obtain ⟨r, s', ⟨⟨rfl, rfl⟩, h1⟩, h2⟩ := moper_inv hc h
  exact stays_cons he (h2 _ ⟨rfl, rfl⟩) h1
theorem stays_c {n : FuncId} {a : List Operand} {ts : Array TypeId} {as : List MV} {t : Nat} {v : MV} (he : env t = v) (hx : mevs s env a = as) (h : MCalls P n as s fun r s' => r = v ∧ s' = s) (hl : Stays P env s l) : Stays P env s (⟨some t, .call ⟨.value (.func n), ⟨a⟩, ts⟩, none⟩ :: l) :=
  stays_cons he (oper_call hx h) hl
theorem stays_vi {t t' : Nat} {w b w' : Bool} {v u : MV} (hc : isCallV o = false) (hw : env t' = u) (hu : u = .bool w ∧ w = w') (hb : (w' == b) = true) (he : env t = v) (h : MOper P o env s fun r s' => (r = v ∧ s' = s) ∧ Stays P env s l) : Stays P env s (⟨some t, o, some (some t', b)⟩ :: l) := by
  obtain ⟨r, s', ⟨⟨rfl, rfl⟩, h1⟩, h2⟩ := moper_inv hc h
  exact stays_if hw hu.1 (by rw [hu.2]; exact hb) he (h2 _ ⟨rfl, rfl⟩) h1
theorem stays_no {t t' : Nat} {w b w' : Bool} {u : MV} (hw : env t' = u) (hu : u = .bool w ∧ w = w') (hb : (w' == b) = false) (he : env t = .undef) (hl : Stays P env s l) : Stays P env s (⟨some t, o, some (some t', b)⟩ :: l) := stays_not hw hu.1 (by rw [hu.2]; exact hb) he hl
theorem staysN {R : Prop} (h : R) : Stays P env s [] ∧ R := ⟨stays_nil, h⟩
theorem staysV {t : Nat} {v : MV} {R : Prop} (hc : isCallV o = false) (he : env t = v) (h : MOper P o env s fun r s' => (r = v ∧ s' = s) ∧ Stays P env s l ∧ R) : Stays P env s (⟨some t, o, none⟩ :: l) ∧ R := by
  obtain ⟨r, s', ⟨⟨rfl, rfl⟩, h1, h3⟩, h2⟩ := moper_inv hc h
  exact ⟨stays_cons he (h2 _ ⟨rfl, rfl⟩) h1, h3⟩
theorem staysC {n : FuncId} {a : List Operand} {ts : Array TypeId} {as : List MV} {t : Nat} {v : MV} {R : Prop} (he : env t = v) (hx : mevs s env a = as) (h : MCalls P n as s fun r s' => r = v ∧ s' = s) (hl : Stays P env s l ∧ R) : Stays P env s (⟨some t, .call ⟨.value (.func n), ⟨a⟩, ts⟩, none⟩ :: l) ∧ R :=
  ⟨stays_cons he (oper_call hx h) hl.1, hl.2⟩
theorem staysVi {t t' : Nat} {w b w' : Bool} {v u : MV} {R : Prop} (hc : isCallV o = false) (hw : env t' = u) (hu : u = .bool w ∧ w = w') (hb : (w' == b) = true) (he : env t = v) (h : MOper P o env s fun r s' => (r = v ∧ s' = s) ∧ Stays P env s l ∧ R) : Stays P env s (⟨some t, o, some (some t', b)⟩ :: l) ∧ R := by
  obtain ⟨r, s', ⟨⟨rfl, rfl⟩, h1, h3⟩, h2⟩ := moper_inv hc h
  exact ⟨stays_if hw hu.1 (by rw [hu.2]; exact hb) he (h2 _ ⟨rfl, rfl⟩) h1, h3⟩
theorem staysNo {t t' : Nat} {w b w' : Bool} {u : MV} {R : Prop} (hw : env t' = u) (hu : u = .bool w ∧ w = w') (hb : (w' == b) = false) (he : env t = .undef) (hl : Stays P env s l ∧ R) : Stays P env s (⟨some t, o, some (some t', b)⟩ :: l) ∧ R := ⟨stays_not hw hu.1 (by rw [hu.2]; exact hb) he hl.1, hl.2⟩
theorem and_s {q : Prop} (h : q) : s = s ∧ q := ⟨rfl, h⟩
theorem and_v {v : MV} {q : Prop} (h : q) : (v = v ∧ s = s) ∧ q := ⟨⟨rfl, rfl⟩, h⟩
theorem mregionX {id : Nat} {ops : Array Oper} [m : MixC P] (am : List Nat) (ord : List DOp) (hc : okDraw ops am ord = true)
    (h : mopsD P (fun env s => Q .normal env s) (prepE ops.toList ord) env s) : MCode P N rd (.region id ops true) Q env s := mregionE m.h am ord hc h
end

/-! ### Rows that are put together -/
class FlatC {α : Type} (enc : α → List MV) : Prop where
  h : ∀ a, (enc a).all MV.flat = true
class DecC {α : Type} (enc : α → List MV) (cs : List MV) (a : outParam α) : Prop where
  h : enc a = cs
/-- A row that is put together, from v0, at the number β. -/
def accV {α : Type} (_enc : α → List MV) (v0 : MV) (β sz : Nat) (T : List α) : MV := if T.length = 0 then v0 else .msl β T.length sz 0 T.length none
def accO {α : Type} (enc : α → List MV) (T : List α) : MObj := if T.length = 0 then .ghost else .blk T.length (rows enc T)
/-- The row as it is told. -/
def fsV {α : Type} (enc : α → List MV) (v0 : MV) (T : List α) : MV := if T.length = 0 then v0 else .fsl (rows enc T) T.length none
class Acc0 (v0 : MV) : Prop where
  h : v0 = .nilsl ∨ v0 = .fsl [] 0 (some 0)
instance : Acc0 .nilsl := ⟨.inl rfl⟩
instance : Acc0 (.fsl [] 0 (some 0)) := ⟨.inr rfl⟩
theorem accV_nil {α : Type} {enc : α → List MV} {v0 : MV} {β sz : Nat} : accV enc v0 β sz [] = v0 := rfl
theorem acc_len {α : Type} {enc : α → List MV} {v0 : MV} {β sz : Nat} {T : List α} {s : MSt} [c : Acc0 v0] (h : s.h[β]? = some (accO enc T)) : mlenOf s (accV enc v0 β sz T) = some T.length := by
  unfold accV accO at *
  split
  · rename_i e
    rcases c.h with rfl | rfl <;> simp [mlenOf, e]
  · rename_i e
    rw [if_neg e] at h
    simp [mlenOf, live_blk h]
theorem acc_cells {α : Type} {enc : α → List MV} {v0 : MV} {β sz : Nat} {T : List α} {s : MSt} [c : Acc0 v0] [d : EncC enc sz] (h : s.h[β]? = some (accO enc T)) : mcellsOf s sz T.length (accV enc v0 β sz T) = some (rows enc T) := by
  unfold accV accO at *
  split
  · rename_i e
    have : T = [] := List.length_eq_zero_iff.1 e
    subst this
    rcases c.h with rfl | rfl <;> simp [mcellsOf, rows]
  · rename_i e
    rw [if_neg e] at h
    have hl := rows_len d.h T
    simp only [mcellsOf, h]
    rw [if_pos ⟨trivial, by omega⟩]
    simp [← hl]
theorem acc_blk {α : Type} {enc : α → List MV} {T : List α} (h : 0 < T.length) : accO enc T = .blk T.length (rows enc T) := if_neg (by omega)
theorem acc_msl {α : Type} {enc : α → List MV} {v0 : MV} {β sz : Nat} {T : List α} (h : 0 < T.length) : accV enc v0 β sz T = .msl β T.length sz 0 T.length none := if_neg (by omega)
theorem acc_index {α : Type} {enc : α → List MV} {v0 : MV} {β sz : Nat} {T : List α} {s : MSt} {P : Program} {t : TypeId} {ag : Bool} {k : IntKind} {i : Int} [ElC P t none ag sz] (h : s.h[β]? = some (accO enc T)) (hi : 0 ≤ i ∧ i < T.length) :
    mindexAddr P s t (accV enc v0 β sz T) (.int k i) = some (.ptr β T.length (i.toNat * sz)) := by
  have hl : 0 < T.length := by omega
  rw [acc_blk hl] at h
  rw [acc_msl hl]
  simp only [mindexAddr, el_c, live_blk h]
  rw [if_pos ⟨hi.1, hi.2, trivial⟩, Nat.zero_add]
theorem acc_load {α : Type} {enc : α → List MV} {T : List α} {s : MSt} {β off n : Nat} (h : s.h[β]? = some (accO enc T)) (hl : 0 < T.length) : mload s false n (.ptr β T.length off) = (rows enc T)[off]? := by
  rw [acc_blk hl] at h; exact load_cell h
theorem acc_loada {α : Type} {enc : α → List MV} {T : List α} {s : MSt} {β off n : Nat} (h : s.h[β]? = some (accO enc T)) (hl : 0 < T.length) : mload s true n (.ptr β T.length off) = if off + n ≤ (rows enc T).length then some (.agg (((rows enc T).drop off).take n)) else none := by
  rw [acc_blk hl] at h; exact load_agg h
/-- What is appended. -/
class SrcC {α : Type} (enc : α → List MV) (sz : Nat) (v : MV) (X : outParam (List α)) : Prop where
  h : ∀ s, msrc s sz v = some (X.length, rows enc X)
instance {α : Type} {enc : α → List MV} {sz : Nat} {cs : List MV} {a : α} [e : EncC enc sz] [d : DecC enc cs a] : SrcC enc sz (.fsl cs 1 (some 1)) [a] := ⟨fun s => by rw [← d.h]; exact msrc_one a (e.h a)⟩
instance {α : Type} {enc : α → List MV} {sz : Nat} {X : List α} {cap : Option Nat} [e : EncC enc sz] : SrcC enc sz (.fsl (rows enc X) X.length cap) X := ⟨fun s => by
  have hl := rows_len e.h X
  simp [msrc, mlenOf, mcellsOf, ← hl]⟩
instance {α : Type} {enc : α → List MV} {sz : Nat} {X : List α} [e : EncC enc sz] : SrcC enc sz (fsV enc .nilsl X) X := ⟨fun s => by
  unfold fsV
  split
  · rename_i e
    have : X = [] := List.length_eq_zero_iff.1 e
    subst this
    simp [msrc, mlenOf, mcellsOf, rows]
  · have hl := rows_len e.h X
    simp [msrc, mlenOf, mcellsOf, ← hl]⟩
theorem acc_grow {α : Type} {P : Program} {enc : α → List MV} {v0 : MV} {β sz t xt e b : Nat} {dx : TypeDesc} {z : List MV} {T X : List α} {s : MSt} {y : MV} [hu : Und P t (.slice e)] [hux : Und P xt dx] [h1 : SzC P e sz] [h2 : ByC P e b] [h3 : ZcC P e z] [he : EncC enc sz] [hf : FlatC enc] [h0 : Acc0 v0]
    (hdx : ∀ k, dx ≠ .int k) (hz : z.length = sz) (hb : 0 < b) (hy : msrc s sz y = some (X.length, rows enc X)) (hβ : s.h[β]? = some (accO enc T)) (hbig : (2 * (T.length + X.length) + 192) * b ≤ 281474976710656) {K : MV → MSt → Prop}
    (h : K (accV enc v0 β sz (T ++ X)) (s.put β (accO enc (T ++ X)))) : (∃ v s', mappend P s t xt (accV enc v0 β sz T) y = some (v, s') ∧ K v s') ∨ ∃ v s', mgrow P s β t xt (accV enc v0 β sz T) y = some (v, s') ∧ K v s' := by
  have hX : (rows enc X).all MV.flat = true := all_flat_rows hf.h X
  have hT : (rows enc T).all MV.flat = true := all_flat_rows hf.h T
  have hlt := (List.getElem?_eq_some_iff.1 hβ).1
  have hlT := rows_len he.h T
  by_cases hX0 : X.length = 0
  · have : X = [] := List.length_eq_zero_iff.1 hX0
    subst this
    left
    refine ⟨accV enc v0 β sz T, s, ?_, ?_⟩
    · unfold mappend
      rw [hu.h, hux.h]
      cases dx with
      | int k => exact absurd rfl (hdx k)
      | _ => simp [h1.h, h2.h, h3.h, hy, acc_len hβ]
    · have : s.put β (accO enc T) = s := by
        obtain ⟨hh, ll, gg⟩ := s
        simp only [MSt.put] at *
        congr 1
        apply List.ext_getElem?
        intro i
        rw [List.getElem?_set]
        split
        · rename_i e; subst e; rw [hβ]
        · rfl
      simpa [this] using h
  · by_cases hT0 : T.length = 0
    · have : T = [] := List.length_eq_zero_iff.1 hT0
      subst this
      right
      have hv : accV enc v0 β sz ([] : List α) = v0 := rfl
      have hg : s.h[β]? = some .ghost := hβ
      have hc : mlenOf s v0 = some 0 ∧ mcapOf v0 = some 0 ∧ mcellsOf s sz 0 v0 = some [] := by
        rcases h0.h with rfl | rfl <;> simp [mlenOf, mcapOf, mcellsOf]
      refine ⟨_, _, ?_, h⟩
      unfold mgrow
      rw [hu.h, hux.h, hg, hv]
      cases dx with
      | int k => exact absurd rfl (hdx k)
      | _ =>
        simp only [h1.h, h2.h, h3.h, hy, hc.1, hc.2.1, hc.2.2]
        rw [if_pos ⟨hX0, by omega, by simpa using hbig, hb, hz, hX, rfl⟩]
        simp only [List.nil_append, Nat.zero_add]
        rw [acc_msl (by omega), acc_blk (by omega)]
    · left
      have hβ' := hβ
      rw [acc_blk (by omega)] at hβ'
      refine ⟨_, _, ?_, h⟩
      unfold mappend
      rw [hu.h, hux.h]
      cases dx with
      | int k => exact absurd rfl (hdx k)
      | _ =>
        simp only [h1.h, h2.h, h3.h, hy, acc_len hβ]
        rw [if_neg hX0, if_pos ⟨hbig, hb, hz, hX⟩, acc_msl (by omega)]
        simp only [hβ']
        rw [if_pos ⟨trivial, trivial, by omega⟩]
        have hns : nextSt T.length (T.length + X.length) = T.length + X.length := by unfold nextSt; rw [if_pos (by omega)]
        rw [hns, acc_msl (by simp; omega), acc_blk (by simp; omega), rows_append, List.length_append, List.drop_zero, List.take_of_length_le (by omega)]
theorem oper_acc {α : Type} {P : Program} {enc : α → List MV} {v0 : MV} {β sz t xt e b : Nat} {dx : TypeDesc} {z : List MV} {T X : List α} {s : MSt} {env : Nat → MV} {x y : Operand} {v : MV} {K : MV → MSt → Prop} [hu : Und P t (.slice e)] [hux : Und P xt dx] [h1 : SzC P e sz] [h2 : ByC P e b] [h3 : ZcC P e z] [he : EncC enc sz] [hf : FlatC enc] [h0 : Acc0 v0]
    (hx : mev s env x = accV enc v0 β sz T) (hy : mev s env y = v) (hv : msrc s sz v = some (X.length, rows enc X)) {s' : MSt} (hβ : s.h[β]? = some (accO enc T)) (hs : s.put β (accO enc (T ++ X)) = s') (h : K (accV enc v0 β sz (T ++ X)) s')
    (hbig : (2 * (T.length + X.length) + 192) * b ≤ 281474976710656 := by first | (simp only [List.length_cons, List.length_nil]; omega) | omega) (hdx : ∀ k, dx ≠ .int k := by intro k h; cases h) (hz : z.length = sz := by rfl) (hb : 0 < b := by decide) :
    MOper P (.call ⟨.builtin .append, ⟨[x, y]⟩, ⟨[t, xt]⟩⟩) env s K := by
  rcases acc_grow (P := P) (t := t) (xt := xt) (v0 := v0) (s := s) hdx hz hb hv hβ hbig (K := K) (hs ▸ h) with ⟨v', s', h1, h2⟩ | ⟨v', s', h1, h2⟩
  · refine oper_builtin (as := [accV enc v0 β sz T, v]) (by simp only [evs_cons, evs_nil, hx, hy]) ?_ h2
    simp only [mbuiltin]; exact h1
  · unfold MOper
    exact .inr ⟨rfl, β, t, xt, _, _, v', s', rfl, rfl, by simp only [List.map_cons, List.map_nil, hx, hy], h1, h2⟩
theorem rows_ny {α : Type} {enc : α → List MV} [d : FlatC enc] (T : List α) : MV.noY.noYs (rows enc T) = true := by
  have h : ∀ l : List MV, l.all MV.flat = true → MV.noY.noYs l = true := by
    intro l
    induction l with
    | nil => intro _; rfl
    | cons a l ih =>
      intro h
      simp only [List.all_cons, Bool.and_eq_true] at h
      simp only [MV.noY.noYs, Bool.and_eq_true]
      exact ⟨noY_of_flat h.1, ih h.2⟩
  exact h _ (all_flat_rows d.h T)
theorem acc_c1 {α : Type} {enc : α → List MV} {v0 : MV} {β sz : Nat} {T : List α} [c : Acc0 v0] : (accV enc v0 β sz T).cells = [accV enc v0 β sz T] := by
  unfold accV; split
  · rcases c.h with rfl | rfl <;> rfl
  · rfl
theorem acc_f1 {α : Type} {enc : α → List MV} {v0 : MV} {β sz : Nat} {T : List α} [c : Acc0 v0] : (accV enc v0 β sz T).flat = true := by
  unfold accV; split
  · rcases c.h with rfl | rfl <;> rfl
  · rfl
theorem fs_c1 {α : Type} {enc : α → List MV} {v0 : MV} {T : List α} [c : Acc0 v0] : (fsV enc v0 T).cells = [fsV enc v0 T] := by
  unfold fsV; split
  · rcases c.h with rfl | rfl <;> rfl
  · rfl
theorem fs_f1 {α : Type} {enc : α → List MV} {v0 : MV} {T : List α} [c : Acc0 v0] [d : FlatC enc] : (fsV enc v0 T).flat = true := by
  unfold fsV; split
  · rcases c.h with rfl | rfl <;> rfl
  · exact rows_ny T
attribute [go_sem high] rows_ny acc_c1 acc_f1 fs_c1 fs_f1
attribute [go_sem] acc_len acc_index acc_load acc_loada
theorem op_accIndex {α : Type} {enc : α → List MV} {v0 : MV} {β sz o : Nat} {T : List α} {s : MSt} {P : Program} {t : TypeId} {ag : Bool} {k : IntKind} {i : Int} {env : Nat → MV} {x y : Operand} {K : MV → MSt → Prop} [ElC P t none ag sz] (hx : mev s env x = accV enc v0 β sz T) (hy : mev s env y = .int k i) (hβ : s.h[β]? = some (accO enc T)) (h : K (.ptr β T.length o) s)
    (hi : 0 ≤ i ∧ i < T.length := by omega) (ho : i.toNat * sz = o := by first | (simp only [Int.toNat_natCast]; rfl) | rfl) : MOper P (.indexAddr t x y) env s K := by
  subst ho
  exact oper_indexAddr hx hy (acc_index hβ hi) h
theorem op_accLoad {α : Type} {enc : α → List MV} {T : List α} {s : MSt} {β off n : Nat} {ag : Bool} {P : Program} {t : TypeId} {env : Nat → MV} {x : Operand} {v : MV} {K : MV → MSt → Prop} [LayC P t ag n] (hx : mev s env x = .ptr β T.length off) (hβ : s.h[β]? = some (accO enc T))
    (hv : (if ag = true then (if off + n ≤ (rows enc T).length then some (.agg (((rows enc T).drop off).take n)) else none) else (rows enc T)[off]?) = some v) (h : K v s) (hl : 0 < T.length := by omega) : MOper P (.load t x) env s K := by
  refine oper_load lay_c hx ?_ h
  cases ag
  · rw [acc_load hβ hl]; simpa using hv
  · rw [acc_loada hβ hl]; simpa using hv
theorem op_accField {α : Type} {enc : α → List MV} {T : List α} {s : MSt} {β off o n f : Nat} {ag : Bool} {P : Program} {t : TypeId} {env : Nat → MV} {x : Operand} {K : MV → MSt → Prop} [OffC P t f o ag n] (hx : mev s env x = .ptr β T.length off) (hβ : s.h[β]? = some (accO enc T)) (h : K (.ptr β T.length (off + o)) s)
    (hl : 0 < T.length := by omega) : MOper P (.fieldAddr t x f) env s K := by
  refine oper_fieldAddr off_c hx ?_ h
  rw [acc_blk hl] at hβ
  simp only [madd, live_blk hβ, if_true]
theorem op_accStore {α : Type} {enc : α → List MV} {T T' : List α} {s s' : MSt} {β off : Nat} {P : Program} {t : TypeId} {env : Nat → MV} {x y : Operand} {v : MV} {K : MV → MSt → Prop} [LayC P t false 1] (hx : mev s env x = .ptr β T.length off) (hβ : s.h[β]? = some (accO enc T)) (hy : mev s env y = v)
    (hT : (rows enc T).set off v = rows enc T' ∧ T'.length = T.length) (hs : s.put β (accO enc T') = s') (hv : v.cells = [v] ∧ v.flat = true) (hoff : off + 1 ≤ (rows enc T).length) (h : K .undef s') (hl : 0 < T.length := by omega) : MOper P (.store t x y) env s K := by
  subst hs
  refine oper_store lay_c hx hy ?_ h
  rw [acc_blk hl] at hβ
  rw [mstore_at hβ hoff hv, hT.1, acc_blk (by omega), hT.2]
theorem src_c {α : Type} {enc : α → List MV} {sz : Nat} {v : MV} {X : List α} {s : MSt} [c : SrcC enc sz v X] : msrc s sz v = some (X.length, rows enc X) := c.h s
/-- Numbers that wait, ahead of a piece of code. -/
theorem ghosts_rel {m : Emb} {w : World} : ∀ (l : List MObj) {s : MSt} (_ : RelS m s w) (_ : ∀ o ∈ l, o = .ghost), Ext m s w m (s.ext l) w ∧ RelS m (s.ext l) w
  | [], s, hr, _ => by rw [ext_nil]; exact ⟨Ext.refl _ _ _, hr⟩
  | o :: l, s, hr, hl => by
    have ho := hl o (by simp)
    subst ho
    obtain ⟨e, r⟩ := ghost_rel hr
    obtain ⟨e', r'⟩ := ghosts_rel l r (fun o ho => hl o (by simp [ho]))
    rw [push_ext, ext_ext] at e' r'
    exact ⟨e.trans e', r'⟩
theorem mghosts (l : List MObj) {P : Program} {N : Nat} {rd : Option Nat} {c : Code} {Q : Exit → (Nat → MV) → MSt → Prop} {env : Nat → MV} {s : MSt} (h : MCode P N rd c Q env (s.ext l)) (hl : ∀ o ∈ l, o = .ghost := by simp [accO]) : MCode P N rd c Q env s := by
  intro hs hrd m w a b0 hb h1 h2 h3 h4
  obtain ⟨e, r⟩ := ghosts_rel l h1 hl
  exact wpIn_mono (h hs hrd m w a b0 hb r (h2.ext e) h3 (h4.ext e)) fun _ _ _ hp => hp.from e
/-- A range over a function, by what holds ahead of each round. -/
theorem rfold_x {P : Program} {N : Nat} {ps : Array Tmp} {assign body : Code} {Q : Exit → (Nat → MV) → MSt → Prop} {env : Nat → MV} (I : List Word → MSt → Prop)
    (step : ∀ (w : Word) (ws : List Word) (st : MSt), I (w :: ws) st → w.x.length = ps.size ∧ ∀ L, MCode P N (some st.ls.length) assign (fun ex env1 s1 => ex = .normal ∧ ∃ t1 : MSt, s1 = t1.pushL L ∧ t1.ls = st.ls ∧
        ∀ L2, MCode P N (some st.ls.length) body (fun ex _ s2 => ∃ t2 : MSt, s2 = t2.pushL L2 ∧ t2.ls = st.ls ∧ w.C t2.h ∧ RNext Q env (I ws) ex t2) env1 (t1.pushL L2)) (setMany env ps.toList w.x) ((st.withH w.u).pushL L))
    (fin : ∀ st, I [] st → Q .normal env st) : ∀ (ws : List Word) (s : MSt), I ws s → RFoldT P N ps assign body Q env ws s
  | [], s, h => fin s h
  | w :: ws, s, h => by
    obtain ⟨h1, h2⟩ := step w ws s h
    refine ⟨h1, fun L => (h2 L).mono ?_⟩
    rintro ex env1 s1 ⟨rfl, t1, rfl, hl, hb⟩
    refine ⟨rfl, t1, rfl, by rw [hl], fun L2 => (hb L2).mono ?_⟩
    rintro ex env2 s2 ⟨t2, rfl, hl2, hc, hn⟩
    refine ⟨t2, rfl, by rw [hl2], hc, ?_⟩
    cases ex with
    | normal => exact rfold_x I step fin ws _ hn
    | ret => exact hn
    | exit id => exact hn
    | _ => exact hn.elim
theorem rfold_t {α : Type} (wd : α → Word) {P : Program} {N : Nat} {ps : Array Tmp} {assign body : Code} {Q : Exit → (Nat → MV) → MSt → Prop} {env : Nat → MV} {l : List α} {s : MSt} (I : List α → MSt → Prop) (h0 : I l s)
    (step : ∀ (q : α) (qs : List α) (st : MSt), I (q :: qs) st → (wd q).x.length = ps.size ∧ ∀ L, MCode P N (some st.ls.length) assign (fun ex env1 s1 => ex = .normal ∧ ∃ t1 : MSt, s1 = t1.pushL L ∧ t1.ls = st.ls ∧
        ∀ L2, MCode P N (some st.ls.length) body (fun ex _ s2 => ∃ t2 : MSt, s2 = t2.pushL L2 ∧ t2.ls = st.ls ∧ (wd q).C t2.h ∧ RNext Q env (I qs) ex t2) env1 (t1.pushL L2)) (setMany env ps.toList (wd q).x) ((st.withH (wd q).u).pushL L))
    (fin : ∀ st, I [] st → Q .normal env st) : RFoldT P N ps assign body Q env (l.map wd) s := by
  refine rfold_x (fun ws st => ∃ qs, ws = qs.map wd ∧ I qs st) ?_ ?_ _ _ ⟨l, rfl, h0⟩
  · rintro w ws st ⟨qs, hq, hI⟩
    cases qs with
    | nil => simp at hq
    | cons q qs =>
      simp only [List.map_cons, List.cons.injEq] at hq
      obtain ⟨rfl, rfl⟩ := hq
      obtain ⟨a, b⟩ := step q qs st hI
      refine ⟨a, fun L => (b L).mono ?_⟩
      rintro ex env1 s1 ⟨rfl, t1, rfl, hl, hb⟩
      refine ⟨rfl, t1, rfl, hl, fun L2 => (hb L2).mono ?_⟩
      rintro ex env2 s2 ⟨t2, rfl, hl2, hc, hn⟩
      refine ⟨t2, rfl, hl2, hc, ?_⟩
      cases ex with
      | normal => exact ⟨qs, rfl, hn⟩
      | _ => exact hn
  · rintro st ⟨qs, hq, hI⟩
    cases qs with
    | nil => exact fin st hI
    | cons q qs => simp at hq
/-- A number that waits, ahead of a piece of code. -/
theorem mghost {α : Type} (enc : α → List MV) {P : Program} {N : Nat} {rd : Option Nat} {c : Code} {Q : Exit → (Nat → MV) → MSt → Prop} {env : Nat → MV} {s : MSt} (h : MCode P N rd c Q env (s.push (accO enc []))) : MCode P N rd c Q env s := by
  intro hs hrd m w a b0 hb h1 h2 h3 h4
  obtain ⟨e, r⟩ := ghost_rel h1
  exact wpIn_mono (h hs hrd m w a b0 hb r (h2.ext e) h3 (h4.ext e)) fun _ _ _ hp => hp.from e
/-- What is put together is told as frozen. -/
theorem acc_pk {α : Type} {enc : α → List MV} {v0 : MV} {β sz n : Nat} {T : List α} {H : List MObj} [c : Acc0 v0] [d : EncC enc sz] (h : H[β]? = some (accO enc T)) (hn : n ≤ β) (hf : ∀ a, ∀ x ∈ enc a, x.lt 0 0 = true) :
    Pk H (fun β => if β < n then some β else none) (accV enc v0 β sz T) (fsV enc v0 T) := by
  unfold accV fsV accO at *
  split
  · rcases c.h with rfl | rfl <;> exact .same _ 0 0 rfl (by omega)
  · rename_i e
    rw [if_neg e] at h
    have hl : (rows enc T).length = T.length * sz := rows_len d.h T
    refine .mslF β T.length sz 0 T.length none (rows enc T).length (rows enc T) (rows enc T) (by simp; omega) h (by omega) rfl (fun j hj hj' => ?_) none (.inl rfl)
    have hm : (rows enc T)[j] ∈ rows enc T := List.getElem_mem _
    simp only [Nat.zero_add]
    simp only [rows, List.mem_flatMap] at hm
    obtain ⟨a, _, hx⟩ := hm
    exact .same _ 0 0 (hf a _ hx) (by omega)
theorem fsV_FS {α : Type} {enc : α → List MV} {v0 : MV} {T : List α} [c : Acc0 v0] : FS enc (fsV enc v0 T) T := by
  unfold fsV
  split
  · rename_i e
    have : T = [] := List.length_eq_zero_iff.1 e
    subst this
    rcases c.h with rfl | rfl
    · exact .inl ⟨rfl, rfl⟩
    · exact .inr (.inl ⟨_, rfl⟩)
  · exact .inr (.inl ⟨_, rfl⟩)
instance : EncC encInt 1 := ⟨encInt_len⟩
instance : FlatC encInt := ⟨encInt_flat⟩
instance (x : Int) : DecC encInt [.int .i64 x] x := ⟨rfl⟩
attribute [go_sem] encInt
/-! ### Frozen rows, as values -/
/-- A row that nobody writes: if it is empty, b says whether it is nil (1), or empty of whatever memory (2). -/
def sV {α : Type} (enc : α → List MV) (b : Nat) (cap : Option Nat) (l : List α) : MV := if l.length = 0 ∧ b = 1 then .nilsl else if l.length = 0 ∧ b = 2 then .esl else .fsl (rows enc l) l.length cap
theorem FS.sV {α : Type} {enc : α → List MV} {v : MV} {l : List α} (h : FS enc v l) : ∃ b cap, v = Mir.sV enc b cap l := by
  rcases h with ⟨rfl, rfl⟩ | ⟨cap, rfl⟩ | ⟨rfl, rfl⟩
  · exact ⟨1, none, rfl⟩
  · exact ⟨0, cap, by simp [Mir.sV]⟩
  · exact ⟨2, none, rfl⟩
theorem sV_FS {α : Type} {enc : α → List MV} {b : Nat} {cap : Option Nat} {l : List α} : FS enc (sV enc b cap l) l := by
  unfold sV
  split
  · rename_i h; exact .inl ⟨List.length_eq_zero_iff.1 h.1, rfl⟩
  · split
    · rename_i h; exact .inr (.inr ⟨List.length_eq_zero_iff.1 h.1, rfl⟩)
    · exact .inr (.inl ⟨cap, rfl⟩)
theorem sV_len {α : Type} {enc : α → List MV} {b : Nat} {cap : Option Nat} {l : List α} {s : MSt} : mlenOf s (sV enc b cap l) = some l.length := by
  unfold sV
  split
  · rename_i h; simp [mlenOf, h.1]
  · split
    · rename_i h; simp [mlenOf, h.1]
    · rfl
theorem sV_cells {α : Type} {enc : α → List MV} {b : Nat} {cap : Option Nat} {l : List α} {s : MSt} {sz : Nat} [d : EncC enc sz] : mcellsOf s sz l.length (sV enc b cap l) = some (rows enc l) := by
  unfold sV
  split
  · rename_i h
    have := List.length_eq_zero_iff.1 h.1
    subst this
    simp [mcellsOf, rows]
  · split
    · rename_i h
      have := List.length_eq_zero_iff.1 h.1
      subst this
      simp [mcellsOf, rows]
    · have hl := rows_len d.h l
      simp [mcellsOf, ← hl]
theorem sV_c1 {α : Type} {enc : α → List MV} {b : Nat} {cap : Option Nat} {l : List α} : (sV enc b cap l).cells = [sV enc b cap l] := by
  unfold sV; repeat' split
  all_goals rfl
theorem sV_f1 {α : Type} {enc : α → List MV} {b : Nat} {cap : Option Nat} {l : List α} [d : FlatC enc] : (sV enc b cap l).flat = true := by
  unfold sV; repeat' split
  · rfl
  · rfl
  · exact rows_ny l
attribute [go_sem] sV_len sV_cells
attribute [go_sem high] sV_c1 sV_f1
instance {α : Type} {enc : α → List MV} {sz : Nat} {b : Nat} {cap : Option Nat} {X : List α} [e : EncC enc sz] : SrcC enc sz (sV enc b cap X) X := ⟨fun s => by
  have h1 : mlenOf s (sV enc b cap X) = some X.length := sV_len
  have h2 : mcellsOf s sz X.length (sV enc b cap X) = some (rows enc X) := sV_cells
  have h3 : msrc s sz (sV enc b cap X) = ((mlenOf s (sV enc b cap X)).bind fun n => (mcellsOf s sz n (sV enc b cap X)).map fun cs => (n, cs)) := by
    unfold sV; repeat' split
    all_goals rfl
  rw [h3, h1, Option.bind_some, h2]; rfl⟩
theorem op_svIndex {α : Type} {enc : α → List MV} {b : Nat} {cap : Option Nat} {sz o : Nat} {l : List α} {s : MSt} {P : Program} {t : TypeId} {ag : Bool} {k : IntKind} {i : Int} {env : Nat → MV} {x y : Operand} {K : MV → MSt → Prop} [ElC P t none ag sz] (hx : mev s env x = sV enc b cap l) (hy : mev s env y = .int k i) (h : K (.fptr (rows enc l) o) s)
    (hi : 0 ≤ i ∧ i < l.length := by omega) (ho : i.toNat * sz = o := by first | (simp only [Int.toNat_natCast]; rfl) | rfl) : MOper P (.indexAddr t x y) env s K := by
  subst ho
  refine oper_indexAddr hx hy ?_ h
  unfold sV
  rw [if_neg (by omega), if_neg (by omega)]
  simp only [mindexAddr, el_c]
  rw [if_pos hi]
theorem accV_same {α : Type} {enc : α → List MV} {v0 : MV} {β sz : Nat} {T T' : List α} (h : T'.length = T.length) : accV enc v0 β sz T' = accV enc v0 β sz T := by unfold accV; rw [h]
theorem fsV_len {α : Type} {enc : α → List MV} {v0 : MV} {T : List α} {s : MSt} [c : Acc0 v0] : mlenOf s (fsV enc v0 T) = some T.length := by
  unfold fsV; split
  · rename_i e; rcases c.h with rfl | rfl <;> simp [mlenOf, e]
  · rfl
attribute [go_sem] fsV_len List.length_map
theorem fsV_sV {α : Type} {enc : α → List MV} {T : List α} : fsV enc .nilsl T = sV enc 1 none T := by
  unfold fsV sV
  by_cases h : T.length = 0 <;> simp [h]
/-- What a function comes to that leaves the store: by its arguments alone. -/
class Pure1 (P : Program) (n : FuncId) (as : List MV) (pre : outParam Prop) (v : outParam MV) : Prop where
  h : pre → ∀ s, MCalls P n as s fun r s' => r = v ∧ s' = s
theorem pure1_h {P : Program} {n : FuncId} {as : List MV} {pre : Prop} {v : MV} {s : MSt} [c : Pure1 P n as pre v] (hp : pre) : MCalls P n as s fun r s' => r = v ∧ s' = s := c.h hp s
theorem pure_call {P : Program} {n : FuncId} {as : List MV} {pre : Prop} {v : MV} {s : MSt} {K : MV → MSt → Prop} [c : Pure1 P n as pre v] (hp : pre) (h : K v s) : MCalls P n as s K :=
  (c.h hp s).mono (by rintro _ _ ⟨rfl, rfl⟩; exact h)
theorem freeze_v {s st : MSt} {v : MV} {K : MV → Prop} (hg : Grew s st) (hv : v.lt 0 0 = true) (hK : K v) :
    ∃ r extra, st.h = s.h ++ extra ∧ st.ls = s.ls ∧ st.gl = s.gl ∧ Pk st.h (fun β => if β < s.h.length then some β else none) v r ∧ K r := by
  obtain ⟨e, rfl⟩ := hg
  exact ⟨v, e, rfl, rfl, rfl, .same v 0 0 hv (by omega), hK⟩
theorem mkeep {P : Program} {n : FuncId} {as : List MV} {v : MV} {s : MSt} {K : MV → MSt → Prop} (h : MCalls P n as s fun r s' => r = v ∧ s' = s) (hk : K v s) : MCalls P n as s K := h.mono (by rintro _ _ ⟨rfl, rfl⟩; exact hk)
theorem mto {P : Program} {n : FuncId} {as : List MV} {v : MV} {s t : MSt} {K : MV → MSt → Prop} (h : MCalls P n as s fun r s' => r = v ∧ s' = t) (hk : K v t) : MCalls P n as s K := h.mono (by rintro _ _ ⟨rfl, rfl⟩; exact hk)
theorem evN {a b : Nat} (h : a = b := by first | (simp only [go_sem, List.length_cons, List.length_nil, Nat.reduceAdd, Nat.add_assoc]; first | done | rfl) | rfl) : a = b := h
theorem evPre {p : Prop} (h : p := by first | exact True.intro | assumption | (simp (disch := omega) only [go_sem, *]; done) | omega | (refine ⟨?_, ?_⟩ <;> first | assumption | omega)) : p := h

/-- Marks: the walk stops ahead of that region, of that block. -/
structure StopR (id : Nat) : Prop where
structure StopB (id : Nat) : Prop where
section
variable {P : Program} {N : Nat} {rd : Option Nat} {Q : Exit → (Nat → MV) → MSt → Prop} {env : Nat → MV} {s : MSt}
theorem atR {id : Nat} {ops : Array Oper} {d : Bool} (_ : StopR id) (h : MCode P N rd (.region id ops d) Q env s) : MCode P N rd (.region id ops d) Q env s := h
theorem atB {id : Nat} {c : Code} (_ : StopB id) (h : MCode P N rd (.block id c) Q env s) : MCode P N rd (.block id c) Q env s := h
theorem mid2 {c1 c2 : Code} {rest : (Nat → MV) → MSt → Prop} (I : (Nat → MV) → MSt → Prop) (h1 : MCode P N rd c1 (mthen (fun env s => MCode P N rd c2 (mthen I Q) env s) (mthen I Q)) env s) (h2 : ∀ env s, I env s → rest env s) :
    MCode P N rd c1 (mthen (fun env s => MCode P N rd c2 (mthen rest Q) env s) (mthen rest Q)) env s := by
  refine h1.mono fun ex env s h => ?_
  cases ex with
  | normal => exact h.mono fun ex env s h => by cases ex <;> first | exact h2 _ _ h | exact h
  | _ => exact h
end

section
variable {P : Program} {N : Nat} {rd : Option Nat} {Q : Exit → (Nat → MV) → MSt → Prop} {env : Nat → MV} {s : MSt} {o : Op} {K : MV → MSt → Prop} {K' : (Nat → MV) → MSt → Prop}
theorem isOper (h : MOper P o env s K) : MOper P o env s K := h
theorem isOps {l : List POp} (h : mops P K' l env s) : mops P K' l env s := h
theorem isD {l : List DP} (h : mopsD P K' l env s) : mopsD P K' l env s := h
theorem isCalls {n : FuncId} {as : List MV} (h : MCalls P n as s K) : MCalls P n as s K := h
theorem isCond {c : Operand} {x y : Code} (h : MCode P N rd (.cond c x y) Q env s) : MCode P N rd (.cond c x y) Q env s := h
theorem isStays {l : List POp} {R : Prop} (h : Stays P env s l ∧ R) : Stays P env s l ∧ R := h
end

theorem run {p q : Prop} (k : q) (h : Left q → p := by intro hq; (first | ((with_reducible refine isOper ?_); first | refine op_accField evE evS ?_ | refine op_accStore evE evS evE (by assumption) evH (by constructor <;> rfl) (by simp (disch := omega) only [rows_length]; omega) ?_ | refine op_svIndex evE evE ?_ | refine op_accIndex evE evE evS ?_ | refine op_accLoad evE evS evS ?_ | refine oper_bin evE evE evS ?_ | refine oper_move evE ?_ | refine oper_assign evE ?_ | refine op_load ?_ | refine op_fieldAddr ?_ | refine op_store ?_ | refine op_pickT evE evT evE ?_ | refine op_pickF evE evF evE ?_ | refine op_pickOr evE evE evE ?_ | refine op_pickAnd evE evE evE ?_ | refine oper_nilCheck evE evS ?_ | refine oper_field evE evS ?_ | refine oper_indexAddr evE evE evS ?_ | refine oper_index evE evE evS ?_ | refine oper_un evE evS ?_ | refine oper_convert evE evS ?_ | refine oper_extract evE evS ?_ | refine oper_builtin evL evS ?_ | refine oper_slice evE evM evM evM evS ?_ | refine oper_alloc evS ?_ | refine oper_box evE evS ?_ | refine oper_build evP evS ?_ | refine oper_buildSlice evP evS ?_ | refine oper_makeSlice evE evE evS ?_ | refine oper_func evL evL ?_ | refine op_iface ?_ | refine oper_call evL ?_ | refine oper_acc evE evE src_c evS evH ?_) | ((with_reducible refine isOps ?_); first | refine step_cons ?_ | refine step_if2 evE evB rfl ?_ | refine step_not2 evE evB rfl ?_ | refine step_undef evE evU ?_ | refine mops_end ?_) | ((with_reducible refine isD ?_); first | refine mopsD_end ?_ | refine stepD_v rfl ?_ | refine stepD_vi rfl evE evB rfl ?_ | refine stepD_no evE evB rfl ?_ | refine stepD_un evE evU ?_ | refine stepD_w ?_ | refine stepD_ob ?_ | refine stepD_wi2 evE evB rfl ?_ | refine stepD_c evL (pure1_h evPre) ?_ | refine stepD_ci evE evB rfl evL (pure1_h evPre) ?_) | ((with_reducible refine isCalls ?_); refine pure_call evPre ?_) | ((with_reducible refine isCond ?_); first | refine mcond_t evE evT ?_ | refine mcond_f evE evF ?_) | ((with_reducible refine isStays ?_); first | refine staysV rfl evE ?_ | refine staysVi rfl evE evB rfl evE ?_ | refine staysNo evE evB rfl evE ?_ | refine staysC evE evL (pure1_h evPre) ?_ | refine staysN ?_) | with_reducible refine mseq ?_ | ((fail_if_success (refine atR (by assumption) ?_)); with_reducible refine mregionL ?_) | with_reducible refine mend ?_ | with_reducible refine mexit ?_ | with_reducible refine mret ?_ | with_reducible refine mlabel ?_ | with_reducible refine mthen_normal ?_ | with_reducible refine mthen_ret ?_ | with_reducible refine mthen_exit ?_ | with_reducible refine mcatch_normal ?_ | with_reducible refine mcatch_ret ?_ | with_reducible refine mcatch_exit ?_ | with_reducible refine mcatch_other (by rfl) ?_ | with_reducible refine and_s ?_ | with_reducible refine and_v ?_); (repeat (first | ((with_reducible refine isOper ?_); first | refine op_accField evE evS ?_ | refine op_accStore evE evS evE (by assumption) evH (by constructor <;> rfl) (by simp (disch := omega) only [rows_length]; omega) ?_ | refine op_svIndex evE evE ?_ | refine op_accIndex evE evE evS ?_ | refine op_accLoad evE evS evS ?_ | refine oper_bin evE evE evS ?_ | refine oper_move evE ?_ | refine oper_assign evE ?_ | refine op_load ?_ | refine op_fieldAddr ?_ | refine op_store ?_ | refine op_pickT evE evT evE ?_ | refine op_pickF evE evF evE ?_ | refine op_pickOr evE evE evE ?_ | refine op_pickAnd evE evE evE ?_ | refine oper_nilCheck evE evS ?_ | refine oper_field evE evS ?_ | refine oper_indexAddr evE evE evS ?_ | refine oper_index evE evE evS ?_ | refine oper_un evE evS ?_ | refine oper_convert evE evS ?_ | refine oper_extract evE evS ?_ | refine oper_builtin evL evS ?_ | refine oper_slice evE evM evM evM evS ?_ | refine oper_alloc evS ?_ | refine oper_box evE evS ?_ | refine oper_build evP evS ?_ | refine oper_buildSlice evP evS ?_ | refine oper_makeSlice evE evE evS ?_ | refine oper_func evL evL ?_ | refine op_iface ?_ | refine oper_call evL ?_ | refine oper_acc evE evE src_c evS evH ?_) | ((with_reducible refine isOps ?_); first | refine step_cons ?_ | refine step_if2 evE evB rfl ?_ | refine step_not2 evE evB rfl ?_ | refine step_undef evE evU ?_ | refine mops_end ?_) | ((with_reducible refine isD ?_); first | refine mopsD_end ?_ | refine stepD_v rfl ?_ | refine stepD_vi rfl evE evB rfl ?_ | refine stepD_no evE evB rfl ?_ | refine stepD_un evE evU ?_ | refine stepD_w ?_ | refine stepD_ob ?_ | refine stepD_wi2 evE evB rfl ?_ | refine stepD_c evL (pure1_h evPre) ?_ | refine stepD_ci evE evB rfl evL (pure1_h evPre) ?_) | ((with_reducible refine isCalls ?_); refine pure_call evPre ?_) | ((with_reducible refine isCond ?_); first | refine mcond_t evE evT ?_ | refine mcond_f evE evF ?_) | ((with_reducible refine isStays ?_); first | refine staysV rfl evE ?_ | refine staysVi rfl evE evB rfl evE ?_ | refine staysNo evE evB rfl evE ?_ | refine staysC evE evL (pure1_h evPre) ?_ | refine staysN ?_) | with_reducible refine mseq ?_ | ((fail_if_success (refine atR (by assumption) ?_)); with_reducible refine mregionL ?_) | with_reducible refine mend ?_ | with_reducible refine mexit ?_ | with_reducible refine mret ?_ | with_reducible refine mlabel ?_ | with_reducible refine mthen_normal ?_ | with_reducible refine mthen_ret ?_ | with_reducible refine mthen_exit ?_ | with_reducible refine mcatch_normal ?_ | with_reducible refine mcatch_ret ?_ | with_reducible refine mcatch_exit ?_ | with_reducible refine mcatch_other (by rfl) ?_ | with_reducible refine and_s ?_ | with_reducible refine and_v ?_)); exact hq.out) : p := h ⟨k⟩
theorem runB {p q : Prop} (k : q) (h : Left q → p := by intro hq; (first | ((with_reducible refine isOper ?_); first | refine op_accField evE evS ?_ | refine op_accStore evE evS evE (by assumption) evH (by constructor <;> rfl) (by simp (disch := omega) only [rows_length]; omega) ?_ | refine op_svIndex evE evE ?_ | refine op_accIndex evE evE evS ?_ | refine op_accLoad evE evS evS ?_ | refine oper_bin evE evE evS ?_ | refine oper_move evE ?_ | refine oper_assign evE ?_ | refine op_load ?_ | refine op_fieldAddr ?_ | refine op_store ?_ | refine op_pickT evE evT evE ?_ | refine op_pickF evE evF evE ?_ | refine op_pickOr evE evE evE ?_ | refine op_pickAnd evE evE evE ?_ | refine oper_nilCheck evE evS ?_ | refine oper_field evE evS ?_ | refine oper_indexAddr evE evE evS ?_ | refine oper_index evE evE evS ?_ | refine oper_un evE evS ?_ | refine oper_convert evE evS ?_ | refine oper_extract evE evS ?_ | refine oper_builtin evL evS ?_ | refine oper_slice evE evM evM evM evS ?_ | refine oper_alloc evS ?_ | refine oper_box evE evS ?_ | refine oper_build evP evS ?_ | refine oper_buildSlice evP evS ?_ | refine oper_makeSlice evE evE evS ?_ | refine oper_func evL evL ?_ | refine op_iface ?_ | refine oper_call evL ?_ | refine oper_acc evE evE src_c evS evH ?_) | ((with_reducible refine isOps ?_); first | refine step_cons ?_ | refine step_if2 evE evB rfl ?_ | refine step_not2 evE evB rfl ?_ | refine step_undef evE evU ?_ | refine mops_end ?_) | ((with_reducible refine isD ?_); first | refine mopsD_end ?_ | refine stepD_v rfl ?_ | refine stepD_vi rfl evE evB rfl ?_ | refine stepD_no evE evB rfl ?_ | refine stepD_un evE evU ?_ | refine stepD_w ?_ | refine stepD_ob ?_ | refine stepD_wi2 evE evB rfl ?_ | refine stepD_c evL (pure1_h evPre) ?_ | refine stepD_ci evE evB rfl evL (pure1_h evPre) ?_) | ((with_reducible refine isCalls ?_); refine pure_call evPre ?_) | ((with_reducible refine isCond ?_); first | refine mcond_t evE evT ?_ | refine mcond_f evE evF ?_) | ((with_reducible refine isStays ?_); first | refine staysV rfl evE ?_ | refine staysVi rfl evE evB rfl evE ?_ | refine staysNo evE evB rfl evE ?_ | refine staysC evE evL (pure1_h evPre) ?_ | refine staysN ?_) | with_reducible refine mseq ?_ | ((fail_if_success (refine atR (by assumption) ?_)); with_reducible refine mregionL ?_) | with_reducible refine mend ?_ | with_reducible refine mexit ?_ | with_reducible refine mret ?_ | with_reducible refine mlabel ?_ | with_reducible refine mthen_normal ?_ | with_reducible refine mthen_ret ?_ | with_reducible refine mthen_exit ?_ | with_reducible refine mcatch_normal ?_ | with_reducible refine mcatch_ret ?_ | with_reducible refine mcatch_exit ?_ | with_reducible refine mcatch_other (by rfl) ?_ | with_reducible refine and_s ?_ | with_reducible refine and_v ?_ | ((fail_if_success (refine atB (by assumption) ?_)); with_reducible refine mblock ?_)); (repeat (first | ((with_reducible refine isOper ?_); first | refine op_accField evE evS ?_ | refine op_accStore evE evS evE (by assumption) evH (by constructor <;> rfl) (by simp (disch := omega) only [rows_length]; omega) ?_ | refine op_svIndex evE evE ?_ | refine op_accIndex evE evE evS ?_ | refine op_accLoad evE evS evS ?_ | refine oper_bin evE evE evS ?_ | refine oper_move evE ?_ | refine oper_assign evE ?_ | refine op_load ?_ | refine op_fieldAddr ?_ | refine op_store ?_ | refine op_pickT evE evT evE ?_ | refine op_pickF evE evF evE ?_ | refine op_pickOr evE evE evE ?_ | refine op_pickAnd evE evE evE ?_ | refine oper_nilCheck evE evS ?_ | refine oper_field evE evS ?_ | refine oper_indexAddr evE evE evS ?_ | refine oper_index evE evE evS ?_ | refine oper_un evE evS ?_ | refine oper_convert evE evS ?_ | refine oper_extract evE evS ?_ | refine oper_builtin evL evS ?_ | refine oper_slice evE evM evM evM evS ?_ | refine oper_alloc evS ?_ | refine oper_box evE evS ?_ | refine oper_build evP evS ?_ | refine oper_buildSlice evP evS ?_ | refine oper_makeSlice evE evE evS ?_ | refine oper_func evL evL ?_ | refine op_iface ?_ | refine oper_call evL ?_ | refine oper_acc evE evE src_c evS evH ?_) | ((with_reducible refine isOps ?_); first | refine step_cons ?_ | refine step_if2 evE evB rfl ?_ | refine step_not2 evE evB rfl ?_ | refine step_undef evE evU ?_ | refine mops_end ?_) | ((with_reducible refine isD ?_); first | refine mopsD_end ?_ | refine stepD_v rfl ?_ | refine stepD_vi rfl evE evB rfl ?_ | refine stepD_no evE evB rfl ?_ | refine stepD_un evE evU ?_ | refine stepD_w ?_ | refine stepD_ob ?_ | refine stepD_wi2 evE evB rfl ?_ | refine stepD_c evL (pure1_h evPre) ?_ | refine stepD_ci evE evB rfl evL (pure1_h evPre) ?_) | ((with_reducible refine isCalls ?_); refine pure_call evPre ?_) | ((with_reducible refine isCond ?_); first | refine mcond_t evE evT ?_ | refine mcond_f evE evF ?_) | ((with_reducible refine isStays ?_); first | refine staysV rfl evE ?_ | refine staysVi rfl evE evB rfl evE ?_ | refine staysNo evE evB rfl evE ?_ | refine staysC evE evL (pure1_h evPre) ?_ | refine staysN ?_) | with_reducible refine mseq ?_ | ((fail_if_success (refine atR (by assumption) ?_)); with_reducible refine mregionL ?_) | with_reducible refine mend ?_ | with_reducible refine mexit ?_ | with_reducible refine mret ?_ | with_reducible refine mlabel ?_ | with_reducible refine mthen_normal ?_ | with_reducible refine mthen_ret ?_ | with_reducible refine mthen_exit ?_ | with_reducible refine mcatch_normal ?_ | with_reducible refine mcatch_ret ?_ | with_reducible refine mcatch_exit ?_ | with_reducible refine mcatch_other (by rfl) ?_ | with_reducible refine and_s ?_ | with_reducible refine and_v ?_ | ((fail_if_success (refine atB (by assumption) ?_)); with_reducible refine mblock ?_))); exact hq.out) : p := h ⟨k⟩
theorem enter {P : Program} {f : FuncId} {fn : Func} {N : Nat} [c : FnC P f fn N] {args : List MV} {s : MSt} {K : MV → MSt → Prop}
    (h : MCode P N none (bodyOf fn) (fun ex env s' => (ex = .normal ∨ ex = .ret) ∧ ∃ r, mresults P fn env s' = some r ∧ K r s') (initEnv args) s) (hargs : args.length ≤ N := by simp) : MCalls P f args s K := mcalls c.ok hargs h

theorem leave {P : Program} {fn : Func} {ex : Exit} {env : Nat → MV} {s : MSt} {K : MV → Prop} {r : MV} (h : K r) (he : ex = .normal ∨ ex = .ret := by first | exact .inl rfl | exact .inr rfl)
    (hr : mresults P fn env s = some r := by simp (disch := first | assumption | omega | (simp only [put_len, ext_len, pushL_h, List.length_cons, List.length_nil]; omega) | (simp (disch := first | assumption | omega) only [ext_lo, ext_hi, put_same, put_other, put_len, ext_len, pushL_h, Nat.add_sub_cancel_left, Nat.sub_self, List.getElem?_cons_zero, List.getElem?_cons_succ, get_app, get_app0, *]; done) | rfl | decide) only [mresults, mresL, mres1, res_c, go_sem, ↓reduceIte, Nat.reduceEqDiff, lay_c, mload, readAt, *] <;> rfl) : (ex = .normal ∨ ex = .ret) ∧ ∃ r, mresults P fn env s = some r ∧ K r := ⟨he, r, hr, h⟩

end Go.Mir

/- From a contract in the mirror to a call that returns true and leaves what was there; arguments that are read become the mirror's frozen values. -/
set_option linter.unusedVariables false
namespace Go.Mir
open Go.ChangeShapes Go.WideShapes Go.ChangeAt Go.RowKit

def mt0 : MSt := { h := [], ls := [], gl := fun _ => none }
def mb0 : Emb := ⟨fun _ => (0, 0), fun _ => 0, fun _ => 0⟩

theorem own0 {b : Nat} : ¬ Own mb0 mt0 b := by
  rintro (⟨β, st, c, h, _⟩ | ⟨β, es, h, _⟩ | ⟨l, L, h, _⟩) <;> simp [mt0] at h
theorem rel0 (w : World) : RelS mb0 mt0 w where
  blk := fun β st c h => by simp [mt0] at h
  map := fun β es h => by simp [mt0] at h
  loop := fun l L h => by simp [mt0] at h
  injb := fun β β' st st' c c' h => by simp [mt0] at h
  injm := fun β β' c c' h => by simp [mt0] at h
  injl := fun l l' h => by simp [mt0] at h
  gl := fun g c h => by simp [mt0] at h

/-- **The bridge.** -/
theorem law_calls {P : Program} {f : FuncId} {fn : Func} {N : Nat} [c : FnC P f fn N] {args : List MV} {rargs : Array Value} {w : World} (h : ∀ s, MCalls P f args s fun r s' => r = .bool true ∧ s' = s) (ha : RelL mb0 mt0 w args rargs.toList) :
    Calls P f rargs w fun e w' => e = .returned (.bool true) ∧ Below w.heap.size w w' := by
  have h1 := (called_enter c.ok (h mt0 mb0 w rargs (rel0 w) ha)).2
  refine callsIn_wide.1 (h1.mono ?_)
  rintro e w' ⟨v, rfl, m', s', r, ⟨rfl, rfl⟩, hr, hv, hx⟩
  cases hv
  exact ⟨rfl, hx.io.1, hx.io.2.1, hx.io.2.2, hx.size, fun k hk => hx.same k hk own0⟩

/-- What a type's cells are read as. -/
class RdC (P : Program) (t : TypeId) (α : outParam Type) (enc : outParam (α → List MV)) (ok : outParam (α → Prop)) : Prop where
  rd : ∀ {H : Type} {e : TypeId × Value → H} {w : World} {base : Nat} {spare : Nat → Bool} {held : Bool} {fuel : Nat} {cs : List Value} {x : DataW H × List MemPlace},
    DataW.trod e P w base spare held fuel t cs = some x → ∃ a : α, RelL mb0 mt0 w (enc a) cs ∧ ok a

theorem relL_one {w : World} {v : MV} {r : Value} (h : RelV mb0 mt0 w v r) : RelL mb0 mt0 w [v] [r] := ⟨rfl, fun j hj hj' => by
  have : j = 0 := by simp at hj; omega
  subst this; exact h⟩
theorem relL_app {w : World} {x y : List MV} {rx ry : List Value} (h1 : RelL mb0 mt0 w x rx) (h2 : RelL mb0 mt0 w y ry) : RelL mb0 mt0 w (x ++ y) (rx ++ ry) := by
  refine ⟨by simp [h1.1, h2.1], fun j hj hj' => ?_⟩
  have e1 := h1.1
  by_cases hjx : j < x.length
  · rw [List.getElem_append_left hjx, List.getElem_append_left (by omega)]; exact h1.2 j hjx (by omega)
  · rw [List.getElem_append_right (by omega), List.getElem_append_right (by omega)]
    have := h2.2 (j - x.length) (by simp at hj; omega) (by simp at hj'; omega)
    simpa only [e1] using this
theorem relL_cons {w : World} {v : MV} {r : Value} {y : List MV} {ry : List Value} (h1 : RelV mb0 mt0 w v r) (h2 : RelL mb0 mt0 w y ry) : RelL mb0 mt0 w (v :: y) (r :: ry) := relL_app (relL_one h1) h2
theorem relL_nil {w : World} : RelL mb0 mt0 w [] [] := ⟨rfl, fun j hj => by simp at hj⟩

def encI (k : IntKind) (n : Int) : List MV := [.int k n]
def encB (b : Bool) : List MV := [.bool b]
def encStr (l : List UInt8) : List MV := [.str l]
instance {P : Program} {t : TypeId} {k : IntKind} [c : Und P t (.int k)] : RdC P t Int (encI k) (fun n => (Lit.int k n).wf = true) := ⟨fun h => by
  obtain ⟨n, rfl, _, hw⟩ := DataW.trod_int c.h h
  exact ⟨n, relL_one (.int k n), hw⟩⟩
instance {P : Program} {t : TypeId} [c : Und P t .bool] : RdC P t Bool encB (fun _ => True) := ⟨fun h => by
  obtain ⟨b, rfl, _⟩ := DataW.trod_bool c.h h
  exact ⟨b, relL_one (.bool b), trivial⟩⟩
instance {P : Program} {t : TypeId} [c : Und P t .string] : RdC P t (List UInt8) encStr (fun l => l.length ≤ maxLen) := ⟨fun h => by
  obtain ⟨b, rfl, _, hl⟩ := DataW.trod_string c.h h
  exact ⟨b.data.toList, relL_one (.str b.data.toList), hl⟩⟩

theorem rel_row {α : Type} {enc : α → List MV} {w : World} {n : Nat} (he : ∀ a, (enc a).length = n) : ∀ (l : List α) (cs : List (List Value)), l.length = cs.length → (∀ j (h : j < l.length) (h' : j < cs.length), RelL mb0 mt0 w (enc l[j]) cs[j]) → RelL mb0 mt0 w (rows enc l) cs.flatten
  | [], [], _, _ => relL_nil
  | [], _ :: _, h, _ => by simp at h
  | _ :: _, [], h, _ => by simp at h
  | a :: l, c :: cs, h, hr => by
    rw [rows_cons, List.flatten_cons]
    exact relL_app (hr 0 (by simp) (by simp)) (rel_row he l cs (by simpa using h) fun j h h' => hr (j + 1) (by simpa using h) (by simpa using h'))

/-- What a slice is read as: is it nil, what capacity, what elements. -/
structure SL (α : Type) where
  nil : Nat
  cap : Option Nat
  l : List α
def encSL {α : Type} (enc : α → List MV) (x : SL α) : List MV := [sV enc x.nil x.cap x.l]

theorem range_mapM {α : Type} {f : Nat → Option α} : ∀ {n : Nat} {l : List α}, (List.range n).mapM f = some l → l.length = n ∧ ∀ i, i < n → f i = l[i]? := by
  intro n
  induction n with
  | zero => intro l h; simp at h; subst h; simp
  | succ n ih =>
    intro l h
    rw [List.range_succ, List.mapM_append] at h
    cases h1 : (List.range n).mapM f with
    | none => simp [h1] at h
    | some l1 =>
      cases h2 : f n with
      | none => simp [h1, h2] at h
      | some a =>
        simp [h1, h2] at h
        subst h
        obtain ⟨e1, e2⟩ := ih h1
        refine ⟨by simp [e1], fun i hi => ?_⟩
        by_cases hin : i < n
        · rw [e2 i hin, List.getElem?_append_left (by omega)]
        · have : i = n := by omega
          subst this
          rw [h2, List.getElem?_append_right (by omega), e1]; simp

class CoC (P : Program) (t : TypeId) (n : outParam Nat) : Prop where
  h : P.cellsOf t = n

theorem exists_list {α : Type} {n : Nat} {p : Nat → α → Prop} (h : ∀ i, i < n → ∃ a, p i a) : ∃ l : List α, l.length = n ∧ ∀ i (hi : i < l.length), p i l[i] := by
  induction n with
  | zero => exact ⟨[], rfl, fun i hi => by simp at hi⟩
  | succ n ih =>
    obtain ⟨l, h1, h2⟩ := ih fun i hi => h i (by omega)
    obtain ⟨a, ha⟩ := h n (by omega)
    refine ⟨l ++ [a], by simp [h1], fun i hi => ?_⟩
    by_cases hin : i < l.length
    · rw [List.getElem_append_left hin]; exact h2 i hin
    · have : i = n := by simp at hi; omega
      subst this
      rw [List.getElem_append_right (by omega)]
      simpa using ha

theorem flatten_get {α : Type} {n : Nat} : ∀ (L : List (List α)) (_ : ∀ l ∈ L, l.length = n) (i j : Nat) (_ : i < L.length) (_ : j < n), L.flatten[i * n + j]? = (L[i]?).bind (·[j]?)
  | [], _, i, j, hi, _ => by simp at hi
  | l :: L, hl, 0, j, _, hj => by
    have := hl l (by simp)
    rw [List.flatten_cons, Nat.zero_mul, Nat.zero_add, List.getElem?_append_left (by omega)]
    simp
  | l :: L, hl, i + 1, j, hi, hj => by
    have h0 := hl l (by simp)
    rw [List.flatten_cons, List.getElem?_append_right (by rw [Nat.succ_mul]; omega)]
    have e : (i + 1) * n + j - l.length = i * n + j := by rw [Nat.succ_mul]; omega
    rw [e, flatten_get L (fun l h => hl l (by simp [h])) i j (by simpa using hi) hj]
    simp
theorem flatten_len {α : Type} {n : Nat} : ∀ (L : List (List α)) (_ : ∀ l ∈ L, l.length = n), L.flatten.length = L.length * n
  | [], _ => by simp
  | l :: L, hl => by rw [List.flatten_cons, List.length_append, flatten_len L (fun l h => hl l (by simp [h])), hl l (by simp), List.length_cons, Nat.succ_mul]; omega

theorem sV_0 {α : Type} (enc : α → List MV) (cap : Option Nat) (l : List α) : sV enc 0 cap l = .fsl (rows enc l) l.length cap := by simp [sV]

instance {P : Program} {t e : TypeId} {α : Type} {enc : α → List MV} {ok : α → Prop} {n : Nat} [c : Und P t (.slice e)] [r : RdC P e α enc ok] [d : CoC P e n] [z : EncC enc n] [nz : NeZero n] : RdC P t (SL α) (encSL enc) (fun x => (∀ a ∈ x.l, ok a) ∧ x.l.length ≤ maxLen) := ⟨fun {H e0 w base spare held fuel cs x} h => by
  have hn : 0 < n := Nat.pos_of_ne_zero nz.out
  rcases DataW.trod_slice c.h h with ⟨rfl, _⟩ | ⟨a, len, cap, elems, rest, m, _, rfl, _, hb, hl, hm, hlen, hel, _, _⟩
  · exact ⟨⟨1, none, []⟩, relL_one .nilsl, by simp⟩
  · rw [d.h] at hel
    have each : ∀ i, i < len → ∃ q : α × List Value, RelL mb0 mt0 w (enc q.1) q.2 ∧ ok q.1 ∧ (q.2.length = n ∧ w.cells? base (a.add (i * n)) n = some q.2) := by
      intro i hi
      have h1 := hel i hi
      cases hc : w.cells? base (a.add (i * n)) n with
      | none => rw [hc] at h1; simp at h1; omega
      | some cs =>
        rw [hc] at h1
        simp only [Option.bind_some] at h1
        have h2 : elems[i]? = some elems[i] := List.getElem?_eq_getElem (by omega)
        rw [h2] at h1
        obtain ⟨y, hy, hok⟩ := r.rd h1
        refine ⟨(y, cs), hy, hok, ?_, rfl⟩
        have := hy.1
        rw [z.h] at this
        exact this.symm
    obtain ⟨qs, q1, q2⟩ := exists_list each
    by_cases h0 : len = 0
    · subst h0
      exact ⟨⟨2, none, []⟩, relL_one (.esl a cap), by simp⟩
    · have hq0 := q2 0 (by omega)
      obtain ⟨_, _, hc0⟩ := World.cells?_some hq0.2.2.2
      have hb0 := World.cells?_block hq0.2.2.2 hn
      have hs0 := hc0 0 hn
      rw [List.getElem?_eq_getElem (by rw [hq0.2.2.1]; exact hn)] at hs0
      obtain ⟨b, off, spot⟩ := a
      have hspot : spot = none := by simpa [Addr.add] using World.cell?_spot hs0
      subst hspot
      have hb1 : b < w.heap.size := by simpa [Addr.add] using hb0
      have hcell : ∀ i (hi : i < qs.length), ∀ j, j < n → w.cell? ⟨b, off + (i * n + j), none⟩ = qs[i].2[j]? := by
        intro i hi j hj
        obtain ⟨_, _, hc⟩ := World.cells?_some (q2 i hi).2.2.2
        have := hc j hj
        rw [add_addr, add_addr] at this
        rw [← this, Nat.add_assoc]
      have hall : ∀ l ∈ qs.map (·.2), l.length = n := by
        intro l hl
        obtain ⟨q, hq, rfl⟩ := List.mem_map.1 hl
        obtain ⟨i, hi, rfl⟩ := List.getElem_of_mem hq
        exact (q2 i hi).2.2.1
      have hflen := flatten_len (qs.map (·.2)) hall
      rw [List.length_map] at hflen
      have hrow : RelL mb0 mt0 w (rows enc (qs.map (·.1))) (qs.map (·.2)).flatten := by
        refine rel_row z.h _ _ (by simp) fun j hj hj' => ?_
        simp only [List.getElem_map]
        exact (q2 j (by simpa using hj)).1
      refine ⟨⟨0, none, qs.map (·.1)⟩, relL_one ?_, fun a ha => ?_, ?_⟩
      · simp only
        rw [sV_0, List.length_map, q1]
        refine .fsl _ _ none b off cap (qs.map (·.2)).flatten hb1 own0 hl (by simp) hrow.1 (fun j hj => ?_) hrow.2
        rw [hflen] at hj
        have hjn : j / n < qs.length := Nat.div_lt_of_lt_mul (by rw [Nat.mul_comm]; exact hj)
        have hjm : j % n < n := Nat.mod_lt _ hn
        have hd : j / n * n + j % n = j := by rw [Nat.mul_comm]; exact Nat.div_add_mod j n
        have h1 := hcell (j / n) hjn (j % n) hjm
        rw [hd] at h1
        rw [h1]
        have h2 := flatten_get (qs.map (·.2)) hall (j / n) (j % n) (by simpa using hjn) hjm
        rw [hd] at h2
        rw [List.getElem?_eq_getElem (by rw [hflen]; exact hj)] at h2
        rw [h2]
        simp [hjn]
      · obtain ⟨q, hq, rfl⟩ := List.mem_map.1 ha
        obtain ⟨i, hi, rfl⟩ := List.getElem_of_mem hq
        exact (q2 i hi).2.1
      · simp only [List.length_map, q1]; omega⟩

theorem rd_at {P : Program} {t : TypeId} {α : Type} {enc : α → List MV} {ok : α → Prop} [r : RdC P t α enc ok] {H : Type} {e : TypeId × Value → H} {w : World} {base : Nat} {spare : Nat → Bool} {held : Bool} {fuel : Nat} {cs : List Value} {xs : List (DataW H × List MemPlace)} {i : Nat}
    (h : DataW.trod e P w base spare held fuel t cs = xs[i]?) (hi : i < xs.length) : ∃ a : α, RelL mb0 mt0 w (enc a) cs ∧ ok a := by
  rw [List.getElem?_eq_getElem hi] at h
  exact r.rd h
theorem relL_take {w : World} {x y : List MV} {cs : List Value} {a b : Nat} (h1 : RelL mb0 mt0 w x (cs.take a)) (h2 : RelL mb0 mt0 w y ((cs.drop a).take b)) : RelL mb0 mt0 w (x ++ y) (cs.take (a + b)) := by
  rw [List.take_add]; exact relL_app h1 h2
theorem relL_whole {w : World} {x : List MV} {cs : List Value} {n : Nat} (h : RelL mb0 mt0 w x (cs.take n)) (hn : cs.length = n) : RelL mb0 mt0 w x cs := by
  rwa [List.take_of_length_le (by omega)] at h

/-- An argument that is one cell. -/
theorem rd_arg {P : Program} {t : TypeId} {α : Type} {enc : α → List MV} {ok : α → Prop} [r : RdC P t α enc ok] {H : Type} {e : TypeId × Value → H} {w : World} {base : Nat} {spare : Nat → Bool} {held : Bool} {v : Value} {d : DataW H} {ps : List MemPlace}
    (h : DataW.Trod e P w base spare held t v d ps) (hv : v.cells = #[v]) : ∃ a : α, (∀ x, enc a = [x] → RelV mb0 mt0 w x v) ∧ ok a := by
  obtain ⟨fuel, hf⟩ := h
  obtain ⟨a, h1, h2⟩ := r.rd hf
  refine ⟨a, fun x hx => ?_, h2⟩
  rw [hx, hv] at h1
  exact h1.2 0 (by simp) (by simp)

end Go.Mir
