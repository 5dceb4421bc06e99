/- An evaluator for Go programs in the model: values, heaps, operations, and what they stand for. Conditions: none. -/
import Derived.Control
import Derived.KernelRfl
import Derived.Laws.Sem
import Derived.Laws.World
import Derived.Laws.Entries
import GoSem.Dispatch
import Derived.Laws.StructEq
import Derived.Laws.Cells
import Derived.Laws.BytesString

namespace Go.Ae

/-- A choice on a number, as the kernel reckons it. -/
noncomputable abbrev nz {α : Type} (n : Nat) (a b : α) : α := Nat.rec (motive := fun _ => α) a (fun _ _ => b) n
theorem nz_eq {α : Type} (n : Nat) (a b : α) : nz n a b = if n = 0 then a else b := by cases n <;> rfl

/-! ### A trie -/
inductive Tr (α : Type) where
  | nil : Tr α
  | node (v : Option α) (l r : Tr α) : Tr α

namespace Tr
variable {α : Type}

noncomputable def get (t : Tr α) : Nat → Option α :=
  Tr.rec (motive := fun _ => Nat → Option α) (fun _ => none)
    (fun v _ _ ihl ihr k => Nat.rec (motive := fun _ => Option α) v
      (fun j _ => nz (Nat.mod j 2) (ihl (Nat.div j 2)) (ihr (Nat.div j 2))) k) t

theorem get_nil (k : Nat) : get (.nil : Tr α) k = none := rfl
theorem get_zero (v : Option α) (l r : Tr α) : get (.node v l r) 0 = v := rfl
theorem get_succ (v : Option α) (l r : Tr α) (j : Nat) :
    get (.node v l r) (j + 1) = if j % 2 = 0 then get l (j / 2) else get r (j / 2) := nz_eq _ _ _

/-- The pieces of a store. -/
noncomputable def setL (v : Option α) (r : Tr α) (l : Tr α) : Tr α := Tr.rec (motive := fun _ => Tr α) (.node v .nil r) (fun v' l' r' _ _ => .node v (.node v' l' r') r) l
noncomputable def setR (v : Option α) (l : Tr α) (r : Tr α) : Tr α := Tr.rec (motive := fun _ => Tr α) (.node v l .nil) (fun v' l' r' _ _ => .node v l (.node v' l' r')) r
theorem setL_eq (v : Option α) (r l : Tr α) : setL v r l = .node v l r := by cases l <;> rfl
theorem setR_eq (v : Option α) (l r : Tr α) : setR v l r = .node v l r := by cases r <;> rfl

/-- A store; the depth is the fuel: what lies deeper is not stored. -/
noncomputable def set (f : Nat) : Nat → α → Tr α → Tr α :=
  Nat.rec (motive := fun _ => Nat → α → Tr α → Tr α) (fun _ _ t => t)
    (fun _ ih k x t => Tr.rec (motive := fun _ => Tr α)
      (Nat.rec (motive := fun _ => Tr α) (.node (some x) .nil .nil)
        (fun j _ => nz (Nat.mod j 2) (setL none .nil (ih (Nat.div j 2) x .nil)) (setR none .nil (ih (Nat.div j 2) x .nil))) k)
      (fun v l r _ _ => Nat.rec (motive := fun _ => Tr α) (.node (some x) l r)
        (fun j _ => nz (Nat.mod j 2) (setL v r (ih (Nat.div j 2) x l)) (setR v l (ih (Nat.div j 2) x r))) k) t) f

theorem set_nil_zero (f : Nat) (x : α) : set (f + 1) 0 x .nil = .node (some x) .nil .nil := rfl
theorem set_node_zero (f : Nat) (x : α) (v : Option α) (l r : Tr α) : set (f + 1) 0 x (.node v l r) = .node (some x) l r := rfl
theorem set_nil_succ (f k : Nat) (x : α) : set (f + 1) (k + 1) x .nil = if k % 2 = 0 then .node none (set f (k / 2) x .nil) .nil else .node none .nil (set f (k / 2) x .nil) := by
  rw [← setL_eq none .nil (set f (k / 2) x .nil), ← setR_eq none .nil (set f (k / 2) x .nil)]; exact nz_eq _ _ _
theorem set_node_succ (f k : Nat) (x : α) (v : Option α) (l r : Tr α) :
    set (f + 1) (k + 1) x (.node v l r) = if k % 2 = 0 then .node v (set f (k / 2) x l) r else .node v l (set f (k / 2) x r) := by
  rw [← setL_eq v r (set f (k / 2) x l), ← setR_eq v l (set f (k / 2) x r)]; exact nz_eq _ _ _

/-- Another place reads as it did. -/
theorem get_set_other (f : Nat) : ∀ (k : Nat) (x : α) (t : Tr α) (i : Nat), i ≠ k → get (set f k x t) i = get t i := by
  induction f with
  | zero => intro k x t i _; rfl
  | succ f ih =>
    intro k x t i hik
    cases t with
    | nil =>
      cases k with
      | zero =>
        rw [set_nil_zero]
        cases i with
        | zero => exact absurd rfl hik
        | succ j => rw [get_succ]; split <;> simp [get_nil]
      | succ k =>
        rw [set_nil_succ, get_nil]
        cases i with
        | zero => split <;> rfl
        | succ j =>
          split <;> rw [get_succ] <;> split <;> first | rfl | (rw [ih _ _ _ _ (by omega)]; rfl)
    | node v l r =>
      cases k with
      | zero =>
        rw [set_node_zero]
        cases i with
        | zero => exact absurd rfl hik
        | succ j => rw [get_succ, get_succ]
      | succ k =>
        rw [set_node_succ]
        cases i with
        | zero => split <;> rfl
        | succ j =>
          split <;> rw [get_succ, get_succ] <;> split <;> first | rfl | exact ih _ _ _ _ (by omega)

/-- Its own place reads as what was stored, where the fuel is more than the place's number. -/
theorem get_set_same (f : Nat) : ∀ (k : Nat) (x : α) (t : Tr α), k < f → get (set f k x t) k = some x := by
  induction f with
  | zero => intro k x t h; exact absurd h (Nat.not_lt_zero _)
  | succ f ih =>
    intro k x t hk
    cases t with
    | nil =>
      cases k with
      | zero => rfl
      | succ k =>
        rw [set_nil_succ]
        split
        · rename_i h; rw [get_succ, if_pos h]; exact ih _ _ _ (by omega)
        · rename_i h; rw [get_succ, if_neg h]; exact ih _ _ _ (by omega)
    | node v l r =>
      cases k with
      | zero => rfl
      | succ k =>
        rw [set_node_succ]
        split
        · rename_i h; rw [get_succ, if_pos h]; exact ih _ _ _ (by omega)
        · rename_i h; rw [get_succ, if_neg h]; exact ih _ _ _ (by omega)

noncomputable def put (t : Tr α) (k : Nat) (x : α) : Tr α := set (Nat.succ k) k x t
theorem get_put_same (t : Tr α) (k : Nat) (x : α) : get (put t k x) k = some x := get_set_same _ _ _ _ (Nat.lt_succ_self k)
theorem get_put_other (t : Tr α) (k : Nat) (x : α) (i : Nat) (h : i ≠ k) : get (put t k x) i = get t i := get_set_other _ _ _ _ _ h
theorem get_put (t : Tr α) (k : Nat) (x : α) (i : Nat) : get (put t k x) i = if i = k then some x else get t i := by
  split
  · rename_i h; subst h; exact get_put_same _ _ _
  · rename_i h; exact get_put_other _ _ _ _ h

end Tr

/-! ### Rows of cells -/
/-- n cells: values by their places, or bytes (kind u8) packed into one number, the first lowest. -/
inductive Row where
  | vals (n : Nat) (t : Tr Value) : Row
  | bytes (n N : Nat) : Row

/-- 256^i, as the kernel reckons it. -/
abbrev p8 (i : Nat) : Nat := Nat.pow 256 i

abbrev byteV (b : Nat) : Value := .int .u8 (Int.ofNat b)
noncomputable abbrev ifB {α : Type} (b : Bool) (x y : α) : α := Bool.rec (motive := fun _ => α) y x b
theorem ifB_eq {α : Type} (b : Bool) (x y : α) : ifB b x y = if b = true then x else y := by cases b <;> rfl
theorem blt_iff (a b : Nat) : Nat.blt a b = true ↔ a < b := by simp [Nat.blt, Nat.lt_iff_add_one_le]
theorem ifB_lt {α : Type} (a b : Nat) (x y : α) : ifB (Nat.blt a b) x y = if a < b then x else y := by
  rw [ifB_eq]; simp only [blt_iff]
theorem ifB_le {α : Type} (a b : Nat) (x y : α) : ifB (Nat.ble a b) x y = if a ≤ b then x else y := by
  rw [ifB_eq]; simp only [Nat.ble_eq]
theorem beq_iff' (a b : Nat) : Nat.beq a b = true ↔ a = b := by
  constructor
  · exact Nat.eq_of_beq_eq_true
  · intro h; subst h; exact Nat.beq_refl a
theorem ifB_beq {α : Type} (a b : Nat) (x y : α) : ifB (Nat.beq a b) x y = if a = b then x else y := by
  rw [ifB_eq]; simp only [beq_iff']

namespace Row

def size : Row → Nat
  | .vals n _ => n
  | .bytes n _ => n

noncomputable def get (r : Row) (i : Nat) : Option Value :=
  Row.rec (motive := fun _ => Option Value) (fun n t => ifB (Nat.blt i n) (t.get i) none)
    (fun n N => ifB (Nat.blt i n) (some (byteV (Nat.mod (Nat.div N (p8 i)) 256))) none) r

theorem get_vals (n : Nat) (t : Tr Value) (i : Nat) : get (.vals n t) i = if i < n then t.get i else none := ifB_lt _ _ _ _
theorem get_bytes (n N i : Nat) : get (.bytes n N) i = if i < n then some (byteV (N / 256 ^ i % 256)) else none := ifB_lt _ _ _ _
theorem get_lt {r : Row} {i : Nat} {v : Value} (h : r.get i = some v) : i < r.size := by
  cases r with
  | vals n t => rw [get_vals] at h; split at h <;> simp_all [size]
  | bytes n N => rw [get_bytes] at h; split at h <;> simp_all [size]

theorem div_mod_small (N off i : Nat) : N / 256 ^ off / 256 ^ i = N / 256 ^ (off + i) := by rw [Nat.div_div_eq_div_mul, ← Nat.pow_add]
theorem low (x len i : Nat) (h : i < len) : x % 256 ^ len / 256 ^ i % 256 = x / 256 ^ i % 256 := by
  have e : 256 ^ len = 256 ^ i * 256 ^ (len - i) := by rw [← Nat.pow_add]; congr 1; omega
  rw [e, Nat.mod_mul_right_div_self, Nat.mod_mod_of_dvd]
  exact ⟨256 ^ (len - i - 1), by rw [← Nat.pow_succ']; congr 1; omega⟩
theorem lowAdd (a b n i : Nat) (h : i < n) : (a + 256 ^ n * b) / 256 ^ i % 256 = a / 256 ^ i % 256 := by
  have e : 256 ^ n = 256 ^ i * (256 * 256 ^ (n - i - 1)) := by
    rw [← Nat.pow_succ', ← Nat.pow_add]; congr 1; omega
  rw [e, Nat.mul_assoc, Nat.add_mul_div_left _ _ (Nat.pow_pos (by omega)), Nat.mul_assoc, Nat.add_mul_mod_self_left]
theorem highAdd (a b n i : Nat) (ha : a < 256 ^ n) (h : n ≤ i) : (a + 256 ^ n * b) / 256 ^ i = b / 256 ^ (i - n) := by
  have e : 256 ^ i = 256 ^ n * 256 ^ (i - n) := by rw [← Nat.pow_add]; congr 1; omega
  rw [e, ← Nat.div_div_eq_div_mul, Nat.add_mul_div_left _ _ (Nat.pow_pos (by omega)), Nat.div_eq_of_lt ha, Nat.zero_add]

/-- Values put one behind the other into a trie from place i on. -/
noncomputable def putAll (l : List Value) : Nat → Tr Value → Tr Value :=
  List.rec (motive := fun _ => Nat → Tr Value → Tr Value) (fun _ t => t) (fun v _ ih i t => ih (Nat.succ i) (t.put i v)) l
theorem get_putAll : ∀ (l : List Value) (i : Nat) (t : Tr Value) (j : Nat), (putAll l i t).get j = if i ≤ j ∧ j < i + l.length then l[j - i]? else t.get j
  | [], i, t, j => by rw [if_neg (by simp)]; rfl
  | v :: l, i, t, j => by
    show (putAll l (i + 1) (t.put i v)).get j = _
    rw [get_putAll l, Tr.get_put]
    by_cases h : j = i
    · subst h; rw [if_neg (by omega), if_pos rfl, if_pos (by simp)]; simp
    · rw [if_neg h]
      by_cases h2 : i ≤ j ∧ j < i + (v :: l).length
      · rw [if_pos h2, if_pos (by simp only [List.length_cons] at h2; omega)]
        have : j - i = (j - (i + 1)) + 1 := by omega
        rw [this, List.getElem?_cons_succ]
      · rw [if_neg h2, if_neg (by simp only [List.length_cons] at h2; omega)]

/-- The trie's values from place i on, n of them, where each is there. -/
noncomputable def listFrom (t : Tr Value) (n : Nat) : Nat → Option (List Value) :=
  Nat.rec (motive := fun _ => Nat → Option (List Value)) (fun _ => some [])
    (fun _ ih i => Option.rec (motive := fun _ => Option (List Value)) none (fun v => Option.rec (motive := fun _ => Option (List Value)) none (fun l => some (v :: l)) (ih (Nat.succ i))) (t.get i)) n
theorem listFrom_succ (t : Tr Value) (n i : Nat) (q : List Value) (h : listFrom t (n + 1) i = some q) : ∃ v l, t.get i = some v ∧ listFrom t n (i + 1) = some l ∧ q = v :: l := by
  have h' : Option.rec (motive := fun _ => Option (List Value)) none (fun v => Option.rec (motive := fun _ => Option (List Value)) none (fun l => some (v :: l)) (listFrom t n (i + 1))) (t.get i) = some q := h
  cases hg : t.get i with
  | none => rw [hg] at h'; cases h'
  | some v =>
    rw [hg] at h'
    cases hl : listFrom t n (i + 1) with
    | none => rw [hl] at h'; cases h'
    | some l => rw [hl] at h'; exact ⟨v, l, rfl, rfl, (Option.some.inj h').symm⟩
theorem get_listFrom (t : Tr Value) : ∀ (n i : Nat) (q : List Value), listFrom t n i = some q → q.length = n ∧ ∀ j, j < n → q[j]? = t.get (i + j)
  | 0, _, q, h => by
    have : ([] : List Value) = q := Option.some.inj h
    subst this; exact ⟨rfl, fun j h => absurd h (Nat.not_lt_zero _)⟩
  | n + 1, i, q, h => by
    obtain ⟨v, l, hv, hl, rfl⟩ := listFrom_succ t n i q h
    obtain ⟨h1, h2⟩ := get_listFrom t n (i + 1) l hl
    refine ⟨by simp [h1], fun j hj => ?_⟩
    cases j with
    | zero => simpa using hv.symm
    | succ j => rw [List.getElem?_cons_succ, h2 j (by omega)]; congr 1; omega

/-- A row of values. -/
noncomputable def ofList (l : List Value) : Row := .vals l.length (putAll l 0 .nil)
theorem size_ofList (l : List Value) : (ofList l).size = l.length := rfl
theorem get_ofList (l : List Value) (i : Nat) : (ofList l).get i = l[i]? := by
  unfold ofList
  rw [get_vals, get_putAll]
  by_cases h : i < l.length
  · rw [if_pos h, if_pos (by omega)]; rfl
  · rw [if_neg h, List.getElem?_eq_none (by omega)]

/-- The cells of a row, as a list (bytes: one by one). -/
noncomputable def bytesList (N : Nat) (n : Nat) : Nat → List Value :=
  Nat.rec (motive := fun _ => Nat → List Value) (fun _ => []) (fun _ ih i => byteV (Nat.mod (Nat.div N (p8 i)) 256) :: ih (Nat.succ i)) n
theorem get_bytesList (N : Nat) : ∀ (n i : Nat), (bytesList N n i).length = n ∧ ∀ j, j < n → (bytesList N n i)[j]? = some (byteV (N / 256 ^ (i + j) % 256))
  | 0, _ => ⟨rfl, fun j h => absurd h (Nat.not_lt_zero _)⟩
  | n + 1, i => by
    obtain ⟨h1, h2⟩ := get_bytesList N n (i + 1)
    have e : bytesList N (n + 1) i = byteV (N / 256 ^ i % 256) :: bytesList N n (i + 1) := rfl
    rw [e]
    refine ⟨by simp [h1], fun j hj => ?_⟩
    cases j with
    | zero => rfl
    | succ j => rw [List.getElem?_cons_succ, h2 j (by omega)]; congr 5; omega

noncomputable def toList (r : Row) (off len : Nat) : Option (List Value) :=
  ifB (Nat.ble (Nat.add off len) r.size) (Row.rec (motive := fun _ => Option (List Value)) (fun _ t => listFrom t len off) (fun _ N => some (bytesList N len off)) r) none
theorem toList_spec {r : Row} {off len : Nat} {l : List Value} (h : toList r off len = some l) :
    off + len ≤ r.size ∧ l.length = len ∧ ∀ j, j < len → l[j]? = r.get (off + j) := by
  unfold toList at h
  rw [show Nat.add off len = off + len from rfl, ifB_le] at h
  split at h
  · rename_i hle
    refine ⟨hle, ?_⟩
    cases r with
    | vals n t =>
      obtain ⟨h1, h2⟩ := get_listFrom t _ _ _ h
      refine ⟨h1, fun j hj => ?_⟩
      simp only [size] at hle
      rw [get_vals, if_pos (by omega), h2 j hj]
    | bytes n N =>
      have : bytesList N len off = l := Option.some.inj h
      subst this
      obtain ⟨h1, h2⟩ := get_bytesList N len off
      refine ⟨h1, fun j hj => ?_⟩
      simp only [size] at hle
      rw [get_bytes, if_pos (by omega), h2 j hj]
  · cases h

/-- The byte that a value is. -/
def u8of : Value → Option Nat
  | .int .u8 (.ofNat b) => if b < 256 then some b else none
  | _ => none
theorem u8of_spec {v : Value} {b : Nat} (h : u8of v = some b) : v = byteV b ∧ b < 256 := by
  unfold u8of at h
  split at h
  · split at h
    · rename_i h2; have := Option.some.inj h; subst this; exact ⟨rfl, h2⟩
    · cases h
  · cases h

/-- A row of new cells: bytes are packed. -/
noncomputable def packFrom (l : List Value) : Option Nat :=
  List.rec (motive := fun _ => Option Nat) (some 0)
    (fun v _ ih => Option.rec (motive := fun _ => Option Nat) none (fun b => Option.rec (motive := fun _ => Option Nat) none (fun N => some (Nat.add b (Nat.mul 256 N))) ih) (u8of v)) l
theorem packFrom_spec (l : List Value) : ∀ (N : Nat), packFrom l = some N → ∀ i, i < l.length → l[i]? = some (byteV (N / 256 ^ i % 256)) := by
  induction l with
  | nil => intro N _ i h; exact absurd h (Nat.not_lt_zero _)
  | cons v l ih =>
    intro N h i hi
    have h' : Option.rec (motive := fun _ => Option Nat) none (fun b => Option.rec (motive := fun _ => Option Nat) none (fun N => some (b + 256 * N)) (packFrom l)) (u8of v) = some N := h
    cases hv : u8of v with
    | none => rw [hv] at h'; cases h'
    | some b =>
      rw [hv] at h'
      obtain ⟨rfl, hb⟩ := u8of_spec hv
      cases hp : packFrom l with
      | none => rw [hp] at h'; cases h'
      | some M =>
        rw [hp] at h'
        have : b + 256 * M = N := Option.some.inj h'
        subst this
        cases i with
        | zero =>
          have : (b + 256 * M) / 256 ^ 0 % 256 = b := by rw [Nat.pow_zero, Nat.div_one]; omega
          rw [this]; rfl
        | succ i =>
          rw [List.getElem?_cons_succ, ih M hp i (by simpa using hi)]
          have : (b + 256 * M) / 256 ^ (i + 1) = M / 256 ^ i := by
            rw [Nat.pow_succ', ← Nat.div_div_eq_div_mul]; congr 1; omega
          rw [this]

noncomputable def mk (u8 : Bool) (l : List Value) : Row :=
  ifB u8 (Option.rec (motive := fun _ => Row) (ofList l) (fun N => .bytes l.length N) (packFrom l)) (ofList l)
theorem mk_spec (u8 : Bool) (l : List Value) : (mk u8 l).size = l.length ∧ ∀ i v, (mk u8 l).get i = some v → l[i]? = some v := by
  have key : (ofList l).size = l.length ∧ ∀ i v, (ofList l).get i = some v → l[i]? = some v :=
    ⟨rfl, fun i v h => by rw [get_ofList] at h; exact h⟩
  unfold mk
  cases u8 with
  | false => exact key
  | true =>
    cases hp : packFrom l with
    | none => exact key
    | some N =>
      refine ⟨rfl, fun i v h => ?_⟩
      have hi := get_lt h
      have h' : get (.bytes l.length N) i = some v := h
      change i < l.length at hi
      rw [get_bytes, if_pos hi] at h'
      rw [packFrom_spec l N hp i hi]; exact h'

/-- len cells from off on, as a row of their own; bytes are packed. -/
noncomputable def slice (r : Row) (off len : Nat) : Option Row :=
  ifB (Nat.ble (Nat.add off len) r.size)
    (Row.rec (motive := fun _ => Option Row)
      (fun _ t => Option.rec (motive := fun _ => Option Row) (Nat.rec (motive := fun _ => Option Row) (some (.vals len t)) (fun _ _ => none) off) (fun l => some (mk true l)) (listFrom t len off))
      (fun _ N => some (.bytes len (Nat.mod (Nat.div N (p8 off)) (p8 len)))) r) none

theorem slice_spec {r q : Row} {off len : Nat} (h : slice r off len = some q) :
    off + len ≤ r.size ∧ q.size = len ∧ ∀ i v, q.get i = some v → i < len ∧ r.get (off + i) = some v := by
  unfold slice at h
  rw [show Nat.add off len = off + len from rfl, ifB_le] at h
  split at h
  · rename_i hle
    refine ⟨hle, ?_⟩
    cases r with
    | vals n t =>
      simp only [size] at hle
      have h' : Option.rec (motive := fun _ => Option Row) (Nat.rec (motive := fun _ => Option Row) (some (.vals len t)) (fun _ _ => none) off) (fun l => some (mk true l)) (listFrom t len off) = some q := h
      cases hl : listFrom t len off with
      | some l =>
        rw [hl] at h'
        have : mk true l = q := Option.some.inj h'
        subst this
        obtain ⟨h1, h2⟩ := get_listFrom t _ _ _ hl
        obtain ⟨k1, k2⟩ := mk_spec true l
        refine ⟨k1.trans h1, fun i v hv => ?_⟩
        have hi := get_lt hv
        rw [k1, h1] at hi
        have hv' := k2 i v hv
        rw [h2 i hi] at hv'
        exact ⟨hi, by rw [get_vals, if_pos (by omega)]; exact hv'⟩
      | none =>
        rw [hl] at h'
        cases off with
        | zero =>
          have : Row.vals len t = q := Option.some.inj h'
          subst this
          refine ⟨rfl, fun i v hv => ?_⟩
          have hi := get_lt hv
          simp only [size] at hi
          rw [get_vals, if_pos hi] at hv
          exact ⟨hi, by rw [get_vals, if_pos (by omega)]; simpa using hv⟩
        | succ o => cases h'
    | bytes n N =>
      have : Row.bytes len (N / 256 ^ off % 256 ^ len) = q := Option.some.inj h
      subst this
      simp only [size] at hle
      refine ⟨rfl, fun i v hv => ?_⟩
      have hi := get_lt hv
      simp only [size] at hi
      rw [get_bytes, if_pos hi, low _ _ _ hi, div_mod_small] at hv
      exact ⟨hi, by rw [get_bytes, if_pos (by omega)]; exact hv⟩
  · cases h

/-- One row behind the other. -/
noncomputable def append (r s : Row) : Option Row :=
  Row.rec (motive := fun _ => Option Row)
    (fun n t => Nat.rec (motive := fun _ => Option Row) (some s)
      (fun _ _ => Option.rec (motive := fun _ => Option Row) none (fun l => some (.vals (Nat.add n l.length) (putAll l n t))) (toList s 0 s.size)) n)
    (fun n N => Row.rec (motive := fun _ => Option Row)
        (fun m _ => Nat.rec (motive := fun _ => Option Row) (some r) (fun _ _ => Nat.rec (motive := fun _ => Option Row) (some s) (fun _ _ => none) n) m)
        (fun m M => some (.bytes (Nat.add n m) (Nat.add (Nat.mod N (p8 n)) (Nat.mul (p8 n) M)))) s) r

theorem append_spec {r s q : Row} (h : append r s = some q) :
    q.size = r.size + s.size ∧ ∀ i v, q.get i = some v → (i < r.size ∧ r.get i = some v) ∨ (r.size ≤ i ∧ i < r.size + s.size ∧ s.get (i - r.size) = some v) := by
  cases r with
  | vals n t =>
    cases n with
    | zero =>
      have : s = q := Option.some.inj h
      subst this
      exact ⟨by simp [size], fun i v hv => .inr ⟨Nat.zero_le _, by simpa [size] using get_lt hv, hv⟩⟩
    | succ n =>
      have h' : Option.rec (motive := fun _ => Option Row) none (fun l => some (.vals (n + 1 + l.length) (putAll l (n + 1) t))) (toList s 0 s.size) = some q := h
      cases hl : toList s 0 s.size with
      | none => rw [hl] at h'; cases h'
      | some l =>
        rw [hl] at h'
        obtain ⟨_, h1, h2⟩ := toList_spec hl
        have : Row.vals (n + 1 + l.length) (putAll l (n + 1) t) = q := Option.some.inj h'
        subst this
        refine ⟨by simp [size] at h1 ⊢; exact h1, fun i v hv => ?_⟩
        have hi := get_lt hv
        simp only [size] at hi
        rw [get_vals, if_pos hi, get_putAll] at hv
        show (i < n + 1 ∧ _) ∨ (n + 1 ≤ i ∧ i < n + 1 + s.size ∧ s.get (i - (n + 1)) = some v)
        by_cases h3 : i < n + 1
        · rw [if_neg (by omega)] at hv
          exact .inl ⟨h3, by rw [get_vals, if_pos h3]; exact hv⟩
        · rw [if_pos ⟨by omega, hi⟩, h2 _ (by omega), Nat.zero_add] at hv
          exact .inr ⟨by omega, by omega, hv⟩
  | bytes n N =>
    cases s with
    | vals m u =>
      cases m with
      | zero =>
        have : Row.bytes n N = q := Option.some.inj h
        subst this
        exact ⟨by simp [size], fun i v hv => .inl ⟨get_lt hv, hv⟩⟩
      | succ m =>
        cases n with
        | zero =>
          have : Row.vals (m + 1) u = q := Option.some.inj h
          subst this
          exact ⟨by simp [size], fun i v hv => .inr ⟨Nat.zero_le _, by simpa [size] using get_lt hv, hv⟩⟩
        | succ n => cases h
    | bytes m M =>
      have : Row.bytes (n + m) (N % 256 ^ n + 256 ^ n * M) = q := Option.some.inj h
      subst this
      refine ⟨rfl, fun i v hv => ?_⟩
      have hi := get_lt hv
      simp only [size] at hi ⊢
      rw [get_bytes, if_pos hi] at hv
      by_cases h1 : i < n
      · rw [lowAdd _ _ _ _ h1, low _ _ _ h1] at hv
        exact .inl ⟨h1, by rw [get_bytes, if_pos h1]; exact hv⟩
      · rw [highAdd _ _ _ _ (Nat.mod_lt _ (Nat.pow_pos (by omega))) (by omega)] at hv
        exact .inr ⟨by omega, hi, by rw [get_bytes, if_pos (by omega)]; exact hv⟩

/-- s's cells over r's, from off on. -/
noncomputable def splice (r : Row) (off : Nat) (s : Row) : Option Row :=
  ifB (Nat.ble (Nat.add off s.size) r.size)
    (Row.rec (motive := fun _ => Option Row)
      (fun n t => Option.rec (motive := fun _ => Option Row) none (fun l => some (.vals n (putAll l off t))) (toList s 0 s.size))
      (fun n N => Row.rec (motive := fun _ => Option Row) (fun m _ => Nat.rec (motive := fun _ => Option Row) (some r) (fun _ _ => none) m)
        (fun m M => some (.bytes n (Nat.add (Nat.mod N (p8 off)) (Nat.mul (p8 off) (Nat.add (Nat.mod M (p8 m)) (Nat.mul (p8 m) (Nat.div N (p8 (Nat.add off m))))))))) s) r) none

theorem splice_spec {r s q : Row} {off : Nat} (h : splice r off s = some q) :
    off + s.size ≤ r.size ∧ q.size = r.size ∧ ∀ i v, q.get i = some v → (off ≤ i ∧ i < off + s.size ∧ s.get (i - off) = some v) ∨ ((i < off ∨ off + s.size ≤ i) ∧ r.get i = some v) := by
  unfold splice at h
  rw [show Nat.add off s.size = off + s.size from rfl, ifB_le] at h
  split at h
  · rename_i hle
    refine ⟨hle, ?_⟩
    cases r with
    | vals n t =>
      have h' : Option.rec (motive := fun _ => Option Row) none (fun l => some (.vals n (putAll l off t))) (toList s 0 s.size) = some q := h
      cases hl : toList s 0 s.size with
      | none => rw [hl] at h'; cases h'
      | some l =>
        rw [hl] at h'
        obtain ⟨_, h1, h2⟩ := toList_spec hl
        have : Row.vals n (putAll l off t) = q := Option.some.inj h'
        subst this
        refine ⟨rfl, fun i v hv => ?_⟩
        have hi := get_lt hv
        simp only [size] at hi
        rw [get_vals, if_pos hi, get_putAll] at hv
        by_cases h3 : off ≤ i ∧ i < off + l.length
        · rw [if_pos h3, h2 _ (by omega), Nat.zero_add] at hv
          exact .inl ⟨h3.1, by omega, hv⟩
        · rw [if_neg h3] at hv
          exact .inr ⟨by omega, by rw [get_vals, if_pos hi]; exact hv⟩
    | bytes n N =>
      cases s with
      | vals m u =>
        cases m with
        | zero =>
          have : Row.bytes n N = q := Option.some.inj h
          subst this
          refine ⟨rfl, fun i v hv => .inr ⟨?_, hv⟩⟩
          simp only [size]; omega
        | succ m => cases h
      | bytes m M =>
        have : Row.bytes n (N % 256 ^ off + 256 ^ off * (M % 256 ^ m + 256 ^ m * (N / 256 ^ (off + m)))) = q := Option.some.inj h
        subst this
        refine ⟨rfl, fun i v hv => ?_⟩
        have hi := get_lt hv
        simp only [size] at hi hle ⊢
        rw [get_bytes, if_pos hi] at hv
        by_cases h1 : i < off
        · rw [lowAdd _ _ _ _ h1, low _ _ _ h1] at hv
          exact .inr ⟨.inl h1, by rw [get_bytes, if_pos hi]; exact hv⟩
        · rw [highAdd _ _ _ _ (Nat.mod_lt _ (Nat.pow_pos (by omega))) (by omega)] at hv
          by_cases h2 : i - off < m
          · rw [lowAdd _ _ _ _ h2, low _ _ _ h2] at hv
            exact .inl ⟨by omega, by omega, by rw [get_bytes, if_pos h2]; exact hv⟩
          · rw [highAdd _ _ _ _ (Nat.mod_lt _ (Nat.pow_pos (by omega))) (by omega), div_mod_small] at hv
            refine .inr ⟨.inr (by omega), ?_⟩
            rw [get_bytes, if_pos hi]
            have : off + m + (i - off - m) = i := by omega
            rw [this] at hv; exact hv
  · cases h

/-- One cell stored. -/
noncomputable def set (r : Row) (i : Nat) (v : Value) : Option Row :=
  ifB (Nat.blt i r.size)
    (Row.rec (motive := fun _ => Option Row) (fun n t => some (.vals n (t.put i v)))
      (fun _ _ => Option.rec (motive := fun _ => Option Row) none (fun b => splice r i (.bytes 1 b)) (u8of v)) r) none

theorem set_spec {r q : Row} {i : Nat} {v : Value} (h : set r i v = some q) :
    i < r.size ∧ q.size = r.size ∧ ∀ j u, q.get j = some u → (j = i ∧ u = v) ∨ (j ≠ i ∧ r.get j = some u) := by
  unfold set at h
  rw [ifB_lt] at h
  split at h
  · rename_i hlt
    refine ⟨hlt, ?_⟩
    cases r with
    | vals n t =>
      have : Row.vals n (t.put i v) = q := Option.some.inj h
      subst this
      refine ⟨rfl, fun j u hu => ?_⟩
      have hj := get_lt hu
      simp only [size] at hj
      rw [get_vals, if_pos hj, Tr.get_put] at hu
      split at hu
      · rename_i e; exact .inl ⟨e, (Option.some.inj hu).symm⟩
      · rename_i e; exact .inr ⟨e, by rw [get_vals, if_pos hj]; exact hu⟩
    | bytes n N =>
      have h' : Option.rec (motive := fun _ => Option Row) none (fun b => splice (.bytes n N) i (.bytes 1 b)) (u8of v) = some q := h
      cases hv : u8of v with
      | none => rw [hv] at h'; cases h'
      | some b =>
        rw [hv] at h'
        obtain ⟨rfl, hb⟩ := u8of_spec hv
        obtain ⟨h1, h2, h3⟩ := splice_spec h'
        refine ⟨h2, fun j u hu => ?_⟩
        rcases h3 j u hu with ⟨a1, a2, a3⟩ | ⟨a1, a2⟩
        · simp only [size] at a2
          have : j = i := by omega
          subst this
          refine .inl ⟨rfl, ?_⟩
          rw [Nat.sub_self, get_bytes, if_pos (by omega)] at a3
          have := Option.some.inj a3
          rw [← this]; simp only [byteV, Nat.pow_zero, Nat.div_one, Nat.mod_eq_of_lt hb]
        · simp only [size] at a1
          exact .inr ⟨by omega, a2⟩
  · cases h

def isZero8 : List Value → Bool
  | [.int .u8 0] => true
  | _ => false
theorem isZero8_spec {l : List Value} (h : isZero8 l = true) : l = [.int .u8 0] := by
  unfold isZero8 at h
  split at h
  · rfl
  · cases h

/-- n times the same cells. -/
noncomputable def rep (n : Nat) (zero : List Value) : Row := ifB (isZero8 zero) (.bytes n 0) (ofList (List.replicate n zero).flatten)
theorem rep_spec (n : Nat) (zero : List Value) :
    (rep n zero).size = n * zero.length ∧ ∀ i v, (rep n zero).get i = some v → (List.replicate n zero).flatten[i]? = some v := by
  unfold rep
  rw [ifB_eq]
  split
  · rename_i hz
    rw [isZero8_spec hz]
    refine ⟨by simp [size], fun i v h => ?_⟩
    have hi := get_lt h
    change i < n at hi
    rw [get_bytes, if_pos hi, Nat.zero_div] at h
    rw [← Option.some.inj h]
    have hl : (List.replicate n [Value.int .u8 0]).flatten = List.replicate n (Value.int .u8 0) := by simp
    rw [hl, List.getElem?_replicate, if_pos hi]; rfl
  · exact ⟨by rw [size_ofList]; simp, fun i v h => by rw [get_ofList] at h; exact h⟩

end Row
end Go.Ae

namespace Go.Ae

/-- Where an abstract block lies: its block, the shift of its cells, how many cells that block has. -/
structure Pl where
  b : Nat
  σ : Nat
  N : Nat
abbrev Gm := Nat → Option Pl
def Gm.le (γ γ' : Gm) : Prop := ∀ B p, γ B = some p → γ' B = some p
theorem Gm.le_refl (γ : Gm) : γ.le γ := fun _ _ h => h
theorem Gm.le_trans {a b c : Gm} (h : a.le b) (k : b.le c) : a.le c := fun B p hp => k B p (h B p hp)

/-- Capacities from here on say that the capacity is not known (elements of so many cells). -/
abbrev BIG : Nat := 9223372036854775808
/-- An empty slice that is not nil, its place not known. -/
abbrev BIGE : Nat := 18446744073709551616

mutual
inductive VR (γ : Gm) : Value → Value → Prop where
  | bool (b : Bool) : VR γ (.bool b) (.bool b)
  | int (k : IntKind) (n : Int) : VR γ (.int k n) (.int k n)
  | string (s : ByteArray) : VR γ (.string s) (.string s)
  | nilFunc : VR γ .nilFunc .nilFunc
  | nilIface : VR γ .nilIface .nilIface
  | ptrNil : VR γ (.pointer none) (.pointer none)
  | ptr {B off : Nat} {p : Pl} (h : γ B = some p) : VR γ (.pointer (some ⟨B, off, none⟩)) (.pointer (some ⟨p.b, off + p.σ, none⟩))
  | sliceNil : VR γ (.slice none 0 0) (.slice none 0 0)
  | slice {B off len cap : Nat} {p : Pl} (h : γ B = some p) (hc : cap < BIG) : VR γ (.slice (some ⟨B, off, none⟩) len cap) (.slice (some ⟨p.b, off + p.σ, none⟩) len cap)
  | sliceU {B off len k cap : Nat} {p : Pl} (h : γ B = some p) (hk : k < BIG) (hl : len ≤ cap) (hN : off + p.σ + cap * k ≤ p.N) :
      VR γ (.slice (some ⟨B, off, none⟩) len (BIG + k)) (.slice (some ⟨p.b, off + p.σ, none⟩) len cap)
  | sliceE (a : Addr) (cap : Nat) : VR γ (.slice (some ⟨0, 0, none⟩) 0 BIGE) (.slice (some a) 0 cap)
  | mapNil : VR γ (.map none) (.map none)
  | map {B : Nat} {p : Pl} (h : γ B = some p) : VR γ (.map (some B)) (.map (some p.b))
  | func {fn : Fn} {a a' c c' : Array Value} (hf : ∀ l, fn ≠ .yield l) (ha : VRs γ a.toList a'.toList) (hc : VRs γ c.toList c'.toList) : VR γ (.func fn a c) (.func fn a' c')
  | yield {B : Nat} {p : Pl} (h : γ B = some p) : VR γ (.func (.yield B) #[] #[]) (.func (.yield p.b) #[] #[])
  | iface {t : TypeId} {v v' : Value} (h : VR γ v v') : VR γ (.iface t v) (.iface t v')
  | agg {cs cs' : Array Value} (h : VRs γ cs.toList cs'.toList) : VR γ (.agg cs) (.agg cs')
  | tuple {cs cs' : Array Value} (h : VRs γ cs.toList cs'.toList) : VR γ (.tuple cs) (.tuple cs')
inductive VRs (γ : Gm) : List Value → List Value → Prop where
  | nil : VRs γ [] []
  | cons {v v' : Value} {l l' : List Value} (h : VR γ v v') (hl : VRs γ l l') : VRs γ (v :: l) (v' :: l')
end

mutual
theorem VR.mono {γ γ' : Gm} (hg : γ.le γ') : ∀ {v v' : Value}, VR γ v v' → VR γ' v v'
  | _, _, .bool b => .bool b
  | _, _, .int k n => .int k n
  | _, _, .string s => .string s
  | _, _, .nilFunc => .nilFunc
  | _, _, .nilIface => .nilIface
  | _, _, .ptrNil => .ptrNil
  | _, _, .ptr h => .ptr (hg _ _ h)
  | _, _, .sliceNil => .sliceNil
  | _, _, .slice h hc => .slice (hg _ _ h) hc
  | _, _, .sliceU h hk hl hN => .sliceU (hg _ _ h) hk hl hN
  | _, _, .sliceE a c => .sliceE a c
  | _, _, .mapNil => .mapNil
  | _, _, .map h => .map (hg _ _ h)
  | _, _, .func hf ha hc => .func hf (VRs.mono hg ha) (VRs.mono hg hc)
  | _, _, .yield h => .yield (hg _ _ h)
  | _, _, .iface h => .iface (VR.mono hg h)
  | _, _, .agg h => .agg (VRs.mono hg h)
  | _, _, .tuple h => .tuple (VRs.mono hg h)
theorem VRs.mono {γ γ' : Gm} (hg : γ.le γ') : ∀ {l l' : List Value}, VRs γ l l' → VRs γ' l l'
  | _, _, .nil => .nil
  | _, _, .cons h hl => .cons (VR.mono hg h) (VRs.mono hg hl)
end

theorem VRs.length {γ : Gm} : ∀ {l l' : List Value}, VRs γ l l' → l.length = l'.length
  | _, _, .nil => rfl
  | _, _, .cons _ hl => by simp [hl.length]
theorem VRs.get {γ : Gm} : ∀ {l l' : List Value}, VRs γ l l' → ∀ (i : Nat) (v : Value), l[i]? = some v → ∃ v', l'[i]? = some v' ∧ VR γ v v'
  | _, _, .nil, i, v, h => by simp at h
  | _, _, .cons hv hl, i, v, h => by
    cases i with
    | zero => simp at h; subst h; exact ⟨_, rfl, hv⟩
    | succ i => simpa using hl.get i v (by simpa using h)
theorem VRs.of {γ : Gm} : ∀ {l l' : List Value}, l.length = l'.length → (∀ (i : Nat) (v v' : Value), l[i]? = some v → l'[i]? = some v' → VR γ v v') → VRs γ l l'
  | [], [], _, _ => .nil
  | [], _ :: _, h, _ => by simp at h
  | _ :: _, [], h, _ => by simp at h
  | v :: l, v' :: l', h, k => .cons (k 0 v v' rfl rfl) (VRs.of (by simpa using h) fun i u u' hu hu' => k (i + 1) u u' (by simpa using hu) (by simpa using hu'))
theorem VRs.append {γ : Gm} : ∀ {a a' b b' : List Value}, VRs γ a a' → VRs γ b b' → VRs γ (a ++ b) (a' ++ b')
  | _, _, _, _, .nil, h => h
  | _, _, _, _, .cons hv hl, h => .cons hv (hl.append h)
theorem VRs.drop {γ : Gm} : ∀ (n : Nat) {l l' : List Value}, VRs γ l l' → VRs γ (l.drop n) (l'.drop n)
  | 0, _, _, h => h
  | _ + 1, _, _, .nil => .nil
  | n + 1, _, _, .cons _ hl => hl.drop n
theorem VRs.take {γ : Gm} : ∀ (n : Nat) {l l' : List Value}, VRs γ l l' → VRs γ (l.take n) (l'.take n)
  | 0, _, _, _ => .nil
  | _ + 1, _, _, .nil => .nil
  | n + 1, _, _, .cons h hl => .cons h (hl.take n)
theorem VRs.one {γ : Gm} {v v' : Value} (h : VR γ v v') : VRs γ [v] [v'] := .cons h .nil

/-- A value that bears no address stands for itself. -/
def plainV : Value → Bool
  | .bool _ | .int _ _ | .string _ | .nilFunc | .nilIface | .pointer none | .map none => true
  | .slice none 0 0 => true
  | .func (.func _) ⟨[]⟩ ⟨[]⟩ => true
  | _ => false
theorem plainV_vr {γ : Gm} {v : Value} (h : plainV v = true) : VR γ v v := by
  unfold plainV at h
  split at h <;> first | constructor | skip
  · exact fun l h => by cases h
  · exact .nil
  · exact .nil
  · cases h
def constV : Value → Bool
  | .agg cs => cs.toList.all plainV
  | .tuple cs => cs.toList.all plainV
  | .iface _ v => plainV v
  | v => plainV v
theorem VRs.refl_of {γ : Gm} : ∀ {l : List Value}, l.all plainV = true → VRs γ l l
  | [], _ => .nil
  | v :: l, h => by
    simp only [List.all_cons, Bool.and_eq_true] at h
    exact .cons (plainV_vr h.1) (VRs.refl_of h.2)
theorem constV_vr {γ : Gm} {v : Value} (h : constV v = true) : VR γ v v := by
  unfold constV at h
  split at h
  · exact .agg (VRs.refl_of h)
  · exact .tuple (VRs.refl_of h)
  · exact .iface (plainV_vr h)
  · exact plainV_vr h

/-! ### Temporaries -/
/-- The region's own temporaries, the latest first; those that the mask keeps beyond their region, too. -/
structure Tm where
  loc : List (Nat × Value)
  glob : List (Nat × Value)
  mask : Nat

noncomputable def look (l : List (Nat × Value)) (t : Nat) : Option Value :=
  List.rec (motive := fun _ => Option Value) none (fun p _ ih => Bool.rec (motive := fun _ => Option Value) ih (some p.2) (Nat.beq p.1 t)) l
theorem look_cons (p : Nat × Value) (l : List (Nat × Value)) (t : Nat) : look (p :: l) t = if p.1 = t then some p.2 else look l t := ifB_beq _ _ _ _
noncomputable def strike (l : List (Nat × Value)) (t : Nat) : List (Nat × Value) :=
  List.rec (motive := fun _ => List (Nat × Value)) [] (fun p l ih => Bool.rec (motive := fun _ => List (Nat × Value)) (p :: ih) l (Nat.beq p.1 t)) l
theorem strike_cons (p : Nat × Value) (l : List (Nat × Value)) (t : Nat) : strike (p :: l) t = if p.1 = t then l else p :: strike l t := ifB_beq _ _ _ _
theorem look_strike : ∀ (l : List (Nat × Value)) (t i : Nat), i ≠ t → look (strike l t) i = look l i
  | [], _, _, _ => rfl
  | p :: l, t, i, hi => by
    rw [strike_cons, look_cons]
    split
    · rename_i hp; rw [if_neg (by omega)]
    · rw [look_cons, look_strike l t i hi]

namespace Tm
noncomputable def get (m : Tm) (t : Nat) : Option Value :=
  Option.rec (motive := fun _ => Option Value) (look m.glob t) (fun v => some v) (look m.loc t)
theorem get_eq (m : Tm) (t : Nat) : m.get t = match look m.loc t with | some v => some v | none => look m.glob t := by
  unfold get; cases look m.loc t <;> rfl
abbrev keeps (mask t : Nat) : Nat := Nat.land (Nat.shiftRight mask (Nat.mul 2 t)) 3
noncomputable def put (m : Tm) (t : Nat) (v : Value) : Tm :=
  Tm.rec (motive := fun _ => Tm) (fun loc glob mask => Nat.rec (motive := fun _ => Tm) ⟨(t, v) :: loc, glob, mask⟩
    (fun k _ => Nat.rec (motive := fun _ => Tm) ⟨(t, v) :: loc, (t, v) :: glob, mask⟩ (fun _ _ => ⟨(t, v) :: loc, (t, v) :: strike glob t, mask⟩) k) (Nat.land (Nat.shiftRight mask (Nat.mul 2 t)) 3)) m
theorem put_eq (m : Tm) (t : Nat) (v : Value) : m.put t v = if keeps m.mask t = 0 then ⟨(t, v) :: m.loc, m.glob, m.mask⟩ else if keeps m.mask t = 1 then ⟨(t, v) :: m.loc, (t, v) :: m.glob, m.mask⟩ else ⟨(t, v) :: m.loc, (t, v) :: strike m.glob t, m.mask⟩ := by
  obtain ⟨l, g, k⟩ := m
  show (Nat.rec (motive := fun _ => Tm) _ (fun k _ => Nat.rec (motive := fun _ => Tm) _ (fun _ _ => _) k) (keeps k t) : Tm) = _
  dsimp only
  cases keeps k t with
  | zero => rfl
  | succ n => cases n <;> rfl
noncomputable def clean (m : Tm) : Tm := Tm.rec (motive := fun _ => Tm) (fun _ glob mask => ⟨[], glob, mask⟩) m
theorem clean_eq (m : Tm) : m.clean = ⟨[], m.glob, m.mask⟩ := by cases m; rfl

/-- The temporaries stand for a frame's: what is known of each holds of the frame's. -/
structure R (γ : Gm) (m : Tm) (a : Array Value) : Prop where
  kept : ∀ t v, look m.glob t = some v → keeps m.mask t ≠ 0
  loc : ∀ t v, look m.loc t = some v → ∃ v', a[t]? = some v' ∧ VR γ v v'
  glob : ∀ t v, look m.glob t = some v → ∃ v', a[t]? = some v' ∧ VR γ v v'

theorem R.get {γ : Gm} {m : Tm} {a : Array Value} (h : R γ m a) {t : Nat} {v : Value} (hv : m.get t = some v) : ∃ v', a[t]? = some v' ∧ VR γ v v' := by
  rw [get_eq] at hv
  split at hv
  · rename_i hl; cases hv; exact h.loc _ _ hl
  · exact h.glob _ _ hv
theorem R.mono {γ γ' : Gm} (hg : γ.le γ') {m : Tm} {a : Array Value} (h : R γ m a) : R γ' m a :=
  ⟨h.kept, fun t v ht => let ⟨v', h1, h2⟩ := h.loc t v ht; ⟨v', h1, h2.mono hg⟩, fun t v ht => let ⟨v', h1, h2⟩ := h.glob t v ht; ⟨v', h1, h2.mono hg⟩⟩
theorem R.clean {γ : Gm} {m : Tm} {a : Array Value} (h : R γ m a) : R γ m.clean a := by
  rw [clean_eq]; exact ⟨h.kept, fun t v ht => by simp [look] at ht, h.glob⟩
theorem R.put {γ : Gm} {m : Tm} {a : Array Value} (h : R γ m a) {t : Nat} {v v' : Value} (hv : VR γ v v') (ht : t < a.size) : R γ (m.put t v) (a.setIfInBounds t v') := by
  have hset : ∀ i u, (∃ u', a[i]? = some u' ∧ VR γ u u') → i ≠ t → ∃ u', (a.setIfInBounds t v')[i]? = some u' ∧ VR γ u u' := by
    intro i u ⟨u', h1, h2⟩ hi
    exact ⟨u', by rw [Array.getElem?_setIfInBounds, if_neg (fun e => hi e.symm)]; exact h1, h2⟩
  have hsame : (a.setIfInBounds t v')[t]? = some v' := by rw [Array.getElem?_setIfInBounds, if_pos rfl, if_pos ht]
  have hloc : ∀ i u, look ((t, v) :: m.loc) i = some u → ∃ u', (a.setIfInBounds t v')[i]? = some u' ∧ VR γ u u' := by
    intro i u hu
    rw [look_cons] at hu
    split at hu
    · rename_i e; simp only at e hu; cases hu; subst e; exact ⟨v', hsame, hv⟩
    · rename_i e; simp only at e; exact hset i u (h.loc i u hu) (fun x => e x.symm)
  rw [Tm.put_eq]
  split
  · rename_i hk
    refine ⟨h.kept, hloc, fun i u hu => hset i u (h.glob i u hu) ?_⟩
    rintro rfl
    exact h.kept _ _ hu hk
  · rename_i hk
    split
    · refine ⟨fun i u hu => ?_, hloc, fun i u hu => ?_⟩
      · simp only at hu
        rw [look_cons] at hu
        split at hu
        · rename_i e; simp only at e; subst e; exact hk
        · exact h.kept _ _ hu
      · simp only at hu
        rw [look_cons] at hu
        split at hu
        · rename_i e; simp only at e hu; cases hu; subst e; exact ⟨v', hsame, hv⟩
        · rename_i e; simp only at e
          exact hset i u (h.glob i u hu) (fun x => e x.symm)
    · refine ⟨fun i u hu => ?_, hloc, fun i u hu => ?_⟩
      · simp only at hu
        rw [look_cons] at hu
        split at hu
        · rename_i e; simp only at e; subst e; exact hk
        · rename_i e; simp only at e; rw [look_strike _ _ _ (fun x => e x.symm)] at hu; exact h.kept _ _ hu
      · simp only at hu
        rw [look_cons] at hu
        split at hu
        · rename_i e; simp only at e hu; cases hu; subst e; exact ⟨v', hsame, hv⟩
        · rename_i e; simp only at e
          rw [look_strike _ _ _ (fun x => e x.symm)] at hu
          exact hset i u (h.glob i u hu) (fun x => e x.symm)
end Tm

/-- An operand's value. -/
noncomputable def ev (m : Tm) (x : Operand) : Option Value :=
  Operand.rec (motive := fun _ => Option Value) (fun t => m.get t) (fun v => ifB (constV v) (some v) none) (fun _ => none) (fun f => some (.func (.func f) #[] #[])) x
theorem ev_vr {γ : Gm} {m : Tm} {a : Act} (h : Tm.R γ m a.tmps) {x : Operand} {v : Value} (hv : ev m x = some v) : VR γ v (a.eval x) := by
  cases x with
  | tmp t =>
    obtain ⟨v', h1, h2⟩ := h.get (t := t) hv
    have : a.eval (.tmp t) = v' := by
      show a.tmps.getD t undef = v'
      rw [Array.getD_eq_getD_getElem?, h1]; rfl
    rw [this]; exact h2
  | const u =>
    have h' : ifB (constV u) (some u) none = some v := hv
    rw [ifB_eq] at h'
    split at h'
    · rename_i hc; cases h'; exact constV_vr hc
    · cases h'
  | global g => cases hv
  | func f => cases hv; exact plainV_vr rfl

/-! ### Heap -/
/-- A loop over a function, as its record has it. -/
structure LoopO where
  state : LoopState
  pending : Option Code
  fn : FuncId
  tm : Tm
  ntmps : Nat
  params : Array Tmp
  assign : Code
  body : Code
  defers : Nat

inductive AObj where
  | row (r : Row)
  | map (es : List MapEntry) (clock : Nat)
  | strIter (s : ByteArray) (pos : Nat)
  | loop (l : LoopO)
  | deferred
  | dead

structure Hp where
  next : Nat
  m : Tr AObj

inductive ER (γ : Gm) : List MapEntry → List MapEntry → Prop where
  | nil : ER γ [] []
  | cons {e e' : MapEntry} {l l' : List MapEntry} (hk : VR γ e.key e'.key) (hv : VR γ e.val e'.val) (hb : e.born = e'.born) (hl : ER γ l l') : ER γ (e :: l) (e' :: l')
theorem ER.mono {γ γ' : Gm} (hg : γ.le γ') : ∀ {l l' : List MapEntry}, ER γ l l' → ER γ' l l'
  | _, _, .nil => .nil
  | _, _, .cons hk hv hb hl => .cons (hk.mono hg) (hv.mono hg) hb (hl.mono hg)

/-- Row of cells against the model's cells. -/
structure RowR (γ : Gm) (p : Pl) (r : Row) (c : Array Value) (fr : Nat × Nat) : Prop where
  size : c.size = p.N
  fits : r.size + p.σ ≤ p.N
  cells : ∀ i v, r.get i = some v → ∃ v', c[i + p.σ]? = some v' ∧ VR γ v v'
  op : fr.1 = fr.2 ∨ c.size ≤ fr.1

theorem RowR.open_ {γ : Gm} {p : Pl} {r : Row} {c : Array Value} {fr : Nat × Nat} (h : RowR γ p r c fr) : ∀ i, i < c.size → ¬ (fr.1 ≤ i ∧ i < fr.2) := by
  intro i hi; rcases h.op with e | e <;> omega

inductive OR (γ : Gm) (p : Pl) : AObj → Obj → Prop where
  | row {r : Row} {c : Array Value} {t : TypeId} {fr : Nat × Nat} (h : RowR γ p r c fr) : OR γ p (.row r) (.cells c t fr)
  | map {es : List MapEntry} {es' : Array MapEntry} {clock : Nat} (h : ER γ es es'.toList) : OR γ p (.map es clock) (.map es' clock)
  | strIter (s : ByteArray) (pos : Nat) (hσ : p.σ = 0) : OR γ p (.strIter s pos) (.stringIter s pos)
  | loop {l : LoopO} {l' : Loop} {d : Pl} (hs : l'.state = l.state) (hp : l'.pending = l.pending) (hf : l'.fn = l.fn) (ht : Tm.R γ l.tm l'.tmps) (hn : l'.tmps.size = l.ntmps)
      (hps : l'.params = l.params) (ha : l'.assign = l.assign) (hb : l'.body = l.body) (hd : γ l.defers = some d) (hd' : l'.defers = d.b) : OR γ p (.loop l) (.loop l')
  | deferred : OR γ p .deferred (.deferred (some []))

theorem RowR.mono {γ γ' : Gm} (hg : γ.le γ') {p : Pl} {r : Row} {c : Array Value} {fr : Nat × Nat} (h : RowR γ p r c fr) : RowR γ' p r c fr :=
  ⟨h.size, h.fits, fun i v hv => let ⟨v', h1, h2⟩ := h.cells i v hv; ⟨v', h1, h2.mono hg⟩, h.op⟩
theorem OR.mono {γ γ' : Gm} (hg : γ.le γ') {p : Pl} {o : AObj} {o' : Obj} (h : OR γ p o o') : OR γ' p o o' := by
  cases h with
  | row h => exact .row (h.mono hg)
  | map h => exact .map (h.mono hg)
  | strIter s pos hσ => exact .strIter s pos hσ
  | loop hs hp hf ht hn hps ha hb hd hd' => exact .loop hs hp hf (ht.mono hg) hn hps ha hb (hg _ _ hd) hd'
  | deferred => exact .deferred

/-- What was there when the evaluator began lies as it lay. -/
structure Fr0 (w0 w : World) : Prop where
  os : w.os = w0.os
  tape : w.tape = w0.tape
  output : w.output = w0.output
  size : w0.heap.size ≤ w.heap.size
  block : ∀ k, k < w0.heap.size → w.heap[k]? = w0.heap[k]?

/-- The heap stands for the world. 'pend': what lies at a block that the world doesn't have yet. -/
structure HR (w0 : World) (γ : Gm) (pd : Nat → Option AObj) (h : Hp) (w : World) : Prop where
  fr0 : Fr0 w0 w
  dom : ∀ B p, γ B = some p → B < h.next ∧ w0.heap.size ≤ p.b ∧ p.b < w.heap.size
  inj : ∀ B B' p p' o o', h.m.get B = some o → h.m.get B' = some o' → o ≠ .dead → o' ≠ .dead → γ B = some p → γ B' = some p' → p.b = p'.b → B = B'
  obj : ∀ B o p, h.m.get B = some o → o ≠ .dead → γ B = some p → ∃ o', w.heap[p.b]? = some o' ∧ OR γ p o o'
  fresh : ∀ B, h.next ≤ B → h.m.get B = none
  pend : ∀ B, B < h.next → γ B = none → h.m.get B = pd B
  keep : ∀ B o, pd B = some o → B < h.next ∧ γ B = none
end Go.Ae

namespace Go.Ae
variable {P : Program} {γ : Gm} {m : Tm} {a : Act} {w : World}

theorem r_under {t : TypeId} {d : TypeDesc} (h : P.underlying t = some d) (w : World) : (underlying t).run P w = .ok d w := run_underlying h w
theorem r_info {t : TypeId} {i : TypeInfo} (h : P.info? t = some i) (w : World) : (typeInfo t).run P w = .ok i w := by
  simp only [typeInfo, bind, Sem.run_bind', run_program, Result.andThen_ok, h]; rfl
theorem r_size {t : TypeId} {i : TypeInfo} (h : P.info? t = some i) (w : World) : (sizeOf t).run P w = .ok i.size w := by
  simp only [sizeOf, bind, Sem.run_bind', r_info h, Result.andThen_ok]; rfl
theorem r_zero {t : TypeId} {i : TypeInfo} {z : Value} (h : P.info? t = some i) (hz : i.zero = some z) (w : World) : (zeroValue t).run P w = .ok z w := by
  simp only [zeroValue, bind, Sem.run_bind', r_info h, Result.andThen_ok, hz]; rfl

def aggD : TypeDesc → Bool
  | .struct _ | .array _ _ => true
  | _ => false
theorem r_isAgg {t : TypeId} {d : TypeDesc} (h : P.underlying t = some d) (w : World) : (isAgg t).run P w = .ok (aggD d) w := by
  simp only [isAgg, bind, Sem.run_bind', r_under h, Result.andThen_ok]
  cases d <;> rfl

/-- Lists of operands. -/
noncomputable def evs (m : Tm) (l : List Operand) : Option (List Value) :=
  List.rec (motive := fun _ => Option (List Value)) (some []) (fun x _ ih => Option.rec (motive := fun _ => Option (List Value)) none (fun v => Option.rec (motive := fun _ => Option (List Value)) none (fun vs => some (v :: vs)) ih) (ev m x)) l
theorem evs_cons {x : Operand} {l : List Operand} {q : List Value} (h : evs m (x :: l) = some q) : ∃ v vs, ev m x = some v ∧ evs m l = some vs ∧ q = v :: vs := by
  have h' : Option.rec (motive := fun _ => Option (List Value)) none (fun v => Option.rec (motive := fun _ => Option (List Value)) none (fun vs => some (v :: vs)) (evs m l)) (ev m x) = some q := h
  cases hx : ev m x with
  | none => rw [hx] at h'; cases h'
  | some v =>
    rw [hx] at h'
    cases hl : evs m l with
    | none => rw [hl] at h'; cases h'
    | some vs => rw [hl] at h'; exact ⟨v, vs, rfl, rfl, (Option.some.inj h').symm⟩
theorem evs_vr (h : Tm.R γ m a.tmps) : ∀ {l : List Operand} {q : List Value}, evs m l = some q → VRs γ q (l.map a.eval)
  | [], q, hq => by cases hq; exact .nil
  | x :: l, q, hq => by
    obtain ⟨v, vs, hv, hvs, rfl⟩ := evs_cons hq
    exact .cons (ev_vr h hv) (evs_vr h hvs)

/-! ### Integers -/
/-- A wrap, the near case first. -/
noncomputable def wrapK (k : IntKind) (n : Int) : Int :=
  match n with
  | .ofNat x => ifB (Nat.blt x (match k with | .i8 => 128 | .u8 => 256 | .i16 => 32768 | .u16 => 65536 | .i32 => 2147483648 | .u32 => 4294967296 | .i64 => 9223372036854775808 | .u64 => 18446744073709551616)) (.ofNat x) (k.wrap n)
  | .negSucc _ => k.wrap n
theorem wrapK_eq (k : IntKind) (n : Int) : wrapK k n = k.wrap n := by
  cases n with
  | negSucc x => rfl
  | ofNat x =>
    have hx : Int.ofNat x = (x : Int) := rfl
    cases k <;> simp only [wrapK, ifB_lt] <;> split <;> first | rfl | (rename_i h; simp only [IntKind.wrap, IntKind.bits, IntKind.signed, hx]; split <;> rename_i h2 <;> simp at h2 ⊢ <;> omega)

noncomputable def kEq (a b : IntKind) : Bool := IntKind.rec (motive := fun _ => Bool) (match b with | .i8 => true | _ => false) (match b with | .i16 => true | _ => false) (match b with | .i32 => true | _ => false) (match b with | .i64 => true | _ => false)
  (match b with | .u8 => true | _ => false) (match b with | .u16 => true | _ => false) (match b with | .u32 => true | _ => false) (match b with | .u64 => true | _ => false) a
theorem kEq_spec {a b : IntKind} (h : kEq a b = true) : a = b := by cases a <;> cases b <;> first | rfl | cases h

noncomputable def iEq (x y : Int) : Bool :=
  match x, y with
  | .ofNat a, .ofNat b => Nat.beq a b
  | .negSucc a, .negSucc b => Nat.beq a b
  | _, _ => false
theorem iEq_eq (x y : Int) : iEq x y = (x == y) := by
  cases x with
  | ofNat a => cases y with
    | ofNat b =>
      show Nat.beq a b = _
      by_cases h : a = b
      · subst h; rw [Nat.beq_refl]; simp
      · have h1 : Nat.beq a b = false := by cases hb : Nat.beq a b with | false => rfl | true => exact absurd ((beq_iff' _ _).1 hb) h
        rw [h1]; symm; simp; omega
    | negSucc b => symm; show (Int.ofNat a == Int.negSucc b) = false; simp
  | negSucc a => cases y with
    | ofNat b => symm; show (Int.negSucc a == Int.ofNat b) = false; simp
    | negSucc b =>
      show Nat.beq a b = _
      by_cases h : a = b
      · subst h; rw [Nat.beq_refl]; simp
      · have h1 : Nat.beq a b = false := by cases hb : Nat.beq a b with | false => rfl | true => exact absurd ((beq_iff' _ _).1 hb) h
        rw [h1]; symm; simp; omega
noncomputable def iLt (x y : Int) : Bool :=
  match x, y with
  | .ofNat a, .ofNat b => Nat.blt a b
  | .negSucc a, .negSucc b => Nat.blt b a
  | .negSucc _, .ofNat _ => true
  | .ofNat _, .negSucc _ => false
theorem iLt_eq (x y : Int) : iLt x y = decide (x < y) := by
  cases x <;> cases y <;> simp only [iLt] <;> symm
  · rename_i a b
    by_cases h : a < b
    · rw [(blt_iff _ _).2 h]; simp; exact h
    · have h1 : Nat.blt a b = false := by cases hb : Nat.blt a b with | false => rfl | true => exact absurd ((blt_iff _ _).1 hb) h
      rw [h1]; simp; omega
  · rename_i a b; simp; omega
  · rename_i a b; simp; omega
  · rename_i a b
    by_cases h : b < a
    · rw [(blt_iff _ _).2 h]; simp; omega
    · have h1 : Nat.blt b a = false := by cases hb : Nat.blt b a with | false => rfl | true => exact absurd ((blt_iff _ _).1 hb) h
      rw [h1]; simp; omega

noncomputable def aBits (op : BinOp) (k : IntKind) (x y : Int) : Option Value :=
  match (Op.intBits op k x y) with
  | .pure v => some v
  | _ => none

noncomputable def aInt (op : BinOp) (k : IntKind) (x y : Int) : Option Value :=
  match op with
  | .add => some (.int k (wrapK k (Int.add x y)))
  | .sub => some (.int k (wrapK k (Int.sub x y)))
  | .mul => some (.int k (wrapK k (Int.mul x y)))
  | .quo => ifB (iEq y 0) none (some (.int k (wrapK k (Int.tdiv x y))))
  | .rem => ifB (iEq y 0) none (some (.int k (Int.tmod x y)))
  | .and => aBits .and k x y
  | .or => aBits .or k x y
  | .xor => aBits .xor k x y
  | .andNot => aBits .andNot k x y
  | .eql => some (.bool (iEq x y))
  | .neq => some (.bool (!(iEq x y)))
  | .lss => some (.bool (iLt x y))
  | .leq => some (.bool (!(iLt y x)))
  | .gtr => some (.bool (iLt y x))
  | .geq => some (.bool (!(iLt x y)))
  | _ => none

noncomputable def aShift (op : BinOp) (k : IntKind) (x y : Int) : Option Value :=
  match y with
  | .negSucc _ => none
  | .ofNat s =>
    let n := ifB (Nat.blt s k.bits) s k.bits
    match op with
    | .shl => some (.int k (wrapK k (Int.mul x (Int.ofNat (Nat.pow 2 n)))))
    | .shr => some (.int k (match x with | .ofNat b => .ofNat (Nat.shiftRight b n) | .negSucc _ => Int.fdiv x (Int.ofNat (Nat.pow 2 n))))
    | _ => none

def mInt (op : BinOp) (k : IntKind) (x y : Int) : Sem Value :=
  match op with
  | .add | .sub | .mul => Op.intArith op k x y
  | .quo | .rem => Op.intDiv op k x y
  | .and | .or | .xor | .andNot => Op.intBits op k x y
  | _ => Op.intCmp op x y

theorem aBits_sim {o : BinOp} {k : IntKind} {x y : Int} {v : Value} (ho : aBits o k x y = some v) (w : World) : (Op.intBits o k x y).run P w = .ok v w := by
  unfold aBits at ho
  split at ho
  · rename_i u hu; cases ho; rw [hu]; rfl
  · cases ho

theorem aInt_sim {op : BinOp} {k : IntKind} {x y : Int} {v : Value} (h : aInt op k x y = some v) (w : World) : (mInt op k x y).run P w = .ok v w := by
  cases op <;> simp only [aInt] at h <;> simp only [mInt] <;> try (first | exact aBits_sim h w | (cases h; done))
  · cases h; rw [wrapK_eq]; rfl
  · cases h; rw [wrapK_eq]; rfl
  · cases h; rw [wrapK_eq]; rfl
  · rw [iEq_eq, ifB_eq] at h
    split at h
    · cases h
    · rename_i hy
      cases h; rw [wrapK_eq]
      have : ¬ y = 0 := by simpa using hy
      simp only [Op.intDiv, if_neg this]; rfl
  · rw [iEq_eq, ifB_eq] at h
    split at h
    · cases h
    · rename_i hy
      cases h
      have : ¬ y = 0 := by simpa using hy
      simp only [Op.intDiv, if_neg this]; rfl
  · cases h; rw [iEq_eq]; rfl
  · cases h; rw [iEq_eq]; rfl
  · cases h; rw [iLt_eq]; rfl
  · cases h; rw [iLt_eq]
    simp only [Op.intCmp, Sem.run_pure]
    congr 2
    by_cases hxy : x ≤ y <;> simp [hxy] <;> omega
  · cases h; rw [iLt_eq]; rfl
  · cases h; rw [iLt_eq]
    simp only [Op.intCmp, Sem.run_pure]
    congr 2
    by_cases hxy : y ≤ x <;> simp [hxy] <;> omega

theorem aShift_sim {op : BinOp} {k : IntKind} {x y : Int} {v : Value} (h : aShift op k x y = some v) (yk : IntKind) (w : World) : (Op.shift op k x yk y).run P w = .ok v w := by
  unfold aShift at h
  cases y with
  | negSucc _ => cases h
  | ofNat s =>
    dsimp only at h
    have hn : ifB (Nat.blt s k.bits) s k.bits = min s k.bits := by rw [ifB_lt]; split <;> omega
    rw [hn] at h
    have h0 : ¬ (Int.ofNat s < 0) := by simp
    unfold Op.shift
    rw [if_neg h0]
    have hs : (Int.ofNat s).toNat = s := rfl
    rw [hs]
    cases op <;> dsimp only at h <;> try (cases h; done)
    · cases h; rw [wrapK_eq]
      show Result.ok _ w = _
      congr 3
    · cases h
      show Result.ok _ w = _
      congr 2
      cases x with
      | ofNat b =>
        show ((b : Int)).fdiv (2 ^ (min s k.bits)) = ((b >>> (min s k.bits) : Nat) : Int)
        rw [Nat.shiftRight_eq_div_pow, Int.fdiv_eq_ediv_of_nonneg _ (by exact Int.pow_nonneg (by decide))]
        norm_cast
      | negSucc b => rfl


/-! ### Strings -/
noncomputable def l8 (a b : List UInt8) : Bool := decide (a = b)

noncomputable def aStr (op : BinOp) (x y : ByteArray) : Option Value :=
  match op with
  | .add => ifB (Nat.ble (Nat.add x.size y.size) 9223372036854775807) (some (.string (x ++ y))) none
  | .eql => some (.bool (l8 x.data.toList y.data.toList))
  | .neq => some (.bool (!(l8 x.data.toList y.data.toList)))
  | .lss => some (.bool (Op.bytesLess x.data.toList y.data.toList))
  | _ => none

theorem toList_data (x : ByteArray) : x.toList = x.data.toList := by
  have key : ∀ (n i : Nat) (r : List UInt8), x.size - i = n → ByteArray.toList.loop x i r = r.reverse ++ x.data.toList.drop i := by
    intro n
    induction n with
    | zero =>
      intro i r h
      have hs : x.size = x.data.size := rfl
      rw [ByteArray.toList.loop, if_neg (by omega), List.drop_of_length_le (by simp; omega), List.append_nil]
    | succ n ih =>
      intro i r h
      have hs : x.size = x.data.size := rfl
      have hi : i < x.data.toList.length := by simp; omega
      rw [ByteArray.toList.loop, if_pos (by omega), ih (i + 1) _ (by omega), List.drop_eq_getElem_cons hi]
      simp only [List.reverse_cons, List.append_assoc, List.cons_append, List.nil_append]
      congr 2
      have hi' : i < x.data.size := by omega
      show x.get! i = _
      cases x with
      | mk d => show d[i]! = _; rw [getElem!_pos d i hi']; simp
  have := key x.size 0 [] rfl
  simpa [ByteArray.toList] using this

theorem aStr_sim {op : BinOp} {x y : ByteArray} {v : Value} (h : aStr op x y = some v) (w : World) : (Op.stringOp op x y).run P w = .ok v w := by
  unfold Op.stringOp
  simp only [toList_data]
  cases op <;> simp only [aStr] at h <;> try (cases h; done)
  · rw [ifB_le] at h
    split at h
    · rename_i hle
      cases h
      have : ¬ (((x.size + y.size : Nat) : Int) > IntKind.i64.max) := by
        have e : IntKind.i64.max = 9223372036854775807 := by decide
        rw [e]; have : x.size + y.size ≤ 9223372036854775807 := hle; omega
      simp only [if_neg this]; rfl
    · cases h
  · cases h; show Result.ok _ w = _; congr 2; unfold l8; rw [Bool.eq_iff_iff]; simp
  · cases h; show Result.ok _ w = _; congr 2; unfold l8; rw [Bool.eq_iff_iff]; simp
  · cases h; rfl

/-! ### Comparisons beyond integers and strings -/
/-- The operands of '==', where one is nil, or both are bools. -/
def aEql (P : Program) (t : TypeId) (x y : Value) : Option Bool :=
  match P.underlying t with
  | some d =>
    match d, x, y with
    | .bool, .bool a, .bool b => some (a == b)
    | .pointer _, .pointer none, .pointer b => some b.isNone
    | .pointer _, .pointer (some _), .pointer none => some false
    | .slice _, .slice none _ _, .slice b _ _ => some b.isNone
    | .slice _, .slice (some _) _ _, .slice none _ _ => some false
    | .map _ _, .map none, .map b => some b.isNone
    | .map _ _, .map (some _), .map none => some false
    | .func _ _ _, .nilFunc, .nilFunc => some true
    | .func _ _ _, .nilFunc, .func _ _ _ => some false
    | .func _ _ _, .func _ _ _, .nilFunc => some false
    | .interface _, .nilIface, .iface _ _ => some false
    | .interface _, .iface _ _, .nilIface => some false
    | _, _, _ => none
  | none => none

theorem aEql_sim {t : TypeId} {x y x' y' : Value} {b : Bool} (h : aEql P t x y = some b) (hx : VR γ x x') (hy : VR γ y y') (w : World) : (Op.equal t x' y').run P w = .ok b w := by
  unfold aEql at h
  cases hu : P.underlying t with
  | none => rw [hu] at h; cases h
  | some d =>
    rw [hu] at h
    show (Op.equalIn (9999 + 1) t x' y').run P w = _
    rw [Op.equalIn]
    simp only [bind, Sem.run_bind', r_under hu, Result.andThen_ok]
    dsimp only at h
    split at h <;> (try (cases h; done)) <;> cases hx <;> cases hy <;> cases h <;> rfl

def isC : Operand → Bool
  | .const _ => true
  | _ => false


def aEq2 (P : Program) (op : BinOp) (t : TypeId) (x y : Value) : Option Value :=
  match op with
  | .eql => (aEql P t x y).map .bool
  | .neq => (aEql P t x y).map fun b => .bool (!b)
  | _ => none
def aNil2 (P : Program) (op : BinOp) (t : TypeId) (cst : Bool) : Option Value :=
  match op, cst, P.underlying t with
  | .eql, true, some (.interface _) => some (.bool true)
  | .neq, true, some (.interface _) => some (.bool false)
  | _, _, _ => none
noncomputable def aInt2 (op : BinOp) (k : IntKind) (a : Int) (k' : IntKind) (b : Int) : Option Value :=
  match op with
  | .shl => aShift .shl k a b
  | .shr => aShift .shr k a b
  | op => ifB (kEq k k') (aInt op k a b) none
noncomputable def aBin (P : Program) (op : BinOp) (t : TypeId) (cst : Bool) (x y : Value) : Option Value :=
  match x, y with
  | .int k a, .int k' b => aInt2 op k a k' b
  | .string a, .string b => aStr op a b
  | .nilIface, .nilIface => aNil2 P op t cst
  | x, y => aEq2 P op t x y

theorem eqGuard_plain {op : BinOp} {t : TypeId} {x y : Operand} {a b : Value} (h1 : ¬ (a = .nilIface ∧ b = .nilIface)) (h2 : ∀ c d, ¬ (a = .agg c ∧ b = .agg d)) (w : World) : (eqGuard op t x y a b).run P w = .ok () w := by
  cases op <;> first | rfl | (cases a <;> cases b <;> first | rfl | exact absurd ⟨rfl, rfl⟩ h1 | exact absurd ⟨rfl, rfl⟩ (h2 _ _))

theorem run_guarded {op : BinOp} {t : TypeId} {x y : Operand} {a b v : Value} {w : World} (g : (eqGuard op t x y a b).run P w = .ok () w) (h : (binOp op t a b).run P w = .ok v w) :
    (do eqGuard op t x y a b; binOp op t a b : Sem Value).run P w = .ok v w := by
  simp only [bind, Sem.run_bind', g, Result.andThen_ok]; exact h

theorem aInt_int {op : BinOp} {k : IntKind} {a b : Int} {v : Value} (h : aInt op k a b = some v) : VR γ v v := by
  cases op <;> simp only [aInt, aBits] at h <;> (try (cases h; done)) <;> (try (cases h; constructor; done)) <;> (try (rw [ifB_eq] at h; split at h <;> cases h; constructor; done))
  all_goals (simp only [Op.intBits] at h; cases h; constructor)
theorem aShift_int {op : BinOp} {k : IntKind} {a b : Int} {v : Value} (h : aShift op k a b = some v) : VR γ v v := by
  unfold aShift at h; cases b <;> cases op <;> cases h; constructor; constructor

theorem aInt2_sim {op : BinOp} {t : TypeId} {k k' : IntKind} {a b : Int} {v : Value} (h : aInt2 op k a k' b = some v) (w : World) : (binOp op t (.int k a) (.int k' b)).run P w = .ok v w ∧ VR γ v v := by
  cases op <;> simp only [aInt2] at h <;> first
    | exact ⟨aShift_sim h k' w, aShift_int h⟩
    | (rw [ifB_eq] at h
       split at h
       · rename_i hk
         have := kEq_spec hk
         subst this
         refine ⟨?_, aInt_int h⟩
         have e := aInt_sim (P := P) h w
         simp only [mInt] at e
         simp only [binOp, ne_eq, not_true_eq_false, if_false]
         exact e
       · cases h)

theorem aStr2_sim {op : BinOp} {t : TypeId} {a b : ByteArray} {v : Value} (h : aStr op a b = some v) (w : World) : (binOp op t (.string a) (.string b)).run P w = .ok v w ∧ VR γ v v := by
  have e : binOp op t (.string a) (.string b) = Op.stringOp op a b := by cases op <;> rfl
  refine ⟨by rw [e]; exact aStr_sim h w, ?_⟩
  cases op <;> simp only [aStr] at h <;> (try (cases h; done)) <;> (try (cases h; constructor; done))
  rw [ifB_eq] at h; split at h <;> cases h; constructor

theorem aNil2_sim {op : BinOp} {t : TypeId} {x y : Operand} {v : Value} (h : aNil2 P op t (isC x || isC y) = some v) (w : World) :
    (do eqGuard op t x y .nilIface .nilIface; binOp op t .nilIface .nilIface : Sem Value).run P w = .ok v w ∧ VR γ v v := by
  unfold aNil2 at h
  split at h
  · rename_i hc hu
    cases h
    refine ⟨run_guarded ?_ ?_, .bool _⟩
    · show Sem.run P (if (isC x || isC y) = true then pure () else _) w = _
      rw [if_pos hc]; rfl
    · show Sem.run P (do pure (.bool (← Op.equal t .nilIface .nilIface)) : Sem Value) w = _
      have : (Op.equal t .nilIface .nilIface).run P w = .ok true w := by
        show (Op.equalIn (9999 + 1) t _ _).run P w = _
        rw [Op.equalIn]; simp only [bind, Sem.run_bind', r_under hu, Result.andThen_ok]; rfl
      simp only [bind, Sem.run_bind', this, Result.andThen_ok]; rfl
  · rename_i hc hu
    cases h
    refine ⟨run_guarded ?_ ?_, .bool _⟩
    · show Sem.run P (if (isC x || isC y) = true then pure () else _) w = _
      rw [if_pos hc]; rfl
    · show Sem.run P (do pure (.bool (!(← Op.equal t .nilIface .nilIface))) : Sem Value) w = _
      have : (Op.equal t .nilIface .nilIface).run P w = .ok true w := by
        show (Op.equalIn (9999 + 1) t _ _).run P w = _
        rw [Op.equalIn]; simp only [bind, Sem.run_bind', r_under hu, Result.andThen_ok]; rfl
      simp only [bind, Sem.run_bind', this, Result.andThen_ok]; rfl
  · cases h

theorem aEql_not_agg {t : TypeId} {c d : Array Value} : aEql P t (.agg c) (.agg d) = none := by
  unfold aEql
  cases P.underlying t with
  | none => rfl
  | some d => cases d <;> rfl

theorem aEq2_sim {op : BinOp} {t : TypeId} {x y : Operand} {vx vy vx' vy' v : Value} (h : aEq2 P op t vx vy = some v) (hx : VR γ vx vx') (hy : VR γ vy vy') (hn : ¬ (vx = .nilIface ∧ vy = .nilIface))
    (hi : ∀ k a k' b, ¬ (vx = .int k a ∧ vy = .int k' b)) (hs : ∀ a b, ¬ (vx = .string a ∧ vy = .string b)) (w : World) :
    (do eqGuard op t x y vx' vy'; binOp op t vx' vy' : Sem Value).run P w = .ok v w ∧ VR γ v v := by
  have hagg : ∀ c d, ¬ (vx' = .agg c ∧ vy' = .agg d) := by
    rintro c d ⟨rfl, rfl⟩
    cases hx; cases hy
    unfold aEq2 at h
    split at h
    · rw [aEql_not_agg] at h; cases h
    · rw [aEql_not_agg] at h; cases h
    · cases h
  have hnil : ¬ (vx' = .nilIface ∧ vy' = .nilIface) := by
    rintro ⟨rfl, rfl⟩
    cases hx; cases hy
    exact hn ⟨rfl, rfl⟩
  have key : ∀ b, aEql P t vx vy = some b → binOp .eql t vx' vy' = (do pure (.bool (← Op.equal t vx' vy')) : Sem Value) ∧ binOp .neq t vx' vy' = (do pure (.bool (!(← Op.equal t vx' vy'))) : Sem Value) := by
    intro b hb
    cases hx <;> cases hy <;> first | exact ⟨rfl, rfl⟩ | exact (hi _ _ _ _ ⟨rfl, rfl⟩).elim | exact (hs _ _ ⟨rfl, rfl⟩).elim
  cases op <;> simp only [aEq2] at h <;> (try (cases h; done))
  · cases he : aEql P t vx vy with
    | none => rw [he] at h; cases h
    | some b =>
      rw [he] at h; cases h
      refine ⟨run_guarded (eqGuard_plain hnil hagg w) ?_, .bool _⟩
      rw [(key b he).1]
      simp only [bind, Sem.run_bind', aEql_sim he hx hy, Result.andThen_ok]; rfl
  · cases he : aEql P t vx vy with
    | none => rw [he] at h; cases h
    | some b =>
      rw [he] at h; cases h
      refine ⟨run_guarded (eqGuard_plain hnil hagg w) ?_, .bool _⟩
      rw [(key b he).2]
      simp only [bind, Sem.run_bind', aEql_sim he hx hy, Result.andThen_ok]; rfl

theorem aBin_sim {op : BinOp} {t : TypeId} {x y : Operand} {vx vy vx' vy' v : Value} (h : aBin P op t (isC x || isC y) vx vy = some v) (hx : VR γ vx vx') (hy : VR γ vy vy') (w : World) :
    (do eqGuard op t x y vx' vy'; binOp op t vx' vy' : Sem Value).run P w = .ok v w ∧ VR γ v v := by
  unfold aBin at h
  split at h
  · cases hx; cases hy
    obtain ⟨h1, h2⟩ := aInt2_sim (P := P) (γ := γ) (t := t) h w
    exact ⟨run_guarded (eqGuard_plain (by rintro ⟨e, _⟩; cases e) (by rintro c d ⟨e, _⟩; cases e) w) h1, h2⟩
  · cases hx; cases hy
    obtain ⟨h1, h2⟩ := aStr2_sim (P := P) (γ := γ) (t := t) h w
    exact ⟨run_guarded (eqGuard_plain (by rintro ⟨e, _⟩; cases e) (by rintro c d ⟨e, _⟩; cases e) w) h1, h2⟩
  · cases hx; cases hy
    exact aNil2_sim h w
  · rename_i n1 n2 n3
    exact aEq2_sim h hx hy (by rintro ⟨rfl, rfl⟩; exact n3 rfl rfl) (by rintro k a k' b ⟨rfl, rfl⟩; exact n1 _ _ _ _ rfl rfl) (by rintro a b ⟨rfl, rfl⟩; exact n2 _ _ rfl rfl) w
end Go.Ae

namespace Go.Ae
variable {P : Program} {γ : Gm}

/-- Two cells of a scalar kind: the same? -/
noncomputable def aSc (P : Program) (t : TypeId) (x y : Value) : Option Bool :=
  match P.underlying t, x, y with
  | some (.int _), .int k a, .int k' b => ifB (kEq k k') (some (iEq a b)) none
  | some .string, .string a, .string b => some (decide (a.data.toList = b.data.toList))
  | some .bool, .bool a, .bool b => some (a == b)
  | _, _, _ => none
noncomputable def aEqFs0 (P : Program) (xs ys : List Value) : List Field → Option Bool
  | [] => some true
  | f :: fs => match decide (f.name = "_"), xs[f.offset]?, ys[f.offset]? with
    | false, some a, some b => match aSc P f.type a b with
      | some true => aEqFs0 P xs ys fs
      | some false => some false
      | none => none
    | _, _, _ => none
/-- A struct's field that is a struct of scalars. -/
noncomputable def aNest (P : Program) (t : TypeId) (xs ys : List Value) : Option Bool :=
  match P.underlying t, P.info? t with
  | some (.struct gs), some i => match P.stoodInHeld t with | false => aEqFs0 P (xs.take i.size) (ys.take i.size) gs.toList | true => none
  | _, _ => none
noncomputable def aEqF1 (P : Program) (xs ys : List Value) (f : Field) : Option Bool :=
  match (match xs[f.offset]?, ys[f.offset]? with | some a, some b => aSc P f.type a b | _, _ => none) with
  | some r => some r
  | none => aNest P f.type (xs.drop f.offset) (ys.drop f.offset)
noncomputable def aEqFs (P : Program) (xs ys : List Value) : List Field → Option Bool
  | [] => some true
  | f :: fs => match decide (f.name = "_"), aEqF1 P xs ys f with
    | false, some true => aEqFs P xs ys fs
    | false, some false => some false
    | _, _ => none
noncomputable def aEqCs (P : Program) (t : TypeId) : List Value → List Value → Option Bool
  | [], [] => some true
  | a :: l, b :: k => match aSc P t a b with
    | some true => aEqCs P t l k
    | some false => some false
    | none => none
  | _, _ => none
noncomputable def aEqAgg (P : Program) (t : TypeId) (xs ys : List Value) : Option Bool :=
  match P.eqGuardType P.depth t, P.underlying t with
  | false, some (.struct fs) => match P.stoodInHeld t with | false => aEqFs P xs ys fs.toList | true => none
  | false, some (.array n e) => match P.info? e with
    | some i => ifB (Nat.beq i.size 1 && Nat.beq n xs.length && Nat.beq n ys.length) (aEqCs P e xs ys) none
    | none => none
  | _, _ => none
noncomputable def aEq3 (P : Program) (op : BinOp) (t : TypeId) (xs ys : List Value) : Option Value :=
  match op with
  | .eql => match aEqAgg P t xs ys with | some b => some (.bool b) | none => none
  | .neq => match aEqAgg P t xs ys with | some b => some (.bool (!b)) | none => none
  | _ => none

theorem r_isAgg_sc {t : TypeId} {x y : Value} {b : Bool} (h : aSc P t x y = some b) (w : World) : (isAgg t).run P w = .ok false w := by
  unfold aSc at h
  split at h
  · rename_i hu; simp only [isAgg, bind, Sem.run_bind', r_under hu, Result.andThen_ok]; rfl
  · rename_i hu; simp only [isAgg, bind, Sem.run_bind', r_under hu, Result.andThen_ok]; rfl
  · rename_i hu; simp only [isAgg, bind, Sem.run_bind', r_under hu, Result.andThen_ok]; rfl
  · cases h
theorem aSc_sim {d : Nat} {t : TypeId} {x y x' y' : Value} {b : Bool} (h : aSc P t x y = some b) (hx : VR γ x x') (hy : VR γ y y') (w : World) : (Op.equalIn (d + 1) t x' y').run P w = .ok b w := by
  unfold aSc at h
  split at h
  · rename_i hu
    cases hx; cases hy
    rw [ifB_eq] at h
    split at h
    · rename_i hk; have := kEq_spec hk; subst this
      cases h
      rw [run_equalIn_int (h := hu)]
      congr 1
      rw [iEq_eq]
    · cases h
  · rename_i a c hu
    cases hx; cases hy; cases h
    rw [run_equalIn_string (h := hu)]
    congr 1
    rw [ByteArray.toList_eq, ByteArray.toList_eq, Bool.eq_iff_iff]; simp
  · rename_i hu
    cases hx; cases hy; cases h
    exact run_equalIn_bool' w d t _ _ hu
  · cases h

theorem part_sc {t : TypeId} {xs xs' : List Value} {o : Nat} {a : Value} (ha : ∀ w, (isAgg t).run P w = .ok false w) (h : xs[o]? = some a) (hx : VRs γ xs xs') (w : World) : ∃ a', (part t ⟨xs'⟩ o).run P w = .ok a' w ∧ VR γ a a' := by
  obtain ⟨a', h1, h2⟩ := hx.get o a h
  refine ⟨a', ?_, h2⟩
  simp only [part, bind, Sem.run_bind', ha, Result.andThen_ok, Bool.false_eq_true, if_false]
  have : (⟨xs'⟩ : Array Value)[o]? = some a' := by simpa using h1
  simp only [this, Sem.run_pure]

theorem aEqFs0_sim {d : Nat} {xs ys xs' ys' : List Value} (hx : VRs γ xs xs') (hy : VRs γ ys ys') : ∀ {fs : List Field} {b : Bool}, aEqFs0 P xs ys fs = some b → ∀ (w : World), (Op.eqFields (d + 1) ⟨xs'⟩ ⟨ys'⟩ fs).run P w = .ok b w
  | [], b, h, w => by cases h; rfl
  | f :: fs, b, h, w => by
    unfold aEqFs0 at h
    split at h
    case h_2 => cases h
    rename_i a c hn ha hc
    have hn' : f.name ≠ "_" := by simpa using hn
    split at h
    · rename_i hs
      obtain ⟨a', e1, v1⟩ := part_sc (P := P) (fun w => r_isAgg_sc hs w) ha hx w
      obtain ⟨c', e2, v2⟩ := part_sc (P := P) (fun w => r_isAgg_sc hs w) hc hy w
      unfold Op.eqFields
      rw [if_pos hn']
      simp only [bind, Sem.run_bind', e1, Result.andThen_ok, e2, aSc_sim hs v1 v2, Bool.not_true, Bool.false_eq_true, if_false]
      exact aEqFs0_sim hx hy h w
    · rename_i hs
      cases h
      obtain ⟨a', e1, v1⟩ := part_sc (P := P) (fun w => r_isAgg_sc hs w) ha hx w
      obtain ⟨c', e2, v2⟩ := part_sc (P := P) (fun w => r_isAgg_sc hs w) hc hy w
      unfold Op.eqFields
      rw [if_pos hn']
      simp only [bind, Sem.run_bind', e1, Result.andThen_ok, e2, aSc_sim hs v1 v2, Bool.not_false, if_true]
      rfl
    · cases h

theorem aNest_sim {d : Nat} {t : TypeId} {o : Nat} {xs ys xs' ys' : List Value} {b : Bool} (h : aNest P t (xs.drop o) (ys.drop o) = some b) (hx : VRs γ xs xs') (hy : VRs γ ys ys') :
    ∃ a' c', (∀ w, (part t ⟨xs'⟩ o).run P w = .ok a' w) ∧ (∀ w, (part t ⟨ys'⟩ o).run P w = .ok c' w) ∧ ∀ w, (Op.equalIn (d + 1 + 1) t a' c').run P w = .ok b w := by
  unfold aNest at h
  split at h
  case h_2 => cases h
  rename_i gs i hu hi
  split at h
  case h_2 => cases h
  rename_i hst
  have hp : ∀ (l : List Value) (w : World), (part t ⟨l⟩ o).run P w = .ok (.agg ⟨(l.drop o).take i.size⟩) w := by
    intro l w
    simp only [part, bind, Sem.run_bind', r_isAgg hu, aggD, Result.andThen_ok, if_true, r_size hi, Sem.run_pure]
    congr 2
    apply Array.ext'
    simp
  have hf : P.fieldsOf t = gs := by unfold Program.fieldsOf; rw [hu]
  refine ⟨_, _, hp xs', hp ys', fun w => ?_⟩
  rw [run_equalIn_agg (ht := by rw [hf]; exact hu) (hp := hst), hf]
  exact aEqFs0_sim ((hx.drop o).take i.size) ((hy.drop o).take i.size) h w
theorem aEqF1_sim {d : Nat} {f : Field} {xs ys xs' ys' : List Value} {b : Bool} (h : aEqF1 P xs ys f = some b) (hx : VRs γ xs xs') (hy : VRs γ ys ys') :
    ∃ a' c', (∀ w, (part f.type ⟨xs'⟩ f.offset).run P w = .ok a' w) ∧ (∀ w, (part f.type ⟨ys'⟩ f.offset).run P w = .ok c' w) ∧ ∀ w, (Op.equalIn (d + 1 + 1) f.type a' c').run P w = .ok b w := by
  unfold aEqF1 at h
  split at h
  · rename_i r hr
    cases h
    split at hr
    · rename_i a c ha hc
      have hA := fun w => r_isAgg_sc hr w
      obtain ⟨a', ea, va⟩ := hx.get _ _ ha
      obtain ⟨c', ec, vc⟩ := hy.get _ _ hc
      have hp : ∀ (l : List Value) (u : Value) (w : World), l[f.offset]? = some u → (part f.type ⟨l⟩ f.offset).run P w = .ok u w := by
        intro l u w hl
        simp only [part, bind, Sem.run_bind', hA, Result.andThen_ok, Bool.false_eq_true, if_false]
        have : (⟨l⟩ : Array Value)[f.offset]? = some u := by simpa using hl
        simp only [this, Sem.run_pure]
      exact ⟨a', c', fun w => hp _ _ w ea, fun w => hp _ _ w ec, fun w => aSc_sim hr va vc w⟩
    · cases hr
  · exact aNest_sim h hx hy
theorem aEqFs_sim {d : Nat} {xs ys xs' ys' : List Value} (hx : VRs γ xs xs') (hy : VRs γ ys ys') : ∀ {fs : List Field} {b : Bool}, aEqFs P xs ys fs = some b → ∀ (w : World), (Op.eqFields (d + 1 + 1) ⟨xs'⟩ ⟨ys'⟩ fs).run P w = .ok b w
  | [], b, h, w => by cases h; rfl
  | f :: fs, b, h, w => by
    unfold aEqFs at h
    split at h
    · rename_i hn h1
      have hn' : f.name ≠ "_" := by simpa using hn
      obtain ⟨a', c', e1, e2, e3⟩ := aEqF1_sim (d := d) h1 hx hy
      unfold Op.eqFields
      rw [if_pos hn']
      simp only [bind, Sem.run_bind', e1, Result.andThen_ok, e2, e3, Bool.not_true, Bool.false_eq_true, if_false]
      exact aEqFs_sim hx hy h w
    · rename_i hn h1
      have hn' : f.name ≠ "_" := by simpa using hn
      cases h
      obtain ⟨a', c', e1, e2, e3⟩ := aEqF1_sim (d := d) h1 hx hy
      unfold Op.eqFields
      rw [if_pos hn']
      simp only [bind, Sem.run_bind', e1, Result.andThen_ok, e2, e3, Bool.not_false, if_true]
      rfl
    · cases h

/-- What a comparison of arrays does, as a list's fold. -/
def eqFrom (d : Nat) (e : TypeId) (xs ys : Array Value) : List Nat → Sem Bool
  | [] => pure true
  | i :: l => do
    let a ← part e xs (i * 1)
    let b ← part e ys (i * 1)
    let r ← Op.equalIn d e a b
    if (!r) = true then pure false else eqFrom d e xs ys l

theorem aEqCs_sim {d : Nat} {e : TypeId} : ∀ {xs ys xs' ys' p q : List Value} {b : Bool}, aEqCs P e xs ys = some b → VRs γ xs xs' → VRs γ ys ys' → p.length = q.length → ∀ (w : World),
    (eqFrom (d + 1) e ⟨p ++ xs'⟩ ⟨q ++ ys'⟩ (List.range' p.length xs.length)).run P w = .ok b w
  | [], [], _, _, p, q, b, h, _, _, _, w => by cases h; rfl
  | [], _ :: _, _, _, _, _, _, h, _, _, _, _ => by cases h
  | _ :: _, [], _, _, _, _, _, h, _, _, _, _ => by cases h
  | a :: l, c :: k, _, _, p, q, b, h, hx, hy, hpq, w => by
    cases hx with
    | cons ha hl =>
    cases hy with
    | cons hc hk =>
    rename_i a' l' c' k'
    unfold aEqCs at h
    have ga : ∀ w, (isAgg e).run P w = .ok false w := by
      intro w
      cases hs : aSc P e a c with
      | none => rw [hs] at h; cases h
      | some r => exact r_isAgg_sc hs w
    have p1 : ∀ w, (part e ⟨p ++ a' :: l'⟩ (p.length * 1)).run P w = .ok a' w := by
      intro w
      simp only [part, bind, Sem.run_bind', ga, Result.andThen_ok, Bool.false_eq_true, if_false]
      have : (⟨p ++ a' :: l'⟩ : Array Value)[p.length * 1]? = some a' := by simp
      simp only [this, Sem.run_pure]
    have p2 : ∀ w, (part e ⟨q ++ c' :: k'⟩ (p.length * 1)).run P w = .ok c' w := by
      intro w
      simp only [part, bind, Sem.run_bind', ga, Result.andThen_ok, Bool.false_eq_true, if_false]
      have : (⟨q ++ c' :: k'⟩ : Array Value)[p.length * 1]? = some c' := by simp [hpq]
      simp only [this, Sem.run_pure]
    show (eqFrom (d + 1) e _ _ (p.length :: List.range' (p.length + 1) l.length)).run P w = _
    unfold eqFrom
    split at h
    · rename_i hs
      simp only [bind, Sem.run_bind', p1, Result.andThen_ok, p2, aSc_sim hs ha hc, Bool.not_true, Bool.false_eq_true, if_false]
      have := aEqCs_sim (d := d) (p := p ++ [a']) (q := q ++ [c']) h hl hk (by simp [hpq]) w
      simpa using this
    · rename_i hs
      cases h
      simp only [bind, Sem.run_bind', p1, Result.andThen_ok, p2, aSc_sim hs ha hc, Bool.not_false, if_true, Sem.run_pure]
    · cases h

theorem run_equalIn_array (d : Nat) (t e : TypeId) (n : Nat) (i : TypeInfo) (xs ys : Array Value) (w : World) (ht : P.underlying t = some (.array n e)) (hi : P.info? e = some i) (h1 : i.size = 1) :
    (Op.equalIn (d + 1) t (.agg xs) (.agg ys)).run P w = (eqFrom d e xs ys (List.range' 0 n)).run P w := by
  simp only [Op.equalIn, bind, Sem.run_bind', r_under ht, Result.andThen_ok, r_size hi, h1, Std.Legacy.Range.forIn_eq_forIn_range', Std.Legacy.Range.size, Nat.sub_zero, Nat.add_sub_cancel, Nat.div_one]
  generalize List.range' 0 n = l
  induction l generalizing w with
  | nil => simp [eqFrom]
  | cons j l ih =>
    simp only [List.forIn_cons, eqFrom, bind, Sem.run_bind']
    generalize (part e xs (j * 1)).run P w = r1
    cases r1 with
    | ok a w1 =>
      simp only [Result.andThen_ok]
      generalize (part e ys (j * 1)).run P w1 = r2
      cases r2 with
      | ok b w2 =>
        simp only [Result.andThen_ok]
        generalize (Op.equalIn d e a b).run P w2 = r3
        cases r3 with
        | ok r w3 =>
          cases r
          · simp [Result.andThen_ok]
          · simp only [Result.andThen_ok, Bool.not_true, Bool.false_eq_true, if_false, Sem.run_pure]
            exact ih w3
        | halt x w3 => simp [Result.andThen]
      | halt x w2 => simp [Result.andThen]
    | halt x w1 => simp [Result.andThen]

theorem aEqAgg_sim {t : TypeId} {xs ys xs' ys' : List Value} {b : Bool} (h : aEqAgg P t xs ys = some b) (hx : VRs γ xs xs') (hy : VRs γ ys ys') (w : World) : (Op.equalIn 10000 t (.agg ⟨xs'⟩) (.agg ⟨ys'⟩)).run P w = .ok b w ∧ P.eqGuardType P.depth t = false := by
  unfold aEqAgg at h
  split at h
  · rename_i fs hg hu
    split at h
    case h_2 => cases h
    rename_i hst
    refine ⟨?_, hg⟩
    have hf : P.fieldsOf t = fs := by unfold Program.fieldsOf; rw [hu]
    rw [show (10000 : Nat) = 9997 + 1 + 1 + 1 from rfl, run_equalIn_agg (ht := by rw [hf]; exact hu) (hp := hst), hf]
    exact aEqFs_sim hx hy h w
  · rename_i n e hg hu
    split at h
    case h_2 => cases h
    rename_i i hi
    rw [ifB_eq] at h
    split at h
    case isFalse => cases h
    rename_i hc
    simp only [Bool.and_eq_true] at hc
    refine ⟨?_, hg⟩
    rw [show (10000 : Nat) = 9998 + 1 + 1 from rfl, run_equalIn_array (ht := hu) (hi := hi) (h1 := Nat.eq_of_beq_eq_true hc.1.1)]
    have := aEqCs_sim (P := P) (d := 9998) (p := []) (q := []) h hx hy rfl w
    have hn := Nat.eq_of_beq_eq_true hc.1.2
    rw [hn]
    simpa using this
  · cases h

theorem aEq3_sim {op : BinOp} {t : TypeId} {x y : Operand} {xs ys xs' ys' : List Value} {v : Value} (h : aEq3 P op t xs ys = some v) (hx : VRs γ xs xs') (hy : VRs γ ys ys') (w : World) :
    (do eqGuard op t x y (.agg ⟨xs'⟩) (.agg ⟨ys'⟩); binOp op t (.agg ⟨xs'⟩) (.agg ⟨ys'⟩) : Sem Value).run P w = .ok v w ∧ VR γ v v := by
  cases op <;> simp only [aEq3] at h <;> (try (cases h; done)) <;> split at h <;> (try (cases h; done)) <;> (rename_i b hb; cases h; obtain ⟨h1, h2⟩ := aEqAgg_sim hb hx hy w; refine ⟨run_guarded (run_eqGuard_agg w _ t x y _ _ h2) ?_, .bool _⟩)
  · rw [run_eql_struct, h1]; rfl
  · rw [run_neq_struct, h1]; rfl
end Go.Ae

namespace Go.Ae
variable {P : Program} {γ : Gm} {m : Tm} {a : Act} {w : World}

theorem VR.cells {v v' : Value} (h : VR γ v v') : VRs γ v.cells.toList v'.cells.toList := by
  cases h with
  | agg h => exact h
  | bool b => exact .one (.bool b)
  | int k n => exact .one (.int k n)
  | string s => exact .one (.string s)
  | nilFunc => exact .one .nilFunc
  | nilIface => exact .one .nilIface
  | ptrNil => exact .one .ptrNil
  | ptr h => exact .one (.ptr h)
  | sliceNil => exact .one .sliceNil
  | slice h hc => exact .one (.slice h hc)
  | sliceU h hk hl hN => exact .one (.sliceU h hk hl hN)
  | sliceE a c => exact .one (.sliceE a c)
  | mapNil => exact .one .mapNil
  | map h => exact .one (.map h)
  | func hf ha hc => exact .one (.func hf ha hc)
  | yield h => exact .one (.yield h)
  | iface h => exact .one (.iface h)
  | tuple h => exact .one (.tuple h)

theorem add_none (b o n : Nat) : (⟨b, o, none⟩ : Addr).add n = ⟨b, o + n, none⟩ := by
  unfold Addr.add
  split
  · rename_i h; subst h; rfl
  · rfl

/-- A number that is an index. -/
def asN : Value → Option Nat
  | .int _ (.ofNat n) => some n
  | _ => none
theorem asN_vr {v v' : Value} {n : Nat} (h : asN v = some n) (hv : VR γ v v') : ∃ k, v' = .int k (.ofNat n) := by
  unfold asN at h
  split at h
  · cases h; cases hv; exact ⟨_, rfl⟩
  · cases h
theorem run_asIntOf {k : IntKind} {n : Int} (w : World) : (asIntOf (.int k n)).run P w = .ok (k, n) w := rfl

/-- A bound of a slice expression, where it stands. -/
noncomputable def bound (m : Tm) (x : Option Operand) (dflt : Nat) : Option Nat :=
  match x with
  | none => some dflt
  | some x => match ev m x with
    | some v => asN v
    | none => none

theorem run_bound {v : Value} {n y : Nat} {c : BoundsCode} (hv : ∃ k, v = .int k (.ofNat n)) (h : n ≤ y) (w : World) : (Instr.sliceBound v y c).run P w = .ok n w := by
  obtain ⟨k, rfl⟩ := hv
  simp only [Instr.sliceBound, bind, Sem.run_bind', run_asIntOf, Result.andThen_ok]
  have : (0 ≤ Int.ofNat n ∧ Int.ofNat n ≤ (y : Int)) := ⟨by simp, by have : Int.ofNat n = (n : Int) := rfl; omega⟩
  rw [if_pos this]; rfl

theorem bound_vr (h : Tm.R γ m a.tmps) {x : Option Operand} {d n : Nat} (hb : bound m x d = some n) : (x = none ∧ n = d) ∨ ∃ o k, x = some o ∧ a.eval o = .int k (.ofNat n) := by
  unfold bound at hb
  split at hb
  · cases hb; exact .inl ⟨rfl, rfl⟩
  · rename_i o
    cases he : ev m o with
    | none => rw [he] at hb; cases hb
    | some v =>
      rw [he] at hb
      obtain ⟨k, hk⟩ := asN_vr hb (ev_vr h he)
      exact .inr ⟨o, k, rfl, hk⟩

/-- The three bounds, as the model asks for them. -/
theorem run_bounds (h : Tm.R γ m a.tmps) {isS : Bool} {lo hi mx : Option Operand} {len cap l h' m' : Nat} (hl : bound m lo 0 = some l) (hh : bound m hi len = some h') (hm : bound m mx cap = some m')
    (h1 : l ≤ h') (h2 : h' ≤ m') (h3 : m' ≤ cap) (h4 : mx.isSome = true → hi.isSome = true) (w : World) :
    (Instr.sliceBounds isS len cap (lo.map a.eval) (hi.map a.eval) (mx.map a.eval)).run P w = .ok (l, h', m') w := by
  have rb : ∀ {v : Value} {n y : Nat} (c : BoundsCode), (∃ k, v = .int k (.ofNat n)) → n ≤ y → Sem.run P (Instr.sliceBound v y c) w = .ok n w := fun c hv hle => run_bound hv hle w
  unfold Instr.sliceBounds
  rcases bound_vr h hm with ⟨rfl, rfl⟩ | ⟨om, km, rfl, hkm⟩ <;> rcases bound_vr h hh with ⟨rfl, rfl⟩ | ⟨oh, kh, rfl, hkh⟩ <;> rcases bound_vr h hl with ⟨rfl, rfl⟩ | ⟨ol, kl, rfl, hkl⟩ <;>
    first
    | (exfalso; have h5 := h4 rfl; cases h5; done)
    | (simp only [Option.map_none, bind, Sem.run_bind', Sem.run_pure, Result.andThen_ok, Option.isSome_none]; done)
    | (simp only [Option.map_none, Option.map_some, bind, Sem.run_bind', Sem.run_pure, Result.andThen_ok, Option.isSome_none, Option.isSome_some]
       first
       | rfl
       | (rw [rb _ ⟨_, ‹a.eval _ = _›⟩ h3, Result.andThen_ok, rb _ ⟨_, ‹a.eval oh = _›⟩ h2, Result.andThen_ok, rb _ ⟨_, ‹a.eval ol = _›⟩ h1]; try rfl)
       | (rw [rb _ ⟨_, ‹a.eval _ = _›⟩ h3, Result.andThen_ok, rb _ ⟨_, ‹a.eval oh = _›⟩ h2]; try rfl)
       | (rw [rb _ ⟨_, ‹a.eval _ = _›⟩ h2, Result.andThen_ok, rb _ ⟨_, ‹a.eval ol = _›⟩ h1]; try rfl)
       | (rw [rb _ ⟨_, ‹a.eval _ = _›⟩ h2]; try rfl)
       | (rw [rb _ ⟨_, ‹a.eval _ = _›⟩ h1]; try rfl))

/-- A slice of a slice whose elements have k cells. -/
noncomputable def aSliceS (m : Tm) (k : Nat) (p : Option Addr) (len cap : Nat) (lo hi mx : Option Operand) : Option Value :=
  match bound m lo 0, bound m hi len with
  | some l, some h =>
    ifB (Nat.ble l h)
      (match p with
      | none => ifB (Nat.beq h 0) (match mx with | none => some (.slice none 0 0) | some _ => none) none
      | some ⟨B, off, sp⟩ =>
        match sp with
        | some _ => none
        | none =>
          ifB (Nat.blt cap BIG)
            (match bound m mx cap with
            | some m' => ifB (Nat.ble h m') (ifB (Nat.ble m' cap) (ifB (Nat.beq m' l) (some (.slice (some ⟨B, off, none⟩) (Nat.sub h l) (Nat.sub m' l))) (some (.slice (some ⟨B, Nat.add off (Nat.mul l k), none⟩) (Nat.sub h l) (Nat.sub m' l)))) none) none
            | none => none)
            (ifB (Nat.beq cap BIGE)
              (match mx with | none => ifB (Nat.beq h 0) (ifB (Nat.beq B 0) (ifB (Nat.beq off 0) (some (.slice (some ⟨0, 0, none⟩) 0 BIGE)) none) none) none | some _ => none)
              (ifB (Nat.beq cap (Nat.add BIG k)) (ifB (Nat.blt k BIG) (ifB (Nat.ble h len)
                (match mx with
                | none => Nat.rec (motive := fun _ => Option Value) (some (.slice (some ⟨B, off, none⟩) h cap)) (fun _ _ =>
                    ifB (Nat.blt l h) (some (.slice (some ⟨B, Nat.add off (Nat.mul l k), none⟩) (Nat.sub h l) cap)) (some (.slice (some ⟨0, 0, none⟩) 0 BIGE))) l
                | some _ =>
                  match bound m mx 0 with
                  | some m' => ifB (Nat.ble h m') (ifB (Nat.ble m' len) (ifB (Nat.blt m' BIG) (ifB (Nat.beq m' l) (some (.slice (some ⟨B, off, none⟩) (Nat.sub h l) (Nat.sub m' l))) (some (.slice (some ⟨B, Nat.add off (Nat.mul l k), none⟩) (Nat.sub h l) (Nat.sub m' l)))) none) none) none
                  | none => none) none) none) none)))
      none
  | _, _ => none

theorem aSliceS_sim (h : Tm.R γ m a.tmps) {k : Nat} {p : Option Addr} {len cap : Nat} {lo hi mx : Option Operand} {v x' : Value} (hs : aSliceS m k p len cap lo hi mx = some v) (h4 : mx.isSome = true → hi.isSome = true)
    (hx : VR γ (.slice p len cap) x') (w : World) :
    ∃ a' len' cap' l h' m', x' = .slice a' len' cap' ∧ (Instr.sliceBounds true len' cap' (lo.map a.eval) (hi.map a.eval) (mx.map a.eval)).run P w = .ok (l, h', m') w ∧
      VR γ v (.slice (if m' = l then a' else a'.map (·.add (l * k))) (h' - l) (m' - l)) := by
  have hBG : BIG = 9223372036854775808 := rfl
  have hBE : BIGE = 18446744073709551616 := rfl
  unfold aSliceS at hs
  cases hl : bound m lo 0 with
  | none => rw [hl] at hs; cases hs
  | some l =>
    cases hh : bound m hi len with
    | none => rw [hl, hh] at hs; cases hs
    | some h' =>
      rw [hl, hh] at hs
      dsimp only at hs
      rw [ifB_le] at hs
      split at hs
      case isFalse => cases hs
      rename_i hle
      cases hx with
      | sliceNil =>
        dsimp only at hs
        rw [ifB_beq] at hs
        split at hs
        case isFalse => cases hs
        rename_i hz
        subst hz
        cases mx with
        | some _ => cases hs
        | none =>
          cases hs
          have : l = 0 := by omega
          subst this
          exact ⟨none, 0, 0, 0, 0, 0, rfl, run_bounds h hl hh (by rfl) (by omega) (by omega) (by omega) (by simp) w, by simpa using VR.sliceNil⟩
      | slice hB hc =>
        rename_i B off p
        dsimp only at hs
        rw [ifB_lt, if_pos hc] at hs
        cases hm : bound m mx cap with
        | none => rw [hm] at hs; cases hs
        | some m' =>
          rw [hm] at hs
          dsimp only at hs
          rw [ifB_le] at hs
          split at hs
          case isFalse => cases hs
          rename_i h2
          rw [ifB_le] at hs
          split at hs
          case isFalse => cases hs
          rename_i h3
          refine ⟨_, len, cap, l, h', m', rfl, run_bounds h hl hh hm hle h2 h3 h4 w, ?_⟩
          rw [ifB_beq] at hs
          split at hs
          · rename_i e; rw [if_pos e]; cases hs
            exact .slice hB (by have : m'.sub l = m' - l := rfl; omega)
          · rename_i e; rw [if_neg e]; cases hs
            show VR γ _ (.slice (some ((⟨p.b, off + p.σ, none⟩ : Addr).add (l * k))) _ _)
            rw [add_none, show off + p.σ + l * k = (off + l * k) + p.σ by omega]
            exact .slice hB (by have : m'.sub l = m' - l := rfl; omega)
      | sliceU hB hk hlen hN =>
        rename_i B off k' cap' p
        dsimp only at hs
        rw [ifB_lt, if_neg (by omega), ifB_beq, if_neg (by omega), ifB_beq] at hs
        split at hs
        case isFalse => cases hs
        rename_i hkk
        have hkk' : k' = k := by simp at hkk; omega
        subst hkk'
        rw [ifB_lt, if_pos hk, ifB_le] at hs
        split at hs
        case isFalse => cases hs
        rename_i hhl
        cases mx with
        | none =>
          dsimp only at hs
          refine ⟨_, len, cap', l, h', cap', rfl, run_bounds h hl hh (by rfl) hle (by omega) (by omega) h4 w, ?_⟩
          cases l with
          | zero =>
            have : (Value.slice (some ⟨B, off, none⟩) h' (BIG + k')) = v := Option.some.inj hs
            subst this
            have e : (if cap' = 0 then some (⟨p.b, off + p.σ, none⟩ : Addr) else (some (⟨p.b, off + p.σ, none⟩ : Addr)).map (·.add (0 * k'))) = some ⟨p.b, off + p.σ, none⟩ := by
              split
              · rfl
              · simp [Addr.add]
            rw [e, Nat.sub_zero, Nat.sub_zero]
            exact .sliceU hB hk (by omega) hN
          | succ l =>
            have hs' : ifB (Nat.blt (l + 1) h') (some (Value.slice (some ⟨B, off + (l + 1) * k', none⟩) (h' - (l + 1)) (BIG + k'))) (some (.slice (some ⟨0, 0, none⟩) 0 BIGE)) = some v := hs
            rw [ifB_lt] at hs'
            split at hs'
            · rename_i hlt
              cases hs'
              rw [if_neg (by omega)]
              show VR γ _ (.slice (some ((⟨p.b, off + p.σ, none⟩ : Addr).add ((l + 1) * k'))) _ _)
              rw [add_none, show off + p.σ + (l + 1) * k' = (off + (l + 1) * k') + p.σ by omega]
              refine .sliceU hB hk (by omega) ?_
              have e : cap' * k' = (l + 1) * k' + (cap' - (l + 1)) * k' := by rw [← Nat.add_mul]; congr 1; omega
              omega
            · rename_i hlt
              cases hs'
              have : h' - (l + 1) = 0 := by omega
              rw [this]
              split
              · exact .sliceE _ _
              · exact .sliceE _ _
        | some o =>
          cases hm : bound m (some o) 0 with
          | none => rw [hm] at hs; cases hs
          | some m' =>
            rw [hm] at hs
            dsimp only at hs
            rw [ifB_le] at hs
            split at hs
            case isFalse => cases hs
            rename_i h2
            rw [ifB_le] at hs
            split at hs
            case isFalse => cases hs
            rename_i h3
            rw [ifB_lt] at hs
            split at hs
            case isFalse => cases hs
            rename_i h5
            have hm2 : bound m (some o) cap' = some m' := hm
            refine ⟨_, len, cap', l, h', m', rfl, run_bounds h hl hh hm2 hle h2 (by omega) h4 w, ?_⟩
            rw [ifB_beq] at hs
            split at hs
            · rename_i e; rw [if_pos e]; cases hs
              exact .slice hB (by have : m'.sub l = m' - l := rfl; omega)
            · rename_i e; rw [if_neg e]; cases hs
              show VR γ _ (.slice (some ((⟨p.b, off + p.σ, none⟩ : Addr).add (l * k'))) _ _)
              rw [add_none, show off + p.σ + l * k' = (off + l * k') + p.σ by omega]
              exact .slice hB (by have : m'.sub l = m' - l := rfl; omega)
      | sliceE a' cap' =>
        dsimp only at hs
        rw [ifB_lt, if_neg (by omega), ifB_beq, if_pos rfl] at hs
        cases mx with
        | some _ => cases hs
        | none =>
          dsimp only at hs
          rw [ifB_beq] at hs
          split at hs
          case isFalse => cases hs
          rename_i hz
          subst hz
          rw [ifB_beq, if_pos rfl, ifB_beq, if_pos rfl] at hs
          cases hs
          have : l = 0 := by omega
          subst this
          refine ⟨some a', 0, cap', 0, 0, cap', rfl, run_bounds h hl hh (by rfl) (by omega) (by omega) (by omega) (by simp) w, ?_⟩
          split
          · exact .sliceE _ _
          · exact .sliceE _ _
end Go.Ae

namespace Go.Ae
variable {P : Program} {γ : Gm} {m : Tm} {a : Act} {w : World}

/-- A slice expression. -/
noncomputable def aSlice (P : Program) (m : Tm) (t : TypeId) (x : Value) (lo hi mx : Option Operand) : Option Value :=
  match P.underlying t, x with
  | some (.slice e), .slice p len cap =>
    match P.info? e with
    | some i => ifB (!(mx.isSome) || hi.isSome) (aSliceS m i.size p len cap lo hi mx) none
    | none => none
  | some .string, .string s =>
    match mx, bound m lo 0, bound m hi s.size with
    | none, some l, some h => ifB (Nat.ble l h) (ifB (Nat.ble h s.size) (some (.string (s.extract l h))) none) none
    | _, _, _ => none
  | some (.array n e), .pointer (some ⟨B, off, none⟩) =>
    match P.info? e, bound m lo 0, bound m hi n, bound m mx n with
    | some i, some l, some h, some m' =>
      ifB (!(mx.isSome) || hi.isSome) (ifB (Nat.ble l h) (ifB (Nat.ble h m') (ifB (Nat.ble m' n) (ifB (Nat.blt n BIG)
        (some (.slice (some ⟨B, ifB (Nat.beq m' l) off (Nat.add off (Nat.mul l i.size)), none⟩) (Nat.sub h l) (Nat.sub m' l))) none) none) none) none) none
    | _, _, _, _ => none
  | _, _ => none

theorem imp_of {a b : Bool} (h : (!a || b) = true) : a = true → b = true := by cases a <;> cases b <;> simp at h ⊢

theorem aSlice_sim (h : Tm.R γ m a.tmps) {t : TypeId} {x x' v : Value} {lo hi mx : Option Operand} (hs : aSlice P m t x lo hi mx = some v) (hx : VR γ x x') (w : World) :
    ∃ v', (Instr.sliceAt t x' (lo.map a.eval) (hi.map a.eval) (mx.map a.eval)).run P w = .ok v' w ∧ VR γ v v' := by
  unfold aSlice at hs
  split at hs
  · rename_i e p len cap hu
    cases hi' : P.info? e with
    | none => rw [hi'] at hs; cases hs
    | some i =>
      rw [hi'] at hs
      dsimp only at hs
      rw [ifB_eq] at hs
      split at hs
      case isFalse => cases hs
      rename_i h4
      obtain ⟨a', len', cap', l, hh, m', rfl, hr, hv⟩ := aSliceS_sim (P := P) h hs (imp_of h4) hx w
      refine ⟨_, ?_, hv⟩
      simp only [Instr.sliceAt, bind, Sem.run_bind', r_under hu, Result.andThen_ok, Instr.slice, hr, r_size hi', Sem.run_pure]
  · rename_i s hu
    cases hx
    split at hs
    · rename_i l hh hl hhh
      rw [ifB_le] at hs
      split at hs
      case isFalse => cases hs
      rename_i h1
      rw [ifB_le] at hs
      split at hs
      case isFalse => cases hs
      rename_i h2
      cases hs
      refine ⟨_, ?_, .string _⟩
      have hr := run_bounds (P := P) (isS := false) h hl hhh (mx := none) (cap := s.size) (by rfl) h1 h2 (Nat.le_refl _) (by simp) w
      simp only [Option.map_none] at hr
      simp only [Instr.sliceAt, bind, Sem.run_bind', r_under hu, Result.andThen_ok, Instr.slice, Option.map_none, Option.isSome_none, Bool.false_eq_true, if_false, hr, Sem.run_pure]
    · cases hs
  · rename_i n e B off hu
    split at hs
    · rename_i i l hh m' hi' hl hhh hm
      rw [ifB_eq] at hs
      split at hs
      case isFalse => cases hs
      rename_i h4
      rw [ifB_le] at hs
      split at hs
      case isFalse => cases hs
      rename_i h1
      rw [ifB_le] at hs
      split at hs
      case isFalse => cases hs
      rename_i h2
      rw [ifB_le] at hs
      split at hs
      case isFalse => cases hs
      rename_i h3
      rw [ifB_lt] at hs
      split at hs
      case isFalse => cases hs
      rename_i h5
      cases hs
      cases hx with
      | ptr hB =>
        rename_i p
        have hr := run_bounds (P := P) (isS := false) h hl hhh hm h1 h2 h3 (imp_of h4) w
        refine ⟨.slice (some (if m' = l then ⟨p.b, off + p.σ, none⟩ else (⟨p.b, off + p.σ, none⟩ : Addr).add (l * i.size))) (hh - l) (m' - l), ?_, ?_⟩
        · simp only [Instr.sliceAt, bind, Sem.run_bind', r_under hu, Result.andThen_ok, Instr.sureAddr, hr, r_size hi', Sem.run_pure]
        · rw [ifB_beq]
          split
          · exact .slice hB (by have : m'.sub l = m' - l := rfl; omega)
          · rw [add_none, show off + p.σ + l * i.size = (off + l * i.size) + p.σ by omega]
            exact .slice hB (by have : m'.sub l = m' - l := rfl; omega)
    · cases hs
  · cases hs

/-- A field's address. -/
noncomputable def aFieldAddr (P : Program) (s : TypeId) (x : Value) (f : Nat) : Option Value :=
  match P.underlying s, x with
  | some (.struct fs), .pointer (some ⟨B, off, none⟩) =>
    match fs.toList[f]? with
    | some fd => match P.info? fd.type with
      | some i => nz i.size none (some (.pointer (some ⟨B, Nat.add off fd.offset, none⟩)))
      | none => none
    | none => none
  | _, _ => none

theorem aFieldAddr_sim {s : TypeId} {x x' v : Value} {f : Nat} (hs : aFieldAddr P s x f = some v) (hx : VR γ x x') (w : World) :
    ∃ v', (Instr.fieldAt s x' f).run P w = .ok v' w ∧ VR γ v v' := by
  unfold aFieldAddr at hs
  split at hs
  · rename_i fs B off hu
    split at hs
    · rename_i fd hf
      split at hs
      · rename_i i hi
        rw [nz_eq] at hs
        split at hs
        · cases hs
        · rename_i hz
          cases hs
          cases hx with
          | ptr hB =>
            rename_i p
            refine ⟨_, ?_, .ptr hB⟩
            have hf' : fs[f]? = some fd := by rw [← Array.getElem?_toList]; exact hf
            simp only [Instr.fieldAt, bind, Sem.run_bind', r_under hu, Result.andThen_ok, hf', Instr.sureAddr, Sem.run_pure, fieldPlace, r_size hi, if_neg hz, add_none]
            congr 4
            have : off.add fd.offset = off + fd.offset := rfl
            omega
      · cases hs
    · cases hs
  · cases hs

/-- A part of an aggregate. -/
def aPart (P : Program) (t : TypeId) (cs : List Value) (off : Nat) : Option Value :=
  match P.underlying t, P.info? t with
  | some d, some i => if aggD d then (if off + i.size ≤ cs.length then some (.agg ⟨(cs.drop off).take i.size⟩) else none) else cs[off]?
  | _, _ => none

theorem extract_list (c : Array Value) (o n : Nat) : c.extract o (o + n) = ⟨(c.toList.drop o).take n⟩ := by
  apply Array.ext'
  simp only [Array.toList_extract, List.extract_eq_take_drop]
  congr 1; omega

theorem aPart_sim {t : TypeId} {cs : List Value} {cs' : Array Value} {off : Nat} {v : Value} (h : aPart P t cs off = some v) (hc : VRs γ cs cs'.toList) (w : World) :
    ∃ v', (part t cs' off).run P w = .ok v' w ∧ VR γ v v' := by
  unfold aPart at h
  split at h
  · rename_i d i hu hi
    split at h
    · rename_i hd
      split at h
      · rename_i hle
        cases h
        refine ⟨.agg ⟨(cs'.toList.drop off).take i.size⟩, ?_, .agg ((hc.drop off).take i.size)⟩
        simp only [part, bind, Sem.run_bind', r_isAgg hu, Result.andThen_ok, hd, if_true, r_size hi, Sem.run_pure, extract_list]
      · cases h
    · rename_i hd
      obtain ⟨v', h1, h2⟩ := hc.get off v h
      refine ⟨v', ?_, h2⟩
      have h1' : cs'[off]? = some v' := by rw [← Array.getElem?_toList]; exact h1
      simp only [part, bind, Sem.run_bind', r_isAgg hu, Result.andThen_ok, hd, if_false, Bool.false_eq_true, h1', Sem.run_pure]
  · cases h

def aField (P : Program) (t : TypeId) (x : Value) (f : Nat) : Option Value :=
  match P.underlying t, x with
  | some (.struct fs), .agg cs =>
    match fs.toList[f]? with
    | some fd => aPart P fd.type cs.toList fd.offset
    | none => none
  | _, _ => none
theorem aField_sim {t : TypeId} {x x' v : Value} {f : Nat} (hs : aField P t x f = some v) (hx : VR γ x x') (w : World) : ∃ v', (Instr.field t x' f).run P w = .ok v' w ∧ VR γ v v' := by
  unfold aField at hs
  split at hs
  · rename_i fs cs hu
    split at hs
    · rename_i fd hf
      cases hx with
      | agg hc =>
        obtain ⟨v', h1, h2⟩ := aPart_sim hs hc w
        refine ⟨v', ?_, h2⟩
        have hf' : fs[f]? = some fd := by rw [← Array.getElem?_toList]; exact hf
        simp only [Instr.field, bind, Sem.run_bind', r_under hu, Result.andThen_ok, hf', asAgg, Sem.run_pure, h1]
    · cases hs
  · cases hs

/-- An element's address. -/
noncomputable def aIndexAddr (P : Program) (t : TypeId) (x ix : Value) : Option Value :=
  match P.underlying t, x, asN ix with
  | some (.slice e), .slice (some ⟨B, off, none⟩) len _, some i =>
    match P.info? e with
    | some inf => ifB (Nat.blt i len) (some (.pointer (some ⟨B, Nat.add off (Nat.mul i inf.size), none⟩))) none
    | none => none
  | some (.array n e), .pointer (some ⟨B, off, none⟩), some i =>
    match P.info? e with
    | some inf => ifB (Nat.blt i n) (some (.pointer (some ⟨B, Nat.add off (Nat.mul i inf.size), none⟩))) none
    | none => none
  | _, _, _ => none

theorem aIndexAddr_sim {t : TypeId} {x x' ix ix' v : Value} (hs : aIndexAddr P t x ix = some v) (hx : VR γ x x') (hi : VR γ ix ix') (w : World) :
    ∃ v', (Instr.indexAt t x' ix').run P w = .ok v' w ∧ VR γ v v' := by
  unfold aIndexAddr at hs
  split at hs
  · rename_i e B off len cap i hu hn
    obtain ⟨k, rfl⟩ := asN_vr hn hi
    split at hs
    · rename_i inf hinf
      rw [ifB_lt] at hs
      split at hs
      · rename_i hlt
        cases hs
        have hb : (0 ≤ Int.ofNat i ∧ Int.ofNat i < (len : Int)) := ⟨by simp, by have : Int.ofNat i = (i : Int) := rfl; omega⟩
        have run : ∀ (b o c : Nat), (Instr.indexAt t (.slice (some ⟨b, o, none⟩) len c) (.int k (.ofNat i))).run P w = .ok (.pointer (some ⟨b, o + i * inf.size, none⟩)) w := by
          intro b o c
          simp only [Instr.indexAt, bind, Sem.run_bind', run_asIntOf, Result.andThen_ok, r_under hu, Sem.run_pure, if_pos hb, r_size hinf, add_none]
          rfl
        cases hx with
        | slice hB hc =>
          rename_i p
          refine ⟨_, run _ _ _, ?_⟩
          rw [show off + p.σ + i * inf.size = (off + i * inf.size) + p.σ by omega]; exact .ptr hB
        | sliceU hB hk hl hN =>
          rename_i p
          refine ⟨_, run _ _ _, ?_⟩
          rw [show off + p.σ + i * inf.size = (off + i * inf.size) + p.σ by omega]; exact .ptr hB
        | sliceE a c => omega
      · cases hs
    · cases hs
  · rename_i n e B off i hu hn
    obtain ⟨k, rfl⟩ := asN_vr hn hi
    split at hs
    · rename_i inf hinf
      rw [ifB_lt] at hs
      split at hs
      · rename_i hlt
        cases hs
        have hb : (0 ≤ Int.ofNat i ∧ Int.ofNat i < (n : Int)) := ⟨by simp, by have : Int.ofNat i = (i : Int) := rfl; omega⟩
        cases hx with
        | ptr hB =>
          rename_i p
          refine ⟨.pointer (some ⟨p.b, off + p.σ + i * inf.size, none⟩), ?_, ?_⟩
          · simp only [Instr.indexAt, bind, Sem.run_bind', run_asIntOf, Result.andThen_ok, r_under hu, Instr.sureAddr, Sem.run_pure, if_pos hb, r_size hinf, add_none]
            rfl
          · rw [show off + p.σ + i * inf.size = (off + i * inf.size) + p.σ by omega]; exact .ptr hB
      · cases hs
    · cases hs
  · cases hs

/-- An element of an array by value; a byte of a string. -/
noncomputable def aIndex (P : Program) (t : TypeId) (x ix : Value) : Option Value :=
  match P.underlying t, x, asN ix with
  | some (.array n e), .agg cs, some i =>
    match P.info? e with
    | some inf => ifB (Nat.blt i n) (aPart P e cs.toList (Nat.mul i inf.size)) none
    | none => none
  | some .string, .string s, some i =>
    match s.data.toList[i]? with
    | some b => some (.int .u8 b.toNat)
    | none => none
  | _, _, _ => none

theorem aIndex_sim {t : TypeId} {x x' ix ix' v : Value} (hs : aIndex P t x ix = some v) (hx : VR γ x x') (hi : VR γ ix ix') (w : World) :
    ∃ v', (Instr.index t x' ix').run P w = .ok v' w ∧ VR γ v v' := by
  unfold aIndex at hs
  split at hs
  · rename_i n e cs i hu hn
    obtain ⟨k, rfl⟩ := asN_vr hn hi
    split at hs
    · rename_i inf hinf
      rw [ifB_lt] at hs
      split at hs
      · rename_i hlt
        have hb : (0 ≤ Int.ofNat i ∧ Int.ofNat i < (n : Int)) := ⟨by simp, by have : Int.ofNat i = (i : Int) := rfl; omega⟩
        cases hx with
        | agg hc =>
          obtain ⟨v', h1, h2⟩ := aPart_sim hs hc w
          refine ⟨v', ?_, h2⟩
          simp only [Instr.index, bind, Sem.run_bind', run_asIntOf, Result.andThen_ok, r_under hu, if_pos hb, r_size hinf]
          exact h1
      · cases hs
    · cases hs
  · rename_i s i hu hn
    obtain ⟨k, rfl⟩ := asN_vr hn hi
    cases hx
    split at hs
    · rename_i b hb
      cases hs
      refine ⟨_, ?_, .int _ _⟩
      have h0 : (0 : Int) ≤ Int.ofNat i := by simp
      have hs' : s[i]? = some b := by
        have hi' : i < s.data.size := by
          rcases Nat.lt_or_ge i s.data.size with h | h
          · exact h
          · rw [List.getElem?_eq_none (by simpa using h)] at hb; cases hb
        have : s[i]? = some (s[i]'(hi')) := getElem?_pos s i hi'
        rw [this]
        rw [List.getElem?_eq_getElem (by simpa using hi')] at hb
        have e := Option.some.inj hb
        simp only [Array.getElem_toList] at e
        rw [← e]; rfl
      have ht : (Int.ofNat i).toNat = i := rfl
      simp only [Instr.index, bind, Sem.run_bind', run_asIntOf, Result.andThen_ok, r_under hu, if_pos h0, ht, hs', Sem.run_pure]
    · cases hs
  · cases hs

def aExtract (x : Value) (i : Nat) : Option Value :=
  match x with
  | .tuple vs => vs.toList[i]?
  | _ => none
theorem aExtract_sim {x x' v : Value} {i : Nat} (hs : aExtract x i = some v) (hx : VR γ x x') (w : World) : ∃ v', (Instr.extract x' i).run P w = .ok v' w ∧ VR γ v v' := by
  unfold aExtract at hs
  split at hs
  · cases hx with
    | tuple hc =>
      rename_i cs'
      obtain ⟨v', h1, h2⟩ := hc.get i v hs
      refine ⟨v', ?_, h2⟩
      have h1' : cs'[i]? = some v' := by rw [← Array.getElem?_toList]; exact h1
      simp only [Instr.extract, h1', Sem.run_pure]
  · cases hs
end Go.Ae

namespace Go.Ae
variable {P : Program} {γ : Gm} {m : Tm} {a : Act} {w : World}

/-! ### Building -/
def placesL (P : Program) : List Field → Option (List (Nat × Nat))
  | [] => some []
  | f :: fs => match P.info? f.type, placesL P fs with
    | some i, some l => some ((f.offset, i.size) :: l)
    | _, _ => none

theorem run_places : ∀ (fs : List Field) (l : List (Nat × Nat)), placesL P fs = some l → ∀ w, (fs.mapM fun f => do pure (f.offset, ← sizeOf f.type) : Sem (List (Nat × Nat))).run P w = .ok l w
  | [], l, h, w => by cases h; rfl
  | f :: fs, l, h, w => by
    unfold placesL at h
    split at h
    · rename_i i q hi hq
      cases h
      have ih := run_places fs q hq w
      simp only [bind] at ih
      simp only [List.mapM_cons, bind, Sem.run_bind', r_size hi, Result.andThen_ok, Sem.run_pure, ih]
    · cases h

theorem run_placesA {fs : Array Field} {l : List (Nat × Nat)} (h : placesL P fs.toList = some l) (w : World) : (fs.mapM fun f => do pure (f.offset, ← sizeOf f.type) : Sem (Array (Nat × Nat))).run P w = .ok ⟨l⟩ w := by
  rw [Array.mapM_eq_mapM_toList]
  simp only [Functor.map, Sem.run_bind', run_places _ _ h, Result.andThen_ok]
  rfl

inductive PR (γ : Gm) : List (Nat × Value) → List (Nat × Value) → Prop where
  | nil : PR γ [] []
  | cons {i : Nat} {v v' : Value} {l l' : List (Nat × Value)} (h : VR γ v v') (hl : PR γ l l') : PR γ ((i, v) :: l) ((i, v') :: l')

theorem VRs.set : ∀ {l l' : List Value}, VRs γ l l' → ∀ {v v' : Value}, VR γ v v' → ∀ i, VRs γ (l.set i v) (l'.set i v')
  | _, _, .nil, _, _, _, _ => .nil
  | _, _, .cons _ hl, _, _, hv, 0 => .cons hv hl
  | _, _, .cons hx hl, _, _, hv, i + 1 => .cons hx (VRs.set hl hv i)

theorem foldl_set_vr {off : Nat} : ∀ {cs cs' : List Value}, VRs γ cs cs' → ∀ (j : Nat) (c c' : Array Value), VRs γ c.toList c'.toList →
    VRs γ (((cs.zipIdx j).foldl (fun (cs : Array Value) (x : Value × Nat) => cs.setIfInBounds (off + x.2) x.1) c)).toList (((cs'.zipIdx j).foldl (fun (cs : Array Value) (x : Value × Nat) => cs.setIfInBounds (off + x.2) x.1) c')).toList
  | _, _, .nil, _, _, _, h => h
  | _, _, .cons hv hl, j, c, c', h => by
    simp only [List.zipIdx_cons, List.foldl_cons]
    refine foldl_set_vr hl (j + 1) _ _ ?_
    simp only [Array.toList_setIfInBounds]
    exact h.set hv _

theorem fill_vr {place : Nat → Option (Nat × Nat)} {l l' : List (Nat × Value)} (hl : PR γ l l') : ∀ {c c' r : Array Value}, VRs γ c.toList c'.toList → Instr.fill place c l = some r →
    ∃ r', Instr.fill place c' l' = some r' ∧ VRs γ r.toList r'.toList := by
  induction hl with
  | nil => intro c c' r hc h; cases h; exact ⟨c', rfl, hc⟩
  | cons hv _ ih =>
    intro c c' r hc h
    rename_i i v v' l l' _
    unfold Instr.fill at h ⊢
    cases hp : place i with
    | none => rw [hp] at h; cases h
    | some q =>
      obtain ⟨off, size⟩ := q
      rw [hp] at h
      dsimp only at h ⊢
      have hsz : v.cells.size = v'.cells.size := by simpa using hv.cells.length
      have hcs : c.size = c'.size := by simpa using hc.length
      rw [← hsz, ← hcs]
      split at h
      · cases h
      · rename_i hn
        rw [if_neg hn]
        refine ih ?_ h
        have key := foldl_set_vr (off := off) hv.cells 0 c c' hc
        have e : ∀ (c cs : Array Value), cs.zipIdx.foldl (fun (cs : Array Value) (x : Value × Nat) => cs.setIfInBounds (off + x.2) x.1) c = cs.toList.zipIdx.foldl (fun (cs : Array Value) (x : Value × Nat) => cs.setIfInBounds (off + x.2) x.1) c := by
          intro c cs; rw [← Array.foldl_toList, Array.toList_zipIdx]
        rw [← e, ← e] at key
        exact key

def aBuild (P : Program) (t : TypeId) (parts : List (Nat × Value)) : Option Value :=
  match P.underlying t, P.info? t with
  | some (.struct fs), some i =>
    match i.zero, placesL P fs.toList with
    | some z, some l => if constV z then (match Instr.fill (fun (i : Nat) => l[i]?) z.cells parts with | some cells => some (.agg cells) | none => none) else none
    | _, _ => none
  | some (.array _ e), some i =>
    match i.zero, P.info? e with
    | some z, some ie => if constV z then (match Instr.fill (fun i => some (i * ie.size, ie.size)) z.cells parts with | some cells => some (.agg cells) | none => none) else none
    | _, _ => none
  | _, _ => none

theorem aBuild_sim {t : TypeId} {parts : List (Nat × Value)} {parts' : Array (Nat × Value)} {v : Value} (h : aBuild P t parts = some v) (hp : PR γ parts parts'.toList) (w : World) :
    ∃ v', (Instr.build t parts').run P w = .ok v' w ∧ VR γ v v' := by
  unfold aBuild at h
  split at h
  · rename_i fs i hu hi
    split at h
    · rename_i z l hz hl
      split at h
      · rename_i hc
        split at h
        · rename_i cells hf
          cases h
          obtain ⟨r', h1, h2⟩ := fill_vr hp (constV_vr hc).cells hf
          refine ⟨.agg r', ?_, .agg h2⟩
          have e : (fun (i : Nat) => (⟨l⟩ : Array (Nat × Nat))[i]?) = fun (i : Nat) => l[i]? := by funext i; simp
          have hpl := run_placesA hl w
          simp only [bind] at hpl
          simp only [Instr.build, bind, Sem.run_bind', r_zero hi hz, Result.andThen_ok, r_under hu, hpl, e, h1, Sem.run_pure]
        · cases h
      · cases h
    · cases h
  · rename_i n e i hu hi
    split at h
    · rename_i z ie hz hie
      split at h
      · rename_i hc
        split at h
        · rename_i cells hf
          cases h
          obtain ⟨r', h1, h2⟩ := fill_vr hp (constV_vr hc).cells hf
          refine ⟨.agg r', ?_, .agg h2⟩
          simp only [Instr.build, bind, Sem.run_bind', r_zero hi hz, Result.andThen_ok, r_under hu, r_size hie, h1, Sem.run_pure]
        · cases h
      · cases h
    · cases h
  · cases h

/-- The parts of a literal, evaluated. -/
noncomputable def evParts (m : Tm) (l : List (Nat × Operand)) : Option (List (Nat × Value)) :=
  List.rec (motive := fun _ => Option (List (Nat × Value))) (some [])
    (fun x _ ih => Option.rec (motive := fun _ => Option (List (Nat × Value))) none (fun v => Option.rec (motive := fun _ => Option (List (Nat × Value))) none (fun vs => some ((x.1, v) :: vs)) ih) (ev m x.2)) l
theorem evParts_vr (h : Tm.R γ m a.tmps) : ∀ {l : List (Nat × Operand)} {q : List (Nat × Value)}, evParts m l = some q → PR γ q (l.map fun x => (x.1, a.eval x.2))
  | [], q, hq => by cases hq; exact .nil
  | x :: l, q, hq => by
    have h' : Option.rec (motive := fun _ => Option (List (Nat × Value))) none (fun v => Option.rec (motive := fun _ => Option (List (Nat × Value))) none (fun vs => some ((x.1, v) :: vs)) (evParts m l)) (ev m x.2) = some q := hq
    cases hx : ev m x.2 with
    | none => rw [hx] at h'; cases h'
    | some v =>
      rw [hx] at h'
      cases hl : evParts m l with
      | none => rw [hl] at h'; cases h'
      | some vs =>
        rw [hl] at h'
        cases h'
        exact .cons (ev_vr h hx) (evParts_vr h hl)

/-! ### The rest -/
noncomputable def aUn (op : UnOp) (x : Value) : Option Value :=
  match op, x with
  | .neg, .int k n => some (.int k (wrapK k (Int.sub 0 n)))
  | .xor, .int k n => aBits .xor k (if k.signed then -1 else k.max) n
  | .not, .bool b => some (.bool (!b))
  | _, _ => none
theorem aUn_sim {op : UnOp} {x x' v : Value} (h : aUn op x = some v) (hx : VR γ x x') (w : World) : (Op.unary op x').run P w = .ok v w ∧ VR γ v v := by
  unfold aUn at h
  split at h
  · cases hx; cases h; rw [wrapK_eq]; exact ⟨rfl, .int _ _⟩
  · cases hx
    refine ⟨aBits_sim h w, ?_⟩
    simp only [aBits, Op.intBits] at h; cases h; constructor
  · cases hx; cases h; exact ⟨rfl, .bool _⟩
  · cases h

noncomputable def aConv (P : Program) (s d : TypeId) (x : Value) : Option Value :=
  match P.underlying s, P.underlying d, x with
  | some _, some (.int k), .int _ n => some (.int k (wrapK k n))
  | some .string, some .string, .string b => some (.string b)
  | _, _, _ => none
theorem aConv_sim {s d : TypeId} {x x' v : Value} (h : aConv P s d x = some v) (hx : VR γ x x') (w : World) : (convert s d x').run P w = .ok v w ∧ VR γ v v := by
  unfold aConv at h
  split at h
  · rename_i ds k j n hs hd
    cases hx; cases h; rw [wrapK_eq]
    refine ⟨?_, .int _ _⟩
    simp only [convert, bind, Sem.run_bind', r_under hs, r_under hd, Result.andThen_ok]
    rfl
  · rename_i b hs hd
    cases hx; cases h
    refine ⟨?_, .string _⟩
    simp only [convert, bind, Sem.run_bind', r_under hs, r_under hd, Result.andThen_ok]
    rfl
  · cases h

def notIface : TypeDesc → Bool
  | .interface _ => false
  | _ => true

def aIface (P : Program) (t : TypeId) (x : Value) : Option Value :=
  match P.underlying t with
  | some d => if notIface d then some (.iface t x) else none
  | none => none
theorem aIface_sim {t : TypeId} {x x' v : Value} (h : aIface P t x = some v) (hx : VR γ x x') (w : World) : ∃ v', (Instr.makeInterface t x').run P w = .ok v' w ∧ VR γ v v' := by
  unfold aIface at h
  split at h
  · rename_i d hu
    split at h
    · rename_i hd
      cases h
      refine ⟨.iface t x', ?_, .iface hx⟩
      simp only [Instr.makeInterface, bind, Sem.run_bind', r_under hu, Result.andThen_ok]
      cases d <;> first | rfl | cases hd
    · cases h
  · cases h

/-- A slice turned to a pointer to an array. -/
noncomputable def aArrAt (P : Program) (t : TypeId) (x : Value) : Option Value :=
  match P.underlying t, x with
  | some (.array n _), .slice (some a) len cap => ifB (Nat.ble n len && !(Nat.beq cap BIGE)) (some (.pointer (some a))) none
  | _, _ => none
theorem aArrAt_sim {t : TypeId} {x x' v : Value} (h : aArrAt P t x = some v) (hx : VR γ x x') (w : World) : ∃ v', (Instr.arrayAt t x').run P w = .ok v' w ∧ VR γ v v' := by
  unfold aArrAt at h
  split at h
  · rename_i n e a len cap hu
    rw [ifB_eq] at h
    split at h
    case isFalse => cases h
    rename_i hc
    cases h
    simp only [Bool.and_eq_true, Bool.not_eq_true'] at hc
    have hn : n ≤ len := Nat.le_of_ble_eq_true hc.1
    have main : ∀ b c, (Instr.arrayAt t (.slice (some b) len c)).run P w = .ok (.pointer (some b)) w := by
      intro b c
      simp only [Instr.arrayAt, bind, Sem.run_bind', r_under hu, Result.andThen_ok]
      rw [if_neg (by omega)]; rfl
    cases hx with
    | slice hB _ => exact ⟨_, main _ _, .ptr hB⟩
    | sliceU hB _ _ _ => exact ⟨_, main _ _, .ptr hB⟩
    | sliceE a c => simp at hc
  · cases h

noncomputable def aAssert (P : Program) (x : Value) (t : TypeId) (ok : Bool) : Option Value :=
  match P.underlying t, P.info? t with
  | some d, some i =>
    if notIface d then
      match x with
      | .iface u v => if u = t then some (if ok then .tuple #[v, .bool true] else v) else
        (match ok, i.zero with | true, some z => if constV z then some (.tuple #[z, .bool false]) else none | _, _ => none)
      | .nilIface => (match ok, i.zero with | true, some z => if constV z then some (.tuple #[z, .bool false]) else none | _, _ => none)
      | _ => none
    else none
  | _, _ => none
theorem aAssert_sim {x x' v : Value} {xt t : TypeId} {ok : Bool} (h : aAssert P x t ok = some v) (hx : VR γ x x') (w : World) : ∃ v', (Instr.typeAssert x' xt t ok).run P w = .ok v' w ∧ VR γ v v' := by
  unfold aAssert at h
  split at h
  · rename_i d i hu hi
    split at h
    · rename_i hd
      split at h
      · rename_i u y
        cases hx with
        | iface hy =>
          rename_i y'
          split at h
          · rename_i e
            cases h
            refine ⟨if ok then .tuple #[y', .bool true] else y', ?_, ?_⟩
            · simp only [Instr.typeAssert, bind, Sem.run_bind', r_under hu, Result.andThen_ok]
              cases d <;> first | (simp only [if_pos e]; rfl) | cases hd
            · cases ok
              · exact hy
              · exact .tuple (.cons hy (.one (.bool true)))
          · rename_i e
            split at h
            · rename_i z hz
              split at h
              · rename_i hc
                cases h
                refine ⟨.tuple #[z, .bool false], ?_, .tuple (.cons (constV_vr hc) (.one (.bool false)))⟩
                simp only [Instr.typeAssert, bind, Sem.run_bind', r_under hu, Result.andThen_ok]
                cases d <;> first | (simp only [if_neg e, if_true, bind, Sem.run_bind', r_zero hi hz, Result.andThen_ok]; rfl) | cases hd
              · cases h
            · cases h
      · cases hx
        split at h
        · rename_i z hz
          split at h
          · rename_i hc
            cases h
            refine ⟨.tuple #[z, .bool false], ?_, .tuple (.cons (constV_vr hc) (.one (.bool false)))⟩
            simp only [Instr.typeAssert, bind, Sem.run_bind', r_under hu, Result.andThen_ok]
            cases d <;> first | (simp only [if_true, bind, Sem.run_bind', r_zero hi hz, Result.andThen_ok]; rfl) | cases hd
          · cases h
        · cases h
      · cases h
    · cases h
  · cases h

/-- The length of what needs no look into memory. -/
def aLen (P : Program) (t : TypeId) (x : Value) : Option Value :=
  match P.underlying t, x with
  | some .string, .string s => some (.int .i64 s.size)
  | some (.slice _), .slice _ n _ => some (.int .i64 n)
  | some (.array n _), _ => some (.int .i64 n)
  | some (.map _ _), .map none => some (.int .i64 0)
  | some (.pointer e), _ => match P.underlying e with | some (.array n _) => some (.int .i64 n) | _ => none
  | _, _ => none
theorem aLen_sim {t T : TypeId} {x x' v : Value} (h : aLen P t x = some v) (hx : VR γ x x') (w : World) : (Builtin.len_ #[t] T #[x']).run P w = .ok v w ∧ VR γ v v := by
  have e0 : (#[t] : Array TypeId)[0]? = some t := rfl
  have e1 : (#[x'] : Array Value)[0]? = some x' := rfl
  unfold aLen at h
  unfold Builtin.len_
  simp only [e0, e1, bind, Sem.run_bind']
  split at h
  · rename_i s hu
    cases hx; cases h
    simp only [r_under hu, Result.andThen_ok]
    exact ⟨rfl, .int _ _⟩
  · rename_i hu
    cases h
    refine ⟨?_, .int _ _⟩
    simp only [r_under hu, Result.andThen_ok]
    cases hx <;> rfl
  · rename_i n e _ hu
    cases h
    refine ⟨?_, .int _ _⟩
    simp only [r_under hu, Result.andThen_ok]
    rfl
  · rename_i hu
    cases hx; cases h
    simp only [r_under hu, Result.andThen_ok]
    exact ⟨rfl, .int _ _⟩
  · rename_i e _ hu
    split at h
    · rename_i n _ hu2
      cases h
      refine ⟨?_, .int _ _⟩
      simp only [r_under hu, Result.andThen_ok, bind, Sem.run_bind', r_under hu2]
      rfl
    · cases h
  · cases h

noncomputable def aMax : Value → List Value → Option Value
  | x, [] => some x
  | .int k x, .int _ y :: l => aMax (.int k (ifB (iLt x y) y x)) l
  | _, _ => none
noncomputable def aMin : Value → List Value → Option Value
  | x, [] => some x
  | .int k x, .int _ y :: l => aMin (.int k (ifB (iLt y x) y x)) l
  | _, _ => none

theorem aMax_sim : ∀ (l : List Value) (x : Value) {v : Value} {l' : List Value} {x' : Value}, aMax x l = some v → VR γ x x' → VRs γ l l' → ∀ w, ∃ v', (l'.foldlM Builtin.max2 x').run P w = .ok v' w ∧ VR γ v v'
  | [], x, v, l', x', h, hx, hl, w => by
    cases hl
    have : x = v := by unfold aMax at h; exact Option.some.inj h
    subst this; exact ⟨x', rfl, hx⟩
  | y :: l, x, v, l', x', h, hx, hl, w => by
    unfold aMax at h
    split at h
    · rename_i heq; cases heq
    · rename_i k n k2 n2 l2 heq
      cases heq
      cases hx
      cases hl with
      | cons hy hl =>
        cases hy
        obtain ⟨v', h1, h2⟩ := aMax_sim l _ (x' := .int k (if n2 > n then n2 else n)) h (by rw [iLt_eq, ifB_eq]; simp only [decide_eq_true_eq]; exact .int _ _) hl w
        refine ⟨v', ?_, h2⟩
        simp only [List.foldlM_cons, bind, Sem.run_bind', Builtin.max2, Sem.run_pure, Result.andThen_ok]
        exact h1
    · cases h
theorem aMin_sim : ∀ (l : List Value) (x : Value) {v : Value} {l' : List Value} {x' : Value}, aMin x l = some v → VR γ x x' → VRs γ l l' → ∀ w, ∃ v', (l'.foldlM Builtin.min2 x').run P w = .ok v' w ∧ VR γ v v'
  | [], x, v, l', x', h, hx, hl, w => by
    cases hl
    have : x = v := by unfold aMin at h; exact Option.some.inj h
    subst this; exact ⟨x', rfl, hx⟩
  | y :: l, x, v, l', x', h, hx, hl, w => by
    unfold aMin at h
    split at h
    · rename_i heq; cases heq
    · rename_i k n k2 n2 l2 heq
      cases heq
      cases hx
      cases hl with
      | cons hy hl =>
        cases hy
        obtain ⟨v', h1, h2⟩ := aMin_sim l _ (x' := .int k (if n2 < n then n2 else n)) h (by rw [iLt_eq, ifB_eq]; simp only [decide_eq_true_eq]; exact .int _ _) hl w
        refine ⟨v', ?_, h2⟩
        simp only [List.foldlM_cons, bind, Sem.run_bind', Builtin.min2, Sem.run_pure, Result.andThen_ok]
        exact h1
    · cases h

/-! ### All quiet operations -/
def fnOk : Fn → Bool
  | .yield _ => false
  | _ => true

noncomputable def aNil (x : Value) : Option Value :=
  match x with
  | .pointer (some p) => some (.pointer (some p))
  | .func (.func f) u c => some (.func (.func f) u c)
  | .func (.yield l) u c => some (.func (.yield l) u c)
  | .func (.methodOf t n) u c => some (.func (.methodOf t n) u c)
  | .func (.via t p f b) u c => some (.func (.via t p f b) u c)
  | .iface t v => some (.iface t v)
  | _ => none

/-- What a quiet operation comes to. -/
noncomputable def aPure (P : Program) (m : Tm) (op : Op) : Option Value :=
  match op with
  | .move x => ev m x
  | .assign x => ev m x
  | .pick c x y => match ev m c with
    | some (.bool b) => ifB b (ev m x) (ev m y)
    | _ => none
  | .nilCheck x => match ev m x with | some v => aNil v | none => none
  | .binOp op t x y _ => match ev m x, ev m y with
    | some (.agg ⟨l⟩), some (.agg ⟨k⟩) => aEq3 P op t l k
    | some vx, some vy => aBin P op t (isC x || isC y) vx vy
    | _, _ => none
  | .sliceToArrayPointer t x => match ev m x with | some v => aArrAt P t v | none => none
  | .unOp op _ x => match ev m x with | some v => aUn op v | none => none
  | .convert s d x => match ev m x with | some v => aConv P s d v | none => none
  | .makeInterface t x => match ev m x with | some v => aIface P t v | none => none
  | .makeFunc fn first cap => ifB (fnOk fn) (match evs m first.toList, evs m cap.toList with | some u, some c => some (.func fn ⟨u⟩ ⟨c⟩) | _, _ => none) none
  | .slice t x lo hi mx => match ev m x with | some v => aSlice P m t v lo hi mx | none => none
  | .fieldAddr s x f => match ev m x with | some v => aFieldAddr P s v f | none => none
  | .field t x f => match ev m x with | some v => aField P t v f | none => none
  | .indexAddr t x i => match ev m x, ev m i with | some vx, some vi => aIndexAddr P t vx vi | _, _ => none
  | .index t x i => match ev m x, ev m i with | some vx, some vi => aIndex P t vx vi | _, _ => none
  | .extract t i => match ev m t with | some v => aExtract v i | none => none
  | .build t ps => match evParts m ps.toList with | some l => aBuild P t l | none => none
  | .typeAssert x _ t ok => match ev m x with | some v => aAssert P v t ok | none => none
  | .call ⟨.builtin .len, args, tys⟩ => match args.toList, tys.toList with
    | [x], [t] => match ev m x with | some v => aLen P t v | none => none
    | _, _ => none
  | .call ⟨.builtin .max, args, _⟩ => match evs m args.toList with | some (x :: l) => aMax x l | _ => none
  | .call ⟨.builtin .min, args, _⟩ => match evs m args.toList with | some (x :: l) => aMin x l | _ => none
  | _ => none

theorem aNil_sim {x x' v : Value} (h : aNil x = some v) (hx : VR γ x x') (ρ : Operand → Value) (o : Operand) (hρ : ρ o = x') (q : Oper) (hq : q.op = .nilCheck o) (w : World) :
    (execOp ρ q).run P w = .ok (.value x') w ∧ VR γ v x' := by
  have hv : v = x := by unfold aNil at h; split at h <;> first | (cases h; rfl) | cases h
  subst hv
  refine ⟨?_, hx⟩
  unfold aNil at h
  unfold execOp
  rw [hq]
  dsimp only
  rw [hρ]
  split at h <;> (try (cases h; done)) <;> cases hx <;> rfl

theorem exec_v {ρ : Operand → Value} {q : Oper} {s : Sem Value} {v : Value} {w : World} (h : execOp ρ q = (do pure (.value (← s)) : Sem Next)) (hs : s.run P w = .ok v w) : (execOp ρ q).run P w = .ok (.value v) w := by
  rw [h]; simp only [bind, Sem.run_bind', hs, Result.andThen_ok]; rfl

theorem exec_call {ρ : Operand → Value} {q : Oper} {b : Builtin} {args : Array Operand} {tys : Array TypeId} (hq : q.op = .call ⟨.builtin b, args, tys⟩) (w : World) :
    (execOp ρ q).run P w = (builtin b tys q.type (args.map fun | .const _ => true | _ => false) (args.map ρ)).run P w := by
  unfold execOp
  rw [hq]
  simp only [resolve, bind, Sem.run_bind', invoke]
  rfl

theorem list_of_array {α : Type} {a : Array α} {l : List α} (h : a.toList = l) : a = ⟨l⟩ := by cases a; cases h; rfl

/-- A quiet operation is the model's: its value stands for the evaluator's, and the world is as it was. -/
theorem aPure_sim (h : Tm.R γ m a.tmps) {q : Oper} {v : Value} (hv : aPure P m q.op = some v) (w : World) :
    ∃ v', (execOp a.eval q).run P w = .ok (.value v') w ∧ VR γ v v' := by
  cases hq : q.op <;> rw [hq] at hv <;> simp only [aPure] at hv <;> (try (cases hv; done))
  case move x => exact ⟨_, by unfold execOp; rw [hq]; rfl, ev_vr h hv⟩
  case assign x => exact ⟨_, by unfold execOp; rw [hq]; rfl, ev_vr h hv⟩
  case pick c x y =>
    split at hv
    · rename_i b hc
      have e := ev_vr h hc
      rw [ifB_eq] at hv
      have hb : a.eval c = .bool b := by
        cases he : a.eval c <;> rw [he] at e <;> cases e; rfl
      refine ⟨if b = true then a.eval x else a.eval y, ?_, ?_⟩
      · unfold execOp; rw [hq]
        simp only [bind, Sem.run_bind', hb, asBool, Sem.run_pure, Result.andThen_ok]
      · split at hv
        · rename_i hb'; rw [if_pos hb']; exact ev_vr h hv
        · rename_i hb'; rw [if_neg hb']; exact ev_vr h hv
    · cases hv
  case nilCheck x =>
    split at hv
    · rename_i u hu
      obtain ⟨h1, h2⟩ := aNil_sim (P := P) hv (ev_vr h hu) a.eval x rfl q hq w
      exact ⟨_, h1, h2⟩
    · cases hv
  case sliceToArrayPointer t x =>
    split at hv
    · rename_i u hu
      obtain ⟨v', h1, h2⟩ := aArrAt_sim (P := P) hv (ev_vr h hu) w
      exact ⟨_, exec_v (by unfold execOp; rw [hq]) h1, h2⟩
    · cases hv
  case binOp op t x y yt =>
    split at hv
    · rename_i l k hx hy
      have ex := ev_vr h hx
      have ey := ev_vr h hy
      generalize hx' : a.eval x = x' at ex
      generalize hy' : a.eval y = y' at ey
      cases ex with
      | agg hl =>
      cases ey with
      | agg hk =>
      obtain ⟨h1, h2⟩ := aEq3_sim (P := P) (x := x) (y := y) hv hl hk w
      exact ⟨_, exec_v (by unfold execOp; rw [hq]; dsimp only; rw [hx', hy']) h1, h2⟩
    · rename_i vx vy _ hx hy
      obtain ⟨h1, h2⟩ := aBin_sim (P := P) hv (ev_vr h hx) (ev_vr h hy) w
      exact ⟨_, exec_v (by unfold execOp; rw [hq]) h1, h2⟩
    · cases hv
  case unOp op t x =>
    split at hv
    · rename_i u hu
      obtain ⟨h1, h2⟩ := aUn_sim (P := P) hv (ev_vr h hu) w
      exact ⟨_, exec_v (by unfold execOp; rw [hq]) h1, h2⟩
    · cases hv
  case convert s d x =>
    split at hv
    · rename_i u hu
      obtain ⟨h1, h2⟩ := aConv_sim (P := P) hv (ev_vr h hu) w
      exact ⟨_, exec_v (by unfold execOp; rw [hq]) h1, h2⟩
    · cases hv
  case makeInterface t x =>
    split at hv
    · rename_i u hu
      obtain ⟨v', h1, h2⟩ := aIface_sim (P := P) hv (ev_vr h hu) w
      exact ⟨_, exec_v (by unfold execOp; rw [hq]) h1, h2⟩
    · cases hv
  case makeFunc fn first cap =>
    rw [ifB_eq] at hv
    split at hv
    · rename_i hf
      split at hv
      · rename_i u c hu hc
        cases hv
        refine ⟨.func fn (first.map a.eval) (cap.map a.eval), exec_v (by unfold execOp; rw [hq]) rfl, .func (fun l e => by rw [e] at hf; cases hf) ?_ ?_⟩
        · simpa using evs_vr h hu
        · simpa using evs_vr h hc
      · cases hv
    · cases hv
  case slice t x lo hi mx =>
    split at hv
    · rename_i u hu
      obtain ⟨v', h1, h2⟩ := aSlice_sim (P := P) h hv (ev_vr h hu) w
      exact ⟨_, exec_v (by unfold execOp; rw [hq]) h1, h2⟩
    · cases hv
  case fieldAddr s x f =>
    split at hv
    · rename_i u hu
      obtain ⟨v', h1, h2⟩ := aFieldAddr_sim (P := P) hv (ev_vr h hu) w
      exact ⟨_, exec_v (by unfold execOp; rw [hq]) h1, h2⟩
    · cases hv
  case field s x f =>
    split at hv
    · rename_i u hu
      obtain ⟨v', h1, h2⟩ := aField_sim (P := P) hv (ev_vr h hu) w
      exact ⟨_, exec_v (by unfold execOp; rw [hq]) h1, h2⟩
    · cases hv
  case indexAddr t x i =>
    split at hv
    · rename_i u k hu hk
      obtain ⟨v', h1, h2⟩ := aIndexAddr_sim (P := P) hv (ev_vr h hu) (ev_vr h hk) w
      exact ⟨_, exec_v (by unfold execOp; rw [hq]) h1, h2⟩
    · cases hv
  case index t x i =>
    split at hv
    · rename_i u k hu hk
      obtain ⟨v', h1, h2⟩ := aIndex_sim (P := P) hv (ev_vr h hu) (ev_vr h hk) w
      exact ⟨_, exec_v (by unfold execOp; rw [hq]) h1, h2⟩
    · cases hv
  case extract t i =>
    split at hv
    · rename_i u hu
      obtain ⟨v', h1, h2⟩ := aExtract_sim (P := P) hv (ev_vr h hu) w
      exact ⟨_, exec_v (by unfold execOp; rw [hq]) h1, h2⟩
    · cases hv
  case build t ps =>
    split at hv
    · rename_i l hl
      have hp := evParts_vr h hl
      obtain ⟨v', h1, h2⟩ := aBuild_sim (P := P) (parts' := ps.map fun x => (x.1, a.eval x.2)) hv (by simpa using hp) w
      exact ⟨_, exec_v (by unfold execOp; rw [hq]) h1, h2⟩
    · cases hv
  case typeAssert x xt t ok =>
    split at hv
    · rename_i u hu
      obtain ⟨v', h1, h2⟩ := aAssert_sim (P := P) (xt := xt) hv (ev_vr h hu) w
      exact ⟨_, exec_v (by unfold execOp; rw [hq]) h1, h2⟩
    · cases hv
  case call c =>
    obtain ⟨callee, args, tys⟩ := c
    cases callee with
    | value f => cases hv
    | invoke r n => cases hv
    | builtin b =>
      cases b <;> (try (cases hv; done))
      · dsimp only at hv
        split at hv
        · rename_i x t hx ht
          split at hv
          · rename_i u hu
            obtain ⟨h1, h2⟩ := aLen_sim (P := P) (T := q.type) hv (ev_vr h hu) w
            refine ⟨v, ?_, h2⟩
            have e : (⟨[x]⟩ : Array Operand).map a.eval = #[a.eval x] := by apply Array.ext'; simp
            rw [exec_call hq, list_of_array hx, list_of_array ht, e]
            show Sem.run P (do pure (.value (← Builtin.len_ #[t] q.type #[a.eval x])) : Sem Next) w = _
            simp only [bind, Sem.run_bind', h1, Result.andThen_ok]; rfl
          · cases hv
        · cases hv
      · dsimp only at hv
        split at hv
        · rename_i x l hl
          have hs := evs_vr h hl
          cases hs' : args.toList.map a.eval with
          | nil => rw [hs'] at hs; cases hs
          | cons x' l' =>
            rw [hs'] at hs
            cases hs with
            | cons hx hl' =>
              obtain ⟨v', h1, h2⟩ := aMax_sim (P := P) l x hv hx hl' w
              refine ⟨v', ?_, h2⟩
              rw [exec_call hq]
              have e : (args.map a.eval).toList = x' :: l' := by rw [Array.toList_map]; exact hs'
              show Sem.run P (do pure (.value (← Builtin.max_ tys q.type (args.map a.eval))) : Sem Next) w = _
              simp only [Builtin.max_, e, bind, Sem.run_bind']
              rw [h1]; rfl
        · cases hv
      · dsimp only at hv
        split at hv
        · rename_i x l hl
          have hs := evs_vr h hl
          cases hs' : args.toList.map a.eval with
          | nil => rw [hs'] at hs; cases hs
          | cons x' l' =>
            rw [hs'] at hs
            cases hs with
            | cons hx hl' =>
              obtain ⟨v', h1, h2⟩ := aMin_sim (P := P) l x hv hx hl' w
              refine ⟨v', ?_, h2⟩
              rw [exec_call hq]
              have e : (args.map a.eval).toList = x' :: l' := by rw [Array.toList_map]; exact hs'
              show Sem.run P (do pure (.value (← Builtin.min_ tys q.type (args.map a.eval))) : Sem Next) w = _
              simp only [Builtin.min_, e, bind, Sem.run_bind']
              rw [h1]; rfl
        · cases hv
end Go.Ae

namespace Go.Ae
variable {P : Program} {γ : Gm} {m : Tm} {a : Act} {w w0 : World} {pend : Nat → Option AObj} {h : Hp}

/-! ### Loads -/
theorem cell_of {b o : Nat} {c : Array Value} {t : TypeId} {fr : Nat × Nat} {v : Value} (hb : w.heap[b]? = some (.cells c t fr)) (hv : c[o]? = some v) : w.cell? ⟨b, o, none⟩ = some v := by
  unfold World.cell?; rw [hb]; simpa using hv

theorem r_load {x : Addr} {v : Value} (hc : w.cell? x = some v) : (load x).run P w = .ok v w := by
  rw [run_load, hc]

/-- The row that lies at an abstract block. -/
noncomputable def rowAtB (h : Hp) (B : Nat) : Option Row :=
  match h.m.get B with
  | some (.row r) => some r
  | _ => none

theorem HR.row (hr : HR w0 γ pend h w) {B : Nat} {r : Row} {p : Pl} (hB : rowAtB h B = some r) (hp : γ B = some p) :
    ∃ c t fr, w.heap[p.b]? = some (.cells c t fr) ∧ RowR γ p r c fr := by
  unfold rowAtB at hB
  split at hB
  · rename_i r' hg
    cases hB
    obtain ⟨o', h1, h2⟩ := hr.obj B _ p hg (by intro e; cases e) hp
    cases h2 with
    | row h3 => exact ⟨_, _, _, h1, h3⟩
  · cases hB

/-- The cells that a list of a row's cells stands for. -/
theorem RowR.list {p : Pl} {r : Row} {c : Array Value} {fr : Nat × Nat} (hr : RowR γ p r c fr) {off n : Nat} {l : List Value} (hl : r.toList off n = some l) :
    ∃ l', l'.length = n ∧ VRs γ l l' ∧ ∀ j v, l'[j]? = some v → c[off + p.σ + j]? = some v := by
  obtain ⟨h1, h2, h3⟩ := Row.toList_spec hl
  have hfit : off + p.σ + n ≤ c.size := by have := hr.fits; have := hr.size; omega
  refine ⟨(c.toList.drop (off + p.σ)).take n, by simp; omega, ?_, ?_⟩
  · refine VRs.of (by simp; omega) ?_
    intro i v v' hv hv'
    have hi : i < n := by
      rcases Nat.lt_or_ge i n with q | q
      · exact q
      · rw [List.getElem?_eq_none (by omega)] at hv; cases hv
    rw [h3 i hi] at hv
    obtain ⟨u, hu, hvr⟩ := hr.cells _ _ hv
    rw [List.getElem?_take, if_pos hi, List.getElem?_drop] at hv'
    have e : c[off + i + p.σ]? = c.toList[off + p.σ + i]? := by rw [Array.getElem?_toList]; congr 1; omega
    rw [e, hv'] at hu
    cases hu; exact hvr
  · intro j v hv
    have hj : j < n := by
      rcases Nat.lt_or_ge j n with q | q
      · exact q
      · rw [List.getElem?_eq_none (by simp; omega)] at hv; cases hv
    rw [List.getElem?_take, if_pos hj, List.getElem?_drop] at hv
    rw [← Array.getElem?_toList]; exact hv

theorem run_cells {b o n : Nat} {c : Array Value} {t : TypeId} {fr : Nat × Nat} {l : List Value} (hb : w.heap[b]? = some (.cells c t fr)) (hn : l.length = n)
    (hl : ∀ j v, l[j]? = some v → c[o + j]? = some v) : (loadCells ⟨b, o, none⟩ n).run P w = .ok ⟨l⟩ w := by
  subst hn
  have := run_loadCells_list (P := P) w ⟨b, o, none⟩ l (fun j v hj => by rw [add_none]; exact cell_of hb (hl j v hj))
  simpa using this

noncomputable def aLoad (P : Program) (h : Hp) (t : TypeId) (x : Value) : Option Value :=
  match x with
  | .pointer (some ⟨B, off, none⟩) =>
    match rowAtB h B, P.underlying t with
    | some r, some d =>
      ifB (aggD d) (match P.info? t with
        | some i => match r.toList off i.size with
          | some l => some (.agg ⟨l⟩)
          | none => none
        | none => none) (r.get off)
    | _, _ => none
  | _ => none

theorem aLoad_sim (hr : HR w0 γ pend h w) {t : TypeId} {x x' v : Value} (hv : aLoad P h t x = some v) (hx : VR γ x x') : ∃ v', (Instr.loadAt t x').run P w = .ok v' w ∧ VR γ v v' := by
  unfold aLoad at hv
  split at hv
  · rename_i B off
    cases hx with
    | ptr hB =>
      rename_i p
      split at hv
      · rename_i r d hrow hu
        obtain ⟨c, ty, fr, hc, hR⟩ := hr.row hrow hB
        rw [ifB_eq] at hv
        split at hv
        · rename_i hd
          split at hv
          · rename_i i hi
            split at hv
            · rename_i l hl
              cases hv
              obtain ⟨l', h1, h2, h3⟩ := hR.list hl
              refine ⟨.agg ⟨l'⟩, ?_, .agg h2⟩
              simp only [Instr.loadAt, bind, Sem.run_bind', Instr.sureAddr, Sem.run_pure, Result.andThen_ok, loadVar, r_isAgg hu, hd, if_true, r_size hi, run_cells hc h1 h3]
            · cases hv
          · cases hv
        · rename_i hd
          obtain ⟨v', h1, h2⟩ := hR.cells _ _ hv
          refine ⟨v', ?_, h2⟩
          have hd' : aggD d = false := by cases hq : aggD d with | false => rfl | true => exact absurd hq hd
          simp only [Instr.loadAt, bind, Sem.run_bind', Instr.sureAddr, Sem.run_pure, Result.andThen_ok, loadVar, r_isAgg hu, hd', if_false, Bool.false_eq_true]
          exact r_load (cell_of hc h1)
      · cases hv
  · cases hv

/-! ### Maps -/
noncomputable def mapAtB (h : Hp) (B : Nat) : Option (List MapEntry × Nat) :=
  match h.m.get B with
  | some (.map es c) => some (es, c)
  | _ => none
theorem HR.map (hr : HR w0 γ pend h w) {B : Nat} {es : List MapEntry} {c : Nat} {p : Pl} (hB : mapAtB h B = some (es, c)) (hp : γ B = some p) : ∃ es', w.heap[p.b]? = some (.map es' c) ∧ ER γ es es'.toList := by
  unfold mapAtB at hB
  split at hB
  · rename_i es2 c2 hg
    cases hB
    obtain ⟨o', h1, h2⟩ := hr.obj B _ p hg (by intro e; cases e) hp
    cases h2 with
    | map h3 => exact ⟨_, h1, h3⟩
  · cases hB

/-- Key types whose values are compared at once. -/
def keyD : TypeDesc → Bool
  | .int _ | .string | .bool => true
  | _ => false

theorem run_checkKey {empty : Bool} {n : Nat} {t : TypeId} {v : Value} {d : TypeDesc} (hu : P.underlying t = some d) (hd : keyD d = true) (w : World) : (Instr.checkKey empty (n + 1) t v).run P w = .ok () w := by
  rw [Instr.checkKey]
  simp only [bind, Sem.run_bind', r_under hu, Result.andThen_ok]
  cases d <;> first | (cases v <;> rfl) | cases hd

theorem sameNow_vr {d : TypeDesc} {k k' e e' : Value} {b : Bool} (h : Instr.sameNow d k e = some b) (hk : VR γ k k') (he : VR γ e e') : Instr.sameNow d k' e' = some b := by
  unfold Instr.sameNow at h
  split at h <;> (try (cases h; done)) <;> cases hk <;> cases he <;> exact h

theorem findNow_vr {d : TypeDesc} {k k' : Value} (hk : VR γ k k') : ∀ {es es' : List MapEntry}, ER γ es es' → ∀ (i : Nat) (r : Option (Nat × Value)), Instr.findNow d k es i = some r →
    ∃ r', Instr.findNow d k' es' i = some r' ∧ (match r, r' with | none, none => True | some (j, v), some (j', v') => j = j' ∧ i ≤ j ∧ j < i + es.length ∧ VR γ v v' | _, _ => False)
  | _, _, .nil, i, r, h => by cases h; exact ⟨none, rfl, trivial⟩
  | e :: _, e' :: _, .cons he hv hb hl, i, r, h => by
    unfold Instr.findNow at h ⊢
    cases hs : Instr.sameNow d k e.key with
    | none => rw [hs] at h; cases h
    | some b =>
      rw [hs] at h
      rw [sameNow_vr hs hk he]
      cases b with
      | true => cases h; exact ⟨_, rfl, rfl, Nat.le_refl _, by simp, hv⟩
      | false =>
        obtain ⟨r', h1, h2⟩ := findNow_vr hk hl (i + 1) r h
        refine ⟨r', h1, ?_⟩
        cases r with
        | none => cases r' <;> exact h2
        | some x => cases r' with
          | none => exact h2
          | some y =>
            obtain ⟨q1, q2, q3, q4⟩ := h2
            exact ⟨q1, by omega, by simp only [List.length_cons]; omega, q4⟩

theorem run_findKey {t : TypeId} {k' : Value} {es' : List MapEntry} {d : TypeDesc} {r' : Option (Nat × Value)} (hu : P.underlying t = some d) (hf : Instr.findNow d k' es' 0 = some r') (w : World) : (Instr.findKey t k' es').run P w = .ok r' w := by
  simp only [Instr.findKey, bind, Sem.run_bind', r_under hu, Result.andThen_ok, hf]; rfl

/-- The entries of a map value, as the world has them. -/
def entriesAt (w : World) (x' : Value) (es' : Array MapEntry) : Prop :=
  (x' = .map none ∧ es' = #[]) ∨ ∃ b c, x' = .map (some b) ∧ w.heap[b]? = some (.map es' c)

theorem run_lookup {t kt et : TypeId} {d : TypeDesc} {i : TypeInfo} {z x' k' : Value} {ok : Bool} {es' : Array MapEntry} {r' : Option (Nat × Value)} (hu : P.underlying t = some (.map kt et)) (hkt : P.underlying kt = some d)
    (hd : keyD d = true) (hi : P.info? et = some i) (hz : i.zero = some z) (hx : entriesAt w x' es') (hf : Instr.findNow d k' es'.toList 0 = some r') :
    (Instr.lookup t x' k' ok).run P w = .ok (match r' with | some (_, v) => if ok then .tuple #[v, .bool true] else v | none => if ok then .tuple #[z, .bool false] else z) w := by
  rcases hx with ⟨rfl, rfl⟩ | ⟨b, c, rfl, hb⟩
  · simp only [Instr.lookup, bind, Sem.run_bind', r_under hu, Result.andThen_ok, Sem.run_pure, run_checkKey hkt hd, run_findKey hkt hf]
    cases r' with
    | none => simp only [Sem.run_bind', r_zero hi hz, Result.andThen_ok, Sem.run_pure, Bool.false_eq_true]
    | some y => rfl
  · have hg : (getObj b).run P w = .ok (.map es' c) w := by simp only [getObj, Sem.run, hb]
    simp only [Instr.lookup, bind, Sem.run_bind', r_under hu, Result.andThen_ok, hg, Sem.run_pure, run_checkKey hkt hd, run_findKey hkt hf]
    cases r' with
    | none => simp only [Sem.run_bind', r_zero hi hz, Result.andThen_ok, Sem.run_pure, Bool.false_eq_true]
    | some y => rfl

/-- The entries of an abstract map value. -/
noncomputable def esOf (h : Hp) (x : Value) : Option (List MapEntry) :=
  match x with
  | .map none => some []
  | .map (some B) => (mapAtB h B).map (·.1)
  | _ => none
theorem esOf_vr (hr : HR w0 γ pend h w) {x x' : Value} {es : List MapEntry} (he : esOf h x = some es) (hx : VR γ x x') : ∃ es', entriesAt w x' es' ∧ ER γ es es'.toList := by
  unfold esOf at he
  split at he
  · cases hx; cases he; exact ⟨#[], .inl ⟨rfl, rfl⟩, .nil⟩
  · rename_i B
    cases hx with
    | map hB =>
      rename_i p
      cases hm : mapAtB h B with
      | none => rw [hm] at he; cases he
      | some y =>
        obtain ⟨es2, c⟩ := y
        rw [hm] at he; cases he
        obtain ⟨es', h1, h2⟩ := hr.map hm hB
        exact ⟨es', .inr ⟨_, _, rfl, h1⟩, h2⟩
  · cases he

noncomputable def aLookup (P : Program) (h : Hp) (t : TypeId) (x k : Value) (ok : Bool) : Option Value :=
  match P.underlying t with
  | some (.map kt et) =>
    match P.underlying kt, P.info? et with
    | some d, some i =>
      match keyD d, i.zero with
      | true, some z =>
        if constV z then
          match esOf h x with
          | some es => match Instr.findNow d k es 0 with
            | some (some (_, v)) => some (if ok then .tuple #[v, .bool true] else v)
            | some none => some (if ok then .tuple #[z, .bool false] else z)
            | none => none
          | none => none
        else none
      | _, _ => none
    | _, _ => none
  | _ => none

theorem aLookup_sim (hr : HR w0 γ pend h w) {t : TypeId} {x x' k k' v : Value} {ok : Bool} (hv : aLookup P h t x k ok = some v) (hx : VR γ x x') (hk : VR γ k k') : ∃ v', (Instr.lookup t x' k' ok).run P w = .ok v' w ∧ VR γ v v' := by
  unfold aLookup at hv
  split at hv
  · rename_i kt et hu
    split at hv
    · rename_i d i hkt hi
      split at hv
      · rename_i z hd hz
        split at hv
        · rename_i hc
          split at hv
          · rename_i es hes
            obtain ⟨es', he1, he2⟩ := esOf_vr hr hes hx
            cases hf : Instr.findNow d k es 0 with
            | none => rw [hf] at hv; cases hv
            | some r =>
              rw [hf] at hv
              obtain ⟨r', hf', hrel⟩ := findNow_vr hk he2 0 r hf
              refine ⟨_, run_lookup hu hkt hd hi hz he1 hf', ?_⟩
              cases r with
              | none =>
                cases r' with
                | some y => exact hrel.elim
                | none =>
                  dsimp only at hv ⊢
                  cases hv
                  cases ok
                  · exact constV_vr hc
                  · exact .tuple (.cons (constV_vr hc) (.one (.bool false)))
              | some y =>
                obtain ⟨j, u⟩ := y
                cases r' with
                | none => exact hrel.elim
                | some y' =>
                  obtain ⟨j', u'⟩ := y'
                  dsimp only at hv ⊢
                  cases hv
                  cases ok
                  · exact hrel.2.2.2
                  · exact .tuple (.cons hrel.2.2.2 (.one (.bool true)))
          · cases hv
        · cases hv
      · cases hv
    · cases hv
  · cases hv

/-! ### Strings out of bytes -/
def bytesOf : List Value → Option (List UInt8)
  | [] => some []
  | .int .u8 (.ofNat b) :: l => match bytesOf l with | some q => some (UInt8.ofNat b :: q) | none => none
  | _ => none

noncomputable def aStrOf (h : Hp) (x : Value) : Option Value :=
  match x with
  | .slice none _ _ => some (.string ⟨⟨[]⟩⟩)
  | .slice (some ⟨B, off, none⟩) len cap =>
    match len with
    | 0 => some (.string ⟨⟨[]⟩⟩)
    | len + 1 =>
    match rowAtB h B with
    | some r => match r.toList off (len + 1) with
      | some l => match bytesOf l with
        | some q => some (.string ⟨⟨q⟩⟩)
        | none => none
      | none => none
    | none => none
  | _ => none

theorem foldl_push (ns : List Int) : ∀ (s : ByteArray), ns.foldl (fun r n => r.push (UInt8.ofNat n.toNat)) s = ⟨⟨s.data.toList ++ ns.map fun n => UInt8.ofNat n.toNat⟩⟩ := by
  induction ns with
  | nil => intro s; cases s; simp
  | cons n ns ih =>
    intro s
    simp only [List.foldl_cons, ih, List.map_cons]
    congr 2
    show (s.data.push _).toList ++ _ = _
    simp

theorem bytesOf_ints : ∀ {l : List Value} {q : List UInt8}, bytesOf l = some q → ∃ ns : List Int, l = ns.map (Value.int .u8) ∧ q = ns.map fun n => UInt8.ofNat n.toNat
  | [], q, h => by cases h; exact ⟨[], rfl, rfl⟩
  | v :: l, q, h => by
    unfold bytesOf at h
    split at h
    · rename_i heq; cases heq
    · rename_i b l2 heq
      cases heq
      split at h
      · rename_i q2 hq
        cases h
        obtain ⟨ns, rfl, rfl⟩ := bytesOf_ints hq
        exact ⟨.ofNat b :: ns, rfl, rfl⟩
      · cases h
    · cases h

theorem VRs_ints {γ : Gm} : ∀ {ns : List Int} {l' : List Value}, VRs γ (ns.map (Value.int .u8)) l' → l' = ns.map (Value.int .u8)
  | [], _, h => by cases h; rfl
  | n :: ns, _, h => by
    cases h with
    | cons hv hl => cases hv; rw [VRs_ints hl]; rfl

theorem aStrOf_sim (hr : HR w0 γ pend h w) {x x' v : Value} (hv : aStrOf h x = some v) (hx : VR γ x x') : (Conv.bytesToString x').run P w = .ok v w ∧ VR γ v v := by
  have empty : ∀ (q : Addr) (c : Nat), (Conv.bytesToString (.slice (some q) 0 c)).run P w = .ok (.string ⟨⟨[]⟩⟩) w := by
    intro q c
    exact run_bytesToString (P := P) w q 0 c [] rfl
  unfold aStrOf at hv
  split at hv
  · cases hx; cases hv; exact ⟨rfl, .string _⟩
  · rename_i B off len cap
    split at hv
    · cases hv
      refine ⟨?_, .string _⟩
      cases hx <;> exact empty _ _
    · rename_i len
      split at hv
      · rename_i r hrow
        split at hv
        · rename_i l hl
          split at hv
          · rename_i q hq
            cases hv
            obtain ⟨ns, rfl, rfl⟩ := bytesOf_ints hq
            have key : ∀ (p : Pl) (c : Nat), γ B = some p → (Conv.bytesToString (.slice (some ⟨p.b, off + p.σ, none⟩) (len + 1) c)).run P w = .ok (.string ⟨⟨ns.map fun n => UInt8.ofNat n.toNat⟩⟩) w := by
              intro p c hB
              obtain ⟨ca, ty, fr, hc, hR⟩ := hr.row hrow hB
              obtain ⟨l', h1, h2, h3⟩ := hR.list hl
              rw [VRs_ints h2] at h1 h3
              have := run_bytesToString (P := P) w ⟨p.b, off + p.σ, none⟩ (len + 1) c ns (run_cells hc h1 h3)
              rw [this, foldl_push]; rfl
            refine ⟨?_, .string _⟩
            cases hx with
            | slice hB hc => exact key _ _ hB
            | sliceU hB hk hl hN => exact key _ _ hB
          · cases hv
        · cases hv
      · cases hv
  · cases hv
end Go.Ae
