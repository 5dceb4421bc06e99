/- The evaluator: new blocks, stores, appends, maps, its machine. Conditions: none. -/
import Derived.Test.YtfmekondplimoaaGreatDoorAeOne

namespace Go.Ae
variable {P : Program} {γ : Gm} {m : Tm} {a : Act} {w w0 : World} {pend : Nat → Option AObj} {h : Hp}

/-! ### Reads -/
noncomputable def aRead (P : Program) (h : Hp) (m : Tm) (op : Op) : Option Value :=
  match op with
  | .load t x => match ev m x with | some v => aLoad P h t v | none => none
  | .lookup t x k ok => match ev m x, ev m k with | some vx, some vk => aLookup P h t vx vk ok | _, _ => none
  | .convert s d x => match P.underlying s, P.underlying d, ev m x with
    | some (.slice e), some .string, some v => match P.underlying e with | some (.int .u8) => aStrOf h v | _ => none
    | _, _, _ => none
  | .call ⟨.builtin .len, args, tys⟩ => match args.toList, tys.toList with
    | [x], [t] => match P.underlying t, ev m x with
      | some (.map _ _), some (.map (some B)) => match mapAtB h B with | some (es, _) => some (.int .i64 es.length) | none => none
      | _, _ => none
    | _, _ => none
  | _ => none

theorem ER.length : ∀ {l l' : List MapEntry}, ER γ l l' → l.length = l'.length
  | _, _, .nil => rfl
  | _, _, .cons _ _ _ hl => by simp [hl.length]

theorem aRead_sim (h0 : Tm.R γ m a.tmps) (hr : HR w0 γ pend h w) {q : Oper} {v : Value} (hv : aRead P h m q.op = some v) : ∃ v', (execOp a.eval q).run P w = .ok (.value v') w ∧ VR γ v v' := by
  cases hq : q.op <;> rw [hq] at hv <;> simp only [aRead] at hv <;> (try (cases hv; done))
  case load t x =>
    split at hv
    · rename_i u hu
      obtain ⟨v', h1, h2⟩ := aLoad_sim (P := P) hr hv (ev_vr h0 hu)
      exact ⟨_, exec_v (by unfold execOp; rw [hq]) h1, h2⟩
    · cases hv
  case lookup t x k ok =>
    split at hv
    · rename_i vx vk hx hk
      obtain ⟨v', h1, h2⟩ := aLookup_sim (P := P) hr hv (ev_vr h0 hx) (ev_vr h0 hk)
      exact ⟨_, exec_v (by unfold execOp; rw [hq]) h1, h2⟩
    · cases hv
  case convert s d x =>
    split at hv
    · rename_i e u hs hd hu
      split at hv
      · rename_i he
        obtain ⟨h1, h2⟩ := aStrOf_sim (P := P) hr hv (ev_vr h0 hu)
        refine ⟨v, exec_v (by unfold execOp; rw [hq]) ?_, h2⟩
        have hx := ev_vr h0 hu
        unfold aStrOf at hv
        have hsl : ∃ b l c, a.eval x = .slice b l c := by
          generalize a.eval x = x' at hx
          split at hv
          · cases hx; exact ⟨_, _, _, rfl⟩
          · cases hx <;> exact ⟨_, _, _, rfl⟩
          · cases hv
        obtain ⟨b, l, c, hbl⟩ := hsl
        rw [hbl] at h1 ⊢
        rw [run_convert_bytes_string w s d e b l c hs he hd]
        exact h1
      · cases hv
    · cases hv
  case call c =>
    obtain ⟨callee, args, tys⟩ := c
    cases callee with
    | value f => cases hv
    | invoke r n => cases hv
    | builtin b =>
      cases b <;> (try (cases hv; done))
      dsimp only at hv
      split at hv
      · rename_i x t hx ht
        split at hv
        · rename_i k e B hu hev
          split at hv
          · rename_i es c hm
            cases hv
            have hx' := ev_vr h0 hev
            generalize hy : a.eval x = x' at hx'
            cases hx' with
            | map hB =>
              rename_i p
              obtain ⟨es', h1, h2⟩ := hr.map hm hB
              refine ⟨.int .i64 es.length, ?_, .int _ _⟩
              have e : (⟨[x]⟩ : Array Operand).map a.eval = #[.map (some p.b)] := by apply Array.ext'; simp [hy]
              rw [exec_call hq, list_of_array hx, list_of_array ht, e]
              show Sem.run P (do pure (.value (← Builtin.len_ #[t] q.type #[.map (some p.b)])) : Sem Next) w = _
              have e0 : (#[t] : Array TypeId)[0]? = some t := rfl
              have e1 : (#[Value.map (some p.b)] : Array Value)[0]? = some (.map (some p.b)) := rfl
              have hg : (getObj p.b).run P w = .ok (.map es' c) w := by simp only [getObj, Sem.run, h1]
              simp only [Builtin.len_, e0, e1, bind, Sem.run_bind', r_under hu, Result.andThen_ok, hg, Sem.run_pure]
              rw [h2.length, Array.length_toList]; rfl
          · cases hv
        · cases hv
      · cases hv

/-- A value that is only reckoned, or read. -/
noncomputable def aVal (P : Program) (h : Hp) (m : Tm) (op : Op) : Option Value :=
  match aPure P m op with
  | some v => some v
  | none => aRead P h m op
theorem aVal_sim (h0 : Tm.R γ m a.tmps) (hr : HR w0 γ pend h w) {q : Oper} {v : Value} (hv : aVal P h m q.op = some v) : ∃ v', (execOp a.eval q).run P w = .ok (.value v') w ∧ VR γ v v' := by
  unfold aVal at hv
  split at hv
  · rename_i u hu; cases hv; exact aPure_sim h0 hu w
  · exact aRead_sim h0 hr hv

theorem exec_w {ρ : Operand → Value} {q : Oper} {s : Sem Value} {v : Value} {w w1 : World} (h : execOp ρ q = (do pure (.value (← s)) : Sem Next)) (hs : s.run P w = .ok v w1) : (execOp ρ q).run P w = .ok (.value v) w1 := by
  rw [h]; simp only [bind, Sem.run_bind', hs, Result.andThen_ok]; rfl

/-! ### New blocks -/
def Gm.upd (γ : Gm) (B : Nat) (p : Pl) : Gm := fun x => if x = B then some p else γ x
theorem Gm.upd_same (γ : Gm) (B : Nat) (p : Pl) : γ.upd B p B = some p := if_pos rfl
theorem Gm.upd_other (γ : Gm) (B : Nat) (p : Pl) {x : Nat} (hx : x ≠ B) : γ.upd B p x = γ x := if_neg hx
theorem Gm.le_upd {γ : Gm} {B : Nat} (p : Pl) (hB : γ B = none) : γ.le (γ.upd B p) := by
  intro x q hx
  by_cases e : x = B
  · subst e; rw [hB] at hx; cases hx
  · rw [Gm.upd_other _ _ _ e]; exact hx

/-- A world that has got one block more, and is else as it was. -/
structure Grew (w w' : World) (ob : Obj) : Prop where
  heap : w'.heap = w.heap.push ob
  os : w'.os = w.os
  tape : w'.tape = w.tape
  output : w'.output = w.output

/-- A world with one block more. -/
abbrev more (w : World) (ob : Obj) : World := { w with heap := w.heap.push ob }
theorem Grew.alloc (w : World) (ob : Obj) : Grew w (more w ob) ob := ⟨rfl, rfl, rfl, rfl⟩

theorem rowR_new {p : Pl} {r : Row} {c : Array Value} {fr : Nat × Nat} (hp : p.σ = 0) (hs : c.size = p.N) (hle : r.size ≤ c.size) (hc : ∀ i v, r.get i = some v → ∃ v', c[i]? = some v' ∧ VR γ v v')
    (hf : fr.1 = fr.2 ∨ c.size ≤ fr.1) : RowR γ p r c fr :=
  ⟨hs, by omega, fun i v hi => by rw [hp]; exact hc i v hi, hf⟩

/-- What stands for a list, cell by cell. -/
theorem row_list {r : Row} {l : List Value} {c : Array Value} (hr : ∀ (i : Nat) v, r.get i = some v → l[i]? = some v) (hl : VRs γ l c.toList) : ∀ i v, r.get i = some v → ∃ v', c[i]? = some v' ∧ VR γ v v' := by
  intro i v hi
  obtain ⟨v', h1, h2⟩ := hl.get i v (hr i v hi)
  exact ⟨v', by rw [← Array.getElem?_toList]; exact h1, h2⟩

def u8D : Option TypeDesc → Bool
  | some (.int .u8) => true
  | _ => false

/-- The bytes of a text, packed. -/
def packB : List UInt8 → Nat
  | [] => 0
  | b :: l => Nat.add b.toNat (Nat.mul 256 (packB l))
theorem packB_spec : ∀ (l : List UInt8) (i : Nat), i < l.length → packB l / 256 ^ i % 256 = (l.getD i 0).toNat
  | [], i, h => absurd h (Nat.not_lt_zero _)
  | b :: l, 0, _ => by
    show (b.toNat + 256 * packB l) / 256 ^ 0 % 256 = _
    have : b.toNat < 256 := b.toNat_lt
    rw [Nat.pow_zero, Nat.div_one]
    show (b.toNat + 256 * packB l) % 256 = b.toNat
    omega
  | b :: l, i + 1, h => by
    have e : packB (b :: l) / 256 ^ (i + 1) = packB l / 256 ^ i := by
      show (b.toNat + 256 * packB l) / 256 ^ (i + 1) = _
      have : b.toNat < 256 := b.toNat_lt
      rw [Nat.pow_succ', ← Nat.div_div_eq_div_mul]; congr 1 <;> omega
    rw [e, packB_spec l i (by simpa using h)]; rfl

/-- What a new block holds, and the value that leads to it. -/
noncomputable def aNew (P : Program) (m : Tm) (op : Op) : Option (AObj × (Nat → Value)) :=
  match op with
  | .alloc t => match P.info? t with
    | some i => match i.zero with
      | some z => if constV z then some (.row (Row.mk (u8D (P.underlying t)) z.cells.toList), fun B => .pointer (some ⟨B, 0, none⟩)) else none
      | none => none
    | none => none
  | .box _ x => match ev m x with
    | some v => some (.row (Row.mk false v.cells.toList), fun B => .pointer (some ⟨B, 0, none⟩))
    | none => none
  | .buildSlice t n ps => match P.underlying t, evParts m ps.toList with
    | some (.slice e), some parts => match P.info? e with
      | some i => match i.zero with
        | some z =>
          if constV z && Nat.ble (Nat.mul n i.size) 16777216 && Nat.blt n BIG then
            match Instr.fill (fun j => some (j * i.size, i.size)) ⟨(List.range (n * i.size)).map (z.cells[· % z.cells.size]!)⟩ parts with
            | some cells => some (.row (Row.mk (u8D (P.underlying e)) cells.toList), fun B => .slice (some ⟨B, 0, none⟩) n n)
            | none => none
          else none
        | none => none
      | none => none
    | _, _ => none
  | .makeSlice t l c => match P.underlying t, ev m l, ev m c with
    | some (.slice e), some vl, some vc => match asN vl, asN vc, P.info? e with
      | some nl, some nc, some i => match i.zero with
        | some z =>
          if constV z && Nat.ble nl nc && Nat.blt nc BIG && Nat.ble (Nat.mul i.bytes nc) 281474976710656 && Nat.beq z.cells.size i.size && Nat.blt 0 i.size then
            some (.row (Row.rep nc z.cells.toList), fun B => .slice (some ⟨B, 0, none⟩) nl nc)
          else none
        | none => none
      | _, _, _ => none
    | _, _, _ => none
  | .makeMap _ none => some (.map [] 0, fun B => .map (some B))
  | .convert s d x => match P.underlying s, P.underlying d, ev m x with
    | some .string, some (.slice e), some (.string b) => match P.underlying e with
      | some (.int .u8) => some (.row (.bytes b.data.toList.length (packB b.data.toList)), fun B => .slice (some ⟨B, 0, none⟩) b.data.toList.length (BIG + 1))
      | _ => none
    | _, _, _ => none
  | .range t x => match P.underlying t, ev m x with
    | some .string, some (.string s) => some (.strIter s 0, fun B => .pointer (some ⟨B, 0, none⟩))
    | _, _ => none
  | _ => none

theorem rep_get (z : Array Value) (n : Nat) (hz : 0 < z.size) : ((List.replicate n z.toList).flatten) = (List.range (n * z.size)).map (z[· % z.size]!) := by
  apply List.ext_getElem?
  intro j
  by_cases hj : j < n * z.size
  · have h1 : j % z.size < z.size := Nat.mod_lt _ hz
    rw [List.getElem?_map, List.getElem?_range hj]
    show _ = some (z[j % z.size]!)
    rw [getElem!_pos z _ h1]
    have key : ∀ (n j : Nat), j < n * z.size → ((List.replicate n z.toList).flatten)[j]? = some (z[j % z.size]'(Nat.mod_lt _ hz)) := by
      intro n
      induction n with
      | zero => intro j h; omega
      | succ n ih =>
        intro j h
        rw [List.replicate_succ, List.flatten_cons]
        by_cases hlt : j < z.size
        · rw [List.getElem?_append_left (by simpa using hlt)]
          have : j % z.size = j := Nat.mod_eq_of_lt hlt
          simp [this, hlt]
        · rw [List.getElem?_append_right (by simpa using hlt), Array.length_toList]
          rw [ih (j - z.size) (by rw [Nat.succ_mul] at h; omega)]
          congr 2
          have : j = (j - z.size) + z.size := by omega
          conv => rhs; rw [this, Nat.add_mod_right]
    exact key n j hj
  · rw [List.getElem?_eq_none (by simp; omega), List.getElem?_eq_none (by simp; omega)]

theorem size_of_vrs {l : List Value} {c : Array Value} (h : VRs γ l c.toList) : c.size = l.length := by simpa using h.length.symm

/-- A row made of a list, over new cells that stand for that list. -/
theorem mk_row {p : Pl} (u8 : Bool) {l : List Value} {c : Array Value} (hp : p.σ = 0) (hs : c.size = p.N) (hl : VRs γ l c.toList) : RowR γ p (Row.mk u8 l) c (0, 0) := by
  obtain ⟨h1, h2⟩ := Row.mk_spec u8 l
  refine rowR_new hp hs ?_ (row_list (fun i v hi => h2 i v hi) hl) (.inl rfl)
  rw [h1, size_of_vrs hl]; exact Nat.le_refl _

theorem VRs.const {l : List Value} {z : Value} (hz : constV z = true) (h : l = z.cells.toList) : VRs γ l l := by
  subst h; exact (constV_vr hz).cells

theorem VRs.rep {z : Value} (hz : constV z = true) (n : Nat) : VRs γ ((List.replicate n z.cells.toList).flatten) ((List.replicate n z.cells.toList).flatten) := by
  induction n with
  | zero => exact .nil
  | succ n ih => rw [List.replicate_succ, List.flatten_cons]; exact (constV_vr hz).cells.append ih

theorem const_get {z : Value} (hz : constV z = true) (i : Nat) : VR γ (z.cells[i]!) (z.cells[i]!) := by
  by_cases h : i < z.cells.size
  · rw [getElem!_pos z.cells i h]
    have := (constV_vr (γ := γ) hz).cells
    obtain ⟨v', h1, h2⟩ := this.get i (z.cells[i]) (by simp [h])
    rw [Array.getElem?_toList, Array.getElem?_eq_getElem h] at h1
    cases h1; exact h2
  · rw [getElem!_neg z.cells i h]; exact .bool _

theorem VRs.map_range {z : Value} (hz : constV z = true) : ∀ (l : List Nat), VRs γ (l.map (z.cells[· % z.cells.size]!)) (l.map (z.cells[· % z.cells.size]!))
  | [] => .nil
  | _ :: l => .cons (const_get hz _) (VRs.map_range hz l)

theorem modify_push {α : Type} (c : Array α) (x : α) (f : α → α) : (c.push x).modify c.size f = c.push (f x) := by
  apply Array.ext
  · simp
  · intro i h1 h2
    rw [Array.getElem_modify]
    split
    · rename_i e; subst e; simp
    · rename_i e
      have hi : i < c.size := by simp at h1; omega
      rw [Array.getElem_push_lt hi, Array.getElem_push_lt hi]

/-- The cells of a text's bytes, and spare ones. -/
def bcells (b : ByteArray) (cap : Nat) : Array Value := b.data.map (fun x => .int .u8 x.toNat) ++ Array.replicate (cap - b.size) (.int .u8 0)
theorem bcells_size {b : ByteArray} {cap : Nat} (h : b.size ≤ cap) : (bcells b cap).size = cap := by
  have : b.data.size = b.size := rfl
  simp only [bcells, Array.size_append, Array.size_map, Array.size_replicate]; omega
theorem bcells_get {b : ByteArray} {cap i : Nat} (hi : i < b.data.toList.length) : (bcells b cap)[i]? = some (.int .u8 (b.data.toList.getD i 0).toNat) := by
  have hi' : i < b.data.size := by simpa using hi
  unfold bcells
  rw [Array.getElem?_append_left (by simpa using hi'), Array.getElem?_map, Array.getElem?_eq_getElem hi', Option.map_some]
  congr 3
  simp [List.getD, List.getElem?_eq_getElem hi]

theorem run_stringToBytes {e : TypeId} {b : ByteArray} (w : World) :
    ∃ cap w1, b.size ≤ cap ∧ (Conv.stringToBytes e b).run P w = .ok (.slice (some ⟨w.heap.size, 0, none⟩) b.size cap) w1 ∧ Grew w w1 (.cells (bcells b cap) e (cap, cap + 1)) := by
  have hle : b.size ≤ b.size + w.tape w.drawn (.appendCap b.size 0 e) % (2 ^ 63 - b.size) := Nat.le_add_right _ _
  generalize hcap : b.size + w.tape w.drawn (.appendCap b.size 0 e) % (2 ^ 63 - b.size) = cap at hle
  refine ⟨cap, (more { w with drawn := w.drawn + 1 } (.cells (bcells b cap) e)).freeze ⟨w.heap.size, (bcells b cap).size, none⟩ 1, hle, ?_, ?_⟩
  · simp only [Conv.stringToBytes, bind, Sem.run_bind', run_choose, Question.forced, Bool.false_eq_true, if_false, Result.andThen_ok, Question.cut, newRow, run_newObj, Sem.run_pure, markStringish, run_shape, World.shape?, hcap]
    rw [Array.getElem?_push_size]
    simp only [run_freeze, Result.andThen_ok]
    rfl
  · refine ⟨?_, rfl, rfl, rfl⟩
    simp only [World.freeze, more, Nat.one_ne_zero, if_false]
    rw [modify_push]
    simp [bcells_size hle]

theorem aNew_sim (h0 : Tm.R γ m a.tmps) {q : Oper} {o : AObj} {f : Nat → Value} (hn : aNew P m q.op = some (o, f)) {B : Nat} (hB : γ B = none) (w : World) :
    ∃ ob N v' w1, (execOp a.eval q).run P w = .ok (.value v') w1 ∧ Grew w w1 ob ∧ OR (γ.upd B ⟨w.heap.size, 0, N⟩) ⟨w.heap.size, 0, N⟩ o ob ∧ VR (γ.upd B ⟨w.heap.size, 0, N⟩) (f B) v' := by
  have hle : ∀ N, γ.le (γ.upd B ⟨w.heap.size, 0, N⟩) := fun N => Gm.le_upd _ hB
  have hsame : ∀ N, (γ.upd B ⟨w.heap.size, 0, N⟩) B = some ⟨w.heap.size, 0, N⟩ := fun N => Gm.upd_same _ _ _
  have hptr : ∀ N, VR (γ.upd B ⟨w.heap.size, 0, N⟩) (.pointer (some ⟨B, 0, none⟩)) (.pointer (some ⟨w.heap.size, 0, none⟩)) := fun N => .ptr (off := 0) (hsame N)
  cases hq : q.op <;> rw [hq] at hn <;> simp only [aNew] at hn <;> (try (cases hn; done))
  case alloc t =>
    split at hn
    · rename_i i hi
      split at hn
      · rename_i z hz
        split at hn
        · rename_i hc
          cases hn
          refine ⟨.cells z.cells t, z.cells.size, .pointer (some ⟨w.heap.size, 0, none⟩), more w (.cells z.cells t), exec_w (by unfold execOp; rw [hq]) ?_, Grew.alloc w _, .row (mk_row _ rfl rfl (VRs.const hc rfl)), hptr _⟩
          simp only [Instr.alloc, bind, Sem.run_bind', r_zero hi hz, Result.andThen_ok, newVar, newRow, run_newObj, Sem.run_pure]
        · cases hn
      · cases hn
    · cases hn
  case box t x =>
    split at hn
    · rename_i v hv
      cases hn
      have hx := (ev_vr h0 hv).cells.mono (hle ((a.eval x).cells.size))
      refine ⟨.cells (a.eval x).cells t, (a.eval x).cells.size, .pointer (some ⟨w.heap.size, 0, none⟩), more w (.cells (a.eval x).cells t), exec_w (by unfold execOp; rw [hq]) ?_, Grew.alloc w _, .row (mk_row _ rfl rfl hx), hptr _⟩
      simp only [Instr.box, bind, Sem.run_bind', newVar, newRow, run_newObj, Sem.run_pure, Result.andThen_ok]
    · cases hn
  case buildSlice t n ps =>
    split at hn
    · rename_i e parts hu hps
      split at hn
      · rename_i i hi
        split at hn
        · rename_i z hz
          split at hn
          · rename_i hcond
            split at hn
            · rename_i cells hf
              cases hn
              simp only [Bool.and_eq_true] at hcond
              obtain ⟨⟨hc, h16⟩, hnB⟩ := hcond
              have h16' : n * i.size ≤ 16777216 := Nat.le_of_ble_eq_true h16
              have hnB' : n < BIG := (blt_iff _ _).1 hnB
              have hp := evParts_vr h0 hps
              obtain ⟨r', h1, h2⟩ := fill_vr (γ := γ) hp (c' := ⟨(List.range (n * i.size)).map (z.cells[· % z.cells.size]!)⟩) (VRs.map_range hc _) hf
              have hrun : (Instr.buildSlice t n (ps.map fun x => (x.1, a.eval x.2))).run P w = .ok (.slice (some ⟨w.heap.size, 0, none⟩) n n) (more w (.cells r' e)) := by
                have hn16 : ¬ (n * i.size > 2 ^ 24) := by
                  have e : (2 : Nat) ^ 24 = 16777216 := by decide
                  omega
                have e2 : (ps.map fun x => (x.1, a.eval x.2)).toList = ps.toList.map fun x => (x.1, a.eval x.2) := by simp
                by_cases hz0 : n * i.size = 0
                · have e1 : ((Array.range (n * i.size)).map ((#[] : Array Value)[· % (#[] : Array Value).size]!)) = ⟨(List.range (n * i.size)).map (z.cells[· % z.cells.size]!)⟩ := by
                    apply Array.ext'; simp [hz0]
                  simp only [Instr.buildSlice, bind, Sem.run_bind', r_under hu, Result.andThen_ok, r_size hi, if_neg hn16, if_pos hz0, Sem.run_pure, e1, e2, h1, newRow, run_newObj]
                · have e1 : ((Array.range (n * i.size)).map (z.cells[· % z.cells.size]!)) = ⟨(List.range (n * i.size)).map (z.cells[· % z.cells.size]!)⟩ := by
                    apply Array.ext'; simp [Array.toList_range]
                  simp only [Instr.buildSlice, bind, Sem.run_bind', r_under hu, Result.andThen_ok, r_size hi, if_neg hn16, if_neg hz0, r_zero hi hz, Sem.run_pure, e1, e2, h1, newRow, run_newObj]
              refine ⟨.cells r' e, r'.size, .slice (some ⟨w.heap.size, 0, none⟩) n n, _, exec_w (by unfold execOp; rw [hq]) hrun, Grew.alloc w _, .row (mk_row _ rfl rfl (h2.mono (hle _))), ?_⟩
              exact VR.slice (off := 0) (hsame _) hnB'
            · cases hn
          · cases hn
        · cases hn
      · cases hn
    · cases hn
  case makeSlice t l c =>
    split at hn
    · rename_i e vl vc hu hl hc
      split at hn
      · rename_i nl nc i hnl hnc hi
        split at hn
        · rename_i z hz
          split at hn
          · rename_i hcond
            cases hn
            simp only [Bool.and_eq_true] at hcond
            obtain ⟨⟨⟨⟨⟨hzc, h1⟩, h2⟩, h3⟩, h4⟩, h5⟩ := hcond
            have h1' : nl ≤ nc := Nat.le_of_ble_eq_true h1
            have h2' : nc < BIG := (blt_iff _ _).1 h2
            have h3' : i.bytes * nc ≤ 281474976710656 := Nat.le_of_ble_eq_true h3
            have h4' : z.cells.size = i.size := Nat.eq_of_beq_eq_true h4
            have h5' : 0 < i.size := (blt_iff _ _).1 h5
            obtain ⟨kl, hkl⟩ := asN_vr hnl (ev_vr h0 hl)
            obtain ⟨kc, hkc⟩ := asN_vr hnc (ev_vr h0 hc)
            have hrun : (Instr.makeSlice t (a.eval l) (a.eval c)).run P w = .ok (.slice (some ⟨w.heap.size, 0, none⟩) nl nc) (more w (.cells ⟨(List.replicate nc z.cells.toList).flatten⟩ e)) := by
              have ai : ∀ k n, (asInt (.int k (.ofNat n))).run P w = .ok (Int.ofNat n) w := fun k n => rfl
              have wl : IntKind.i64.wrap (Int.ofNat nl) = (nl : Int) := by
                rw [← wrapK_eq]; simp only [wrapK, ifB_lt]; rw [if_pos (by have : BIG = 9223372036854775808 := rfl; omega)]; rfl
              have wc : IntKind.i64.wrap (Int.ofNat nc) = (nc : Int) := by
                rw [← wrapK_eq]; simp only [wrapK, ifB_lt]; rw [if_pos (by have : BIG = 9223372036854775808 := rfl; omega)]; rfl
              have big : ¬ ((i.bytes : Int) * (nc : Int) > 2 ^ 48) := by
                have e1 : ((i.bytes : Int) * (nc : Int)) = ((i.bytes * nc : Nat) : Int) := by simp
                have e2 : (2 : Int) ^ 48 = 281474976710656 := by decide
                rw [e1, e2]; omega
              have hn0 : (if nc * i.size = 0 then pure #[] else do pure (← zeroValue e).cells : Sem (Array Value)).run P w = .ok (if nc * i.size = 0 then #[] else z.cells) w := by
                split
                · rfl
                · simp only [bind, Sem.run_bind', r_zero hi hz, Result.andThen_ok, Sem.run_pure]
              have hcells : ((Array.range (nc * i.size)).map ((if nc * i.size = 0 then #[] else z.cells)[· % (if nc * i.size = 0 then #[] else z.cells).size]!)) = ⟨(List.replicate nc z.cells.toList).flatten⟩ := by
                apply Array.ext'
                rw [rep_get _ _ (by omega), h4']
                by_cases hz0 : nc * i.size = 0
                · simp [hz0]
                · simp [hz0, Array.toList_range, h4']
              rw [hkl, hkc]
              simp only [Instr.makeSlice, bind, Sem.run_bind', r_under hu, Result.andThen_ok, ai, r_info hi, wl, wc]
              have c1 : (((decide ((nc : Int) < 0)) || decide ((i.bytes : Int) * (nc : Int) > 2 ^ 48)) || decide ((nl : Int) < 0) || decide ((nl : Int) > (nc : Int))) = false := by
                simp only [Bool.or_eq_false_iff, decide_eq_false_iff_not]
                exact ⟨⟨⟨by omega, big⟩, by omega⟩, by omega⟩
              simp only [c1, Bool.false_eq_true, if_false]
              simp only [Int.toNat_natCast, Sem.run_bind', run_askRoom, Result.andThen_ok, r_size hi]
              by_cases hz0 : nc * i.size = 0
              · simp only [if_pos hz0, Sem.run_bind', Sem.run_pure, Result.andThen_ok, newRow, bind, run_newObj]
                simp only [if_pos hz0] at hcells
                rw [hcells]
              · simp only [if_neg hz0, Sem.run_bind', r_zero hi hz, Sem.run_pure, Result.andThen_ok, newRow, bind, run_newObj]
                simp only [if_neg hz0] at hcells
                rw [hcells]
            obtain ⟨hs1, hs2⟩ := Row.rep_spec nc z.cells.toList
            have hlen : ((List.replicate nc z.cells.toList).flatten).length = nc * z.cells.toList.length := by simp
            refine ⟨.cells ⟨(List.replicate nc z.cells.toList).flatten⟩ e, ((List.replicate nc z.cells.toList).flatten).length, .slice (some ⟨w.heap.size, 0, none⟩) nl nc, _, exec_w (by unfold execOp; rw [hq]) hrun, Grew.alloc w _, ?_, VR.slice (off := 0) (hsame _) h2'⟩
            refine .row (rowR_new rfl rfl ?_ (row_list (c := ⟨(List.replicate nc z.cells.toList).flatten⟩) hs2 (VRs.rep hzc nc)) (.inl rfl))
            rw [hs1]
            show _ ≤ ((List.replicate nc z.cells.toList).flatten).length
            rw [hlen]; exact Nat.le_refl _
          · cases hn
        · cases hn
      · cases hn
    · cases hn
  case makeMap t r =>
    cases r with
    | some r => cases hn
    | none =>
      cases hn
      refine ⟨.map #[] 0, 0, .map (some w.heap.size), more w (.map #[] 0), exec_w (by unfold execOp; rw [hq]) ?_, Grew.alloc w _, .map .nil, .map (hsame 0)⟩
      simp only [Option.map_none, Instr.makeMap, bind, Sem.run_bind', run_newObj, Result.andThen_ok, Sem.run_pure]
  case convert s d x =>
    split at hn
    · rename_i e b hs hd hx
      split at hn
      · rename_i he
        cases hn
        have hx' := ev_vr h0 hx
        have hxe : a.eval x = .string b := by
          generalize a.eval x = x' at hx'; cases hx'; rfl
        obtain ⟨cap, w1, hcap, hrun, hgrew⟩ := run_stringToBytes (P := P) (e := e) (b := b) w
        have hbs : b.data.toList.length = b.size := by simp only [Array.length_toList]; rfl
        refine ⟨_, cap, .slice (some ⟨w.heap.size, 0, none⟩) b.size cap, w1, exec_w (by unfold execOp; rw [hq]) ?_, hgrew, .row (rowR_new rfl (bcells_size hcap) ?_ ?_ ?_), ?_⟩
        · rw [hxe]
          simp only [convert, bind, Sem.run_bind', r_under hs, r_under hd, Result.andThen_ok, r_under he]
          exact hrun
        · show b.data.toList.length ≤ _
          rw [bcells_size hcap, hbs]; exact hcap
        · intro i v hv
          have hi : i < b.data.toList.length := Row.get_lt hv
          rw [Row.get_bytes, if_pos hi, packB_spec _ _ hi] at hv
          cases hv
          exact ⟨_, bcells_get hi, .int _ _⟩
        · exact .inr (by rw [bcells_size hcap]; exact Nat.le_refl _)
        · rw [hbs]
          exact VR.sliceU (off := 0) (hsame _) (by have : BIG = 9223372036854775808 := rfl; omega) hcap (by simp)
      · cases hn
    · cases hn
  case range t x =>
    split at hn
    · rename_i s hu hx
      cases hn
      have hx' := ev_vr h0 hx
      have hxe : a.eval x = .string s := by
        generalize a.eval x = x' at hx'; cases hx'; rfl
      refine ⟨.stringIter s 0, 0, .pointer (some ⟨w.heap.size, 0, none⟩), more w (.stringIter s 0), exec_w (by unfold execOp; rw [hq]) ?_, Grew.alloc w _, .strIter s 0 rfl, hptr 0⟩
      rw [hxe]
      simp only [Instr.range, bind, Sem.run_bind', r_under hu, Result.andThen_ok, Sem.run_pure, run_newObj]
    · cases hn
end Go.Ae

namespace Go.Ae
variable {P : Program} {γ : Gm} {m : Tm} {a : Act} {w w' w0 : World} {pend : Nat → Option AObj} {h : Hp}

/-- Two worlds that are alike but at one block. -/
structure Chg (w w' : World) (b : Nat) (ob : Obj) : Prop where
  size : w'.heap.size = w.heap.size
  at_ : w'.heap[b]? = some ob
  else_ : ∀ k, k ≠ b → w'.heap[k]? = w.heap[k]?
  os : w'.os = w.os
  tape : w'.tape = w.tape
  output : w'.output = w.output

theorem Chg.trans {w1 w2 w3 : World} {b : Nat} {o1 o2 : Obj} (h : Chg w1 w2 b o1) (k : Chg w2 w3 b o2) : Chg w1 w3 b o2 :=
  ⟨k.size.trans h.size, k.at_, fun i hi => (k.else_ i hi).trans (h.else_ i hi), k.os.trans h.os, k.tape.trans h.tape, k.output.trans h.output⟩

theorem HR.change (hr : HR w0 γ pend h w) {B : Nat} {o o' : AObj} {p : Pl} {ob : Obj} (hB : h.m.get B = some o) (hd : o ≠ .dead) (hp : γ B = some p) (hc : Chg w w' p.b ob) (ho : OR γ p o' ob) :
    HR w0 γ pend { h with m := h.m.put B o' } w' := by
  have hsz : p.b < w.heap.size := (hr.dom B p hp).2.2
  have hold : ∀ x q, (h.m.put B o').get x = some q → (x = B ∧ q = o') ∨ (x ≠ B ∧ h.m.get x = some q) := by
    intro x q hx
    rw [Tr.get_put] at hx
    split at hx
    · rename_i e; exact .inl ⟨e, (Option.some.inj hx).symm⟩
    · rename_i e; exact .inr ⟨e, hx⟩
  refine ⟨⟨hc.os.trans hr.fr0.os, hc.tape.trans hr.fr0.tape, hc.output.trans hr.fr0.output, by rw [hc.size]; exact hr.fr0.size, fun k hk => ?_⟩, ?_, ?_, ?_, ?_, ?_, hr.keep⟩
  · have := (hr.dom B p hp).2.1
    rw [hc.else_ k (by omega)]; exact hr.fr0.block k hk
  · intro x q hx; have := hr.dom x q hx; rw [hc.size]; exact this
  · intro x y q q' u u' hx hy hu hu' hq hq' e
    rcases hold x u hx with ⟨e1, _⟩ | ⟨_, hx'⟩ <;> rcases hold y u' hy with ⟨e2, _⟩ | ⟨_, hy'⟩
    · exact e1.trans e2.symm
    · subst e1; exact hr.inj _ _ _ _ _ _ hB hy' hd hu' hq hq' e
    · subst e2; exact hr.inj _ _ _ _ _ _ hx' hB hu hd hq hq' e
    · exact hr.inj _ _ _ _ _ _ hx' hy' hu hu' hq hq' e
  · intro x u q hx hu hq
    rcases hold x u hx with ⟨rfl, rfl⟩ | ⟨hne, hx⟩
    · rw [hp] at hq; cases hq; exact ⟨ob, hc.at_, ho⟩
    · obtain ⟨ob', h1, h2⟩ := hr.obj x u q hx hu hq
      refine ⟨ob', ?_, h2⟩
      rw [hc.else_ _ (fun e => hne (hr.inj _ _ _ _ _ _ hx hB hu hd hq hp e))]; exact h1
  · intro x hx
    have hBn : B < h.next := (hr.dom B p hp).1
    show (h.m.put B o').get x = none
    rw [Tr.get_put_other _ _ _ _ (by simp at hx; omega)]; exact hr.fresh x hx
  · intro x hx hγ
    show (h.m.put B o').get x = pend x
    rw [Tr.get_put_other _ _ _ _ (by rintro rfl; rw [hp] at hγ; cases hγ)]; exact hr.pend x hx hγ

/-- A block that the world doesn't have yet. -/
def pendPut (pend : Nat → Option AObj) (B : Nat) (o : AObj) : Nat → Option AObj := fun x => if x = B then some o else pend x

theorem HR.fresh_none (hr : HR w0 γ pend h w) {x : Nat} (hx : h.next ≤ x) : γ x = none := by
  cases hg : γ x with
  | none => rfl
  | some p => have := (hr.dom x p hg).1; omega

theorem HR.new (hr : HR w0 γ pend h w) (o : AObj) : HR w0 γ (pendPut pend h.next o) ⟨h.next + 1, h.m.put h.next o⟩ w := by
  have hn : γ h.next = none := hr.fresh_none (Nat.le_refl _)
  have hold : ∀ x q p, (h.m.put h.next o).get x = some q → γ x = some p → h.m.get x = some q := by
    intro x q p hx hp
    rw [Tr.get_put_other _ _ _ _ (by rintro rfl; rw [hn] at hp; cases hp)] at hx; exact hx
  have hkeep : ∀ B o', pendPut pend h.next o B = some o' → B < h.next + 1 ∧ γ B = none := by
    intro B o' hB
    unfold pendPut at hB
    split at hB
    · rename_i e; subst e; exact ⟨Nat.lt_succ_self _, hn⟩
    · have := hr.keep B o' hB; exact ⟨Nat.lt_succ_of_lt this.1, this.2⟩
  refine ⟨hr.fr0, ?_, ?_, ?_, ?_, ?_, hkeep⟩
  · intro x q hx; have := hr.dom x q hx; exact ⟨Nat.lt_succ_of_lt this.1, this.2⟩
  · intro x y q q' u u' hx hy hu hu' hq hq' e
    exact hr.inj _ _ _ _ _ _ (hold _ _ _ hx hq) (hold _ _ _ hy hq') hu hu' hq hq' e
  · intro x u q hx hu hq
    exact hr.obj x u q (hold _ _ _ hx hq) hu hq
  · intro x hx
    show (h.m.put h.next o).get x = none
    rw [Tr.get_put_other _ _ _ _ (by simp at hx; omega)]; exact hr.fresh x (by simp at hx; omega)
  · intro x hx hγ
    show (h.m.put h.next o).get x = pendPut pend h.next o x
    unfold pendPut
    rw [Tr.get_put]
    split
    · rfl
    · rename_i e; exact hr.pend x (by simp at hx; omega) hγ

/-- A block that the world has now. -/
def pendDel (pend : Nat → Option AObj) (B : Nat) : Nat → Option AObj := fun x => if x = B then none else pend x
theorem HR.realize (hr : HR w0 γ pend h w) {B : Nat} {o : AObj} {p : Pl} {ob : Obj} (hB : h.m.get B = some o) (hlt : B < h.next) (hn : γ B = none) (hp : p.b = w.heap.size) (hg : Grew w w' ob) (ho : OR (γ.upd B p) p o ob) :
    HR w0 (γ.upd B p) (pendDel pend B) h w' := by
  have hkeep : ∀ x o', pendDel pend B x = some o' → x < h.next ∧ γ.upd B p x = none := by
    intro x o' hx
    unfold pendDel at hx
    split at hx
    · cases hx
    · rename_i e; have := hr.keep x o' hx; exact ⟨this.1, by rw [Gm.upd_other _ _ _ e]; exact this.2⟩
  have hcase : ∀ x q, γ.upd B p x = some q → (x = B ∧ q = p) ∨ (x ≠ B ∧ γ x = some q) := by
    intro x q hx
    by_cases e : x = B
    · subst e; rw [Gm.upd_same] at hx; exact .inl ⟨rfl, (Option.some.inj hx).symm⟩
    · rw [Gm.upd_other _ _ _ e] at hx; exact .inr ⟨e, hx⟩
  have hsz : w'.heap.size = w.heap.size + 1 := by rw [hg.heap]; simp
  refine ⟨⟨hg.os.trans hr.fr0.os, hg.tape.trans hr.fr0.tape, hg.output.trans hr.fr0.output, by have := hr.fr0.size; omega, fun k hk => ?_⟩, ?_, ?_, ?_, hr.fresh, ?_, hkeep⟩
  · have := hr.fr0.size
    rw [hg.heap, Array.getElem?_push, if_neg (by omega)]; exact hr.fr0.block k hk
  · intro x q hx
    rcases hcase x q hx with ⟨rfl, rfl⟩ | ⟨_, hx⟩
    · exact ⟨hlt, by have := hr.fr0.size; omega, by omega⟩
    · have := hr.dom x q hx; exact ⟨this.1, this.2.1, by omega⟩
  · intro x y q q' u u' hx hy hu hu' hq hq' e
    rcases hcase x q hq with ⟨e1, e2⟩ | ⟨_, hq2⟩ <;> rcases hcase y q' hq' with ⟨e3, e4⟩ | ⟨_, hq2'⟩
    · exact e1.trans e3.symm
    · have := (hr.dom y q' hq2').2.2; subst e2; omega
    · have := (hr.dom x q hq2).2.2; subst e4; omega
    · exact hr.inj _ _ _ _ _ _ hx hy hu hu' hq2 hq2' e
  · intro x u q hx hu hq
    rcases hcase x q hq with ⟨rfl, rfl⟩ | ⟨_, hq⟩
    · rw [hB] at hx; cases hx
      refine ⟨ob, ?_, ho⟩
      rw [hg.heap, hp]; simp
    · obtain ⟨ob', h1, h2⟩ := hr.obj x u q hx hu hq
      refine ⟨ob', ?_, h2.mono (Gm.le_upd p hn)⟩
      have := (hr.dom x q hq).2.2
      rw [hg.heap, Array.getElem?_push, if_neg (by omega)]; exact h1
  · intro x hx hγ
    by_cases e : x = B
    · subst e; rw [Gm.upd_same] at hγ; cases hγ
    · rw [Gm.upd_other _ _ _ e] at hγ; unfold pendDel; rw [if_neg e]; exact hr.pend x hx hγ

/-- A world that is alike but for what was drawn. -/
theorem HR.drew (hr : HR w0 γ pend h w) (n : Nat) : HR w0 γ pend h { w with drawn := n } := ⟨⟨hr.fr0.os, hr.fr0.tape, hr.fr0.output, hr.fr0.size, hr.fr0.block⟩, hr.dom, hr.inj, hr.obj, hr.fresh, hr.pend, hr.keep⟩

/-! ### Stores -/
theorem setCell_chg {b o : Nat} {c : Array Value} {t : TypeId} {fr : Nat × Nat} (hb : w.heap[b]? = some (.cells c t fr)) (v : Value) : Chg w (w.setCell ⟨b, o, none⟩ v) b (.cells (c.setIfInBounds o v) t fr) := by
  refine ⟨by simp, ?_, fun k hk => ?_, rfl, rfl, rfl⟩
  · simp only [World.setCell, Array.getElem?_modify, if_true, hb, Option.map_some]
    simp
  · simp only [World.setCell, Array.getElem?_modify]
    rw [if_neg (by omega)]

theorem run_storeCells {b o : Nat} {t : TypeId} {fr : Nat × Nat} : ∀ (vs : List Value) (i : Nat) (w : World) (c : Array Value), w.heap[b]? = some (.cells c t fr) → o + i + vs.length ≤ c.size →
    (∀ j, j < c.size → ¬ (fr.1 ≤ j ∧ j < fr.2)) → (∀ v ∈ vs, v.oneCell' = true) →
    ∃ w' c', (storeCells ⟨b, o, none⟩ vs i).run P w = .ok () w' ∧ Chg w w' b (.cells c' t fr) ∧ c'.size = c.size ∧ ∀ j, c'[j]? = if o + i ≤ j ∧ j < o + i + vs.length then vs[j - (o + i)]? else c[j]?
  | [], i, w, c, hb, _, _, _ => ⟨w, c, rfl, ⟨rfl, hb, fun _ _ => rfl, rfl, rfl, rfl⟩, rfl, fun j => by rw [if_neg (by simp)]⟩
  | v :: vs, i, w, c, hb, hle, hf, h1 => by
    simp only [List.length_cons] at hle
    have hoi : o + i < c.size := by omega
    have hcell : w.cell? ⟨b, o + i, none⟩ = some c[o + i] := cell_of hb (Array.getElem?_eq_getElem hoi)
    have hfro : w.frozen? ⟨b, o + i, none⟩ = false := by
      unfold World.frozen?; rw [hb]
      have := hf (o + i) hoi
      simp only [Bool.and_eq_false_iff, decide_eq_false_iff_not]
      by_cases q : fr.1 ≤ o + i
      · exact .inr (fun q2 => this ⟨q, q2⟩)
      · exact .inl q
    have hst : (store ⟨b, o + i, none⟩ v).run P w = .ok () (w.setCell ⟨b, o + i, none⟩ v) := by
      rw [run_store P w _ v .plain (h1 v (by simp)), hcell]
      simp [hfro]
    have hc1 := setCell_chg (o := o + i) hb v
    obtain ⟨w', c', e1, e2, e3, e4⟩ := run_storeCells (o := o) vs (i + 1) _ (c.setIfInBounds (o + i) v) hc1.at_ (by simp; omega) (fun j hj => hf j (by simpa using hj)) (fun u hu => h1 u (by simp [hu]))
    refine ⟨w', c', ?_, hc1.trans e2, by simpa using e3, fun j => ?_⟩
    · simp only [storeCells, bind, Sem.run_bind', add_none, hst, Result.andThen_ok]; exact e1
    · rw [e4 j, Array.getElem?_setIfInBounds]
      by_cases hj : o + i = j
      · subst hj
        rw [if_neg (by omega), if_pos rfl, if_pos hoi, if_pos (by simp)]; simp
      · rw [if_neg hj]
        by_cases h2 : o + i ≤ j ∧ j < o + i + (v :: vs).length
        · rw [if_pos h2, if_pos (by simp only [List.length_cons] at h2; omega)]
          have : j - (o + i) = (j - (o + (i + 1))) + 1 := by omega
          rw [this, List.getElem?_cons_succ]
        · rw [if_neg h2, if_neg (by simp only [List.length_cons] at h2; omega)]

/-- A spliced row over spliced cells. -/
theorem RowR.splice {p : Pl} {r r' s : Row} {c c' : Array Value} {fr : Nat × Nat} {off : Nat} {vs : List Value} (hR : RowR γ p r c fr) (hs : r.splice off s = some r') (hlen : vs.length = s.size)
    (hvs : ∀ i v, s.get i = some v → ∃ v', vs[i]? = some v' ∧ VR γ v v') (hsz : c'.size = c.size) (hc : ∀ j, c'[j]? = if off + p.σ ≤ j ∧ j < off + p.σ + vs.length then vs[j - (off + p.σ)]? else c[j]?) :
    RowR γ p r' c' fr := by
  obtain ⟨h1, h2, h3⟩ := Row.splice_spec hs
  refine ⟨hsz.trans hR.size, by rw [h2]; exact hR.fits, fun i v hi => ?_, hR.op.imp id fun e => by omega⟩
  rcases h3 i v hi with ⟨a1, a2, a3⟩ | ⟨a1, a2⟩
  · obtain ⟨v', e1, e2⟩ := hvs _ _ a3
    refine ⟨v', ?_, e2⟩
    rw [hc, if_pos (by omega)]
    have : i + p.σ - (off + p.σ) = i - off := by omega
    rw [this]; exact e1
  · obtain ⟨v', e1, e2⟩ := hR.cells i v a2
    refine ⟨v', ?_, e2⟩
    rw [hc, if_neg (by omega)]; exact e1

theorem VR.one {v v' : Value} (h : VR γ v v') : v'.oneCell' = v.oneCell' := by cases h <;> rfl

/-- Is each cell of a row there, and one that a cell can hold? -/
noncomputable def full : Row → Bool
  | .bytes _ _ => true
  | .vals n t => Option.rec (motive := fun _ => Bool) false (fun l => l.all (·.oneCell')) (Row.listFrom t n 0)
theorem full_spec {r : Row} (h : full r = true) : ∀ i, i < r.size → ∃ v, r.get i = some v ∧ v.oneCell' = true := by
  intro i hi
  cases r with
  | bytes n N =>
    have hi' : i < n := hi
    exact ⟨_, by rw [Row.get_bytes, if_pos hi'], rfl⟩
  | vals n t =>
    have h' : Option.rec (motive := fun _ => Bool) false (fun l => l.all (·.oneCell')) (Row.listFrom t n 0) = true := h
    cases hl : Row.listFrom t n 0 with
    | none => rw [hl] at h'; cases h'
    | some l =>
      rw [hl] at h'
      obtain ⟨h1, h2⟩ := Row.get_listFrom t _ _ _ hl
      have hi' : i < n := hi
      have := h2 i hi'
      rw [List.getElem?_eq_getElem (by omega), Nat.zero_add] at this
      refine ⟨l[i], by rw [Row.get_vals, if_pos hi']; exact this.symm, ?_⟩
      exact List.all_eq_true.1 h' _ (List.getElem_mem _)

/-- Cells that stand for a full row are ones that a cell can hold. -/
theorem full_cells {s : Row} {vs : List Value} (hf : full s = true) (hlen : vs.length = s.size) (hvs : ∀ i v, s.get i = some v → ∃ v', vs[i]? = some v' ∧ VR γ v v') : ∀ v ∈ vs, v.oneCell' = true := by
  intro v hv
  obtain ⟨i, hi, rfl⟩ := List.getElem_of_mem hv
  obtain ⟨u, h1, h2⟩ := full_spec hf i (by omega)
  obtain ⟨v', e1, e2⟩ := hvs i u h1
  rw [List.getElem?_eq_getElem hi] at e1
  cases e1
  rw [e2.one]; exact h2

noncomputable def aStore (P : Program) (h : Hp) (t : TypeId) (x v : Value) : Option Hp :=
  match x with
  | .pointer (some ⟨B, off, none⟩) =>
    match rowAtB h B, P.info? t with
    | some r, some i =>
      ifB (Nat.beq v.cells.size i.size)
        (match v with
        | .tuple _ => none
        | .agg cs =>
          let s := Row.ofList cs.toList
          ifB (full s) (match r.splice off s with
            | some r' => some { h with m := h.m.put B (.row r') }
            | none => none) none
        | v => match r.set off v with
          | some r' => some { h with m := h.m.put B (.row r') }
          | none => none) none
    | _, _ => none
  | _ => none

theorem getB_row {B : Nat} {r : Row} (h' : rowAtB h B = some r) : h.m.get B = some (.row r) := by
  unfold rowAtB at h'
  split at h'
  · rename_i hg; cases h'; exact hg
  · cases h'

/-- A store of cells into a row, as a change of the heap. -/
theorem store_row (hr : HR w0 γ pend h w) {B off : Nat} {p : Pl} {r r' s : Row} {vs : List Value} (hB : γ B = some p) (hrow : rowAtB h B = some r) (hs : r.splice off s = some r') (hlen : vs.length = s.size)
    (hvs : ∀ i v, s.get i = some v → ∃ v', vs[i]? = some v' ∧ VR γ v v') (h1 : ∀ v ∈ vs, v.oneCell' = true) :
    ∃ w', (storeCells ⟨p.b, off + p.σ, none⟩ vs).run P w = .ok () w' ∧ HR w0 γ pend { h with m := h.m.put B (.row r') } w' := by
  obtain ⟨c, t, fr, hc, hR⟩ := hr.row hrow hB
  obtain ⟨q1, q2, _⟩ := Row.splice_spec hs
  obtain ⟨w', c', e1, e2, e3, e4⟩ := run_storeCells (P := P) (o := off + p.σ) vs 0 w c hc (by have := hR.fits; have := hR.size; omega) hR.open_ h1
  refine ⟨w', e1, hr.change (getB_row hrow) (by intro e; cases e) hB e2 (.row (hR.splice hs hlen hvs e3 ?_))⟩
  intro j
  simpa using e4 j

theorem set_splice {r r' : Row} {off : Nat} {v : Value} (hs : r.set off v = some r') : r'.size = r.size ∧ off < r.size ∧ ∀ i u, r'.get i = some u → (i = off ∧ u = v) ∨ (i ≠ off ∧ r.get i = some u) := by
  obtain ⟨h1, h2, h3⟩ := Row.set_spec hs
  exact ⟨h2, h1, h3⟩

theorem store_one (hr : HR w0 γ pend h w) {B off : Nat} {p : Pl} {r r' : Row} {v v' : Value} (hB : γ B = some p) (hrow : rowAtB h B = some r) (hs : r.set off v = some r') (hv : VR γ v v') (h1 : v'.oneCell' = true) :
    ∃ w', (storeCells ⟨p.b, off + p.σ, none⟩ [v']).run P w = .ok () w' ∧ HR w0 γ pend { h with m := h.m.put B (.row r') } w' := by
  obtain ⟨c, t, fr, hc, hR⟩ := hr.row hrow hB
  obtain ⟨q1, q2, q3⟩ := set_splice hs
  obtain ⟨w', c', e1, e2, e3, e4⟩ := run_storeCells (P := P) (o := off + p.σ) [v'] 0 w c hc (by have := hR.fits; have := hR.size; simp; omega) hR.open_ (by simpa using h1)
  refine ⟨w', e1, hr.change (getB_row hrow) (by intro e; cases e) hB e2 (.row ⟨e3.trans hR.size, by rw [q1]; exact hR.fits, fun i u hu => ?_, hR.op.imp id fun e => by omega⟩)⟩
  rcases q3 i u hu with ⟨rfl, rfl⟩ | ⟨hne, hu⟩
  · refine ⟨v', ?_, hv⟩
    rw [e4]; simp
  · obtain ⟨u', g1, g2⟩ := hR.cells i u hu
    refine ⟨u', ?_, g2⟩
    rw [e4, if_neg (by simp; omega)]; exact g1

theorem aStore_sim (hr : HR w0 γ pend h w) {t : TypeId} {x x' v v' : Value} {h' : Hp} (hs : aStore P h t x v = some h') (hx : VR γ x x') (hv : VR γ v v') :
    ∃ w', (Instr.storeAt t x' v').run P w = .ok () w' ∧ HR w0 γ pend h' w' := by
  unfold aStore at hs
  split at hs
  · rename_i B off
    cases hx with
    | ptr hB =>
      rename_i p
      split at hs
      · rename_i r i hrow hi
        rw [ifB_beq] at hs
        split at hs
        case isFalse => cases hs
        rename_i hsz
        have hcs : v'.cells.size = i.size := by have := hv.cells.length; simp at this; omega
        have hrun : ∀ {w'}, (storeCells ⟨p.b, off + p.σ, none⟩ v'.cells.toList).run P w = .ok () w' → (Instr.storeAt t (.pointer (some ⟨p.b, off + p.σ, none⟩)) v').run P w = .ok () w' := by
          intro w' hw
          have : ¬ (v'.cells.size ≠ i.size) := by simp [hcs]
          simp only [Instr.storeAt, bind, Sem.run_bind', Instr.sureAddr, Sem.run_pure, Result.andThen_ok, storeVar, r_size hi, if_neg this]
          exact hw
        split at hs
        · cases hs
        · rename_i cs
          dsimp only at hs
          rw [ifB_eq] at hs
          split at hs
          case isFalse => cases hs
          rename_i hf
          split at hs
          · rename_i r' hsp
            cases hs
            cases hv with
            | agg hc =>
              rename_i cs'
              have hvs : ∀ i v, (Row.ofList cs.toList).get i = some v → ∃ v', cs'.toList[i]? = some v' ∧ VR γ v v' := by
                intro i v hi; rw [Row.get_ofList] at hi; exact hc.get i v hi
              have hlen : cs'.toList.length = (Row.ofList cs.toList).size := by rw [Row.size_ofList, hc.length]
              obtain ⟨w', e1, e2⟩ := store_row (P := P) hr hB hrow hsp hlen hvs (full_cells hf hlen hvs)
              exact ⟨w', hrun e1, e2⟩
          · cases hs
        · rename_i n1 n2
          split at hs
          · rename_i r' hset
            cases hs
            have hone : v'.oneCell' = true := by
              rw [hv.one]
              cases v <;> first | rfl | exact absurd rfl (n1 _) | exact absurd rfl (n2 _)
            have hcl : v'.cells.toList = [v'] := by cases v' <;> first | rfl | cases hone
            obtain ⟨w', e1, e2⟩ := store_one (P := P) hr hB hrow hset hv hone
            exact ⟨w', hrun (by rw [hcl]; exact e1), e2⟩
          · cases hs
      · cases hs
  · cases hs
end Go.Ae

namespace Go.Ae
variable {P : Program} {γ : Gm} {m : Tm} {a : Act} {w w' w0 : World} {pend : Nat → Option AObj} {h : Hp}

/-- How long a slice or a string is. -/
def lenA : Value → Option Nat
  | .slice _ n _ => some n
  | .string s => some s.data.toList.length
  | _ => none
theorem lenA_sim {x x' : Value} {n : Nat} (hl : lenA x = some n) (hx : VR γ x x') (w : World) : (Builtin.lenOf x').run P w = .ok n w := by
  unfold lenA at hl
  split at hl <;> cases hl
  · cases hx <;> rfl
  · cases hx
    rename_i s
    show Result.ok s.size w = _
    have : s.size = s.data.toList.length := by simp only [Array.length_toList]; rfl
    rw [this]

/-- The first n elements, of k cells each, of a slice or a string. -/
noncomputable def aSeg (h : Hp) (x : Value) (n k : Nat) : Option Row :=
  match n with
  | 0 => (match x with | .slice _ _ _ => some (.vals 0 .nil) | .string _ => some (.vals 0 .nil) | _ => none)
  | n + 1 =>
    match x with
    | .slice (some ⟨B, off, none⟩) l _ => ifB (Nat.ble (n + 1) l) (match rowAtB h B with
      | some r => r.slice off (Nat.mul (n + 1) k)
      | none => none) none
    | .string s => ifB (Nat.beq k 1) (ifB (Nat.ble (n + 1) s.data.toList.length) (some (.bytes (n + 1) (Nat.mod (packB s.data.toList) (p8 (n + 1))))) none) none
    | _ => none

/-- Cells that stand for a row. -/
structure Seg (γ : Gm) (s : Row) (vs : List Value) : Prop where
  len : vs.length = s.size
  cells : ∀ i v, s.get i = some v → ∃ v', vs[i]? = some v' ∧ VR γ v v'

theorem Seg.nil : Seg γ (.vals 0 .nil) [] := ⟨rfl, fun i v h => by have := Row.get_lt h; simp [Row.size] at this⟩

theorem Seg.mono {γ' : Gm} (hg : γ.le γ') {s : Row} {vs : List Value} (h : Seg γ s vs) : Seg γ' s vs := ⟨h.len, fun i v hi => let ⟨v', h1, h2⟩ := h.cells i v hi; ⟨v', h1, h2.mono hg⟩⟩

theorem Seg.append {s t q : Row} {vs us : List Value} (h : Seg γ s vs) (k : Seg γ t us) (ha : s.append t = some q) : Seg γ q (vs ++ us) := by
  obtain ⟨h1, h2⟩ := Row.append_spec ha
  refine ⟨by rw [h1, List.length_append, h.len, k.len], fun i v hi => ?_⟩
  rcases h2 i v hi with ⟨a1, a2⟩ | ⟨a1, _, a2⟩
  · obtain ⟨v', e1, e2⟩ := h.cells i v a2
    exact ⟨v', by rw [List.getElem?_append_left (by rw [h.len]; exact a1)]; exact e1, e2⟩
  · obtain ⟨v', e1, e2⟩ := k.cells _ v a2
    exact ⟨v', by rw [List.getElem?_append_right (by rw [h.len]; exact a1), h.len]; exact e1, e2⟩

theorem aSeg_simD (hr : HR w0 γ pend h w) {x x' : Value} {n k : Nat} {s : Row} (hs : aSeg h x n k = some s) (hx : VR γ x x') :
    ∃ vs : List Value, (∀ kd : Nat, (Builtin.firstCells k n x').run P { w with drawn := kd } = .ok ⟨vs⟩ { w with drawn := kd }) ∧ Seg γ s vs ∧ (n = 0 ∨ vs.length = n * k) := by
  have lc0 : ∀ (q : Addr) (kd : Nat), (loadCells q (0 * k)).run P { w with drawn := kd } = .ok ⟨[]⟩ { w with drawn := kd } := fun q kd => by rw [Nat.zero_mul]; rfl
  unfold aSeg at hs
  split at hs
  · split at hs
    · cases hs
      refine ⟨[], fun kd => ?_, Seg.nil, .inl rfl⟩
      cases hx <;> first | rfl | exact lc0 _ kd
    · cases hs
      cases hx
      rename_i s
      refine ⟨[], fun kd => ?_, Seg.nil, .inl rfl⟩
      show Result.ok _ _ = _
      congr 1
      apply Array.ext'
      simp [ByteArray.extract, ByteArray.copySlice]
    · cases hs
  · rename_i n
    split at hs
    · rename_i B off l c
      rw [ifB_le] at hs
      split at hs
      case isFalse => cases hs
      rename_i hnl
      cases hrow : rowAtB h B with
      | none => rw [hrow] at hs; cases hs
      | some r =>
        rw [hrow] at hs
        dsimp only at hs
        obtain ⟨q1, q2, q3⟩ := Row.slice_spec hs
        have emul : Nat.mul (n + 1) k = (n + 1) * k := rfl
        rw [emul] at q1 q2 q3
        have key : ∀ (p : Pl) (c' : Nat) (l' : Nat), γ B = some p → ∃ vs : List Value, (∀ kd : Nat, (Builtin.firstCells k (n + 1) (.slice (some ⟨p.b, off + p.σ, none⟩) l' c')).run P { w with drawn := kd } = .ok ⟨vs⟩ { w with drawn := kd }) ∧ Seg γ s vs ∧ (n + 1 = 0 ∨ vs.length = (n + 1) * k) := by
          intro p c' l' hB
          obtain ⟨ca, ty, fr, hc, hR⟩ := hr.row hrow hB
          have hfit : off + p.σ + (n + 1) * k ≤ ca.size := by have := hR.fits; have := hR.size; omega
          have hlen : ((ca.toList.drop (off + p.σ)).take ((n + 1) * k)).length = (n + 1) * k := by simp; omega
          refine ⟨(ca.toList.drop (off + p.σ)).take ((n + 1) * k), fun kd => ?_, ⟨by rw [hlen, q2], fun i v hi => ?_⟩, .inr hlen⟩
          · refine run_cells (P := P) (w := { w with drawn := kd }) hc hlen ?_
            intro j v hv
            have hj : j < (n + 1) * k := by
              rcases Nat.lt_or_ge j ((n + 1) * k) with q | q
              · exact q
              · rw [List.getElem?_eq_none (by omega)] at hv; cases hv
            rw [List.getElem?_take, if_pos hj, List.getElem?_drop] at hv
            rw [← Array.getElem?_toList]; exact hv
          · obtain ⟨g1, g2⟩ := q3 i v hi
            obtain ⟨v', e1, e2⟩ := hR.cells _ _ g2
            refine ⟨v', ?_, e2⟩
            rw [List.getElem?_take, if_pos g1, List.getElem?_drop, Array.getElem?_toList]
            rw [← e1]; congr 1; omega
        cases hx with
        | slice hB hc => exact key _ _ _ hB
        | sliceU hB hk hl hN => exact key _ _ _ hB
        | sliceE a' c' => omega
    · rename_i b
      rw [ifB_beq] at hs
      split at hs
      case isFalse => cases hs
      rename_i hk
      subst hk
      rw [ifB_le] at hs
      split at hs
      case isFalse => cases hs
      rename_i hle
      cases hs
      cases hx
      have hsz : b.data.toList.length = b.data.size := Array.length_toList
      have hcells : ∀ kd : Nat, (Builtin.firstCells 1 (n + 1) (.string b)).run P { w with drawn := kd } = .ok ⟨(b.data.toList.take (n + 1)).map fun x => Value.int .u8 x.toNat⟩ { w with drawn := kd } := by
        intro kd
        show Result.ok _ _ = _
        congr 1
        apply Array.ext'
        have e : (b.extract 0 (n + 1)).data = b.data.extract 0 (n + 1) := by simp [ByteArray.extract, ByteArray.copySlice]
        rw [e]; simp
      have htl : ((b.data.toList.take (n + 1)).map fun x => Value.int .u8 x.toNat).length = n + 1 := by rw [List.length_map, List.length_take]; omega
      refine ⟨_, hcells, ⟨htl, fun i v hi => ?_⟩, .inr (by rw [htl]; omega)⟩
      have hi' := Row.get_lt hi
      simp only [Row.size] at hi'
      have ep : (packB b.data.toList).mod (p8 (n + 1)) = packB b.data.toList % 256 ^ (n + 1) := rfl
      rw [ep, Row.get_bytes, if_pos hi', Row.low _ _ _ hi', packB_spec _ _ (by omega)] at hi
      cases hi
      refine ⟨_, ?_, .int _ _⟩
      rw [List.getElem?_map, List.getElem?_take, if_pos hi', List.getElem?_eq_getElem (by omega), Option.map_some]
      congr 3
      simp [List.getD, List.getElem?_eq_getElem (show i < b.data.toList.length by omega)]
    · cases hs

theorem aSeg_sim (hr : HR w0 γ pend h w) {x x' : Value} {n k : Nat} {s : Row} (hs : aSeg h x n k = some s) (hx : VR γ x x') :
    ∃ vs : List Value, (Builtin.firstCells k n x').run P w = .ok ⟨vs⟩ w ∧ Seg γ s vs ∧ (n = 0 ∨ vs.length = n * k) := by
  obtain ⟨vs, h1, h2⟩ := aSeg_simD (P := P) hr hs hx
  exact ⟨vs, h1 w.drawn, h2⟩

/-! ### Copy -/
noncomputable def aCopy (P : Program) (h : Hp) (t : TypeId) (d x : Value) : Option (Hp × Value) :=
  match P.underlying t, d, lenA x with
  | some (.slice e), .slice (some ⟨B, off, none⟩) dl _, some n =>
    match P.info? e with
    | some i =>
      match ifB (Nat.ble n dl) n dl with
      | 0 => (match x with | .slice _ _ _ => some (h, .int .i64 0) | .string _ => some (h, .int .i64 0) | _ => none)
      | k + 1 =>
        match rowAtB h B, aSeg h x (k + 1) i.size with
        | some r, some s => ifB (full s) (match r.splice off s with
          | some r' => some ({ h with m := h.m.put B (.row r') }, .int .i64 (k + 1 : Nat))
          | none => none) none
        | _, _ => none
    | none => none
  | some (.slice e), .slice none _ _, some _ => (match P.info? e with | some _ => some (h, .int .i64 0) | none => none)
  | _, _, _ => none

theorem run_copy_some {t e T : TypeId} {i : TypeInfo} {tys : Array TypeId} (ht : tys[0]? = some t) (hu : P.underlying t = some (.slice e)) (hi : P.info? e = some i) {b : Addr} {dl c n : Nat} {x' : Value} {vs : List Value}
    (hn : (Builtin.lenOf x').run P w = .ok n w) (hf : (Builtin.firstCells i.size (Nat.min n dl) x').run P w = .ok ⟨vs⟩ w) (hst : (storeCells b vs).run P w = .ok () w') :
    (Builtin.copy_ tys T #[.slice (some b) dl c, x']).run P w = .ok (goInt (Nat.min n dl)) w' := by
  have e0 : (#[.slice (some b) dl c, x'] : Array Value)[0]? = some (.slice (some b) dl c) := rfl
  have e1 : (#[.slice (some b) dl c, x'] : Array Value)[1]? = some x' := rfl
  unfold Builtin.copy_
  simp only [ht, e0, e1, bind, Sem.run_bind', r_under hu, Result.andThen_ok, hn, r_size hi, hf, hst, Sem.run_pure]

theorem aSeg_zero {x : Value} {n : Nat} (hn : lenA x = some n) (k : Nat) : aSeg h x 0 k = some (.vals 0 .nil) := by
  unfold aSeg
  cases x <;> first | rfl | cases hn

theorem firstCells_zero (hr : HR w0 γ pend h w) {x x' : Value} {n k : Nat} (hn : lenA x = some n) (hx : VR γ x x') : (Builtin.firstCells k 0 x').run P w = .ok ⟨[]⟩ w := by
  obtain ⟨vs, g1, g2, _⟩ := aSeg_sim (P := P) hr (aSeg_zero (h := h) hn k) hx
  have : vs = [] := List.eq_nil_of_length_eq_zero g2.len
  rw [this] at g1; exact g1

theorem aCopy_sim (hr : HR w0 γ pend h w) {t T : TypeId} {tys : Array TypeId} (ht : tys[0]? = some t) {d d' x x' v : Value} {h' : Hp} (hc : aCopy P h t d x = some (h', v)) (hd : VR γ d d') (hx : VR γ x x') :
    ∃ w', (Builtin.copy_ tys T #[d', x']).run P w = .ok v w' ∧ HR w0 γ pend h' w' ∧ VR γ v v := by
  unfold aCopy at hc
  split at hc
  · rename_i e B off dl cp n hu hn
    have hlen := lenA_sim (P := P) hn hx w
    split at hc
    case h_2 => cases hc
    rename_i i hi
    rw [ifB_le] at hc
    have hmin : (if n ≤ dl then n else dl) = Nat.min n dl := by
      show _ = min n dl; split <;> omega
    rw [hmin] at hc
    cases hk : Nat.min n dl with
    | zero =>
      rw [hk] at hc
      have hv : v = .int .i64 0 ∧ h' = h := by
        dsimp only at hc
        split at hc <;> cases hc <;> exact ⟨rfl, rfl⟩
      obtain ⟨rfl, rfl⟩ := hv
      have hfc : (Builtin.firstCells i.size (Nat.min n dl) x').run P w = .ok ⟨[]⟩ w := by rw [hk]; exact firstCells_zero hr hn hx
      have key : ∀ (b : Addr) (c : Nat), (Builtin.copy_ tys T #[.slice (some b) dl c, x']).run P w = .ok (.int .i64 0) w := by
        intro b c
        have := run_copy_some (P := P) (T := T) (c := c) (w' := w) ht hu hi hlen hfc (b := b) rfl
        rw [hk] at this; exact this
      refine ⟨w, ?_, hr, .int _ _⟩
      cases hd with
      | slice hB hcc => exact key _ _
      | sliceU hB hkk hl hN => exact key _ _
      | sliceE a' c' => exact key _ _
    | succ k =>
      rw [hk] at hc
      dsimp only at hc
      split at hc
      case h_2 => cases hc
      rename_i r s hrow hseg
      rw [ifB_eq] at hc
      split at hc
      case isFalse => cases hc
      rename_i hf
      split at hc
      case h_2 => cases hc
      rename_i r' hsp
      cases hc
      obtain ⟨vs, g1, g2, g3⟩ := aSeg_sim (P := P) hr hseg hx
      have hfc : (Builtin.firstCells i.size (Nat.min n dl) x').run P w = .ok ⟨vs⟩ w := by rw [hk]; exact g1
      have key : ∀ (p : Pl) (c : Nat), γ B = some p → ∃ w', (Builtin.copy_ tys T #[.slice (some ⟨p.b, off + p.σ, none⟩) dl c, x']).run P w = .ok (.int .i64 (k + 1 : Nat)) w' ∧ HR w0 γ pend { h with m := h.m.put B (.row r') } w' := by
        intro p c hB
        obtain ⟨w', e1, e2⟩ := store_row (P := P) hr hB hrow hsp g2.len g2.cells (full_cells hf g2.len g2.cells)
        have := run_copy_some (P := P) (T := T) (c := c) ht hu hi hlen hfc e1
        rw [hk] at this
        exact ⟨w', this, e2⟩
      cases hd with
      | slice hB hcc => obtain ⟨w', e1, e2⟩ := key _ _ hB; exact ⟨w', e1, e2, .int _ _⟩
      | sliceU hB hkk hl hN => obtain ⟨w', e1, e2⟩ := key _ _ hB; exact ⟨w', e1, e2, .int _ _⟩
      | sliceE a' c' =>
        have : Nat.min n 0 = 0 := Nat.min_zero n
        omega
  · rename_i e dl cp n hu hn
    have hlen := lenA_sim (P := P) hn hx w
    cases hd
    split at hc
    case h_2 => cases hc
    rename_i i hi
    cases hc
    refine ⟨w, ?_, hr, .int _ _⟩
    have e0 : (#[.slice none 0 0, x'] : Array Value)[0]? = some (.slice none 0 0) := rfl
    have e1 : (#[.slice none 0 0, x'] : Array Value)[1]? = some x' := rfl
    have hfc : (Builtin.firstCells i.size (Nat.min n 0) x').run P w = .ok ⟨[]⟩ w := by rw [show Nat.min n 0 = 0 from Nat.min_zero n]; exact firstCells_zero hr hn hx
    unfold Builtin.copy_
    simp only [ht, e0, e1, bind, Sem.run_bind', r_under hu, Result.andThen_ok, hlen, r_size hi, hfc, Sem.run_pure]
    rw [show Nat.min n 0 = 0 from Nat.min_zero n]; rfl
  · cases hc
end Go.Ae

namespace Go.Ae
variable {P : Program} {γ : Gm} {m : Tm} {a : Act} {w w' w0 : World} {pend : Nat → Option AObj} {h : Hp}

def isSrc : TypeDesc → Bool
  | .slice _ => true
  | .string => true
  | _ => false

/-- What is appended: n elements, whose cells are vs. -/
inductive AppSrc (P : Program) (tys : Array TypeId) (e : TypeId) (i : TypeInfo) (w : World) : Value → Nat → List Value → Prop where
  | plain {x' : Value} {n : Nat} {vs : List Value} (hz : tys[1]? = none ∨ ∃ tx d, tys[1]? = some tx ∧ P.underlying tx = some d ∧ isSrc d = true) (hn : (Builtin.lenOf x').run P w = .ok n w)
      (hf : (Builtin.firstCells i.size n x').run P w = .ok ⟨vs⟩ w) : AppSrc P tys e i w x' n vs
  | zeros {tx : TypeId} {k kx : IntKind} {n : Nat} {z : Value} (hz : tys[1]? = some tx) (hu : P.underlying tx = some (.int k)) (hn : n < BIG) (hb : n * i.bytes ≤ 281474976710656) (hzero : i.zero = some z) (h0 : n * i.size ≠ 0) :
      AppSrc P tys e i w (.int kx (.ofNat n)) n (Builtin.zeroCells z.cells n).toList

theorem wrap_small {n : Nat} (h : n < BIG) : IntKind.i64.wrap (Int.ofNat n) = (n : Int) := by
  rw [← wrapK_eq]; simp only [wrapK, ifB_lt]; rw [if_pos h]; rfl

theorem run_app_in {t e T : TypeId} {i : TypeInfo} {tys : Array TypeId} (ht : tys[0]? = some t) (hu : P.underlying t = some (.slice e)) (hi : P.info? e = some i) {base : Option Addr} {sl sc n : Nat} {x' : Value} {vs : List Value}
    (hs : AppSrc P tys e i w x' n vs) (hle : sl + n ≤ sc) (hst : match base with | none => w' = w | some b => (storeCells (b.add (sl * i.size)) vs).run P w = .ok () w') :
    (Builtin.append_ tys T #[.slice base sl sc, x']).run P w = .ok (.slice base (sl + n) sc) w' := by
  have e0 : (#[.slice base sl sc, x'] : Array Value)[0]? = some (.slice base sl sc) := rfl
  have e1 : (#[.slice base sl sc, x'] : Array Value)[1]? = some x' := rfl
  unfold Builtin.append_
  cases hs with
  | plain hz hn hf =>
    rcases hz with hz | ⟨tx, d, hz, hd, hnd⟩
    · simp only [ht, e0, e1, bind, Sem.run_bind', r_under hu, Result.andThen_ok, r_size hi, hz, Sem.run_pure, hn, if_false, Bool.false_eq_true, Bool.not_false, if_true, hf, if_pos hle]
      cases base with
      | none => subst hst; rfl
      | some b => simp only [Sem.run_bind', hst, Result.andThen_ok, Sem.run_pure]
    · cases d <;> first | (cases hnd; done) | skip
      all_goals
        simp only [ht, e0, e1, bind, Sem.run_bind', r_under hu, Result.andThen_ok, r_size hi, hz, Sem.run_pure, r_under hd, hn, if_false, Bool.false_eq_true, Bool.not_false, if_true, hf, if_pos hle]
        cases base with
        | none => subst hst; rfl
        | some b => simp only [Sem.run_bind', hst, Result.andThen_ok, Sem.run_pure]
  | zeros hz hux hn hb hzero h0 =>
    rename_i tx k kx z
    have ai : (asInt (.int kx (.ofNat n))).run P w = .ok (Int.ofNat n) w := rfl
    have c1 : ¬ ((n : Int) < 0) := by omega
    have c2 : ¬ ((n : Int) * (i.bytes : Int) > 2 ^ 48) := by
      have e1 : ((n : Int) * (i.bytes : Int)) = ((n * i.bytes : Nat) : Int) := by simp
      have e2 : (2 : Int) ^ 48 = 281474976710656 := by decide
      rw [e1, e2]; omega
    simp only [ht, e0, e1, bind, Sem.run_bind', r_under hu, Result.andThen_ok, r_size hi, hz, Sem.run_pure, r_under hux, if_true, ai, wrap_small hn, if_neg c1, r_info hi, if_neg c2, Int.toNat_natCast, if_pos hle, Bool.not_true, Bool.false_eq_true, if_false, if_neg h0, r_zero hi hzero]
    cases base with
    | none => subst hst; rfl
    | some b => simp only [Sem.run_bind', hst, Result.andThen_ok, Sem.run_pure]

theorem growBy_le (need : Nat) : ∀ (r c : Nat), c ≤ 2 * need + 192 → Builtin.growBy need r c ≤ 2 * need + 192
  | 0, c, h => h
  | r + 1, c, h => by
    unfold Builtin.growBy
    split
    · exact h
    · refine growBy_le need r _ ?_
      omega

theorem nextcap_le {need sc : Nat} (h : sc < need) : Builtin.nextslicecap need sc ≤ 2 * need + 192 := by
  unfold Builtin.nextslicecap
  split
  · omega
  · split
    · omega
    · exact growBy_le need 4 sc (by omega)

/-- The cells of the new block. -/
def newCells (z : Value) (old vs : List Value) (spare : Nat) : Array Value := ⟨old⟩ ++ ⟨vs⟩ ++ Builtin.zeroCells z.cells spare

theorem run_app_new {t e T : TypeId} {i : TypeInfo} {tys : Array TypeId} (ht : tys[0]? = some t) (hu : P.underlying t = some (.slice e)) (hi : P.info? e = some i) {base : Option Addr} {sl sc n : Nat} {x' z : Value} {vs old : List Value}
    (hs : ∀ w1 : World, (∃ k, w1 = { w with drawn := k }) → AppSrc P tys e i w1 x' n vs) (hlt : sc < sl + n) (hb : (2 * (sl + n) + 192) * i.bytes ≤ 281474976710656) (hbig : sl + n < BIG) (hzero : i.zero = some z)
    (hold : ∀ w1 : World, (∃ k, w1 = { w with drawn := k }) → (Builtin.firstCells i.size sl (.slice base sl sc)).run P w1 = .ok ⟨old⟩ w1) :
    ∃ cap w', sl + n ≤ cap ∧ (Builtin.append_ tys T #[.slice base sl sc, x']).run P w = .ok (.slice (some ⟨w.heap.size, 0, none⟩) (sl + n) cap) w' ∧ Grew w w' (.cells (newCells z old vs (cap - (sl + n))) e) := by
  have e0 : (#[.slice base sl sc, x'] : Array Value)[0]? = some (.slice base sl sc) := rfl
  have e1 : (#[.slice base sl sc, x'] : Array Value)[1]? = some x' := rfl
  have hq : (choose (.appendCap (sl + n) sc e)).run P w = .ok ((sl + n) + w.tape w.drawn (.appendCap (sl + n) sc e) % (2 ^ 63 - (sl + n))) { w with drawn := w.drawn + 1 } := by
    rw [run_choose]; rfl
  have hle : sl + n ≤ sl + n + w.tape w.drawn (.appendCap (sl + n) sc e) % (2 ^ 63 - (sl + n)) := Nat.le_add_right _ _
  generalize hcap : sl + n + w.tape w.drawn (.appendCap (sl + n) sc e) % (2 ^ 63 - (sl + n)) = cap at hle hq
  refine ⟨cap, more { w with drawn := w.drawn + 1 } (.cells (newCells z old vs (cap - (sl + n))) e), hle, ?_, ⟨rfl, rfl, rfl, rfl⟩⟩
  have hnle : ¬ (sl + n ≤ sc) := by omega
  have c3 : ¬ (((sl + n : Nat) : Int) > IntKind.i64.max) := by
    have e : IntKind.i64.max = 9223372036854775807 := by decide
    have : BIG = 9223372036854775808 := rfl
    rw [e]; omega
  have c4 : ¬ (Builtin.nextslicecap (sl + n) sc * i.bytes > 2 ^ 48) := by
    have h1 := nextcap_le hlt
    have h2 : Builtin.nextslicecap (sl + n) sc * i.bytes ≤ (2 * (sl + n) + 192) * i.bytes := Nat.mul_le_mul_right _ h1
    have e2 : (2 : Nat) ^ 48 = 281474976710656 := by decide
    rw [e2]; omega
  have h1 := hs w ⟨w.drawn, rfl⟩
  have h2 := hs { w with drawn := w.drawn + 1 } ⟨_, rfl⟩
  have h3 := hold { w with drawn := w.drawn + 1 } ⟨_, rfl⟩
  unfold Builtin.append_
  cases h1 with
  | plain hz hn hf =>
    cases h2 with
    | zeros hz2 hux hn2 hb2 hzero2 h0 => 
      rcases hz with hz | ⟨tx, d, hz, hd, hnd⟩
      · rw [hz] at hz2; cases hz2
      · rw [hz] at hz2; cases hz2; rw [hd] at hux; cases hux; cases hnd
    | plain hz2 hn2 hf2 =>
      rcases hz with hz | ⟨tx, d, hz, hd, hnd⟩
      · simp only [ht, e0, e1, bind, Sem.run_bind', r_under hu, Result.andThen_ok, r_size hi, hz, Sem.run_pure, hn, if_false, Bool.false_eq_true, Bool.not_false, if_true, if_neg hnle, r_info hi, c3, false_and, if_neg c4, hq, run_askRoom, h3, hf2, r_zero hi hzero, newRow, run_newObj]
        rfl
      · cases d <;> first | (cases hnd; done) | skip
        all_goals
         simp only [ht, e0, e1, bind, Sem.run_bind', r_under hu, Result.andThen_ok, r_size hi, hz, Sem.run_pure, r_under hd, hn, if_false, Bool.false_eq_true, Bool.not_false, if_true, if_neg hnle, r_info hi, c3, false_and, if_neg c4, hq, run_askRoom, h3, hf2, r_zero hi hzero, newRow, run_newObj]
         rfl
  | zeros hz hux hn hb2 hzero2 h0 =>
    rename_i tx k kx z2
    rw [hzero] at hzero2; cases hzero2
    have ai : (asInt (.int kx (.ofNat n))).run P w = .ok (Int.ofNat n) w := rfl
    have c1 : ¬ ((n : Int) < 0) := by omega
    have c2 : ¬ ((n : Int) * (i.bytes : Int) > 2 ^ 48) := by
      have e1 : ((n : Int) * (i.bytes : Int)) = ((n * i.bytes : Nat) : Int) := by simp
      have e2 : (2 : Int) ^ 48 = 281474976710656 := by decide
      rw [e1, e2]; omega
    simp only [ht, e0, e1, bind, Sem.run_bind', r_under hu, Result.andThen_ok, r_size hi, hz, Sem.run_pure, r_under hux, if_true, ai, wrap_small hn, if_neg c1, r_info hi, if_neg c2, Int.toNat_natCast, if_neg hnle, c3, false_and, Bool.not_true, Bool.false_eq_true, if_false, if_neg h0, r_zero hi hzero, if_neg c4, hq, run_askRoom, h3, newRow, run_newObj]
    rfl
end Go.Ae

namespace Go.Ae
variable {P : Program} {γ : Gm} {m : Tm} {a : Act} {w w' w0 : World} {pend : Nat → Option AObj} {h : Hp}

/-- What is appended. -/
noncomputable def srcA (P : Program) (h : Hp) (i : TypeInfo) (rest : List TypeId) (x : Value) : Option (Nat × Row) :=
  match rest with
  | [] => match lenA x with
    | some n => match aSeg h x n i.size with | some s => some (n, s) | none => none
    | none => none
  | tx :: _ => match P.underlying tx with
    | some (.int _) => match asN x, i.zero with
      | some n, some z => if constV z && Nat.blt n BIG && Nat.ble (n * i.bytes) 281474976710656 && Nat.blt 0 (n * i.size) && Nat.beq z.cells.size i.size then some (n, Row.rep n z.cells.toList) else none
      | _, _ => none
    | some d => if isSrc d then
        match lenA x with
        | some n => match aSeg h x n i.size with | some s => some (n, s) | none => none
        | none => none
      else none
    | none => none

theorem zeroCells_toList (z : Array Value) (n : Nat) (hz : 0 < z.size) : (Builtin.zeroCells z n).toList = (List.replicate n z.toList).flatten := by
  rw [rep_get _ _ hz]
  simp [Builtin.zeroCells, Array.toList_range]

theorem srcA_sim (hr : HR w0 γ pend h w) {e : TypeId} {i : TypeInfo} {tys : Array TypeId} {t : TypeId} {rest : List TypeId} (ht : tys.toList = t :: rest) {x x' : Value} {n : Nat} {s : Row} (hs : srcA P h i rest x = some (n, s)) (hx : VR γ x x') :
    ∃ vs, (∀ kd : Nat, AppSrc P tys e i { w with drawn := kd } x' n vs) ∧ Seg γ s vs := by
  have hplain : ∀ (hz : tys[1]? = none ∨ ∃ tx d, tys[1]? = some tx ∧ P.underlying tx = some d ∧ isSrc d = true), (match lenA x with
        | some n => match aSeg h x n i.size with | some s => some (n, s) | none => none
        | none => none) = some (n, s) → ∃ vs, (∀ kd : Nat, AppSrc P tys e i { w with drawn := kd } x' n vs) ∧ Seg γ s vs := by
    intro hz hq
    cases hl : lenA x with
    | none => rw [hl] at hq; cases hq
    | some n' =>
      rw [hl] at hq
      dsimp only at hq
      cases hg : aSeg h x n' i.size with
      | none => rw [hg] at hq; cases hq
      | some s' =>
        rw [hg] at hq
        cases hq
        obtain ⟨vs, g1, g2, _⟩ := aSeg_simD (P := P) hr hg hx
        exact ⟨vs, fun kd => .plain hz (lenA_sim hl hx _) (g1 kd), g2⟩
  have h1 : tys[1]? = rest[0]? := by rw [← Array.getElem?_toList, ht]; simp
  unfold srcA at hs
  split at hs
  · exact hplain (.inl (by rw [h1]; rfl)) hs
  · rename_i tx rest'
    have htx : tys[1]? = some tx := by rw [h1]; rfl
    split at hs
    · rename_i k hu
      split at hs
      · rename_i n' z hn hz
        split at hs
        · rename_i hcond
          cases hs
          simp only [Bool.and_eq_true] at hcond
          obtain ⟨⟨⟨⟨hc, c1⟩, c2⟩, c3⟩, c4⟩ := hcond
          obtain ⟨kx, rfl⟩ := asN_vr hn hx
          have c3' : 0 < n * i.size := (blt_iff _ _).1 c3
          have c4' : z.cells.size = i.size := Nat.eq_of_beq_eq_true c4
          have hzp : 0 < z.cells.size := by rw [c4']; exact Nat.pos_of_ne_zero (by rintro e; rw [e] at c3'; simp at c3')
          refine ⟨_, fun kd => .zeros htx hu ((blt_iff _ _).1 c1) (Nat.le_of_ble_eq_true c2) hz (by omega), ?_⟩
          rw [zeroCells_toList _ _ hzp]
          obtain ⟨q1, q2⟩ := Row.rep_spec n z.cells.toList
          refine ⟨by rw [q1]; simp, fun j v hj => ?_⟩
          exact (VRs.rep hc n).get j v (q2 j v hj)
        · cases hs
      · cases hs
    · rename_i d hnot hu
      split at hs
      · rename_i hd
        exact hplain (.inr ⟨tx, _, htx, hu, hd⟩) hs
      · cases hs
    · cases hs

noncomputable def aAppend (P : Program) (h : Hp) (tys : List TypeId) (s x : Value) : Option (Hp × Value) :=
  match tys with
  | [] => none
  | t :: rest =>
    match P.underlying t, s with
    | some (.slice e), .slice base len cap =>
      match P.info? e with
      | some i =>
        match srcA P h i rest x, i.zero with
        | some (n, sg), some z =>
          match n with
          | 0 => ifB (Nat.blt cap BIG) (ifB (Nat.ble len cap) (some (h, .slice base len cap)) none) (some (h, .slice base len cap))
          | n + 1 =>
            let need := Nat.add len (n + 1)
            let k := i.size
            ifB (full sg && Nat.blt need BIG && Nat.ble (Nat.mul (Nat.add (Nat.mul 2 need) 192) i.bytes) 281474976710656 && Nat.beq z.cells.size k && Nat.blt k BIG)
              (match aSeg h s len k with
              | some old =>
                match old.append sg with
                | some row =>
                  ifB (Nat.blt cap BIG)
                    (ifB (Nat.ble need cap)
                      (match base with
                      | some ⟨B, off, none⟩ => match rowAtB h B with
                        | some r => match r.splice (Nat.add off (Nat.mul len k)) sg with
                          | some r' => some ({ h with m := h.m.put B (.row r') }, .slice base need cap)
                          | none => none
                        | none => none
                      | _ => none)
                      (some (⟨Nat.succ h.next, h.m.put h.next (.row row)⟩, .slice (some ⟨h.next, 0, none⟩) need (Nat.add BIG k))))
                    (ifB (Nat.beq cap (Nat.add BIG k)) (ifB (Nat.blt k BIG)
                      (match base with
                      | some ⟨B, _, none⟩ => match rowAtB h B with
                        | some _ => some (⟨Nat.succ h.next, (h.m.put B .dead).put h.next (.row row)⟩, .slice (some ⟨h.next, 0, none⟩) need (Nat.add BIG k))
                        | none => none
                      | _ => none) none) none)
                | none => none
              | none => none) none
        | _, _ => none
      | none => none
    | _, _ => none

/-- The whole row, once its end is written. -/
theorem realloc_row {p : Pl} {row old sg : Row} {ovs vs : List Value} {z : Value} {spare : Nat} (hσ : p.σ = 0) (ho : Seg γ old ovs) (hs : Seg γ sg vs) (ha : old.append sg = some row) (hN : (newCells z ovs vs spare).size = p.N) :
    RowR γ p row (newCells z ovs vs spare) (0, 0) := by
  have hap := ho.append hs ha
  have hl : (newCells z ovs vs spare).toList = (ovs ++ vs) ++ (Builtin.zeroCells z.cells spare).toList := by simp [newCells]
  refine rowR_new hσ hN ?_ ?_ (.inl rfl)
  · rw [← hap.len]
    have e : (newCells z ovs vs spare).size = ((ovs ++ vs) ++ (Builtin.zeroCells z.cells spare).toList).length := by rw [← hl]; simp
    have e2 : ((ovs ++ vs) ++ (Builtin.zeroCells z.cells spare).toList).length = (ovs ++ vs).length + (Builtin.zeroCells z.cells spare).toList.length := List.length_append
    rw [e, e2]; omega
  · intro j v hj
    obtain ⟨v', e1, e2⟩ := hap.cells j v hj
    refine ⟨v', ?_, e2⟩
    have hlt : j < (ovs ++ vs).length := by
      rcases Nat.lt_or_ge j (ovs ++ vs).length with q | q
      · exact q
      · rw [List.getElem?_eq_none q] at e1; cases e1
    rw [← Array.getElem?_toList, hl, List.getElem?_append_left hlt]; exact e1

theorem size_zeroCells (z : Array Value) (n : Nat) : (Builtin.zeroCells z n).size = n * z.size := by simp [Builtin.zeroCells]

/-- A move of a block: it is dead, and another one lies in its place. -/
theorem HR.move (hr : HR w0 γ pend h w) {B : Nat} {o : AObj} {p : Pl} (hB : h.m.get B = some o) (hd : o ≠ .dead) (hp : γ B = some p) {o' : AObj} {q : Pl} {ob : Obj} (hq : q.b = p.b)
    (hc : Chg w w' p.b ob) (ho : OR (γ.upd h.next q) q o' ob) : HR w0 (γ.upd h.next q) pend ⟨h.next + 1, (h.m.put B .dead).put h.next o'⟩ w' := by
  have hn : γ h.next = none := hr.fresh_none (Nat.le_refl _)
  have hBn : B < h.next := (hr.dom B p hp).1
  have hγ : ∀ x y, γ.upd h.next q x = some y → (x = h.next ∧ y = q) ∨ (x ≠ h.next ∧ γ x = some y) := by
    intro x y hx
    by_cases e : x = h.next
    · subst e; rw [Gm.upd_same] at hx; exact .inl ⟨rfl, (Option.some.inj hx).symm⟩
    · rw [Gm.upd_other _ _ _ e] at hx; exact .inr ⟨e, hx⟩
  have hg : ∀ x u, ((h.m.put B .dead).put h.next o').get x = some u → u ≠ .dead → x ≠ h.next → x ≠ B ∧ h.m.get x = some u := by
    intro x u hx hu hne
    rw [Tr.get_put_other _ _ _ _ hne, Tr.get_put] at hx
    split at hx
    · cases hx; exact absurd rfl hu
    · rename_i e; exact ⟨e, hx⟩
  refine ⟨⟨hc.os.trans hr.fr0.os, hc.tape.trans hr.fr0.tape, hc.output.trans hr.fr0.output, by rw [hc.size]; exact hr.fr0.size, fun k hk => ?_⟩, ?_, ?_, ?_, ?_, ?_, fun x o2 hx => ?_⟩
  · have := (hr.dom B p hp).2.1
    rw [hc.else_ k (by omega)]; exact hr.fr0.block k hk
  · intro x y hx
    rcases hγ x y hx with ⟨rfl, rfl⟩ | ⟨_, hx⟩
    · have := hr.dom B p hp; rw [hc.size, hq]; exact ⟨Nat.lt_succ_self _, this.2⟩
    · have := hr.dom x y hx; rw [hc.size]; exact ⟨Nat.lt_succ_of_lt this.1, this.2⟩
  · intro x y q1 q2 u u' hx hy hu hu' hq1 hq2 e
    rcases hγ x q1 hq1 with ⟨e1, e2⟩ | ⟨e1, hq1'⟩ <;> rcases hγ y q2 hq2 with ⟨e3, e4⟩ | ⟨e3, hq2'⟩
    · exact e1.trans e3.symm
    · exfalso
      obtain ⟨g1, g2⟩ := hg y u' hy hu' e3
      subst e2
      exact g1 (hr.inj _ _ _ _ _ _ hB g2 hd hu' hp hq2' (by omega)).symm
    · exfalso
      obtain ⟨g1, g2⟩ := hg x u hx hu e1
      subst e4
      exact g1 (hr.inj _ _ _ _ _ _ hB g2 hd hu hp hq1' (by omega)).symm
    · exact hr.inj _ _ _ _ _ _ (hg x u hx hu e1).2 (hg y u' hy hu' e3).2 hu hu' hq1' hq2' e
  · intro x u y hx hu hy
    rcases hγ x y hy with ⟨rfl, rfl⟩ | ⟨e1, hy'⟩
    · have hx' : ((h.m.put B .dead).put h.next o').get h.next = some u := hx
      rw [Tr.get_put_same] at hx'; cases hx'
      exact ⟨ob, by rw [hq]; exact hc.at_, ho⟩
    · obtain ⟨g1, g2⟩ := hg x u hx hu e1
      obtain ⟨ob', k1, k2⟩ := hr.obj x u y g2 hu hy'
      refine ⟨ob', ?_, k2.mono (Gm.le_upd q hn)⟩
      rw [hc.else_ _ (fun e => g1 (hr.inj _ _ _ _ _ _ g2 hB hu hd hy' hp e))]; exact k1
  · intro x hx
    have hx' : h.next + 1 ≤ x := hx
    show ((h.m.put B .dead).put h.next o').get x = none
    rw [Tr.get_put_other _ _ _ _ (by omega), Tr.get_put_other _ _ _ _ (by omega)]; exact hr.fresh x (by omega)
  · intro x hx hγx
    have hx' : x < h.next + 1 := hx
    have hne : x ≠ h.next := by rintro rfl; rw [Gm.upd_same] at hγx; cases hγx
    rw [Gm.upd_other _ _ _ hne] at hγx
    show ((h.m.put B .dead).put h.next o').get x = pend x
    rw [Tr.get_put_other _ _ _ _ hne, Tr.get_put_other _ _ _ _ (by rintro rfl; rw [hp] at hγx; cases hγx)]; exact hr.pend x (by omega) hγx
  · have hk := hr.keep x o2 hx
    exact ⟨Nat.lt_succ_of_lt hk.1, by rw [Gm.upd_other _ _ _ (by omega)]; exact hk.2⟩

theorem HR.pendEq (hr : HR w0 γ pend h w) {pend' : Nat → Option AObj} (he : ∀ B, B < h.next → γ B = none → pend' B = pend B) (hk : ∀ B o, pend' B = some o → B < h.next ∧ γ B = none) : HR w0 γ pend' h w :=
  ⟨hr.fr0, hr.dom, hr.inj, hr.obj, hr.fresh, fun B h1 h2 => (hr.pend B h1 h2).trans (he B h1 h2).symm, hk⟩

/-- A new block, there at once. -/
theorem HR.alloc (hr : HR w0 γ pend h w) {o : AObj} {p : Pl} {ob : Obj} (hp : p.b = w.heap.size) (hg : Grew w w' ob) (ho : OR (γ.upd h.next p) p o ob) :
    HR w0 (γ.upd h.next p) pend ⟨h.next + 1, h.m.put h.next o⟩ w' := by
  have hn : γ h.next = none := hr.fresh_none (Nat.le_refl _)
  have h1 := (hr.new o).realize (B := h.next) (p := p) (ob := ob) (Tr.get_put_same _ _ _) (Nat.lt_succ_self _) hn hp hg ho
  refine h1.pendEq (fun B _ hB => ?_) (fun B o2 hB => ?_)
  · have : B ≠ h.next := by rintro rfl; rw [Gm.upd_same] at hB; cases hB
    unfold pendDel pendPut; rw [if_neg this, if_neg this]
  · have hk := hr.keep B o2 hB
    exact ⟨Nat.lt_succ_of_lt hk.1, by rw [Gm.upd_other _ _ _ (by omega)]; exact hk.2⟩

theorem aSeg_get {B off len len2 cap k j : Nat} {old r : Row} {v : Value} (hold : aSeg h (.slice (some ⟨B, off, none⟩) len2 cap) len k = some old) (hrB : rowAtB h B = some r) (hj : old.get j = some v) (hlt : j < len * k) : r.get (off + j) = some v := by
  cases len with
  | zero => rw [Nat.zero_mul] at hlt; omega
  | succ l =>
    have h2 : ifB (Nat.ble (l + 1) len2) (match rowAtB h B with | some r => r.slice off (Nat.mul (l + 1) k) | none => none) none = some old := hold
    rw [ifB_le, hrB] at h2
    split at h2
    · exact ((Row.slice_spec h2).2.2 j v hj).2
    · cases h2

/-- A block that nobody asks of any more. -/
theorem HR.kill (hr : HR w0 γ pend h w) {B : Nat} {p : Pl} (hp : γ B = some p) : HR w0 γ pend ⟨h.next, h.m.put B .dead⟩ w := by
  have hBn : B < h.next := (hr.dom B p hp).1
  have hg : ∀ x u, (h.m.put B .dead).get x = some u → u ≠ .dead → h.m.get x = some u := by
    intro x u hx hu
    rw [Tr.get_put] at hx
    split at hx
    · cases hx; exact absurd rfl hu
    · exact hx
  refine ⟨hr.fr0, hr.dom, ?_, ?_, ?_, ?_, hr.keep⟩
  · intro x y q q' u u' hx hy hu hu' hq hq' e
    exact hr.inj _ _ _ _ _ _ (hg _ _ hx hu) (hg _ _ hy hu') hu hu' hq hq' e
  · intro x u q hx hu hq; exact hr.obj x u q (hg _ _ hx hu) hu hq
  · intro x hx
    have hx' : h.next ≤ x := hx
    show (h.m.put B .dead).get x = none
    rw [Tr.get_put_other _ _ _ _ (by omega)]; exact hr.fresh x hx'
  · intro x hx hγ
    show (h.m.put B .dead).get x = pend x
    rw [Tr.get_put_other _ _ _ _ (by rintro rfl; rw [hp] at hγ; cases hγ)]; exact hr.pend x hx hγ

theorem aAppend_sim (hr : HR w0 γ pend h w) {tys : Array TypeId} {T : TypeId} {s s' x x' v : Value} {h' : Hp} (hc : aAppend P h tys.toList s x = some (h', v)) (hs : VR γ s s') (hx : VR γ x x') :
    ∃ γ' w' v', γ.le γ' ∧ (Builtin.append_ tys T #[s', x']).run P w = .ok v' w' ∧ HR w0 γ' pend h' w' ∧ VR γ' v v' := by
  have hBG : BIG = 9223372036854775808 := rfl
  have hBE : BIGE = 18446744073709551616 := rfl
  unfold aAppend at hc
  split at hc
  case h_1 => cases hc
  rename_i t rest htys
  have ht : tys[0]? = some t := by rw [← Array.getElem?_toList, htys]; rfl
  split at hc
  case h_2 => cases hc
  rename_i e base len cap hu
  split at hc
  case h_2 => cases hc
  rename_i i hi
  split at hc
  case h_2 => cases hc
  rename_i n sg z hsrc hz
  obtain ⟨vs, hA, hS⟩ := srcA_sim (P := P) (e := e) hr htys hsrc hx
  split at hc
  · -- nothing is appended
    have hvs : (∀ (b : Addr), (storeCells b vs).run P w = .ok () w) ∨ True := .inr trivial
    have h0 := hA w.drawn
    have hw : ({ w with drawn := w.drawn } : World) = w := rfl
    rw [hw] at h0
    have hnil : vs = [] := by
      cases h0 with
      | plain q1 q2 q3 =>
        have : sg.size = 0 := by
          unfold srcA at hsrc
          have fin : ∀ {y : Option (Nat × Row)}, y = (match lenA x with
              | some n => match aSeg h x n i.size with | some s => some (n, s) | none => none
              | none => none) → y = some (0, sg) → sg.size = 0 := by
            intro y hy hy2
            rw [hy] at hy2
            cases hl : lenA x with
            | none => rw [hl] at hy2; cases hy2
            | some n' =>
              rw [hl] at hy2
              dsimp only at hy2
              cases hg : aSeg h x n' i.size with
              | none => rw [hg] at hy2; cases hy2
              | some s2 =>
                rw [hg] at hy2; cases hy2
                rw [aSeg_zero (h := h) hl] at hg
                cases hg; rfl
          split at hsrc
          · exact fin rfl hsrc
          · split at hsrc
            · split at hsrc
              · split at hsrc
                · rename_i hcond; cases hsrc; simp at hcond
                · cases hsrc
              · cases hsrc
            · split at hsrc
              · exact fin rfl hsrc
              · cases hsrc
            · cases hsrc
        exact List.eq_nil_of_length_eq_zero (by rw [hS.len]; exact this)
      | zeros q1 q2 q3 q4 q5 q6 => exact absurd (Nat.zero_mul _) q6
    subst hnil
    have key : ∀ {b : Option Addr} {l c : Nat}, l ≤ c → (Builtin.append_ tys T #[.slice b l c, x']).run P w = .ok (.slice b l c) w := by
      intro b l c hle
      have := run_app_in (P := P) (T := T) (w := w) (w' := w) ht hu hi (base := b) (sl := l) (sc := c) h0 (by simpa using hle) (by cases b <;> rfl)
      simpa using this
    have hv : v = .slice base len cap ∧ h' = h ∧ (cap < BIG → len ≤ cap) := by
      rw [ifB_lt] at hc
      split at hc
      · rename_i hlt
        rw [ifB_le] at hc
        split at hc
        · rename_i hle; cases hc; exact ⟨rfl, rfl, fun _ => hle⟩
        · cases hc
      · rename_i hlt; cases hc; exact ⟨rfl, rfl, fun q => absurd q hlt⟩
    obtain ⟨rfl, rfl, hle⟩ := hv
    refine ⟨γ, w, s', Gm.le_refl _, ?_, hr, hs⟩
    cases hs with
    | sliceNil => exact key (Nat.le_refl _)
    | slice hB hcc => exact key (hle hcc)
    | sliceU hB hk hl hN => exact key hl
    | sliceE a' c' => exact key (Nat.zero_le _)
  · rename_i n
    dsimp only at hc
    rw [ifB_eq] at hc
    split at hc
    case isFalse => cases hc
    rename_i hcond
    simp only [Bool.and_eq_true] at hcond
    obtain ⟨⟨⟨⟨hfull, c1⟩, c2⟩, c3⟩, c4⟩ := hcond
    have hk : i.size < BIG := (blt_iff _ _).1 c4
    have c1' : len + (n + 1) < BIG := (blt_iff _ _).1 c1
    have c2' : (2 * (len + (n + 1)) + 192) * i.bytes ≤ 281474976710656 := Nat.le_of_ble_eq_true c2
    have c3' : z.cells.size = i.size := Nat.eq_of_beq_eq_true c3
    split at hc
    case h_2 => cases hc
    rename_i old hold
    split at hc
    case h_2 => cases hc
    rename_i row hrow
    obtain ⟨ovs, ho1, ho2, ho3⟩ := aSeg_simD (P := P) hr hold hs
    have hw0 : AppSrc P tys e i w x' (n + 1) vs := hA w.drawn
    have hone := full_cells hfull hS.len hS.cells
    have evl : vs.length = (n + 1) * i.size := by
      cases hw0 with
      | plain q1 q2 q3 =>
        -- the cells of n + 1 elements
        unfold srcA at hsrc
        have fin : ∀ {y : Option (Nat × Row)}, y = (match lenA x with
            | some n => match aSeg h x n i.size with | some s => some (n, s) | none => none
            | none => none) → y = some (n + 1, sg) → vs.length = (n + 1) * i.size := by
          intro y hy hy2
          rw [hy] at hy2
          cases hl : lenA x with
          | none => rw [hl] at hy2; cases hy2
          | some n' =>
            rw [hl] at hy2
            dsimp only at hy2
            cases hg : aSeg h x n' i.size with
            | none => rw [hg] at hy2; cases hy2
            | some s2 =>
              rw [hg] at hy2; cases hy2
              obtain ⟨us, g1, g2, g3⟩ := aSeg_sim (P := P) hr hg hx
              rw [hS.len, ← g2.len]
              rcases g3 with g3 | g3
              · cases g3
              · exact g3
        split at hsrc
        · exact fin rfl hsrc
        · split at hsrc
          · split at hsrc
            · split at hsrc
              · cases hsrc; rw [hS.len, (Row.rep_spec _ _).1]; simp [c3', hz] at *; first | rfl | (rename_i hz2 _; simp_all)
              · cases hsrc
            · cases hsrc
          · split at hsrc
            · exact fin rfl hsrc
            · cases hsrc
          · cases hsrc
      | zeros q1 q2 q3 q4 q5 q6 =>
        rw [hz] at q5; cases q5
        simp [size_zeroCells, c3']
    have eol : ovs.length = len * i.size := by
      rcases ho3 with q | q
      · subst q
        have := aSeg_zero (h := h) (x := .slice base 0 cap) (n := 0) rfl i.size
        rw [this] at hold; cases hold
        rw [ho2.len]; simp [Row.size]
      · exact q
    have realloc : ∀ {b : Option Addr} {c : Nat} (m2 : Tr AObj), HR w0 γ pend ⟨h.next, m2⟩ w → s' = .slice b len c → c < len + (n + 1) → ∃ cap2 w', len + (n + 1) ≤ cap2 ∧ (Builtin.append_ tys T #[.slice b len c, x']).run P w = .ok (.slice (some ⟨w.heap.size, 0, none⟩) (len + (n + 1)) cap2) w' ∧
        HR w0 (γ.upd h.next ⟨w.heap.size, 0, cap2 * i.size⟩) pend ⟨h.next + 1, m2.put h.next (.row row)⟩ w' := by
      intro b c m2 hr2 he hlt
      subst he
      obtain ⟨cap2, w', g1, g2, g3⟩ := run_app_new (P := P) (T := T) (w := w) ht hu hi (base := b) (sc := c) (sl := len) (n := n + 1) (x' := x') (vs := vs) (old := ovs) (z := z)
        (by rintro w1 ⟨k, rfl⟩; exact hA k) hlt c2' c1' hz (by rintro w1 ⟨k, rfl⟩; exact ho1 k)
      refine ⟨cap2, w', g1, g2, hr2.alloc rfl g3 ?_⟩
      have hle := Gm.le_upd (B := h.next) (⟨w.heap.size, 0, cap2 * i.size⟩ : Pl) (hr.fresh_none (Nat.le_refl _))
      refine .row (realloc_row rfl (ho2.mono hle) (hS.mono hle) hrow ?_)
      simp only [newCells, Array.size_append, size_zeroCells, c3']
      show ovs.length + vs.length + (cap2 - (len + (n + 1))) * i.size = cap2 * i.size
      rw [eol, evl, ← Nat.add_mul, ← Nat.add_mul]; congr 1; omega
    have hnewptr : ∀ (c2 : Nat), len + (n + 1) ≤ c2 → i.size < BIG → VR (γ.upd h.next ⟨w.heap.size, 0, c2 * i.size⟩) (.slice (some ⟨h.next, 0, none⟩) (len + (n + 1)) (BIG + i.size)) (.slice (some ⟨w.heap.size, 0, none⟩) (len + (n + 1)) c2) := by
      intro c2 hc2 hk
      exact VR.sliceU (off := 0) (Gm.upd_same _ _ _) hk hc2 (by simp)
    rw [ifB_lt] at hc
    split at hc
    · rename_i hcap
      rw [ifB_le] at hc
      split at hc
      · -- in place, the capacity known
        rename_i hle
        split at hc
        case h_2 => cases hc
        rename_i B off
        split at hc
        case h_2 => cases hc
        rename_i r hrB
        split at hc
        case h_2 => cases hc
        rename_i r' hsp
        cases hc
        cases hs with
        | slice hB hcc =>
          rename_i p
          obtain ⟨w', e1, e2⟩ := store_row (P := P) hr hB hrB hsp hS.len hS.cells hone
          refine ⟨γ, w', _, Gm.le_refl _, run_app_in (P := P) (T := T) ht hu hi (base := some ⟨p.b, off + p.σ, none⟩) hw0 hle ?_, e2, .slice hB hcc⟩
          show (storeCells ((⟨p.b, off + p.σ, none⟩ : Addr).add (len * i.size)) vs).run P w = _
          rw [add_none, show off + p.σ + len * i.size = (off.add (len.mul i.size)) + p.σ by have : off.add (len.mul i.size) = off + len * i.size := rfl; omega]
          exact e1
        | sliceU hB hkk hl hN => omega
        | sliceE a' c' => omega
      · rename_i hle
        cases hc
        cases hs with
        | sliceNil =>
          obtain ⟨c2, w', g1, g2, g3⟩ := realloc h.m hr rfl (by simp at hle; omega)
          exact ⟨_, w', _, Gm.le_upd _ (hr.fresh_none (Nat.le_refl _)), g2, g3, hnewptr c2 g1 hk⟩
        | slice hB hcc =>
          obtain ⟨c2, w', g1, g2, g3⟩ := realloc h.m hr rfl (by have : len.add (n + 1) = len + (n + 1) := rfl; omega)
          exact ⟨_, w', _, Gm.le_upd _ (hr.fresh_none (Nat.le_refl _)), g2, g3, hnewptr c2 g1 hk⟩
        | sliceU hB hkk hl hN => omega
        | sliceE a' c' => omega
    · rename_i hcap
      rw [ifB_beq] at hc
      split at hc
      case isFalse => cases hc
      rename_i hck
      rw [ifB_lt, if_pos hk] at hc
      split at hc
      case h_2 => cases hc
      rename_i B off
      split at hc
      case h_2 => cases hc
      rename_i r hrB
      cases hc
      cases hs with
      | slice hB hcc => omega
      | sliceE a' c' => simp at hck; omega
      | sliceU hB hkk hl hN =>
        rename_i k2 cap' p
        have hk2 : k2 = i.size := by have : BIG.add i.size = BIG + i.size := rfl; omega
        subst hk2
        by_cases hroom : len + (n + 1) ≤ cap'
        · -- in place: the block is moved
          obtain ⟨c, ty, fr, hcw, hR⟩ := hr.row hrB hB
          obtain ⟨q1, q2⟩ := Row.append_spec hrow
          have hmul : (len + (n + 1)) * i.size ≤ cap' * i.size := Nat.mul_le_mul_right _ hroom
          have hsum : (len + (n + 1)) * i.size = len * i.size + (n + 1) * i.size := Nat.add_mul _ _ _
          have hcs := hR.size
          obtain ⟨w', c', e1, e2, e3, e4⟩ := run_storeCells (P := P) (o := off + p.σ + len * i.size) vs 0 w c hcw (by rw [evl]; omega) hR.open_ hone
          let q : Pl := ⟨p.b, off + p.σ, p.N⟩
          have hn : γ h.next = none := hr.fresh_none (Nat.le_refl _)
          have hle : γ.le (γ.upd h.next q) := Gm.le_upd q hn
          have hrow2 : RowR (γ.upd h.next q) q row c' fr := by
            refine ⟨e3.trans hcs, ?_, fun j v hj => ?_, hR.op.imp id fun e => by omega⟩
            · show row.size + (off + p.σ) ≤ p.N
              rw [q1, ← ho2.len, ← hS.len, eol, evl]; omega
            · show ∃ v', c'[j + (off + p.σ)]? = some v' ∧ _
              rcases q2 j v hj with ⟨a1, a2⟩ | ⟨a1, a3, a2⟩
              · rw [← ho2.len, eol] at a1
                have hget : r.get (off + j) = some v := aSeg_get hold hrB a2 a1
                obtain ⟨v', f1, f2⟩ := hR.cells _ v hget
                refine ⟨v', ?_, f2.mono hle⟩
                rw [e4, if_neg (by omega), ← f1]; congr 1; omega
              · obtain ⟨v', f1, f2⟩ := hS.cells _ v a2
                refine ⟨v', ?_, f2.mono hle⟩
                rw [← ho2.len, eol] at a1
                rw [← ho2.len, ← hS.len, eol] at a3
                rw [← ho2.len, eol] at f1
                rw [e4, if_pos (by omega)]
                rw [← f1]; congr 1; omega
          refine ⟨γ.upd h.next q, w', .slice (some ⟨p.b, off + p.σ, none⟩) (len + (n + 1)) cap', hle, run_app_in (P := P) (T := T) ht hu hi (base := some ⟨p.b, off + p.σ, none⟩) hw0 hroom ?_, ?_, ?_⟩
          · show (storeCells ((⟨p.b, off + p.σ, none⟩ : Addr).add (len * i.size)) vs).run P w = _
            rw [add_none]; exact e1
          · exact hr.move (getB_row hrB) (by intro e; cases e) hB (q := q) rfl e2 (.row hrow2)
          · have := VR.sliceU (γ := γ.upd h.next q) (off := 0) (B := h.next) (len := len + (n + 1)) (k := i.size) (cap := cap') (Gm.upd_same _ _ _) hk hroom (by show 0 + (off + p.σ) + cap' * i.size ≤ p.N; omega)
            simpa [q] using this
        · -- in a new block: the old one is dead
          obtain ⟨c2, w', g1, g2, g3⟩ := realloc (h.m.put B .dead) (hr.kill hB) rfl (by omega)
          exact ⟨_, w', _, Gm.le_upd _ (hr.fresh_none (Nat.le_refl _)), g2, g3, hnewptr c2 g1 hk⟩
end Go.Ae

namespace Go.Ae
variable {P : Program} {γ : Gm} {m : Tm} {a : Act} {w w0 : World} {pend : Nat → Option AObj} {h : Hp}

noncomputable def aClear (P : Program) (h : Hp) (t : TypeId) (d : Value) : Option Hp :=
  match P.underlying t, d with
  | some (.slice e), .slice (some ⟨B, off, none⟩) n _ =>
    match n with
    | 0 => some h
    | n + 1 =>
      match P.info? e with
      | some i => match i.zero with
        | some z =>
          if constV z && Nat.blt 0 z.cells.size then
            match rowAtB h B with
            | some r => ifB (full (Row.rep (n + 1) z.cells.toList)) (match r.splice off (Row.rep (n + 1) z.cells.toList) with
              | some r' => some { h with m := h.m.put B (.row r') }
              | none => none) none
            | none => none
          else none
        | none => none
      | none => none
  | some (.slice _), .slice none 0 0 => some h
  | _, _ => none

theorem aClear_sim (hr : HR w0 γ pend h w) {t T : TypeId} {tys : Array TypeId} (ht : tys[0]? = some t) {d d' : Value} {h' : Hp} (hc : aClear P h t d = some h') (hd : VR γ d d') :
    ∃ w', (Builtin.clear_ tys T #[d']).run P w = .ok (.tuple #[]) w' ∧ HR w0 γ pend h' w' := by
  have e0 : ∀ x : Value, (#[x] : Array Value)[0]? = some x := fun _ => rfl
  unfold aClear at hc
  split at hc
  · rename_i e B off n cp hu
    split at hc
    · cases hc
      refine ⟨w, ?_, hr⟩
      cases hd <;>
        (unfold Builtin.clear_
         simp only [ht, e0, bind, Sem.run_bind', r_under hu, Result.andThen_ok, Sem.run_pure])
    · rename_i n
      split at hc
      case h_2 => cases hc
      rename_i i hi
      split at hc
      case h_2 => cases hc
      rename_i z hz
      split at hc
      case isFalse => cases hc
      rename_i hcz
      simp only [Bool.and_eq_true] at hcz
      have hzp : 0 < z.cells.size := (blt_iff _ _).1 hcz.2
      split at hc
      case h_2 => cases hc
      rename_i r hrow
      rw [ifB_eq] at hc
      split at hc
      case isFalse => cases hc
      rename_i hf
      split at hc
      case h_2 => cases hc
      rename_i r' hsp
      cases hc
      obtain ⟨q1, q2⟩ := Row.rep_spec (n + 1) z.cells.toList
      have hlen : (Builtin.zeroCells z.cells (n + 1)).toList.length = (Row.rep (n + 1) z.cells.toList).size := by
        rw [zeroCells_toList _ _ hzp, q1]; simp
      have hcells : ∀ j v, (Row.rep (n + 1) z.cells.toList).get j = some v → ∃ v', (Builtin.zeroCells z.cells (n + 1)).toList[j]? = some v' ∧ VR γ v v' := by
        intro j v hj
        rw [zeroCells_toList _ _ hzp]
        exact (VRs.rep hcz.1 (n + 1)).get j v (q2 j v hj)
      have key : ∀ (p : Pl) (c : Nat), γ B = some p → ∃ w', (Builtin.clear_ tys T #[.slice (some ⟨p.b, off + p.σ, none⟩) (n + 1) c]).run P w = .ok (.tuple #[]) w' ∧ HR w0 γ pend { h with m := h.m.put B (.row r') } w' := by
        intro p c hB
        obtain ⟨w', e1, e2⟩ := store_row (P := P) hr hB hrow hsp hlen hcells (full_cells hf hlen hcells)
        refine ⟨w', ?_, e2⟩
        unfold Builtin.clear_
        simp only [ht, e0, bind, Sem.run_bind', r_under hu, Result.andThen_ok, r_zero hi hz, e1, Sem.run_pure]
      cases hd with
      | slice hB hcc => exact key _ _ hB
      | sliceU hB hkk hl hN => exact key _ _ hB
  · rename_i e hu
    cases hc
    cases hd
    refine ⟨w, ?_, hr⟩
    unfold Builtin.clear_
    simp only [ht, e0, bind, Sem.run_bind', r_under hu, Result.andThen_ok, Sem.run_pure]
  · cases hc
end Go.Ae

namespace Go.Ae
variable {P : Program} {γ : Gm} {m : Tm} {a : Act} {w w' w0 : World} {pend : Nat → Option AObj} {h : Hp}

theorem run_getObj {b : Nat} {o : Obj} (hb : w.heap[b]? = some o) (hn : ∀ c t f, o ≠ .cells c t f) : (getObj b).run P w = .ok o w := by
  simp only [getObj, Sem.run, hb]
  all_goals (cases o <;> first | rfl | exact absurd rfl (hn _ _ _))

theorem run_setObj {b : Nat} {o o' : Obj} (hb : w.heap[b]? = some o) (hn : ∀ c t f, o ≠ .cells c t f) : ∃ w', (setObj b o').run P w = .ok () w' ∧ Chg w w' b o' := by
  have hlt : b < w.heap.size := by
    rcases Nat.lt_or_ge b w.heap.size with q | q
    · exact q
    · rw [Array.getElem?_eq_none q] at hb; cases hb
  refine ⟨{ w with heap := w.heap.setIfInBounds b o' }, ?_, ⟨by simp, ?_, fun k hk => ?_, rfl, rfl, rfl⟩⟩
  · simp only [setObj, Sem.run, hb]
    all_goals (cases o <;> first | rfl | exact absurd rfl (hn _ _ _))
  · show (w.heap.setIfInBounds b o')[b]? = _
    rw [Array.getElem?_setIfInBounds, if_pos rfl, if_pos hlt]
  · show (w.heap.setIfInBounds b o')[k]? = _
    rw [Array.getElem?_setIfInBounds, if_neg (fun e => hk e.symm)]

theorem getB_map {B : Nat} {es : List MapEntry} {c : Nat} (h' : mapAtB h B = some (es, c)) : h.m.get B = some (.map es c) := by
  unfold mapAtB at h'
  split at h'
  · rename_i hg; cases h'; exact hg
  · cases h'

theorem ER.modify {f f' : MapEntry → MapEntry} (hf : ∀ e e', VR γ e.key e'.key → VR γ e.val e'.val → e.born = e'.born → VR γ (f e).key (f' e').key ∧ VR γ (f e).val (f' e').val ∧ (f e).born = (f' e').born) :
    ∀ {l l' : List MapEntry}, ER γ l l' → ∀ i, ER γ (l.modify i f) (l'.modify i f')
  | _, _, .nil, i => by cases i <;> exact .nil
  | _, _, .cons hk hv hb hl, 0 => by
    obtain ⟨q1, q2, q3⟩ := hf _ _ hk hv hb
    simp only [List.modify_zero_cons]
    exact .cons q1 q2 q3 hl
  | _, _, .cons hk hv hb hl, i + 1 => by
    simp only [List.modify_succ_cons]
    exact .cons hk hv hb (hl.modify hf i)
theorem ER.append : ∀ {l l' k k' : List MapEntry}, ER γ l l' → ER γ k k' → ER γ (l ++ k) (l' ++ k')
  | _, _, _, _, .nil, h => h
  | _, _, _, _, .cons hk hv hb hl, h => .cons hk hv hb (hl.append h)
theorem ER.eraseIdx : ∀ {l l' : List MapEntry}, ER γ l l' → ∀ i, ER γ (l.eraseIdx i) (l'.eraseIdx i)
  | _, _, .nil, i => by cases i <;> exact .nil
  | _, _, .cons _ _ _ hl, 0 => hl
  | _, _, .cons hk hv hb hl, i + 1 => .cons hk hv hb (hl.eraseIdx i)

theorem ba_eq {a b : ByteArray} (h : (a == b) = true) : a = b := by
  cases a with
  | mk x => cases b with
    | mk y =>
      have : (x == y) = true := h
      rw [eq_of_beq this]

/-- A found key is the very key that was asked for. -/
theorem found_same {d : TypeDesc} {k : Value} : ∀ {es : List MapEntry} {i j : Nat} {v : Value}, Instr.findNow d k es i = some (some (j, v)) → i ≤ j ∧ ∃ e, es[j - i]? = some e ∧ Instr.sameBits 10000 e.key k = true
  | [], i, j, v, h => by cases h
  | e :: es, i, j, v, h => by
    unfold Instr.findNow at h
    cases hs : Instr.sameNow d k e.key with
    | none => rw [hs] at h; cases h
    | some b =>
      rw [hs] at h
      cases b with
      | true =>
        cases h
        refine ⟨Nat.le_refl _, e, by simp, ?_⟩
        unfold Instr.sameNow at hs
        split at hs <;> (try (cases hs; done))
        · rename_i k1 a1 k2 b1 heq
          split at hs
          · rename_i hk
            subst hk
            have : a1 = b1 := by simpa using hs
            subst this
            rw [heq]; simp [Instr.sameBits]
          · cases hs
        · rename_i a1 b1 heq
          have : a1 = b1 := ba_eq (by simpa using hs)
          subst this
          rw [heq]; simpa [Instr.sameBits] using hs
        · rename_i a1 b1 heq
          have : a1 = b1 := by simpa using hs
          subst this
          rw [heq]; simp [Instr.sameBits]
      | false =>
        obtain ⟨q1, e', q2, q3⟩ := found_same h
        refine ⟨by omega, e', ?_, q3⟩
        have : j - i = (j - (i + 1)) + 1 := by omega
        rw [this, List.getElem?_cons_succ]; exact q2

noncomputable def aMapPut (P : Program) (h : Hp) (t : TypeId) (x k v : Value) : Option Hp :=
  match P.underlying t, x with
  | some (.map kt _), .map (some B) =>
    match P.underlying kt, mapAtB h B with
    | some d, some (es, clock) =>
      if keyD d then
        match Instr.findNow d k es 0 with
        | some (some (i, _)) => some { h with m := h.m.put B (.map (es.modify i fun e => { e with key := k, val := v }) clock) }
        | some none => some { h with m := h.m.put B (.map (es ++ [{ key := k, val := v, born := clock }]) (clock + 1)) }
        | none => none
      else none
    | _, _ => none
  | _, _ => none

theorem aMapPut_sim (hr : HR w0 γ pend h w) {t : TypeId} {x x' k k' v v' : Value} {h' : Hp} (hs : aMapPut P h t x k v = some h') (hx : VR γ x x') (hk : VR γ k k') (hv : VR γ v v') :
    ∃ w', (Instr.mapUpdate t x' k' v').run P w = .ok () w' ∧ HR w0 γ pend h' w' := by
  unfold aMapPut at hs
  split at hs
  case h_2 => cases hs
  rename_i kt et B hu
  cases hx with
  | map hB =>
    rename_i p
    split at hs
    case h_2 => cases hs
    rename_i d es clock hkt hm
    split at hs
    case isFalse => cases hs
    rename_i hd
    obtain ⟨es', h1, h2⟩ := hr.map hm hB
    have hnc : ∀ c t f, (Obj.map es' clock) ≠ .cells c t f := by intro c t f e; cases e
    have hg := run_getObj (P := P) h1 hnc
    cases hf : Instr.findNow d k es 0 with
    | none => rw [hf] at hs; cases hs
    | some r =>
      rw [hf] at hs
      obtain ⟨r', hf', hrel⟩ := findNow_vr hk h2 0 r hf
      have hfk := run_findKey (P := P) (t := kt) hkt hf' w
      cases r with
      | none =>
        cases r' with
        | some y => exact hrel.elim
        | none =>
          cases hs
          obtain ⟨w', e1, e2⟩ := run_setObj (P := P) (o' := .map (es'.push { key := k', val := v', born := clock }) (clock + 1)) h1 hnc
          refine ⟨w', ?_, hr.change (getB_map hm) (by intro e; cases e) hB e2 (.map ?_)⟩
          · simp only [Instr.mapUpdate, bind, Sem.run_bind', r_under hu, Result.andThen_ok, hg, run_checkKey hkt hd, hfk]
            exact e1
          · rw [Array.toList_push]; exact h2.append (.cons hk hv rfl .nil)
      | some y =>
        obtain ⟨j, u⟩ := y
        cases r' with
        | none => exact hrel.elim
        | some y' =>
          obtain ⟨j', u'⟩ := y'
          have hj : j = j' := hrel.1
          subst hj
          cases hs
          obtain ⟨_, e', q2, q3⟩ := found_same hf'
          have q2' : es'[j]? = some e' := by rw [← Array.getElem?_toList]; simpa using q2
          have hstay : (Instr.keyThatStays (((es'[j]?).map (·.key)).getD k') k').run P w = .ok k' w := by
            rw [q2']; simp only [Option.map_some, Option.getD_some, Instr.keyThatStays, q3, if_true]; rfl
          obtain ⟨w', e1, e2⟩ := run_setObj (P := P) (o' := .map (es'.modify j fun e => { e with key := k', val := v' }) clock) h1 hnc
          refine ⟨w', ?_, hr.change (getB_map hm) (by intro e; cases e) hB e2 (.map ?_)⟩
          · simp only [Instr.mapUpdate, bind, Sem.run_bind', r_under hu, Result.andThen_ok, hg, run_checkKey hkt hd, hfk, hstay]
            exact e1
          · rw [Array.toList_modify]
            exact h2.modify (f := fun e => { e with key := k, val := v }) (f' := fun e => { e with key := k', val := v' }) (fun _ _ _ _ hb => ⟨hk, hv, hb⟩) j

noncomputable def aDelete (P : Program) (h : Hp) (t : TypeId) (x k : Value) : Option Hp :=
  match P.underlying t, x with
  | some (.map kt _), .map (some B) =>
    match P.underlying kt, mapAtB h B with
    | some d, some (es, clock) =>
      if keyD d then
        match Instr.findNow d k es 0 with
        | some (some (i, _)) => some { h with m := h.m.put B (.map (es.eraseIdx i) clock) }
        | some none => some { h with m := h.m.put B (.map es clock) }
        | none => none
      else none
    | _, _ => none
  | _, _ => none

theorem aDelete_sim (hr : HR w0 γ pend h w) {t T : TypeId} {tys : Array TypeId} (ht : tys[0]? = some t) {x x' k k' : Value} {h' : Hp} (hs : aDelete P h t x k = some h') (hx : VR γ x x') (hk : VR γ k k') :
    ∃ w', (Builtin.delete_ tys T #[x', k']).run P w = .ok (.tuple #[]) w' ∧ HR w0 γ pend h' w' := by
  have e0 : (#[x', k'] : Array Value)[0]? = some x' := rfl
  have e1 : (#[x', k'] : Array Value)[1]? = some k' := rfl
  unfold aDelete at hs
  split at hs
  case h_2 => cases hs
  rename_i kt et B hu
  cases hx with
  | map hB =>
    rename_i p
    split at hs
    case h_2 => cases hs
    rename_i d es clock hkt hm
    split at hs
    case isFalse => cases hs
    rename_i hd
    obtain ⟨es', h1, h2⟩ := hr.map hm hB
    have hnc : ∀ c t f, (Obj.map es' clock) ≠ .cells c t f := by intro c t f e; cases e
    have hg := run_getObj (P := P) h1 hnc
    cases hf : Instr.findNow d k es 0 with
    | none => rw [hf] at hs; cases hs
    | some r =>
      rw [hf] at hs
      obtain ⟨r', hf', hrel⟩ := findNow_vr hk h2 0 r hf
      have hfk := run_findKey (P := P) (t := kt) hkt hf' w
      cases r with
      | none =>
        cases r' with
        | some y => exact hrel.elim
        | none =>
          cases hs
          obtain ⟨w', e2, e3⟩ := run_setObj (P := P) (o' := .map es' clock) h1 hnc
          refine ⟨w', ?_, hr.change (getB_map hm) (by intro e; cases e) hB e3 (.map h2)⟩
          unfold Builtin.delete_
          simp only [ht, e0, e1, bind, Sem.run_bind', r_under hu, Result.andThen_ok, hg, run_checkKey hkt hd, hfk, e2, Sem.run_pure]
      | some y =>
        obtain ⟨j, u⟩ := y
        cases r' with
        | none => exact hrel.elim
        | some y' =>
          obtain ⟨j', u'⟩ := y'
          have hj : j = j' := hrel.1
          subst hj
          cases hs
          obtain ⟨w', e2, e3⟩ := run_setObj (P := P) (o' := .map (es'.eraseIdxIfInBounds j) clock) h1 hnc
          refine ⟨w', ?_, hr.change (getB_map hm) (by intro e; cases e) hB e3 (.map ?_)⟩
          · unfold Builtin.delete_
            simp only [ht, e0, e1, bind, Sem.run_bind', r_under hu, Result.andThen_ok, hg, run_checkKey hkt hd, hfk, e2, Sem.run_pure]
          · have : (es'.eraseIdxIfInBounds j).toList = es'.toList.eraseIdx j := by simp [Array.toList_eraseIdxIfInBounds]
            rw [this]; exact h2.eraseIdx j

/-! ### A step over a text -/
noncomputable def aNext (h : Hp) (x : Value) : Option (Hp × Value) :=
  match x with
  | .pointer (some ⟨B, 0, none⟩) =>
    match h.m.get B with
    | some (.strIter s pos) =>
      if pos < s.size then
        let q := Utf8.decode s pos
        some ({ h with m := h.m.put B (.strIter s (pos + q.2)) }, .tuple #[.bool true, goInt pos, .int .i32 q.1])
      else some (h, .tuple #[.bool false])
    | _ => none
  | _ => none
end Go.Ae

namespace Go.Ae
variable {P : Program} {γ : Gm} {m : Tm} {a : Act} {w w' w0 : World} {pend : Nat → Option AObj} {h : Hp}

theorem aNext_sim (hr : HR w0 γ pend h w) {x x' v : Value} {h' : Hp} (hs : aNext h x = some (h', v)) (hx : VR γ x x') (T : TypeId) : ∃ w', (Instr.next x' true T).run P w = .ok v w' ∧ HR w0 γ pend h' w' ∧ VR γ v v := by
  unfold aNext at hs
  split at hs
  case h_2 => cases hs
  rename_i B
  split at hs
  case h_2 => cases hs
  rename_i s pos hg
  cases hx with
  | ptr hB =>
    rename_i p
    have hobj := hr.obj B _ p hg (by intro e; cases e) hB
    obtain ⟨o', h1, h2⟩ := hobj
    cases h2 with
    | strIter _ _ hσ =>
      have hnc : ∀ c t f, (Obj.stringIter s pos) ≠ .cells c t f := by intro c t f e; cases e
      have hgo := run_getObj (P := P) h1 hnc
      rw [hσ]
      split at hs
      · rename_i hlt
        cases hs
        obtain ⟨w', e1, e2⟩ := run_setObj (P := P) (o' := .stringIter s (pos + (Utf8.decode s pos).2)) h1 hnc
        refine ⟨w', ?_, hr.change hg (by intro e; cases e) hB e2 (.strIter _ _ hσ), .tuple (.cons (.bool _) (.cons (.int _ _) (.one (.int _ _))))⟩
        simp only [Instr.next, bind, Sem.run_bind', hgo, Result.andThen_ok, if_pos hlt, e1, Sem.run_pure]
      · rename_i hlt
        cases hs
        refine ⟨w, ?_, hr, .tuple (.one (.bool _))⟩
        simp only [Instr.next, bind, Sem.run_bind', hgo, Result.andThen_ok, if_neg hlt, Sem.run_pure]

/-- A slice of bytes turned to its own kind: its block gets the run-time's mark, behind its last cell. -/
noncomputable def aMark (P : Program) (h : Hp) (s d : TypeId) (v : Value) : Option (Hp × Value) :=
  match P.underlying s, v with
  | some (.slice e), .slice (some ⟨B, _, none⟩) _ c => match P.underlying e, h.m.get B with
    | some (.int .u8), some (.row r) => ifB (Nat.beq s d && !(Nat.beq c BIGE)) (some ({ h with m := h.m.put B (.row r) }, v)) none
    | _, _ => none
  | _, _ => none

theorem run_mark {b o : Nat} {c : Array Value} {t : TypeId} {fr : Nat × Nat} (hb : w.heap[b]? = some (.cells c t fr)) :
    (markStringish ⟨b, o, none⟩).run P w = .ok () (w.freeze ⟨b, c.size, none⟩ 1) := by
  have hs : w.shape? b = some (t, c.size) := by unfold World.shape?; rw [hb]
  simp only [markStringish, bind, Sem.run_bind', run_shape, Result.andThen_ok, hs, run_freeze]

theorem aMark_sim (hr : HR w0 γ pend h w) {s d : TypeId} {x x' v : Value} {h' : Hp} (hs : aMark P h s d x = some (h', v)) (hx : VR γ x x') : ∃ w', (convert s d x').run P w = .ok x' w' ∧ HR w0 γ pend h' w' ∧ VR γ v x' := by
  unfold aMark at hs
  split at hs
  case h_2 => cases hs
  rename_i e B oo l c hu
  split at hs
  case h_2 => cases hs
  rename_i r he hg
  rw [ifB_eq] at hs
  split at hs
  case isFalse => cases hs
  rename_i hc
  cases hs
  simp only [Bool.and_eq_true, Bool.not_eq_true'] at hc
  obtain ⟨hsd, hce⟩ := hc
  have hsd := Nat.eq_of_beq_eq_true hsd
  subst hsd
  have main : ∀ {p : Pl} {l' c' : Nat}, γ B = some p → VR γ (.slice (some ⟨B, oo, none⟩) l c) (.slice (some ⟨p.b, oo + p.σ, none⟩) l' c') →
      ∃ w', (convert s s (.slice (some ⟨p.b, oo + p.σ, none⟩) l' c')).run P w = .ok (.slice (some ⟨p.b, oo + p.σ, none⟩) l' c') w' ∧ HR w0 γ pend { h with m := h.m.put B (.row r) } w' := by
    intro p l' c' hB _
    obtain ⟨o', h1, h2⟩ := hr.obj B _ p hg (by intro e; cases e) hB
    cases h2 with
    | row hR =>
      rename_i cs t fr
      obtain ⟨lo, hi⟩ := fr
      refine ⟨w.freeze ⟨p.b, cs.size, none⟩ 1, ?_, hr.change (ob := .cells cs t (if lo == hi then (cs.size, cs.size + 1) else (min lo cs.size, max hi (cs.size + 1)))) hg (by intro e; cases e) hB ⟨by simp [World.freeze], ?_, fun k hk => ?_, rfl, rfl, rfl⟩ (.row ⟨hR.size, hR.fits, hR.cells, ?_⟩)⟩
      · simp only [convert, bind, Sem.run_bind', r_under hu, Result.andThen_ok, beq_self_eq_true, r_under he, run_mark h1, Sem.run_pure]
      · simp only [World.freeze, Nat.one_ne_zero, if_false, Array.getElem?_modify, if_true, h1, Option.map_some]
      · simp only [World.freeze, Nat.one_ne_zero, if_false, Array.getElem?_modify]
        rw [if_neg (by omega)]
      · have := hR.op
        simp only at this ⊢
        split
        · exact .inr (Nat.le_refl _)
        · rename_i hne
          have : lo ≠ hi := by simpa using hne
          exact .inr (by simp only; omega)
  cases hx with
  | slice hB hc => obtain ⟨w', e1, e2⟩ := main hB (.slice hB hc); exact ⟨w', e1, e2, .slice hB hc⟩
  | sliceU hB hk hl hN => obtain ⟨w', e1, e2⟩ := main hB (.sliceU hB hk hl hN); exact ⟨w', e1, e2, .sliceU hB hk hl hN⟩
  | sliceE a c => simp at hce

noncomputable def aEff (P : Program) (h : Hp) (m : Tm) (op : Op) : Option (Hp × Value) :=
  match op with
  | .store t x v => match ev m x, ev m v with
    | some vx, some vv => match aStore P h t vx vv with | some h' => some (h', undef) | none => none
    | _, _ => none
  | .mapUpdate t x k v => match ev m x, ev m k, ev m v with
    | some vx, some vk, some vv => match aMapPut P h t vx vk vv with | some h' => some (h', undef) | none => none
    | _, _, _ => none
  | .insert t x k v => match ev m x, ev m k, ev m v with
    | some vx, some vk, some vv => match aMapPut P h t vx vk vv with | some h' => some (h', undef) | none => none
    | _, _, _ => none
  | .next x true => match ev m x with | some v => aNext h v | none => none
  | .convert s d x => match ev m x with | some v => aMark P h s d v | none => none
  | .call ⟨.builtin .append, args, tys⟩ => match evs m args.toList with
    | some [s, x] => aAppend P h tys.toList s x
    | _ => none
  | .call ⟨.builtin .copy, args, tys⟩ => match evs m args.toList, tys.toList with
    | some [d, x], t :: _ => aCopy P h t d x
    | _, _ => none
  | .call ⟨.builtin .clear, args, tys⟩ => match evs m args.toList, tys.toList with
    | some [d], t :: _ => match aClear P h t d with | some h' => some (h', .tuple #[]) | none => none
    | _, _ => none
  | .call ⟨.builtin .delete, args, tys⟩ => match evs m args.toList, tys.toList with
    | some [x, k], t :: _ => match aDelete P h t x k with | some h' => some (h', undef) | none => none
    | _, _ => none
  | _ => none

theorem exec_u {ρ : Operand → Value} {q : Oper} {s : Sem Unit} {w w1 : World} (h : execOp ρ q = (do s; pure .skip : Sem Next)) (hs : s.run P w = .ok () w1) : (execOp ρ q).run P w = .ok .skip w1 := by
  rw [h]; simp only [bind, Sem.run_bind', hs, Result.andThen_ok]; rfl

theorem undef_vr : VR γ undef undef := .tuple .nil

theorem evs_two (h0 : Tm.R γ m a.tmps) {args : Array Operand} {x y : Value} (he : evs m args.toList = some [x, y]) : ∃ x' y', args.map a.eval = #[x', y'] ∧ VR γ x x' ∧ VR γ y y' := by
  have hs := evs_vr h0 he
  cases hl : args.toList.map a.eval with
  | nil => rw [hl] at hs; cases hs
  | cons x' l =>
    rw [hl] at hs
    cases hs with
    | cons hx hs =>
      cases l with
      | nil => cases hs
      | cons y' l =>
        cases hs with
        | cons hy hs =>
          cases hs
          refine ⟨x', y', ?_, hx, hy⟩
          apply Array.ext'
          rw [Array.toList_map]; exact hl

theorem evs_one (h0 : Tm.R γ m a.tmps) {args : Array Operand} {x : Value} (he : evs m args.toList = some [x]) : ∃ x', args.map a.eval = #[x'] ∧ VR γ x x' := by
  have hs := evs_vr h0 he
  cases hl : args.toList.map a.eval with
  | nil => rw [hl] at hs; cases hs
  | cons x' l =>
    rw [hl] at hs
    cases hs with
    | cons hx hs =>
      cases hs
      refine ⟨x', ?_, hx⟩
      apply Array.ext'
      rw [Array.toList_map]; exact hl

/-- What an operation hands on: a value, or nothing, which is written as 'undef'. -/
def Hands (n : Next) (v : Value) : Prop := n = .value v ∨ (n = .skip ∧ v = undef)

theorem aEff_sim (h0 : Tm.R γ m a.tmps) (hr : HR w0 γ pend h w) {q : Oper} {h' : Hp} {v : Value} (hv : aEff P h m q.op = some (h', v)) :
    ∃ γ' w' n v', γ.le γ' ∧ (execOp a.eval q).run P w = .ok n w' ∧ Hands n v' ∧ HR w0 γ' pend h' w' ∧ VR γ' v v' := by
  cases hq : q.op <;> rw [hq] at hv <;> simp only [aEff] at hv <;> (try (cases hv; done))
  case store t x y =>
    split at hv
    · rename_i vx vy hx hy
      split at hv
      · rename_i h2 hs
        cases hv
        obtain ⟨w', e1, e2⟩ := aStore_sim (P := P) hr hs (ev_vr h0 hx) (ev_vr h0 hy)
        exact ⟨γ, w', .skip, undef, Gm.le_refl _, exec_u (by unfold execOp; rw [hq]) e1, .inr ⟨rfl, rfl⟩, e2, undef_vr⟩
      · cases hv
    · cases hv
  case mapUpdate t x k y =>
    split at hv
    · rename_i vx vk vy hx hk hy
      split at hv
      · rename_i h2 hs
        cases hv
        obtain ⟨w', e1, e2⟩ := aMapPut_sim (P := P) hr hs (ev_vr h0 hx) (ev_vr h0 hk) (ev_vr h0 hy)
        exact ⟨γ, w', .skip, undef, Gm.le_refl _, exec_u (by unfold execOp; rw [hq]) e1, .inr ⟨rfl, rfl⟩, e2, undef_vr⟩
      · cases hv
    · cases hv
  case insert t x k y =>
    split at hv
    · rename_i vx vk vy hx hk hy
      split at hv
      · rename_i h2 hs
        cases hv
        obtain ⟨w', e1, e2⟩ := aMapPut_sim (P := P) hr hs (ev_vr h0 hx) (ev_vr h0 hk) (ev_vr h0 hy)
        exact ⟨γ, w', .skip, undef, Gm.le_refl _, exec_u (by unfold execOp; rw [hq]) e1, .inr ⟨rfl, rfl⟩, e2, undef_vr⟩
      · cases hv
    · cases hv
  case next x b =>
    cases b with
    | false => cases hv
    | true =>
      dsimp only at hv
      split at hv
      · rename_i u hu
        obtain ⟨w', e1, e2, e3⟩ := aNext_sim (P := P) hr hv (ev_vr h0 hu) q.type
        exact ⟨γ, w', .value v, v, Gm.le_refl _, exec_w (by unfold execOp; rw [hq]) e1, .inl rfl, e2, e3⟩
      · cases hv
  case convert s d x =>
    split at hv
    · rename_i u hu
      obtain ⟨w', e1, e2, e3⟩ := aMark_sim (P := P) hr hv (ev_vr h0 hu)
      exact ⟨γ, w', .value _, _, Gm.le_refl _, exec_w (by unfold execOp; rw [hq]) e1, .inl rfl, e2, e3⟩
    · cases hv
  case call c =>
    obtain ⟨callee, args, tys⟩ := c
    cases callee with
    | value f => cases hv
    | invoke r n => cases hv
    | builtin b =>
      cases b <;> (try (cases hv; done))
      · dsimp only at hv
        split at hv
        · rename_i s x he
          obtain ⟨s', x', ha, hs, hx⟩ := evs_two h0 he
          obtain ⟨γ', w', v', e1, e2, e3, e4⟩ := aAppend_sim (P := P) (T := q.type) hr hv hs hx
          refine ⟨γ', w', .value v', v', e1, ?_, .inl rfl, e3, e4⟩
          rw [exec_call hq, ha]
          show Sem.run P (do pure (.value (← Builtin.append_ tys q.type #[s', x'])) : Sem Next) w = _
          simp only [bind, Sem.run_bind', e2, Result.andThen_ok]; rfl
        · cases hv
      · dsimp only at hv
        split at hv
        · rename_i s t rest he ht
          split at hv
          · rename_i h2 hs2
            cases hv
            obtain ⟨s', ha, hs⟩ := evs_one h0 he
            have ht' : tys[0]? = some t := by rw [← Array.getElem?_toList, ht]; rfl
            obtain ⟨w', e1, e2⟩ := aClear_sim (P := P) (T := q.type) hr ht' hs2 hs
            refine ⟨γ, w', .value (.tuple #[]), .tuple #[], Gm.le_refl _, ?_, .inl rfl, e2, .tuple .nil⟩
            rw [exec_call hq, ha]
            show Sem.run P (do pure (.value (← Builtin.clear_ tys q.type #[s'])) : Sem Next) w = _
            simp only [bind, Sem.run_bind', e1, Result.andThen_ok]; rfl
          · cases hv
        · cases hv
      · dsimp only at hv
        split at hv
        · rename_i s x t rest he ht
          obtain ⟨s', x', ha, hs, hx⟩ := evs_two h0 he
          have ht' : tys[0]? = some t := by rw [← Array.getElem?_toList, ht]; rfl
          obtain ⟨w', e1, e2, e3⟩ := aCopy_sim (P := P) (T := q.type) hr ht' hv hs hx
          refine ⟨γ, w', .value v, v, Gm.le_refl _, ?_, .inl rfl, e2, e3⟩
          rw [exec_call hq, ha]
          show Sem.run P (do pure (.value (← Builtin.copy_ tys q.type #[s', x'])) : Sem Next) w = _
          simp only [bind, Sem.run_bind', e1, Result.andThen_ok]; rfl
        · cases hv
      · dsimp only at hv
        split at hv
        · rename_i s x t rest he ht
          split at hv
          · rename_i h2 hs2
            cases hv
            obtain ⟨s', x', ha, hs, hx⟩ := evs_two h0 he
            have ht' : tys[0]? = some t := by rw [← Array.getElem?_toList, ht]; rfl
            obtain ⟨w', e1, e2⟩ := aDelete_sim (P := P) (T := q.type) hr ht' hs2 hs hx
            refine ⟨γ, w', .value undef, undef, Gm.le_refl _, ?_, .inl rfl, e2, undef_vr⟩
            rw [exec_call hq, ha]
            show Sem.run P (do pure (.value (← Builtin.delete_ tys q.type #[s', x'])) : Sem Next) w = _
            simp only [bind, Sem.run_bind', e1, Result.andThen_ok]; rfl
          · cases hv
        · cases hv
end Go.Ae

namespace Go.Ae

abbrev OV := Option Value
/-- What is done with an integer; else nothing. -/
noncomputable def vInt (v : Value) : (IntKind → Int → OV) → OV → OV :=
  Value.rec (motive_1 := fun _ => (IntKind → Int → OV) → OV → OV) (motive_2 := fun _ => PUnit) (motive_3 := fun _ => PUnit)
    (fun _ _ d => d) (fun k n f _ => f k n) (fun _ _ _ d => d) (fun _ _ _ _ d => d) (fun _ _ d => d) (fun _ _ d => d) (fun _ _ _ _ d => d) (fun _ _ d => d) (fun _ _ d => d) (fun _ _ _ _ _ _ d => d) (fun _ d => d) (fun _ _ _ _ d => d) (fun _ d => d) (fun _ _ _ d => d) (fun _ _ _ d => d)
    (fun _ _ => ⟨⟩) ⟨⟩ (fun _ _ _ _ => ⟨⟩) v
theorem vInt_eq (v : Value) (f : IntKind → Int → OV) (d : OV) : vInt v f d = match v with | .int k n => f k n | _ => d := by cases v <;> rfl

noncomputable def adK (a : Addr) : (Nat → Nat → OV) → OV :=
  Addr.rec (motive := fun _ => (Nat → Nat → OV) → OV) (fun B off s => Option.rec (motive := fun _ => (Nat → Nat → OV) → OV) (fun f => f B off) (fun _ _ => none) s) a
theorem adK_eq (a : Addr) (f : Nat → Nat → OV) : adK a f = match a with | ⟨B, off, none⟩ => f B off | _ => none := by
  obtain ⟨B, off, s⟩ := a; cases s <;> rfl
noncomputable def oaK (a : Option Addr) : (Nat → Nat → OV) → OV :=
  Option.rec (motive := fun _ => (Nat → Nat → OV) → OV) (fun _ => none) (fun a => adK a) a
theorem oaK_eq (a : Option Addr) (f : Nat → Nat → OV) : oaK a f = match a with | some ⟨B, off, none⟩ => f B off | _ => none := by
  cases a with
  | none => rfl
  | some a => obtain ⟨B, off, s⟩ := a; cases s <;> rfl
/-- What is done with a pointer into a block; else nothing. -/
noncomputable def vPtr (v : Value) : (Nat → Nat → OV) → OV :=
  Value.rec (motive_1 := fun _ => (Nat → Nat → OV) → OV) (motive_2 := fun _ => PUnit) (motive_3 := fun _ => PUnit)
    (fun _ _ => none) (fun _ _ _ => none) (fun _ _ _ => none) (fun _ _ _ _ => none) (fun _ _ => none) (fun a => oaK a) (fun _ _ _ _ => none) (fun _ _ => none) (fun _ _ => none) (fun _ _ _ _ _ _ => none) (fun _ => none) (fun _ _ _ _ => none) (fun _ => none) (fun _ _ _ => none) (fun _ _ _ => none)
    (fun _ _ => ⟨⟩) ⟨⟩ (fun _ _ _ _ => ⟨⟩) v
theorem vPtr_eq (v : Value) (f : Nat → Nat → OV) : vPtr v f = match v with | .pointer (some ⟨B, off, none⟩) => f B off | _ => none := by
  cases v with
  | pointer a => cases a with
    | none => rfl
    | some a => obtain ⟨B, off, s⟩ := a; cases s <;> rfl
  | _ => rfl
/-- Two operands' values, and what is done with them. -/
noncomputable def two (x y : OV) (f : Value → Value → OV) : OV := Option.rec (motive := fun _ => OV) none (fun v => Option.rec (motive := fun _ => OV) none (f v) y) x
noncomputable def one (x : OV) (f : Value → OV) : OV := Option.rec (motive := fun _ => OV) none f x
theorem two_eq (x y : OV) (f : Value → Value → OV) : two x y f = match x, y with | some v, some u => f v u | _, _ => none := by cases x <;> cases y <;> rfl
theorem one_eq (x : OV) (f : Value → OV) : one x f = match x with | some v => f v | none => none := by cases x <;> rfl

/-! ### Integers -/
noncomputable def kNum (k : IntKind) : Nat := IntKind.rec (motive := fun _ => Nat) 0 1 2 3 4 5 6 7 k
noncomputable def kSame (a b : IntKind) : Bool := Nat.beq (kNum a) (kNum b)
theorem kSame_eq (a b : IntKind) : kSame a b = kEq a b := by cases a <;> cases b <;> rfl
noncomputable def kLim (k : IntKind) : Nat := IntKind.rec (motive := fun _ => Nat) 128 32768 2147483648 9223372036854775808 256 65536 4294967296 18446744073709551616 k
noncomputable def wrapF (n : Int) : IntKind → Int :=
  Int.rec (motive := fun _ => IntKind → Int) (fun x k => ifB (Nat.blt x (kLim k)) (.ofNat x) (k.wrap (.ofNat x))) (fun x k => k.wrap (.negSucc x)) n
theorem wrapF_eq (n : Int) (k : IntKind) : wrapF n k = wrapK k n := by cases n <;> cases k <;> rfl

noncomputable def iAdd (k : IntKind) (a b : Int) : OV := some (.int k (wrapF (Int.add a b) k))
noncomputable def iSub (k : IntKind) (a b : Int) : OV := some (.int k (wrapF (Int.sub a b) k))
noncomputable def iMul (k : IntKind) (a b : Int) : OV := some (.int k (wrapF (Int.mul a b) k))
noncomputable def iEqI (_ : IntKind) (a b : Int) : OV := some (.bool (iEq a b))
noncomputable def iNeI (_ : IntKind) (a b : Int) : OV := some (.bool (Bool.rec true false (iEq a b)))
noncomputable def iLtI (_ : IntKind) (a b : Int) : OV := some (.bool (iLt a b))
noncomputable def iLeI (_ : IntKind) (a b : Int) : OV := some (.bool (Bool.rec true false (iLt b a)))
noncomputable def iGtI (_ : IntKind) (a b : Int) : OV := some (.bool (iLt b a))
noncomputable def iGeI (_ : IntKind) (a b : Int) : OV := some (.bool (Bool.rec true false (iLt a b)))
/-- An operator on two integers of one kind, and of any two. -/
noncomputable def intOp (op : BinOp) : IntKind → Int → IntKind → Int → OV :=
  BinOp.rec (motive := fun _ => IntKind → Int → IntKind → Int → OV)
    (fun k a j b => ifB (kSame k j) (iAdd k a b) none) (fun k a j b => ifB (kSame k j) (iSub k a b) none) (fun k a j b => ifB (kSame k j) (iMul k a b) none)
    (aInt2 .quo) (aInt2 .rem) (aInt2 .and) (aInt2 .or) (aInt2 .xor) (aInt2 .shl) (aInt2 .shr) (aInt2 .andNot)
    (fun k a j b => ifB (kSame k j) (iEqI k a b) none) (fun k a j b => ifB (kSame k j) (iNeI k a b) none) (fun k a j b => ifB (kSame k j) (iLtI k a b) none) (fun k a j b => ifB (kSame k j) (iLeI k a b) none)
    (fun k a j b => ifB (kSame k j) (iGtI k a b) none) (fun k a j b => ifB (kSame k j) (iGeI k a b) none) op
theorem intOp_eq (op : BinOp) (k : IntKind) (a : Int) (j : IntKind) (b : Int) : intOp op k a j b = aInt2 op k a j b := by
  cases op <;> first
    | rfl
    | (simp only [intOp, kSame_eq, aInt2, aInt, iAdd, iSub, iMul, iEqI, iNeI, iLtI, iLeI, iGtI, iGeI, wrapF_eq]; done)
    | (simp only [intOp, kSame_eq, aInt2, aInt, iAdd, iSub, iMul, iEqI, iNeI, iLtI, iLeI, iGtI, iGeI, wrapF_eq]; congr 3; cases iEq a b <;> rfl)
    | (simp only [intOp, kSame_eq, aInt2, aInt, iAdd, iSub, iMul, iEqI, iNeI, iLtI, iLeI, iGtI, iGeI, wrapF_eq]; congr 3; cases iLt a b <;> rfl)
    | (simp only [intOp, kSame_eq, aInt2, aInt, iAdd, iSub, iMul, iEqI, iNeI, iLtI, iLeI, iGtI, iGeI, wrapF_eq]; congr 3; cases iLt b a <;> rfl)

/-! ### Loads and places -/
noncomputable def rowK (o : Option AObj) : (Row → OV) → OV :=
  Option.rec (motive := fun _ => (Row → OV) → OV) (fun _ => none)
    (fun o => AObj.rec (motive := fun _ => (Row → OV) → OV) (fun r f => f r) (fun _ _ _ => none) (fun _ _ _ => none) (fun _ _ => none) (fun _ => none) (fun _ => none) o) o
theorem rowK_eq (h : Hp) (B : Nat) (f : Row → OV) : rowK (h.m.get B) f = match rowAtB h B with | some r => f r | none => none := by
  unfold rowAtB
  cases h.m.get B with
  | none => rfl
  | some o => cases o <;> rfl
/-- A type's cells, where it is a struct or an array. -/
noncomputable def aggSz (P : Program) (t : TypeId) : Option (Option Nat) :=
  match P.underlying t with
  | some d => ifB (aggD d) (match P.info? t with | some i => some (some i.size) | none => none) (some none)
  | none => none
noncomputable def loadC (sz : Option (Option Nat)) : Row → Nat → OV :=
  Option.rec (motive := fun _ => Row → Nat → OV) (fun _ _ => none)
    (fun o => Option.rec (motive := fun _ => Row → Nat → OV) (fun r off => r.get off) (fun n r off => Option.rec (motive := fun _ => OV) none (fun l => some (.agg ⟨l⟩)) (r.toList off n)) o) sz
noncomputable def loadF (P : Program) (h : Hp) (t : TypeId) (x : Value) : OV := vPtr x fun B off => rowK (h.m.get B) fun r => loadC (aggSz P t) r off
theorem loadF_eq (P : Program) (h : Hp) (t : TypeId) (x : Value) : loadF P h t x = aLoad P h t x := by
  unfold loadF aLoad
  rw [vPtr_eq]
  split
  · rename_i B off
    dsimp only
    rw [rowK_eq]
    cases rowAtB h B with
    | none => rfl
    | some r =>
      dsimp only [aggSz]
      cases P.underlying t with
      | none => rfl
      | some d =>
        dsimp only
        cases hd : aggD d with
        | false => rfl
        | true =>
          cases P.info? t with
          | none => rfl
          | some i => dsimp only [loadC]; cases r.toList off i.size <;> rfl
  · rename_i hx
    split
    · exact absurd rfl (hx _ _)
    · rfl

noncomputable def fieldOff (P : Program) (s : TypeId) (f : Nat) : Option Nat :=
  match P.underlying s with
  | some (.struct fs) => match fs.toList[f]? with
    | some fd => match P.info? fd.type with
      | some i => nz i.size none (some fd.offset)
      | none => none
    | none => none
  | _ => none
noncomputable def fieldF (P : Program) (s : TypeId) (x : Value) (f : Nat) : OV :=
  Option.rec (motive := fun _ => OV) none (fun o => vPtr x fun B off => some (.pointer (some ⟨B, Nat.add off o, none⟩))) (fieldOff P s f)
theorem orec_none {α : Type} (o : Option α) : Option.rec (motive := fun _ => OV) none (fun _ => none) o = none := by cases o <;> rfl
theorem fieldF_eq (P : Program) (s : TypeId) (x : Value) (f : Nat) : fieldF P s x f = aFieldAddr P s x f := by
  have none_case : (∀ B off, x ≠ .pointer (some ⟨B, off, none⟩)) → fieldF P s x f = aFieldAddr P s x f := by
    intro hx
    have e1 : ∀ g, vPtr x g = none := by
      intro g; rw [vPtr_eq]; split
      · exact absurd rfl (hx _ _)
      · rfl
    have e2 : aFieldAddr P s x f = none := by
      unfold aFieldAddr; split
      · exact absurd rfl (hx _ _)
      · rfl
    unfold fieldF
    simp only [e1, e2, orec_none]
  by_cases hx : ∃ B off, x = .pointer (some ⟨B, off, none⟩)
  · obtain ⟨B, off, rfl⟩ := hx
    unfold fieldF aFieldAddr fieldOff
    cases P.underlying s with
    | none => rfl
    | some d =>
      cases d with
      | struct fs =>
        dsimp only
        cases hf : fs.toList[f]? with
        | none => rfl
        | some fd =>
          dsimp only
          cases hi : P.info? fd.type with
          | none => rfl
          | some i =>
            dsimp only
            rw [nz_eq, nz_eq]
            split <;> rfl
      | _ => rfl
  · exact none_case fun B off e => hx ⟨B, off, e⟩
end Go.Ae

namespace Go.Ae

/-! ### Regions that draw their order -/
/-- Quiet kinds: they write no memory that is there, and call nothing. -/
def isQ : Op → Bool
  | .move _ | .assign _ | .pick .. | .nilCheck _ | .binOp .. | .sliceToArrayPointer .. | .unOp .. | .makeInterface .. | .makeFunc .. | .slice .. | .fieldAddr .. | .field .. | .indexAddr .. | .index .. | .extract .. | .build ..
  | .typeAssert .. | .load .. | .lookup .. | .alloc _ | .box .. | .buildSlice .. | .makeSlice .. | .makeMap .. | .range .. => true
  | .convert s d _ => !(Nat.beq s d)
  | .call ⟨.builtin .len, _, _⟩ | .call ⟨.builtin .min, _, _⟩ | .call ⟨.builtin .max, _, _⟩ => true
  | _ => false
/-- Kinds that read memory. -/
def isL : Op → Bool
  | .load .. | .lookup .. | .convert .. => true
  | .call ⟨.builtin .len, _, _⟩ => true
  | _ => false

def bindsE (e : Edge) : Bool :=
  match e.ground with
  | .textOnly _ | .gcOnly _ => false
  | _ => true

def orL (l : List Nat) : Nat := l.foldl Nat.lor 0
def bitIn (m i : Nat) : Bool := Nat.beq (Nat.land (Nat.shiftRight m i) 1) 1

/-- Which operations come before each, by the edges that bind, as sets of bits; in the text's order. -/
def befs : List Oper → (acc : List Nat) → List Nat
  | [], acc => acc
  | o :: l, acc => befs l (acc ++ [orL (o.after.toList.filterMap fun e => if bindsE e then some (Nat.lor (Nat.pow 2 e.on) (acc.getD e.on 0)) else none)])

def tmpsOf (o : Oper) : List Nat := o.op.operands.toList.filterMap fun | .tmp t => some t | _ => none

/-- What is reckoned of a region once: of each operation its number, itself, what comes before it, whether it is a fixed point of the order. -/
structure DOp where
  i : Nat
  o : Oper
  bef : Nat
  sync : Bool

def dopsOf (ops : List Oper) : List DOp :=
  let bs := befs ops []
  let l := (ops.zip bs).zipIdx
  l.map fun x =>
    let reads := l.filterMap fun y => if y.2 != x.2 && (match x.1.1.dst with | some d => (tmpsOf y.1.1).contains d | none => false) then some y else none
    ⟨x.2, x.1.1, x.1.2, !(isQ x.1.1.op) || reads.any fun y => !(bitIn y.1.2 x.2)⟩

inductive DStep where
  | run (d : DOp)
  | look (d : DOp)

/-- The order in which the evaluator goes. -/
def schedFrom (ds : List DOp) : (syncs : List DOp) → (k done : Nat) → List DStep
  | [], _, done => (ds.filter fun d => !d.sync && !(bitIn done d.i)).map .run
  | s :: ss, k, done =>
    let now := ds.filter fun d => !d.sync && !(bitIn done d.i) && !((s :: ss).any fun t => bitIn d.bef t.i)
    let done' := Nat.lor done (orL (now.map fun d => Nat.pow 2 d.i))
    now.map .run ++ .run s :: ((ds.filter fun d => bitIn done' d.i && isL d.o.op && !(bitIn s.bef d.i)).map .look) ++ schedFrom ds ss (k + 1) done'

/-- Each of a list comes before the next. -/
def chainOK : List DOp → Bool
  | p :: q :: l => bitIn q.bef p.i && chainOK (q :: l)
  | _ => true

/-- Is a region of the kind that the evaluator's order serves? -/
def drawOK (ds : List DOp) : Bool :=
  (ds.all fun d => (d.o.after.toList.all fun e => !(bindsE e) || Nat.blt e.on d.i) &&
    Nat.beq d.bef (orL (d.o.after.toList.filterMap fun e => if bindsE e then some (Nat.lor (Nat.pow 2 e.on) (match ds[e.on]? with | some x => x.bef | none => 0)) else none))) &&
  chainOK (ds.filter (·.sync)) &&
  (ds.all fun d => match d.o.guard with | some (j, _) => bitIn d.bef j | none => true) &&
  (ds.all fun d => match d.o.dst with
    | some t => ds.all fun e => Nat.beq e.i d.i || ((match e.o.dst with | some u => !(Nat.beq u t) | none => true) && (!((tmpsOf e.o).contains t) || bitIn e.bef d.i || bitIn d.bef e.i))
    | none => true) &&
  (ds.all fun d => d.sync || (isQ d.o.op && match d.o.dst with
    | some t => ds.all fun e => !((tmpsOf e.o).contains t) || bitIn e.bef d.i
    | none => true))

/-! ### The machine -/
inductive AItem where
  | code (c : Code)
  | inBlock (id : Nat)
  | inLoop (body : Code)
  | inScope (body : Code)
  | ops (full : Array Oper) (l : List Oper)
  | draw (full : Array Oper) (l : List DStep)
  | inRangeFunc (l : Nat)
  | endRangeFunc (l : Nat)
  | beginRound

structure AFr where
  fn : Nat
  tm : Tm
  n : Nat
  todo : List AItem
  defers : List Deferred
  ret : Bool
  kind : CallKind
  roundOf : Option Nat

inductive St where
  | go (top : AFr) (rest : List AFr) (h : Hp)
  | done (v : Value) (h : Hp)

/-- A temporary's new value, where there is room for it. -/
noncomputable def putD (n : Nat) (m : Tm) (dst : Option Nat) (v : Value) : Option Tm :=
  match dst with
  | none => some m
  | some d => ifB (Nat.blt d n) (some (m.put d v)) none

/-- Is a guarded operation wanted? -/
noncomputable def wantA (full : Array Oper) (m : Tm) (o : Oper) : Option Bool :=
  match o.guard with
  | none => some true
  | some (j, want) => match full.toList[j]? with
    | some oj => match oj.dst with
      | some d => match m.get d with
        | some (.bool b) => some (b == want)
        | some (.tuple _) => some false
        | _ => none
      | none => none
    | none => none

/-- The function that a value leads to, and what it is called with. -/
inductive CallTo where
  | fn (f : FuncId) (args : List Value)
  | round (l : Nat) (args : List Value)

noncomputable def aMethod (P : Program) (h : Hp) (x : Value) (name : String) (args : List Value) : Option CallTo :=
  match x with
  | .iface t v =>
    match P.info? t with
    | some i => match i.methods.find? (·.name == name) with
      | some mm => match mm.path.toList, mm.func, P.underlying t with
        | [], some (f, true), some (.pointer _) => some (.fn f (v :: args))
        | [], some (f, false), some (.pointer e) => match v with
          | .pointer (some _) => match aLoad P h e v with
            | some u => some (.fn f (u :: args))
            | none => none
          | _ => none
        | [], some (f, false), some _ => some (.fn f (v :: args))
        | _, _, _ => none
      | none => none
    | none => none
  | _ => none

noncomputable def aCallee (P : Program) (h : Hp) (m : Tm) (c : Call) : Option CallTo :=
  match c.callee with
  | .value f => match ev m f, evs m c.args.toList with
    | some (.func (.func g) first cap), some args => some (.fn g (first.toList ++ args ++ cap.toList))
    | some (.func (.yield l) ⟨[]⟩ ⟨[]⟩), some args => some (.round l args)
    | some (.func (.methodOf t name) first ⟨[]⟩), some args => match first.toList ++ args, P.underlying t with
      | x :: rest, some d => if notIface d then aMethod P h (.iface t x) name rest else aMethod P h x name rest
      | _, _ => none
    | some (.func (.method name) first ⟨[]⟩), some args => match first.toList ++ args with
      | x :: rest => aMethod P h x name rest
      | _ => none
    | _, _ => none
  | .invoke r name => match ev m r, evs m c.args.toList with
    | some x, some args => aMethod P h x name args
    | _, _ => none
  | .builtin _ => none

/-- A function's first frame. -/
noncomputable def enterA (fn : Func) (K : Nat) (f : Nat) (body : Code) (args : List Value) (kind : CallKind) : AFr :=
  ⟨f, ⟨[], args.zipIdx.map fun x => (x.2, x.1), Nat.lor K (Nat.sub (Nat.pow 4 args.length) 1)⟩, max fn.ntmps args.length, [.code body], [], false, kind, none⟩

/-- Functions whose contract is known: of those that stand in the program's text; of those that do not. -/
structure Intr where
  fn : Nat → Option (Hp → List Value → Option Value)
  ext : Nat → Option (Hp → List Value → Option (Value × Hp))

/-- A call: a function of the machine's own, or one whose contract is known. -/
noncomputable def callA (P : Program) (K : Nat → Nat) (I : Intr) (kind : CallKind) (h : Hp) (f : FuncId) (args : List Value) : Option (Sum AFr Value) :=
  match I.fn f with
  | some g => match g h args with | some v => some (.inr v) | none => none
  | none => match P.funcs.toList[f]? with
    | some fn => match fn.body with
      | some body => some (.inl (enterA fn (K f) f body args kind))
      | none => none
    | none => none

noncomputable def putsA (n : Nat) : List Nat → List Value → Tm → Option Tm
  | [], [], m => some m
  | t :: ts, v :: vs, m => match putD n m (some t) v with | some m' => putsA n ts vs m' | none => none
  | _, _, _ => none

noncomputable def loopAt (h : Hp) (l : Nat) : Option LoopO :=
  match h.m.get l with
  | some (.loop r) => some r
  | _ => none

/-- A heap with one block changed. -/
noncomputable def Hp.upd (h : Hp) (B : Nat) (o : AObj) : Hp := Hp.rec (fun next m => ⟨next, m.put B o⟩) h
/-- A heap with one block more. -/
noncomputable def Hp.add (h : Hp) (o : AObj) : Hp := Hp.rec (fun next m => ⟨Nat.succ next, m.put next o⟩) h

/-- A round's frame. -/
noncomputable def roundA (h : Hp) (l : Nat) (args : List Value) : Option AFr :=
  match loopAt h l with
  | some ⟨_, _, fn, tm, n, ps, assign, body, _⟩ => match putsA n ps.toList args tm with
    | some tm => some ⟨fn, tm, n, [.code assign, .beginRound, .code body], [], false, .normal, some l⟩
    | none => none
  | none => none

/-- The value that a call came to, handed to its caller. -/
noncomputable def finishA (fr : AFr) (v : Value) : Option AFr :=
  match fr with
  | ⟨fn, tm, n, .ops full (o :: l) :: k, ds, ret, kind, ro⟩ => match putD n tm o.dst v with | some tm => some ⟨fn, tm, n, .ops full l :: k, ds, ret, kind, ro⟩ | none => none
  | ⟨fn, tm, n, .draw full (.run d :: l) :: k, ds, ret, kind, ro⟩ => match putD n tm d.o.dst v with | some tm => some ⟨fn, tm, n, .draw full l :: k, ds, ret, kind, ro⟩ | none => none
  | ⟨fn, tm, n, .inRangeFunc l :: k, ds, ret, kind, ro⟩ => some ⟨fn, tm, n, .endRangeFunc l :: k, ds, ret, kind, ro⟩
  | _ => none

/-- A value returned from the top frame, which is of such a kind. -/
noncomputable def returnA (kind : CallKind) (rest : List AFr) (h : Hp) (v : Value) : Option St :=
  match rest with
  | [] => match kind with | .normal => some (.done v h) | _ => none
  | c :: cs => match kind with
    | .normal => match finishA c v with | some c' => some (.go c' cs h) | none => none
    | .deferred => some (.go c cs h)
    | _ => none

noncomputable def resultsA (P : Program) (h : Hp) (m : Tm) : List ResultVar → Option (List Value)
  | [] => some []
  | .tmp t :: l => match m.get t, resultsA P h m l with | some v, some vs => some (v :: vs) | _, _ => none
  | .cell t ty :: l => match m.get t with
    | some x => match aLoad P h ty x, resultsA P h m l with | some v, some vs => some (v :: vs) | _, _ => none
    | none => none

def tupleOf : List Value → Value
  | [v] => v
  | l => .tuple ⟨l⟩

def exitToA (id : Nat) : List AItem → Option (List AItem)
  | .inBlock id' :: k => if id' = id then some k else exitToA id k
  | _ :: k => exitToA id k
  | [] => none

/-- The end of a round, by a jump or none. -/
noncomputable def endRoundA (kind : CallKind) (rest : List AFr) (h : Hp) (l : Nat) (jump : Option Code) : Option St :=
  match loopAt h l with
  | some ⟨_, _, fn, tm, n, ps, assign, body, d⟩ => match kind with
    | .normal => returnA .normal rest (h.upd l (.loop ⟨(match jump with | none => .ready | some _ => .done), jump, fn, tm, n, ps, assign, body, d⟩)) (.bool jump.isNone)
    | _ => none
  | none => none

/-- An operation that comes to a value in one step. -/
noncomputable def quickA (P : Program) (h : Hp) (m : Tm) (op : Op) : Option (Hp × Value) :=
  match aVal P h m op with
  | some v => some (h, v)
  | none =>
    match aNew P m op with
    | some (ob, f) => some (h.add ob, f h.next)
    | none => aEff P h m op

/-- An operation that doesn't: a call, a deferred call, recover. The frame stands at it. -/
noncomputable def slowA (P : Program) (K : Nat → Nat) (I : Intr) (fr : AFr) (rest : List AFr) (h : Hp) (op : Op) : Option St :=
  match op with
  | .call ⟨.builtin .recover, ⟨[]⟩, _⟩ => match fr.roundOf, fr.kind, rest with
    | none, .deferred, c :: _ => if c.ret then (match finishA fr .nilIface with | some fr' => some (.go fr' rest h) | none => none) else none
    | _, _, _ => none
  | .call c => match aCallee P h fr.tm c with
    | some (.fn f args) => match callA P K I .normal h f args with
      | some (.inl fr') => some (.go fr' (fr :: rest) h)
      | some (.inr v) => (match finishA fr v with | some fr' => some (.go fr' rest h) | none => none)
      | none => none
    | some (.round l args) => match roundA h l args with
      | some fr' => some (.go fr' (fr :: rest) h)
      | none => none
    | none => none
  | .defer ⟨.value f, args, _⟩ => match fr.roundOf, ev fr.tm f, evs fr.tm args.toList with
    | none, some (.func (.func g) first cap), some as => match finishA fr undef with
      | some ⟨fn, tm, n, todo, ds, ret, kind, ro⟩ => some (.go ⟨fn, tm, n, todo, { target := .fn (.func g) cap, args := ⟨first.toList ++ as⟩ } :: ds, ret, kind, ro⟩ rest h)
      | none => none
    | _, _, _ => none
  | _ => none

noncomputable def veqL (f : Value → Value → Bool) : List Value → List Value → Bool
  | [], [] => true
  | a :: l, b :: k => f a b && veqL f l k
  | _, _ => false
def addrEq (a b : Addr) : Bool := Nat.beq a.block b.block && Nat.beq a.off b.off && (match a.spot, b.spot with | none, none => true | _, _ => false)
def optEq (a b : Option Addr) : Bool := match a, b with | none, none => true | some x, some y => addrEq x y | _, _ => false
/-- Are two values the same? (Some of those that are, at least.) -/
noncomputable def veq0 (a b : Value) : Bool :=
  match a, b with
  | .bool x, .bool y => x == y
  | .int k x, .int j y => kEq k j && iEq x y
  | .string x, .string y => decide (x.data.toList = y.data.toList)
  | .pointer x, .pointer y => optEq x y
  | .slice x n c, .slice y m d => optEq x y && Nat.beq n m && Nat.beq c d
  | .map (some x), .map (some y) => Nat.beq x y
  | .map none, .map none => true
  | .nilFunc, .nilFunc => true
  | .nilIface, .nilIface => true
  | .tuple ⟨[]⟩, .tuple ⟨[]⟩ => true
  | _, _ => false
noncomputable def veq (a b : Value) : Bool :=
  match a, b with
  | .agg x, .agg y => veqL veq0 x.toList y.toList
  | .iface t x, .iface u y => Nat.beq t u && veq0 x y
  | .func (.func f) x c, .func (.func g) y d => Nat.beq f g && veqL veq0 x.toList y.toList && veqL veq0 c.toList d.toList
  | a, b => veq0 a b

/-- The operations of a region, one behind the other, as far as each comes to a value in one step. -/
noncomputable def opsA (P : Program) (K : Nat → Nat) (I : Intr) (fn n : Nat) (ds : List Deferred) (kind : CallKind) (ro : Option Nat) (k : List AItem) (rest : List AFr) (full : Array Oper) (l : List Oper) : Tm → Hp → Option St :=
  List.rec (motive := fun _ => Tm → Hp → Option St) (fun tm h => some (.go ⟨fn, tm, n, k, ds, false, kind, ro⟩ rest h))
    (fun o l ih tm h => match wantA full tm o with
      | some true => match quickA P h tm o.op with
        | some (h', v) => match putD n tm o.dst v with | some tm' => ih tm' h' | none => none
        | none => slowA P K I ⟨fn, tm, n, .ops full (o :: l) :: k, ds, false, kind, ro⟩ rest h o.op
      | some false => match putD n tm o.dst undef with | some tm' => ih tm' h | none => none
      | none => none) l

/-- Likewise in a region that draws its order. -/
noncomputable def drawA (P : Program) (K : Nat → Nat) (I : Intr) (fn n : Nat) (ds : List Deferred) (kind : CallKind) (ro : Option Nat) (k : List AItem) (rest : List AFr) (full : Array Oper) (l : List DStep) : Tm → Hp → Option St :=
  List.rec (motive := fun _ => Tm → Hp → Option St) (fun tm h => some (.go ⟨fn, tm, n, k, ds, false, kind, ro⟩ rest h))
    (fun s l ih tm h => match s with
      | .run d => match wantA full tm d.o with
        | some true => match quickA P h tm d.o.op with
          | some (h', v) => match putD n tm d.o.dst v with | some tm' => ih tm' h' | none => none
          | none => slowA P K I ⟨fn, tm, n, .draw full (.run d :: l) :: k, ds, false, kind, ro⟩ rest h d.o.op
        | some false => match putD n tm d.o.dst undef with | some tm' => ih tm' h | none => none
        | none => none
      | .look d => match wantA full tm d.o with
        | some true => match aVal P h tm d.o.op, d.o.dst with
          | some v, some t => match tm.get t with
            | some u => ifB (veq v u) (ih tm h) none
            | none => none
          | _, _ => none
        | some false => ih tm h
        | none => none) l

/-- A code's step. -/
noncomputable def codeA (P : Program) (K : Nat → Nat) (I : Intr) (fn : Nat) (tm : Tm) (n : Nat) (ds : List Deferred) (kind : CallKind) (ro : Option Nat) (rest : List AFr) (h : Hp) (c : Code) (k : List AItem) : Option St :=
  match c with
  | .skip => some (.go ⟨fn, tm, n, k, ds, false, kind, ro⟩ rest h)
  | .label _ => some (.go ⟨fn, tm, n, k, ds, false, kind, ro⟩ rest h)
  | .seq a b => some (.go ⟨fn, tm, n, .code a :: .code b :: k, ds, false, kind, ro⟩ rest h)
  | .cond c a b => match ev tm c with
    | some (.bool t) => some (.go ⟨fn, tm, n, .code (ifB t a b) :: k, ds, false, kind, ro⟩ rest h)
    | _ => none
  | .block id b => some (.go ⟨fn, tm, n, .code b :: .inBlock id :: k, ds, false, kind, ro⟩ rest h)
  | .loop b => some (.go ⟨fn, tm, n, .code b :: .inLoop b :: k, ds, false, kind, ro⟩ rest h)
  | .scope b => some (.go ⟨fn, tm, n, .code b :: .inScope b :: k, ds, false, kind, ro⟩ rest h)
  | .ret => match ro with
    | none => some (.go ⟨fn, tm, n, .code .ret :: k, ds, true, kind, ro⟩ rest h)
    | some l => endRoundA kind rest h l (some .ret)
  | .exit id => match exitToA id k with
    | some k' => some (.go ⟨fn, tm, n, k', ds, false, kind, ro⟩ rest h)
    | none => match ro with
      | some l => endRoundA kind rest h l (some (.exit id))
      | none => none
  | .region _ ops draw =>
    ifB draw
      (ifB (drawOK (dopsOf ops.toList)) (drawA P K I fn n ds kind ro k rest ops (schedFrom (dopsOf ops.toList) ((dopsOf ops.toList).filter (·.sync)) 0 0) tm.clean h) none)
      (opsA P K I fn n ds kind ro k rest ops ops.toList tm.clean h)
  | .rangeFunc f ps assign body =>
    match ro, ev tm f with
    | none, some (.func (.func g) first cap) =>
      match h with
      | ⟨d, mm⟩ =>
        match callA P K I .normal ⟨d, mm⟩ g (first.toList ++ [.func (.yield (Nat.succ d)) #[] #[]] ++ cap.toList) with
        | some (.inl fr2) => some (.go fr2 (⟨fn, tm, n, .inRangeFunc (Nat.succ d) :: k, { target := .collected d, args := #[] } :: ds, false, kind, ro⟩ :: rest)
            ⟨Nat.succ (Nat.succ d), (mm.put d .deferred).put (Nat.succ d) (.loop ⟨.ready, none, fn, tm, n, ps, assign, body, d⟩)⟩)
        | _ => none
    | _, _ => none
  | _ => none

/-- One step. -/
noncomputable def stepA (P : Program) (K : Nat → Nat) (I : Intr) (fr : AFr) (rest : List AFr) (h : Hp) : Option St :=
  match fr with
  | ⟨fn, tm, n, todo, ds, ret, kind, ro⟩ =>
  match ret with
  | true =>
    (match ds with
    | [] => match P.funcs.toList[fn]? with
      | some func => match resultsA P h tm func.results.toList with
        | some vs => returnA kind rest h (tupleOf vs)
        | none => none
      | none => none
    | ⟨.collected b, _⟩ :: ds => match h.m.get b with
      | some .deferred => some (.go ⟨fn, tm, n, todo, ds, true, kind, ro⟩ rest (h.upd b .dead))
      | _ => none
    | ⟨.fn (.func g) cap, args⟩ :: ds => match callA P K I .deferred h g (args.toList ++ cap.toList) with
      | some (.inl fr') => some (.go fr' (⟨fn, tm, n, todo, ds, true, kind, ro⟩ :: rest) h)
      | _ => none
    | _ => none)
  | false =>
    (match todo with
    | [] => match ro with
      | none => some (.go ⟨fn, tm, n, [], ds, true, kind, ro⟩ rest h)
      | some l => endRoundA kind rest h l none
    | .code c :: k => codeA P K I fn tm n ds kind ro rest h c k
    | .inBlock _ :: k => some (.go ⟨fn, tm, n, k, ds, false, kind, ro⟩ rest h)
    | .inScope _ :: k => some (.go ⟨fn, tm, n, k, ds, false, kind, ro⟩ rest h)
    | .inLoop b :: k => some (.go ⟨fn, tm, n, .code b :: .inLoop b :: k, ds, false, kind, ro⟩ rest h)
    | .ops full l :: k => opsA P K I fn n ds kind ro k rest full l tm h
    | .draw full l :: k => drawA P K I fn n ds kind ro k rest full l tm h
    | .endRangeFunc l :: k => match loopAt h l with
      | some ⟨state, pending, f2, tm2, n2, ps, assign, body, d⟩ => match state with
        | .busy => none
        | _ => some (.go ⟨fn, tm, n, (match pending with | none => k | some c => .code c :: k), ds, false, kind, ro⟩ rest (h.upd l (.loop ⟨.exhausted, pending, f2, tm2, n2, ps, assign, body, d⟩)))
      | none => none
    | .beginRound :: k => match ro with
      | some l => match loopAt h l with
        | some ⟨state, pending, f2, tm2, n2, ps, assign, body, d⟩ => match state with
          | .ready => some (.go ⟨fn, tm, n, k, ds, false, kind, ro⟩ rest (h.upd l (.loop ⟨.busy, pending, f2, tm2, n2, ps, assign, body, d⟩)))
          | _ => none
        | none => none
      | none => none
    | .inRangeFunc _ :: _ => none)

/-- Many steps. -/
noncomputable def runA (P : Program) (K : Nat → Nat) (I : Intr) (n : Nat) : St → Option St :=
  Nat.rec (motive := fun _ => St → Option St) (fun s => some s)
    (fun _ ih s => St.rec (motive := fun _ => Option St) (fun top rest h => Option.rec (motive := fun _ => Option St) none (fun s' => ih s') (stepA P K I top rest h)) (fun v h => some (.done v h)) s) n

noncomputable def startA (P : Program) (K : Nat → Nat) (f : Nat) (args : List Value) : Option St :=
  match P.funcs.toList[f]? with
  | some fn => match fn.body with
    | some body => some (.go (enterA fn (K f) f body args .normal) [] ⟨0, .nil⟩)
    | none => none
  | none => none
end Go.Ae

namespace Go.Ae

/-- One bit. -/
noncomputable def crcBit (n : Nat) : Nat := nz (Nat.mod n 2) (Nat.div n 2) (Nat.xor (Nat.div n 2) 2197175160)
/-- Eight bits. -/
noncomputable def crcByte (n : Nat) : Nat := crcBit (crcBit (crcBit (crcBit (crcBit (crcBit (crcBit (crcBit n)))))))
noncomputable def crcRun (len : Nat) : Nat → Nat → Nat :=
  Nat.rec (motive := fun _ => Nat → Nat → Nat) (fun n _ => n) (fun _ ih n N => ih (crcByte (Nat.xor n (Nat.mod N 256))) (Nat.div N 256)) len
noncomputable def crcMore (h : Hp) (args : List Value) : Option Value :=
  match args with
  | [.int .u32 (.ofNat s), .slice none 0 0] => ifB (Nat.blt s 4294967296) (some (.int .u32 (.ofNat s))) none
  | [.int .u32 (.ofNat s), .slice (some ⟨B, off, none⟩) len _] =>
    ifB (Nat.blt s 4294967296) (ifB (Nat.blt len 999999)
      (match rowAtB h B with
      | some r => match r.slice off len with
        | some (.bytes n N) => ifB (Nat.beq n len) (some (.int .u32 (.ofNat (Nat.sub 4294967295 (crcRun n (Nat.sub 4294967295 s) N))))) none
        | _ => none
      | none => none) none) none
  | _ => none
end Go.Ae

namespace Go.Ae

/-- How a code ends: it goes on, it returns, it jumps out. -/
inductive Out where
  | go (ds : List Deferred) (tm : Tm) (h : Hp)
  | ret (ds : List Deferred) (tm : Tm) (h : Hp)
  | exit (id : Nat) (ds : List Deferred) (tm : Tm) (h : Hp)
abbrev OO := Option Out
abbrev OVH := Option (Value × Hp)

/-- What a code runs in. -/
structure Env where
  fn : Nat
  n : Nat
  df : Bool
  ro : Bool
  call : Bool → FuncId → List Value → Hp → OVH
  round : Nat → List Value → Hp → OVH
  ext : Nat → Option (Hp → List Value → OVH)

abbrev KK := List Deferred → Hp → Value → OO

noncomputable def qv (h : Hp) (k : Hp → Value → OO) (o : OV) : OO := Option.rec (motive := fun _ => OO) none (k h) o
noncomputable def qhv (k : Hp → Value → OO) (o : Option (Hp × Value)) : OO := Option.rec (motive := fun _ => OO) none (fun p => k p.1 p.2) o
noncomputable def qvh (k : Hp → Value → OO) (o : OVH) : OO := Option.rec (motive := fun _ => OO) none (fun p => k p.2 p.1) o
noncomputable def qnew (h : Hp) (k : Hp → Value → OO) (o : Option (AObj × (Nat → Value))) : OO := Option.rec (motive := fun _ => OO) none (fun p => k (h.add p.1) (p.2 h.next)) o
noncomputable def qst (k : Hp → Value → OO) (o : Option Hp) : OO := Option.rec (motive := fun _ => OO) none (fun h => k h undef) o

/-- Any operation, the plain way. -/
noncomputable def qGen (op : Op) (P : Program) (e : Env) (ds : List Deferred) (m : Tm) (h : Hp) (k : KK) : OO := qhv (k ds) (quickA P h m op)
noncomputable def qPure (op : Op) (P : Program) (e : Env) (ds : List Deferred) (m : Tm) (h : Hp) (k : KK) : OO := qv h (k ds) (aPure P m op)
noncomputable def qNew (op : Op) (P : Program) (e : Env) (ds : List Deferred) (m : Tm) (h : Hp) (k : KK) : OO := qnew h (k ds) (aNew P m op)
noncomputable def qEff (op : Op) (P : Program) (e : Env) (ds : List Deferred) (m : Tm) (h : Hp) (k : KK) : OO := qhv (k ds) (aEff P h m op)

noncomputable def aggK (v : Value) : (List Value → OV) → OV → OV :=
  Value.rec (motive_1 := fun _ => (List Value → OV) → OV → OV) (motive_2 := fun _ => PUnit) (motive_3 := fun _ => PUnit)
    (fun _ _ d => d) (fun _ _ _ d => d) (fun _ _ _ d => d) (fun _ _ _ _ d => d) (fun _ _ d => d) (fun _ _ d => d) (fun _ _ _ _ d => d) (fun _ _ d => d) (fun _ _ d => d) (fun _ _ _ _ _ _ d => d) (fun _ d => d) (fun _ _ _ _ d => d) (fun _ d => d) (fun cs _ f _ => f cs.toList) (fun _ _ _ d => d)
    (fun _ _ => ⟨⟩) ⟨⟩ (fun _ _ _ _ => ⟨⟩) v
noncomputable def binG (P : Program) (op : BinOp) (t : TypeId) (c : Bool) (x y : Value) : OV :=
  aggK x (fun l => aggK y (aEq3 P op t l) (aBin P op t c x y)) (aBin P op t c x y)
noncomputable def binF (P : Program) (op : BinOp) (t : TypeId) (c : Bool) (x y : Value) : OV :=
  vInt x (fun k a => vInt y (intOp op k a) (binG P op t c x y)) (binG P op t c x y)

noncomputable def intD (s d : Option TypeDesc) : Option IntKind := match s, d with | some _, some (.int k) => some k | _, _ => none
noncomputable def convF (s d : TypeId) (x : Operand) (P : Program) (e : Env) (ds : List Deferred) (m : Tm) (h : Hp) (k : KK) : OO :=
  Option.rec (motive := fun _ => OO) (qGen (.convert s d x) P e ds m h k)
    (fun j => qv h (k ds) (one (ev m x) fun v => vInt v (fun _ a => some (.int j (wrapF a j))) none)) (intD (P.underlying s) (P.underlying d))

noncomputable def callR (k : KK) (ds : List Deferred) (o : OVH) : OO := qvh (k ds) o
/-- A call, of whatever function. -/
noncomputable def callX (e : Env) (f : FuncId) (args : List Value) (h : Hp) : OVH := Option.rec (motive := fun _ => OVH) (e.call false f args h) (fun g => g h args) (e.ext f)
noncomputable def callTo (e : Env) (ds : List Deferred) (h : Hp) (k : KK) (c : Option CallTo) : OO :=
  Option.rec (motive := fun _ => OO) none (fun c => CallTo.rec (motive := fun _ => OO) (fun f args => callR k ds (callX e f args h)) (fun l args => callR k ds (e.round l args h)) c) c
noncomputable def evsK (o : Option (List Value)) (f : List Value → OO) : OO := Option.rec (motive := fun _ => OO) none f o
/-- A call of a function that stands by name, else of a value. -/
noncomputable def callVal (f : Operand) : Array Operand → Array TypeId → Program → Env → List Deferred → Tm → Hp → KK → OO :=
  Operand.rec (motive := fun _ => Array Operand → Array TypeId → Program → Env → List Deferred → Tm → Hp → KK → OO)
    (fun t args tys P e ds m h k => callTo e ds h k (aCallee P h m ⟨.value (.tmp t), args, tys⟩))
    (fun v args tys P e ds m h k => callTo e ds h k (aCallee P h m ⟨.value (.const v), args, tys⟩))
    (fun _ _ _ _ _ _ _ _ _ => none)
    (fun g args _ _ e ds m h k => evsK (evs m args.toList) fun vs => callR k ds (callX e g vs h)) f
noncomputable def lenQ (args : Array Operand) (tys : Array TypeId) (P : Program) (e : Env) (ds : List Deferred) (m : Tm) (h : Hp) (k : KK) : OO :=
  Option.rec (motive := fun _ => OO) (qv h (k ds) (aRead P h m (.call ⟨.builtin .len, args, tys⟩))) (k ds h) (aPure P m (.call ⟨.builtin .len, args, tys⟩))
noncomputable def recovQ (args : Array Operand) (_ : Array TypeId) (P : Program) (e : Env) (ds : List Deferred) (_ : Tm) (h : Hp) (k : KK) : OO :=
  List.rec (motive := fun _ => OO) (ifB e.ro none (ifB e.df (k ds h .nilIface) none)) (fun _ _ _ => none) args.toList
noncomputable def builtinQ (b : Builtin) : Array Operand → Array TypeId → Program → Env → List Deferred → Tm → Hp → KK → OO :=
  Builtin.rec (motive := fun _ => Array Operand → Array TypeId → Program → Env → List Deferred → Tm → Hp → KK → OO)
    (fun a t => qEff (.call ⟨.builtin .append, a, t⟩)) (fun a t => qGen (.call ⟨.builtin .cap, a, t⟩)) (fun a t => qGen (.call ⟨.builtin .clear, a, t⟩)) (fun a t => qGen (.call ⟨.builtin .close, a, t⟩))
    (fun a t => qGen (.call ⟨.builtin .complex, a, t⟩)) (fun a t => qEff (.call ⟨.builtin .copy, a, t⟩)) (fun a t => qEff (.call ⟨.builtin .delete, a, t⟩)) (fun a t => qGen (.call ⟨.builtin .imag, a, t⟩))
    lenQ (fun a t => qGen (.call ⟨.builtin .make, a, t⟩)) (fun a t => qGen (.call ⟨.builtin .max, a, t⟩)) (fun a t => qGen (.call ⟨.builtin .min, a, t⟩)) (fun a t => qGen (.call ⟨.builtin .new, a, t⟩))
    (fun a t => qGen (.call ⟨.builtin .panic, a, t⟩)) (fun a t => qGen (.call ⟨.builtin .print, a, t⟩)) (fun a t => qGen (.call ⟨.builtin .println, a, t⟩)) (fun a t => qGen (.call ⟨.builtin .real, a, t⟩))
    recovQ (fun a t => qGen (.call ⟨.builtin .unsafeAdd, a, t⟩)) (fun a t => qGen (.call ⟨.builtin .unsafeSlice, a, t⟩)) (fun a t => qGen (.call ⟨.builtin .unsafeSliceData, a, t⟩)) (fun a t => qGen (.call ⟨.builtin .unsafeString, a, t⟩))
    (fun a t => qGen (.call ⟨.builtin .unsafeStringData, a, t⟩)) (fun a t => qGen (.call ⟨.builtin .unsafeSizeof, a, t⟩)) (fun a t => qGen (.call ⟨.builtin .unsafeAlignof, a, t⟩)) (fun a t => qGen (.call ⟨.builtin .unsafeOffsetof, a, t⟩)) b
noncomputable def callQ (c : Call) : Program → Env → List Deferred → Tm → Hp → KK → OO :=
  Call.rec (motive := fun _ => Program → Env → List Deferred → Tm → Hp → KK → OO)
    (fun callee args tys => Callee.rec (motive := fun _ => Array Operand → Array TypeId → Program → Env → List Deferred → Tm → Hp → KK → OO)
      (fun f => callVal f) (fun r name args tys P e ds m h k => callTo e ds h k (aCallee P h m ⟨.invoke r name, args, tys⟩)) (fun b => builtinQ b) callee args tys) c
noncomputable def deferQ (c : Call) (P : Program) (e : Env) (ds : List Deferred) (m : Tm) (h : Hp) (k : KK) : OO :=
  match c with
  | ⟨.value f, args, _⟩ => match e.ro, ev m f, evs m args.toList with
    | false, some (.func (.func g) first cap), some as => k ({ target := .fn (.func g) cap, args := ⟨first.toList ++ as⟩ } :: ds) h undef
    | _, _, _ => none
  | _ => none

noncomputable def qOp (op : Op) : Program → Env → List Deferred → Tm → Hp → KK → OO :=
  Op.rec (motive := fun _ => Program → Env → List Deferred → Tm → Hp → KK → OO)
    (fun x _ _ ds m h k => qv h (k ds) (ev m x))
    (fun x _ _ ds m h k => qv h (k ds) (ev m x))
    (fun c a b => qPure (.pick c a b))
    (fun t => qNew (.alloc t))
    (fun t v => qNew (.box t v))
    (fun t ps => qPure (.build t ps))
    (fun t n ps => qNew (.buildSlice t n ps))
    (fun t m k v => qEff (.insert t m k v))
    (fun t x P _ ds m h k => qv h (k ds) (one (ev m x) (loadF P h t)))
    (fun t x v => qEff (.store t x v))
    (fun g => qGen (.ready g)) (fun g => qGen (.waits g))
    (fun x _ _ ds m h k => qv h (k ds) (one (ev m x) aNil))
    (fun op t x y _ P _ ds m h k => qv h (k ds) (two (ev m x) (ev m y) (binF P op t (isC x || isC y))))
    (fun op _ x _ _ ds m h k => qv h (k ds) (one (ev m x) (aUn op)))
    convF
    (fun t x => qPure (.sliceToArrayPointer t x))
    (fun t x => qPure (.makeInterface t x))
    (fun f a c => qPure (.makeFunc f a c))
    (fun t r => qNew (.makeMap t r)) (fun t s => qGen (.makeChan t s)) (fun t l c => qNew (.makeSlice t l c))
    (fun t x l h m => qPure (.slice t x l h m))
    (fun t x f P _ ds m h k => qv h (k ds) (one (ev m x) fun v => fieldF P t v f))
    (fun t x f => qPure (.field t x f))
    (fun t x i P _ ds m h k => qv h (k ds) (two (ev m x) (ev m i) (aIndexAddr P t)))
    (fun t x i => qPure (.index t x i))
    (fun t x i ok => qGen (.lookup t x i ok))
    (fun t m k v => qEff (.mapUpdate t m k v))
    (fun t m k => qGen (.mapEntry t m k)) (fun t m s v => qGen (.entryStore t m s v))
    (fun t x => qNew (.range t x)) (fun i s => qEff (.next i s)) (fun i => qGen (.entry i))
    (fun x t a ok => qPure (.typeAssert x t a ok))
    (fun t i _ _ ds m h k => qv h (k ds) (one (ev m t) fun v => aExtract v i))
    callQ (fun c => qGen (.go c)) deferQ (fun x => qGen (.panic x)) (fun c x => qGen (.send c x)) (fun t c ok => qGen (.recv t c ok)) (fun cs b => qGen (.select cs b)) op

/-- The value goes into the operation's temporary. -/
noncomputable def dstK (dst : Option Nat) : Nat → Tm → (List Deferred → Tm → Hp → OO) → KK :=
  Option.rec (motive := fun _ => Nat → Tm → (List Deferred → Tm → Hp → OO) → KK) (fun _ m K ds h _ => K ds m h)
    (fun d n m K ds h v => Bool.rec (motive := fun _ => OO) none (K ds (m.put d v) h) (Nat.blt d n)) dst
noncomputable def guardK (w : Option Bool) (a b : OO) : OO := Option.rec (motive := fun _ => OO) none (fun t => Bool.rec (motive := fun _ => OO) b a t) w
noncomputable def operK (full : Array Oper) (o : Oper) (P : Program) (e : Env) (ds : List Deferred) (m : Tm) (h : Hp) (K : List Deferred → Tm → Hp → OO) : OO :=
  Option.rec (motive := fun _ => OO) (qOp o.op P e ds m h (dstK o.dst e.n m K))
    (fun _ => guardK (wantA full m o) (qOp o.op P e ds m h (dstK o.dst e.n m K)) (dstK o.dst e.n m K ds h undef)) o.guard

noncomputable def opsB (l : List Oper) : Array Oper → Program → Env → List Deferred → Tm → Hp → OO :=
  List.rec (motive := fun _ => Array Oper → Program → Env → List Deferred → Tm → Hp → OO) (fun _ _ _ ds m h => some (.go ds m h))
    (fun o _ ih full P e ds m h => operK full o P e ds m h (ih full P e)) l

noncomputable def lookD (full : Array Oper) (d : DOp) (P : Program) (m : Tm) (h : Hp) (r : OO) : OO :=
  match wantA full m d.o with
  | some true => match aVal P h m d.o.op, d.o.dst with
    | some v, some t => match m.get t with
      | some u => ifB (veq v u) r none
      | none => none
    | _, _ => none
  | some false => r
  | none => none
/-- An operation that goes ahead of its turn: a reckoning, a read, or a new block. -/
noncomputable def aheadD (full : Array Oper) (d : DOp) (P : Program) (e : Env) (ds : List Deferred) (m : Tm) (h : Hp) (K : List Deferred → Tm → Hp → OO) : OO :=
  match wantA full m d.o with
  | some true => match aVal P h m d.o.op with
    | some v => dstK d.o.dst e.n m K ds h v
    | none => match aNew P m d.o.op with
      | some (ob, f) => dstK d.o.dst e.n m K ds (h.add ob) (f h.next)
      | none => none
  | some false => dstK d.o.dst e.n m K ds h undef
  | none => none
noncomputable def drawB (l : List DStep) : Array Oper → Program → Env → List Deferred → Tm → Hp → OO :=
  List.rec (motive := fun _ => Array Oper → Program → Env → List Deferred → Tm → Hp → OO) (fun _ _ _ ds m h => some (.go ds m h))
    (fun s _ ih full P e ds m h => DStep.rec (motive := fun _ => OO)
      (fun d => ifB d.sync (operK full d.o P e ds m h (ih full P e)) (aheadD full d P e ds m h (ih full P e)))
      (fun d => lookD full d P m h (ih full P e ds m h)) s) l

noncomputable def seqO (o : OO) (f : List Deferred → Tm → Hp → OO) : OO :=
  Option.rec (motive := fun _ => OO) none (fun r => Out.rec (motive := fun _ => OO) (fun ds m h => f ds m h) (fun ds m h => some (.ret ds m h)) (fun id ds m h => some (.exit id ds m h)) r) o
noncomputable def blockO (id : Nat) (o : OO) : OO :=
  Option.rec (motive := fun _ => OO) none (fun r => Out.rec (motive := fun _ => OO) (fun ds m h => some (.go ds m h)) (fun ds m h => some (.ret ds m h))
    (fun j ds m h => ifB (Nat.beq j id) (some (.go ds m h)) (some (.exit j ds m h))) r) o
noncomputable def condO (v : OV) (a b : OO) : OO :=
  Option.rec (motive := fun _ => OO) none (fun v => Value.rec (motive_1 := fun _ => OO → OO → OO) (motive_2 := fun _ => PUnit) (motive_3 := fun _ => PUnit)
    (fun t a b => Bool.rec (motive := fun _ => OO) b a t) (fun _ _ _ _ => none) (fun _ _ _ _ => none) (fun _ _ _ _ _ => none) (fun _ _ _ => none) (fun _ _ _ => none) (fun _ _ _ _ _ => none) (fun _ _ _ => none) (fun _ _ _ => none) (fun _ _ _ _ _ _ _ => none) (fun _ _ => none) (fun _ _ _ _ _ => none) (fun _ _ => none) (fun _ _ _ _ => none) (fun _ _ _ _ => none)
    (fun _ _ => ⟨⟩) ⟨⟩ (fun _ _ _ _ => ⟨⟩) v a b) v
/-- The loops' fuel. -/
abbrev LOOPS : Nat := 1000000
noncomputable def loopO (n : Nat) : (List Deferred → Tm → Hp → OO) → List Deferred → Tm → Hp → OO :=
  Nat.rec (motive := fun _ => (List Deferred → Tm → Hp → OO) → List Deferred → Tm → Hp → OO) (fun _ _ _ _ => none) (fun _ ih f ds m h => seqO (f ds m h) (ih f)) n

noncomputable def afterLoop (l : Nat) (ds : List Deferred) (m : Tm) (o : OVH) : OO :=
  match o with
  | some (_, h) => match loopAt h l with
    | some ⟨state, pending, f2, tm2, n2, ps, assign, body, d⟩ => match state, pending with
      | .busy, _ => none
      | _, none => some (.go ds m (h.upd l (.loop ⟨.exhausted, none, f2, tm2, n2, ps, assign, body, d⟩)))
      | _, some .ret => some (.ret ds m (h.upd l (.loop ⟨.exhausted, some .ret, f2, tm2, n2, ps, assign, body, d⟩)))
      | _, some (.exit id) => some (.exit id ds m (h.upd l (.loop ⟨.exhausted, some (.exit id), f2, tm2, n2, ps, assign, body, d⟩)))
      | _, _ => none
    | none => none
  | none => none
noncomputable def rangeO (f : Operand) (ps : Array Tmp) (assign body : Code) (P : Program) (e : Env) (ds : List Deferred) (m : Tm) (h : Hp) : OO :=
  match e.ro, ev m f with
  | false, some (.func (.func g) first cap) =>
    match h with
    | ⟨d, mm⟩ => afterLoop (Nat.succ d) ({ target := .collected d, args := #[] } :: ds) m
        (e.call false g (first.toList ++ [.func (.yield (Nat.succ d)) #[] #[]] ++ cap.toList)
          ⟨Nat.succ (Nat.succ d), (mm.put d .deferred).put (Nat.succ d) (.loop ⟨.ready, none, e.fn, m, e.n, ps, assign, body, d⟩)⟩)
  | _, _ => none

noncomputable def regionD (ops : Array Oper) (P : Program) (e : Env) (ds : List Deferred) (m : Tm) (h : Hp) : OO :=
  ifB (drawOK (dopsOf ops.toList)) (drawB (schedFrom (dopsOf ops.toList) ((dopsOf ops.toList).filter (·.sync)) 0 0) ops P e ds m.clean h) none

noncomputable def exec (c : Code) : Program → Env → List Deferred → Tm → Hp → OO :=
  Code.rec (motive := fun _ => Program → Env → List Deferred → Tm → Hp → OO)
    (fun _ _ ds m h => some (.go ds m h))
    (fun _ ops draw P e ds m h => Bool.rec (motive := fun _ => OO) (opsB ops.toList ops P e ds m.clean h) (regionD ops P e ds m h) draw)
    (fun _ _ iha ihb P e ds m h => seqO (iha P e ds m h) (ihb P e))
    (fun c _ _ iha ihb P e ds m h => condO (ev m c) (iha P e ds m h) (ihb P e ds m h))
    (fun id _ ih P e ds m h => blockO id (ih P e ds m h))
    (fun _ ih P e ds m h => loopO LOOPS (ih P e) ds m h)
    (fun f ps assign body _ _ P e ds m h => rangeO f ps assign body P e ds m h)
    (fun id _ _ ds m h => some (.exit id ds m h))
    (fun _ ih P e ds m h => ih P e ds m h)
    (fun _ _ _ ds m h => some (.go ds m h))
    (fun _ _ _ _ _ _ => none)
    (fun _ _ ds m h => some (.ret ds m h))
    (fun _ _ _ _ _ _ => none) c

/-- What is deferred, the last first. -/
noncomputable def unwind (e : Env) (l : List Deferred) : Hp → Option Hp :=
  List.rec (motive := fun _ => Hp → Option Hp) (fun h => some h)
    (fun d _ ih h => match d with
      | ⟨.collected b, _⟩ => match h.m.get b with
        | some .deferred => ih (h.upd b .dead)
        | _ => none
      | ⟨.fn (.func g) cap, args⟩ => match e.call true g (args.toList ++ cap.toList) h with
        | some (_, h') => ih h'
        | none => none
      | _ => none) l

noncomputable def endF (P : Program) (fn : Func) (e : Env) (o : OO) : OVH :=
  let fin := fun ds m h => match unwind e ds h with
    | some h' => match resultsA P h' m fn.results.toList with
      | some vs => some (tupleOf vs, h')
      | none => none
    | none => none
  match o with
  | some (.go ds m h) => fin ds m h
  | some (.ret ds m h) => fin ds m h
  | _ => none

noncomputable def callF (P : Program) (K : Nat → Nat) (I : Intr) (call : Bool → FuncId → List Value → Hp → OVH) (round : Nat → List Value → Hp → OVH) (df : Bool) (f : FuncId) (args : List Value) (h : Hp) : OVH :=
  match (match ifB df none (I.fn f) with | some g => g h args | none => none) with
  | some v => some (v, h)
  | none => match P.funcs.toList[f]? with
    | some fn => match fn.body with
      | some body =>
        let e : Env := ⟨f, max fn.ntmps args.length, df, false, call, round, I.ext⟩
        endF P fn e (exec body P e [] ⟨[], args.zipIdx.map fun x => (x.2, x.1), Nat.lor (K f) (Nat.sub (Nat.pow 4 args.length) 1)⟩ h)
      | none => none
    | none => none

noncomputable def roundEnd (l : Nat) (jump : Option Code) (h : Hp) : OVH :=
  match loopAt h l with
  | some ⟨_, _, fn, tm, n, ps, assign, body, d⟩ => some (.bool jump.isNone, h.upd l (.loop ⟨(match jump with | none => .ready | some _ => .done), jump, fn, tm, n, ps, assign, body, d⟩))
  | none => none
noncomputable def roundF (P : Program) (ext : Nat → Option (Hp → List Value → OVH)) (call : Bool → FuncId → List Value → Hp → OVH) (round : Nat → List Value → Hp → OVH) (l : Nat) (args : List Value) (h : Hp) : OVH :=
  match loopAt h l with
  | some ⟨_, _, fn, tm, n, ps, assign, body, _⟩ => match putsA n ps.toList args tm with
    | some tm =>
      let e : Env := ⟨fn, n, false, true, call, round, ext⟩
      match exec assign P e [] tm h with
      | some (.go ds tm h) => match loopAt h l with
        | some ⟨.ready, pending, f2, tm2, n2, ps, assign, body2, d⟩ =>
          match exec body P e ds tm (h.upd l (.loop ⟨.busy, pending, f2, tm2, n2, ps, assign, body2, d⟩)) with
          | some (.go _ _ h) => roundEnd l none h
          | some (.ret _ _ h) => roundEnd l (some .ret) h
          | some (.exit id _ _ h) => roundEnd l (some (.exit id)) h
          | none => none
        | _ => none
      | _ => none
    | none => none
  | none => none

structure Calls2 where
  call : Bool → FuncId → List Value → Hp → OVH
  round : Nat → List Value → Hp → OVH
noncomputable def callsN (P : Program) (K : Nat → Nat) (I : Intr) (n : Nat) : Calls2 :=
  Nat.rec (motive := fun _ => Calls2) ⟨fun _ _ _ _ => none, fun _ _ _ => none⟩ (fun _ c => ⟨callF P K I c.call c.round, roundF P I.ext c.call c.round⟩) n
noncomputable def evalA (P : Program) (K : Nat → Nat) (I : Intr) (f : FuncId) (args : List Value) : OVH := (callsN P K I 200).call false f args ⟨0, .nil⟩
end Go.Ae
