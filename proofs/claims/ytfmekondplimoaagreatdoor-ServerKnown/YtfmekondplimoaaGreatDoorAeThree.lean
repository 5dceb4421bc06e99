/- The evaluator answers as the model does, whatever order and capacities are drawn. Conditions: none. -/
import Derived.Test.YtfmekondplimoaaGreatDoorAeTwo
import Derived.AtR
import Derived.Orders

namespace Go.Ae
variable {P : Program} {w0 : World} {pend : Nat → Option AObj}

/-- Deferred calls. -/
inductive DR (γ : Gm) : Deferred → Deferred → Prop where
  | fn {g : FuncId} {cap cap' args args' : Array Value} (hc : VRs γ cap.toList cap'.toList) (ha : VRs γ args.toList args'.toList) : DR γ ⟨.fn (.func g) cap, args⟩ ⟨.fn (.func g) cap', args'⟩
  | coll {d : Nat} {p : Pl} (h : γ d = some p) : DR γ ⟨.collected d, #[]⟩ ⟨.collected p.b, #[]⟩
inductive DRs (γ : Gm) : List Deferred → List Deferred → Prop where
  | nil : DRs γ [] []
  | cons {d d' : Deferred} {l l' : List Deferred} (h : DR γ d d') (hl : DRs γ l l') : DRs γ (d :: l) (d' :: l')
theorem DR.mono {γ γ' : Gm} (hg : γ.le γ') {d d' : Deferred} (h : DR γ d d') : DR γ' d d' := by
  cases h with
  | fn hc ha => exact .fn (hc.mono hg) (ha.mono hg)
  | coll h => exact .coll (hg _ _ h)
theorem DRs.mono {γ γ' : Gm} (hg : γ.le γ') : ∀ {l l' : List Deferred}, DRs γ l l' → DRs γ' l l'
  | _, _, .nil => .nil
  | _, _, .cons h hl => .cons (h.mono hg) (hl.mono hg)

/-- A frame's state. -/
structure FR (γ : Gm) (n : Nat) (ds : List Deferred) (m : Tm) (a : Act) : Prop where
  tm : Tm.R γ m a.tmps
  size : a.tmps.size = n
  defers : DRs γ ds a.defers
theorem FR.mono {γ γ' : Gm} (hg : γ.le γ') {n : Nat} {ds : List Deferred} {m : Tm} {a : Act} (h : FR γ n ds m a) : FR γ' n ds m a := ⟨h.tm.mono hg, h.size, h.defers.mono hg⟩

/-- Where a code's run leaves the machine. -/
def ArrO (P : Program) (M : Machine) (b : Frame) (k : List Item) (cs : List Frame) (a : Act) (w : World) : Out → Prop
  | .go .. => Steps P M (lone (b.atR a k) cs w)
  | .ret .. => ∃ k1, Steps P M (lone (b.atR a (.code .ret :: k1)) cs w)
  | .exit id .. => ∃ k1, exitTo id k1 = exitTo id k ∧ Steps P M (lone (b.atR a (.code (.exit id) :: k1)) cs w)
theorem ArrO.of_steps {M M1 : Machine} {b : Frame} {k : List Item} {cs : List Frame} {a : Act} {w : World} {o : Out} (h : Steps P M M1) (h' : ArrO P M1 b k cs a w o) : ArrO P M b k cs a w o := by
  cases o with
  | go => exact h.trans h'
  | ret => obtain ⟨k1, hs⟩ := h'; exact ⟨k1, h.trans hs⟩
  | exit id => obtain ⟨k1, e, hs⟩ := h'; exact ⟨k1, e, h.trans hs⟩

namespace Out
def ds : Out → List Deferred | .go d _ _ => d | .ret d _ _ => d | .exit _ d _ _ => d
def tm : Out → Tm | .go _ m _ => m | .ret _ m _ => m | .exit _ _ m _ => m
def h : Out → Hp | .go _ _ h => h | .ret _ _ h => h | .exit _ _ _ h => h
end Out

/-- A code's run, as it ought to be, from one state: for the base frames and callers of a kind. -/
def RunOK (P : Program) (w0 : World) (pend : Nat → Option AObj) (γ : Gm) (n : Nat) (M : Machine) (b : Frame) (k : List Item) (cs : List Frame) (o : Out) : Prop :=
  ∃ γ' a' w', γ.le γ' ∧ ArrO P M b k cs a' w' o ∧ FR γ' n o.ds o.tm a' ∧ HR w0 γ' pend o.h w'
theorem RunOK.of_steps {γ γ1 : Gm} {n : Nat} {M M1 : Machine} {b : Frame} {k : List Item} {cs : List Frame} {o : Out} (hg : γ.le γ1) (h : Steps P M M1) (h' : RunOK P w0 pend γ1 n M1 b k cs o) : RunOK P w0 pend γ n M b k cs o := by
  obtain ⟨γ', a', w', e1, e2, e3, e4⟩ := h'
  exact ⟨γ', a', w', Gm.le_trans hg e1, .of_steps h e2, e3, e4⟩

/-- The base frame and the callers that a code may run over. -/
structure BaseOK (e : Env) (b : Frame) (cs : List Frame) : Prop where
  fn : b.fn = e.fn
  ro : e.ro = false → b.roundOf = none
  df : e.df = true → b.kind = .deferred ∧ ∃ c cs', cs = c :: cs' ∧ c.mode = .returning

def ExecOK (P : Program) (e : Env) (c : Code) : Prop :=
  ∀ w0 pend γ ds m h o, exec c P e ds m h = some o → ∀ b k cs a w, BaseOK e b cs → FR γ e.n ds m a → HR w0 γ pend h w → RunOK P w0 pend γ e.n (lone (b.atR a (.code c :: k)) cs w) b k cs o

theorem stepR_scope {b : Frame} {a : Act} {k : List Item} {cs : List Frame} {w : World} {c : Code} : step P (lone (b.atR a (.code (.scope c) :: k)) cs w) = .next (lone (b.atR a (.code c :: .inScope c :: k)) cs w) :=
  step_lone_go (by simp [stepG, stepG.exec, Frame.atR])
theorem stepR_inScope {b : Frame} {a : Act} {k : List Item} {cs : List Frame} {w : World} {c : Code} : step P (lone (b.atR a (.inScope c :: k)) cs w) = .next (lone (b.atR a k) cs w) :=
  step_lone_go (by simp [stepG, stepG.exec, Frame.atR])

theorem seqO_some {r : OO} {f : List Deferred → Tm → Hp → OO} {o : Out} (h : seqO r f = some o) :
    (∃ ds m h', r = some (.go ds m h') ∧ f ds m h' = some o) ∨ (∃ ds m h', r = some (.ret ds m h') ∧ o = .ret ds m h') ∨ (∃ id ds m h', r = some (.exit id ds m h') ∧ o = .exit id ds m h') := by
  cases r with
  | none => cases h
  | some r =>
    cases r with
    | go ds m h' => exact .inl ⟨ds, m, h', rfl, h⟩
    | ret ds m h' => exact .inr (.inl ⟨ds, m, h', rfl, (Option.some.inj h).symm⟩)
    | exit id ds m h' => exact .inr (.inr ⟨id, ds, m, h', rfl, (Option.some.inj h).symm⟩)

theorem exec_seq {e : Env} {x y : Code} (hx : ExecOK P e x) (hy : ExecOK P e y) : ExecOK P e (.seq x y) := by
  intro w0 pend γ ds m h o he b k cs a w hb hf hr
  rcases seqO_some (r := exec x P e ds m h) (f := exec y P e) he with ⟨ds1, m1, h1, e1, e2⟩ | ⟨ds1, m1, h1, e1, rfl⟩ | ⟨id, ds1, m1, h1, e1, rfl⟩
  · obtain ⟨γ1, a1, w1, g1, s1, f1, r1⟩ := hx w0 pend γ ds m h _ e1 b (.code y :: k) cs a w hb hf hr
    exact (hy w0 pend γ1 ds1 m1 h1 o e2 b k cs a1 w1 hb f1 r1).of_steps g1 (.head stepR_seq s1)
  · obtain ⟨γ1, a1, w1, g1, ⟨k1, s1⟩, f1, r1⟩ := hx w0 pend γ ds m h _ e1 b (.code y :: k) cs a w hb hf hr
    exact ⟨γ1, a1, w1, g1, ⟨k1, .head stepR_seq s1⟩, f1, r1⟩
  · obtain ⟨γ1, a1, w1, g1, ⟨k1, q1, s1⟩, f1, r1⟩ := hx w0 pend γ ds m h _ e1 b (.code y :: k) cs a w hb hf hr
    exact ⟨γ1, a1, w1, g1, ⟨k1, q1, .head stepR_seq s1⟩, f1, r1⟩

theorem exec_loop {e : Env} {c : Code} (hc : ExecOK P e c) : ExecOK P e (.loop c) := by
  intro w0 pend γ ds m h o he b k cs a w hb hf hr
  have key : ∀ n γ ds m h, loopO n (exec c P e) ds m h = some o → ∀ a w, FR γ e.n ds m a → HR w0 γ pend h w → RunOK P w0 pend γ e.n (lone (b.atR a (.code c :: .inLoop c :: k)) cs w) b k cs o := by
    intro n
    induction n with
    | zero => intro γ ds m h he; cases he
    | succ n ih =>
      intro γ ds m h he a w hf hr
      rcases seqO_some (r := exec c P e ds m h) (f := loopO n (exec c P e)) he with ⟨ds1, m1, h1, e1, e2⟩ | ⟨ds1, m1, h1, e1, rfl⟩ | ⟨id, ds1, m1, h1, e1, rfl⟩
      · obtain ⟨γ1, a1, w1, g1, s1, f1, r1⟩ := hc w0 pend γ ds m h _ e1 b (.inLoop c :: k) cs a w hb hf hr
        exact (ih γ1 ds1 m1 h1 e2 a1 w1 f1 r1).of_steps g1 (Steps.trans s1 (.one stepR_inLoop))
      · obtain ⟨γ1, a1, w1, g1, ⟨k1, s1⟩, f1, r1⟩ := hc w0 pend γ ds m h _ e1 b (.inLoop c :: k) cs a w hb hf hr
        exact ⟨γ1, a1, w1, g1, ⟨k1, s1⟩, f1, r1⟩
      · obtain ⟨γ1, a1, w1, g1, ⟨k1, q1, s1⟩, f1, r1⟩ := hc w0 pend γ ds m h _ e1 b (.inLoop c :: k) cs a w hb hf hr
        exact ⟨γ1, a1, w1, g1, ⟨k1, q1, s1⟩, f1, r1⟩
  exact (key LOOPS γ ds m h he a w hf hr).of_steps (Gm.le_refl _) (.one stepR_loop)

theorem exec_block {e : Env} {id : Nat} {c : Code} (hc : ExecOK P e c) : ExecOK P e (.block id c) := by
  intro w0 pend γ ds m h o he b k cs a w hb hf hr
  have he' : blockO id (exec c P e ds m h) = some o := he
  cases hx : exec c P e ds m h with
  | none => rw [hx] at he'; cases he'
  | some r =>
    rw [hx] at he'
    obtain ⟨γ1, a1, w1, g1, s1, f1, r1⟩ := hc w0 pend γ ds m h _ hx b (.inBlock id :: k) cs a w hb hf hr
    cases r with
    | go ds1 m1 h1 => cases he'; exact ⟨γ1, a1, w1, g1, .head stepR_block (Steps.trans s1 (.one stepR_inBlock)), f1, r1⟩
    | ret ds1 m1 h1 => cases he'; obtain ⟨k1, s1⟩ := s1; exact ⟨γ1, a1, w1, g1, ⟨k1, .head stepR_block s1⟩, f1, r1⟩
    | exit j ds1 m1 h1 =>
      have he2 : ifB (Nat.beq j id) (some (Out.go ds1 m1 h1)) (some (.exit j ds1 m1 h1)) = some o := he'
      rw [ifB_beq] at he2
      obtain ⟨k1, q1, s1⟩ := s1
      split at he2
      · rename_i hj
        cases he2
        have hk : exitTo j k1 = some k := by rw [q1]; simp [exitTo, hj]
        exact ⟨γ1, a1, w1, g1, .head stepR_block (Steps.trans s1 (.one (stepR_exit hk))), f1, r1⟩
      · rename_i hj
        cases he2
        have hk : exitTo j k1 = exitTo j k := by
          rw [q1]
          have : (id == j) = false := by simp; exact fun h => hj h.symm
          simp [exitTo, this]
        exact ⟨γ1, a1, w1, g1, ⟨k1, hk, .head stepR_block s1⟩, f1, r1⟩

theorem exec_scope {e : Env} {c : Code} (hc : ExecOK P e c) : ExecOK P e (.scope c) := by
  intro w0 pend γ ds m h o he b k cs a w hb hf hr
  obtain ⟨γ1, a1, w1, g1, s1, f1, r1⟩ := hc w0 pend γ ds m h o he b (.inScope c :: k) cs a w hb hf hr
  cases o with
  | go ds1 m1 h1 => exact ⟨γ1, a1, w1, g1, .head stepR_scope (Steps.trans s1 (.one stepR_inScope)), f1, r1⟩
  | ret ds1 m1 h1 => obtain ⟨k1, s1⟩ := s1; exact ⟨γ1, a1, w1, g1, ⟨k1, .head stepR_scope s1⟩, f1, r1⟩
  | exit j ds1 m1 h1 => obtain ⟨k1, q1, s1⟩ := s1; exact ⟨γ1, a1, w1, g1, ⟨k1, q1, .head stepR_scope s1⟩, f1, r1⟩

theorem condO_some {v : OV} {x y : OO} {o : Out} (h : condO v x y = some o) : ∃ t, v = some (.bool t) ∧ (if t = true then x else y) = some o := by
  cases v with
  | none => cases h
  | some v =>
    cases v with
    | bool t => refine ⟨t, rfl, ?_⟩; cases t <;> exact h
    | _ => cases h
theorem exec_cond {e : Env} {c : Operand} {x y : Code} (hx : ExecOK P e x) (hy : ExecOK P e y) : ExecOK P e (.cond c x y) := by
  intro w0 pend γ ds m h o he b k cs a w hb hf hr
  obtain ⟨t, hv, ho⟩ := condO_some (v := ev m c) (x := exec x P e ds m h) (y := exec y P e ds m h) he
  have hc : a.eval c = .bool t := by
    have := ev_vr hf.tm hv
    generalize a.eval c = u at this
    cases this; rfl
  cases t with
  | true => exact (hx w0 pend γ ds m h o ho b k cs a w hb hf hr).of_steps (Gm.le_refl _) (.one (stepR_cond hc))
  | false => exact (hy w0 pend γ ds m h o ho b k cs a w hb hf hr).of_steps (Gm.le_refl _) (.one (stepR_cond hc))

/-- All codes, where the regions and the loops over functions are as they ought to be. -/
theorem exec_ok {e : Env} (hreg : ∀ id ops draw, ExecOK P e (.region id ops draw)) (hrng : ∀ f ps x y, ExecOK P e (.rangeFunc f ps x y)) : ∀ c, ExecOK P e c := by
  intro c
  induction c with
  | skip => intro w0 pend γ ds m h o he b k cs a w hb hf hr; cases he; exact ⟨γ, a, w, Gm.le_refl _, .one stepR_skip, hf, hr⟩
  | region id ops draw => exact hreg id ops draw
  | seq x y hx hy => exact exec_seq hx hy
  | cond c x y hx hy => exact exec_cond hx hy
  | block id c hc => exact exec_block hc
  | loop c hc => exact exec_loop hc
  | rangeFunc f ps x y _ _ => exact hrng f ps x y
  | exit id => intro w0 pend γ ds m h o he b k cs a w hb hf hr; cases he; exact ⟨γ, a, w, Gm.le_refl _, ⟨k, rfl, Steps.refl _ _⟩, hf, hr⟩
  | scope c hc => exact exec_scope hc
  | label l => intro w0 pend γ ds m h o he b k cs a w hb hf hr; cases he; exact ⟨γ, a, w, Gm.le_refl _, .one stepR_label, hf, hr⟩
  | goto l => intro w0 pend γ ds m h o he; cases he
  | ret => intro w0 pend γ ds m h o he b k cs a w hb hf hr; cases he; exact ⟨γ, a, w, Gm.le_refl _, ⟨k, Steps.refl _ _⟩, hf, hr⟩
  | refuse s => intro w0 pend γ ds m h o he; cases he
end Go.Ae

namespace Go.Ae
variable {P : Program} {w0 : World} {pend : Nat → Option AObj}

/-- A function's run from its first frame to where it stands, all deferred done, its results ready. -/
def RunsF (P : Program) (kind : CallKind) (f : FuncId) (args : Array Value) (w : World) (R : Value → World → Prop) : Prop :=
  ∀ cs, (kind = .deferred → ∃ c cs', cs = c :: cs' ∧ c.mode = .returning) →
    ∃ v w' fr, R v w' ∧ Steps P (lone (Frame.enter P f args kind) cs w) (lone fr cs w') ∧ fr.mode = .returning ∧ fr.defers = [] ∧ fr.kind = kind ∧
      ∃ fn, P.funcs[fr.fn]? = some fn ∧ (results fn fr.tmps).run P w' = .ok v w' ∧ fr.fn = f

def Enterable (P : Program) (f : FuncId) : Prop := ∃ fn, P.funcs[f]? = some fn ∧ (fn.name == "runtime.NumGoroutine") = false ∧ fn.body.isNone = false
theorem run_callFunc {f : FuncId} {args : Array Value} {w : World} (h : Enterable P f) : (callFunc f args).run P w = .ok (.enter f args) w := by
  obtain ⟨fn, h1, h2, h3⟩ := h
  simp only [callFunc, bind, Sem.run_bind', program, Sem.run, Result.andThen_ok, h1, h2, h3, Bool.false_eq_true, if_false]
  rfl

/-- What calls ought to be. -/
def CallOK (P : Program) (call : Bool → FuncId → List Value → Hp → OVH) : Prop :=
  ∀ df f args h v h', call df f args h = some (v, h') → Enterable P f ∧ ∀ w0 pend γ w args', VRs γ args args'.toList → HR w0 γ pend h w →
    RunsF P (if df = true then .deferred else .normal) f args' w fun v' w' => ∃ γ', γ.le γ' ∧ VR γ' v v' ∧ HR w0 γ' pend h' w'

section
variable {b : Frame} {a : Act} {k : List Item} {cs : List Frame} {w w' : World} {ops : Array Oper} {i : Nat} {rest : List Nat} {o : Oper}

theorem stepR_value {v : Value} (ho : ops[i]? = some o) (hw : Region.wanted o (yielded ops a.tmps) = true) (hr : (o.semAt b.roundOf a.eval).run P w = .ok (.value v) w') :
    step P (lone (b.atR a (.inRegion ops (i :: rest) :: k)) cs w) = .next (lone (b.atR (a.put o.dst v) (.inRegion ops rest :: k)) cs w') := by
  have e : (ops[i]?).bind (·.dst) = o.dst := by rw [ho]; rfl
  rw [← e, ← Frame.finish_atR]
  refine step_lone_go ?_
  rw [stepGR_op ho hw]
  simp [stepG.apply, Sem.runT_eq, hr]

theorem stepR_skipped (ho : ops[i]? = some o) (hw : Region.wanted o (yielded ops a.tmps) = true) (hr : (o.semAt b.roundOf a.eval).run P w = .ok .skip w') :
    step P (lone (b.atR a (.inRegion ops (i :: rest) :: k)) cs w) = .next (lone (b.atR (a.put o.dst undef) (.inRegion ops rest :: k)) cs w') := by
  have e : (ops[i]?).bind (·.dst) = o.dst := by rw [ho]; rfl
  rw [← e, ← Frame.finish_atR]
  refine step_lone_go ?_
  rw [stepGR_op ho hw]
  simp [stepG.apply, Sem.runT_eq, hr]

theorem stepR_enter {f : FuncId} {args : Array Value} (ho : ops[i]? = some o) (hw : Region.wanted o (yielded ops a.tmps) = true) (hr : (o.semAt b.roundOf a.eval).run P w = .ok (.enter f args) w') :
    step P (lone (b.atR a (.inRegion ops (i :: rest) :: k)) cs w) = .next (lone (Frame.enter P f args .normal) (b.atR a (.inRegion ops (i :: rest) :: k) :: cs) w') := by
  refine step_lone_go ?_
  rw [stepGR_op ho hw]
  simp [stepG.apply, Sem.runT_eq, hr, Frame.atR]

theorem stepR_defer {d : Deferred} (ho : ops[i]? = some o) (hw : Region.wanted o (yielded ops a.tmps) = true) (hr : (o.semAt b.roundOf a.eval).run P w = .ok (.defer d) w') :
    step P (lone (b.atR a (.inRegion ops (i :: rest) :: k)) cs w) = .next (lone (b.atR (({ a with defers := d :: a.defers } : Act).put o.dst undef) (.inRegion ops rest :: k)) cs w') := by
  have e : (ops[i]?).bind (·.dst) = o.dst := by rw [ho]; rfl
  rw [← e, ← Frame.finish_atR]
  refine step_lone_go ?_
  rw [stepGR_op ho hw]
  simp [stepG.apply, Sem.runT_eq, hr, Frame.atR]

/-- Back from a call. -/
theorem step_back {fr c : Frame} {v : Value} {fn : Func} (hm : fr.mode = .returning) (hd : fr.defers = []) (hk : fr.kind = .normal) (hf : P.funcs[fr.fn]? = some fn) (hr : (results fn fr.tmps).run P w = .ok v w) :
    step P (lone fr (c :: cs) w) = .next (lone (c.finish v) cs w) :=
  step_leave_returned ⟨hm, hd, hk, fn, hf, hr⟩
theorem step_back_deferred {fr c : Frame} {v : Value} {fn : Func} (hm : fr.mode = .returning) (hd : fr.defers = []) (hk : fr.kind = .deferred) (hc : c.mode = .returning) (hf : P.funcs[fr.fn]? = some fn) (hr : (results fn fr.tmps).run P w = .ok v w) :
    step P (lone fr (c :: cs) w) = .next (lone c cs w) :=
  step_lone_go (by simp [stepG, Go.unwind, doReturn, hm, hd, hk, hf, hr, hc])
end
end Go.Ae

namespace Go.Ae
variable {P : Program} {w0 : World} {pend : Nat → Option AObj}

/-- The operation at i goes through: what it hands on stands for v. -/
def OpRun (P : Program) (w0 : World) (pend : Nat → Option AObj) (γ : Gm) (b : Frame) (k : List Item) (cs : List Frame) (ops : Array Oper) (i : Nat) (rest : List Nat) (o : Oper) (a : Act) (w : World) (ds' : List Deferred) (h' : Hp) (v : Value) : Prop :=
  ∃ γ' a2 w' v', γ.le γ' ∧ a2.tmps = a.tmps ∧ DRs γ' ds' a2.defers ∧ VR γ' v v' ∧ HR w0 γ' pend h' w' ∧
    Steps P (lone (b.atR a (.inRegion ops (i :: rest) :: k)) cs w) (lone (b.atR (Act.put a2 o.dst v') (.inRegion ops rest :: k)) cs w')

theorem quick_not_defer {h : Hp} {m : Tm} {c : Call} : quickA P h m (.defer c) = none := rfl

section
variable {γ : Gm} {b : Frame} {k : List Item} {cs : List Frame} {ops : Array Oper} {i : Nat} {rest : List Nat} {o : Oper} {a : Act} {w : World} {ds : List Deferred} {h h' : Hp} {m : Tm} {v : Value}

theorem val_run (ho : ops[i]? = some o) (hw : Region.wanted o (yielded ops a.tmps) = true) (hd : ∀ c, o.op ≠ .defer c) (ht : Tm.R γ m a.tmps) (hds : DRs γ ds a.defers) (hr : HR w0 γ pend h w)
    (hv : aVal P h m o.op = some v) : OpRun P w0 pend γ b k cs ops i rest o a w ds h v := by
  obtain ⟨v', e1, e2⟩ := aVal_sim (P := P) ht hr hv
  exact ⟨γ, a, w, v', Gm.le_refl _, rfl, hds, e2, hr, .one (stepR_value ho hw (by rw [Oper.semAt_eq _ _ _ hd]; exact e1))⟩

theorem new_run (ho : ops[i]? = some o) (hw : Region.wanted o (yielded ops a.tmps) = true) (hd : ∀ c, o.op ≠ .defer c) (ht : Tm.R γ m a.tmps) (hds : DRs γ ds a.defers) (hr : HR w0 γ pend h w)
    {ob : AObj} {f : Nat → Value} (hv : aNew P m o.op = some (ob, f)) : OpRun P w0 pend γ b k cs ops i rest o a w ds (h.add ob) (f h.next) := by
  have hn : γ h.next = none := hr.fresh_none (Nat.le_refl _)
  obtain ⟨ob', N, v', w1, e1, e2, e3, e4⟩ := aNew_sim (P := P) ht hv hn w
  have hg : γ.le (γ.upd h.next ⟨w.heap.size, 0, N⟩) := Gm.le_upd _ hn
  exact ⟨_, a, w1, v', hg, rfl, hds.mono hg, e4, hr.alloc rfl e2 e3, .one (stepR_value ho hw (by rw [Oper.semAt_eq _ _ _ hd]; exact e1))⟩

theorem eff_run (ho : ops[i]? = some o) (hw : Region.wanted o (yielded ops a.tmps) = true) (hd : ∀ c, o.op ≠ .defer c) (ht : Tm.R γ m a.tmps) (hds : DRs γ ds a.defers) (hr : HR w0 γ pend h w)
    (hv : aEff P h m o.op = some (h', v)) : OpRun P w0 pend γ b k cs ops i rest o a w ds h' v := by
  obtain ⟨γ', w', n, v', g, e1, e2, e3, e4⟩ := aEff_sim (P := P) ht hr hv
  rcases e2 with rfl | ⟨rfl, rfl⟩
  · exact ⟨γ', a, w', v', g, rfl, hds.mono g, e4, e3, .one (stepR_value ho hw (by rw [Oper.semAt_eq _ _ _ hd]; exact e1))⟩
  · exact ⟨γ', a, w', undef, g, rfl, hds.mono g, e4, e3, .one (stepR_skipped ho hw (by rw [Oper.semAt_eq _ _ _ hd]; exact e1))⟩

theorem quick_run (ho : ops[i]? = some o) (hw : Region.wanted o (yielded ops a.tmps) = true) (ht : Tm.R γ m a.tmps) (hds : DRs γ ds a.defers) (hr : HR w0 γ pend h w)
    (hv : quickA P h m o.op = some (h', v)) : OpRun P w0 pend γ b k cs ops i rest o a w ds h' v := by
  have hd : ∀ c, o.op ≠ .defer c := by
    intro c e; rw [e, quick_not_defer] at hv; cases hv
  unfold quickA at hv
  split at hv
  · rename_i u hu; cases hv; exact val_run ho hw hd ht hds hr hu
  · split at hv
    · rename_i ob f hu; cases hv; exact new_run ho hw hd ht hds hr hu
    · exact eff_run ho hw hd ht hds hr hv
end
end Go.Ae

namespace Go.Ae
variable {P : Program}

/-- The ways in which an operation goes on. -/
inductive Way (P : Program) (e : Env) (ds : List Deferred) (m : Tm) (h : Hp) : Op → List Deferred → Hp → Value → Prop where
  | quick {op : Op} {h' : Hp} {v : Value} (hq : quickA P h m op = some (h', v)) : Way P e ds m h op ds h' v
  | call {c : Call} {f : FuncId} {args : List Value} {v : Value} {h' : Hp} (hc : aCallee P h m c = some (.fn f args)) (hr : e.call false f args h = some (v, h')) : Way P e ds m h (.call c) ds h' v
  | ext {c : Call} {f : FuncId} {args : List Value} {v : Value} {h' : Hp} {g : Hp → List Value → OVH} (hc : aCallee P h m c = some (.fn f args)) (hg : e.ext f = some g) (hr : g h args = some (v, h')) : Way P e ds m h (.call c) ds h' v
  | round {c : Call} {l : Nat} {args : List Value} {v : Value} {h' : Hp} (hc : aCallee P h m c = some (.round l args)) (hr : e.round l args h = some (v, h')) : Way P e ds m h (.call c) ds h' v
  | recov {tys : Array TypeId} (h1 : e.ro = false) (h2 : e.df = true) : Way P e ds m h (.call ⟨.builtin .recover, ⟨[]⟩, tys⟩) ds h .nilIface
  | defer {f : Operand} {args : Array Operand} {tys : Array TypeId} {g : FuncId} {first cap : Array Value} {as : List Value} (h1 : e.ro = false) (h2 : ev m f = some (.func (.func g) first cap)) (h3 : evs m args.toList = some as) :
      Way P e ds m h (.defer ⟨.value f, args, tys⟩) ({ target := .fn (.func g) cap, args := ⟨first.toList ++ as⟩ } :: ds) h undef

theorem qv_some {h : Hp} {k : Hp → Value → OO} {o : OV} {out : Out} (hq : qv h k o = some out) : ∃ v, o = some v ∧ k h v = some out := by
  cases o with
  | none => cases hq
  | some v => exact ⟨v, rfl, hq⟩
theorem qhv_some {k : Hp → Value → OO} {o : Option (Hp × Value)} {out : Out} (hq : qhv k o = some out) : ∃ h v, o = some (h, v) ∧ k h v = some out := by
  cases o with
  | none => cases hq
  | some p => exact ⟨p.1, p.2, rfl, hq⟩
theorem qvh_some {k : Hp → Value → OO} {o : OVH} {out : Out} (hq : qvh k o = some out) : ∃ v h, o = some (v, h) ∧ k h v = some out := by
  cases o with
  | none => cases hq
  | some p => exact ⟨p.1, p.2, rfl, hq⟩
theorem qnew_some {h : Hp} {k : Hp → Value → OO} {o : Option (AObj × (Nat → Value))} {out : Out} (hq : qnew h k o = some out) : ∃ ob f, o = some (ob, f) ∧ k (h.add ob) (f h.next) = some out := by
  cases o with
  | none => cases hq
  | some p => exact ⟨p.1, p.2, rfl, hq⟩

variable {e : Env} {ds : List Deferred} {m : Tm} {h : Hp} {k : KK} {out : Out} {op : Op}
theorem way_val {v : Value} (hv : aVal P h m op = some v) : Way P e ds m h op ds h v := .quick (by unfold quickA; rw [hv])
theorem way_pure {v : Value} (hv : aPure P m op = some v) : Way P e ds m h op ds h v := way_val (by unfold aVal; rw [hv])
theorem way_gen (hq : qGen op P e ds m h k = some out) : ∃ ds' h' v, Way P e ds m h op ds' h' v ∧ k ds' h' v = some out := by
  obtain ⟨h', v, h1, h2⟩ := qhv_some hq
  exact ⟨ds, h', v, .quick h1, h2⟩
theorem way_qPure (hq : qPure op P e ds m h k = some out) : ∃ ds' h' v, Way P e ds m h op ds' h' v ∧ k ds' h' v = some out := by
  obtain ⟨v, h1, h2⟩ := qv_some hq
  exact ⟨ds, h, v, way_pure h1, h2⟩
theorem way_qNew (hn : ∀ {v}, aVal P h m op ≠ some v) (hq : qNew op P e ds m h k = some out) : ∃ ds' h' v, Way P e ds m h op ds' h' v ∧ k ds' h' v = some out := by
  obtain ⟨ob, f, h1, h2⟩ := qnew_some hq
  refine ⟨ds, _, _, .quick ?_, h2⟩
  unfold quickA
  cases hv : aVal P h m op with
  | some v => exact absurd hv hn
  | none => dsimp only; rw [h1]
theorem way_qEff (hn : ∀ {v}, aVal P h m op ≠ some v) (hn2 : ∀ {v}, aNew P m op ≠ some v) (hq : qEff op P e ds m h k = some out) : ∃ ds' h' v, Way P e ds m h op ds' h' v ∧ k ds' h' v = some out := by
  obtain ⟨h', v, h1, h2⟩ := qhv_some hq
  refine ⟨ds, _, _, .quick ?_, h2⟩
  unfold quickA
  cases hv : aVal P h m op with
  | some v => exact absurd hv hn
  | none =>
    dsimp only
    cases hw : aNew P m op with
    | some v => exact absurd hw hn2
    | none => exact h1
theorem way_callX {c : Call} {f : FuncId} {args : List Value} {v : Value} {h' : Hp} (hc : aCallee P h m c = some (.fn f args)) (hr : callX e f args h = some (v, h')) : Way P e ds m h (.call c) ds h' v := by
  unfold callX at hr
  cases hg : e.ext f with
  | none => rw [hg] at hr; exact .call hc hr
  | some g => rw [hg] at hr; exact .ext hc hg hr
theorem way_callTo {c : Call} {ct : Option CallTo} (hc : aCallee P h m c = ct) (hq : callTo e ds h k ct = some out) : ∃ ds' h' v, Way P e ds m h (.call c) ds' h' v ∧ k ds' h' v = some out := by
  cases ct with
  | none => cases hq
  | some ct =>
    cases ct with
    | fn f args => obtain ⟨v, h', h1, h2⟩ := qvh_some hq; exact ⟨ds, h', v, way_callX hc h1, h2⟩
    | round l args => obtain ⟨v, h', h1, h2⟩ := qvh_some hq; exact ⟨ds, h', v, .round hc h1, h2⟩

theorem binG_eq {op : BinOp} {t : TypeId} {c : Bool} {x y v : Value} (hv : binG P op t c x y = some v) : (∃ l j, x = .agg ⟨l⟩ ∧ y = .agg ⟨j⟩ ∧ aEq3 P op t l j = some v) ∨ ((∀ l j, ¬ (x = .agg ⟨l⟩ ∧ y = .agg ⟨j⟩)) ∧ aBin P op t c x y = some v) := by
  cases x <;> cases y <;> first
    | exact .inr ⟨fun l j h => by first | (have e := h.1; cases e; done) | (have e := h.2; cases e; done), hv⟩
    | exact .inl ⟨_, _, rfl, rfl, hv⟩
theorem binF_eq {op : BinOp} {t : TypeId} {c : Bool} {x y v : Value} (hv : binF P op t c x y = some v) : (∃ l j, x = .agg ⟨l⟩ ∧ y = .agg ⟨j⟩ ∧ aEq3 P op t l j = some v) ∨ ((∀ l j, ¬ (x = .agg ⟨l⟩ ∧ y = .agg ⟨j⟩)) ∧ aBin P op t c x y = some v) := by
  unfold binF at hv
  rw [vInt_eq] at hv
  split at hv
  · rename_i j a
    rw [vInt_eq] at hv
    split at hv
    · rename_i j' b
      rw [intOp_eq] at hv
      exact .inr ⟨(by rintro l j ⟨e1, _⟩; cases e1), hv⟩
    · exact binG_eq hv
  · exact binG_eq hv

theorem way_bin {bop : BinOp} {t yt : TypeId} {x y : Operand} (hq : qv h (k ds) (two (ev m x) (ev m y) (binF P bop t (isC x || isC y))) = some out) :
    ∃ ds' h' v, Way P e ds m h (.binOp bop t x y yt) ds' h' v ∧ k ds' h' v = some out := by
  obtain ⟨v, h1, h2⟩ := qv_some hq
  refine ⟨ds, h, v, way_pure ?_, h2⟩
  rw [two_eq] at h1
  show (match ev m x, ev m y with | some (.agg ⟨l⟩), some (.agg ⟨j⟩) => aEq3 P bop t l j | some vx, some vy => aBin P bop t (isC x || isC y) vx vy | _, _ => none) = some v
  cases hx : ev m x with
  | none => rw [hx] at h1; cases h1
  | some vx =>
    cases hy : ev m y with
    | none => rw [hx, hy] at h1; cases h1
    | some vy =>
      rw [hx, hy] at h1
      rcases binF_eq h1 with ⟨l, j, rfl, rfl, q⟩ | ⟨q1, q2⟩
      · exact q
      · split
        · rename_i l j e1 e2
          exact absurd ⟨Option.some.inj e1, Option.some.inj e2⟩ (q1 _ _)
        · rename_i vx' vy' _ e1 e2
          cases e1; cases e2; exact q2
        · rename_i q3
          exact absurd rfl (q3 _ _ rfl)

theorem way_conv {s d : TypeId} {x : Operand} (hq : convF s d x P e ds m h k = some out) : ∃ ds' h' v, Way P e ds m h (.convert s d x) ds' h' v ∧ k ds' h' v = some out := by
  unfold convF at hq
  cases hi : intD (P.underlying s) (P.underlying d) with
  | none => rw [hi] at hq; exact way_gen hq
  | some j =>
    rw [hi] at hq
    obtain ⟨v, h1, h2⟩ := qv_some hq
    refine ⟨ds, h, v, way_pure ?_, h2⟩
    rw [one_eq] at h1
    show (match ev m x with | some v => aConv P s d v | none => none) = some v
    cases hx : ev m x with
    | none => rw [hx] at h1; cases h1
    | some vx =>
      rw [hx] at h1
      dsimp only at h1 ⊢
      rw [vInt_eq] at h1
      split at h1
      · rename_i k' n
        rw [wrapF_eq] at h1
        unfold intD at hi
        split at hi
        · rename_i d' kk hs hd
          cases hi
          unfold aConv
          rw [hs, hd]; exact h1
        · cases hi
      · cases h1

theorem way_len {args : Array Operand} {tys : Array TypeId} (hq : lenQ args tys P e ds m h k = some out) : ∃ ds' h' v, Way P e ds m h (.call ⟨.builtin .len, args, tys⟩) ds' h' v ∧ k ds' h' v = some out := by
  unfold lenQ at hq
  cases hp : aPure P m (.call ⟨.builtin .len, args, tys⟩) with
  | some v => rw [hp] at hq; exact ⟨ds, h, v, way_pure hp, hq⟩
  | none =>
    rw [hp] at hq
    obtain ⟨v, h1, h2⟩ := qv_some hq
    exact ⟨ds, h, v, way_val (by unfold aVal; rw [hp]; exact h1), h2⟩

theorem way_recov {args : Array Operand} {tys : Array TypeId} (hq : recovQ args tys P e ds m h k = some out) : ∃ ds' h' v, Way P e ds m h (.call ⟨.builtin .recover, args, tys⟩) ds' h' v ∧ k ds' h' v = some out := by
  obtain ⟨l⟩ := args
  cases l with
  | cons x l => cases hq
  | nil =>
    have hq' : ifB e.ro none (ifB e.df (k ds h .nilIface) none) = some out := hq
    rw [ifB_eq] at hq'
    split at hq'
    · cases hq'
    · rename_i h1
      rw [ifB_eq] at hq'
      split at hq'
      · rename_i h2
        exact ⟨ds, h, .nilIface, .recov (by cases hr : e.ro with | false => rfl | true => exact absurd hr h1) h2, hq'⟩
      · cases hq'

theorem way_deferQ {c : Call} (hq : deferQ c P e ds m h k = some out) : ∃ ds' h' v, Way P e ds m h (.defer c) ds' h' v ∧ k ds' h' v = some out := by
  unfold deferQ at hq
  split at hq
  · split at hq
    · rename_i h1 h2 h3; exact ⟨_, _, _, .defer h1 h2 h3, hq⟩
    · cases hq
  · cases hq

theorem way_call {c : Call} (hq : callQ c P e ds m h k = some out) : ∃ ds' h' v, Way P e ds m h (.call c) ds' h' v ∧ k ds' h' v = some out := by
  obtain ⟨callee, args, tys⟩ := c
  cases callee with
  | value f =>
    cases f with
    | tmp t => exact way_callTo rfl hq
    | const v => exact way_callTo rfl hq
    | global g => cases hq
    | func g =>
      have hq' : evsK (evs m args.toList) (fun vs => callR k ds (callX e g vs h)) = some out := hq
      cases hv : evs m args.toList with
      | none => rw [hv] at hq'; cases hq'
      | some vs =>
        rw [hv] at hq'
        obtain ⟨v, h', h1, h2⟩ := qvh_some (k := k ds) hq'
        refine ⟨ds, h', v, way_callX (f := g) (args := vs) ?_ h1, h2⟩
        show (match ev m (.func g), evs m args.toList with
          | some (.func (.func g) first cap), some args => some (CallTo.fn g (first.toList ++ args ++ cap.toList))
          | some (.func (.yield l) ⟨[]⟩ ⟨[]⟩), some args => some (.round l args)
          | some (.func (.methodOf t name) first ⟨[]⟩), some args => match first.toList ++ args, P.underlying t with
            | x :: rest, some d => if notIface d then aMethod P h (.iface t x) name rest else aMethod P h x name rest
            | _, _ => none
          | some (.func (.method name) first ⟨[]⟩), some args => match first.toList ++ args with
            | x :: rest => aMethod P h x name rest
            | _ => none
          | _, _ => none) = _
        rw [hv]
        show some (CallTo.fn g ([] ++ vs ++ [])) = _
        simp
  | invoke r name => exact way_callTo rfl hq
  | builtin b =>
    cases b <;> first
      | exact way_len hq
      | exact way_recov hq
      | exact way_gen hq
      | exact way_qEff (fun h => by cases h) (fun h => by cases h) hq

/-- An operation goes on in one of the ways. -/
theorem way_op {op : Op} (hq : qOp op P e ds m h k = some out) : ∃ ds' h' v, Way P e ds m h op ds' h' v ∧ k ds' h' v = some out := by
  cases op with
  | move x => obtain ⟨v, h1, h2⟩ := qv_some (h := h) (k := k ds) (o := ev m x) hq; exact ⟨ds, h, v, way_pure h1, h2⟩
  | assign x => obtain ⟨v, h1, h2⟩ := qv_some (h := h) (k := k ds) (o := ev m x) hq; exact ⟨ds, h, v, way_pure h1, h2⟩
  | pick => exact way_qPure hq
  | alloc t => exact way_qNew (fun h => by cases h) hq
  | box t x => exact way_qNew (fun h => by cases h) hq
  | build => exact way_qPure hq
  | buildSlice => exact way_qNew (fun h => by cases h) hq
  | insert => exact way_qEff (fun h => by cases h) (fun h => by cases h) hq
  | load t x =>
    obtain ⟨v, h1, h2⟩ := qv_some (h := h) (k := k ds) (o := one (ev m x) (loadF P h t)) hq
    refine ⟨ds, h, v, way_val ?_, h2⟩
    rw [one_eq] at h1
    show (match ev m x with | some v => aLoad P h t v | none => none) = some v
    cases hx : ev m x with
    | none => rw [hx] at h1; cases h1
    | some u => rw [hx] at h1; dsimp only at h1 ⊢; rw [← loadF_eq]; exact h1
  | store => exact way_qEff (fun h => by cases h) (fun h => by cases h) hq
  | ready => exact way_gen hq
  | waits => exact way_gen hq
  | nilCheck x =>
    obtain ⟨v, h1, h2⟩ := qv_some (h := h) (k := k ds) (o := one (ev m x) aNil) hq
    refine ⟨ds, h, v, way_pure ?_, h2⟩
    rw [one_eq] at h1; exact h1
  | binOp => exact way_bin hq
  | unOp op t x =>
    obtain ⟨v, h1, h2⟩ := qv_some (h := h) (k := k ds) (o := one (ev m x) (aUn op)) hq
    refine ⟨ds, h, v, way_pure ?_, h2⟩
    rw [one_eq] at h1; exact h1
  | convert => exact way_conv hq
  | sliceToArrayPointer => exact way_qPure hq
  | makeInterface => exact way_qPure hq
  | makeFunc => exact way_qPure hq
  | makeMap => exact way_qNew (fun h => by cases h) hq
  | makeChan => exact way_gen hq
  | makeSlice => exact way_qNew (fun h => by cases h) hq
  | slice => exact way_qPure hq
  | fieldAddr t x f =>
    obtain ⟨v, h1, h2⟩ := qv_some (h := h) (k := k ds) (o := one (ev m x) fun v => fieldF P t v f) hq
    refine ⟨ds, h, v, way_pure ?_, h2⟩
    rw [one_eq] at h1
    show (match ev m x with | some v => aFieldAddr P t v f | none => none) = some v
    cases hx : ev m x with
    | none => rw [hx] at h1; cases h1
    | some u => rw [hx] at h1; dsimp only at h1 ⊢; rw [← fieldF_eq]; exact h1
  | field => exact way_qPure hq
  | indexAddr t x i =>
    obtain ⟨v, h1, h2⟩ := qv_some (h := h) (k := k ds) (o := two (ev m x) (ev m i) (aIndexAddr P t)) hq
    refine ⟨ds, h, v, way_pure ?_, h2⟩
    rw [two_eq] at h1; exact h1
  | index => exact way_qPure hq
  | lookup => exact way_gen hq
  | mapUpdate => exact way_qEff (fun h => by cases h) (fun h => by cases h) hq
  | mapEntry => exact way_gen hq
  | entryStore => exact way_gen hq
  | range => exact way_qNew (fun h => by cases h) hq
  | next => exact way_qEff (fun h => by cases h) (fun h => by cases h) hq
  | entry => exact way_gen hq
  | typeAssert => exact way_qPure hq
  | extract x i =>
    obtain ⟨v, h1, h2⟩ := qv_some (h := h) (k := k ds) (o := one (ev m x) fun v => aExtract v i) hq
    refine ⟨ds, h, v, way_pure ?_, h2⟩
    rw [one_eq] at h1; exact h1
  | call c => exact way_call hq
  | go => exact way_gen hq
  | defer c => exact way_deferQ hq
  | panic => exact way_gen hq
  | send => exact way_gen hq
  | recv => exact way_gen hq
  | select => exact way_gen hq
end Go.Ae

namespace Go.Ae
variable {P : Program} {w0 : World} {pend : Nat → Option AObj} {γ : Gm} {h : Hp} {w : World} {m : Tm}

theorem r_typeInfo {t : TypeId} {i : TypeInfo} (hi : P.info? t = some i) (w : World) : (typeInfo t).run P w = .ok i w := by
  simp only [typeInfo, bind, Sem.run_bind', run_program, Result.andThen_ok, hi, Sem.run_pure]
theorem run_wrapnil {t : TypeId} {p : Addr} {n : String} (w : World) : (Builtin.ssaWrapNilChk_ #[t] t #[.pointer (some p), strVal "", strVal n]).run P w = .ok (.pointer (some p)) w := rfl

/-- A method's function, its receiver ahead of the arguments. -/
theorem aMethod_sim (hr : HR w0 γ pend h w) {x x' : Value} {name : String} {args args' : List Value} {f : FuncId} {all : List Value} (hm : aMethod P h x name args = some (.fn f all)) (hx : VR γ x x') (ha : VRs γ args args') :
    ∃ all', (callMethod x' name ⟨args'⟩).run P w = (callFunc f ⟨all'⟩).run P w ∧ VRs γ all all' := by
  unfold aMethod at hm
  split at hm
  case h_2 => cases hm
  rename_i t v
  cases hx with
  | iface hv =>
    rename_i v'
    split at hm
    case h_2 => cases hm
    rename_i i hi
    split at hm
    case h_2 => cases hm
    rename_i mm hmm
    have hfuel : P.types.size + Made.depth = (P.types.size + 99) + 1 := rfl
    have hrecv : ∀ {recv : Value}, (method (P.types.size + Made.depth) t v' name).run P w = .ok (f, recv) w → (callMethod (.iface t v') name ⟨args'⟩).run P w = (callFunc f ⟨recv :: args'⟩).run P w := by
      intro recv hrun
      have e : (#[recv] ++ ⟨args'⟩ : Array Value) = ⟨recv :: args'⟩ := by apply Array.ext'; simp
      simp only [callMethod, bind, Sem.run_bind', run_program, Result.andThen_ok, hrun, e]
    have hmeth : ∀ {p : Bool} {recv : Value}, mm.path.toList = [] → mm.func = some (f, p) → (∀ n, (receiverAt t (.val v') p (some n)).run P w = .ok recv w) → (method (P.types.size + Made.depth) t v' name).run P w = .ok (f, recv) w := by
      intro p recv hpath hfunc hrec
      have hemp : mm.path.isEmpty = true := by
        have : mm.path = #[] := by apply Array.ext'; rw [hpath]
        rw [this]; rfl
      rw [hfuel, method]
      simp only [bind, Sem.run_bind', r_typeInfo hi, Result.andThen_ok, hmm, hpath, follow, Sem.run_pure, hfunc, hemp, if_true, hrec]
    split at hm
    · rename_i e f' hpath hfunc hu
      cases hm
      exact ⟨v' :: args', hrecv (hmeth hpath hfunc fun n => by simp only [receiverAt, bind, Sem.run_bind', r_under hu, Result.andThen_ok, Place.get, Sem.run_pure]), .cons hv ha⟩
    · rename_i f' e hpath hfunc hu
      split at hm
      · rename_i a
        split at hm
        · rename_i u hl
          cases hm
          obtain ⟨u', h1, h2⟩ := aLoad_sim (P := P) hr hl hv
          refine ⟨u' :: args', hrecv (hmeth hpath hfunc fun n => ?_), .cons h2 ha⟩
          cases hv with
          | ptr hB =>
            simp only [Instr.loadAt, bind, Sem.run_bind', Instr.sureAddr, Sem.run_pure, Result.andThen_ok] at h1
            simp only [receiverAt, bind, Sem.run_bind', r_under hu, Result.andThen_ok, Place.get, Sem.run_pure, run_wrapnil, asAddr]
            exact h1
        · cases hm
      · cases hm
    · rename_i f' d hne hpath hfunc hu
      cases hm
      refine ⟨v' :: args', hrecv (hmeth hpath hfunc fun n => ?_), .cons hv ha⟩
      have : ∀ e, d ≠ .pointer e := fun e he => hne e he
      cases d <;> first
        | exact absurd rfl (this _)
        | simp only [receiverAt, bind, Sem.run_bind', r_under hu, Result.andThen_ok, Place.get, Sem.run_pure]
    · cases hm

theorem map_vrs {a : Act} (h0 : Tm.R γ m a.tmps) {args : Array Operand} {vs : List Value} (he : evs m args.toList = some vs) : VRs γ vs (args.map a.eval).toList := by
  rw [Array.toList_map]; exact evs_vr h0 he
theorem exec_value {ρ : Operand → Value} {q : Oper} {f : Operand} {args : Array Operand} {tys : Array TypeId} (hq : q.op = .call ⟨.value f, args, tys⟩) {fn : Fn} {first cap : Array Value} (hf : ρ f = .func fn first cap) (w : World) :
    (execOp ρ q).run P w = (invoke (.fn fn cap) (first ++ args.map ρ)).run P w := by
  unfold execOp
  rw [hq]
  simp only [resolve, hf, Deferred.ofValue, bind, Sem.run_bind', Sem.run_pure, Result.andThen_ok]
theorem exec_invoke {ρ : Operand → Value} {q : Oper} {r : Operand} {name : String} {args : Array Operand} {tys : Array TypeId} (hq : q.op = .call ⟨.invoke r name, args, tys⟩) (w : World) :
    (execOp ρ q).run P w = (callMethod (ρ r) name (args.map ρ)).run P w := by
  have e0 : (#[ρ r] ++ args.map ρ)[0]? = some (ρ r) := by rw [← Array.getElem?_toList]; simp
  have e1 : (#[ρ r] ++ args.map ρ).extract 1 (#[ρ r] ++ args.map ρ).size = args.map ρ := by
    apply Array.ext'; simp; rw [List.take_of_length_le (by simp)]
  unfold execOp
  rw [hq]
  simp only [resolve, bind, Sem.run_bind', Sem.run_pure, Result.andThen_ok, invoke, e0, e1]

/-- Where a call goes. -/
theorem aCallee_sim (hr : HR w0 γ pend h w) {a : Act} (h0 : Tm.R γ m a.tmps) {q : Oper} {c : Call} {ct : CallTo} (hq : q.op = .call c) (hc : aCallee P h m c = some ct) :
    match ct with
    | .fn f args => ∃ args', (execOp a.eval q).run P w = (callFunc f ⟨args'⟩).run P w ∧ VRs γ args args'
    | .round l args => ∃ p args', γ l = some p ∧ (execOp a.eval q).run P w = (Instr.yield p.b ⟨args'⟩).run P w ∧ VRs γ args args' := by
  obtain ⟨callee, args, tys⟩ := c
  unfold aCallee at hc
  cases callee with
  | builtin b => cases hc
  | invoke r name =>
    dsimp only at hc
    split at hc
    · rename_i x vs hx hvs
      cases ct with
      | fn f all =>
        obtain ⟨all', e1, e2⟩ := aMethod_sim (P := P) hr hc (ev_vr h0 hx) (map_vrs h0 hvs)
        exact ⟨all', by rw [exec_invoke hq]; exact e1, e2⟩
      | round l all =>
        exfalso
        unfold aMethod at hc
        repeat' split at hc
        all_goals cases hc
    · cases hc
  | value f =>
    dsimp only at hc
    split at hc
    · rename_i g first cap vs hf hvs
      cases hc
      have hx := ev_vr h0 hf
      generalize he : a.eval f = f' at hx
      cases hx with
      | func _ hfi hca =>
        rename_i first' cap' _
        refine ⟨first'.toList ++ (args.map a.eval).toList ++ cap'.toList, ?_, (hfi.append (map_vrs h0 hvs)).append hca⟩
        rw [exec_value hq he]
        have e : (first' ++ args.map a.eval ++ cap' : Array Value) = ⟨first'.toList ++ (args.map a.eval).toList ++ cap'.toList⟩ := by apply Array.ext'; simp
        simp only [invoke, e]
    · rename_i l vs hf hvs
      cases hc
      have hx := ev_vr h0 hf
      generalize he : a.eval f = f' at hx
      cases hx with
      | func hne _ _ => exact absurd rfl (hne l)
      | yield hB =>
        rename_i p
        refine ⟨p, (args.map a.eval).toList, hB, ?_, map_vrs h0 hvs⟩
        rw [exec_value hq he]
        have e : (#[] ++ args.map a.eval : Array Value) = ⟨(args.map a.eval).toList⟩ := by apply Array.ext'; simp
        simp only [invoke, e]
    · rename_i t name first vs hf hvs
      split at hc
      · rename_i x rest d hlist hu
        have hx := ev_vr h0 hf
        generalize he : a.eval f = f' at hx
        cases hx with
        | func _ hfi hca =>
          rename_i first' cap' _
          have hall := hfi.append (map_vrs h0 hvs)
          rw [hlist] at hall
          have e : (first' ++ args.map a.eval : Array Value) = ⟨first'.toList ++ (args.map a.eval).toList⟩ := by apply Array.ext'; simp
          generalize hL : first'.toList ++ (args.map a.eval).toList = L at hall e
          cases hall with
          | cons hx0 hrest =>
            rename_i x' rest'
            have e0 : (⟨x' :: rest'⟩ : Array Value)[0]? = some x' := rfl
            have e1 : (⟨x' :: rest'⟩ : Array Value).extract 1 (⟨x' :: rest'⟩ : Array Value).size = ⟨rest'⟩ := by apply Array.ext'; simp
            cases ct with
            | fn f all =>
              have hbase : ∀ X, (match d with | .interface _ => x' | _ => .iface t x') = X → (execOp a.eval q).run P w = (callMethod X name ⟨rest'⟩).run P w := by
                intro X hX
                rw [exec_value hq he, e]
                simp only [invoke, e0, bind, Sem.run_bind', r_under hu, Result.andThen_ok, e1]
                subst hX
                cases d <;> rfl
              split at hc
              · rename_i hn
                obtain ⟨all', q1, q2⟩ := aMethod_sim (P := P) hr hc (.iface hx0) hrest
                refine ⟨all', ?_, q2⟩
                rw [hbase (.iface t x') (by cases d <;> first | rfl | cases hn)]; exact q1
              · rename_i hn
                obtain ⟨all', q1, q2⟩ := aMethod_sim (P := P) hr hc hx0 hrest
                refine ⟨all', ?_, q2⟩
                rw [hbase x' (by cases d <;> first | rfl | exact absurd rfl hn)]; exact q1
            | round l all =>
              exfalso
              unfold aMethod at hc
              repeat' split at hc
              all_goals cases hc
      · cases hc
    · rename_i name first vs hf hvs
      split at hc
      · rename_i x rest hlist
        have hx := ev_vr h0 hf
        generalize he : a.eval f = f' at hx
        cases hx with
        | func _ hfi hca =>
          rename_i first' cap' _
          have hall := hfi.append (map_vrs h0 hvs)
          rw [hlist] at hall
          have e : (first' ++ args.map a.eval : Array Value) = ⟨first'.toList ++ (args.map a.eval).toList⟩ := by apply Array.ext'; simp
          generalize hL : first'.toList ++ (args.map a.eval).toList = L at hall e
          cases hall with
          | cons hx0 hrest =>
            rename_i x' rest'
            have e0 : (⟨x' :: rest'⟩ : Array Value)[0]? = some x' := rfl
            have e1 : (⟨x' :: rest'⟩ : Array Value).extract 1 (⟨x' :: rest'⟩ : Array Value).size = ⟨rest'⟩ := by apply Array.ext'; simp
            cases ct with
            | fn f all =>
              obtain ⟨all', q1, q2⟩ := aMethod_sim (P := P) hr hc hx0 hrest
              refine ⟨all', ?_, q2⟩
              rw [exec_value hq he, e]
              simp only [invoke, e0, e1]
              exact q1
            | round l all =>
              exfalso
              unfold aMethod at hc
              repeat' split at hc
              all_goals cases hc
      · cases hc
    · cases hc
end Go.Ae

namespace Go.Ae
variable {P : Program} {w0 : World} {pend : Nat → Option AObj} {γ : Gm}

/-- What rounds of a loop over a function ought to be. -/
def RoundOK (P : Program) (round : Nat → List Value → Hp → OVH) : Prop :=
  ∀ l args h v h', round l args h = some (v, h') → ∀ w0 pend γ w p args', γ l = some p → VRs γ args args' → HR w0 γ pend h w →
    ∃ fn tmps assign body w1, (Instr.yield p.b ⟨args'⟩).run P w = .ok (.round p.b fn tmps assign body) w1 ∧
      ∀ c cs, ∃ γ' v' w', γ.le γ' ∧ VR γ' v v' ∧ HR w0 γ' pend h' w' ∧ Steps P (lone (Frame.round p.b fn tmps assign body .normal) (c :: cs) w1) (lone (c.finish v') cs w')

/-- What calls of functions without a text ought to be. -/
def ExtOK (P : Program) (X : Nat → Option (Hp → List Value → OVH)) : Prop :=
  ∀ f g, X f = some g → ∀ args h v h', g h args = some (v, h') → ∀ w0 pend γ w args', VRs γ args args' → HR w0 γ pend h w →
    ∃ γ' v' w', γ.le γ' ∧ VR γ' v v' ∧ HR w0 γ' pend h' w' ∧ (callFunc f ⟨args'⟩).run P w = .ok (.value v') w'
/-- What rounds and such calls ought to be. -/
def EnvOK (P : Program) (e : Env) : Prop := RoundOK P e.round ∧ ExtOK P e.ext

section
variable {b : Frame} {a : Act} {k : List Item} {cs : List Frame} {w w' : World} {ops : Array Oper} {i : Nat} {rest : List Nat} {o : Oper}
theorem stepR_round {l : Nat} {f : FuncId} {tmps : Array Value} {x y : Code} (ho : ops[i]? = some o) (hw : Region.wanted o (yielded ops a.tmps) = true) (hr : (o.semAt b.roundOf a.eval).run P w = .ok (.round l f tmps x y) w') :
    step P (lone (b.atR a (.inRegion ops (i :: rest) :: k)) cs w) = .next (lone (Frame.round l f tmps x y .normal) (b.atR a (.inRegion ops (i :: rest) :: k) :: cs) w') := by
  refine step_lone_go ?_
  rw [stepGR_op ho hw]
  simp [stepG.apply, Sem.runT_eq, hr, Frame.atR]
theorem stepR_recover {c : Frame} (ho : ops[i]? = some o) (hw : Region.wanted o (yielded ops a.tmps) = true) (hb : b.roundOf = none) (hk : b.kind = .deferred) (hc : c.mode = .returning) (hr : (o.semAt b.roundOf a.eval).run P w = .ok .recover w') :
    step P (lone (b.atR a (.inRegion ops (i :: rest) :: k)) (c :: cs) w) = .next (lone (b.atR (a.put o.dst .nilIface) (.inRegion ops rest :: k)) (c :: cs) w') := by
  have e : (ops[i]?).bind (·.dst) = o.dst := by rw [ho]; rfl
  rw [← e, ← Frame.finish_atR]
  refine step_lone_go ?_
  rw [stepGR_op ho hw]
  rw [hb] at hr
  simp [stepG.apply, Sem.runT_eq, hr, Frame.atR, hb, hk, tryRecover, hc]
end

theorem way_run {b : Frame} {k : List Item} {cs : List Frame} {ops : Array Oper} {i : Nat} {rest : List Nat} {o : Oper} {a : Act} {w : World} {e : Env} {ds ds' : List Deferred} {h h' : Hp} {m : Tm} {v : Value}
    (hcall : CallOK P e.call) (hround : EnvOK P e) (hb : BaseOK e b cs) (ho : ops[i]? = some o) (hw : Region.wanted o (yielded ops a.tmps) = true) (ht : Tm.R γ m a.tmps) (hds : DRs γ ds a.defers) (hr : HR w0 γ pend h w)
    (hway : Way P e ds m h o.op ds' h' v) : OpRun P w0 pend γ b k cs ops i rest o a w ds' h' v := by
  generalize hop : o.op = op at hway
  have hbind : (ops[i]?).bind (·.dst) = o.dst := by rw [ho]; rfl
  cases hway with
  | quick hq => rw [← hop] at hq; exact quick_run ho hw ht hds hr hq
  | @call c f args v h' hc hrun =>
    have hd : ∀ c, o.op ≠ .defer c := by intro c e; rw [hop] at e; cases e
    obtain ⟨args', e1, e2⟩ := aCallee_sim (P := P) hr ht hop hc
    obtain ⟨hent, hrf⟩ := hcall _ _ _ _ _ _ hrun
    obtain ⟨v', w', fr, ⟨γ', g, q1, q2⟩, st, q3, q4, q5, fn, q6, q7, _⟩ := hrf w0 pend γ w ⟨args'⟩ e2 hr (b.atR a (.inRegion ops (i :: rest) :: k) :: cs) (fun h => by cases h)
    refine ⟨γ', a, w', v', g, rfl, hds.mono g, q1, q2, ?_⟩
    have s1 := stepR_enter (P := P) (b := b) (k := k) (cs := cs) (rest := rest) ho hw (by rw [Oper.semAt_eq _ _ _ hd, e1]; exact run_callFunc hent)
    have s2 := step_back (P := P) (c := b.atR a (.inRegion ops (i :: rest) :: k)) (cs := cs) q3 q4 q5 q6 q7
    rw [Frame.finish_atR, hbind] at s2
    exact .head s1 (Steps.trans st (.one s2))
  | @ext c f args v h' g hc hg hrun =>
    have hd : ∀ c, o.op ≠ .defer c := by intro c e; rw [hop] at e; cases e
    obtain ⟨args', e1, e2⟩ := aCallee_sim (P := P) hr ht hop hc
    obtain ⟨γ', v', w', g', q1, q2, q3⟩ := hround.2 f g hg _ _ _ _ hrun w0 pend γ w args' e2 hr
    exact ⟨γ', a, w', v', g', rfl, hds.mono g', q1, q2, .one (stepR_value ho hw (by rw [Oper.semAt_eq _ _ _ hd, e1]; exact q3))⟩
  | @round c l args v h' hc hrun =>
    have hd : ∀ c, o.op ≠ .defer c := by intro c e; rw [hop] at e; cases e
    obtain ⟨p, args', hp, e1, e2⟩ := aCallee_sim (P := P) hr ht hop hc
    obtain ⟨fn, tmps, x, y, w1, r1, r2⟩ := hround.1 _ _ _ _ _ hrun w0 pend γ w p args' hp e2 hr
    obtain ⟨γ', v', w', g, q1, q2, st⟩ := r2 (b.atR a (.inRegion ops (i :: rest) :: k)) cs
    refine ⟨γ', a, w', v', g, rfl, hds.mono g, q1, q2, ?_⟩
    have s1 := stepR_round (P := P) (b := b) (k := k) (cs := cs) (rest := rest) ho hw (by rw [Oper.semAt_eq _ _ _ hd, e1]; exact r1)
    rw [Frame.finish_atR, hbind] at st
    exact .head s1 st
  | @recov tys h1 h2 =>
    have hd : ∀ c, o.op ≠ .defer c := by intro c e; rw [hop] at e; cases e
    obtain ⟨hk, c, cs', rfl, hc⟩ := hb.df h2
    refine ⟨γ, a, w, .nilIface, Gm.le_refl _, rfl, hds, .nilIface, hr, .one (stepR_recover ho hw (hb.ro h1) hk hc ?_)⟩
    rw [Oper.semAt_eq _ _ _ hd, exec_call hop]
    rfl
  | @defer f args tys g first cap as h1 h2 h3 =>
    have hx := ev_vr ht h2
    generalize he : a.eval f = f' at hx
    cases hx with
    | func _ hfi hca =>
      rename_i first' cap' _
      have hrun : (execOp a.eval o).run P w = .ok (.defer { target := .fn (.func g) cap', args := first' ++ args.map a.eval }) w := by
        unfold execOp
        rw [hop]
        simp only [resolve, he, Deferred.ofValue, bind, Sem.run_bind', Sem.run_pure, Result.andThen_ok]
      refine ⟨γ, { a with defers := { target := .fn (.func g) cap', args := first' ++ args.map a.eval } :: a.defers }, w, undef, Gm.le_refl _, rfl, ?_, undef_vr, hr, .one (stepR_defer ho hw ?_)⟩
      · refine .cons (.fn hca ?_) hds
        have : (first' ++ args.map a.eval).toList = first'.toList ++ (args.map a.eval).toList := by simp
        rw [this]
        exact hfi.append (map_vrs ht h3)
      · rw [hb.ro h1]; exact hrun
end Go.Ae

namespace Go.Ae
variable {P : Program} {w0 : World} {pend : Nat → Option AObj} {γ : Gm}

theorem wantA_sim {full : Array Oper} {m : Tm} {o : Oper} {a : Array Value} {t : Bool} (h : wantA full m o = some t) (ht : Tm.R γ m a) : Region.wanted o (yielded full a) = t := by
  unfold wantA at h
  unfold Region.wanted
  split at h
  · rename_i hg; cases h; rw [hg]
  · rename_i j want hg
    rw [hg]
    split at h
    case h_2 => cases h
    rename_i oj hj
    split at h
    case h_2 => cases h
    rename_i d hd
    have hj' : full[j]? = some oj := by rw [← Array.getElem?_toList]; exact hj
    split at h
    · rename_i b hv
      cases h
      obtain ⟨v', h1, h2⟩ := ht.get hv
      cases h2
      simp only [yielded, hj', Option.bind_some, hd, h1]
      rfl
    · rename_i vs hv
      cases h
      obtain ⟨v', h1, h2⟩ := ht.get hv
      cases h2
      simp only [yielded, hj', Option.bind_some, hd, h1]
      rfl
    · cases h

theorem dstK_some {dst : Option Nat} {n : Nat} {m : Tm} {K : List Deferred → Tm → Hp → OO} {ds : List Deferred} {h : Hp} {v : Value} {out : Out} (hq : dstK dst n m K ds h v = some out) :
    ∃ m', K ds m' h = some out ∧ ((dst = none ∧ m' = m) ∨ ∃ d, dst = some d ∧ d < n ∧ m' = m.put d v) := by
  cases dst with
  | none => exact ⟨m, hq, .inl ⟨rfl, rfl⟩⟩
  | some d =>
    have hq' : ifB (Nat.blt d n) (K ds (m.put d v) h) none = some out := hq
    rw [ifB_lt] at hq'
    split at hq'
    · rename_i hd; exact ⟨_, hq', .inr ⟨d, rfl, hd, rfl⟩⟩
    · cases hq'

theorem put_size (a : Act) (dst : Option Tmp) (v : Value) : (a.put dst v).tmps.size = a.tmps.size := by cases dst <;> simp [Act.put]
theorem put_defers (a : Act) (dst : Option Tmp) (v : Value) : (a.put dst v).defers = a.defers := by cases dst <;> rfl
/-- A value put on both sides. -/
theorem FR.put {n : Nat} {ds : List Deferred} {m m' : Tm} {a : Act} {dst : Option Tmp} {v v' : Value} (ht : Tm.R γ m a.tmps) (hs : a.tmps.size = n) (hd : DRs γ ds a.defers) (hv : VR γ v v')
    (hm : (dst = none ∧ m' = m) ∨ ∃ d, dst = some d ∧ d < n ∧ m' = m.put d v) : FR γ n ds m' (a.put dst v') := by
  rcases hm with ⟨rfl, rfl⟩ | ⟨d, rfl, hlt, rfl⟩
  · exact ⟨ht, hs, hd⟩
  · exact ⟨ht.put hv (by rw [hs]; exact hlt), by rw [put_size]; exact hs, by rw [put_defers]; exact hd⟩

section
variable {b : Frame} {k : List Item} {cs : List Frame} {ops : Array Oper} {i : Nat} {rest : List Nat} {o : Oper} {a : Act} {w : World} {e : Env} {ds : List Deferred} {h : Hp} {m : Tm} {out : Out}
/-- One operation, and on. -/
theorem operK_ok {K : List Deferred → Tm → Hp → OO} (hcall : CallOK P e.call) (hround : EnvOK P e) (hb : BaseOK e b cs) (ho : ops[i]? = some o) (hf : FR γ e.n ds m a) (hr : HR w0 γ pend h w)
    (hq : operK ops o P e ds m h K = some out) : ∃ ds' m' h' γ' a' w', K ds' m' h' = some out ∧ γ.le γ' ∧ FR γ' e.n ds' m' a' ∧ HR w0 γ' pend h' w' ∧
      Steps P (lone (b.atR a (.inRegion ops (i :: rest) :: k)) cs w) (lone (b.atR a' (.inRegion ops rest :: k)) cs w') := by
  have run : Region.wanted o (yielded ops a.tmps) = true → qOp o.op P e ds m h (dstK o.dst e.n m K) = some out → ∃ ds' m' h' γ' a' w', K ds' m' h' = some out ∧ γ.le γ' ∧ FR γ' e.n ds' m' a' ∧ HR w0 γ' pend h' w' ∧
      Steps P (lone (b.atR a (.inRegion ops (i :: rest) :: k)) cs w) (lone (b.atR a' (.inRegion ops rest :: k)) cs w') := by
    intro hw hq
    obtain ⟨ds', h', v, hway, hk⟩ := way_op hq
    obtain ⟨γ', a2, w', v', g, e1, e2, e3, e4, e5⟩ := way_run (k := k) (rest := rest) hcall hround hb ho hw hf.tm hf.defers hr hway
    obtain ⟨m', k1, k2⟩ := dstK_some hk
    exact ⟨ds', m', h', γ', _, w', k1, g, FR.put (by rw [e1]; exact hf.tm.mono g) (by rw [e1]; exact hf.size) e2 e3 k2, e4, e5⟩
  unfold operK at hq
  cases hg : o.guard with
  | none =>
    rw [hg] at hq
    exact run (by unfold Region.wanted; rw [hg]) hq
  | some gg =>
    rw [hg] at hq
    have hq' : guardK (wantA ops m o) (qOp o.op P e ds m h (dstK o.dst e.n m K)) (dstK o.dst e.n m K ds h undef) = some out := hq
    cases hw : wantA ops m o with
    | none => rw [hw] at hq'; cases hq'
    | some t =>
      rw [hw] at hq'
      have hwt := wantA_sim hw hf.tm
      cases t with
      | true => exact run hwt hq'
      | false =>
        obtain ⟨m', k1, k2⟩ := dstK_some (v := undef) hq'
        refine ⟨ds, m', h, γ, a.put o.dst undef, w, k1, Gm.le_refl _, FR.put hf.tm hf.size hf.defers undef_vr k2, hr, .one ?_⟩
        have s := stepR_op_skip (P := P) (b := b) (a := a) (k := k) (cs := cs) (w := w) (ops := ops) (i := i) (rest := rest) (by rw [ho]; simp only [Option.map_some, Option.getD_some]; exact hwt)
        rw [ho] at s
        exact s

theorem opsB_ok (hcall : CallOK P e.call) (hround : EnvOK P e) (hb : BaseOK e b cs) : ∀ (l : List Oper) (i : Nat) (γ : Gm) (ds : List Deferred) (m : Tm) (h : Hp) (a : Act) (w : World), l = ops.toList.drop i → FR γ e.n ds m a → HR w0 γ pend h w →
    opsB l ops P e ds m h = some out → RunOK P w0 pend γ e.n (lone (b.atR a (.inRegion ops (List.range' i l.length) :: k)) cs w) b k cs out
  | [], i, γ, ds, m, h, a, w, _, hf, hr, hq => by
    have : some (Out.go ds m h) = some out := hq
    cases this
    exact ⟨γ, a, w, Gm.le_refl _, .one stepR_region_end, hf, hr⟩
  | o :: l, i, γ, ds, m, h, a, w, hl, hf, hr, hq => by
    have hq' : operK ops o P e ds m h (opsB l ops P e) = some out := hq
    have ho : ops[i]? = some o := by
      have := congrArg (·[0]?) hl
      simp only [List.getElem?_cons_zero, List.getElem?_drop, Nat.add_zero] at this
      rw [← Array.getElem?_toList]; exact this.symm
    have hl' : l = ops.toList.drop (i + 1) := by
      have := congrArg (List.drop 1) hl
      simpa [List.drop_drop] using this
    obtain ⟨ds', m', h', γ', a', w', k1, g, f1, r1, s1⟩ := operK_ok (k := k) (rest := List.range' (i + 1) l.length) hcall hround hb ho hf hr hq'
    exact (opsB_ok hcall hround hb l (i + 1) γ' ds' m' h' a' w' hl' f1 r1 k1).of_steps g s1
end

theorem exec_region {e : Env} (hcall : CallOK P e.call) (hround : EnvOK P e) (id : Nat) (ops : Array Oper) : ExecOK P e (.region id ops false) := by
  intro w0 pend γ ds m h o he b k cs a w hb hf hr
  have he' : opsB ops.toList ops P e ds m.clean h = some o := he
  have := opsB_ok (k := k) hcall hround hb ops.toList 0 γ ds m.clean h a w rfl ⟨hf.tm.clean, hf.size, hf.defers⟩ hr he'
  refine this.of_steps (Gm.le_refl _) (.one ?_)
  rw [stepR_region, List.range_eq_range', Array.length_toList]
end Go.Ae

namespace Go.Ae
variable {P : Program} {w0 : World} {pend : Nat → Option AObj} {γ : Gm}

theorem look_zip : ∀ (l : List Value) (s t : Nat) (v : Value), look ((l.zipIdx s).map fun x => (x.2, x.1)) t = some v → s ≤ t ∧ l[t - s]? = some v
  | [], _, _, _, h => by cases h
  | x :: l, s, t, v, h => by
    rw [List.zipIdx_cons, List.map_cons, look_cons] at h
    split at h
    · rename_i e
      simp only at e h
      subst e
      exact ⟨Nat.le_refl _, by simpa using h⟩
    · rename_i e
      simp only at e
      obtain ⟨h1, h2⟩ := look_zip l (s + 1) t v h
      refine ⟨by omega, ?_⟩
      have : t - s = (t - (s + 1)) + 1 := by omega
      rw [this, List.getElem?_cons_succ]; exact h2

theorem keeps_args (K n t : Nat) (ht : t < n) : Tm.keeps (Nat.lor K (Nat.sub (Nat.pow 4 n) 1)) t ≠ 0 := by
  intro h
  have h1 : Nat.testBit (((K ||| (4 ^ n - 1)) >>> (2 * t)) &&& 3) 0 = true := by
    rw [Nat.testBit_and, Nat.testBit_shiftRight, Nat.testBit_or]
    have e : 4 ^ n = 2 ^ (2 * n) := by rw [Nat.pow_mul]
    rw [e, Nat.testBit_two_pow_sub_one]
    have : decide (2 * t + 0 < 2 * n) = true := by simp; omega
    rw [this]; simp
  have h2 : ((K ||| (4 ^ n - 1)) >>> (2 * t)) &&& 3 = 0 := h
  rw [h2] at h1
  simp at h1

/-- The frame in which a function begins. -/
theorem enter_fr {f : FuncId} {fn : Func} {args : List Value} {args' : Array Value} {kind : CallKind} (K : Nat) (hfn : P.funcs[f]? = some fn) (ha : VRs γ args args'.toList) :
    FR γ (max fn.ntmps args.length) [] ⟨[], args.zipIdx.map fun x => (x.2, x.1), Nat.lor K (Nat.sub (Nat.pow 4 args.length) 1)⟩ ⟨(Frame.enter P f args' kind).tmps, []⟩ := by
  have hlen : args.length = args'.size := by rw [ha.length, Array.length_toList]
  have htm : (Frame.enter P f args' kind).tmps = args' ++ Array.replicate (fn.ntmps - args'.size) undef := by simp [Frame.enter, hfn]
  refine ⟨⟨fun t v hv => ?_, fun t v hv => (by cases hv), fun t v hv => ?_⟩, ?_, .nil⟩
  · obtain ⟨_, h2⟩ := look_zip args 0 t v hv
    refine keeps_args _ _ _ ?_
    rcases Nat.lt_or_ge t args.length with q | q
    · exact q
    · rw [List.getElem?_eq_none (by simpa using q)] at h2; cases h2
  · obtain ⟨_, h2⟩ := look_zip args 0 t v hv
    obtain ⟨v', h3, h4⟩ := ha.get (t - 0) v h2
    refine ⟨v', ?_, h4⟩
    rw [Nat.sub_zero, Array.getElem?_toList] at h3
    show (Frame.enter P f args' kind).tmps[t]? = _
    have ht : t < args'.size := by
      rcases Nat.lt_or_ge t args'.size with q | q
      · exact q
      · rw [Array.getElem?_eq_none q] at h3; cases h3
    rw [htm, Array.getElem?_append_left ht]; exact h3
  · show (Frame.enter P f args' kind).tmps.size = _
    rw [htm, Array.size_append, Array.size_replicate, hlen]; omega

theorem enter_at {f : FuncId} {fn : Func} {body : Code} {args' : Array Value} {kind : CallKind} (hfn : P.funcs[f]? = some fn) (hb : fn.body = some body) :
    Frame.enter P f args' kind = (Frame.enter P f args' kind).atR ⟨(Frame.enter P f args' kind).tmps, []⟩ [.code body] := by
  simp [Frame.enter, Frame.atR, hfn, hb]
end Go.Ae

namespace Go.Ae
variable {P : Program} {w0 : World} {pend : Nat → Option AObj} {γ : Gm} {h : Hp} {w w' : World}

/-- A block that the evaluator looks at no more may change. -/
theorem HR.killChg (hr : HR w0 γ pend h w) {B : Nat} {o : AObj} {p : Pl} {ob : Obj} (hB : h.m.get B = some o) (hd : o ≠ .dead) (hp : γ B = some p) (hc : Chg w w' p.b ob) :
    HR w0 γ pend ⟨h.next, h.m.put B .dead⟩ w' := by
  have hold : ∀ x q, (h.m.put B .dead).get x = some q → q ≠ .dead → x ≠ B ∧ h.m.get x = some q := by
    intro x q hx hq
    rw [Tr.get_put] at hx
    split at hx
    · exact absurd (Option.some.inj hx).symm hq
    · rename_i e; exact ⟨e, hx⟩
  have hBn : B < h.next := (hr.dom B p hp).1
  refine ⟨⟨hc.os.trans hr.fr0.os, hc.tape.trans hr.fr0.tape, hc.output.trans hr.fr0.output, by rw [hc.size]; exact hr.fr0.size, fun k hk => ?_⟩, ?_, ?_, ?_, ?_, ?_, hr.keep⟩
  · have := (hr.dom B p hp).2.1
    rw [hc.else_ k (by omega)]; exact hr.fr0.block k hk
  · intro x q hx; have := hr.dom x q hx; rw [hc.size]; exact this
  · intro x y q q' u u' hx hy hu hu' hq hq' e
    exact hr.inj _ _ _ _ _ _ (hold _ _ hx hu).2 (hold _ _ hy hu').2 hu hu' hq hq' e
  · intro x u q hx hu hq
    obtain ⟨h1, h2⟩ := hold _ _ hx hu
    obtain ⟨o', e1, e2⟩ := hr.obj x u q h2 hu hq
    have : q.b ≠ p.b := fun e => h1 (hr.inj _ _ _ _ _ _ h2 hB hu hd hq hp e)
    exact ⟨o', by rw [hc.else_ _ this]; exact e1, e2⟩
  · intro x hx
    show (h.m.put B .dead).get x = none
    have hx' : h.next ≤ x := hx
    rw [Tr.get_put_other _ _ _ _ (by omega)]; exact hr.fresh x hx
  · intro x hx hn
    show (h.m.put B .dead).get x = pend x
    rw [Tr.get_put_other _ _ _ _ (by rintro rfl; rw [hp] at hn; cases hn)]; exact hr.pend x hx hn

theorem upd_eq (h : Hp) (B : Nat) (o : AObj) : h.upd B o = ⟨h.next, h.m.put B o⟩ := rfl

/-- What is deferred runs, the last first. -/
theorem unwind_ok {e : Env} (hcall : CallOK P e.call) : ∀ (l : List Deferred) (γ : Gm) (h h2 : Hp) (w : World) (fr : Frame) (cs : List Frame), unwind e l h = some h2 → DRs γ l fr.defers → fr.mode = .returning → HR w0 γ pend h w →
    ∃ γ' w', γ.le γ' ∧ HR w0 γ' pend h2 w' ∧ Steps P (lone fr cs w) (lone { fr with defers := [] } cs w')
  | [], γ, h, h2, w, fr, cs, hu, hd, hm, hr => by
    have : some h = some h2 := hu
    cases this
    generalize hD : fr.defers = D at hd
    cases hd
    have : fr = { fr with defers := [] } := by obtain ⟨⟩ := fr; simp only at hD; subst hD; rfl
    rw [← this]
    exact ⟨γ, w, Gm.le_refl _, hr, .refl _ _⟩
  | d :: l, γ, h, h2, w, fr, cs, hu, hd, hm, hr => by
    generalize hD : fr.defers = D at hd
    cases hd with
    | cons h1 hl =>
    cases h1 with
    | coll hp =>
      rename_i D' B p
      have hu' : (match h.m.get B with | some .deferred => unwind e l (h.upd B .dead) | _ => none) = some h2 := hu
      split at hu'
      case h_2 => cases hu'
      rename_i hg
      obtain ⟨o', q1, q2⟩ := hr.obj B _ p hg (by intro e; cases e) hp
      cases q2
      have hnc : ∀ c t f, (Obj.deferred (some [])) ≠ .cells c t f := by intro c t f e; cases e
      have hgo := run_getObj (P := P) q1 hnc
      obtain ⟨w', e1, e2⟩ := run_setObj (P := P) (o' := .deferred none) q1 hnc
      have hrun : (Instr.takeDeferred p.b).run P w = .ok [] w' := by
        simp only [Instr.takeDeferred, bind, Sem.run_bind', hgo, Result.andThen_ok, e1, Sem.run_pure]
      obtain ⟨γ', w2, g, r2, st⟩ := unwind_ok hcall l γ _ h2 w' { fr with defers := D' } cs hu' hl hm (hr.killChg hg (by intro e; cases e) hp e2)
      refine ⟨γ', w2, g, r2, .head (m₁ := lone { fr with defers := D' } cs w') ?_ st⟩
      exact step_lone_go (by simp [stepG, Go.unwind, hm, hD, Sem.runT_eq, hrun])
    | fn hc ha =>
      rename_i D' f cap cap' args args'
      have hu' : (match e.call true f (args.toList ++ cap.toList) h with | some (_, h') => unwind e l h' | none => none) = some h2 := hu
      split at hu'
      case h_2 => cases hu'
      rename_i v h' hrun
      obtain ⟨hent, hrf⟩ := hcall _ _ _ _ _ _ hrun
      have hE : (⟨args'.toList ++ cap'.toList⟩ : Array Value) = args' ++ cap' := by apply Array.ext'; simp
      obtain ⟨v', w', fr2, ⟨γ', g, q1, q2⟩, st, q3, q4, q5, fn, q6, q7, _⟩ := hrf w0 pend γ w (args' ++ cap') (by rw [← hE]; exact ha.append hc) hr ({ fr with defers := D' } :: cs) (fun _ => ⟨_, _, rfl, hm⟩)
      obtain ⟨γ2, w2, g2, r2, st2⟩ := unwind_ok hcall l γ' h' h2 w' { fr with defers := D' } cs hu' (hl.mono g) hm q2
      refine ⟨γ2, w2, Gm.le_trans g g2, r2, .head (m₁ := lone (Frame.enter P f (args' ++ cap') .deferred) ({ fr with defers := D' } :: cs) w) ?_ (Steps.trans st (.head (step_back_deferred q3 q4 q5 hm q6 q7) st2))⟩
      have hcf : (invoke (.fn (.func f) cap') args').run P w = .ok (.enter f (args' ++ cap')) w := by
        simp only [invoke]; exact run_callFunc hent
      exact step_lone_go (by simp [stepG, Go.unwind, callDeferred, hm, hD, Sem.runT_eq, hcf])
end Go.Ae

namespace Go.Ae
variable {P : Program} {w0 : World} {pend : Nat → Option AObj} {γ : Gm} {h : Hp} {w : World}

def readRes (tmps : Array Value) : ResultVar → Sem Value
  | .tmp t => pure (tmps.getD t undef)
  | .cell a t => do loadVar t (← asAddr (tmps.getD a undef))
theorem results_eq (fn : Func) (tmps : Array Value) : results fn tmps = (do
    let vs ← fn.results.mapM (readRes tmps)
    pure (if h : vs.size = 1 then vs[0] else .tuple vs) : Sem Value) := rfl

theorem getD_of {tmps : Array Value} {t : Nat} {v : Value} (h : tmps[t]? = some v) : tmps.getD t undef = v := by
  rw [Array.getD_eq_getD_getElem?, h]; rfl

theorem resL_sim (hr : HR w0 γ pend h w) {m : Tm} {tmps : Array Value} (ht : Tm.R γ m tmps) : ∀ (l : List ResultVar) (vs : List Value), resultsA P h m l = some vs → ∃ vs', (l.mapM (readRes tmps)).run P w = .ok vs' w ∧ VRs γ vs vs'
  | [], vs, hv => by
    have : some [] = some vs := hv
    cases this
    exact ⟨[], by simp [List.mapM_nil], .nil⟩
  | .tmp t :: l, vs, hv => by
    unfold resultsA at hv
    split at hv
    · rename_i v us h1 h2
      cases hv
      obtain ⟨v', q1, q2⟩ := ht.get h1
      obtain ⟨us', q3, q4⟩ := resL_sim hr ht l us h2
      refine ⟨v' :: us', ?_, .cons q2 q4⟩
      simp only [List.mapM_cons, bind, Sem.run_bind', readRes, Sem.run_pure, Result.andThen_ok, getD_of q1]
      rw [q3]; rfl
    · cases hv
  | .cell t ty :: l, vs, hv => by
    unfold resultsA at hv
    split at hv
    · rename_i x h1
      split at hv
      · rename_i v us h2 h3
        cases hv
        obtain ⟨x', q1, q2⟩ := ht.get h1
        obtain ⟨v', q3, q4⟩ := aLoad_sim (P := P) hr h2 q2
        obtain ⟨us', q5, q6⟩ := resL_sim hr ht l us h3
        refine ⟨v' :: us', ?_, .cons q4 q6⟩
        have hload : (readRes tmps (.cell t ty)).run P w = .ok v' w := by
          show (do loadVar ty (← asAddr (tmps.getD t undef)) : Sem Value).run P w = _
          rw [getD_of q1]
          unfold aLoad at h2
          split at h2
          · cases q2 with
            | ptr hB =>
              simp only [Instr.loadAt, bind, Sem.run_bind', Instr.sureAddr, Sem.run_pure, Result.andThen_ok] at q3
              simp only [asAddr, bind, Sem.run_bind', Sem.run_pure, Result.andThen_ok]
              exact q3
          · cases h2
        simp only [List.mapM_cons, bind, Sem.run_bind', hload, Result.andThen_ok]
        rw [q5]; rfl
      · cases hv
    · cases hv

theorem results_sim (hr : HR w0 γ pend h w) {m : Tm} {fn : Func} {tmps : Array Value} (ht : Tm.R γ m tmps) {vs : List Value} (hv : resultsA P h m fn.results.toList = some vs) :
    ∃ v', (results fn tmps).run P w = .ok v' w ∧ VR γ (tupleOf vs) v' := by
  obtain ⟨vs', h1, h2⟩ := resL_sim (P := P) hr ht _ _ hv
  rw [results_eq]
  refine ⟨if h : (⟨vs'⟩ : Array Value).size = 1 then (⟨vs'⟩ : Array Value)[0] else .tuple ⟨vs'⟩, ?_, ?_⟩
  · rw [Array.mapM_eq_mapM_toList]
    simp only [bind, Sem.run_bind', Functor.map, h1, Result.andThen_ok, Sem.run_pure]
    rfl
  · clear hv
    cases h2 with
    | nil => exact .tuple .nil
    | cons hv1 hl =>
      cases hl with
      | nil => exact hv1
      | cons hv2 hl2 => exact .tuple (.cons hv1 (.cons hv2 hl2))

/-- Functions whose contract is known. -/
def IntrOK (P : Program) (I : Intr) : Prop :=
  ∀ f g, I.fn f = some g → ∀ args h v, g h args = some v → Enterable P f ∧ ∀ w0 pend γ w args', VRs γ args args'.toList → HR w0 γ pend h w →
    RunsF P .normal f args' w fun v' w' => ∃ γ', γ.le γ' ∧ VR γ' v v' ∧ HR w0 γ' pend h w'
def ProgOK (P : Program) : Prop := ∀ (f : Nat) (fn : Func), P.funcs[f]? = some fn → (fn.name == "runtime.NumGoroutine") = false

theorem callF_ok {K : Nat → Nat} {I : Intr} {call : Bool → FuncId → List Value → Hp → OVH} {round : Nat → List Value → Hp → OVH} (hI : IntrOK P I) (hP : ProgOK P) (hcall : CallOK P call)
    (hx : ∀ e : Env, e.call = call → e.round = round → e.ext = I.ext → ∀ c, ExecOK P e c) : CallOK P (callF P K I call round) := by
  intro df f args h v h' hq
  unfold callF at hq
  split at hq
  · rename_i u hu
    cases hq
    split at hu
    · rename_i g hg
      cases df with
      | true => cases hg
      | false => exact hI f g hg args h _ hu
    · cases hu
  · split at hq
    case h_2 => cases hq
    rename_i fn hfn
    split at hq
    case h_2 => cases hq
    rename_i body hbody
    have hfn' : P.funcs[f]? = some fn := by rw [← Array.getElem?_toList]; exact hfn
    refine ⟨⟨fn, hfn', hP f fn hfn', by rw [hbody]; rfl⟩, fun w0 pend γ w args' ha hr cs hcs => ?_⟩
    generalize hkind : (if df = true then CallKind.deferred else CallKind.normal) = kind at hcs ⊢
    dsimp only at hq
    generalize he : (⟨f, max fn.ntmps args.length, df, false, call, round, I.ext⟩ : Env) = e at hq
    have heN : e.n = max fn.ntmps args.length := by rw [← he]
    have hfr := enter_fr (f := f) (args' := args') (kind := kind) (γ := γ) (K f) hfn' ha
    rw [← heN] at hfr
    have hb : BaseOK e (Frame.enter P f args' kind) cs := by
      refine ⟨by rw [← he]; rfl, fun _ => rfl, fun hd => ?_⟩
      have hdf : df = true := by rw [← he] at hd; exact hd
      rw [hdf] at hkind
      have hk : kind = .deferred := hkind.symm
      exact ⟨hk, hcs hk⟩
    have hfin : ∀ ds m h1 γ1 a1 w1, γ.le γ1 → FR γ1 e.n ds m a1 → HR w0 γ1 pend h1 w1 → ∀ todo, Steps P (lone (Frame.enter P f args' kind) cs w) (lone { (Frame.enter P f args' kind).atR a1 todo with mode := .returning } cs w1) →
        (match unwind e ds h1 with | some h' => (match resultsA P h' m fn.results.toList with | some vs => some (tupleOf vs, h') | none => none) | none => none) = some (v, h') →
        ∃ v' w' fr, (∃ γ', γ.le γ' ∧ VR γ' v v' ∧ HR w0 γ' pend h' w') ∧ Steps P (lone (Frame.enter P f args' kind) cs w) (lone fr cs w') ∧ fr.mode = .returning ∧ fr.defers = [] ∧ fr.kind = kind ∧
          ∃ fn, P.funcs[fr.fn]? = some fn ∧ (results fn fr.tmps).run P w' = .ok v' w' ∧ fr.fn = f := by
      intro ds m h1 γ1 a1 w1 g1 f1 r1 todo st hq
      split at hq
      case h_2 => cases hq
      rename_i h2 hu
      split at hq
      case h_2 => cases hq
      rename_i vs hvs
      cases hq
      obtain ⟨γ2, w2, g2, r2, st2⟩ := unwind_ok (P := P) (e := e) (by rw [← he]; exact hcall) ds γ1 h1 h' w1 { (Frame.enter P f args' kind).atR a1 todo with mode := .returning } cs hu f1.defers rfl r1
      obtain ⟨v', q1, q2⟩ := results_sim (P := P) r2 (f1.tm.mono g2) hvs
      exact ⟨v', w2, _, ⟨γ2, Gm.le_trans g1 g2, q2, r2⟩, Steps.trans st st2, rfl, rfl, rfl, fn, hfn', q1, rfl⟩
    have hend : endF P fn e (exec body P e [] ⟨[], args.zipIdx.map fun x => (x.2, x.1), Nat.lor (K f) (Nat.sub (Nat.pow 4 args.length) 1)⟩ h) = some (v, h') := hq
    cases hex : exec body P e [] ⟨[], args.zipIdx.map fun x => (x.2, x.1), Nat.lor (K f) (Nat.sub (Nat.pow 4 args.length) 1)⟩ h with
    | none => rw [hex] at hend; cases hend
    | some o =>
      rw [hex] at hend
      obtain ⟨γ1, a1, w1, g1, s1, f1, r1⟩ := hx e (by rw [← he]) (by rw [← he]) (by rw [← he]) body w0 pend γ [] _ h o hex (Frame.enter P f args' kind) [] cs _ w hb hfr hr
      rw [← enter_at hfn' hbody] at s1
      cases o with
      | go ds m h1 => exact hfin ds m h1 γ1 a1 w1 g1 f1 r1 [] (Steps.trans s1 (.one (stepR_end rfl))) hend
      | ret ds m h1 => obtain ⟨k1, s1⟩ := s1; exact hfin ds m h1 γ1 a1 w1 g1 f1 r1 _ (Steps.trans s1 (.one (stepR_ret rfl))) hend
      | exit id ds m h1 => cases hend
end Go.Ae

namespace Go.Ae
variable {P : Program} {w0 : World} {pend : Nat → Option AObj} {γ : Gm} {h : Hp} {w : World}

theorem loopAt_sim (hr : HR w0 γ pend h w) {l : Nat} {r : LoopO} {p : Pl} (hl : loopAt h l = some r) (hp : γ l = some p) : ∃ r', w.heap[p.b]? = some (.loop r') ∧ OR γ p (.loop r) (.loop r') ∧ h.m.get l = some (.loop r) := by
  unfold loopAt at hl
  split at hl
  · rename_i r2 hg
    cases hl
    obtain ⟨o', h1, h2⟩ := hr.obj l _ p hg (by intro e; cases e) hp
    cases h2 with
    | loop => exact ⟨_, h1, .loop ‹_› ‹_› ‹_› ‹_› ‹_› ‹_› ‹_› ‹_› ‹_› ‹_›, hg⟩
  · cases hl

theorem run_getLoop {b : Nat} {r : Loop} (hb : w.heap[b]? = some (.loop r)) : (Instr.getLoop b).run P w = .ok r w := by
  have hnc : ∀ c t f, (Obj.loop r) ≠ .cells c t f := by intro c t f e; cases e
  simp only [Instr.getLoop, bind, Sem.run_bind', run_getObj (P := P) hb hnc, Result.andThen_ok, Sem.run_pure]

theorem putsA_sim {n : Nat} : ∀ (ps : List Nat) (args args' : List Value) (m m' : Tm) (tmps : Array Value), putsA n ps args m = some m' → VRs γ args args' → Tm.R γ m tmps → tmps.size = n →
    Tm.R γ m' ((ps.zip args').foldl (fun tmps x => tmps.setIfInBounds x.1 x.2) tmps) ∧ ((ps.zip args').foldl (fun tmps x => tmps.setIfInBounds x.1 x.2) tmps).size = n ∧ ps.length = args'.length
  | [], [], _, m, m', tmps, h, ha, ht, hs => by cases ha; cases h; exact ⟨ht, hs, rfl⟩
  | [], _ :: _, _, _, _, _, h, _, _, _ => by cases h
  | _ :: _, [], _, _, _, _, h, _, _, _ => by cases h
  | t :: ps, v :: args, _, m, m', tmps, h, ha, ht, hs => by
    cases ha with
    | cons hv hl =>
    unfold putsA at h
    split at h
    · rename_i m1 h1
      have h1' : ifB (Nat.blt t n) (some (m.put t v)) none = some m1 := h1
      rw [ifB_lt] at h1'
      split at h1'
      · rename_i hlt
        cases h1'
        obtain ⟨q1, q2, q3⟩ := putsA_sim ps args _ _ m' (tmps.setIfInBounds t _) h hl (ht.put hv (by rw [hs]; exact hlt)) (by simp [hs])
        exact ⟨q1, q2, by simp [q3]⟩
      · cases h1'
    · cases h

theorem run_beginRound {b : Nat} {r : Loop} (hb : w.heap[b]? = some (.loop r)) (hs : r.state = .ready) : ∃ w', (Instr.beginRound b).run P w = .ok () w' ∧ Chg w w' b (.loop { r with state := .busy }) := by
  have hnc : ∀ c t f, (Obj.loop r) ≠ .cells c t f := by intro c t f e; cases e
  obtain ⟨w', e1, e2⟩ := run_setObj (P := P) (o' := .loop { r with state := .busy }) hb hnc
  refine ⟨w', ?_, e2⟩
  simp only [Instr.beginRound, bind, Sem.run_bind', run_getLoop hb, Result.andThen_ok, e1, hs, Sem.run_pure]
theorem run_endRound {b : Nat} {r : Loop} (hb : w.heap[b]? = some (.loop r)) (jump : Option Code) : ∃ w', (Instr.endRound b jump).run P w = .ok (.bool jump.isNone) w' ∧ Chg w w' b (.loop { r with state := if jump.isNone then .ready else .done, pending := jump }) := by
  have hnc : ∀ c t f, (Obj.loop r) ≠ .cells c t f := by intro c t f e; cases e
  obtain ⟨w', e1, e2⟩ := run_setObj (P := P) (o' := .loop { r with state := if jump.isNone then .ready else .done, pending := jump }) hb hnc
  refine ⟨w', ?_, e2⟩
  simp only [Instr.endRound, bind, Sem.run_bind', run_getLoop hb, Result.andThen_ok, e1, Sem.run_pure]

/-- The end of a round. -/
theorem roundEnd_sim {l : Nat} {p : Pl} {jump : Option Code} {v : Value} {h' : Hp} (hr : HR w0 γ pend h w) (hp : γ l = some p) (hq : roundEnd l jump h = some (v, h')) :
    ∃ w', (Instr.endRound p.b jump).run P w = .ok (.bool jump.isNone) w' ∧ v = .bool jump.isNone ∧ HR w0 γ pend h' w' := by
  unfold roundEnd at hq
  split at hq
  · rename_i x1 x2 fn tm n ps assign body d hl
    cases hq
    obtain ⟨r', h1, h2, hg⟩ := loopAt_sim hr hl hp
    obtain ⟨w', e1, e2⟩ := run_endRound (P := P) h1 jump
    refine ⟨w', e1, rfl, hr.change hg (by intro e; cases e) hp e2 ?_⟩
    cases h2 with
    | loop hs hpd hf ht hn hps ha hb hd hd' => exact .loop (by cases jump <;> rfl) rfl hf ht hn hps ha hb hd hd'
  · cases hq

theorem roundF_ok {ext : Nat → Option (Hp → List Value → OVH)} {call : Bool → FuncId → List Value → Hp → OVH} {round : Nat → List Value → Hp → OVH} (hx : ∀ e : Env, e.call = call → e.round = round → e.ext = ext → ∀ c, ExecOK P e c) : RoundOK P (roundF P ext call round) := by
  intro l args h v h' hq w0 pend γ w p args' hp ha hr
  unfold roundF at hq
  split at hq
  case h_2 => cases hq
  rename_i x1 x2 fn tm n ps assign body d hl
  split at hq
  case h_2 => cases hq
  rename_i tm1 hputs
  dsimp only at hq
  generalize he : (⟨fn, n, false, true, call, round, ext⟩ : Env) = e at hq
  have heN : e.n = n := by rw [← he]
  obtain ⟨r', h1, h2, hg⟩ := loopAt_sim hr hl hp
  cases h2 with
  | loop hs hpd hf ht hn hps haa hbb hd hd' =>
  simp only at hs hpd hf hn hps haa hbb
  obtain ⟨q1, q2, q3⟩ := putsA_sim ps.toList args args' tm tm1 r'.tmps hputs ha ht hn
  have hpsz : (⟨args'⟩ : Array Value).size = r'.params.size := by rw [hps]; simpa using q3.symm
  have hfold : ((r'.params.zip ⟨args'⟩).foldl (fun tmps (x : Tmp × Value) => tmps.setIfInBounds x.1 x.2) r'.tmps) = (ps.toList.zip args').foldl (fun tmps x => tmps.setIfInBounds x.1 x.2) r'.tmps := by
    rw [hps, ← Array.foldl_toList]
    congr 1
    simp
  refine ⟨r'.fn, (r'.params.zip ⟨args'⟩).foldl (fun tmps (x : Tmp × Value) => tmps.setIfInBounds x.1 x.2) r'.tmps, assign, body, w, ?_, fun c cs => ?_⟩
  · simp only [Instr.yield, bind, Sem.run_bind', run_getLoop h1, Result.andThen_ok]
    rw [if_neg (by rw [hpsz]; simp), haa, hbb]
    rfl
  · rw [hfold, hf]
    generalize hT : (ps.toList.zip args').foldl (fun tmps x => tmps.setIfInBounds x.1 x.2) r'.tmps = T at q1 q2
    have hfr0 : Frame.round p.b fn T assign body .normal = (Frame.round p.b fn T assign body .normal).atR ⟨T, []⟩ [.code assign, .beginRound, .code body] := rfl
    have hb : BaseOK e (Frame.round p.b fn T assign body .normal) (c :: cs) := by
      refine ⟨by rw [← he]; rfl, fun hro => ?_, fun hd => ?_⟩
      · rw [← he] at hro; cases hro
      · rw [← he] at hd; cases hd
    split at hq
    case h_2 => cases hq
    rename_i ds2 tm2 hp2 hex
    obtain ⟨γ1, a1, w1, g1, s1, f1, r1⟩ := hx e (by rw [← he]) (by rw [← he]) (by rw [← he]) assign w0 pend γ [] tm1 h _ hex (Frame.round p.b fn T assign body .normal) [.beginRound, .code body] (c :: cs) ⟨T, []⟩ w hb ⟨q1, by rw [heN]; exact q2, .nil⟩ hr
    rw [← hfr0] at s1
    split at hq
    case h_2 => cases hq
    rename_i pending f2 tm3 n2 ps2 as2 bd2 d2 hl2
    obtain ⟨r2, k1, k2, hg2⟩ := loopAt_sim r1 hl2 (g1 _ _ hp)
    cases k2 with
    | loop ks kpd kf kt kn kps kaa kbb kd kd' =>
    simp only at ks kpd kf kn kps kaa kbb
    obtain ⟨w2, e1, e2⟩ := run_beginRound (P := P) k1 ks
    have r2' := HR.change r1 (o' := .loop ⟨.busy, pending, f2, tm3, n2, ps2, as2, bd2, d2⟩) hg2 (by intro e; cases e) (g1 _ _ hp) e2 (.loop rfl kpd kf kt kn kps kaa kbb kd kd')
    have sB := stepR_beginRound (P := P) (b := Frame.round p.b fn T assign body .normal) (a := a1) (k := [.code body]) (cs := c :: cs) (w := w1) (l := p.b) rfl e1
    have run : ∀ o, exec body P e ds2 tm2 (hp2.upd l (.loop ⟨.busy, pending, f2, tm3, n2, ps2, as2, bd2, d2⟩)) = some o → RunOK P w0 pend γ1 e.n (lone ((Frame.round p.b fn T assign body .normal).atR a1 (.code body :: [])) (c :: cs) w2) (Frame.round p.b fn T assign body .normal) [] (c :: cs) o :=
      fun o ho => hx e (by rw [← he]) (by rw [← he]) (by rw [← he]) body w0 pend γ1 ds2 tm2 _ o ho (Frame.round p.b fn T assign body .normal) [] (c :: cs) a1 w2 hb f1 r2'
    have s12 := Steps.trans s1 (.one sB)
    split at hq
    · rename_i ds4 tm4 h4 ho
      obtain ⟨γ3, a3, w3, g3, s3, f3, r3⟩ := run _ ho
      obtain ⟨w4, e4, rfl, r4⟩ := roundEnd_sim (P := P) r3 (g3 _ _ (g1 _ _ hp)) hq
      exact ⟨γ3, _, w4, Gm.le_trans g1 g3, .bool _, r4, Steps.trans s12 (Steps.trans s3 (.one (stepR_round_end rfl rfl e4)))⟩
    · rename_i ds4 tm4 h4 ho
      obtain ⟨γ3, a3, w3, g3, ⟨kk, s3⟩, f3, r3⟩ := run _ ho
      obtain ⟨w4, e4, rfl, r4⟩ := roundEnd_sim (P := P) r3 (g3 _ _ (g1 _ _ hp)) hq
      exact ⟨γ3, _, w4, Gm.le_trans g1 g3, .bool _, r4, Steps.trans s12 (Steps.trans s3 (.one (stepR_round_ret rfl rfl e4)))⟩
    · rename_i id ds4 tm4 h4 ho
      obtain ⟨γ3, a3, w3, g3, ⟨kk, hkk, s3⟩, f3, r3⟩ := run _ ho
      obtain ⟨w4, e4, rfl, r4⟩ := roundEnd_sim (P := P) r3 (g3 _ _ (g1 _ _ hp)) hq
      exact ⟨γ3, _, w4, Gm.le_trans g1 g3, .bool _, r4, Steps.trans s12 (Steps.trans s3 (.one (stepR_round_exit rfl rfl hkk e4)))⟩
    · cases hq
end Go.Ae

namespace Go.Ae
variable {P : Program} {w0 : World} {pend : Nat → Option AObj} {γ : Gm} {h : Hp} {w : World}

theorem run_endLoop {b : Nat} {r : Loop} (hb : w.heap[b]? = some (.loop r)) (hs : r.state ≠ .busy) : ∃ w', (Instr.endLoop b).run P w = .ok r.pending w' ∧ Chg w w' b (.loop { r with state := .exhausted }) := by
  have hnc : ∀ c t f, (Obj.loop r) ≠ .cells c t f := by intro c t f e; cases e
  obtain ⟨w', e1, e2⟩ := run_setObj (P := P) (o' := .loop { r with state := .exhausted }) hb hnc
  have hs' : (r.state == .busy) = false := by cases hq : r.state <;> first | rfl | exact absurd hq hs
  refine ⟨w', ?_, e2⟩
  simp only [Instr.endLoop, bind, Sem.run_bind', run_getLoop hb, Result.andThen_ok, hs', Bool.false_eq_true, if_false, e1, Sem.run_pure]

section
variable {b : Frame} {a : Act} {k : List Item} {cs : List Frame}
theorem stepR_endRange {l : Nat} {j : Option Code} {w' : World} (hr : (Instr.endLoop l).run P w = .ok j w') :
    step P (lone (b.atR a (.endRangeFunc l :: k)) cs w) = .next (lone (b.atR a ((j.map Item.code).toList ++ k)) cs w') :=
  step_lone_go (by simp [stepG, stepG.exec, Frame.atR, Sem.runT_eq, hr])

theorem stepR_range {f : Operand} {ps : Array Tmp} {x y : Code} {l : Nat} {mark : List Deferred} {g : FuncId} {args : Array Value} {w1 w2 : World} (hb : b.roundOf = none)
    (h1 : (Instr.enterLoop b.fn a.tmps ps x y none).run P w = .ok (l, mark) w1)
    (h2 : (do let d ← resolve a.eval { callee := .value f, args := #[.const (.func (.yield l) #[] #[])], argTypes := #[] } 0; invoke d.target d.args : Sem Next).run P w1 = .ok (.enter g args) w2) :
    step P (lone (b.atR a (.code (.rangeFunc f ps x y) :: k)) cs w) = .next (lone (Frame.enter P g args .normal) (b.atR { a with defers := mark ++ a.defers } (.inRangeFunc l :: k) :: cs) w2) := by
  refine step_lone_go ?_
  have he := Frame.eval_atR b { a with defers := mark ++ a.defers } (.inRangeFunc l :: k)
  have he' : (Act.eval { a with defers := mark ++ a.defers }) = a.eval := by funext z; cases z <;> rfl
  rw [he'] at he
  simp only [Frame.atR, hb] at he
  simp only [stepG, stepG.exec, Frame.atR, hb, Sem.runT_eq, h1, stepG.apply]
  simp only [he, h2]
  simp
end

theorem afterLoop_some {l : Nat} {ds : List Deferred} {m : Tm} {o : OVH} {out : Out} (hq : afterLoop l ds m o = some out) :
    ∃ v h2 state pending f2 tm2 n2 ps x y d, o = some (v, h2) ∧ loopAt h2 l = some ⟨state, pending, f2, tm2, n2, ps, x, y, d⟩ ∧ state ≠ .busy ∧
      out.ds = ds ∧ out.tm = m ∧ out.h = h2.upd l (.loop ⟨.exhausted, pending, f2, tm2, n2, ps, x, y, d⟩) ∧
      ((pending = none ∧ ∃ d m h, out = .go d m h) ∨ (pending = some .ret ∧ ∃ d m h, out = .ret d m h) ∨ (∃ id, pending = some (.exit id) ∧ ∃ d m h, out = .exit id d m h)) := by
  unfold afterLoop at hq
  split at hq
  case h_2 => cases hq
  rename_i v h2
  split at hq
  case h_2 => cases hq
  rename_i state pending f2 tm2 n2 ps x y d hl
  split at hq
  · cases hq
  · rename_i hs; cases hq; exact ⟨v, h2, _, _, _, _, _, _, _, _, _, rfl, hl, fun e => hs e, rfl, rfl, rfl, .inl ⟨rfl, _, _, _, rfl⟩⟩
  · rename_i hs; cases hq; exact ⟨v, h2, _, _, _, _, _, _, _, _, _, rfl, hl, fun e => hs e, rfl, rfl, rfl, .inr (.inl ⟨rfl, _, _, _, rfl⟩)⟩
  · rename_i id hs; cases hq; exact ⟨v, h2, _, _, _, _, _, _, _, _, _, rfl, hl, fun e => hs e, rfl, rfl, rfl, .inr (.inr ⟨id, rfl, _, _, _, rfl⟩)⟩
  · cases hq

theorem exec_range {e : Env} (hcall : CallOK P e.call) (f : Operand) (ps : Array Tmp) (x y : Code) : ExecOK P e (.rangeFunc f ps x y) := by
  intro w0 pend γ ds m h o he b k cs a w hb hf hr
  have hq : rangeO f ps x y P e ds m h = some o := he
  unfold rangeO at hq
  split at hq
  case h_2 => cases hq
  rename_i g first cap hro hev
  obtain ⟨d, mm⟩ := h
  dsimp only at hq
  have hbr := hb.ro hro
  -- the two new blocks
  have hn0 : γ d = none := hr.fresh_none (Nat.le_refl _)
  let p0 : Pl := ⟨w.heap.size, 0, 0⟩
  have r1 := hr.alloc (o := .deferred) (p := p0) (ob := .deferred (some [])) rfl (Grew.alloc w _) .deferred
  have g1 : γ.le (γ.upd d p0) := Gm.le_upd _ hn0
  have hn1 : (γ.upd d p0) (d + 1) = none := r1.fresh_none (Nat.le_refl _)
  let w1 := more w (.deferred (some []))
  let p1 : Pl := ⟨w1.heap.size, 0, 0⟩
  let L : Loop := { state := .ready, pending := none, fn := b.fn, tmps := a.tmps, params := ps, assign := x, body := y, defers := w.heap.size }
  have g2 : (γ.upd d p0).le ((γ.upd d p0).upd (d + 1) p1) := Gm.le_upd _ hn1
  have hd2 : ((γ.upd d p0).upd (d + 1) p1) d = some p0 := g2 _ _ (Gm.upd_same _ _ _)
  have r2 := r1.alloc (o := .loop ⟨.ready, none, e.fn, m, e.n, ps, x, y, d⟩) (p := p1) (ob := .loop L) rfl (Grew.alloc w1 _)
    (.loop rfl rfl hb.fn (hf.tm.mono (Gm.le_trans g1 g2)) hf.size rfl rfl rfl hd2 rfl)
  have hl2 : ((γ.upd d p0).upd (d + 1) p1) (d + 1) = some p1 := Gm.upd_same _ _ _
  have henter : (Instr.enterLoop b.fn a.tmps ps x y none).run P w = .ok (p1.b, [{ target := .collected w.heap.size, args := #[] }]) (more w1 (.loop L)) := by
    simp only [Instr.enterLoop, bind, Sem.run_bind', run_newObj, Result.andThen_ok, Sem.run_pure]
    rfl
  have hx := ev_vr hf.tm hev
  generalize hfe : a.eval f = f' at hx
  cases hx with
  | func _ hfi hca =>
  rename_i first' cap' _
  obtain ⟨v, h2, state, pending, f2, tm2, n2, ps2, x2, y2, d2, hcall2, hl, hs, o1, o2, o3, o4⟩ := afterLoop_some hq
  obtain ⟨hent, hrf⟩ := hcall _ _ _ _ _ _ hcall2
  have hvr : VRs ((γ.upd d p0).upd (d + 1) p1) (first.toList ++ [.func (.yield (d + 1)) #[] #[]] ++ cap.toList) (first' ++ #[.func (.yield p1.b) #[] #[]] ++ cap' : Array Value).toList := by
    have : (first' ++ #[.func (.yield p1.b) #[] #[]] ++ cap' : Array Value).toList = first'.toList ++ [.func (.yield p1.b) #[] #[]] ++ cap'.toList := by simp
    rw [this]
    exact ((hfi.mono (Gm.le_trans g1 g2)).append (.one (.yield hl2))).append (hca.mono (Gm.le_trans g1 g2))
  have hres : (do let d ← resolve a.eval { callee := .value f, args := #[.const (.func (.yield p1.b) #[] #[])], argTypes := #[] } 0; invoke d.target d.args : Sem Next).run P (more w1 (.loop L)) = .ok (.enter g (first' ++ #[.func (.yield p1.b) #[] #[]] ++ cap')) (more w1 (.loop L)) := by
    have e1 : (#[Operand.const (.func (.yield p1.b) #[] #[])]).map a.eval = #[.func (.yield p1.b) #[] #[]] := by apply Array.ext'; simp [Act.eval]
    simp only [resolve, hfe, Deferred.ofValue, bind, Sem.run_bind', Sem.run_pure, Result.andThen_ok, invoke, e1]
    exact run_callFunc hent
  obtain ⟨v', w', fr, ⟨γ3, g3, q1, q2⟩, st, q3, q4, q5, fn, q6, q7, _⟩ := hrf w0 pend _ _ _ hvr r2 (b.atR { a with defers := { target := .collected w.heap.size, args := #[] } :: a.defers } (.inRangeFunc p1.b :: k) :: cs) (fun h => by cases h)
  have s1 := stepR_range (P := P) (b := b) (a := a) (k := k) (cs := cs) hbr henter hres
  have s2 := step_back (P := P) (c := b.atR { a with defers := { target := .collected w.heap.size, args := #[] } :: a.defers } (.inRangeFunc p1.b :: k)) (cs := cs) q3 q4 q5 q6 q7
  obtain ⟨r', k1, k2, hg⟩ := loopAt_sim q2 hl (g3 _ _ hl2)
  cases k2 with
  | loop ks kpd kf kt kn kps kaa kbb kd kd' =>
  obtain ⟨w4, e4, c4⟩ := run_endLoop (P := P) k1 (by rw [ks]; exact hs)
  have r4 := HR.change q2 (o' := .loop ⟨.exhausted, pending, f2, tm2, n2, ps2, x2, y2, d2⟩) hg (by intro e; cases e) (g3 _ _ hl2) c4 (.loop rfl kpd kf kt kn kps kaa kbb kd kd')
  have gAll : γ.le γ3 := Gm.le_trans (Gm.le_trans g1 g2) g3
  have s3 := stepR_endRange (P := P) (b := b) (a := { a with defers := { target := .collected w.heap.size, args := #[] } :: a.defers }) (k := k) (cs := cs) e4
  have sAll := Steps.head s1 (Steps.trans st (Steps.head s2 (.one s3)))
  refine ⟨γ3, { a with defers := { target := .collected w.heap.size, args := #[] } :: a.defers }, w4, gAll, ?_, ⟨?_, hf.size, ?_⟩, ?_⟩
  · rw [kpd] at sAll
    rcases o4 with ⟨rfl, _, _, _, rfl⟩ | ⟨rfl, _, _, _, rfl⟩ | ⟨id, rfl, _, _, _, rfl⟩
    · exact sAll
    · exact ⟨k, sAll⟩
    · exact ⟨k, rfl, sAll⟩
  · rw [o2]; exact hf.tm.mono gAll
  · rw [o1]; exact .cons (.coll (g3 _ _ hd2)) (hf.defers.mono gAll)
  · rw [o3]; exact r4
end Go.Ae

namespace Go.Ae
variable {P : Program}

/-- What regions that draw their order ought to be. -/
def DrawOK (P : Program) : Prop := ∀ e : Env, CallOK P e.call → EnvOK P e → ∀ id ops, ExecOK P e (.region id ops true)

theorem all_ok (hD : DrawOK P) {e : Env} (hc : CallOK P e.call) (hr : EnvOK P e) : ∀ c, ExecOK P e c :=
  exec_ok (fun id ops draw => by cases draw; exact exec_region hc hr id ops; exact hD e hc hr id ops) (exec_range hc)

theorem callsN_ok {K : Nat → Nat} {I : Intr} (hD : DrawOK P) (hI : IntrOK P I) (hX : ExtOK P I.ext) (hP : ProgOK P) : ∀ n, CallOK P (callsN P K I n).call ∧ RoundOK P (callsN P K I n).round
  | 0 => ⟨fun _ _ _ _ _ _ h => (by cases h), fun _ _ _ _ _ h => (by cases h)⟩
  | n + 1 => by
    obtain ⟨h1, h2⟩ := callsN_ok (K := K) (I := I) hD hI hX hP n
    have hx : ∀ e : Env, e.call = (callsN P K I n).call → e.round = (callsN P K I n).round → e.ext = I.ext → ∀ c, ExecOK P e c := fun e e1 e2 e3 => all_ok hD (by rw [e1]; exact h1) ⟨by rw [e2]; exact h2, by rw [e3]; exact hX⟩
    exact ⟨callF_ok hI hP h1 hx, roundF_ok hx⟩

theorem hr_empty (w : World) : HR w (fun _ => none) (fun _ => none) ⟨0, .nil⟩ w :=
  ⟨⟨rfl, rfl, rfl, Nat.le_refl _, fun _ _ => rfl⟩, fun _ _ h => (by cases h), fun _ _ _ _ _ _ _ _ _ _ h => (by cases h), fun _ _ _ _ _ h => (by cases h), fun _ _ => rfl, fun _ _ _ => rfl, fun _ _ h => (by cases h)⟩

/-- An answer without addresses, of a function without arguments. -/
theorem evalA_calls {K : Nat → Nat} {I : Intr} (hD : DrawOK P) (hI : IntrOK P I) (hX : ExtOK P I.ext) (hP : ProgOK P) {f : FuncId} {v : Value} {h' : Hp} (he : evalA P K I f [] = some (v, h')) (w : World) :
    RunsF P .normal f #[] w fun v' w' => ∃ γ', VR γ' v v' ∧ HR w γ' (fun _ => none) h' w' := by
  have hc := (callsN_ok (K := K) (I := I) hD hI hX hP 200).1
  obtain ⟨_, hrf⟩ := hc false f [] ⟨0, .nil⟩ v h' he
  intro cs hcs
  obtain ⟨v', w', fr, ⟨γ', _, q1, q2⟩, rest⟩ := hrf w (fun _ => none) (fun _ => none) w #[] .nil (hr_empty w) cs hcs
  exact ⟨v', w', fr, ⟨γ', q1, q2⟩, rest⟩
end Go.Ae

namespace Go.Ae
variable {P : Program} {m m2 : Tm} {h : Hp}

theorem evs_cong : ∀ {l : List Operand}, (∀ x ∈ l, ev m x = ev m2 x) → evs m l = evs m2 l
  | [], _ => rfl
  | x :: l, hx => by
    show Option.rec (motive := fun _ => Option (List Value)) none (fun v => Option.rec (motive := fun _ => Option (List Value)) none (fun vs => some (v :: vs)) (evs m l)) (ev m x) = Option.rec (motive := fun _ => Option (List Value)) none (fun v => Option.rec (motive := fun _ => Option (List Value)) none (fun vs => some (v :: vs)) (evs m2 l)) (ev m2 x)
    rw [hx x (by simp), evs_cong fun y hy => hx y (by simp [hy])]
theorem evParts_cong : ∀ {l : List (Nat × Operand)}, (∀ x ∈ l.map (·.2), ev m x = ev m2 x) → evParts m l = evParts m2 l
  | [], _ => rfl
  | x :: l, hx => by
    show Option.rec (motive := fun _ => Option (List (Nat × Value))) none (fun v => Option.rec (motive := fun _ => Option (List (Nat × Value))) none (fun vs => some ((x.1, v) :: vs)) (evParts m l)) (ev m x.2) = Option.rec (motive := fun _ => Option (List (Nat × Value))) none (fun v => Option.rec (motive := fun _ => Option (List (Nat × Value))) none (fun vs => some ((x.1, v) :: vs)) (evParts m2 l)) (ev m2 x.2)
    rw [hx x.2 (by simp), evParts_cong fun y hy => hx y (by simp only [List.map_cons, List.mem_cons]; exact .inr hy)]
theorem bound_cong {x : Option Operand} {d : Nat} (hx : ∀ y ∈ x.toArray, ev m y = ev m2 y) : bound m x d = bound m2 x d := by
  cases x with
  | none => rfl
  | some x => have e := hx x (by simp); unfold bound; dsimp only; rw [e]
theorem aSliceS_cong {k len cap : Nat} {p : Option Addr} {lo hi mx : Option Operand} (h1 : ∀ d, bound m lo d = bound m2 lo d) (h2 : ∀ d, bound m hi d = bound m2 hi d) (h3 : ∀ d, bound m mx d = bound m2 mx d) :
    aSliceS m k p len cap lo hi mx = aSliceS m2 k p len cap lo hi mx := by
  unfold aSliceS; simp only [h1, h2, h3]
theorem aSlice_cong {t : TypeId} {v : Value} {lo hi mx : Option Operand} (h1 : ∀ d, bound m lo d = bound m2 lo d) (h2 : ∀ d, bound m hi d = bound m2 hi d) (h3 : ∀ d, bound m mx d = bound m2 mx d) :
    aSlice P m t v lo hi mx = aSlice P m2 t v lo hi mx := by
  unfold aSlice; simp only [h1, h2, h3, aSliceS_cong h1 h2 h3]

theorem call_args {c : Call} (hx : ∀ x ∈ c.operands, ev m x = ev m2 x) : evs m c.args.toList = evs m2 c.args.toList :=
  evs_cong fun x hm => hx x (by simp only [Call.operands, Array.mem_append]; exact .inr (by simpa using hm))

theorem aPure_cong {op : Op} (hx : ∀ x ∈ op.operands, ev m x = ev m2 x) : aPure P m op = aPure P m2 op := by
  cases op <;> simp only [Op.operands] at hx <;> (try rfl)
  case move x => exact hx x (by simp)
  case assign x => exact hx x (by simp)
  case pick c x y => simp only [aPure, hx c (by simp), hx x (by simp), hx y (by simp)]
  case nilCheck x => simp only [aPure, hx x (by simp)]
  case binOp op t x y u => simp only [aPure, hx x (by simp), hx y (by simp)]
  case sliceToArrayPointer t x => simp only [aPure, hx x (by simp)]
  case unOp op t x => simp only [aPure, hx x (by simp)]
  case convert s d x => simp only [aPure, hx x (by simp)]
  case makeInterface t x => simp only [aPure, hx x (by simp)]
  case makeFunc fn first cap => simp only [aPure, evs_cong (l := first.toList) fun x hm => hx x (by simp only [Array.mem_append]; exact .inl (by simpa using hm)), evs_cong (l := cap.toList) fun x hm => hx x (by simp only [Array.mem_append]; exact .inr (by simpa using hm))]
  case slice t x lo hi mx =>
    simp only [Array.mem_append] at hx
    have hs : ∀ v, aSlice P m t v lo hi mx = aSlice P m2 t v lo hi mx := fun v =>
      aSlice_cong (fun d => bound_cong fun y hy => hx y (.inl (.inl (.inr hy)))) (fun d => bound_cong fun y hy => hx y (.inl (.inr hy))) (fun d => bound_cong fun y hy => hx y (.inr hy))
    simp only [aPure, hx x (.inl (.inl (.inl (by simp)))), hs]
  case fieldAddr s x f => simp only [aPure, hx x (by simp)]
  case field t x f => simp only [aPure, hx x (by simp)]
  case indexAddr t x i => simp only [aPure, hx x (by simp), hx i (by simp)]
  case index t x i => simp only [aPure, hx x (by simp), hx i (by simp)]
  case extract t i => simp only [aPure, hx t (by simp)]
  case build t ps => simp only [aPure, evParts_cong (l := ps.toList) fun x hm => hx x (by simpa using hm)]
  case typeAssert x u t ok => simp only [aPure, hx x (by simp)]
  case call c =>
    have ha := call_args hx
    obtain ⟨callee, args, tys⟩ := c
    simp only at ha
    cases callee with
    | value f => rfl
    | invoke r n => rfl
    | builtin b =>
      cases b <;> (try rfl)
      case len =>
        simp only [aPure]
        split
        · rename_i x t h1 h2
          rw [hx x (by simp only [Call.operands, Array.mem_append]; exact .inr (by rw [← Array.mem_toList_iff, h1]; simp))]
        · rfl
      case max => simp only [aPure, ha]
      case min => simp only [aPure, ha]

theorem aRead_cong {op : Op} (hx : ∀ x ∈ op.operands, ev m x = ev m2 x) : aRead P h m op = aRead P h m2 op := by
  cases op <;> simp only [Op.operands] at hx <;> (try rfl)
  case load t x => simp only [aRead, hx x (by simp)]
  case lookup t x k ok => simp only [aRead, hx x (by simp), hx k (by simp)]
  case convert s d x => simp only [aRead, hx x (by simp)]
  case call c =>
    obtain ⟨callee, args, tys⟩ := c
    cases callee with
    | value f => rfl
    | invoke r n => rfl
    | builtin b =>
      cases b <;> (try rfl)
      case len =>
        simp only [aRead]
        split
        · rename_i x t h1 h2
          rw [hx x (by simp only [Call.operands, Array.mem_append]; exact .inr (by rw [← Array.mem_toList_iff, h1]; simp))]
        · rfl

theorem aVal_cong {op : Op} (hx : ∀ x ∈ op.operands, ev m x = ev m2 x) : aVal P h m op = aVal P h m2 op := by
  unfold aVal; rw [aPure_cong hx, aRead_cong hx]

theorem aNew_cong {op : Op} (hx : ∀ x ∈ op.operands, ev m x = ev m2 x) : aNew P m op = aNew P m2 op := by
  cases op <;> simp only [Op.operands] at hx <;> (try rfl)
  case box t x => simp only [aNew, hx x (by simp)]
  case buildSlice t n ps => simp only [aNew, evParts_cong (l := ps.toList) fun x hm => hx x (by simpa using hm)]
  case convert s d x => simp only [aNew, hx x (by simp)]
  case makeSlice t l c => simp only [aNew, hx l (by simp), hx c (by simp)]
  case makeMap t r => cases r with
    | none => rfl
    | some r => simp only [aNew]
  case range t x => simp only [aNew, hx x (by simp)]

theorem aEff_cong {op : Op} (hx : ∀ x ∈ op.operands, ev m x = ev m2 x) : aEff P h m op = aEff P h m2 op := by
  cases op <;> simp only [Op.operands] at hx <;> (try rfl)
  case store t x v => simp only [aEff, hx x (by simp), hx v (by simp)]
  case mapUpdate t x k v => simp only [aEff, hx x (by simp), hx k (by simp), hx v (by simp)]
  case insert t x k v => simp only [aEff, hx x (by simp), hx k (by simp), hx v (by simp)]
  case next x s => cases s with
    | true => simp only [aEff, hx x (by simp)]
    | false => simp only [aEff]
  case convert s d x => simp only [aEff, hx x (by simp)]
  case call c =>
    have ha := call_args hx
    obtain ⟨callee, args, tys⟩ := c
    simp only at ha
    cases callee with
    | value f => rfl
    | invoke r n => rfl
    | builtin b => cases b <;> first | rfl | simp only [aEff, ha]

theorem quickA_cong {op : Op} (hx : ∀ x ∈ op.operands, ev m x = ev m2 x) : quickA P h m op = quickA P h m2 op := by
  unfold quickA; rw [aVal_cong hx, aNew_cong hx, aEff_cong hx]

theorem aCallee_cong {c : Call} (hx : ∀ x ∈ c.operands, ev m x = ev m2 x) : aCallee P h m c = aCallee P h m2 c := by
  have ha := call_args hx
  obtain ⟨callee, args, tys⟩ := c
  simp only at ha
  cases callee with
  | value f => simp only [aCallee, ha, hx f (by simp [Call.operands])]
  | invoke r n => simp only [aCallee, ha, hx r (by simp [Call.operands])]
  | builtin b => rfl

theorem Way.cong {e : Env} {ds ds' : List Deferred} {op : Op} {h' : Hp} {v : Value} (hx : ∀ x ∈ op.operands, ev m x = ev m2 x) (hw : Way P e ds m h op ds' h' v) : Way P e ds m2 h op ds' h' v := by
  cases hw with
  | quick hq => exact .quick (by rw [← quickA_cong hx]; exact hq)
  | call hc hr => exact .call (by rw [← aCallee_cong hx]; exact hc) hr
  | ext hc hg hr => exact .ext (by rw [← aCallee_cong hx]; exact hc) hg hr
  | round hc hr => exact .round (by rw [← aCallee_cong hx]; exact hc) hr
  | recov h1 h2 => exact .recov h1 h2
  | defer h1 h2 h3 =>
    refine .defer h1 ?_ ?_
    · rw [← hx _ (by simp [Op.operands, Call.operands])]; exact h2
    · rw [← call_args (c := ⟨.value _, _, _⟩) hx]; exact h3
end Go.Ae

namespace Go.Ae
variable {P : Program} {w0 : World} {γ : Gm}

theorem bitIn_testBit (m i : Nat) : bitIn m i = m.testBit i := by
  unfold bitIn
  rw [show Nat.shiftRight m i = m >>> i from rfl, show Nat.land (m >>> i) 1 = (m >>> i) &&& 1 from rfl, Nat.and_one_is_mod, Nat.shiftRight_eq_div_pow, Nat.testBit_eq_decide_div_mod_eq]
  have : m / 2 ^ i % 2 < 2 := Nat.mod_lt _ (by omega)
  by_cases h : m / 2 ^ i % 2 = 1
  · rw [h]; rfl
  · have h0 : m / 2 ^ i % 2 = 0 := by omega
    rw [h0]; rfl
theorem bitIn_lor (a b i : Nat) : bitIn (Nat.lor a b) i = (bitIn a i || bitIn b i) := by
  simp only [bitIn_testBit]; exact Nat.testBit_or a b i
theorem bitIn_pow (i j : Nat) : bitIn (Nat.pow 2 i) j = true ↔ i = j := by
  rw [bitIn_testBit]
  show (2 ^ i).testBit j = true ↔ _
  rw [Nat.testBit_two_pow]; simp
theorem bitIn_zero (i : Nat) : bitIn 0 i = false := by rw [bitIn_testBit, Nat.zero_testBit]
theorem bitIn_foldl (l : List Nat) : ∀ (acc j : Nat), bitIn (l.foldl Nat.lor acc) j = (bitIn acc j || l.any (bitIn · j)) := by
  induction l with
  | nil => intro acc j; simp
  | cons x l ih => intro acc j; rw [List.foldl_cons, ih, bitIn_lor, List.any_cons, Bool.or_assoc]
theorem bitIn_orL (l : List Nat) (j : Nat) : bitIn (orL l) j = true ↔ ∃ x ∈ l, bitIn x j = true := by
  unfold orL
  rw [bitIn_foldl, bitIn_zero, Bool.false_or, List.any_eq_true]

theorem bindsE_eq (e : Edge) : bindsE e = Region.binds .any e := by
  unfold bindsE Region.binds
  cases e.ground <;> rfl

theorem befs_length : ∀ (l : List Oper) (acc : List Nat), (befs l acc).length = acc.length + l.length
  | [], acc => rfl
  | o :: l, acc => by rw [befs, befs_length]; simp; omega

theorem dopsOf_at {ops : List Oper} {i : Nat} {d : DOp} (h : (dopsOf ops)[i]? = some d) : d.i = i ∧ ops[i]? = some d.o := by
  unfold dopsOf at h
  simp only [List.getElem?_map, List.getElem?_zipIdx, Option.map_map] at h
  cases hz : (ops.zip (befs ops []))[i]? with
  | none => rw [hz] at h; cases h
  | some p =>
    rw [hz] at h
    simp only [Option.map_some, Option.some.injEq, Function.comp] at h
    rw [List.getElem?_zip_eq_some] at hz
    rw [← h]
    exact ⟨by simp, hz.1⟩
theorem dopsOf_length (ops : List Oper) : (dopsOf ops).length = ops.length := by
  unfold dopsOf
  simp [befs_length]

/-- What the check says. -/
structure DF (ds : List DOp) : Prop where
  at_ : ∀ (i : Nat) (d : DOp), ds[i]? = some d → d.i = i
  lt1 : ∀ d, d ∈ ds → ∀ e ∈ d.o.after.toList, bindsE e = true → e.on < d.i
  bef : ∀ d, d ∈ ds → ∀ j, bitIn d.bef j = true ↔ ∃ e ∈ d.o.after.toList, bindsE e = true ∧ (e.on = j ∨ ∃ x, ds[e.on]? = some x ∧ bitIn x.bef j = true)
  chain : chainOK (ds.filter (·.sync)) = true
  guard : ∀ d, d ∈ ds → ∀ j t, d.o.guard = some (j, t) → bitIn d.bef j = true
  dst : ∀ d, d ∈ ds → ∀ e, e ∈ ds → ∀ t, d.o.dst = some t → e.i ≠ d.i → e.o.dst ≠ some t ∧ (t ∈ tmpsOf e.o → bitIn e.bef d.i = true ∨ bitIn d.bef e.i = true)
  quiet : ∀ d, d ∈ ds → d.sync = false → isQ d.o.op = true ∧ ∀ t, d.o.dst = some t → ∀ e, e ∈ ds → t ∈ tmpsOf e.o → bitIn e.bef d.i = true

theorem drawOK_df {ops : List Oper} (h : drawOK (dopsOf ops) = true) : DF (dopsOf ops) := by
  generalize hds : dopsOf ops = ds at h
  have hat : ∀ (i : Nat) (d : DOp), ds[i]? = some d → d.i = i := by intro i d hd; rw [← hds] at hd; exact (dopsOf_at hd).1
  unfold drawOK at h
  simp only [Bool.and_eq_true, List.all_eq_true] at h
  obtain ⟨⟨⟨⟨h1, h2⟩, h3⟩, h4⟩, h5⟩ := h
  refine ⟨hat, ?_, ?_, h2, ?_, ?_, ?_⟩
  · intro d hd e he hb
    have := (h1 d hd).1 e he
    rw [hb] at this
    simpa [blt_iff] using this
  · intro d hd j
    have hq := (h1 d hd).2
    rw [beq_iff'] at hq
    rw [hq, bitIn_orL]
    constructor
    · rintro ⟨x, hx, hj⟩
      rw [List.mem_filterMap] at hx
      obtain ⟨e, he, hxe⟩ := hx
      split at hxe
      · rename_i hb
        cases hxe
        refine ⟨e, he, hb, ?_⟩
        rw [bitIn_lor, Bool.or_eq_true, bitIn_pow] at hj
        rcases hj with hj | hj
        · exact .inl hj
        · right
          cases hx : ds[e.on]? with
          | none => rw [hx] at hj; simp [bitIn_zero] at hj
          | some x => rw [hx] at hj; exact ⟨x, rfl, hj⟩
      · cases hxe
    · rintro ⟨e, he, hb, hj⟩
      refine ⟨_, List.mem_filterMap.2 ⟨e, he, by rw [if_pos hb]⟩, ?_⟩
      rw [bitIn_lor, Bool.or_eq_true, bitIn_pow]
      rcases hj with hj | ⟨x, hx, hj⟩
      · exact .inl hj
      · right; rw [hx]; exact hj
  · intro d hd j t hg
    have := h3 d hd
    rw [hg] at this; exact this
  · intro d hd e he t ht hne
    have := h4 d hd
    rw [ht] at this
    simp only [List.all_eq_true] at this
    have := this e he
    rw [Bool.or_eq_true, beq_iff', Bool.and_eq_true] at this
    rcases this with h | ⟨ha, hb⟩
    · exact absurd h hne
    · constructor
      · intro hu; rw [hu] at ha
        simp at ha
      · intro hm
        simp only [Bool.or_eq_true, Bool.not_eq_true', List.contains_eq_mem, decide_eq_false_iff_not] at hb
        rcases hb with (hb | hb) | hb
        · exact absurd hm hb
        · exact .inl hb
        · exact .inr hb
  · intro d hd hs
    have := h5 d hd
    rw [hs, Bool.false_or, Bool.and_eq_true] at this
    refine ⟨this.1, fun t ht e he hm => ?_⟩
    have h := this.2
    rw [ht] at h
    simp only [List.all_eq_true] at h
    have := h e he
    simp only [Bool.or_eq_true, Bool.not_eq_true', List.contains_eq_mem, decide_eq_false_iff_not] at this
    rcases this with hb | hb
    · exact absurd hm hb
    · exact hb

namespace DF
variable {ds : List DOp}
theorem mem (F : DF ds) {i : Nat} {d : DOp} (h : ds[i]? = some d) : d ∈ ds := have _ := F; List.mem_of_getElem? h
theorem get (F : DF ds) {d : DOp} (h : d ∈ ds) : ds[d.i]? = some d := by
  obtain ⟨i, hi⟩ := List.mem_iff_getElem?.1 h
  rw [F.at_ i d hi]; exact hi
theorem eq (F : DF ds) {d e : DOp} (hd : d ∈ ds) (he : e ∈ ds) (h : d.i = e.i) : d = e := by
  have h1 := F.get hd
  have h2 := F.get he
  rw [h] at h1; rw [h1] at h2; exact Option.some.inj h2
theorem lt (F : DF ds) : ∀ (n : Nat) (d : DOp), d.i < n → d ∈ ds → ∀ j, bitIn d.bef j = true → j < d.i
  | 0, _, h, _, _, _ => absurd h (Nat.not_lt_zero _)
  | n + 1, d, hn, hd, j, hj => by
    obtain ⟨e, he, hb, hc⟩ := (F.bef d hd j).1 hj
    have h1 := F.lt1 d hd e he hb
    rcases hc with rfl | ⟨x, hx, hxj⟩
    · exact h1
    · have hxi := F.at_ _ _ hx
      have := lt F n x (by omega) (F.mem hx) j hxj
      omega
theorem blt (F : DF ds) {d : DOp} (hd : d ∈ ds) {j : Nat} (hj : bitIn d.bef j = true) : j < d.i := F.lt (d.i + 1) d (Nat.lt_succ_self _) hd j hj
theorem trans (F : DF ds) : ∀ (n : Nat) (d : DOp), d.i < n → d ∈ ds → ∀ x, x ∈ ds → bitIn d.bef x.i = true → ∀ j, bitIn x.bef j = true → bitIn d.bef j = true
  | 0, _, h, _, _, _, _, _, _ => absurd h (Nat.not_lt_zero _)
  | n + 1, d, hn, hd, x, hx, hdx, j, hj => by
    obtain ⟨e, he, hb, hc⟩ := (F.bef d hd x.i).1 hdx
    have h1 := F.lt1 d hd e he hb
    rcases hc with hc | ⟨y, hy, hyx⟩
    · exact (F.bef d hd j).2 ⟨e, he, hb, .inr ⟨x, by rw [hc]; exact F.get hx, hj⟩⟩
    · have hyi := F.at_ _ _ hy
      exact (F.bef d hd j).2 ⟨e, he, hb, .inr ⟨y, hy, trans F n y (by omega) (F.mem hy) x hx hyx j hj⟩⟩
theorem tr (F : DF ds) {d x : DOp} (hd : d ∈ ds) (hx : x ∈ ds) (h : bitIn d.bef x.i = true) {j : Nat} (hj : bitIn x.bef j = true) : bitIn d.bef j = true := F.trans (d.i + 1) d (Nat.lt_succ_self _) hd x hx h j hj
/-- Who is closed under the edges is closed under what they come to. -/
theorem closedN (F : DF ds) {E : Nat → Prop} (hE : ∀ d, d ∈ ds → E d.i → ∀ e ∈ d.o.after.toList, bindsE e = true → E e.on) : ∀ (n : Nat) (d : DOp), d.i < n → d ∈ ds → E d.i → ∀ j, bitIn d.bef j = true → E j
  | 0, _, h, _, _, _, _ => absurd h (Nat.not_lt_zero _)
  | n + 1, d, hn, hd, hEd, j, hj => by
    obtain ⟨e, he, hb, hc⟩ := (F.bef d hd j).1 hj
    have h1 := F.lt1 d hd e he hb
    have hEe := hE d hd hEd e he hb
    rcases hc with rfl | ⟨x, hx, hxj⟩
    · exact hEe
    · have hxi := F.at_ _ _ hx
      exact closedN F hE n x (by omega) (F.mem hx) (by rw [hxi]; exact hEe) j hxj
theorem closed (F : DF ds) {E : Nat → Prop} (hE : ∀ d, d ∈ ds → E d.i → ∀ e ∈ d.o.after.toList, bindsE e = true → E e.on) {d : DOp} (hd : d ∈ ds) (hEd : E d.i) {j : Nat} (hj : bitIn d.bef j = true) : E j :=
  F.closedN hE (d.i + 1) d (Nat.lt_succ_self _) hd hEd j hj
/-- Who could come next has all that comes before it behind it. -/
theorem ready (F : DF ds) {E : Nat → Prop} (hE : ∀ d, d ∈ ds → E d.i → ∀ e ∈ d.o.after.toList, bindsE e = true → E e.on) {d : DOp} (hd : d ∈ ds) (hr : ∀ e ∈ d.o.after.toList, bindsE e = true → E e.on) {j : Nat} (hj : bitIn d.bef j = true) : E j := by
  obtain ⟨e, he, hb, hc⟩ := (F.bef d hd j).1 hj
  rcases hc with rfl | ⟨x, hx, hxj⟩
  · exact hr e he hb
  · exact F.closed hE (F.mem hx) (by rw [F.at_ _ _ hx]; exact hr e he hb) hxj
end DF

theorem chain_pred : ∀ {s : DOp} {ss : List DOp}, chainOK (s :: ss) = true → ∀ d, d ∈ ss → ∃ p ∈ s :: ss, bitIn d.bef p.i = true
  | s, [], _, d, hd => by cases hd
  | s, q :: l, h, d, hd => by
    rw [chainOK, Bool.and_eq_true] at h
    rcases List.mem_cons.1 hd with rfl | hd
    · exact ⟨s, by simp, h.1⟩
    · obtain ⟨p, hp, hb⟩ := chain_pred h.2 d hd
      exact ⟨p, List.mem_cons_of_mem _ hp, hb⟩
theorem chain_tail {s : DOp} {ss : List DOp} (h : chainOK (s :: ss) = true) : chainOK ss = true := by
  cases ss with
  | nil => rfl
  | cons q l => rw [chainOK, Bool.and_eq_true] at h; exact h.2
end Go.Ae

namespace Go.Ae
variable {P : Program} {w0 : World} {γ : Gm}
open Classical

theorem look_filter (S : Nat → Prop) : ∀ (l : List (Nat × Value)) (t : Nat), look (l.filter fun p => decide (¬ S p.1)) t = if S t then none else look l t
  | [], t => by simp [look]
  | p :: l, t => by
    rw [List.filter_cons]
    by_cases hp : S p.1
    · rw [if_neg (by simpa using hp), look_filter S l t, look_cons]
      by_cases ht : S t
      · rw [if_pos ht, if_pos ht]
      · rw [if_neg ht, if_neg ht, if_neg (show ¬ p.1 = t from fun e => ht (e ▸ hp))]
    · rw [if_pos (by simpa using hp), look_cons, look_cons, look_filter S l t]
      by_cases e : p.1 = t
      · rw [if_pos e, if_pos e, if_neg (fun h => hp (e ▸ h))]
      · rw [if_neg e, if_neg e]

/-- The temporaries but for some. -/
noncomputable def Tm.hide (m : Tm) (S : Nat → Prop) : Tm := ⟨m.loc.filter fun p => decide (¬ S p.1), m.glob.filter fun p => decide (¬ S p.1), m.mask⟩
theorem get_hide {m : Tm} {S : Nat → Prop} {t : Nat} (ht : ¬ S t) : (m.hide S).get t = m.get t := by
  rw [Tm.get_eq, Tm.get_eq]; unfold Tm.hide; simp only [look_filter, if_neg ht]
theorem ev_hide {m : Tm} {S : Nat → Prop} {x : Operand} (hx : ∀ t, x = .tmp t → ¬ S t) : ev m x = ev (m.hide S) x := by
  cases x with
  | tmp t => exact (get_hide (hx t rfl)).symm
  | const v => rfl
  | global g => rfl
  | func f => rfl

/-- The temporaries but for some stand for a frame's. -/
structure RH (γ : Gm) (m : Tm) (S : Nat → Prop) (a : Array Value) : Prop where
  kept : ∀ t v, look m.glob t = some v → Tm.keeps m.mask t ≠ 0
  loc : ∀ t v, ¬ S t → look m.loc t = some v → ∃ v', a[t]? = some v' ∧ VR γ v v'
  glob : ∀ t v, ¬ S t → look m.glob t = some v → ∃ v', a[t]? = some v' ∧ VR γ v v'

theorem RH.hide {m : Tm} {S : Nat → Prop} {a : Array Value} (h : RH γ m S a) : Tm.R γ (m.hide S) a := by
  refine ⟨fun t v hv => ?_, fun t v hv => ?_, fun t v hv => ?_⟩ <;> (unfold Tm.hide at hv; simp only [look_filter] at hv; split at hv) <;> first | (cases hv; done) | skip
  · exact h.kept t v hv
  · rename_i hs; exact h.loc t v hs hv
  · rename_i hs; exact h.glob t v hs hv
theorem RH.of {m : Tm} {S : Nat → Prop} {a : Array Value} (h : Tm.R γ m a) : RH γ m S a := ⟨h.kept, fun t v _ hv => h.loc t v hv, fun t v _ hv => h.glob t v hv⟩
theorem RH.out {m : Tm} {S : Nat → Prop} {a : Array Value} (h : RH γ m S a) (hS : ∀ t, ¬ S t) : Tm.R γ m a := ⟨h.kept, fun t v hv => h.loc t v (hS t) hv, fun t v hv => h.glob t v (hS t) hv⟩
theorem RH.mono {γ' : Gm} (hg : γ.le γ') {m : Tm} {S : Nat → Prop} {a : Array Value} (h : RH γ m S a) : RH γ' m S a :=
  ⟨h.kept, fun t v hs ht => let ⟨v', h1, h2⟩ := h.loc t v hs ht; ⟨v', h1, h2.mono hg⟩, fun t v hs ht => let ⟨v', h1, h2⟩ := h.glob t v hs ht; ⟨v', h1, h2.mono hg⟩⟩
theorem RH.sub {m : Tm} {S S' : Nat → Prop} {a : Array Value} (h : RH γ m S a) (hS : ∀ t, S t → S' t) : RH γ m S' a :=
  ⟨h.kept, fun t v hs hv => h.loc t v (fun x => hs (hS t x)) hv, fun t v hs hv => h.glob t v (fun x => hs (hS t x)) hv⟩

/-- What a temporary holds, wherever it is looked up. -/
def Holds (m : Tm) (t : Nat) (v : Value) : Prop := look m.loc t = some v ∧ ∀ u, look m.glob t = some u → u = v
theorem Holds.get {m : Tm} {t : Nat} {v : Value} (h : Holds m t v) : m.get t = some v := by rw [Tm.get_eq, h.1]

/-- A put's lookups. -/
theorem put_loc (m : Tm) (t : Nat) (v : Value) (i : Nat) : look (m.put t v).loc i = if t = i then some v else look m.loc i := by
  have e : (m.put t v).loc = (t, v) :: m.loc := by rw [Tm.put_eq]; split <;> (try split) <;> rfl
  rw [e]; exact look_cons _ _ _
theorem put_mask (m : Tm) (t : Nat) (v : Value) : (m.put t v).mask = m.mask := by
  rw [Tm.put_eq]; split <;> (try split) <;> rfl
theorem put_glob_other (m : Tm) {t : Nat} (v : Value) {i : Nat} (h : i ≠ t) : look (m.put t v).glob i = look m.glob i := by
  rw [Tm.put_eq]
  split
  · rfl
  · split
    · show look ((t, v) :: m.glob) i = _; rw [look_cons, if_neg (fun e => h e.symm)]
    · show look ((t, v) :: strike m.glob t) i = _; rw [look_cons, if_neg (fun e => h e.symm), look_strike _ _ _ h]
theorem put_glob_same (m : Tm) {t : Nat} {v u : Value} (hk : ∀ v, look m.glob t = some v → Tm.keeps m.mask t ≠ 0) (h : look (m.put t v).glob t = some u) : u = v ∧ Tm.keeps m.mask t ≠ 0 := by
  rw [Tm.put_eq] at h
  split at h
  · rename_i e; exact absurd e (hk u h)
  · rename_i e
    refine ⟨?_, e⟩
    split at h
    · have h' : look ((t, v) :: m.glob) t = some u := h
      rw [look_cons, if_pos rfl] at h'; exact (Option.some.inj h').symm
    · have h' : look ((t, v) :: strike m.glob t) t = some u := h
      rw [look_cons, if_pos rfl] at h'; exact (Option.some.inj h').symm
theorem Holds.put {m : Tm} {t : Nat} {v : Value} (hk : ∀ t v, look m.glob t = some v → Tm.keeps m.mask t ≠ 0) : Holds (m.put t v) t v :=
  ⟨by rw [put_loc, if_pos rfl], fun _ hu => (put_glob_same m (hk t) hu).1⟩
theorem Holds.put_other {m : Tm} {t i : Nat} {v u : Value} (h : Holds m i u) (hi : i ≠ t) : Holds (m.put t v) i u :=
  ⟨by rw [put_loc, if_neg (fun e => hi e.symm)]; exact h.1, fun x hx => h.2 x (by rw [put_glob_other m v hi] at hx; exact hx)⟩
theorem get_put_tm_other (m : Tm) {t i : Nat} (v : Value) (hi : i ≠ t) : (m.put t v).get i = m.get i := by
  rw [Tm.get_eq, Tm.get_eq, put_loc, if_neg (fun e => hi e.symm), put_glob_other m v hi]
theorem ev_put_other (m : Tm) {t : Nat} (v : Value) {x : Operand} (hx : x ≠ .tmp t) : ev (m.put t v) x = ev m x := by
  cases x with
  | tmp i => exact get_put_tm_other m v (fun e => hx (by rw [e]))
  | const v => rfl
  | global g => rfl
  | func f => rfl

theorem put_kept {m : Tm} (hk : ∀ t v, look m.glob t = some v → Tm.keeps m.mask t ≠ 0) (t : Nat) (v : Value) : ∀ i u, look (m.put t v).glob i = some u → Tm.keeps (m.put t v).mask i ≠ 0 := by
  intro i u hu
  rw [put_mask]
  by_cases e : i = t
  · subst e; exact (put_glob_same m (hk i) hu).2
  · rw [put_glob_other m v e] at hu; exact hk i u hu

/-- A value ahead of its time. -/
theorem RH.ahead {m : Tm} {S : Nat → Prop} {a : Array Value} (h : RH γ m S a) (t : Nat) (v : Value) : RH γ (m.put t v) (fun i => i = t ∨ S i) a := by
  refine ⟨put_kept h.kept t v, fun i u hs hu => ?_, fun i u hs hu => ?_⟩
  · have h1 : i ≠ t := fun e => hs (.inl e)
    rw [put_loc, if_neg (fun e => h1 e.symm)] at hu
    exact h.loc i u (fun x => hs (.inr x)) hu
  · have h1 : i ≠ t := fun e => hs (.inl e)
    rw [put_glob_other m v h1] at hu
    exact h.glob i u (fun x => hs (.inr x)) hu

/-- The frame catches up. -/
theorem RH.real {m : Tm} {S : Nat → Prop} {a : Array Value} {t : Nat} {v v' : Value} (h : RH γ m S a) (hh : Holds m t v) (hv : VR γ v v') (ht : t < a.size) : RH γ m (fun i => i ≠ t ∧ S i) (a.setIfInBounds t v') := by
  have hset : ∀ i u, i ≠ t → (∃ u', a[i]? = some u' ∧ VR γ u u') → ∃ u', (a.setIfInBounds t v')[i]? = some u' ∧ VR γ u u' := by
    intro i u hi ⟨u', h1, h2⟩
    exact ⟨u', by rw [Array.getElem?_setIfInBounds, if_neg (fun e => hi e.symm)]; exact h1, h2⟩
  have hsame : (a.setIfInBounds t v')[t]? = some v' := by rw [Array.getElem?_setIfInBounds, if_pos rfl, if_pos ht]
  refine ⟨h.kept, fun i u hs hu => ?_, fun i u hs hu => ?_⟩
  · by_cases e : i = t
    · subst e; rw [hh.1] at hu; cases hu; exact ⟨v', hsame, hv⟩
    · exact hset i u e (h.loc i u (fun x => hs ⟨e, x⟩) hu)
  · by_cases e : i = t
    · subst e; rw [hh.2 u hu]; exact ⟨v', hsame, hv⟩
    · exact hset i u e (h.glob i u (fun x => hs ⟨e, x⟩) hu)

/-- A value put on both sides. -/
theorem RH.both {m : Tm} {S : Nat → Prop} {a : Array Value} {t : Nat} {v v' : Value} (h : RH γ m S a) (hv : VR γ v v') (ht : t < a.size) : RH γ (m.put t v) S (a.setIfInBounds t v') := by
  have h1 := (h.ahead t v).real (Holds.put h.kept) hv ht
  exact h1.sub fun i ⟨x, y⟩ => y.resolve_left x

theorem veq0_eq {a b : Value} (h : veq0 a b = true) : a = b := by
  have hopt : ∀ {x y : Option Addr}, optEq x y = true → x = y := by
    intro x y h
    cases x with
    | none => cases y with
      | none => rfl
      | some y => cases h
    | some x => cases y with
      | none => cases h
      | some y =>
        obtain ⟨b1, o1, s1⟩ := x
        obtain ⟨b2, o2, s2⟩ := y
        simp only [optEq, addrEq, Bool.and_eq_true, beq_iff'] at h
        obtain ⟨⟨rfl, rfl⟩, h⟩ := h
        cases s1 <;> cases s2 <;> first | rfl | cases h
  unfold veq0 at h
  split at h
  · simp only [beq_iff_eq] at h; rw [h]
  · simp only [Bool.and_eq_true, iEq_eq, beq_iff_eq] at h; rw [kEq_spec h.1, h.2]
  · rename_i x y
    have : x.data.toList = y.data.toList := of_decide_eq_true h
    congr 1
    cases x; cases y
    congr 1
    exact Array.ext' this
  · rw [hopt h]
  · simp only [Bool.and_eq_true, beq_iff'] at h
    obtain ⟨⟨h1, rfl⟩, rfl⟩ := h
    rw [hopt h1]
  · rw [beq_iff'] at h; rw [h]
  · rfl
  · rfl
  · rfl
  · rfl
  · cases h
theorem veqL_eq : ∀ {l k : List Value}, veqL veq0 l k = true → l = k
  | [], [], _ => rfl
  | [], _ :: _, h => by cases h
  | _ :: _, [], h => by cases h
  | a :: l, b :: k, h => by
    rw [veqL, Bool.and_eq_true] at h
    rw [veq0_eq h.1, veqL_eq h.2]
theorem veq_eq {a b : Value} (h : veq a b = true) : a = b := by
  unfold veq at h
  split at h
  · rename_i x y; rw [Array.ext' (veqL_eq h)]
  · rw [Bool.and_eq_true, beq_iff'] at h; rw [h.1, veq0_eq h.2]
  · rw [Bool.and_eq_true, Bool.and_eq_true, beq_iff'] at h; rw [h.1.1, Array.ext' (veqL_eq h.1.2), Array.ext' (veqL_eq h.2)]
  · exact veq0_eq h
end Go.Ae

namespace Go.Ae
variable {P : Program} {w0 : World} {γ : Gm}

theorem mem_tmpsOf {o : Oper} {t : Nat} (h : Operand.tmp t ∈ o.op.operands) : t ∈ tmpsOf o := by
  unfold tmpsOf; exact List.mem_filterMap.2 ⟨.tmp t, by simpa using h, rfl⟩

/-- A region and what is reckoned of it. -/
structure DG (full : Array Oper) (ds : List DOp) : Prop where
  F : DF ds
  len : ds.length = full.size
  op : ∀ (i : Nat) (d : DOp), ds[i]? = some d → full.toList[i]? = some d.o

theorem DG.oper {full : Array Oper} {ds : List DOp} (G : DG full ds) {d : DOp} (hd : d ∈ ds) : full[d.i]? = some d.o := by
  rw [← Array.getElem?_toList]; exact G.op _ _ (G.F.get hd)
theorem DG.lt {full : Array Oper} {ds : List DOp} (G : DG full ds) {d : DOp} (hd : d ∈ ds) : d.i < full.size := by
  have := G.oper hd
  exact (Array.getElem?_eq_some_iff.1 this).1
theorem DG.back {full : Array Oper} {ds : List DOp} (G : DG full ds) {j : Nat} {o : Oper} (h : full.toList[j]? = some o) : ∃ d, d ∈ ds ∧ d.i = j ∧ d.o = o := by
  have hj : j < ds.length := by
    have := (List.getElem?_eq_some_iff.1 h).1
    rw [G.len]; simpa using this
  have hg : ds[j]? = some ds[j] := List.getElem?_eq_getElem hj
  refine ⟨ds[j], List.getElem_mem hj, G.F.at_ _ _ hg, ?_⟩
  have := G.op _ _ hg
  rw [this] at h; exact Option.some.inj h

theorem wantA_cong {full : Array Oper} {m m2 : Tm} {o : Oper} (h : ∀ (j : Nat) (want : Bool) (oj : Oper) (t : Nat), o.guard = some (j, want) → full.toList[j]? = some oj → oj.dst = some t → m.get t = m2.get t) : wantA full m o = wantA full m2 o := by
  unfold wantA
  cases hg : o.guard with
  | none => rfl
  | some gg =>
    obtain ⟨j, want⟩ := gg
    cases hj : full.toList[j]? with
    | none => simp only [hj]
    | some oj =>
      cases hd : oj.dst with
      | none => simp only [hj, hd]
      | some t => simp only [hj, hd, h j want oj t hg hj hd]

theorem rowAtB_mono {h h' : Hp} (hm : ∀ B o, h.m.get B = some o → h'.m.get B = some o) {B : Nat} {r : Row} (hr : rowAtB h B = some r) : rowAtB h' B = some r := by
  unfold rowAtB at hr ⊢
  split at hr
  · rename_i r' hg; cases hr; rw [hm _ _ hg]
  · cases hr
theorem mapAtB_mono {h h' : Hp} (hm : ∀ B o, h.m.get B = some o → h'.m.get B = some o) {B : Nat} {r : List MapEntry × Nat} (hr : mapAtB h B = some r) : mapAtB h' B = some r := by
  unfold mapAtB at hr ⊢
  split at hr
  · rename_i es c hg; cases hr; rw [hm _ _ hg]
  · cases hr
theorem aLoad_mono {h h' : Hp} (hm : ∀ B o, h.m.get B = some o → h'.m.get B = some o) {t : TypeId} {x v : Value} (hv : aLoad P h t x = some v) : aLoad P h' t x = some v := by
  unfold aLoad at hv ⊢
  split at hv
  · rename_i B off
    cases hr : rowAtB h B with
    | none => rw [hr] at hv; cases hv
    | some r => rw [hr] at hv; rw [rowAtB_mono hm hr]; exact hv
  · cases hv
theorem esOf_mono {h h' : Hp} (hm : ∀ B o, h.m.get B = some o → h'.m.get B = some o) {x : Value} {es : List MapEntry} (he : esOf h x = some es) : esOf h' x = some es := by
  unfold esOf at he ⊢
  split at he
  · exact he
  · rename_i B
    cases hr : mapAtB h B with
    | none => rw [hr] at he; cases he
    | some r => rw [hr] at he; rw [mapAtB_mono hm hr]; exact he
  · cases he
theorem aLookup_mono {h h' : Hp} (hm : ∀ B o, h.m.get B = some o → h'.m.get B = some o) {t : TypeId} {x k v : Value} {ok : Bool} (hv : aLookup P h t x k ok = some v) : aLookup P h' t x k ok = some v := by
  unfold aLookup at hv ⊢
  split at hv
  · rename_i kt et hu
    split at hv
    · rename_i d i hkt hi
      split at hv
      · rename_i z hd hz
        split at hv
        · rename_i hc
          cases he : esOf h x with
          | none => rw [he] at hv; cases hv
          | some es =>
            rw [he] at hv
            rw [if_pos hc, esOf_mono hm he]; exact hv
        · cases hv
      · cases hv
    · cases hv
  · cases hv
theorem aStrOf_mono {h h' : Hp} (hm : ∀ B o, h.m.get B = some o → h'.m.get B = some o) {x v : Value} (hv : aStrOf h x = some v) : aStrOf h' x = some v := by
  unfold aStrOf at hv ⊢
  split at hv
  · exact hv
  · rename_i B off len cap
    split at hv
    · exact hv
    · rename_i len
      cases hr : rowAtB h B with
      | none => rw [hr] at hv; cases hv
      | some r => rw [hr] at hv; simp only [rowAtB_mono hm hr]; exact hv
  · cases hv
theorem aRead_mono {h h' : Hp} (hm : ∀ B o, h.m.get B = some o → h'.m.get B = some o) {m : Tm} {op : Op} {v : Value} (hv : aRead P h m op = some v) : aRead P h' m op = some v := by
  unfold aRead at hv ⊢
  split at hv
  · rename_i t x
    split at hv
    · exact aLoad_mono hm hv
    · cases hv
  · rename_i t x k ok
    split at hv
    · exact aLookup_mono hm hv
    · cases hv
  · rename_i s d x
    split at hv
    · rename_i e u h1 h2 h3
      split at hv
      · rename_i h4; exact aStrOf_mono hm hv
      · cases hv
    · cases hv
  · rename_i args tys
    split at hv
    · rename_i x t h1 h2
      split at hv
      · rename_i a1 a2 B h3 h4
        cases hr : mapAtB h B with
        | none => rw [hr] at hv; cases hv
        | some r => rw [hr] at hv; rw [mapAtB_mono hm hr]; exact hv
      · cases hv
    · cases hv
  · cases hv
theorem aVal_mono {h h' : Hp} (hm : ∀ B o, h.m.get B = some o → h'.m.get B = some o) {m : Tm} {op : Op} {v : Value} (hv : aVal P h m op = some v) : aVal P h' m op = some v := by
  unfold aVal at hv ⊢
  cases hp : aPure P m op with
  | some u => rw [hp] at hv; exact hv
  | none => rw [hp] at hv; exact aRead_mono hm hv
/-- What reads no memory comes to the same in any. -/
theorem aRead_isL {h : Hp} {m : Tm} {op : Op} {v : Value} (hv : aRead P h m op = some v) : isL op = true := by
  unfold aRead at hv
  split at hv <;> first | rfl | (cases hv; done)
theorem aVal_noL {h h' : Hp} {m : Tm} {op : Op} {v : Value} (hL : isL op = false) (hv : aVal P h m op = some v) : aVal P h' m op = some v := by
  unfold aVal at hv ⊢
  cases hp : aPure P m op with
  | some u => rw [hp] at hv; exact hv
  | none =>
    rw [hp] at hv
    have := aRead_isL hv
    rw [hL] at this; cases this

abbrev Blk := Nat → Option (Nat × AObj)

/-- What is known of an operation that the evaluator has gone through ahead of the model. -/
inductive LagV (P : Program) (full : Array Oper) (m : Tm) (Hs : Hp → Prop) (b : Option (Nat × AObj)) (d : DOp) : Value → Prop where
  | skip (hw : wantA full m d.o = some false) (hb : b = none) : LagV P full m Hs b d undef
  | val {v : Value} {h0 : Hp} (hw : wantA full m d.o = some true) (hs : Hs h0) (hv : aVal P h0 m d.o.op = some v) (hb : b = none) : LagV P full m Hs b d v
  | new {B : Nat} {ob : AObj} {f : Nat → Value} (hw : wantA full m d.o = some true) (hv : aNew P m d.o.op = some (ob, f)) (hb : b = some (B, ob)) : LagV P full m Hs b d (f B)

theorem LagV.stable {full : Array Oper} {m m2 : Tm} {Hs Hs' : Hp → Prop} {b : Option (Nat × AObj)} {d : DOp} {v : Value} (h : LagV P full m Hs b d v) (hw : wantA full m d.o = wantA full m2 d.o) (hx : ∀ x ∈ d.o.op.operands, ev m x = ev m2 x)
    (hs : ∀ h0 v, Hs h0 → aVal P h0 m d.o.op = some v → ∃ h1, Hs' h1 ∧ aVal P h1 m d.o.op = some v) : LagV P full m2 Hs' b d v := by
  cases h with
  | skip h1 h2 => exact .skip (by rw [← hw]; exact h1) h2
  | val h1 h2 h3 h4 =>
    obtain ⟨h5, h6, h7⟩ := hs _ _ h2 h3
    exact .val (by rw [← hw]; exact h1) h6 (by rw [← aVal_cong hx]; exact h7) h4
  | new h1 h2 h3 => exact .new (by rw [← hw]; exact h1) (by rw [← aNew_cong hx]; exact h2) h3

abbrev hidden (ds : List DOp) (A E : Nat → Prop) : Nat → Prop := fun t => ∃ d, d ∈ ds ∧ A d.i ∧ ¬ E d.i ∧ d.o.dst = some t

/-- A: what the evaluator has gone through; E: what the model has. -/
structure DI (P : Program) (w0 : World) (pend0 : Nat → Option AObj) (full : Array Oper) (ds : List DOp) (n : Nat) (A E : Nat → Prop) (Hs : Hp → Prop) (blk : Blk) (pd : Nat → Option AObj) (γ : Gm) (dd : List Deferred) (m : Tm) (h : Hp) (a : Act) (w : World) : Prop where
  dom : ∀ i, A i → ∃ d, d ∈ ds ∧ d.i = i
  sub : ∀ i, E i → A i
  clA : ∀ d, d ∈ ds → A d.i → ∀ j, bitIn d.bef j = true → A j
  tm : RH γ m (hidden ds A E) a.tmps
  size : a.tmps.size = n
  defers : DRs γ dd a.defers
  hr : HR w0 γ pd h w
  lag : ∀ d, d ∈ ds → A d.i → ¬ E d.i → d.sync = false ∧ ∃ v, LagV P full m Hs (blk d.i) d v ∧ ∀ t, d.o.dst = some t → t < n ∧ Holds m t v
  p1 : ∀ i B ob, blk i = some (B, ob) → pd B = some ob ∧ pend0 B = none ∧ A i ∧ ¬ E i
  p2 : ∀ i j B ob ob', blk i = some (B, ob) → blk j = some (B, ob') → i = j
  p3 : ∀ B, (∀ i ob, blk i ≠ some (B, ob)) → pd B = pend0 B

section
variable {pend0 : Nat → Option AObj} {full : Array Oper} {ds : List DOp} {n : Nat} {A E : Nat → Prop} {Hs : Hp → Prop} {blk : Blk} {pd : Nat → Option AObj} {dd : List Deferred} {m : Tm} {h : Hp} {a : Act} {w : World}

/-- The operands of who comes next are there. -/
theorem DI.operand (hI : DI P w0 pend0 full ds n A E Hs blk pd γ dd m h a w) (G : DG full ds) {x : DOp} (hx : x ∈ ds) (hb : ∀ j, bitIn x.bef j = true → E j) : ∀ y ∈ x.o.op.operands, ev m y = ev (m.hide (hidden ds A E)) y := by
  intro y hy
  refine ev_hide fun t ht => ?_
  rintro ⟨d, hd, hA, hE, hdst⟩
  have hs := (hI.lag d hd hA hE).1
  exact hE (hb _ ((G.F.quiet d hd hs).2 t hdst x hx (mem_tmpsOf (by rw [← ht]; exact hy))))
theorem DI.want (hI : DI P w0 pend0 full ds n A E Hs blk pd γ dd m h a w) (G : DG full ds) {x : DOp} (hx : x ∈ ds) (hb : ∀ j, bitIn x.bef j = true → E j) : wantA full m x.o = wantA full (m.hide (hidden ds A E)) x.o := by
  have := hI
  refine wantA_cong fun j want oj t hg hj ht => (get_hide ?_).symm
  rintro ⟨d, hd, hA, hE, hdst⟩
  obtain ⟨dj, hdj, rfl, rfl⟩ := G.back hj
  by_cases e : dj.i = d.i
  · exact hE (by rw [← e]; exact hb _ (G.F.guard x hx _ _ hg))
  · exact (G.F.dst d hd dj hdj t hdst e).1 ht

/-- What x, not gone through before, puts down is no operand of who has been gone through, nor its guard. -/
theorem DI.apart (hI : DI P w0 pend0 full ds n A E Hs blk pd γ dd m h a w) (G : DG full ds) {x : DOp} (hx : x ∈ ds) (hA : ¬ A x.i) (hs : x.sync = false ∨ ∀ j, bitIn x.bef j = true → E j) {d : DOp} (hd : d ∈ ds) (hAd : A d.i) (hEd : ¬ E d.i) {t : Nat} (ht : x.o.dst = some t) (v : Value) :
    wantA full m d.o = wantA full (m.put t v) d.o ∧ (∀ y ∈ d.o.op.operands, ev m y = ev (m.put t v) y) ∧ d.o.dst ≠ some t := by
  have hne : d.i ≠ x.i := fun e => hA (e ▸ hAd)
  obtain ⟨q1, q2⟩ := G.F.dst x hx d hd t ht hne
  refine ⟨wantA_cong fun j want oj u hg hj hu => (get_put_tm_other m v ?_).symm, fun y hy => (ev_put_other m v ?_).symm, q1⟩
  · rintro rfl
    obtain ⟨dj, hdj, rfl, rfl⟩ := G.back hj
    have hAj := hI.clA d hd hAd _ (G.F.guard d hd _ _ hg)
    exact (G.F.dst x hx dj hdj u ht (fun e => hA (e ▸ hAj))).1 hu
  · rintro rfl
    have hm := mem_tmpsOf hy
    rcases hs with hs | hs
    · exact hA (hI.clA d hd hAd _ ((G.F.quiet x hx hs).2 t ht d hd hm))
    · rcases q2 hm with q | q
      · exact hA (hI.clA d hd hAd _ q)
      · exact hEd (hs _ q)
/-- Nor its own. -/
theorem self_apart (G : DG full ds) {x : DOp} (hx : x ∈ ds) (hs : x.sync = false) {t : Nat} (ht : x.o.dst = some t) (m : Tm) (v : Value) :
    wantA full m x.o = wantA full (m.put t v) x.o ∧ (∀ y ∈ x.o.op.operands, ev m y = ev (m.put t v) y) := by
  refine ⟨wantA_cong fun j want oj u hg hj hu => (get_put_tm_other m v ?_).symm, fun y hy => (ev_put_other m v ?_).symm⟩
  · rintro rfl
    obtain ⟨dj, hdj, rfl, rfl⟩ := G.back hj
    have hb := G.F.blt hx (G.F.guard x hx _ _ hg)
    exact (G.F.dst x hx dj hdj u ht (by omega)).1 hu
  · rintro rfl
    have := G.F.blt hx ((G.F.quiet x hx hs).2 t ht x hx (mem_tmpsOf hy))
    omega

/-- The model catches up with one. -/
theorem DI.catch_ (hI : DI P w0 pend0 full ds n A E Hs blk pd γ dd m h a w) (G : DG full ds) {d : DOp} (hd : d ∈ ds) (hA : A d.i) (hE : ¬ E d.i) {v : Value} (hh : ∀ t, d.o.dst = some t → t < n ∧ Holds m t v)
    {γ' : Gm} {pd' : Nat → Option AObj} {v' : Value} {w' : World} (hg : γ.le γ') (hr : HR w0 γ' pd' h w') (hv : VR γ' v v') (hp : (blk d.i = none ∧ pd' = pd) ∨ ∃ B ob, blk d.i = some (B, ob) ∧ pd' = pendDel pd B) :
    DI P w0 pend0 full ds n A (fun j => j = d.i ∨ E j) Hs (fun j => if j = d.i then none else blk j) pd' γ' dd m h (a.put d.o.dst v') w' := by
  refine ⟨hI.dom, ?_, hI.clA, ?_, by rw [put_size]; exact hI.size, by rw [put_defers]; exact hI.defers.mono hg, hr, ?_, ?_, ?_, ?_⟩
  · rintro j (rfl | hj)
    · exact hA
    · exact hI.sub j hj
  · cases hdst : d.o.dst with
    | none =>
      refine (hI.tm.mono hg).sub ?_
      rintro t ⟨x, hx, h1, h2, h3⟩
      refine ⟨x, hx, h1, ?_, h3⟩
      rintro (e | e)
      · have := G.F.eq hx hd e; subst this; rw [hdst] at h3; cases h3
      · exact h2 e
    | some t =>
      obtain ⟨h1, h2⟩ := hh t hdst
      refine ((hI.tm.mono hg).real h2 hv (by rw [hI.size]; exact h1)).sub ?_
      rintro u ⟨hne, x, hx, h1, h2, h3⟩
      refine ⟨x, hx, h1, ?_, h3⟩
      rintro (e | e)
      · have := G.F.eq hx hd e; subst this; rw [hdst] at h3; exact hne (Option.some.inj h3).symm
      · exact h2 e
  · intro x hx h1 h2
    obtain ⟨q1, v, q2, q3⟩ := hI.lag x hx h1 (fun e => h2 (.inr e))
    refine ⟨q1, v, ?_, q3⟩
    rw [if_neg (fun e => h2 (.inl e))]; exact q2
  · intro j B ob hj
    split at hj
    · cases hj
    · rename_i hne
      obtain ⟨q1, q2, q3, q4⟩ := hI.p1 j B ob hj
      refine ⟨?_, q2, q3, fun e => e.elim hne q4⟩
      rcases hp with ⟨_, rfl⟩ | ⟨B', ob', e1, rfl⟩
      · exact q1
      · unfold pendDel
        rw [if_neg]
        · exact q1
        · rintro rfl; exact hne (hI.p2 _ _ _ _ _ hj e1)
  · intro i j B ob ob' h1 h2
    split at h1
    · cases h1
    · split at h2
      · cases h2
      · exact hI.p2 _ _ _ _ _ h1 h2
  · intro B hB
    rcases hp with ⟨e1, rfl⟩ | ⟨B', ob', e1, rfl⟩
    · refine hI.p3 B fun j ob hj => ?_
      by_cases e : j = d.i
      · rw [e, e1] at hj; cases hj
      · exact hB j ob (by rw [if_neg e]; exact hj)
    · unfold pendDel
      split
      · rename_i e; subst e; exact (hI.p1 _ _ _ e1).2.1.symm
      · rename_i hne
        refine hI.p3 B fun j ob hj => ?_
        by_cases e : j = d.i
        · rw [e, e1] at hj; cases hj; exact hne rfl
        · exact hB j ob (by rw [if_neg e]; exact hj)
end
end Go.Ae

namespace Go.Ae
variable {P : Program} {w0 : World} {γ : Gm}

section
variable {pend0 : Nat → Option AObj} {full : Array Oper} {ds : List DOp} {n : Nat} {A E : Nat → Prop} {Hs : Hp → Prop} {blk : Blk} {pd : Nat → Option AObj} {dd : List Deferred} {m : Tm} {h : Hp} {a : Act} {w : World}

theorem dst_cases {dst : Option Nat} {n : Nat} {m m' : Tm} {v : Value} (h : (dst = none ∧ m' = m) ∨ ∃ d, dst = some d ∧ d < n ∧ m' = m.put d v) : (dst = none ∧ m' = m) ∨ ∃ d, dst = some d ∧ d < n ∧ m' = m.put d v := h

/-- The evaluator goes through one ahead. -/
theorem DI.ahead1 (hI : DI P w0 pend0 full ds n A E (· = h) blk pd γ dd m h a w) (G : DG full ds) {d : DOp} (hd : d ∈ ds) (hs : d.sync = false) (hA : ¬ A d.i) (hbA : ∀ j, bitIn d.bef j = true → A j)
    {m' : Tm} {h' : Hp} {v : Value} {pd' : Nat → Option AObj} {bd : Option (Nat × AObj)} (hm : (d.o.dst = none ∧ m' = m) ∨ ∃ t, d.o.dst = some t ∧ t < n ∧ m' = m.put t v) (hl : LagV P full m (· = h) bd d v)
    (hr : HR w0 γ pd' h' w) (hmono : ∀ B o, h.m.get B = some o → h'.m.get B = some o)
    (hp : (bd = none ∧ pd' = pd) ∨ ∃ ob, bd = some (h.next, ob) ∧ pd' = pendPut pd h.next ob) :
    DI P w0 pend0 full ds n (fun j => j = d.i ∨ A j) E (· = h') (fun j => if j = d.i then bd else blk j) pd' γ dd m' h' a w := by
  have hblk : blk d.i = none := by
    cases hb : blk d.i with
    | none => rfl
    | some p => exact absurd (hI.p1 d.i p.1 p.2 hb).2.2.1 hA
  have hE : ¬ E d.i := fun e => hA (hI.sub _ e)
  have hlt : ∀ j B ob, blk j = some (B, ob) → B < h.next := fun j B ob hj => (hI.hr.keep B ob (hI.p1 j B ob hj).1).1
  have hpn : pd h.next = none := by
    cases hq : pd h.next with
    | none => rfl
    | some o => have := (hI.hr.keep _ _ hq).1; omega
  have hpn0 : pend0 h.next = none := by
    rw [← hI.p3 h.next fun j ob hj => by have := hlt j _ _ hj; omega]; exact hpn
  refine ⟨?_, fun j hj => .inr (hI.sub j hj), ?_, ?_, hI.size, hI.defers, hr, ?_, ?_, ?_, ?_⟩
  · rintro i (rfl | hi)
    · exact ⟨d, hd, rfl⟩
    · exact hI.dom i hi
  · rintro x hx (e | hAx) j hj
    · have := G.F.eq hx hd e; subst this; exact .inr (hbA j hj)
    · exact .inr (hI.clA x hx hAx j hj)
  · rcases hm with ⟨hdst, rfl⟩ | ⟨t, hdst, ht, rfl⟩
    · refine hI.tm.sub ?_
      rintro u ⟨x, hx, h1, h2, h3⟩
      exact ⟨x, hx, .inr h1, h2, h3⟩
    · refine (hI.tm.ahead t v).sub ?_
      rintro u (rfl | ⟨x, hx, h1, h2, h3⟩)
      · exact ⟨d, hd, .inl rfl, hE, hdst⟩
      · exact ⟨x, hx, .inr h1, h2, h3⟩
  · intro x hx h1 h2
    by_cases e : x.i = d.i
    · have := G.F.eq hx hd e; subst this
      refine ⟨hs, v, ?_, ?_⟩
      · rw [if_pos rfl]
        have hst : ∀ (m' : Tm), (wantA full m x.o = wantA full m' x.o ∧ (∀ y ∈ x.o.op.operands, ev m y = ev m' y)) → LagV P full m' (· = h') bd x v := fun m' hq =>
          hl.stable hq.1 hq.2 fun h0 v e hv => ⟨h', rfl, by cases e; exact aVal_mono hmono hv⟩
        rcases hm with ⟨hdst, rfl⟩ | ⟨t, hdst, ht, rfl⟩
        · exact hst _ ⟨rfl, fun _ _ => rfl⟩
        · exact hst _ (self_apart G hx hs hdst m v)
      · intro t ht
        rcases hm with ⟨hdst, rfl⟩ | ⟨t', hdst, ht', rfl⟩
        · rw [hdst] at ht; cases ht
        · rw [hdst] at ht; cases ht; exact ⟨ht', Holds.put hI.tm.kept⟩
    · have hAx : A x.i := h1.resolve_left e
      obtain ⟨q1, u, q2, q3⟩ := hI.lag x hx hAx h2
      refine ⟨q1, u, ?_, ?_⟩
      · rw [if_neg e]
        have hst : ∀ (m' : Tm), (wantA full m x.o = wantA full m' x.o ∧ (∀ y ∈ x.o.op.operands, ev m y = ev m' y)) → LagV P full m' (· = h') (blk x.i) x u := fun m' hq =>
          q2.stable hq.1 hq.2 fun h0 v e hv => ⟨h', rfl, by cases e; exact aVal_mono hmono hv⟩
        rcases hm with ⟨hdst, rfl⟩ | ⟨t, hdst, ht, rfl⟩
        · exact hst _ ⟨rfl, fun _ _ => rfl⟩
        · have := hI.apart G hd hA (.inl hs) hx hAx h2 hdst v
          exact hst _ ⟨this.1, this.2.1⟩
      · intro t ht
        obtain ⟨r1, r2⟩ := q3 t ht
        rcases hm with ⟨hdst, rfl⟩ | ⟨t', hdst, ht', rfl⟩
        · exact ⟨r1, r2⟩
        · refine ⟨r1, r2.put_other ?_⟩
          have := (hI.apart G hd hA (.inl hs) hx hAx h2 hdst v).2.2
          rintro rfl; exact this ht
  · intro i B ob hi
    have hi' : (if i = d.i then bd else blk i) = some (B, ob) := hi
    split at hi'
    · rename_i e
      subst e
      rcases hp with ⟨e1, rfl⟩ | ⟨ob', e1, rfl⟩
      · rw [e1] at hi'; cases hi'
      · rw [e1] at hi'; cases hi'
        exact ⟨by unfold pendPut; rw [if_pos rfl], hpn0, .inl rfl, hE⟩
    · obtain ⟨q1, q2, q3, q4⟩ := hI.p1 i B ob hi'
      refine ⟨?_, q2, .inr q3, q4⟩
      rcases hp with ⟨e1, rfl⟩ | ⟨ob', e1, rfl⟩
      · exact q1
      · have := hlt i B ob hi'
        unfold pendPut; rw [if_neg (by omega)]; exact q1
  · intro i j B ob ob' hi hj
    have hi' : (if i = d.i then bd else blk i) = some (B, ob) := hi
    have hj' : (if j = d.i then bd else blk j) = some (B, ob') := hj
    have hbd : ∀ B ob, bd = some (B, ob) → B = h.next := by
      intro B ob hb
      rcases hp with ⟨e1, rfl⟩ | ⟨ob', e1, rfl⟩
      · rw [e1] at hb; cases hb
      · rw [e1] at hb; cases hb; rfl
    split at hi' <;> split at hj'
    · rename_i e1 e2; rw [e1, e2]
    · have := hbd _ _ hi'; have := hlt j B ob' hj'; omega
    · have := hbd _ _ hj'; have := hlt i B ob hi'; omega
    · exact hI.p2 i j B ob ob' hi' hj'
  · intro B hB
    have hB' : ∀ i ob, blk i ≠ some (B, ob) := by
      intro i ob hi
      by_cases e : i = d.i
      · rw [e, hblk] at hi; cases hi
      · exact hB i ob (by rw [if_neg e]; exact hi)
    rcases hp with ⟨e1, rfl⟩ | ⟨ob', e1, rfl⟩
    · exact hI.p3 B hB'
    · unfold pendPut
      rw [if_neg]
      · exact hI.p3 B hB'
      · rintro rfl
        exact hB d.i ob' (by rw [if_pos rfl]; exact e1)

theorem DI.ahead (hI : DI P w0 pend0 full ds n A E (· = h) blk pd γ dd m h a w) (G : DG full ds) {d : DOp} (hd : d ∈ ds) (hs : d.sync = false) (hA : ¬ A d.i) (hbA : ∀ j, bitIn d.bef j = true → A j)
    {e : Env} (he : e.n = n) {K : List Deferred → Tm → Hp → OO} {out : Out} (hq : aheadD full d P e dd m h K = some out) :
    ∃ m' h' blk' pd', K dd m' h' = some out ∧ DI P w0 pend0 full ds n (fun j => j = d.i ∨ A j) E (· = h') blk' pd' γ dd m' h' a w := by
  subst he
  unfold aheadD at hq
  split at hq
  · rename_i hw
    split at hq
    · rename_i v hv
      obtain ⟨m', h1, h2⟩ := dstK_some hq
      exact ⟨m', h, _, pd, h1, hI.ahead1 G hd hs hA hbA h2 (.val (b := none) hw rfl hv rfl) hI.hr (fun _ _ h => h) (.inl ⟨rfl, rfl⟩)⟩
    · split at hq
      · rename_i ob f hv
        obtain ⟨m', h1, h2⟩ := dstK_some hq
        refine ⟨m', h.add ob, _, pendPut pd h.next ob, h1, hI.ahead1 G hd hs hA hbA h2 (.new (b := some (h.next, ob)) hw hv rfl) (hI.hr.new ob) (fun B o hB => ?_) (.inr ⟨ob, rfl, rfl⟩)⟩
        show (h.m.put h.next ob).get B = some o
        rw [Tr.get_put_other]
        · exact hB
        · rintro rfl
          rw [hI.hr.fresh _ (Nat.le_refl _)] at hB; cases hB
      · cases hq
  · rename_i hw
    obtain ⟨m', h1, h2⟩ := dstK_some (v := undef) hq
    exact ⟨m', h, _, pd, h1, hI.ahead1 G hd hs hA hbA h2 (.skip (b := none) hw rfl) hI.hr (fun _ _ h => h) (.inl ⟨rfl, rfl⟩)⟩
  · cases hq

/-- A batch of them. -/
theorem DI.batch (G : DG full ds) {e : Env} (he : e.n = n) {out : Out} (rest : List DStep) : ∀ (l : List DOp) (A : Nat → Prop) (blk : Blk) (pd : Nat → Option AObj) (m : Tm) (h : Hp), DI P w0 pend0 full ds n A E (· = h) blk pd γ dd m h a w →
    (∀ d, d ∈ l → d ∈ ds ∧ d.sync = false ∧ ¬ A d.i) → l.Pairwise (fun x y => x.i < y.i) → (∀ d, d ∈ l → ∀ j, bitIn d.bef j = true → A j ∨ ∃ x, x ∈ l ∧ x.i = j) →
    drawB (l.map .run ++ rest) full P e dd m h = some out →
    ∃ m' h' blk' pd', drawB rest full P e dd m' h' = some out ∧ DI P w0 pend0 full ds n (fun j => A j ∨ ∃ d, d ∈ l ∧ d.i = j) E (· = h') blk' pd' γ dd m' h' a w
  | [], A, blk, pd, m, h, hI, _, _, _, hq => ⟨m, h, blk, pd, hq, by
      have : (fun j => A j ∨ ∃ d, d ∈ ([] : List DOp) ∧ d.i = j) = A := by funext j; simp
      rw [this]; exact hI⟩
  | d :: l, A, blk, pd, m, h, hI, hl, hp, hb, hq => by
    obtain ⟨hd, hs, hA⟩ := hl d (by simp)
    have hq' : ifB d.sync (operK full d.o P e dd m h (drawB (l.map .run ++ rest) full P e)) (aheadD full d P e dd m h (drawB (l.map .run ++ rest) full P e)) = some out := hq
    rw [hs] at hq'
    have hpl := List.pairwise_cons.1 hp
    have hbA : ∀ j, bitIn d.bef j = true → A j := by
      intro j hj
      rcases hb d (by simp) j hj with h1 | ⟨x, hx, rfl⟩
      · exact h1
      · have h1 := G.F.blt hd hj
        rcases List.mem_cons.1 hx with rfl | hx
        · omega
        · have := hpl.1 x hx; omega
    obtain ⟨m1, h1, blk1, pd1, hk, hI1⟩ := hI.ahead G hd hs hA hbA he hq'
    obtain ⟨m2, h2, blk2, pd2, hk2, hI2⟩ := DI.batch G he rest l _ blk1 pd1 m1 h1 hI1 (fun x hx => ⟨(hl x (by simp [hx])).1, (hl x (by simp [hx])).2.1, by
        rintro (e1 | e1)
        · have := hpl.1 x hx; omega
        · exact (hl x (by simp [hx])).2.2 e1⟩) hpl.2 (fun x hx j hj => by
        rcases hb x (by simp [hx]) j hj with h1 | ⟨y, hy, rfl⟩
        · exact .inl (.inr h1)
        · rcases List.mem_cons.1 hy with rfl | hy
          · exact .inl (.inl rfl)
          · exact .inr ⟨y, hy, rfl⟩) hk
    refine ⟨m2, h2, blk2, pd2, hk2, ?_⟩
    have : (fun j => (j = d.i ∨ A j) ∨ ∃ x, x ∈ l ∧ x.i = j) = (fun j => A j ∨ ∃ x, x ∈ d :: l ∧ x.i = j) := by
      funext j; apply propext
      constructor
      · rintro ((rfl | h) | ⟨x, hx, rfl⟩)
        · exact .inr ⟨d, by simp, rfl⟩
        · exact .inl h
        · exact .inr ⟨x, by simp [hx], rfl⟩
      · rintro (h | ⟨x, hx, rfl⟩)
        · exact .inl (.inr h)
        · rcases List.mem_cons.1 hx with rfl | hx
          · exact .inl (.inl rfl)
          · exact .inr ⟨x, hx, rfl⟩
    rw [this] at hI2; exact hI2

variable {b : Frame} {k : List Item} {cs : List Frame} {rest : List Nat}

/-- The model goes through one that the evaluator has been through. -/
theorem DI.lag_run (hI : DI P w0 pend0 full ds n A E (· = h) blk pd γ dd m h a w) (G : DG full ds) {d : DOp} (hd : d ∈ ds) (hA : A d.i) (hE : ¬ E d.i) (hb : ∀ j, bitIn d.bef j = true → E j) :
    ∃ γ' blk' pd' a' w', γ.le γ' ∧ DI P w0 pend0 full ds n A (fun j => j = d.i ∨ E j) (· = h) blk' pd' γ' dd m h a' w' ∧
      Steps P (lone (b.atR a (.inRegion full (d.i :: rest) :: k)) cs w) (lone (b.atR a' (.inRegion full rest :: k)) cs w') := by
  obtain ⟨hs, v, hl, hh⟩ := hI.lag d hd hA hE
  have ho := G.oper hd
  have hw0 := hI.want G hd hb
  have hx := hI.operand G hd hb
  have hR := hI.tm.hide
  have hnd : ∀ c, d.o.op ≠ .defer c := by
    intro c e
    have := (G.F.quiet d hd hs).1
    rw [e] at this; cases this
  generalize hbd : blk d.i = bd at hl
  cases hl with
  | skip hw hbn =>
    rw [hw0] at hw
    have hwt := wantA_sim hw hR
    have s := stepR_op_skip (P := P) (b := b) (a := a) (k := k) (cs := cs) (w := w) (ops := full) (i := d.i) (rest := rest) (by rw [ho]; simp only [Option.map_some, Option.getD_some]; exact hwt)
    rw [ho] at s
    exact ⟨γ, _, pd, _, w, Gm.le_refl _, hI.catch_ G hd hA hE hh (Gm.le_refl _) hI.hr undef_vr (.inl ⟨hbd.trans hbn, rfl⟩), .one s⟩
  | @val _ h0 hw hs0 hv hbn =>
    subst hs0
    rw [hw0] at hw
    have hwt := wantA_sim hw hR
    rw [aVal_cong hx] at hv
    obtain ⟨v', e1, e2⟩ := aVal_sim (P := P) hR hI.hr hv
    exact ⟨γ, _, pd, _, w, Gm.le_refl _, hI.catch_ G hd hA hE hh (Gm.le_refl _) hI.hr e2 (.inl ⟨hbd.trans hbn, rfl⟩), .one (stepR_value ho hwt (by rw [Oper.semAt_eq _ _ _ hnd]; exact e1))⟩
  | @new B ob f hw hv hbn =>
    rw [hw0] at hw
    have hwt := wantA_sim hw hR
    rw [aNew_cong hx] at hv
    have hblk := hbd.trans hbn
    obtain ⟨p1, p2, p3, p4⟩ := hI.p1 _ _ _ hblk
    obtain ⟨k1, k2⟩ := hI.hr.keep _ _ p1
    have hget : h.m.get B = some ob := (hI.hr.pend B k1 k2).trans p1
    obtain ⟨ob', N, v', w1, e1, e2, e3, e4⟩ := aNew_sim (P := P) hR hv k2 w
    have hg : γ.le (γ.upd B ⟨w.heap.size, 0, N⟩) := Gm.le_upd _ k2
    have hr' := hI.hr.realize hget k1 k2 (p := ⟨w.heap.size, 0, N⟩) rfl e2 e3
    exact ⟨_, _, _, _, w1, hg, hI.catch_ G hd hA hE hh hg hr' e4 (.inr ⟨B, ob, hblk, rfl⟩), .one (stepR_value ho hwt (by rw [Oper.semAt_eq _ _ _ hnd]; exact e1))⟩

/-- Both go through a fixed point of the order: what was read ahead is to be looked at anew. -/
theorem DI.sync1 (hI : DI P w0 pend0 full ds n A E Hs blk pd γ dd m h a w) (G : DG full ds) {d : DOp} (hd : d ∈ ds) (hA : ¬ A d.i) (hb : ∀ j, bitIn d.bef j = true → E j)
    {m' : Tm} {h' : Hp} {v v' : Value} {γ' : Gm} {dd' : List Deferred} {a2 : Act} {w' : World} (hm : (d.o.dst = none ∧ m' = m) ∨ ∃ t, d.o.dst = some t ∧ t < n ∧ m' = m.put t v)
    (hg : γ.le γ') (ha : a2.tmps = a.tmps) (hdd : DRs γ' dd' a2.defers) (hv : VR γ' v v') (hr : HR w0 γ' pd h' w') :
    DI P w0 pend0 full ds n (fun j => j = d.i ∨ A j) (fun j => j = d.i ∨ E j) (fun _ => True) blk pd γ' dd' m' h' (a2.put d.o.dst v') w' := by
  refine ⟨?_, ?_, ?_, ?_, by rw [put_size, ha]; exact hI.size, by rw [put_defers]; exact hdd, hr, ?_, ?_, hI.p2, hI.p3⟩
  · rintro i (rfl | hi)
    · exact ⟨d, hd, rfl⟩
    · exact hI.dom i hi
  · rintro j (rfl | hj)
    · exact .inl rfl
    · exact .inr (hI.sub j hj)
  · rintro x hx (e | hAx) j hj
    · have := G.F.eq hx hd e; subst this; exact .inr (hI.sub _ (hb j hj))
    · exact .inr (hI.clA x hx hAx j hj)
  · have hsub : ∀ t, hidden ds A E t → hidden ds (fun j => j = d.i ∨ A j) (fun j => j = d.i ∨ E j) t := by
      rintro t ⟨x, hx, h1, h2, h3⟩
      refine ⟨x, hx, .inr h1, ?_, h3⟩
      rintro (e | e)
      · exact hA (e ▸ h1)
      · exact h2 e
    rcases hm with ⟨hdst, rfl⟩ | ⟨t, hdst, ht, rfl⟩
    · rw [hdst]
      show RH γ' m' _ a2.tmps
      rw [ha]; exact (hI.tm.mono hg).sub hsub
    · rw [hdst]
      show RH γ' _ _ (a2.tmps.setIfInBounds t v')
      rw [ha]; exact ((hI.tm.mono hg).both hv (by rw [hI.size]; exact ht)).sub hsub
  · rintro x hx h1 h2
    have hne : x.i ≠ d.i := fun e => h2 (.inl e)
    have hAx := h1.resolve_left hne
    have hEx : ¬ E x.i := fun e => h2 (.inr e)
    obtain ⟨q1, u, q2, q3⟩ := hI.lag x hx hAx hEx
    refine ⟨q1, u, ?_, ?_⟩
    · have hst : ∀ (m' : Tm), (wantA full m x.o = wantA full m' x.o ∧ (∀ y ∈ x.o.op.operands, ev m y = ev m' y)) → LagV P full m' (fun _ => True) (blk x.i) x u := fun m' hq =>
        q2.stable hq.1 hq.2 fun h0 v _ hv => ⟨h0, trivial, hv⟩
      rcases hm with ⟨hdst, rfl⟩ | ⟨t, hdst, ht, rfl⟩
      · exact hst _ ⟨rfl, fun _ _ => rfl⟩
      · have := hI.apart G hd hA (.inr hb) hx hAx hEx hdst v
        exact hst _ ⟨this.1, this.2.1⟩
    · intro t ht
      obtain ⟨r1, r2⟩ := q3 t ht
      rcases hm with ⟨hdst, rfl⟩ | ⟨t', hdst, ht', rfl⟩
      · exact ⟨r1, r2⟩
      · refine ⟨r1, r2.put_other ?_⟩
        have := (hI.apart G hd hA (.inr hb) hx hAx hEx hdst v).2.2
        rintro rfl; exact this ht
  · intro i B ob hi
    obtain ⟨q1, q2, q3, q4⟩ := hI.p1 i B ob hi
    refine ⟨q1, q2, .inr q3, ?_⟩
    rintro (e | e)
    · exact hA (e ▸ q3)
    · exact q4 e

theorem DI.sync (hI : DI P w0 pend0 full ds n A E Hs blk pd γ dd m h a w) (G : DG full ds) {d : DOp} (hd : d ∈ ds) (hA : ¬ A d.i) (hb : ∀ j, bitIn d.bef j = true → E j)
    {e : Env} (he : e.n = n) (hcall : CallOK P e.call) (hround : EnvOK P e) (hbase : BaseOK e b cs) {K : List Deferred → Tm → Hp → OO} {out : Out} (hq : operK full d.o P e dd m h K = some out) :
    ∃ dd' m' h' γ' a' w', K dd' m' h' = some out ∧ γ.le γ' ∧ DI P w0 pend0 full ds n (fun j => j = d.i ∨ A j) (fun j => j = d.i ∨ E j) (fun _ => True) blk pd γ' dd' m' h' a' w' ∧
      Steps P (lone (b.atR a (.inRegion full (d.i :: rest) :: k)) cs w) (lone (b.atR a' (.inRegion full rest :: k)) cs w') := by
  subst he
  have ho := G.oper hd
  have hR := hI.tm.hide
  have run : Region.wanted d.o (yielded full a.tmps) = true → qOp d.o.op P e dd m h (dstK d.o.dst e.n m K) = some out → ∃ dd' m' h' γ' a' w', K dd' m' h' = some out ∧ γ.le γ' ∧
      DI P w0 pend0 full ds e.n (fun j => j = d.i ∨ A j) (fun j => j = d.i ∨ E j) (fun _ => True) blk pd γ' dd' m' h' a' w' ∧
      Steps P (lone (b.atR a (.inRegion full (d.i :: rest) :: k)) cs w) (lone (b.atR a' (.inRegion full rest :: k)) cs w') := by
    intro hw hq
    obtain ⟨dd', h', v, hway, hk⟩ := way_op hq
    obtain ⟨γ', a2, w', v', g, e1, e2, e3, e4, e5⟩ := way_run (k := k) (rest := rest) hcall hround hbase ho hw hR hI.defers hI.hr (hway.cong (hI.operand G hd hb))
    obtain ⟨m', k1, k2⟩ := dstK_some hk
    exact ⟨dd', m', h', γ', _, w', k1, g, hI.sync1 G hd hA hb k2 g e1 e2 e3 e4, e5⟩
  unfold operK at hq
  cases hg : d.o.guard with
  | none =>
    rw [hg] at hq
    exact run (by unfold Region.wanted; rw [hg]) hq
  | some gg =>
    rw [hg] at hq
    have hq' : guardK (wantA full m d.o) (qOp d.o.op P e dd m h (dstK d.o.dst e.n m K)) (dstK d.o.dst e.n m K dd h undef) = some out := hq
    cases hw : wantA full m d.o with
    | none => rw [hw] at hq'; cases hq'
    | some t =>
      rw [hw] at hq'
      have hwt := wantA_sim (hI.want G hd hb ▸ hw) hR
      cases t with
      | true => exact run hwt hq'
      | false =>
        obtain ⟨m', k1, k2⟩ := dstK_some (v := undef) hq'
        refine ⟨dd, m', h, γ, a.put d.o.dst undef, w, k1, Gm.le_refl _, hI.sync1 G hd hA hb k2 (Gm.le_refl _) rfl hI.defers undef_vr hI.hr, .one ?_⟩
        have s := stepR_op_skip (P := P) (b := b) (a := a) (k := k) (cs := cs) (w := w) (ops := full) (i := d.i) (rest := rest) (by rw [ho]; simp only [Option.map_some, Option.getD_some]; exact hwt)
        rw [ho] at s
        exact s

/-- The looks at what was read ahead. -/
theorem looks_ok {e : Env} {out : Out} {l' : List DStep} : ∀ (l : List DOp), drawB (l.map .look ++ l') full P e dd m h = some out → drawB l' full P e dd m h = some out ∧
    ∀ d, d ∈ l → wantA full m d.o = some false ∨ ∃ v t, wantA full m d.o = some true ∧ aVal P h m d.o.op = some v ∧ d.o.dst = some t ∧ m.get t = some v
  | [], hq => ⟨hq, fun d hd => by cases hd⟩
  | d :: l, hq => by
    have hq' : lookD full d P m h (drawB (l.map .look ++ l') full P e dd m h) = some out := hq
    unfold lookD at hq'
    split at hq'
    · rename_i hw
      split at hq'
      · rename_i v t hv ht
        split at hq'
        · rename_i u hu
          rw [ifB_eq] at hq'
          split at hq'
          · rename_i hvu
            obtain ⟨h1, h2⟩ := looks_ok l hq'
            refine ⟨h1, fun x hx => ?_⟩
            rcases List.mem_cons.1 hx with rfl | hx
            · exact .inr ⟨v, t, hw, hv, ht, by rw [veq_eq hvu]; exact hu⟩
            · exact h2 x hx
          · cases hq'
        · cases hq'
      · cases hq'
    · rename_i hw
      obtain ⟨h1, h2⟩ := looks_ok l hq'
      refine ⟨h1, fun x hx => ?_⟩
      rcases List.mem_cons.1 hx with rfl | hx
      · exact .inl hw
      · exact h2 x hx
    · cases hq'

theorem DI.looked (hI : DI P w0 pend0 full ds n A E (fun _ => True) blk pd γ dd m h a w)
    (hl : ∀ d, d ∈ ds → A d.i → ¬ E d.i → isL d.o.op = true → wantA full m d.o = some false ∨ ∃ v t, wantA full m d.o = some true ∧ aVal P h m d.o.op = some v ∧ d.o.dst = some t ∧ m.get t = some v) :
    DI P w0 pend0 full ds n A E (· = h) blk pd γ dd m h a w := by
  refine ⟨hI.dom, hI.sub, hI.clA, hI.tm, hI.size, hI.defers, hI.hr, fun d hd hA hE => ?_, hI.p1, hI.p2, hI.p3⟩
  obtain ⟨q1, v, q2, q3⟩ := hI.lag d hd hA hE
  refine ⟨q1, v, ?_, q3⟩
  cases q2 with
  | skip h1 h2 => exact .skip h1 h2
  | new h1 h2 h3 => exact .new h1 h2 h3
  | @val _ h0 h1 _ h3 h4 =>
    cases hL : isL d.o.op with
    | false => exact .val h1 rfl (aVal_noL hL h3) h4
    | true =>
      rcases hl d hd hA hE hL with hw | ⟨u, t, _, r2, r3, r4⟩
      · rw [h1] at hw; cases hw
      · have := (q3 t r3).2.get
        rw [r4] at this
        cases this
        exact .val h1 rfl r2 h4
end
end Go.Ae

namespace Go.Ae
variable {P : Program} {w0 : World} {γ : Gm}

theorem lin_succ {md : Region.Mode} {ops : Array Oper} (fuel t : Nat) (listed : Array Bool) : Region.linearise.go md ops (fuel + 1) t listed [] =
    match (Region.ready md ops listed)[t % (Region.ready md ops listed).length]? with
    | some i => i :: Region.linearise.go md ops fuel (t / (Region.ready md ops listed).length) (listed.setIfInBounds i true) []
    | none => [] := by
  simp only [Region.linearise.go]
  change (match (Region.ready md ops listed)[t % (Region.ready md ops listed).length]? with
      | some i => Region.linearise.go md ops fuel (t / (Region.ready md ops listed).length) (listed.setIfInBounds i true) [i]
      | none => [].reverse) = _
  cases (Region.ready md ops listed)[t % (Region.ready md ops listed).length]? with
  | none => rfl
  | some i => dsimp only; rw [linearise_go_acc]; rfl
theorem pick_none {rs : List Nat} {t : Nat} (h : rs[t % rs.length]? = none) : rs = [] := by
  cases rs with
  | nil => rfl
  | cons x xs =>
    have hlt : t % (x :: xs).length < (x :: xs).length := Nat.mod_lt _ (by simp)
    rw [List.getElem?_eq_none_iff] at h
    omega

def nowOf (ds syncs : List DOp) (done : Nat) : List DOp := ds.filter fun d => !d.sync && !(bitIn done d.i) && !(syncs.any fun t => bitIn d.bef t.i)
def doneOf (ds syncs : List DOp) (done : Nat) : Nat := Nat.lor done (orL ((nowOf ds syncs done).map fun d => Nat.pow 2 d.i))
/-- What is still to do behind a batch. -/
def tailS (ds : List DOp) : List DOp → Nat → Nat → List DStep
  | [], _, _ => []
  | s :: ss, k, done => .run s :: ((ds.filter fun d => bitIn done d.i && isL d.o.op && !(bitIn s.bef d.i)).map .look ++ schedFrom ds ss (k + 1) done)
theorem sched_eq (ds : List DOp) : ∀ (syncs : List DOp) (k done : Nat), schedFrom ds syncs k done = (nowOf ds syncs done).map .run ++ tailS ds syncs k (doneOf ds syncs done)
  | [], k, done => by
    rw [schedFrom, tailS, List.append_nil]
    unfold nowOf
    congr 1
    congr 1
    funext d
    simp
  | s :: ss, k, done => by
    rw [schedFrom, tailS]
    unfold doneOf nowOf
    simp only [List.append_assoc, List.cons_append]
theorem doneOf_bit {ds syncs : List DOp} {done i : Nat} : bitIn (doneOf ds syncs done) i = true ↔ bitIn done i = true ∨ ∃ d, d ∈ nowOf ds syncs done ∧ d.i = i := by
  unfold doneOf
  rw [bitIn_lor, Bool.or_eq_true, bitIn_orL]
  constructor
  · rintro (h | ⟨x, hx, hb⟩)
    · exact .inl h
    · rw [List.mem_map] at hx
      obtain ⟨d, hd, rfl⟩ := hx
      exact .inr ⟨d, hd, (bitIn_pow _ _).1 hb⟩
  · rintro (h | ⟨d, hd, rfl⟩)
    · exact .inl h
    · exact .inr ⟨_, List.mem_map.2 ⟨d, hd, rfl⟩, (bitIn_pow _ _).2 rfl⟩

theorem DF.pairwise {ds : List DOp} (F : DF ds) : ds.Pairwise fun x y => x.i < y.i := by
  rw [List.pairwise_iff_getElem]
  intro i j hi hj hij
  rw [F.at_ i _ (List.getElem?_eq_getElem hi), F.at_ j _ (List.getElem?_eq_getElem hj)]; exact hij

/-- Where the two stand between a batch and the next fixed point. -/
structure SI (ds syncs : List DOp) (A : Nat → Prop) (done : Nat) : Prop where
  mem : ∀ t, t ∈ syncs → t ∈ ds ∧ t.sync = true ∧ ¬ A t.i
  all : ∀ d, d ∈ ds → d.sync = true → A d.i ∨ d ∈ syncs
  chain : chainOK syncs = true
  done : ∀ d, d ∈ ds → d.sync = false → (A d.i ↔ bitIn done d.i = true)

section
variable {pend0 : Nat → Option AObj} {full : Array Oper} {ds : List DOp} {n : Nat} {A E : Nat → Prop} {blk : Blk} {pd : Nat → Option AObj} {dd : List Deferred} {m : Tm} {h : Hp} {a : Act} {w : World}
variable {b : Frame} {k : List Item} {cs : List Frame}

/-- A whole batch. -/
theorem SI.batch {syncs : List DOp} {done kk : Nat} (S : SI ds syncs A done) (hI : DI P w0 pend0 full ds n A E (· = h) blk pd γ dd m h a w) (G : DG full ds) {e : Env} (he : e.n = n) {out : Out}
    (hq : drawB (schedFrom ds syncs kk done) full P e dd m h = some out) :
    ∃ A' m' h' blk' pd', drawB (tailS ds syncs kk (doneOf ds syncs done)) full P e dd m' h' = some out ∧ DI P w0 pend0 full ds n A' E (· = h') blk' pd' γ dd m' h' a w ∧
      SI ds syncs A' (doneOf ds syncs done) ∧ ∀ d, d ∈ ds → d.sync = false → ¬ A' d.i → ∃ t, t ∈ syncs ∧ bitIn d.bef t.i = true := by
  rw [sched_eq] at hq
  have hnow : ∀ d, d ∈ nowOf ds syncs done ↔ d ∈ ds ∧ d.sync = false ∧ ¬ A d.i ∧ ∀ t, t ∈ syncs → bitIn d.bef t.i = false := by
    intro d
    unfold nowOf
    rw [List.mem_filter]
    simp only [Bool.and_eq_true, Bool.not_eq_true', List.any_eq_false, Bool.not_eq_true]
    constructor
    · rintro ⟨h1, ⟨h2, h3⟩, h4⟩
      exact ⟨h1, h2, (fun hA => by rw [(S.done d h1 h2).1 hA] at h3; exact absurd h3 (by decide)), h4⟩
    · rintro ⟨h1, h2, h3, h4⟩
      refine ⟨h1, ⟨h2, ?_⟩, h4⟩
      cases hb : bitIn done d.i with
      | false => rfl
      | true => exact absurd ((S.done d h1 h2).2 hb) h3
  obtain ⟨m', h', blk', pd', h1, h2⟩ := DI.batch G he _ _ A blk pd m h hI (fun d hd => ⟨((hnow d).1 hd).1, ((hnow d).1 hd).2.1, ((hnow d).1 hd).2.2.1⟩) (G.F.pairwise.filter _) (fun d hd j hj => by
    obtain ⟨q1, q2, q3, q4⟩ := (hnow d).1 hd
    have hlt := G.F.blt q1 hj
    obtain ⟨x, hx, hxi⟩ : ∃ x, x ∈ ds ∧ x.i = j := by
      have hdl := G.lt q1
      have hj' : j < ds.length := by rw [G.len]; omega
      exact ⟨ds[j], List.getElem_mem hj', G.F.at_ _ _ (List.getElem?_eq_getElem hj')⟩
    subst hxi
    by_cases hA : A x.i
    · exact .inl hA
    · right
      cases hs : x.sync with
      | true =>
        rcases S.all x hx hs with r | r
        · exact absurd r hA
        · rw [q4 x r] at hj; cases hj
      | false =>
        refine ⟨x, (hnow x).2 ⟨hx, hs, hA, fun t ht => ?_⟩, rfl⟩
        cases hb : bitIn x.bef t.i with
        | false => rfl
        | true =>
          have := G.F.tr q1 hx hj hb
          rw [q4 t ht] at this; cases this) hq
  refine ⟨_, m', h', blk', pd', h1, h2, ⟨?_, ?_, S.chain, ?_⟩, ?_⟩
  · intro t ht
    obtain ⟨q1, q2, q3⟩ := S.mem t ht
    refine ⟨q1, q2, ?_⟩
    rintro (r | ⟨d, hd, r⟩)
    · exact q3 r
    · obtain ⟨r1, r2, _, _⟩ := (hnow d).1 hd
      have := G.F.eq r1 q1 r; subst this; rw [q2] at r2; cases r2
  · intro d hd hs
    rcases S.all d hd hs with r | r
    · exact .inl (.inl r)
    · exact .inr r
  · intro d hd hs
    rw [doneOf_bit, ← S.done d hd hs]
  · intro d hd hs hA
    apply Classical.byContradiction
    intro hno
    refine hA (.inr ⟨d, (hnow d).2 ⟨hd, hs, fun r => hA (.inl r), fun t ht => ?_⟩, rfl⟩)
    cases hb : bitIn d.bef t.i with
    | false => rfl
    | true => exact absurd ⟨t, ht, hb⟩ hno

theorem draw_main (G : DG full ds) {e : Env} (he : e.n = n) (hcall : CallOK P e.call) (hround : EnvOK P e) (hbase : BaseOK e b cs) {out : Out} :
    ∀ (fuel t : Nat) (listed : Array Bool) (syncs : List DOp) (kk done : Nat) (A : Nat → Prop) (blk : Blk) (pd : Nat → Option AObj) (γ : Gm) (dd : List Deferred) (m : Tm) (h : Hp) (a : Act) (w : World),
      listed.size = full.size → ((List.range full.size).filter fun j => !(listed.getD j false)).length ≤ fuel →
      (∀ d, d ∈ ds → listed.getD d.i false = true → ∀ e ∈ d.o.after.toList, bindsE e = true → listed.getD e.on false = true) →
      DI P w0 pend0 full ds n A (fun j => listed.getD j false = true) (· = h) blk pd γ dd m h a w → SI ds syncs A done →
      (∀ d, d ∈ ds → d.sync = false → ¬ A d.i → ∃ t, t ∈ syncs ∧ bitIn d.bef t.i = true) →
      drawB (tailS ds syncs kk done) full P e dd m h = some out →
      RunOK P w0 pend0 γ n (lone (b.atR a (.inRegion full (Region.linearise.go .any full fuel t listed []) :: k)) cs w) b k cs out := by
  intro fuel
  have fin : ∀ (listed : Array Bool) (syncs : List DOp) (kk done : Nat) (A : Nat → Prop) (blk : Blk) (pd : Nat → Option AObj) (γ : Gm) (dd : List Deferred) (m : Tm) (h : Hp) (a : Act) (w : World),
      (∀ j, j < full.size → listed.getD j false = true) → DI P w0 pend0 full ds n A (fun j => listed.getD j false = true) (· = h) blk pd γ dd m h a w → SI ds syncs A done →
      drawB (tailS ds syncs kk done) full P e dd m h = some out → RunOK P w0 pend0 γ n (lone (b.atR a (.inRegion full [] :: k)) cs w) b k cs out := by
    intro listed syncs kk done A blk pd γ dd m h a w hall hI S hq
    have hsy : syncs = [] := by
      cases syncs with
      | nil => rfl
      | cons s ss =>
        obtain ⟨h1, h2, h3⟩ := S.mem s (by simp)
        exact absurd (hI.sub _ (hall _ (G.lt h1))) h3
    subst hsy
    have hq' : some (Out.go dd m h) = some out := hq
    cases hq'
    have hno : ∀ j, A j → listed.getD j false = true := by
      intro j hj
      obtain ⟨d, hd, rfl⟩ := hI.dom j hj
      exact hall _ (G.lt hd)
    have hpd : pd = pend0 := by
      funext B
      refine hI.p3 B fun i ob hi => ?_
      obtain ⟨_, _, q3, q4⟩ := hI.p1 i B ob hi
      exact q4 (hno i q3)
    subst hpd
    exact ⟨γ, a, w, Gm.le_refl _, .one stepR_region_end, ⟨hI.tm.out (by rintro t ⟨d, _, h1, h2, _⟩; exact h2 (hno _ h1)), hI.size, hI.defers⟩, hI.hr⟩
  induction fuel with
  | zero =>
    intro t listed syncs kk done A blk pd γ dd m h a w hsz hfu hcl hI S hb hq
    have hall : ∀ j, j < full.size → listed.getD j false = true := by
      intro j hj
      have h0 : ((List.range full.size).filter fun j => !(listed.getD j false)) = [] := List.eq_nil_of_length_eq_zero (Nat.le_zero.1 hfu)
      rw [List.filter_eq_nil_iff] at h0
      have := h0 j (List.mem_range.2 hj)
      simpa using this
    have e0 : Region.linearise.go .any full 0 t listed [] = [] := by simp [Region.linearise.go]
    rw [e0]
    exact fin listed syncs kk done A blk pd γ dd m h a w hall hI S hq
  | succ fuel ih =>
    intro t listed syncs kk done A blk pd γ dd m h a w hsz hfu hcl hI S hb hq
    rw [lin_succ]
    cases hp : (Region.ready .any full listed)[t % (Region.ready .any full listed).length]? with
    | none =>
      have hr := pick_none hp
      have hall : ∀ j, j < full.size → listed.getD j false = true := by
        intro j
        induction j using Nat.strongRecOn with
        | ind j jh =>
          intro hj
          cases hl : listed.getD j false with
          | true => rfl
          | false =>
            exfalso
            have hjd : j < ds.length := by rw [G.len]; exact hj
            have hg : ds[j]? = some ds[j] := List.getElem?_eq_getElem hjd
            have hi := G.F.at_ _ _ hg
            have hm : ds[j] ∈ ds := List.getElem_mem hjd
            have hmem : j ∈ Region.ready .any full listed := by
              rw [mem_ready]
              refine ⟨?_, ds[j].o, ?_, ?_⟩
              · rw [Array.getD_eq_getD_getElem?] at hl ⊢
                rw [Array.getElem?_eq_getElem (by omega)] at hl ⊢
                exact hl
              · have := G.oper hm; rw [hi] at this; exact this
              · intro e he hbe
                have hbe' : bindsE e = true := by rw [bindsE_eq]; exact hbe
                have hlt := G.F.lt1 _ hm e (by simpa using he) hbe'
                exact jh e.on (by omega) (by omega)
            rw [hr] at hmem; cases hmem
      exact fin listed syncs kk done A blk pd γ dd m h a w hall hI S hq
    | some i =>
      dsimp only
      have hmem := List.mem_of_getElem? hp
      rw [mem_ready] at hmem
      obtain ⟨hi1, o, ho, hpre⟩ := hmem
      have hilt : i < full.size := (Array.getElem?_eq_some_iff.1 ho).1
      have hid : i < ds.length := by rw [G.len]; exact hilt
      have hg : ds[i]? = some ds[i] := List.getElem?_eq_getElem hid
      have hd : ds[i] ∈ ds := List.getElem_mem hid
      have hii := G.F.at_ _ _ hg
      generalize hdd : ds[i] = d at hg hd hii
      have hdo : d.o = o := by
        have := G.oper hd
        rw [hii, ho] at this; exact (Option.some.inj this).symm
      subst hii
      have hnE : ¬ (listed.getD d.i false = true) := by
        rw [Array.getD_eq_getD_getElem?] at hi1 ⊢
        rw [Array.getElem?_eq_getElem (by omega)] at hi1 ⊢
        simp only [Option.getD_some] at hi1 ⊢
        rw [hi1]; decide
      have hbE : ∀ j, bitIn d.bef j = true → listed.getD j false = true := fun j hj =>
        G.F.ready (E := fun j => listed.getD j false = true) hcl hd (fun e he hbe => hpre e (by rw [← hdo]; simpa using he) (by rw [← bindsE_eq]; exact hbe)) hj
      have hE' : (fun j => j = d.i ∨ listed.getD j false = true) = fun j => (listed.setIfInBounds d.i true).getD j false = true := by
        funext j
        apply propext
        by_cases e : d.i = j
        · subst e
          constructor
          · intro _; rw [Array.getD_eq_getD_getElem?, Array.getElem?_setIfInBounds, if_pos rfl, if_pos (by omega)]; rfl
          · intro _; exact .inl rfl
        · rw [getD_set_ne false e]
          constructor
          · rintro (r | r)
            · exact absurd r.symm e
            · exact r
          · exact fun r => .inr r
      have hsz' : (listed.setIfInBounds d.i true).size = full.size := by rw [Array.size_setIfInBounds]; exact hsz
      have hfu' : ((List.range full.size).filter fun j => !((listed.setIfInBounds d.i true).getD j false)).length ≤ fuel := by
        have hsub : ((List.range full.size).filter fun j => !((listed.setIfInBounds d.i true).getD j false)).length < ((List.range full.size).filter fun j => !(listed.getD j false)).length := by
          have h1 : ((List.range full.size).filter fun j => !((listed.setIfInBounds d.i true).getD j false)) = (((List.range full.size).filter fun j => !(listed.getD j false)).filter fun j => !(j == d.i)) := by
            rw [List.filter_filter]
            congr 1
            funext j
            have := congrFun hE' j
            by_cases e : j = d.i
            · subst e
              have : (listed.setIfInBounds d.i true).getD d.i false = true := by rw [← this]; exact .inl rfl
              rw [this]; simp
            · rw [getD_set_ne false (fun x => e x.symm)]
              simp [e]
          rw [h1]
          have hin : d.i ∈ (List.range full.size).filter fun j => !(listed.getD j false) := List.mem_filter.2 ⟨List.mem_range.2 hilt, by simpa using hnE⟩
          have hle := List.length_filter_le (fun j => !(j == d.i)) ((List.range full.size).filter fun j => !(listed.getD j false))
          rcases Nat.lt_or_eq_of_le hle with q | q
          · exact q
          · exfalso
            rw [List.length_filter_eq_length_iff] at q
            have := q d.i hin
            simp at this
        omega
      have hcl' : ∀ x, x ∈ ds → (listed.setIfInBounds d.i true).getD x.i false = true → ∀ e ∈ x.o.after.toList, bindsE e = true → (listed.setIfInBounds d.i true).getD e.on false = true := by
        intro x hx hxl e he hbe
        rw [← congrFun hE' x.i] at hxl
        rw [← congrFun hE' e.on]
        right
        rcases hxl with r | r
        · have := G.F.eq hx hd r; subst this
          exact hpre e (by rw [← hdo]; simpa using he) (by rw [← bindsE_eq]; exact hbe)
        · exact hcl x hx r e he hbe
      by_cases hA : A d.i
      · obtain ⟨γ', blk', pd', a', w', g, hI', st⟩ := hI.lag_run (k := k) (b := b) (cs := cs) (rest := Region.linearise.go .any full fuel (t / (Region.ready .any full listed).length) (listed.setIfInBounds d.i true) []) G hd hA hnE hbE
        rw [hE'] at hI'
        exact (ih _ _ syncs kk done A blk' pd' γ' dd m h a' w' hsz' hfu' hcl' hI' S hb hq).of_steps g st
      · have hs : d.sync = true := by
          cases hs : d.sync with
          | true => rfl
          | false =>
            obtain ⟨t, ht, hbt⟩ := hb d hd hs hA
            exact absurd (hI.sub _ (hbE _ hbt)) (S.mem t ht).2.2
        cases syncs with
        | nil => rcases S.all d hd hs with r | r
                 · exact absurd r hA
                 · cases r
        | cons s ss =>
          have hds : d = s := by
            rcases S.all d hd hs with r | r
            · exact absurd r hA
            · rcases List.mem_cons.1 r with r | r
              · exact r
              · obtain ⟨p, hp, hbp⟩ := chain_pred S.chain d r
                exact absurd (hI.sub _ (hbE _ hbp)) (S.mem p hp).2.2
          subst hds
          have hq' : ifB d.sync (operK full d.o P e dd m h (drawB ((ds.filter fun x => bitIn done x.i && isL x.o.op && !(bitIn d.bef x.i)).map .look ++ schedFrom ds ss (kk + 1) done) full P e))
            (aheadD full d P e dd m h (drawB ((ds.filter fun x => bitIn done x.i && isL x.o.op && !(bitIn d.bef x.i)).map .look ++ schedFrom ds ss (kk + 1) done) full P e)) = some out := hq
          rw [hs] at hq'
          obtain ⟨dd', m', h', γ', a', w', hk, g, hI', st⟩ := hI.sync (k := k) (b := b) (cs := cs) (rest := Region.linearise.go .any full fuel (t / (Region.ready .any full listed).length) (listed.setIfInBounds d.i true) []) G hd hA hbE he hcall hround hbase hq'
          rw [hE'] at hI'
          obtain ⟨hk2, hlook⟩ := looks_ok _ hk
          have hI2 := hI'.looked (fun x hx hAx hEx hL => by
            rw [← congrFun hE' x.i] at hEx
            have hne : x.i ≠ d.i := fun r => hEx (.inl r)
            have hAx' := hAx.resolve_left hne
            have hEx' : ¬ (listed.getD x.i false = true) := fun r => hEx (.inr r)
            refine hlook x (List.mem_filter.2 ⟨hx, ?_⟩)
            have hxs := (hI.lag x hx hAx' hEx').1
            rw [(S.done x hx hxs).1 hAx', hL]
            cases hb : bitIn d.bef x.i with
            | false => rfl
            | true => exact absurd (hbE _ hb) hEx')
          have S' : SI ds ss (fun j => j = d.i ∨ A j) done := by
            refine ⟨fun t ht => ?_, fun x hx hxs => ?_, chain_tail S.chain, fun x hx hxs => ?_⟩
            · obtain ⟨q1, q2, q3⟩ := S.mem t (List.mem_cons_of_mem _ ht)
              refine ⟨q1, q2, ?_⟩
              rintro (r | r)
              · have := G.F.eq q1 hd r
                subst this
                obtain ⟨p, hp, hbp⟩ := chain_pred S.chain t ht
                exact (S.mem p hp).2.2 (hI.sub _ (hbE _ hbp))
              · exact q3 r
            · rcases S.all x hx hxs with r | r
              · exact .inl (.inr r)
              · rcases List.mem_cons.1 r with r | r
                · exact .inl (.inl (by rw [r]))
                · exact .inr r
            · rw [← S.done x hx hxs]
              constructor
              · rintro (r | r)
                · have := G.F.eq hx hd r; subst this; rw [hs] at hxs; cases hxs
                · exact r
              · exact fun r => .inr r
          obtain ⟨A2, m2, h2, blk2, pd2, r1, r2, r3, r4⟩ := S'.batch hI2 G he hk2
          exact (ih _ _ ss (kk + 1) _ A2 blk2 pd2 γ' dd' m2 h2 a' w' hsz' hfu' hcl' r2 r3 r4 r1).of_steps g st
end

theorem draw_ok (hm : P.follows .mixedOrders = true) : DrawOK P := by
  intro e hcall hround id ops w0 pend γ dd m h o he b k cs a w hb hf hr
  have he' : ifB (drawOK (dopsOf ops.toList)) (drawB (schedFrom (dopsOf ops.toList) ((dopsOf ops.toList).filter (·.sync)) 0 0) ops P e dd m.clean h) none = some o := he
  rw [ifB_eq] at he'
  split at he'
  · rename_i hok
    have F := drawOK_df hok
    have G : DG ops (dopsOf ops.toList) := ⟨F, by rw [dopsOf_length]; simp, fun i d hd => (dopsOf_at hd).2⟩
    have hnone : ∀ j, ¬ ((Array.replicate ops.size false).getD j false = true) := by
      intro j
      rw [Array.getD_eq_getD_getElem?, Array.getElem?_replicate]
      split <;> simp
    have hI : DI P w0 pend ops (dopsOf ops.toList) e.n (fun _ => False) (fun j => (Array.replicate ops.size false).getD j false = true) (· = h) (fun _ => none) pend γ dd m.clean h a { w with drawn := w.drawn + 1 } :=
      ⟨fun _ h => h.elim, fun j hj => absurd hj (hnone j), fun _ _ h => h.elim, .of hf.tm.clean, hf.size, hf.defers, hr.drew _, fun _ _ h => h.elim, fun _ _ _ h => (by cases h), fun _ _ _ _ _ h => (by cases h), fun _ _ => rfl⟩
    have S : SI (dopsOf ops.toList) ((dopsOf ops.toList).filter (·.sync)) (fun _ => False) 0 :=
      ⟨fun t ht => ⟨(List.mem_filter.1 ht).1, (List.mem_filter.1 ht).2, fun h => h⟩, fun d hd hs => .inr (List.mem_filter.2 ⟨hd, hs⟩), F.chain, fun d _ _ => ⟨fun h => h.elim, fun h => by rw [bitIn_zero] at h; cases h⟩⟩
    obtain ⟨A', m', h', blk', pd', r1, r2, r3, r4⟩ := S.batch hI G rfl he'
    have := draw_main (b := b) (k := k) (cs := cs) G rfl hcall hround hb ops.size (w.tape w.drawn (.order b.fn id)) (Array.replicate ops.size false) _ 0 _ A' blk' pd' γ dd m' h' a { w with drawn := w.drawn + 1 } (by simp)
      (Nat.le_trans (List.length_filter_le _ _) (by simp)) (fun d _ hd => absurd hd (hnone _)) r2 r3 r4 r1
    refine this.of_steps (Gm.le_refl _) (.one ?_)
    rw [stepR_region_draw]
    simp only [Region.schedule, hm, Bool.true_or, if_true]
    rfl
  · cases he'
end Go.Ae

namespace Go.Ae
variable {P : Program}

/-- No block ahead of its time. -/
abbrev noPend : Nat → Option AObj := fun _ => none

/-- From one state, a code comes to an end. -/
def ExecTo (P : Program) (e : Env) (c : Code) (ds : List Deferred) (m : Tm) (h : Hp) (o : Out) : Prop :=
  ∀ w0 γ b k cs a w, BaseOK e b cs → FR γ e.n ds m a → HR w0 γ noPend h w → RunOK P w0 noPend γ e.n (lone (b.atR a (.code c :: k)) cs w) b k cs o
/-- Likewise in a loop that has begun. -/
def LoopTo (P : Program) (e : Env) (c : Code) (ds : List Deferred) (m : Tm) (h : Hp) (o : Out) : Prop :=
  ∀ w0 γ b k cs a w, BaseOK e b cs → FR γ e.n ds m a → HR w0 γ noPend h w → RunOK P w0 noPend γ e.n (lone (b.atR a (.code c :: .inLoop c :: k)) cs w) b k cs o

theorem ExecTo.of {e : Env} (hx : ∀ c, ExecOK P e c) {c : Code} {ds : List Deferred} {m : Tm} {h : Hp} {o : Out} (he : exec c P e ds m h = some o) : ExecTo P e c ds m h o :=
  fun w0 γ b k cs a w hb hf hr => hx c w0 noPend γ ds m h o he b k cs a w hb hf hr

variable {e : Env} {c x y : Code} {ds ds1 : List Deferred} {m m1 : Tm} {h h1 : Hp} {o : Out}
theorem ExecTo.seq (hx : ExecTo P e x ds m h (.go ds1 m1 h1)) (hy : ExecTo P e y ds1 m1 h1 o) : ExecTo P e (.seq x y) ds m h o := by
  intro w0 γ b k cs a w hb hf hr
  obtain ⟨γ1, a1, w1, g1, s1, f1, r1⟩ := hx w0 γ b (.code y :: k) cs a w hb hf hr
  exact (hy w0 γ1 b k cs a1 w1 hb f1 r1).of_steps g1 (.head stepR_seq s1)
theorem ExecTo.seq_ret (hx : ExecTo P e x ds m h (.ret ds1 m1 h1)) : ExecTo P e (.seq x y) ds m h (.ret ds1 m1 h1) := by
  intro w0 γ b k cs a w hb hf hr
  obtain ⟨γ1, a1, w1, g1, ⟨k1, s1⟩, f1, r1⟩ := hx w0 γ b (.code y :: k) cs a w hb hf hr
  exact ⟨γ1, a1, w1, g1, ⟨k1, .head stepR_seq s1⟩, f1, r1⟩
theorem ExecTo.seq_exit {id : Nat} (hx : ExecTo P e x ds m h (.exit id ds1 m1 h1)) : ExecTo P e (.seq x y) ds m h (.exit id ds1 m1 h1) := by
  intro w0 γ b k cs a w hb hf hr
  obtain ⟨γ1, a1, w1, g1, ⟨k1, q1, s1⟩, f1, r1⟩ := hx w0 γ b (.code y :: k) cs a w hb hf hr
  exact ⟨γ1, a1, w1, g1, ⟨k1, q1, .head stepR_seq s1⟩, f1, r1⟩
theorem ExecTo.block_go {id : Nat} (hx : ExecTo P e c ds m h (.go ds1 m1 h1)) : ExecTo P e (.block id c) ds m h (.go ds1 m1 h1) := by
  intro w0 γ b k cs a w hb hf hr
  obtain ⟨γ1, a1, w1, g1, s1, f1, r1⟩ := hx w0 γ b (.inBlock id :: k) cs a w hb hf hr
  exact ⟨γ1, a1, w1, g1, .head stepR_block (Steps.trans s1 (.one stepR_inBlock)), f1, r1⟩
theorem ExecTo.block_ret {id : Nat} (hx : ExecTo P e c ds m h (.ret ds1 m1 h1)) : ExecTo P e (.block id c) ds m h (.ret ds1 m1 h1) := by
  intro w0 γ b k cs a w hb hf hr
  obtain ⟨γ1, a1, w1, g1, ⟨k1, s1⟩, f1, r1⟩ := hx w0 γ b (.inBlock id :: k) cs a w hb hf hr
  exact ⟨γ1, a1, w1, g1, ⟨k1, .head stepR_block s1⟩, f1, r1⟩
theorem ExecTo.block_exit {id : Nat} (hx : ExecTo P e c ds m h (.exit id ds1 m1 h1)) : ExecTo P e (.block id c) ds m h (.go ds1 m1 h1) := by
  intro w0 γ b k cs a w hb hf hr
  obtain ⟨γ1, a1, w1, g1, ⟨k1, q1, s1⟩, f1, r1⟩ := hx w0 γ b (.inBlock id :: k) cs a w hb hf hr
  have hk : exitTo id k1 = some k := by rw [q1]; simp [exitTo]
  exact ⟨γ1, a1, w1, g1, .head stepR_block (Steps.trans s1 (.one (stepR_exit hk))), f1, r1⟩
theorem ExecTo.block_other {id j : Nat} (hj : j ≠ id) (hx : ExecTo P e c ds m h (.exit j ds1 m1 h1)) : ExecTo P e (.block id c) ds m h (.exit j ds1 m1 h1) := by
  intro w0 γ b k cs a w hb hf hr
  obtain ⟨γ1, a1, w1, g1, ⟨k1, q1, s1⟩, f1, r1⟩ := hx w0 γ b (.inBlock id :: k) cs a w hb hf hr
  have hk : exitTo j k1 = exitTo j k := by
    rw [q1]
    have : (id == j) = false := by simp; exact fun h => hj h.symm
    simp [exitTo, this]
  exact ⟨γ1, a1, w1, g1, ⟨k1, hk, .head stepR_block s1⟩, f1, r1⟩
theorem ExecTo.cond {q : Operand} {t : Bool} (hv : ev m q = some (.bool t)) (hx : ExecTo P e (if t = true then x else y) ds m h o) : ExecTo P e (.cond q x y) ds m h o := by
  intro w0 γ b k cs a w hb hf hr
  have hc : a.eval q = .bool t := by
    have := ev_vr hf.tm hv
    generalize a.eval q = u at this
    cases this; rfl
  exact (hx w0 γ b k cs a w hb hf hr).of_steps (Gm.le_refl _) (.one (stepR_cond hc))
theorem ExecTo.loop (hx : LoopTo P e c ds m h o) : ExecTo P e (.loop c) ds m h o := fun w0 γ b k cs a w hb hf hr =>
  (hx w0 γ b k cs a w hb hf hr).of_steps (Gm.le_refl _) (.one stepR_loop)
theorem LoopTo.next (hx : ExecTo P e c ds m h (.go ds1 m1 h1)) (hy : LoopTo P e c ds1 m1 h1 o) : LoopTo P e c ds m h o := by
  intro w0 γ b k cs a w hb hf hr
  obtain ⟨γ1, a1, w1, g1, s1, f1, r1⟩ := hx w0 γ b (.inLoop c :: k) cs a w hb hf hr
  exact (hy w0 γ1 b k cs a1 w1 hb f1 r1).of_steps g1 (Steps.trans s1 (.one stepR_inLoop))
theorem LoopTo.ret (hx : ExecTo P e c ds m h (.ret ds1 m1 h1)) : LoopTo P e c ds m h (.ret ds1 m1 h1) := by
  intro w0 γ b k cs a w hb hf hr
  obtain ⟨γ1, a1, w1, g1, ⟨k1, s1⟩, f1, r1⟩ := hx w0 γ b (.inLoop c :: k) cs a w hb hf hr
  exact ⟨γ1, a1, w1, g1, ⟨k1, s1⟩, f1, r1⟩
theorem LoopTo.exit {id : Nat} (hx : ExecTo P e c ds m h (.exit id ds1 m1 h1)) : LoopTo P e c ds m h (.exit id ds1 m1 h1) := by
  intro w0 γ b k cs a w hb hf hr
  obtain ⟨γ1, a1, w1, g1, ⟨k1, q1, s1⟩, f1, r1⟩ := hx w0 γ b (.inLoop c :: k) cs a w hb hf hr
  exact ⟨γ1, a1, w1, g1, ⟨k1, q1, s1⟩, f1, r1⟩
theorem ExecTo.scope (hx : ExecTo P e c ds m h o) : ExecTo P e (.scope c) ds m h o := by
  intro w0 γ b k cs a w hb hf hr
  obtain ⟨γ1, a1, w1, g1, s1, f1, r1⟩ := hx w0 γ b (.inScope c :: k) cs a w hb hf hr
  cases o with
  | go ds1 m1 h1 => exact ⟨γ1, a1, w1, g1, .head stepR_scope (Steps.trans s1 (.one stepR_inScope)), f1, r1⟩
  | ret ds1 m1 h1 => obtain ⟨k1, s1⟩ := s1; exact ⟨γ1, a1, w1, g1, ⟨k1, .head stepR_scope s1⟩, f1, r1⟩
  | exit j ds1 m1 h1 => obtain ⟨k1, q1, s1⟩ := s1; exact ⟨γ1, a1, w1, g1, ⟨k1, q1, .head stepR_scope s1⟩, f1, r1⟩

/-! ### Forgetting -/
/-- The blocks that are kept. -/
noncomputable def trimT (t : Tr AObj) (keep : List Nat) : Tr AObj → Tr AObj :=
  List.rec (motive := fun _ => Tr AObj → Tr AObj) (fun u => u) (fun B _ ih u => ih (Option.rec (motive := fun _ => Tr AObj) u (fun o => u.put B o) (t.get B))) keep
theorem trimT_get {t : Tr AObj} : ∀ (keep : List Nat) (u : Tr AObj), (∀ B o, u.get B = some o → t.get B = some o) → ∀ B o, (trimT t keep u).get B = some o → t.get B = some o
  | [], u, hu, B, o, h => hu B o h
  | K :: keep, u, hu, B, o, h => by
    have h' : (trimT t keep (Option.rec (motive := fun _ => Tr AObj) u (fun o => u.put K o) (t.get K))).get B = some o := h
    refine trimT_get keep _ ?_ B o h'
    intro B' o' h2
    cases hk : t.get K with
    | none => rw [hk] at h2; exact hu B' o' h2
    | some q =>
      rw [hk] at h2
      have h3 : (u.put K q).get B' = some o' := h2
      rw [Tr.get_put] at h3
      split at h3
      · rename_i e; subst e; rw [← h3]; exact hk
      · exact hu B' o' h3
noncomputable def Hp.trim (h : Hp) (keep : List Nat) : Hp := Hp.rec (fun next t => ⟨next, trimT t keep .nil⟩) h
theorem HR.trim {w0 w : World} {γ : Gm} (hr : HR w0 γ noPend h w) (keep : List Nat) : HR w0 γ noPend (h.trim keep) w := by
  have hn : (h.trim keep).next = h.next := by cases h; rfl
  have hs : ∀ B o, (h.trim keep).m.get B = some o → h.m.get B = some o := by
    intro B o hB
    obtain ⟨next, t⟩ := h
    exact trimT_get (t := t) keep .nil (fun _ _ h => by cases h) B o hB
  refine ⟨hr.fr0, fun B p hB => by rw [hn]; exact hr.dom B p hB, fun B B' p p' o o' h1' h2' => hr.inj B B' p p' o o' (hs _ _ h1') (hs _ _ h2'), fun B o p hB => hr.obj B o p (hs _ _ hB), fun B hB => ?_, fun B hB hg => ?_, fun B o hB => by cases hB⟩
  · cases hq : (h.trim keep).m.get B with
    | none => rfl
    | some o => have := hr.fresh B (by rw [← hn]; exact hB); rw [hs _ _ hq] at this; cases this
  · rw [hn] at hB
    cases hq : (h.trim keep).m.get B with
    | none => rfl
    | some o => have := hr.pend B hB hg; rw [hs _ _ hq] at this; cases this

/-- Temporaries that are kept. -/
noncomputable def trimG (keep : Nat) (l : List (Nat × Value)) : List (Nat × Value) :=
  List.rec (motive := fun _ => List (Nat × Value)) [] (fun p _ ih => Bool.rec (motive := fun _ => List (Nat × Value)) ih (p :: ih) (Nat.beq (Nat.land (Nat.shiftRight keep p.1) 1) 1)) l
theorem trimG_no (keep : Nat) : ∀ (l : List (Nat × Value)) (t : Nat) (v : Value), bitIn keep t = false → look (trimG keep l) t = some v → False
  | [], _, _, _, h => by cases h
  | p :: l, t, v, hb, h => by
    have h' : look (Bool.rec (motive := fun _ => List (Nat × Value)) (trimG keep l) (p :: trimG keep l) (bitIn keep p.1)) t = some v := h
    cases hp : bitIn keep p.1 with
    | true =>
      rw [hp] at h'
      have h2 : look (p :: trimG keep l) t = some v := h'
      rw [look_cons] at h2
      split at h2
      · rename_i e; rw [e, hb] at hp; cases hp
      · exact trimG_no keep l t v hb h2
    | false => rw [hp] at h'; exact trimG_no keep l t v hb h'
theorem trimG_look (keep : Nat) : ∀ (l : List (Nat × Value)) (t : Nat) (v : Value), look (trimG keep l) t = some v → look l t = some v
  | [], _, _, h => h
  | p :: l, t, v, h => by
    have h' : look (Bool.rec (motive := fun _ => List (Nat × Value)) (trimG keep l) (p :: trimG keep l) (bitIn keep p.1)) t = some v := h
    cases hb : bitIn keep p.1 with
    | true =>
      rw [hb] at h'
      have h2 : look (p :: trimG keep l) t = some v := h'
      rw [look_cons] at h2 ⊢
      split at h2
      · rename_i e; rw [if_pos e]; exact h2
      · rename_i e; rw [if_neg e]; exact trimG_look keep l t v h2
    | false =>
      rw [hb] at h'
      have h2 : look (trimG keep l) t = some v := h'
      rw [look_cons]
      have h3 := trimG_look keep l t v h2
      split
      · rename_i e
        exfalso
        rw [← e] at h2
        exact trimG_no keep l p.1 v hb h2
      · exact h3
noncomputable def Tm.trim (m : Tm) (kl kt : Nat) : Tm := Tm.rec (motive := fun _ => Tm) (fun l g mask => ⟨trimG kl l, trimG kt g, mask⟩) m
theorem Tm.R.trim {γ : Gm} {a : Array Value} (hr : Tm.R γ m a) (kl kt : Nat) : Tm.R γ (m.trim kl kt) a := by
  obtain ⟨l, g, k⟩ := m
  refine ⟨fun t v ht => hr.kept t v (trimG_look kt g t v ht), fun t v ht => hr.loc t v (trimG_look kl l t v ht), fun t v ht => hr.glob t v (trimG_look kt g t v ht)⟩

noncomputable def Out.trim (kl kt : Nat) (kb : List Nat) (o : Out) : Out :=
  Out.rec (motive := fun _ => Out) (fun ds m h => .go ds (m.trim kl kt) (h.trim kb)) (fun ds m h => .ret ds (m.trim kl kt) (h.trim kb)) (fun id ds m h => .exit id ds (m.trim kl kt) (h.trim kb)) o
theorem RunOK.trim {w0 : World} {γ : Gm} {n : Nat} {M : Machine} {b : Frame} {k : List Item} {cs : List Frame} {o : Out} (hr : RunOK P w0 noPend γ n M b k cs o) (kl kt : Nat) (kb : List Nat) : RunOK P w0 noPend γ n M b k cs (o.trim kl kt kb) := by
  obtain ⟨γ', a', w', g, s, f, r⟩ := hr
  cases o <;> exact ⟨γ', a', w', g, s, ⟨f.tm.trim kl kt, f.size, f.defers⟩, r.trim kb⟩
noncomputable def trimO (kl kt : Nat) (kb : List Nat) (o : OO) : OO := Option.rec (motive := fun _ => OO) none (fun o => some (o.trim kl kt kb)) o
/-- A piece, what is known at its end cut down to what will be asked. -/
theorem ExecTo.piece {e : Env} (hx : ∀ c, ExecOK P e c) {kl kt : Nat} {kb : List Nat} (he : trimO kl kt kb (exec c P e ds m h) = some o) : ExecTo P e c ds m h o := by
  cases hc : exec c P e ds m h with
  | none => rw [hc] at he; cases he
  | some r =>
    rw [hc] at he
    have : r.trim kl kt kb = o := Option.some.inj he
    subst this
    intro w0 γ b k cs a w hb hf hr
    exact (ExecTo.of hx hc w0 γ b k cs a w hb hf hr).trim kl kt kb
/-! ### A whole function without arguments -/
/-- What its environment is. -/
noncomputable abbrev topE (P : Program) (K : Nat → Nat) (I : Intr) (f n : Nat) : Env := ⟨f, n, false, false, (callsN P K I 199).call, (callsN P K I 199).round, I.ext⟩
theorem top_exec {K : Nat → Nat} {I : Intr} (hm : P.follows .mixedOrders = true) (hI : IntrOK P I) (hX : ExtOK P I.ext) (hP : ProgOK P) (f n : Nat) : ∀ c, ExecOK P (topE P K I f n) c :=
  all_ok (draw_ok hm) (callsN_ok (draw_ok hm) hI hX hP 199).1 ⟨(callsN_ok (draw_ok hm) hI hX hP 199).2, hX⟩
theorem top_runs {K : Nat → Nat} {I : Intr} {f : Nat} {fn : Func} {body : Code} {mask : Nat} {v : Value} (hfn : P.funcs[f]? = some fn) (hbody : fn.body = some body)
    (hx : ExecTo P (topE P K I f fn.ntmps) body [] ⟨[], [], mask⟩ ⟨0, .nil⟩ (.ret [] m h)) (hv : resultsA P h m fn.results.toList = some [v]) (w : World) :
    Calls P f #[] w fun e w' => ∃ v' γ, e = .returned v' ∧ VR γ v v' ∧ Fr0 w w' := by
  intro cs
  have hfr := enter_fr (P := P) (f := f) (args := []) (args' := #[]) (kind := .normal) (γ := fun _ => none) mask hfn .nil
  have hr : HR w (fun _ => none) noPend ⟨0, .nil⟩ w := hr_empty w
  have hb : BaseOK (topE P K I f fn.ntmps) (Frame.enter P f #[] .normal) cs := ⟨rfl, fun _ => rfl, fun hd => by cases hd⟩
  have hmax : max fn.ntmps ([] : List Value).length = fn.ntmps := by simp
  rw [hmax] at hfr
  obtain ⟨γ1, a1, w1, g1, ⟨k1, s1⟩, f1, r1⟩ := hx w _ (Frame.enter P f #[] .normal) [] cs _ w hb ⟨⟨fun t v ht => (by cases ht), fun t v ht => (by cases ht), fun t v ht => (by cases ht)⟩, hfr.size, .nil⟩ hr
  rw [← enter_at hfn hbody] at s1
  obtain ⟨v', q1, q2⟩ := results_sim (P := P) r1 f1.tm hv
  have hd : a1.defers = [] := by have := f1.defers; generalize a1.defers = l at this; cases this; rfl
  refine ⟨.returned v', w1, _, ⟨v', γ1, rfl, q2, r1.fr0⟩, Steps.trans s1 (.one (stepR_ret rfl)), rfl, rfl, hd, rfl, fn, hfn, q1⟩
end Go.Ae

namespace Go.Ae
variable {P : Program}

noncomputable def sl (c : Code) : Code := match c with | .seq a _ => a | c => c
noncomputable def sr (c : Code) : Code := match c with | .seq _ b => b | c => c
noncomputable def ct (c : Code) : Code := match c with | .cond _ a _ => a | c => c
noncomputable def ce (c : Code) : Code := match c with | .cond _ _ b => b | c => c
noncomputable def cq (c : Code) : Operand := match c with | .cond q _ _ => q | _ => .tmp 0
noncomputable def bb (c : Code) : Code := match c with | .block _ a => a | c => c
noncomputable def bi (c : Code) : Nat := match c with | .block i _ => i | _ => 0
noncomputable def lb (c : Code) : Code := match c with | .loop a => a | c => c
noncomputable def sb (c : Code) : Code := match c with | .scope a => a | c => c
noncomputable def isK (c : Code) (n : Nat) : Bool := match c, n with | .seq .., 0 => true | .cond .., 1 => true | .block .., 2 => true | .loop _, 3 => true | .scope _, 4 => true | _, _ => false

variable {e : Env} {c : Code} {ds ds1 : List Deferred} {m m1 : Tm} {h h1 : Hp} {o : Out}
theorem ExecTo.seq' (hc : isK c 0 = true) (hx : ExecTo P e (sl c) ds m h (.go ds1 m1 h1)) (hy : ExecTo P e (sr c) ds1 m1 h1 o) : ExecTo P e c ds m h o := by
  cases c <;> first | (cases hc; done) | exact hx.seq hy
theorem ExecTo.seq_ret' (hc : isK c 0 = true) (hx : ExecTo P e (sl c) ds m h (.ret ds1 m1 h1)) : ExecTo P e c ds m h (.ret ds1 m1 h1) := by
  cases c <;> first | (cases hc; done) | exact hx.seq_ret
theorem ExecTo.seq_exit' {id : Nat} (hc : isK c 0 = true) (hx : ExecTo P e (sl c) ds m h (.exit id ds1 m1 h1)) : ExecTo P e c ds m h (.exit id ds1 m1 h1) := by
  cases c <;> first | (cases hc; done) | exact hx.seq_exit
theorem ExecTo.block_go' (hc : isK c 2 = true) (hx : ExecTo P e (bb c) ds m h (.go ds1 m1 h1)) : ExecTo P e c ds m h (.go ds1 m1 h1) := by
  cases c <;> first | (cases hc; done) | exact hx.block_go
theorem ExecTo.block_ret' (hc : isK c 2 = true) (hx : ExecTo P e (bb c) ds m h (.ret ds1 m1 h1)) : ExecTo P e c ds m h (.ret ds1 m1 h1) := by
  cases c <;> first | (cases hc; done) | exact hx.block_ret
theorem ExecTo.block_exit' {id : Nat} (hc : isK c 2 = true) (hi : bi c = id) (hx : ExecTo P e (bb c) ds m h (.exit id ds1 m1 h1)) : ExecTo P e c ds m h (.go ds1 m1 h1) := by
  cases c <;> first | (cases hc; done) | (cases hi; exact hx.block_exit)
theorem ExecTo.block_other' {id : Nat} (hc : isK c 2 = true) (hi : Nat.beq id (bi c) = false) (hx : ExecTo P e (bb c) ds m h (.exit id ds1 m1 h1)) : ExecTo P e c ds m h (.exit id ds1 m1 h1) := by
  cases c <;> first | (cases hc; done) | exact hx.block_other (fun e => Bool.noConfusion ((show Nat.beq id _ = true from (beq_iff' _ _).2 e).symm.trans hi))
theorem ExecTo.cond_t (hc : isK c 1 = true) (hv : ev m (cq c) = some (.bool true)) (hx : ExecTo P e (ct c) ds m h o) : ExecTo P e c ds m h o := by
  cases c <;> first | (cases hc; done) | exact ExecTo.cond hv hx
theorem ExecTo.cond_f (hc : isK c 1 = true) (hv : ev m (cq c) = some (.bool false)) (hx : ExecTo P e (ce c) ds m h o) : ExecTo P e c ds m h o := by
  cases c <;> first | (cases hc; done) | exact ExecTo.cond hv hx
theorem ExecTo.loop' (hc : isK c 3 = true) (hx : LoopTo P e (lb c) ds m h o) : ExecTo P e c ds m h o := by
  cases c <;> first | (cases hc; done) | exact ExecTo.loop hx
theorem ExecTo.scope' (hc : isK c 4 = true) (hx : ExecTo P e (sb c) ds m h o) : ExecTo P e c ds m h o := by
  cases c <;> first | (cases hc; done) | exact hx.scope

/-! ### The first parts of a row of codes, in one piece -/
/-- n parts from the front, one behind the other. -/
noncomputable def execN (n : Nat) : Code → Program → Env → List Deferred → Tm → Hp → OO :=
  Nat.rec (motive := fun _ => Code → Program → Env → List Deferred → Tm → Hp → OO) (fun _ _ _ ds m h => some (.go ds m h))
    (fun _ ih c P e ds m h => seqO (exec (sl c) P e ds m h) (ih (sr c) P e)) n
noncomputable def srN (n : Nat) (c : Code) : Code := Nat.rec (motive := fun _ => Code → Code) (fun c => c) (fun _ ih c => ih (sr c)) n c
noncomputable def seqsN (n : Nat) : Code → Bool := Nat.rec (motive := fun _ => Code → Bool) (fun _ => true) (fun _ ih c => Bool.rec (motive := fun _ => Bool) false (ih (sr c)) (isK c 0)) n
theorem execN_to (hx : ∀ c, ExecOK P e c) : ∀ (n : Nat) (c : Code) (ds : List Deferred) (m : Tm) (h : Hp), seqsN n c = true → execN n c P e ds m h = some (.go ds1 m1 h1) →
    ∀ w0 γ b k cs a w, BaseOK e b cs → FR γ e.n ds m a → HR w0 γ noPend h w →
      ∃ γ' a' w', γ.le γ' ∧ Steps P (lone (b.atR a (.code c :: k)) cs w) (lone (b.atR a' (.code (srN n c) :: k)) cs w') ∧ FR γ' e.n ds1 m1 a' ∧ HR w0 γ' noPend h1 w'
  | 0, c, ds, m, h, _, he, w0, γ, b, k, cs, a, w, _, hf, hr => by
    have he' : some (Out.go ds m h) = some (.go ds1 m1 h1) := he
    cases he'
    exact ⟨γ, a, w, Gm.le_refl _, Steps.refl _ _, hf, hr⟩
  | n + 1, c, ds, m, h, hs, he, w0, γ, b, k, cs, a, w, hb, hf, hr => by
    have hs' : Bool.rec (motive := fun _ => Bool) false (seqsN n (sr c)) (isK c 0) = true := hs
    cases hc : isK c 0 with
    | false => rw [hc] at hs'; cases hs'
    | true =>
      rw [hc] at hs'
      have he' : seqO (exec (sl c) P e ds m h) (execN n (sr c) P e) = some (.go ds1 m1 h1) := he
      rcases seqO_some he' with ⟨ds2, m2, h2, e1, e2⟩ | ⟨_, _, _, _, e2⟩ | ⟨_, _, _, _, _, e2⟩
      · cases c <;> first | (cases hc; done) | skip
        rename_i x y
        obtain ⟨γ1, a1, w1, g1, s1, f1, r1⟩ := hx x w0 noPend γ ds m h _ e1 b (.code y :: k) cs a w hb hf hr
        obtain ⟨γ2, a2, w2, g2, s2, f2, r2⟩ := execN_to hx n y ds2 m2 h2 hs' e2 w0 γ1 b k cs a1 w1 hb f1 r1
        exact ⟨γ2, a2, w2, Gm.le_trans g1 g2, .head stepR_seq (Steps.trans s1 s2), f2, r2⟩
      · cases e2
      · cases e2
/-- A piece of n parts, and the rest. -/
theorem ExecTo.pieces (hx : ∀ c, ExecOK P e c) (n : Nat) {kl kt : Nat} {kb : List Nat} (hs : seqsN n c = true) (he : trimO kl kt kb (execN n c P e ds m h) = some (.go ds1 m1 h1)) (hy : ExecTo P e (srN n c) ds1 m1 h1 o) : ExecTo P e c ds m h o := by
  cases hc : execN n c P e ds m h with
  | none => rw [hc] at he; cases he
  | some r =>
    rw [hc] at he
    have hr : r.trim kl kt kb = .go ds1 m1 h1 := Option.some.inj he
    cases r with
    | ret => cases hr
    | exit => cases hr
    | go ds2 m2 h2 =>
      have hr' : Out.go ds2 (m2.trim kl kt) (h2.trim kb) = .go ds1 m1 h1 := hr
      cases hr'
      intro w0 γ b k cs a w hb hf hr
      obtain ⟨γ1, a1, w1, g1, s1, f1, r1⟩ := execN_to hx n c ds m h hs hc w0 γ b k cs a w hb hf hr
      exact (hy w0 γ1 b k cs a1 w1 hb ⟨f1.tm.trim kl kt, f1.size, f1.defers⟩ (r1.trim kb)).of_steps g1 s1
/-! ### Rounds of a loop in one piece -/
/-- n rounds, each of which goes on. -/
noncomputable def iterO (n : Nat) : (List Deferred → Tm → Hp → OO) → List Deferred → Tm → Hp → OO :=
  Nat.rec (motive := fun _ => (List Deferred → Tm → Hp → OO) → List Deferred → Tm → Hp → OO) (fun _ ds m h => some (.go ds m h)) (fun _ ih f ds m h => seqO (f ds m h) (ih f)) n
theorem iterO_to (hx : ∀ c, ExecOK P e c) : ∀ (n : Nat) (ds : List Deferred) (m : Tm) (h : Hp), iterO n (exec c P e) ds m h = some (.go ds1 m1 h1) →
    ∀ w0 γ b k cs a w, BaseOK e b cs → FR γ e.n ds m a → HR w0 γ noPend h w →
      ∃ γ' a' w', γ.le γ' ∧ Steps P (lone (b.atR a (.code c :: .inLoop c :: k)) cs w) (lone (b.atR a' (.code c :: .inLoop c :: k)) cs w') ∧ FR γ' e.n ds1 m1 a' ∧ HR w0 γ' noPend h1 w'
  | 0, ds, m, h, he, w0, γ, b, k, cs, a, w, _, hf, hr => by
    have he' : some (Out.go ds m h) = some (.go ds1 m1 h1) := he
    cases he'
    exact ⟨γ, a, w, Gm.le_refl _, Steps.refl _ _, hf, hr⟩
  | n + 1, ds, m, h, he, w0, γ, b, k, cs, a, w, hb, hf, hr => by
    have he' : seqO (exec c P e ds m h) (iterO n (exec c P e)) = some (.go ds1 m1 h1) := he
    rcases seqO_some he' with ⟨ds2, m2, h2, e1, e2⟩ | ⟨_, _, _, _, e2⟩ | ⟨_, _, _, _, _, e2⟩
    · obtain ⟨γ1, a1, w1, g1, s1, f1, r1⟩ := hx c w0 noPend γ ds m h _ e1 b (.inLoop c :: k) cs a w hb hf hr
      obtain ⟨γ2, a2, w2, g2, s2, f2, r2⟩ := iterO_to hx n ds2 m2 h2 e2 w0 γ1 b k cs a1 w1 hb f1 r1
      exact ⟨γ2, a2, w2, Gm.le_trans g1 g2, Steps.trans (Steps.trans s1 (.one stepR_inLoop)) s2, f2, r2⟩
    · cases e2
    · cases e2
theorem LoopTo.iter (hx : ∀ c, ExecOK P e c) (n : Nat) {kl kt : Nat} {kb : List Nat} (he : trimO kl kt kb (iterO n (exec c P e) ds m h) = some (.go ds1 m1 h1)) (hy : LoopTo P e c ds1 m1 h1 o) : LoopTo P e c ds m h o := by
  cases hc : iterO n (exec c P e) ds m h with
  | none => rw [hc] at he; cases he
  | some r =>
    rw [hc] at he
    have hr : r.trim kl kt kb = .go ds1 m1 h1 := Option.some.inj he
    cases r with
    | ret => cases hr
    | exit => cases hr
    | go ds2 m2 h2 =>
      have hr' : Out.go ds2 (m2.trim kl kt) (h2.trim kb) = .go ds1 m1 h1 := hr
      cases hr'
      intro w0 γ b k cs a w hb hf hr
      obtain ⟨γ1, a1, w1, g1, s1, f1, r1⟩ := iterO_to hx n ds m h hc w0 γ b k cs a w hb hf hr
      exact (hy w0 γ1 b k cs a1 w1 hb ⟨f1.tm.trim kl kt, f1.size, f1.defers⟩ (r1.trim kb)).of_steps g1 s1
theorem loopO_to (hx : ∀ c, ExecOK P e c) : ∀ (n : Nat) (ds : List Deferred) (m : Tm) (h : Hp) (o : Out), loopO n (exec c P e) ds m h = some o → LoopTo P e c ds m h o
  | 0, _, _, _, _, he => by cases he
  | n + 1, ds, m, h, o, he => by
    have he' : seqO (exec c P e ds m h) (loopO n (exec c P e)) = some o := he
    rcases seqO_some he' with ⟨ds2, m2, h2, e1, e2⟩ | ⟨ds2, m2, h2, e1, rfl⟩ | ⟨id, ds2, m2, h2, e1, rfl⟩
    · exact LoopTo.next (.of hx e1) (loopO_to hx n ds2 m2 h2 o e2)
    · exact LoopTo.ret (.of hx e1)
    · exact LoopTo.exit (.of hx e1)
/-- The rest of a loop in one piece. -/
theorem LoopTo.rest (hx : ∀ c, ExecOK P e c) {kl kt : Nat} {kb : List Nat} (he : trimO kl kt kb (loopO LOOPS (exec c P e) ds m h) = some o) : LoopTo P e c ds m h o := by
  cases hc : loopO LOOPS (exec c P e) ds m h with
  | none => rw [hc] at he; cases he
  | some r =>
    rw [hc] at he
    have hr : r.trim kl kt kb = o := Option.some.inj he
    subst hr
    intro w0 γ b k cs a w hb hf hr
    exact (loopO_to hx LOOPS ds m h r hc w0 γ b k cs a w hb hf hr).trim kl kt kb

/-- The locals are left out. -/
noncomputable def cleanOO (o : OO) : OO := Option.rec (motive := fun _ => OO) none (fun r => Out.rec (motive := fun _ => OO) (fun ds m h => some (.go ds m.clean h)) (fun ds m h => some (.ret ds m h)) (fun id ds m h => some (.exit id ds m h)) r) o
theorem cleanOO_go {o : OO} {ds : List Deferred} {g : List (Nat × Value)} {k : Nat} {h : Hp} (hc : cleanOO o = some (.go ds ⟨[], g, k⟩ h)) : ∃ l, o = some (.go ds ⟨l, g, k⟩ h) := by
  cases o with
  | none => cases hc
  | some r =>
    cases r with
    | go ds' m h' =>
      obtain ⟨l, g', k'⟩ := m
      have hc' : some (Out.go ds' ⟨[], g', k'⟩ h') = some (.go ds ⟨[], g, k⟩ h) := hc
      cases hc'
      exact ⟨l, rfl⟩
    | ret => cases hc
    | exit => cases hc
end Go.Ae

namespace Go.Ae
variable {P : Program}

/-- From one state, a call comes to an end. -/
def CallsTo (P : Program) (f : FuncId) (args : List Value) (h : Hp) (v : Value) (h' : Hp) : Prop :=
  Enterable P f ∧ ∀ w0 γ w args', VRs γ args args'.toList → HR w0 γ noPend h w → RunsF P .normal f args' w fun v' w' => ∃ γ', γ.le γ' ∧ VR γ' v v' ∧ HR w0 γ' noPend h' w'

/-- The temporaries in which a call begins. -/
noncomputable def tm0 (K : Nat → Nat) (f : Nat) (args : List Value) : Tm := ⟨[], args.zipIdx.map fun x => (x.2, x.1), Nat.lor (K f) (Nat.sub (Nat.pow 4 args.length) 1)⟩
/-- What a function hands back, at its end. -/
noncomputable def backO (P : Program) (fn : Func) (o : Out) : Option (Value × Hp) :=
  match o with
  | .go [] m h => match resultsA P h m fn.results.toList with | some vs => some (tupleOf vs, h) | none => none
  | .ret [] m h => match resultsA P h m fn.results.toList with | some vs => some (tupleOf vs, h) | none => none
  | _ => none
theorem CallsTo.of {K : Nat → Nat} {I : Intr} {f : Nat} {args : List Value} {h h' : Hp} {v : Value} {fn : Func} {body : Code} {n : Nat} {o : Out} (hP : ProgOK P) (hfn : P.funcs[f]? = some fn) (hbody : fn.body = some body) (hn : max fn.ntmps args.length = n)
    (hx : ExecTo P (topE P K I f n) body [] (tm0 K f args) h o) (hb : backO P fn o = some (v, h')) : CallsTo P f args h v h' := by
  refine ⟨⟨fn, hfn, hP f fn hfn, by rw [hbody]; rfl⟩, fun w0 γ w args' ha hr cs hcs => ?_⟩
  subst hn
  have hfr := enter_fr (f := f) (args' := args') (kind := .normal) (γ := γ) (K f) hfn ha
  have hbase : BaseOK (topE P K I f (max fn.ntmps args.length)) (Frame.enter P f args' .normal) cs := ⟨rfl, fun _ => rfl, fun hd => by cases hd⟩
  obtain ⟨γ1, a1, w1, g1, s1, f1, r1⟩ := hx w0 γ (Frame.enter P f args' .normal) [] cs _ w hbase hfr hr
  rw [← enter_at hfn hbody] at s1
  have fin : ∀ m h1, FR γ1 (max fn.ntmps args.length) [] m a1 → HR w0 γ1 noPend h1 w1 → (match resultsA P h1 m fn.results.toList with | some vs => some (tupleOf vs, h1) | none => none) = some (v, h') →
      ∀ todo, Steps P (lone (Frame.enter P f args' .normal) cs w) (lone { (Frame.enter P f args' .normal).atR a1 todo with mode := .returning } cs w1) →
      ∃ v' w' fr, (∃ γ', γ.le γ' ∧ VR γ' v v' ∧ HR w0 γ' noPend h' w') ∧ Steps P (lone (Frame.enter P f args' .normal) cs w) (lone fr cs w') ∧ fr.mode = .returning ∧ fr.defers = [] ∧ fr.kind = .normal ∧
          ∃ fn, P.funcs[fr.fn]? = some fn ∧ (results fn fr.tmps).run P w' = .ok v' w' ∧ fr.fn = f := by
    intro m h1 hf hr1 hq todo st
    split at hq
    case h_2 => cases hq
    rename_i vs hvs
    cases hq
    obtain ⟨v', q1, q2⟩ := results_sim (P := P) hr1 hf.tm hvs
    have hd : a1.defers = [] := by have := hf.defers; generalize a1.defers = l at this; cases this; rfl
    exact ⟨v', w1, _, ⟨γ1, g1, q2, hr1⟩, st, rfl, hd, rfl, fn, hfn, q1, rfl⟩
  cases o with
  | go ds m h1 =>
    cases ds with
    | nil => exact fin m h1 f1 r1 hb [] (Steps.trans s1 (.one (stepR_end rfl)))
    | cons d l => cases hb
  | ret ds m h1 =>
    obtain ⟨k1, s1⟩ := s1
    cases ds with
    | nil => exact fin m h1 f1 r1 hb _ (Steps.trans s1 (.one (stepR_ret rfl)))
    | cons d l => cases hb
  | exit id ds m h1 => cases hb

noncomputable def bodyOf (fn : Func) : Code := match fn.body with | some c => c | none => .skip
theorem CallsTo.of' {K : Nat → Nat} {I : Intr} {f : Nat} {args : List Value} {h h' hh : Hp} {v : Value} {fn : Func} {body : Code} {n : Nat} {o : Out} {m : Tm} {ds : List Deferred} (hP : ProgOK P) (hfn : P.funcs[f]? = some fn) (hbody : fn.body = some body) (hn : max fn.ntmps args.length = n)
    (hds : [] = ds) (hm : tm0 K f args = m) (hhh : h = hh) (hx : ExecTo P (topE P K I f n) body ds m hh o) (hb : backO P fn o = some (v, h')) : CallsTo P f args h v h' := by
  subst hds; subst hm; subst hhh
  exact .of hP hfn hbody hn hx hb

/-! ### A region with a call in it -/
noncomputable def regOps (c : Code) : Option (Array Oper) := match c with | .region _ ops false => some ops | _ => none
/-- The operations ahead of the i-th. -/
noncomputable def preB (i : Nat) (c : Code) (P : Program) (e : Env) (ds : List Deferred) (m : Tm) (h : Hp) : OO :=
  match regOps c with
  | some ops => opsB (ops.toList.take i) ops P e ds m.clean h
  | none => none
noncomputable def wantN (ops : Array Oper) (m : Tm) (o : Oper) : Bool := match o.guard with | none => true | some _ => match wantA ops m o with | some true => true | _ => false
/-- Whom the i-th calls, with what. -/
noncomputable def calleeB (i : Nat) (c : Code) (P : Program) (e : Env) (m : Tm) (h : Hp) : Option (FuncId × List Value) :=
  match regOps c with
  | some ops => match ops.toList[i]? with
    | some o => match wantN ops m o, o.op with
      | true, .call q => match aCallee P h m q with
        | some (.fn f args) => match e.ext f with | none => some (f, args) | some _ => none
        | _ => none
      | _, _ => none
    | none => none
  | none => none
/-- The rest. -/
noncomputable def postB (i : Nat) (c : Code) (P : Program) (e : Env) (ds : List Deferred) (m : Tm) (v : Value) (h : Hp) : OO :=
  match regOps c with
  | some ops => match ops.toList[i]? with
    | some o => match putD e.n m o.dst v with
      | some m' => opsB (ops.toList.drop (i + 1)) ops P e ds m' h
      | none => none
    | none => none
  | none => none

section
variable {w0 : World} {b : Frame} {k : List Item} {cs : List Frame} {ops : Array Oper} {e : Env}
theorem opsB_pre (hcall : CallOK P e.call) (hround : EnvOK P e) (hb : BaseOK e b cs) : ∀ (n : Nat) (l : List Oper) (i : Nat) (γ : Gm) (ds ds1 : List Deferred) (m m1 : Tm) (h h1 : Hp) (a : Act) (w : World), l = ops.toList.drop i → n ≤ l.length → FR γ e.n ds m a → HR w0 γ noPend h w →
    opsB (l.take n) ops P e ds m h = some (.go ds1 m1 h1) → ∃ γ' a' w', γ.le γ' ∧ FR γ' e.n ds1 m1 a' ∧ HR w0 γ' noPend h1 w' ∧
      Steps P (lone (b.atR a (.inRegion ops (List.range' i l.length) :: k)) cs w) (lone (b.atR a' (.inRegion ops (List.range' (i + n) (l.length - n)) :: k)) cs w')
  | 0, l, i, γ, ds, ds1, m, m1, h, h1, a, w, _, _, hf, hr, hq => by
    have hq' : some (Out.go ds m h) = some (.go ds1 m1 h1) := by rw [List.take_zero] at hq; exact hq
    cases hq'
    exact ⟨γ, a, w, Gm.le_refl _, hf, hr, Steps.refl _ _⟩
  | n + 1, [], i, _, _, _, _, _, _, _, _, _, _, hn, _, _, _ => by simp at hn
  | n + 1, o :: l, i, γ, ds, ds1, m, m1, h, h1, a, w, hl, hn, hf, hr, hq => by
    have hq' : operK ops o P e ds m h (opsB (l.take n) ops P e) = some (.go ds1 m1 h1) := hq
    have ho : ops[i]? = some o := by
      have := congrArg (·[0]?) hl
      simp only [List.getElem?_cons_zero, List.getElem?_drop, Nat.add_zero] at this
      rw [← Array.getElem?_toList]; exact this.symm
    have hl' : l = ops.toList.drop (i + 1) := by
      have := congrArg (List.drop 1) hl
      simpa [List.drop_drop] using this
    obtain ⟨ds', m', h', γ', a', w', k1, g, f1, r1, s1⟩ := operK_ok (k := k) (rest := List.range' (i + 1) l.length) hcall hround hb ho hf hr hq'
    obtain ⟨γ2, a2, w2, g2, f2, r2, s2⟩ := opsB_pre hcall hround hb n l (i + 1) γ' ds' ds1 m' m1 h' h1 a' w' hl' (by simpa using hn) f1 r1 k1
    refine ⟨γ2, a2, w2, Gm.le_trans g g2, f2, r2, Steps.trans s1 ?_⟩
    have e1 : i + (n + 1) = i + 1 + n := by omega
    have e2 : (o :: l).length - (n + 1) = l.length - n := by simp
    rw [e1, e2]; exact s2
end

theorem wantN_wanted {ops : Array Oper} {m : Tm} {o : Oper} {γ : Gm} {a : Array Value} (h : wantN ops m o = true) (ht : Tm.R γ m a) : Region.wanted o (yielded ops a) = true := by
  unfold wantN at h
  cases hg : o.guard with
  | none => unfold Region.wanted; rw [hg]
  | some g =>
    rw [hg] at h
    simp only at h
    split at h
    · rename_i hw; exact wantA_sim hw ht
    · cases h

/-- A region's run, the call in its midst by itself. -/
theorem ExecTo.call {e : Env} {c : Code} {ds ds1 : List Deferred} {m m1 : Tm} {h h1 h2 : Hp} {o : Out} {f : FuncId} {args : List Value} {v : Value} (hcall : CallOK P e.call) (hround : EnvOK P e) (i : Nat) {kl kt : Nat} {kb : List Nat} {kl2 kt2 : Nat} {kb2 : List Nat}
    (hpre : trimO kl kt kb (preB i c P e ds m h) = some (.go ds1 m1 h1)) (hcl : calleeB i c P e m1 h1 = some (f, args)) (hto : CallsTo P f args h1 v h2) (hpost : trimO kl2 kt2 kb2 (postB i c P e ds1 m1 v h2) = some o) : ExecTo P e c ds m h o := by
  unfold calleeB at hcl
  cases hreg : regOps c with
  | none => rw [hreg] at hcl; cases hcl
  | some ops =>
    rw [hreg] at hcl
    obtain ⟨id, rfl⟩ : ∃ id, c = .region id ops false := by
      unfold regOps at hreg
      split at hreg
      · cases hreg; exact ⟨_, rfl⟩
      · cases hreg
    simp only at hcl
    cases hoi : ops.toList[i]? with
    | none => rw [hoi] at hcl; cases hcl
    | some oc =>
      rw [hoi] at hcl
      simp only at hcl
      split at hcl
      case h_2 => cases hcl
      rename_i q hwn hop
      split at hcl
      case h_2 => cases hcl
      rename_i f2 args2 hca
      split at hcl
      case h_2 => cases hcl
      rename_i hext
      cases hcl
      have hil : i < ops.toList.length := (List.getElem?_eq_some_iff.1 hoi).1
      have hpre' : trimO kl kt kb (opsB (ops.toList.take i) ops P e ds m.clean h) = some (.go ds1 m1 h1) := hpre
      cases hB : opsB (ops.toList.take i) ops P e ds m.clean h with
      | none => rw [hB] at hpre'; cases hpre'
      | some r =>
        rw [hB] at hpre'
        have hrr : r.trim kl kt kb = .go ds1 m1 h1 := Option.some.inj hpre'
        cases r with
        | ret => cases hrr
        | exit => cases hrr
        | go dsa ma ha =>
          have hrr' : Out.go dsa (ma.trim kl kt) (ha.trim kb) = .go ds1 m1 h1 := hrr
          cases hrr'
          intro w0 γ b k cs a w hb hf hr
          obtain ⟨γ1, a1, w1, g1, f1, r1, s1⟩ := opsB_pre (k := k) hcall hround hb i ops.toList 0 γ ds ds1 m.clean ma h ha a w rfl (by omega) ⟨hf.tm.clean, hf.size, hf.defers⟩ hr hB
          have F1 : FR γ1 e.n ds1 (ma.trim kl kt) a1 := ⟨f1.tm.trim kl kt, f1.size, f1.defers⟩
          have R1 := r1.trim kb
          have hoa : ops[i]? = some oc := by rw [← Array.getElem?_toList]; exact hoi
          have hd : ∀ c, oc.op ≠ .defer c := by intro c e; rw [hop] at e; cases e
          obtain ⟨args', e1, e2⟩ := aCallee_sim (P := P) R1 F1.tm hop hca
          obtain ⟨hent, hrf⟩ := hto
          have hlen : List.range' (0 + i) (ops.toList.length - i) = i :: List.range' (i + 1) (ops.toList.length - (i + 1)) := by
            rw [Nat.zero_add, show ops.toList.length - i = (ops.toList.length - (i + 1)) + 1 by omega, List.range'_succ]
          rw [hlen] at s1
          obtain ⟨v', w2, fr, ⟨γ2, g2, q1, q2⟩, st, q3, q4, q5, fn, q6, q7, _⟩ := hrf w0 γ1 w1 ⟨args'⟩ e2 R1 (b.atR a1 (.inRegion ops (i :: List.range' (i + 1) (ops.toList.length - (i + 1))) :: k) :: cs) (fun h => by cases h)
          have sa := stepR_enter (P := P) (b := b) (k := k) (cs := cs) (rest := List.range' (i + 1) (ops.toList.length - (i + 1))) hoa (wantN_wanted hwn F1.tm) (by rw [Oper.semAt_eq _ _ _ hd, e1]; exact run_callFunc hent)
          have sb := step_back (P := P) (c := b.atR a1 (.inRegion ops (i :: List.range' (i + 1) (ops.toList.length - (i + 1))) :: k)) (cs := cs) q3 q4 q5 q6 q7
          have hbind : (ops[i]?).bind (·.dst) = oc.dst := by rw [hoa]; rfl
          rw [Frame.finish_atR, hbind] at sb
          have hpost' : trimO kl2 kt2 kb2 (match putD e.n (ma.trim kl kt) oc.dst v with | some m' => opsB (ops.toList.drop (i + 1)) ops P e ds1 m' h2 | none => none) = some o := by
            have hp := hpost
            unfold postB at hp
            rw [hreg] at hp
            simp only [hoi] at hp
            exact hp
          cases hput : putD e.n (ma.trim kl kt) oc.dst v with
          | none => rw [hput] at hpost'; cases hpost'
          | some m' =>
            rw [hput] at hpost'
            simp only at hpost'
            cases hB2 : opsB (ops.toList.drop (i + 1)) ops P e ds1 m' h2 with
            | none => rw [hB2] at hpost'; cases hpost'
            | some r2 =>
              rw [hB2] at hpost'
              have hr2 : r2.trim kl2 kt2 kb2 = o := Option.some.inj hpost'
              subst hr2
              have hm : (oc.dst = none ∧ m' = ma.trim kl kt) ∨ ∃ d, oc.dst = some d ∧ d < e.n ∧ m' = (ma.trim kl kt).put d v := by
                unfold putD at hput
                split at hput
                · rename_i hdn; cases hput; exact .inl ⟨hdn, rfl⟩
                · rename_i d hdn
                  rw [ifB_lt] at hput
                  split at hput
                  · rename_i hlt; cases hput; exact .inr ⟨d, hdn, hlt, rfl⟩
                  · cases hput
              have F2 : FR γ2 e.n ds1 m' (a1.put oc.dst v') := FR.put (F1.tm.mono g2) F1.size (F1.defers.mono g2) q1 hm
              have hl2 : (ops.toList.drop (i + 1)).length = ops.toList.length - (i + 1) := by simp
              have := opsB_ok (k := k) hcall hround hb (ops.toList.drop (i + 1)) (i + 1) γ2 ds1 m' h2 (a1.put oc.dst v') w2 rfl F2 q2 hB2
              rw [hl2] at this
              refine ((this.trim kl2 kt2 kb2).of_steps (Gm.le_trans g1 g2) (.head ?_ (Steps.trans s1 (.head sa (Steps.trans st (.one sb))))))
              rw [stepR_region, List.range_eq_range', Array.length_toList]
end Go.Ae

namespace Go.Ae
variable {P : Program}

theorem run_ext {f : FuncId} {fn : Func} {e : Array Value → Sem Value} {args : Array Value} {w w' : World} {v : Value} (h1 : P.funcs[f]? = some fn) (h2 : (fn.name == "runtime.NumGoroutine") = false) (h3 : fn.body.isNone = true)
    (h4 : Extern.findNext fn = none) (h5 : Extern.find fn = some e) (hr : (e args).run P w = .ok v w') : (callFunc f args).run P w = .ok (.value v) w' := by
  simp only [callFunc, bind, Sem.run_bind', program, Sem.run, Result.andThen_ok, h1, h2, h3, h4, h5, Bool.false_eq_true, if_false, if_true, mark]
  simp only [Result.andThen_ok, hr]
  rfl

/-- Two strings held against each other. -/
noncomputable def xCmp (h : Hp) (args : List Value) : OVH :=
  match args with
  | [.string a, .string b] => some (.int .i64 (Extern.BytealgCompare.cmp a b), h)
  | _ => none
theorem xCmp_ok {f : FuncId} {fn : Func} (h1 : P.funcs[f]? = some fn) (h2 : (fn.name == "runtime.NumGoroutine") = false) (h3 : fn.body.isNone = true)
    (h4 : Extern.findNext fn = none) (h5 : Extern.find fn = some Extern.BytealgCompare.compare) {args : List Value} {h h' : Hp} {v : Value} (hq : xCmp h args = some (v, h'))
    (w0 : World) (pend : Nat → Option AObj) (γ : Gm) (w : World) (args' : List Value) (ha : VRs γ args args') (hr : HR w0 γ pend h w) :
    ∃ γ' v' w', γ.le γ' ∧ VR γ' v v' ∧ HR w0 γ' pend h' w' ∧ (callFunc f ⟨args'⟩).run P w = .ok (.value v') w' := by
  unfold xCmp at hq
  split at hq
  · rename_i a b
    cases hq
    cases ha with
    | cons ha1 ha =>
      cases ha with
      | cons ha2 ha =>
        cases ha
        cases ha1
        cases ha2
        exact ⟨γ, _, w, Gm.le_refl _, .int _ _, hr, run_ext h1 h2 h3 h4 h5 rfl⟩
  · cases hq

/-- A row of bytes of which nothing is known. -/
noncomputable def xMake (h : Hp) (args : List Value) : OVH :=
  match args with
  | [.int .i64 (.ofNat n)] => ifB (Nat.blt n 1099511627776) (some (.slice (some ⟨h.next, 0, none⟩) n (BIG + 1), h.add (.row (.vals n .nil)))) none
  | _ => none
theorem digits_size : ∀ (n t : Nat) (acc : Array Value), (Extern.BytealgMakeNoZero.digits n t acc).size = acc.size + n
  | 0, _, _ => rfl
  | n + 1, t, acc => by rw [Extern.BytealgMakeNoZero.digits, digits_size n]; simp; omega
theorem vals_nil (n i : Nat) (u : Value) : (Row.vals n .nil).get i ≠ some u := by
  intro hu
  rw [Row.get_vals] at hu
  split at hu <;> cases hu
theorem xMake_ok {f : FuncId} {fn : Func} {t e : TypeId} (h1 : P.funcs[f]? = some fn) (h2 : (fn.name == "runtime.NumGoroutine") = false) (h3 : fn.body.isNone = true)
    (h4 : Extern.findNext fn = none) (h5 : Extern.find fn = some (Extern.BytealgMakeNoZero.makeNoZero fn.params fn.resultTypes)) (h6 : fn.resultTypes[0]? = some t) (h7 : P.underlying t = some (.slice e))
    {args : List Value} {h h' : Hp} {v : Value} (hq : xMake h args = some (v, h'))
    (w0 : World) (pend : Nat → Option AObj) (γ : Gm) (w : World) (args' : List Value) (ha : VRs γ args args') (hr : HR w0 γ pend h w) :
    ∃ γ' v' w', γ.le γ' ∧ VR γ' v v' ∧ HR w0 γ' pend h' w' ∧ (callFunc f ⟨args'⟩).run P w = .ok (.value v') w' := by
  unfold xMake at hq
  split at hq
  case h_2 => cases hq
  rename_i n
  rw [ifB_lt] at hq
  split at hq
  case isFalse => cases hq
  rename_i hn
  cases hq
  cases ha with
  | cons ha1 ha =>
    cases ha
    cases ha1
    have hq1 : (choose (.appendCap n 0 e)).run P w = .ok (n + w.tape w.drawn (.appendCap n 0 e) % (2 ^ 63 - n)) { w with drawn := w.drawn + 1 } := by
      rw [run_choose]; rfl
    have hle : n ≤ n + w.tape w.drawn (.appendCap n 0 e) % (2 ^ 63 - n) := Nat.le_add_right _ _
    generalize n + w.tape w.drawn (.appendCap n 0 e) % (2 ^ 63 - n) = cap at hq1 hle
    have hq2 : ∃ bytes, (choose (.extern "internal/bytealg.MakeNoZero.bytes" 0)).run P { w with drawn := w.drawn + 1 } = .ok bytes { w with drawn := w.drawn + 2 } := by
      rw [run_choose]
      exact ⟨_, rfl⟩
    obtain ⟨bytes, hq2⟩ := hq2
    have hN : γ h.next = none := hr.fresh_none (Nat.le_refl _)
    have hrd := hr.drew (w.drawn + 2)
    have hal := hrd.alloc (o := .row (.vals n .nil)) (p := ⟨w.heap.size, 0, cap⟩) (ob := .cells (Extern.BytealgMakeNoZero.digits cap bytes #[]) e) (w' := more { w with drawn := w.drawn + 2 } (.cells (Extern.BytealgMakeNoZero.digits cap bytes #[]) e)) rfl ⟨rfl, rfl, rfl, rfl⟩
      (.row ⟨by rw [digits_size]; simp, by show n + 0 ≤ cap; omega, fun i u hu => absurd hu (vals_nil n i u), .inl rfl⟩)
    refine ⟨_, .slice (some ⟨w.heap.size, 0 + 0, none⟩) n cap, _, Gm.le_upd _ hN, .sliceU (p := ⟨w.heap.size, 0, cap⟩) (Gm.upd_same _ _ _) (by decide) hle (by show 0 + 0 + cap * 1 ≤ cap; omega), hal, ?_⟩
    refine run_ext h1 h2 h3 h4 h5 ?_
    have c1 : ¬ (((n : Int) < 0) ∨ ((n : Int) > 2 ^ 48)) := by
      have e2 : (2 : Int) ^ 48 = 281474976710656 := by decide
      rw [e2]; omega
    show (do
      let some t := fn.resultTypes[0]? | stuck "bytealg.MakeNoZero: no result type"
      let .slice elem ← underlying t | stuck "bytealg.MakeNoZero: slice type expected"
      if (n : Int) < 0 || (n : Int) > 2 ^ 48 then runtimePanic (.error "makeslice: len out of range")
      let cap ← choose (.appendCap ((n : Int)).toNat 0 elem)
      askRoom cap
      let bytes ← choose (.extern "internal/bytealg.MakeNoZero.bytes" 0)
      let a ← newRow elem (Extern.BytealgMakeNoZero.digits cap bytes #[])
      pure (.slice (some a) ((n : Int)).toNat cap) : Sem Value).run P w = _
    have c2 : (decide ((n : Int) < 0) || decide ((n : Int) > 2 ^ 48)) = false := by
      rw [Bool.or_eq_false_iff, decide_eq_false_iff_not, decide_eq_false_iff_not]
      exact ⟨fun x => c1 (.inl x), fun x => c1 (.inr x)⟩
    simp only [h6, bind, Sem.run_bind', r_under h7, Result.andThen_ok, c2, Bool.false_eq_true, if_false, Sem.run_pure, Int.toNat_natCast, hq1, run_askRoom, hq2, newRow, run_newObj]
end Go.Ae
