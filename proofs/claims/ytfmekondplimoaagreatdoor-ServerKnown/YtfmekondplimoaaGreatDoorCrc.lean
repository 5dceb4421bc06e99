/- The sum of bytes (crc.More): what the evaluator takes it for is what it comes to. Conditions: none. -/
import Derived.Test.YtfmekondplimoaaGreatDoorAeThree
import Derived.Test.YtfmekondplimoaaGreatDoorProg
namespace Go.Ae
def maskL : List Nat := [0, 0, 0, 19239260838083241802870625048898248928261591440656956380834127652310746479049724362238706897398565952056428418390, 104970, 22, 2435114, 6730, 88737194, 34, 25962, 98, 88586, 522, 34, 162, 162129586585490790, 11182563831435322589814826, 586, 586, 4835703278458516699158090, 23746122, 6730, 586, 5706, 586, 93323946, 2466314, 1546, 22954, 5873706, 1562, 522, 522, 618, 34, 606338, 267769206361293701917007902832590799454856013712769321455087191389713985018378, 34, 2, 354, 34, 34, 2570, 34, 154146, 42, 42, 682, 1463466, 34, 1546, 418, 364586, 522, 6701226, 23766058, 4294969866, 1546, 88330, 1074897962, 34, 418, 23085738, 1542, 98, 620767754, 82, 10, 6410, 8234, 8796093024930, 5522, 34, 2863046698, 34, 34, 350730, 38, 23050, 38833645834, 522, 34, 170632382681815538186, 17932330, 2666130979403475466, 418, 522, 34, 2, 2, 2570, 34, 10, 34, 158914488746, 33378, 172074, 352298, 362, 39582418608806, 2483038306, 162, 34, 34, 1442, 86018, 3628949440770424816592565760291932146809174241333007175690, 348194, 348194, 4096, 631386, 131242, 38, 22, 65638, 76362, 1546, 42658095670453346982, 1546, 1610, 34, 34, 98, 150090, 1546, 4609450, 22151338, 354768554, 34, 34, 678, 18, 350474, 522, 416010, 9476634, 600602, 34, 522, 354, 6666, 21906, 2542620781066, 34, 5642, 698910239464707491627170, 602, 98, 172074, 38, 155191458, 1546, 34, 10664523917624366602, 154, 266, 602, 522, 1442, 22162, 1354, 1430, 6410, 2459914, 41002, 166, 39746963994, 419474, 22162, 38, 38, 38, 38, 38, 10, 38250, 611754, 602, 9578, 614922, 34, 43530, 154, 146, 34, 162, 2793514, 522, 682529530727264458250, 2730, 2474, 1446058, 23050, 153002, 91818, 522, 153002, 43362986, 5642, 1378, 34, 5869610, 60883668620884623559733859754622014319782835244700908825250272658, 38, 34, 98, 10, 630826, 98, 34, 38832650, 522, 522, 2706, 522, 522, 10762, 10762, 154618825122, 522, 2602, 34, 18, 37778931862957793215146, 2932030309034, 34, 522, 715684085211901196952576042, 90611754, 166, 2, 162, 157417642, 150026, 154, 1410650, 5642, 23050, 83466, 2666130980035004938, 42, 522, 4618, 6666, 87562, 682, 34, 23114, 105130, 39242, 522, 1386, 5642, 522, 5546, 22090, 5595434, 1411625, 192114983804474248483446755434693290, 34, 362414246, 150026, 604023458, 24682, 26282, 39178, 75945, 5802, 10410, 34, 34, 34, 1140114, 1442, 162, 522, 153762, 598538, 6562, 8234, 522, 183251894442, 10, 655530, 43319466, 43319338, 1298074214633706907132624792846506, 655402, 44695722, 44040874, 178258602, 34, 34, 0, 352298, 34, 162727723180074, 150, 150, 615830, 10880332376531663646131878, 522, 34, 522, 1546, 1546, 22090, 618, 8234, 618475293218, 8234, 38, 522, 154, 154, 4585771050, 6666, 1442, 22906470570, 522, 34, 522, 34, 22369698, 34, 34, 41002, 2707498, 2707498, 316912650057057350374220210218, 41002, 2793514, 522, 2752682, 11141290, 2656331146614185263274, 10486442, 34, 34, 131242, 33557098, 1442, 150026, 34, 98, 154, 522, 34, 5730, 162, 290, 34, 34, 715684085211860471566958762, 2415919650, 426, 354, 11452940458, 1066, 346, 522, 90552247562, 2, 8234, 522, 674, 426, 350794, 682, 87466, 5657866, 150026, 655530, 8234, 2097770, 34, 10486442, 34, 522, 39582418635430, 201447161217195570370317767599612319131146, 1664042, 1306, 2082, 24617, 520, 1370, 87466, 1370, 522, 41658296553177766, 33450, 352297, 8234, 5462, 655530, 522, 40681930238630, 34, 514, 2090, 33450, 522, 0, 10, 2082, 2082, 522, 10, 150026, 162, 0, 0, 0, 0, 0, 0, 0, 0, 0, 0, 0, 0, 0, 0, 0, 0, 0, 0, 0, 34, 8234, 42, 34, 8234, 42, 98, 10, 0, 354, 266, 0, 34, 8234, 42, 354, 10, 0, 0, 0, 0, 0, 0]
noncomputable def tK (f : Nat) : Nat := maskL.getD f 0
noncomputable def tP : Program := Proofs.Tryz.prog
noncomputable abbrev I0 : Intr := ⟨fun _ => none, fun _ => none⟩
noncomputable def b275 : Code := match (Proofs.Tryz.f275).body with | some c => c | none => .skip
noncomputable def b211 : Code := match (Proofs.Tryz.f211).body with | some c => c | none => .skip
noncomputable def vN (v : Option Value) : Int := match v with | some (.int _ n) => n | _ => 0
noncomputable def bitE (n : Int) : Int := vN (aInt2 .xor .u32 (vN (aInt2 .shr .u32 n .i64 1)) .u32 (vN (aInt2 .and .u32 2197175160 .u32 (wrapK .u32 (Int.sub 0 (vN (aInt2 .and .u32 n .u32 1)))))))
noncomputable def byteE (n : Int) : Int := bitE (bitE (bitE (bitE (bitE (bitE (bitE (bitE n)))))))
noncomputable def xorE (a b : Int) : Int := vN (aInt2 .xor .u32 a .u32 b)
noncomputable def notE (a : Int) : Int := vN (aUn .xor (.int .u32 a))

theorem behind_call (call : Bool → FuncId → List Value → Hp → OVH) (round : Nat → List Value → Hp → OVH) (h : Hp) (n : Int) :
    callF tP tK I0 call round false 275 [.int .u32 n] h = some (.int .u32 (byteE n), h) := by kernel_rfl

noncomputable abbrev cE (call : Bool → FuncId → List Value → Hp → OVH) (round : Nat → List Value → Hp → OVH) : Env := ⟨211, 24, false, false, call, round, fun _ => none⟩
noncomputable abbrev M211 : Nat := Nat.lor (tK 211) 15
noncomputable abbrev L211 : Code := lb (bb (sr (sl (sr (sr b211)))))
abbrev Calls2T := Bool → FuncId → List Value → Hp → OVH
abbrev RoundT := Nat → List Value → Hp → OVH
section
variable (call : Calls2T) (round : RoundT) (ds : List Deferred) (h : Hp) (l : List (Nat × Value)) (s x : Int) (k len B off cap : Nat) (w v p : Value)
/-- The loop's state: first, and later. -/
abbrev G0 (x s : Int) (sl : Value) (len : Nat) : List (Nat × Value) := [(12, .int .i64 (.ofNat 0)), (11, .int .i64 (.ofNat len)), (10, sl), (5, .int .u32 x), (4, .int .u32 0), (0, .int .u32 s), (1, sl)]
abbrev G1 (k : Int) (x : Int) (w : Value) (s : Int) (sl : Value) (len : Nat) : List (Nat × Value) := [(12, .int .i64 k), (5, .int .u32 x), (7, w), (11, .int .i64 (.ofNat len)), (10, sl), (4, .int .u32 0), (0, .int .u32 s), (1, sl)]
abbrev sV (B off len cap : Nat) : Value := .slice (some ⟨B, off, none⟩) len cap

theorem pre_ok : exec (sl b211) tP (cE call round) ds ⟨[], [(0, .int .u32 s), (1, sV B off len cap)], M211⟩ h =
    some (.go ds ⟨[(4, .int .u32 0)], [(4, .int .u32 0), (0, .int .u32 s), (1, sV B off len cap)], M211⟩ h) := by kernel_rfl
theorem pre2_ok : cleanOO (exec (sl (sr b211)) tP (cE call round) ds ⟨l, [(4, .int .u32 0), (0, .int .u32 s), (1, sV B off len cap)], M211⟩ h) =
    some (.go ds ⟨[], [(5, .int .u32 (notE s)), (4, .int .u32 0), (0, .int .u32 s), (1, sV B off len cap)], M211⟩ h) := by kernel_rfl
theorem pre3_ok : cleanOO (exec (sl (sl (sr (sr b211)))) tP (cE call round) ds ⟨l, [(5, .int .u32 x), (4, .int .u32 0), (0, .int .u32 s), (1, sV B off len cap)], M211⟩ h) =
    some (.go ds ⟨[], G0 x s (sV B off len cap) len, M211⟩ h) := by kernel_rfl
theorem post_ok (g : List (Nat × Value)) : exec (sl (sr (sr (sr b211)))) tP (cE call round) ds ⟨l, (12, v) :: (5, .int .u32 x) :: g, M211⟩ h =
    some (.go ds ⟨[(4, .int .u32 (notE x)), (23, .int .u32 (notE x)), (22, .int .u32 x)], (4, .int .u32 (notE x)) :: strike ((12, v) :: (5, .int .u32 x) :: g) 4, M211⟩ h) := by kernel_rfl
theorem post0_ok : exec (sl (sr (sr (sr b211)))) tP (cE call round) ds ⟨l, G0 x s w len, M211⟩ h =
    some (.go ds ⟨[(4, .int .u32 (notE x)), (23, .int .u32 (notE x)), (22, .int .u32 x)], (4, .int .u32 (notE x)) :: strike (G0 x s w len) 4, M211⟩ h) := by kernel_rfl

theorem cond0 : exec (sl L211) tP (cE call round) ds ⟨l, G0 x s (sV B off len cap) len, M211⟩ h = some (.go ds ⟨[(13, .bool (iLt (.ofNat 0) (.ofNat len)))], G0 x s (sV B off len cap) len, M211⟩ h) := by kernel_rfl
theorem load0 : exec (sl (bb (sl (sr (sr L211))))) tP (cE call round) ds ⟨l, G0 x s (sV B off len cap) len, M211⟩ h =
    Option.rec (motive := fun _ => OO) none (fun p => Option.rec (motive := fun _ => OO) none (fun v => some (.go ds ⟨[(7, v), (15, v), (14, p)], (7, v) :: strike (G0 x s (sV B off len cap) len) 7, M211⟩ h)) (loadF tP h 5 p)) (aIndexAddr tP 29 (sV B off len cap) (.int .i64 (.ofNat 0))) := by kernel_rfl
theorem mix0 (hcall : ∀ n h, call false 275 [.int .u32 n] h = some (.int .u32 (byteE n), h)) (b : Int) : cleanOO (exec (sr (bb (sl (sr (sr L211))))) tP (cE call round) ds ⟨l, (7, .int .u8 b) :: strike (G0 x s (sV B off len cap) len) 7, M211⟩ h) =
    some (.go ds ⟨[], (5, .int .u32 (byteE (xorE x (wrapF b .u32)))) :: strike ((7, .int .u8 b) :: strike (G0 x s (sV B off len cap) len) 7) 5, M211⟩ h) := by
  have e : cleanOO (exec (sr (bb (sl (sr (sr L211))))) tP (cE call round) ds ⟨l, (7, .int .u8 b) :: strike (G0 x s (sV B off len cap) len) 7, M211⟩ h) =
    cleanOO (callR (fun ds h v => some (.go ds ⟨[(5, v), (20, v), (19, .int .u32 (xorE x (wrapF b .u32))), (18, .int .u32 (wrapF b .u32)), (17, .int .u8 b), (16, .int .u32 x)], (5, v) :: strike ((7, .int .u8 b) :: strike (G0 x s (sV B off len cap) len) 7) 5, M211⟩ h)) ds (call false 275 [.int .u32 (xorE x (wrapF b .u32))] h)) := by kernel_rfl
  rw [e, hcall]; rfl
theorem step0 (y : Int) (b : Value) : exec (sr (sr (sr L211))) tP (cE call round) ds ⟨l, (5, .int .u32 y) :: strike ((7, b) :: strike (G0 x s (sV B off len cap) len) 7) 5, M211⟩ h =
    some (.go ds ⟨[(12, .int .i64 (wrapF (Int.add (.ofNat 0) 1) .i64)), (21, .int .i64 (wrapF (Int.add (.ofNat 0) 1) .i64))], G1 (wrapF (Int.add (.ofNat 0) 1) .i64) y b s (sV B off len cap) len, M211⟩ h) := by kernel_rfl

theorem cond1 : exec (sl L211) tP (cE call round) ds ⟨l, G1 (.ofNat k) x w s (sV B off len cap) len, M211⟩ h = some (.go ds ⟨[(13, .bool (iLt (.ofNat k) (.ofNat len)))], G1 (.ofNat k) x w s (sV B off len cap) len, M211⟩ h) := by kernel_rfl
theorem load1 : exec (sl (bb (sl (sr (sr L211))))) tP (cE call round) ds ⟨l, G1 (.ofNat k) x w s (sV B off len cap) len, M211⟩ h =
    Option.rec (motive := fun _ => OO) none (fun p => Option.rec (motive := fun _ => OO) none (fun v => some (.go ds ⟨[(7, v), (15, v), (14, p)], (7, v) :: strike (G1 (.ofNat k) x w s (sV B off len cap) len) 7, M211⟩ h)) (loadF tP h 5 p)) (aIndexAddr tP 29 (sV B off len cap) (.int .i64 (.ofNat k))) := by kernel_rfl
theorem mix1 (hcall : ∀ n h, call false 275 [.int .u32 n] h = some (.int .u32 (byteE n), h)) (b : Int) : cleanOO (exec (sr (bb (sl (sr (sr L211))))) tP (cE call round) ds ⟨l, (7, .int .u8 b) :: strike (G1 (.ofNat k) x w s (sV B off len cap) len) 7, M211⟩ h) =
    some (.go ds ⟨[], (5, .int .u32 (byteE (xorE x (wrapF b .u32)))) :: strike ((7, .int .u8 b) :: strike (G1 (.ofNat k) x w s (sV B off len cap) len) 7) 5, M211⟩ h) := by
  have e : cleanOO (exec (sr (bb (sl (sr (sr L211))))) tP (cE call round) ds ⟨l, (7, .int .u8 b) :: strike (G1 (.ofNat k) x w s (sV B off len cap) len) 7, M211⟩ h) =
    cleanOO (callR (fun ds h v => some (.go ds ⟨[(5, v), (20, v), (19, .int .u32 (xorE x (wrapF b .u32))), (18, .int .u32 (wrapF b .u32)), (17, .int .u8 b), (16, .int .u32 x)], (5, v) :: strike ((7, .int .u8 b) :: strike (G1 (.ofNat k) x w s (sV B off len cap) len) 7) 5, M211⟩ h)) ds (call false 275 [.int .u32 (xorE x (wrapF b .u32))] h)) := by kernel_rfl
  rw [e, hcall]; rfl
theorem step1 (y : Int) (b : Value) : exec (sr (sr (sr L211))) tP (cE call round) ds ⟨l, (5, .int .u32 y) :: strike ((7, b) :: strike (G1 (.ofNat k) x w s (sV B off len cap) len) 7) 5, M211⟩ h =
    some (.go ds ⟨[(12, .int .i64 (wrapF (Int.add (.ofNat k) 1) .i64)), (21, .int .i64 (wrapF (Int.add (.ofNat k) 1) .i64))], G1 (wrapF (Int.add (.ofNat k) 1) .i64) y b s (sV B off len cap) len, M211⟩ h) := by kernel_rfl

end

/-! ### Putting it together -/
variable {P : Program} {e : Env} {c : Code} {ds : List Deferred} {m : Tm} {h : Hp}
theorem ex_seq (hc : isK c 0 = true) : exec c P e ds m h = seqO (exec (sl c) P e ds m h) (exec (sr c) P e) := by
  cases c <;> first | (cases hc; done) | rfl
theorem ex_cond (hc : isK c 1 = true) : exec c P e ds m h = condO (ev m (cq c)) (exec (ct c) P e ds m h) (exec (ce c) P e ds m h) := by
  cases c <;> first | (cases hc; done) | rfl
theorem ex_block (hc : isK c 2 = true) : exec c P e ds m h = blockO (bi c) (exec (bb c) P e ds m h) := by
  cases c <;> first | (cases hc; done) | rfl
theorem ex_loop (hc : isK c 3 = true) : exec c P e ds m h = loopO LOOPS (exec (lb c) P e) ds m h := by
  cases c <;> first | (cases hc; done) | rfl
theorem seqO_go (m : Tm) (h : Hp) (f : List Deferred → Tm → Hp → OO) : seqO (some (.go ds m h)) f = f ds m h := rfl
theorem condO_bool (t : Bool) (a b : OO) : condO (some (.bool t)) a b = if t = true then a else b := by cases t <;> rfl
theorem loopO_succ (n : Nat) (f : List Deferred → Tm → Hp → OO) : loopO (n + 1) f ds m h = seqO (f ds m h) (loopO n f) := rfl

section
variable (call : Calls2T) (round : RoundT) (ds : List Deferred) (h : Hp) (l : List (Nat × Value)) (s x : Int) (k len B off cap : Nat) (w : Value) (b : Nat)

theorem iter0 (hcall : ∀ n h, call false 275 [.int .u32 n] h = some (.int .u32 (byteE n), h)) (hk : 0 < len) (_hlen : len < 9223372036854775807) (hld : loadF tP h 5 (.pointer (some ⟨B, off + 0, none⟩)) = some (byteV b)) :
    ∃ l', exec L211 tP (cE call round) ds ⟨l, G0 x s (sV B off len cap) len, M211⟩ h = some (.go ds ⟨l', G1 (.ofNat (0 + 1)) (byteE (xorE x (wrapF (.ofNat b) .u32))) (byteV b) s (sV B off len cap) len, M211⟩ h) := by
  have hw : wrapF (Int.add (.ofNat 0) 1) .i64 = .ofNat (0 + 1) := by
    rw [wrapF_eq]
    show wrapK .i64 (.ofNat (0 + 1)) = _
    unfold wrapK
    simp only [ifB_lt]
    rw [if_pos (by omega)]
  have hidx : aIndexAddr tP 29 (sV B off len cap) (.int .i64 (.ofNat 0)) = some (.pointer (some ⟨B, off + 0, none⟩)) := by
    have e : aIndexAddr tP 29 (sV B off len cap) (.int .i64 (.ofNat 0)) = ifB (Nat.blt 0 len) (some (.pointer (some ⟨B, Nat.add off (Nat.mul 0 1), none⟩))) none := by kernel_rfl
    rw [e, ifB_lt, if_pos hk]
    all_goals simp
  rw [ex_seq (c := L211) (by kernel_rfl), cond0, seqO_go, ex_seq (c := sr L211) (by kernel_rfl), ex_cond (c := sl (sr L211)) (by kernel_rfl)]
  have hcq : ev ⟨[(13, .bool (iLt (.ofNat 0) (.ofNat len)))], G0 x s (sV B off len cap) len, M211⟩ (cq (sl (sr L211))) = some (.bool (iLt (.ofNat 0) (.ofNat len))) := by kernel_rfl
  have hlt : iLt (.ofNat 0) (.ofNat len) = true := by
    show Nat.blt 0 len = true
    rw [blt_iff]; exact hk
  rw [hcq, hlt, condO_bool, if_pos rfl]
  have hskip : exec (ct (sl (sr L211))) tP (cE call round) ds ⟨[(13, .bool true)], G0 x s (sV B off len cap) len, M211⟩ h = some (.go ds ⟨[(13, .bool true)], G0 x s (sV B off len cap) len, M211⟩ h) := by kernel_rfl
  rw [hskip, seqO_go, ex_seq (c := sr (sr L211)) (by kernel_rfl), ex_block (c := sl (sr (sr L211))) (by kernel_rfl), ex_seq (c := bb (sl (sr (sr L211)))) (by kernel_rfl), load0, hidx]
  dsimp only
  rw [hld]
  dsimp only
  rw [seqO_go]
  obtain ⟨l2, h2⟩ := cleanOO_go (mix0 call round ds h [(7, byteV b), (15, byteV b), (14, .pointer (some ⟨B, off + 0, none⟩))] s x len B off cap hcall (.ofNat b))
  rw [h2]
  show ∃ l', seqO (some (.go ds ⟨l2, _, _⟩ h)) _ = _
  rw [seqO_go, step0, hw]
  exact ⟨_, rfl⟩

theorem iter1 (hcall : ∀ n h, call false 275 [.int .u32 n] h = some (.int .u32 (byteE n), h)) (hk : k < len) (hlen : len < 9223372036854775807) (hld : loadF tP h 5 (.pointer (some ⟨B, off + k, none⟩)) = some (byteV b)) :
    ∃ l', exec L211 tP (cE call round) ds ⟨l, G1 (.ofNat k) x w s (sV B off len cap) len, M211⟩ h = some (.go ds ⟨l', G1 (.ofNat (k + 1)) (byteE (xorE x (wrapF (.ofNat b) .u32))) (byteV b) s (sV B off len cap) len, M211⟩ h) := by
  have hw : wrapF (Int.add (.ofNat k) 1) .i64 = .ofNat (k + 1) := by
    rw [wrapF_eq]
    show wrapK .i64 (.ofNat (k + 1)) = _
    unfold wrapK
    simp only [ifB_lt]
    rw [if_pos (by omega)]
  have hidx : aIndexAddr tP 29 (sV B off len cap) (.int .i64 (.ofNat k)) = some (.pointer (some ⟨B, off + k, none⟩)) := by
    have e : aIndexAddr tP 29 (sV B off len cap) (.int .i64 (.ofNat k)) = ifB (Nat.blt k len) (some (.pointer (some ⟨B, Nat.add off (Nat.mul k 1), none⟩))) none := by kernel_rfl
    rw [e, ifB_lt, if_pos hk]
    all_goals simp
  rw [ex_seq (c := L211) (by kernel_rfl), cond1, seqO_go, ex_seq (c := sr L211) (by kernel_rfl), ex_cond (c := sl (sr L211)) (by kernel_rfl)]
  have hcq : ev ⟨[(13, .bool (iLt (.ofNat k) (.ofNat len)))], G1 (.ofNat k) x w s (sV B off len cap) len, M211⟩ (cq (sl (sr L211))) = some (.bool (iLt (.ofNat k) (.ofNat len))) := by kernel_rfl
  have hlt : iLt (.ofNat k) (.ofNat len) = true := by
    show Nat.blt k len = true
    rw [blt_iff]; exact hk
  rw [hcq, hlt, condO_bool, if_pos rfl]
  have hskip : exec (ct (sl (sr L211))) tP (cE call round) ds ⟨[(13, .bool true)], G1 (.ofNat k) x w s (sV B off len cap) len, M211⟩ h = some (.go ds ⟨[(13, .bool true)], G1 (.ofNat k) x w s (sV B off len cap) len, M211⟩ h) := by kernel_rfl
  rw [hskip, seqO_go, ex_seq (c := sr (sr L211)) (by kernel_rfl), ex_block (c := sl (sr (sr L211))) (by kernel_rfl), ex_seq (c := bb (sl (sr (sr L211)))) (by kernel_rfl), load1, hidx]
  dsimp only
  rw [hld]
  dsimp only
  rw [seqO_go]
  obtain ⟨l2, h2⟩ := cleanOO_go (mix1 call round ds h [(7, byteV b), (15, byteV b), (14, .pointer (some ⟨B, off + k, none⟩))] s x k len B off cap w hcall (.ofNat b))
  rw [h2]
  show ∃ l', seqO (some (.go ds ⟨l2, _, _⟩ h)) _ = _
  rw [seqO_go, step1, hw]
  exact ⟨_, rfl⟩

end


/-! ### The arithmetic -/
theorem bits32 (op : BinOp) (a b r : Nat) (ha : a < 4294967296) (hb : b < 4294967296) (h : (match op with | .and => a &&& b | .xor => a ^^^ b | _ => r) = r) (hop : op = .and ∨ op = .xor) (hr : r < 4294967296) :
    aInt2 op .u32 (.ofNat a) .u32 (.ofNat b) = some (.int .u32 (.ofNat r)) := by
  have e1 : (BitVec.ofInt 32 (Int.ofNat a)) = BitVec.ofNat 32 a := rfl
  have e2 : (BitVec.ofInt 32 (Int.ofNat b)) = BitVec.ofNat 32 b := rfl
  have hw : ∀ n : Nat, n < 4294967296 → IntKind.wrap .u32 (n : Int) = .ofNat n := by
    intro n hn
    rw [← wrapK_eq]
    show wrapK .u32 (Int.ofNat n) = _
    unfold wrapK
    simp only [ifB_lt]
    rw [if_pos hn]
  rcases hop with rfl | rfl
  · simp only at h
    show ifB (kEq .u32 .u32) (aBits .and .u32 (.ofNat a) (.ofNat b)) none = _
    show (match Go.Op.intBits .and .u32 (.ofNat a) (.ofNat b) with | .pure v => some v | _ => none) = _
    show some (Value.int .u32 (IntKind.wrap .u32 (((BitVec.ofInt 32 (Int.ofNat a)) &&& (BitVec.ofInt 32 (Int.ofNat b))).toNat : Int))) = _
    rw [e1, e2, BitVec.toNat_and, BitVec.toNat_ofNat, BitVec.toNat_ofNat, Nat.mod_eq_of_lt ha, Nat.mod_eq_of_lt hb, h, hw r hr]
  · simp only at h
    show ifB (kEq .u32 .u32) (aBits .xor .u32 (.ofNat a) (.ofNat b)) none = _
    show some (Value.int .u32 (IntKind.wrap .u32 (((BitVec.ofInt 32 (Int.ofNat a)) ^^^ (BitVec.ofInt 32 (Int.ofNat b))).toNat : Int))) = _
    rw [e1, e2, BitVec.toNat_xor, BitVec.toNat_ofNat, BitVec.toNat_ofNat, Nat.mod_eq_of_lt ha, Nat.mod_eq_of_lt hb, h, hw r hr]
theorem and32 (a b : Nat) (ha : a < 4294967296) (hb : b < 4294967296) : aInt2 .and .u32 (.ofNat a) .u32 (.ofNat b) = some (.int .u32 (.ofNat (a &&& b))) :=
  bits32 .and a b _ ha hb rfl (.inl rfl) (Nat.lt_of_le_of_lt Nat.and_le_left ha)
theorem xor32 (a b : Nat) (ha : a < 4294967296) (hb : b < 4294967296) : aInt2 .xor .u32 (.ofNat a) .u32 (.ofNat b) = some (.int .u32 (.ofNat (a ^^^ b))) :=
  bits32 .xor a b _ ha hb rfl (.inr rfl) (Nat.xor_lt_two_pow (n := 32) ha hb)
theorem bitE_eq (n : Nat) (hn : n < 4294967296) : bitE (.ofNat n) = .ofNat (crcBit n) ∧ crcBit n < 4294967296 := by
  have hshr : aInt2 .shr .u32 (.ofNat n) .i64 1 = some (.int .u32 (.ofNat (n / 2))) := by
    show some (Value.int .u32 (.ofNat (Nat.shiftRight n 1))) = _
    rw [show Nat.shiftRight n 1 = n >>> 1 from rfl, Nat.shiftRight_eq_div_pow]
  have hand : aInt2 .and .u32 (.ofNat n) .u32 1 = some (.int .u32 (.ofNat (n % 2))) := by
    have := and32 n 1 hn (by omega)
    rw [Nat.and_one_is_mod] at this; exact this
  have hb : crcBit n = if n % 2 = 0 then n / 2 else (n / 2) ^^^ 2197175160 := by
    unfold crcBit; exact nz_eq _ _ _
  have h2 : n / 2 < 4294967296 := by omega
  unfold bitE
  rw [hshr, hand]
  have h01 : n % 2 = 0 ∨ n % 2 = 1 := by omega
  rcases h01 with h0 | h1
  · rw [h0, hb, if_pos h0]
    refine ⟨?_, h2⟩
    have e : vN (aInt2 .and .u32 2197175160 .u32 (wrapK .u32 (Int.sub 0 (vN (some (Value.int .u32 (Int.ofNat 0))))))) = .ofNat 0 := by kernel_rfl
    rw [e]
    show vN (aInt2 .xor .u32 (.ofNat (n / 2)) .u32 (.ofNat 0)) = _
    rw [xor32 _ _ h2 (by omega), Nat.xor_zero]; rfl
  · rw [h1, hb, if_neg (by omega)]
    refine ⟨?_, Nat.xor_lt_two_pow (n := 32) h2 (by omega)⟩
    have e : vN (aInt2 .and .u32 2197175160 .u32 (wrapK .u32 (Int.sub 0 (vN (some (Value.int .u32 (Int.ofNat 1))))))) = .ofNat 2197175160 := by kernel_rfl
    rw [e]
    show vN (aInt2 .xor .u32 (.ofNat (n / 2)) .u32 (.ofNat 2197175160)) = _
    rw [xor32 _ _ h2 (by omega)]; rfl
theorem byteE_eq (n : Nat) (hn : n < 4294967296) : byteE (.ofNat n) = .ofNat (crcByte n) ∧ crcByte n < 4294967296 := by
  have h1 := bitE_eq n hn
  have h2 := bitE_eq _ h1.2
  have h3 := bitE_eq _ h2.2
  have h4 := bitE_eq _ h3.2
  have h5 := bitE_eq _ h4.2
  have h6 := bitE_eq _ h5.2
  have h7 := bitE_eq _ h6.2
  have h8 := bitE_eq _ h7.2
  exact ⟨by unfold byteE crcByte; rw [h1.1, h2.1, h3.1, h4.1, h5.1, h6.1, h7.1, h8.1], h8.2⟩
theorem xorE_eq (a b : Nat) (ha : a < 4294967296) (hb : b < 256) : xorE (.ofNat a) (wrapF (.ofNat b) .u32) = .ofNat (Nat.xor a b) ∧ Nat.xor a b < 4294967296 := by
  have e : wrapF (.ofNat b) .u32 = .ofNat b := by
    rw [wrapF_eq]; unfold wrapK; simp only [ifB_lt]; rw [if_pos (by omega)]
  rw [e]
  unfold xorE
  rw [xor32 a b ha (by omega)]
  exact ⟨rfl, Nat.xor_lt_two_pow (n := 32) ha (by omega)⟩
theorem not32 (a : Nat) (ha : a < 4294967296) : 4294967295 ^^^ a = 4294967295 - a := by
  apply Nat.eq_of_testBit_eq
  intro i
  rw [show (4294967295 : Nat) - a = 2 ^ 32 - (a + 1) by omega, Nat.testBit_xor, Nat.testBit_two_pow_sub_succ ha, show (4294967295 : Nat) = 2 ^ 32 - 1 by rfl, Nat.testBit_two_pow_sub_one]
  by_cases hi : i < 32
  · simp [hi]
  · have h32 : 2 ^ 32 ≤ 2 ^ i := Nat.pow_le_pow_right (by decide) (by omega)
    have : a.testBit i = false := Nat.testBit_lt_two_pow (Nat.lt_of_lt_of_le ha h32)
    simp [hi, this]
theorem notE_eq (a : Nat) (ha : a < 4294967296) : notE (.ofNat a) = .ofNat (Nat.sub 4294967295 a) ∧ Nat.sub 4294967295 a < 4294967296 := by
  refine ⟨?_, by show 4294967295 - a < _; omega⟩
  have : aUn .xor (.int .u32 (.ofNat a)) = aInt2 .xor .u32 (.ofNat 4294967295) .u32 (.ofNat a) := rfl
  unfold notE
  rw [this, xor32 _ _ (by omega) ha, not32 a ha]; rfl

/-! ### The loop, and the whole -/
section
variable (call : Calls2T) (round : RoundT) (h : Hp) (s len B off cap : Nat) (r : Row) (M : Nat)
theorem loadF_u8 (q : Nat) (b : Nat) (hrow : rowAtB h B = some r) (hb : r.get q = some (byteV b)) : loadF tP h 5 (.pointer (some ⟨B, q, none⟩)) = some (byteV b) := by
  have e : loadF tP h 5 (.pointer (some ⟨B, q, none⟩)) = rowK (h.m.get B) (fun r => r.get q) := by kernel_rfl
  rw [e, rowK_eq, hrow]; exact hb
theorem crcRun_succ (j n N : Nat) : crcRun (j + 1) n N = crcRun j (crcByte (Nat.xor n (Nat.mod N 256))) (Nat.div N 256) := rfl
theorem condEnd (ds : List Deferred) (l : List (Nat × Value)) (g : List (Nat × Value)) (k : Nat) (hk : k = len) (hc : exec (sl L211) tP (cE call round) ds ⟨l, g, M211⟩ h = some (.go ds ⟨[(13, .bool (iLt (.ofNat k) (.ofNat len)))], g, M211⟩ h)) :
    exec L211 tP (cE call round) ds ⟨l, g, M211⟩ h = some (.exit 0 ds ⟨[(13, .bool false)], g, M211⟩ h) := by
  rw [ex_seq (c := L211) (by kernel_rfl), hc, seqO_go, ex_seq (c := sr L211) (by kernel_rfl), ex_cond (c := sl (sr L211)) (by kernel_rfl)]
  have hcq : ev ⟨[(13, .bool (iLt (.ofNat k) (.ofNat len)))], g, M211⟩ (cq (sl (sr L211))) = some (.bool (iLt (.ofNat k) (.ofNat len))) := by kernel_rfl
  have hlt : iLt (.ofNat k) (.ofNat len) = false := by
    show Nat.blt k len = false
    cases hb : Nat.blt k len with
    | false => rfl
    | true => rw [blt_iff] at hb; omega
  rw [hcq, hlt, condO_bool, if_neg (by decide)]
  have hx : exec (ce (sl (sr L211))) tP (cE call round) ds ⟨[(13, .bool false)], g, M211⟩ h = some (.exit 0 ds ⟨[(13, .bool false)], g, M211⟩ h) := by kernel_rfl
  rw [hx]; rfl
theorem loop1 (hcall : ∀ n h, call false 275 [.int .u32 n] h = some (.int .u32 (byteE n), h)) (hrow : rowAtB h B = some r) (hM : ∀ i, i < len → r.get (off + i) = some (byteV (M / 256 ^ i % 256))) (hlen : len < 9223372036854775807) : ∀ (j k fuel : Nat) (x : Nat) (w : Value) (l : List (Nat × Value)), k + j = len → j < fuel → x < 4294967296 →
    ∃ l' w', loopO fuel (exec L211 tP (cE call round)) [] ⟨l, G1 (.ofNat k) (.ofNat x) w (.ofNat s) (sV B off len cap) len, M211⟩ h =
      some (.exit 0 [] ⟨l', G1 (.ofNat len) (.ofNat (crcRun j x (M / 256 ^ k))) w' (.ofNat s) (sV B off len cap) len, M211⟩ h) ∧ crcRun j x (M / 256 ^ k) < 4294967296
  | 0, k, fuel, x, w, l, hk, hf, hx => by
    obtain ⟨f, rfl⟩ : ∃ f, fuel = f + 1 := ⟨fuel - 1, by omega⟩
    rw [loopO_succ, condEnd call round h len [] l _ k (by omega) (cond1 call round [] h l (.ofNat s) (.ofNat x) k len B off cap w)]
    have e : k = len := by omega
    subst e
    exact ⟨_, w, rfl, hx⟩
  | j + 1, k, fuel, x, w, l, hk, hf, hx => by
    obtain ⟨f, rfl⟩ : ∃ f, fuel = f + 1 := ⟨fuel - 1, by omega⟩
    rw [loopO_succ]
    have hb : M / 256 ^ k % 256 < 256 := Nat.mod_lt _ (by omega)
    obtain ⟨l2, h2⟩ := iter1 call round [] h l (.ofNat s) (.ofNat x) k len B off cap w (M / 256 ^ k % 256) hcall (by omega) hlen (loadF_u8 h B r _ _ hrow (hM k (by omega)))
    rw [h2, seqO_go, (xorE_eq x _ hx hb).1, (byteE_eq _ (xorE_eq x _ hx hb).2).1]
    obtain ⟨l3, w3, h3, h4⟩ := loop1 hcall hrow hM hlen j (k + 1) f (crcByte (Nat.xor x (M / 256 ^ k % 256))) (byteV (M / 256 ^ k % 256)) l2 (by omega) (by omega) (byteE_eq _ (xorE_eq x _ hx hb).2).2
    have e : crcRun (j + 1) x (M / 256 ^ k) = crcRun j (crcByte (Nat.xor x (M / 256 ^ k % 256))) (M / 256 ^ (k + 1)) := by
      rw [crcRun_succ]
      congr 1
      show M / 256 ^ k / 256 = _
      rw [Nat.div_div_eq_div_mul, ← Nat.pow_succ]
    rw [e]
    exact ⟨l3, w3, h3, h4⟩
theorem loop0 (hcall : ∀ n h, call false 275 [.int .u32 n] h = some (.int .u32 (byteE n), h)) (hrow : rowAtB h B = some r) (hM : ∀ i, i < len → r.get (off + i) = some (byteV (M / 256 ^ i % 256))) (hlen : len < 999999) (x : Nat) (hx : x < 4294967296) (l : List (Nat × Value)) :
    ∃ l' w', loopO LOOPS (exec L211 tP (cE call round)) [] ⟨l, G0 (.ofNat x) (.ofNat s) (sV B off len cap) len, M211⟩ h =
      some (.exit 0 [] ⟨l', (if len = 0 then G0 (.ofNat x) (.ofNat s) (sV B off len cap) len else G1 (.ofNat len) (.ofNat (crcRun len x M)) w' (.ofNat s) (sV B off len cap) len), M211⟩ h) ∧ crcRun len x M < 4294967296 := by
  show ∃ l' w', loopO (999999 + 1) _ _ _ _ = _ ∧ _
  rw [loopO_succ]
  rcases Nat.eq_zero_or_pos len with h0 | h0
  · rw [condEnd call round h len [] l _ 0 h0.symm (cond0 call round [] h l (.ofNat s) (.ofNat x) len B off cap)]
    subst h0
    exact ⟨_, .nilIface, rfl, hx⟩
  · have hb : M % 256 < 256 := Nat.mod_lt _ (by omega)
    have hM0 := hM 0 h0
    rw [Nat.pow_zero, Nat.div_one] at hM0
    obtain ⟨l2, h2⟩ := iter0 call round [] h l (.ofNat s) (.ofNat x) len B off cap (M % 256) hcall h0 (by omega) (loadF_u8 h B r _ _ hrow hM0)
    rw [h2, seqO_go, (xorE_eq x _ hx hb).1, (byteE_eq _ (xorE_eq x _ hx hb).2).1]
    obtain ⟨l3, w3, h3, h4⟩ := loop1 call round h s len B off cap r M hcall hrow hM (by omega) (len - 1) 1 999999 (crcByte (Nat.xor x (M % 256))) (byteV (M % 256)) l2 (by omega) (by omega) (byteE_eq _ (xorE_eq x _ hx hb).2).2
    have e : crcRun len x M = crcRun (len - 1) (crcByte (Nat.xor x (M % 256))) (M / 256 ^ 1) := by
      obtain ⟨q, rfl⟩ : ∃ q, len = q + 1 := ⟨len - 1, by omega⟩
      rw [crcRun_succ, Nat.pow_one]; rfl
    rw [e]
    refine ⟨l3, w3, ?_, h4⟩
    rw [if_neg (by omega)]; exact h3

theorem more_slice (hcall : ∀ n h, call false 275 [.int .u32 n] h = some (.int .u32 (byteE n), h)) (hs : s < 4294967296) (hrow : rowAtB h B = some r) (hM : ∀ i, i < len → r.get (off + i) = some (byteV (M / 256 ^ i % 256))) (hlen : len < 999999) :
    callF tP tK I0 call round false 211 [.int .u32 (.ofNat s), sV B off len cap] h = some (.int .u32 (.ofNat (Nat.sub 4294967295 (crcRun len (Nat.sub 4294967295 s) M))), h) := by
  have e : callF tP tK I0 call round false 211 [.int .u32 (.ofNat s), sV B off len cap] h = endF tP (Proofs.Tryz.f211) (cE call round) (exec b211 tP (cE call round) [] ⟨[], [(0, .int .u32 (.ofNat s)), (1, sV B off len cap)], M211⟩ h) := by kernel_rfl
  rw [e, ex_seq (c := b211) (by kernel_rfl), pre_ok, seqO_go, ex_seq (c := sr b211) (by kernel_rfl)]
  obtain ⟨l1, h1⟩ := cleanOO_go (pre2_ok call round [] h [(4, .int .u32 0)] (.ofNat s) len B off cap)
  rw [h1, (notE_eq s hs).1, seqO_go, ex_seq (c := sr (sr b211)) (by kernel_rfl), ex_seq (c := sl (sr (sr b211))) (by kernel_rfl)]
  obtain ⟨l2, h2⟩ := cleanOO_go (pre3_ok call round [] h l1 (.ofNat s) (.ofNat (Nat.sub 4294967295 s)) len B off cap)
  rw [h2, seqO_go, ex_block (c := sr (sl (sr (sr b211)))) (by kernel_rfl), ex_loop (c := bb (sr (sl (sr (sr b211))))) (by kernel_rfl)]
  obtain ⟨l3, w3, h3, h4⟩ := loop0 call round h s len B off cap r M hcall hrow hM hlen _ (notE_eq s hs).2 l2
  rw [h3]
  have hbk : ∀ (m : Tm), blockO (bi (sr (sl (sr (sr b211))))) (some (.exit 0 [] m h)) = some (.go [] m h) := by
    intro m
    have : bi (sr (sl (sr (sr b211)))) = 0 := by kernel_rfl
    rw [this]; rfl
  rw [hbk, seqO_go, ex_seq (c := sr (sr (sr b211))) (by kernel_rfl)]
  by_cases h0 : len = 0
  · subst h0
    rw [if_pos rfl]
    have h5 := (post0_ok call round [] h l3 (.ofNat s) (.ofNat (Nat.sub 4294967295 s)) 0 (sV B off 0 cap))
    rw [h5, seqO_go, (notE_eq _ (notE_eq s hs).2).1]
    show endF _ _ _ _ = _
    kernel_rfl
  · rw [if_neg h0]
    have h5 := (post_ok call round [] h l3 (.ofNat (crcRun len (Nat.sub 4294967295 s) M)) (.int .i64 (.ofNat len)) [(7, w3), (11, .int .i64 (.ofNat len)), (10, sV B off len cap), (4, .int .u32 0), (0, .int .u32 (.ofNat s)), (1, sV B off len cap)])
    rw [h5, seqO_go, (notE_eq _ h4).1]
    show endF _ _ _ _ = _
    kernel_rfl
theorem more_nil (hs : s < 4294967296) (p : Option Addr) (hp : p = none) (n c : Nat) (hn : n = 0) (hc : c = 0) :
    callF tP tK I0 call round false 211 [.int .u32 (.ofNat s), .slice p n c] h = some (.int .u32 (.ofNat s), h) := by
  subst hp; subst hn; subst hc
  have e : callF tP tK I0 call round false 211 [.int .u32 (.ofNat s), .slice none 0 0] h = some (.int .u32 (notE (notE (.ofNat s))), h) := by kernel_rfl
  rw [e, (notE_eq s hs).1, (notE_eq _ (notE_eq s hs).2).1]
  show some (Value.int .u32 (.ofNat (4294967295 - (4294967295 - s))), h) = _
  rw [show 4294967295 - (4294967295 - s) = s by omega]
end


/-! ### slices.IndexFunc over noughts, at the closure 'is it no nought?' -/
noncomputable def b372 : Code := match (Proofs.Tryz.f372).body with | some c => c | none => .skip
noncomputable abbrev qV : Value := .func (.func 323) #[] #[]
theorem clo_call (call : Calls2T) (round : RoundT) (h : Hp) : callF tP tK I0 call round false 323 [byteV 0] h = some (.bool false, h) := by kernel_rfl
noncomputable abbrev xE (call : Calls2T) (round : RoundT) : Env := ⟨372, 19, false, false, call, round, fun _ => none⟩
noncomputable abbrev M372 : Nat := Nat.lor (tK 372) 15
noncomputable abbrev L372 : Code := lb (bb (sr (sl (sr b372))))
noncomputable abbrev H0 (sl : Value) (len : Nat) : List (Nat × Value) := [(8, .int .i64 (.ofNat 0)), (7, .int .i64 (.ofNat len)), (4, .int .i64 0), (0, sl), (1, qV)]
noncomputable abbrev H1 (k : Int) (w : Value) (sl : Value) (len : Nat) : List (Nat × Value) := [(8, .int .i64 k), (5, w), (7, .int .i64 (.ofNat len)), (4, .int .i64 0), (0, sl), (1, qV)]
section
variable (call : Calls2T) (round : RoundT) (ds : List Deferred) (h : Hp) (l : List (Nat × Value)) (k len B off cap : Nat) (w v p : Value)
theorem xpre_ok : exec (sl b372) tP (xE call round) ds ⟨[], [(0, sV B off len cap), (1, qV)], M372⟩ h = some (.go ds ⟨[(4, .int .i64 0)], [(4, .int .i64 0), (0, sV B off len cap), (1, qV)], M372⟩ h) := by kernel_rfl
theorem xpre2_ok : cleanOO (exec (sl (sl (sr b372))) tP (xE call round) ds ⟨l, [(4, .int .i64 0), (0, sV B off len cap), (1, qV)], M372⟩ h) = some (.go ds ⟨[], H0 (sV B off len cap) len, M372⟩ h) := by kernel_rfl
theorem xpost_ok (g : List (Nat × Value)) : exec (sl (sr (sr b372))) tP (xE call round) ds ⟨l, (8, v) :: g, M372⟩ h = some (.go ds ⟨[(4, .int .i64 (-1))], (4, .int .i64 (-1)) :: strike ((8, v) :: g) 4, M372⟩ h) := by kernel_rfl

theorem xcond0 : exec (sl L372) tP (xE call round) ds ⟨l, H0 (sV B off len cap) len, M372⟩ h = some (.go ds ⟨[(9, .bool (iLt (.ofNat 0) (.ofNat len)))], H0 (sV B off len cap) len, M372⟩ h) := by kernel_rfl
theorem xmove0 : cleanOO (exec (sl (bb (sl (sr (sr L372))))) tP (xE call round) ds ⟨l, H0 (sV B off len cap) len, M372⟩ h) = some (.go ds ⟨[], (5, .int .i64 (.ofNat 0)) :: strike (H0 (sV B off len cap) len) 5, M372⟩ h) := by kernel_rfl
theorem xload0 : exec (sl (sr (bb (sl (sr (sr L372)))))) tP (xE call round) ds ⟨l, (5, .int .i64 (.ofNat 0)) :: strike (H0 (sV B off len cap) len) 5, M372⟩ h =
    Option.rec (motive := fun _ => OO) none (fun p => Option.rec (motive := fun _ => OO) none (fun v => callR (fun ds h u => some (.go ds ⟨[(16, u), (15, v), (14, p), (13, .int .i64 (.ofNat 0)), (12, sV B off len cap), (11, qV)], (5, .int .i64 (.ofNat 0)) :: strike (H0 (sV B off len cap) len) 5, M372⟩ h)) ds (call false 323 [v] h)) (loadF tP h 5 p)) (aIndexAddr tP 29 (sV B off len cap) (.int .i64 (.ofNat 0))) := by kernel_rfl
theorem xskip0 (rest : List (Nat × Value)) : exec (sr (sr (bb (sl (sr (sr L372)))))) tP (xE call round) ds ⟨(16, .bool false) :: rest, (5, .int .i64 (.ofNat 0)) :: strike (H0 (sV B off len cap) len) 5, M372⟩ h = some (.go ds ⟨(16, .bool false) :: rest, (5, .int .i64 (.ofNat 0)) :: strike (H0 (sV B off len cap) len) 5, M372⟩ h) := by kernel_rfl
theorem xstep0 : exec (sr (sr (sr L372))) tP (xE call round) ds ⟨l, (5, .int .i64 (.ofNat 0)) :: strike (H0 (sV B off len cap) len) 5, M372⟩ h =
    some (.go ds ⟨[(8, .int .i64 (wrapF (Int.add (.ofNat 0) 1) .i64)), (18, .int .i64 (wrapF (Int.add (.ofNat 0) 1) .i64))], H1 (wrapF (Int.add (.ofNat 0) 1) .i64) (.int .i64 (.ofNat 0)) (sV B off len cap) len, M372⟩ h) := by kernel_rfl

theorem xcond1 : exec (sl L372) tP (xE call round) ds ⟨l, H1 (.ofNat k) w (sV B off len cap) len, M372⟩ h = some (.go ds ⟨[(9, .bool (iLt (.ofNat k) (.ofNat len)))], H1 (.ofNat k) w (sV B off len cap) len, M372⟩ h) := by kernel_rfl
theorem xmove1 : cleanOO (exec (sl (bb (sl (sr (sr L372))))) tP (xE call round) ds ⟨l, H1 (.ofNat k) w (sV B off len cap) len, M372⟩ h) = some (.go ds ⟨[], (5, .int .i64 (.ofNat k)) :: strike (H1 (.ofNat k) w (sV B off len cap) len) 5, M372⟩ h) := by kernel_rfl
theorem xload1 : exec (sl (sr (bb (sl (sr (sr L372)))))) tP (xE call round) ds ⟨l, (5, .int .i64 (.ofNat k)) :: strike (H1 (.ofNat k) w (sV B off len cap) len) 5, M372⟩ h =
    Option.rec (motive := fun _ => OO) none (fun p => Option.rec (motive := fun _ => OO) none (fun v => callR (fun ds h u => some (.go ds ⟨[(16, u), (15, v), (14, p), (13, .int .i64 (.ofNat k)), (12, sV B off len cap), (11, qV)], (5, .int .i64 (.ofNat k)) :: strike (H1 (.ofNat k) w (sV B off len cap) len) 5, M372⟩ h)) ds (call false 323 [v] h)) (loadF tP h 5 p)) (aIndexAddr tP 29 (sV B off len cap) (.int .i64 (.ofNat k))) := by kernel_rfl
theorem xskip1 (rest : List (Nat × Value)) : exec (sr (sr (bb (sl (sr (sr L372)))))) tP (xE call round) ds ⟨(16, .bool false) :: rest, (5, .int .i64 (.ofNat k)) :: strike (H1 (.ofNat k) w (sV B off len cap) len) 5, M372⟩ h = some (.go ds ⟨(16, .bool false) :: rest, (5, .int .i64 (.ofNat k)) :: strike (H1 (.ofNat k) w (sV B off len cap) len) 5, M372⟩ h) := by kernel_rfl
theorem xstep1 : exec (sr (sr (sr L372))) tP (xE call round) ds ⟨l, (5, .int .i64 (.ofNat k)) :: strike (H1 (.ofNat k) w (sV B off len cap) len) 5, M372⟩ h =
    some (.go ds ⟨[(8, .int .i64 (wrapF (Int.add (.ofNat k) 1) .i64)), (18, .int .i64 (wrapF (Int.add (.ofNat k) 1) .i64))], H1 (wrapF (Int.add (.ofNat k) 1) .i64) (.int .i64 (.ofNat k)) (sV B off len cap) len, M372⟩ h) := by kernel_rfl

end

theorem xiter0 (call : Calls2T) (round : RoundT) (ds : List Deferred) (h : Hp) (l : List (Nat × Value)) (len B off cap : Nat) (hq : ∀ h, call false 323 [byteV 0] h = some (.bool false, h)) (hk : 0 < len) (_hlen : len < 9223372036854775807) (hld : loadF tP h 5 (.pointer (some ⟨B, off + 0, none⟩)) = some (byteV 0)) :
    ∃ l', exec L372 tP (xE call round) ds ⟨l, H0 (sV B off len cap) len, M372⟩ h = some (.go ds ⟨l', H1 (.ofNat (0 + 1)) (.int .i64 (.ofNat 0)) (sV B off len cap) len, M372⟩ h) := by
  have hw : wrapF (Int.add (.ofNat 0) 1) .i64 = .ofNat (0 + 1) := by
    rw [wrapF_eq]
    show wrapK .i64 (.ofNat (0 + 1)) = _
    unfold wrapK
    simp only [ifB_lt]
    rw [if_pos (by omega)]
  have hidx : aIndexAddr tP 29 (sV B off len cap) (.int .i64 (.ofNat 0)) = some (.pointer (some ⟨B, off + 0, none⟩)) := by
    have e : aIndexAddr tP 29 (sV B off len cap) (.int .i64 (.ofNat 0)) = ifB (Nat.blt 0 len) (some (.pointer (some ⟨B, Nat.add off (Nat.mul 0 1), none⟩))) none := by kernel_rfl
    rw [e, ifB_lt, if_pos hk]
    all_goals simp
  rw [ex_seq (c := L372) (by kernel_rfl), xcond0, seqO_go, ex_seq (c := sr L372) (by kernel_rfl), ex_cond (c := sl (sr L372)) (by kernel_rfl)]
  have hcq : ev ⟨[(9, .bool (iLt (.ofNat 0) (.ofNat len)))], H0 (sV B off len cap) len, M372⟩ (cq (sl (sr L372))) = some (.bool (iLt (.ofNat 0) (.ofNat len))) := by kernel_rfl
  have hlt : iLt (.ofNat 0) (.ofNat len) = true := by
    show Nat.blt 0 len = true
    rw [blt_iff]; exact hk
  rw [hcq, hlt, condO_bool, if_pos rfl]
  have hskip : exec (ct (sl (sr L372))) tP (xE call round) ds ⟨[(9, .bool true)], H0 (sV B off len cap) len, M372⟩ h = some (.go ds ⟨[(9, .bool true)], H0 (sV B off len cap) len, M372⟩ h) := by kernel_rfl
  rw [hskip, seqO_go, ex_seq (c := sr (sr L372)) (by kernel_rfl), ex_block (c := sl (sr (sr L372))) (by kernel_rfl), ex_seq (c := bb (sl (sr (sr L372)))) (by kernel_rfl)]
  obtain ⟨l1, h1⟩ := cleanOO_go (xmove0 call round ds h [(9, .bool true)] len B off cap)
  rw [h1, seqO_go, ex_seq (c := sr (bb (sl (sr (sr L372))))) (by kernel_rfl), xload0, hidx]
  dsimp only
  rw [hld]
  dsimp only
  rw [hq]
  show ∃ l', seqO (blockO _ (seqO (some (.go ds ⟨(16, .bool false) :: _, _, _⟩ h)) _)) _ = _
  rw [seqO_go, xskip0]
  show ∃ l', seqO (some (.go ds ⟨_, _, _⟩ h)) _ = _
  rw [seqO_go, xstep0, hw]
  exact ⟨_, rfl⟩

theorem xiter1 (call : Calls2T) (round : RoundT) (ds : List Deferred) (h : Hp) (l : List (Nat × Value)) (k : Nat) (len B off cap : Nat) (w : Value) (hq : ∀ h, call false 323 [byteV 0] h = some (.bool false, h)) (hk : k < len) (hlen : len < 9223372036854775807) (hld : loadF tP h 5 (.pointer (some ⟨B, off + k, none⟩)) = some (byteV 0)) :
    ∃ l', exec L372 tP (xE call round) ds ⟨l, H1 (.ofNat k) w (sV B off len cap) len, M372⟩ h = some (.go ds ⟨l', H1 (.ofNat (k + 1)) (.int .i64 (.ofNat k)) (sV B off len cap) len, M372⟩ h) := by
  have hw : wrapF (Int.add (.ofNat k) 1) .i64 = .ofNat (k + 1) := by
    rw [wrapF_eq]
    show wrapK .i64 (.ofNat (k + 1)) = _
    unfold wrapK
    simp only [ifB_lt]
    rw [if_pos (by omega)]
  have hidx : aIndexAddr tP 29 (sV B off len cap) (.int .i64 (.ofNat k)) = some (.pointer (some ⟨B, off + k, none⟩)) := by
    have e : aIndexAddr tP 29 (sV B off len cap) (.int .i64 (.ofNat k)) = ifB (Nat.blt k len) (some (.pointer (some ⟨B, Nat.add off (Nat.mul k 1), none⟩))) none := by kernel_rfl
    rw [e, ifB_lt, if_pos hk]
    all_goals simp
  rw [ex_seq (c := L372) (by kernel_rfl), xcond1, seqO_go, ex_seq (c := sr L372) (by kernel_rfl), ex_cond (c := sl (sr L372)) (by kernel_rfl)]
  have hcq : ev ⟨[(9, .bool (iLt (.ofNat k) (.ofNat len)))], H1 (.ofNat k) w (sV B off len cap) len, M372⟩ (cq (sl (sr L372))) = some (.bool (iLt (.ofNat k) (.ofNat len))) := by kernel_rfl
  have hlt : iLt (.ofNat k) (.ofNat len) = true := by
    show Nat.blt k len = true
    rw [blt_iff]; exact hk
  rw [hcq, hlt, condO_bool, if_pos rfl]
  have hskip : exec (ct (sl (sr L372))) tP (xE call round) ds ⟨[(9, .bool true)], H1 (.ofNat k) w (sV B off len cap) len, M372⟩ h = some (.go ds ⟨[(9, .bool true)], H1 (.ofNat k) w (sV B off len cap) len, M372⟩ h) := by kernel_rfl
  rw [hskip, seqO_go, ex_seq (c := sr (sr L372)) (by kernel_rfl), ex_block (c := sl (sr (sr L372))) (by kernel_rfl), ex_seq (c := bb (sl (sr (sr L372)))) (by kernel_rfl)]
  obtain ⟨l1, h1⟩ := cleanOO_go (xmove1 call round ds h [(9, .bool true)] k len B off cap w)
  rw [h1, seqO_go, ex_seq (c := sr (bb (sl (sr (sr L372))))) (by kernel_rfl), xload1, hidx]
  dsimp only
  rw [hld]
  dsimp only
  rw [hq]
  show ∃ l', seqO (blockO _ (seqO (some (.go ds ⟨(16, .bool false) :: _, _, _⟩ h)) _)) _ = _
  rw [seqO_go, xskip1]
  show ∃ l', seqO (some (.go ds ⟨_, _, _⟩ h)) _ = _
  rw [seqO_go, xstep1, hw]
  exact ⟨_, rfl⟩

section
variable (call : Calls2T) (round : RoundT) (h : Hp) (len B off cap : Nat) (r : Row)
theorem xcondEnd (ds : List Deferred) (l : List (Nat × Value)) (g : List (Nat × Value)) (k : Nat) (hk : k = len) (hc : exec (sl L372) tP (xE call round) ds ⟨l, g, M372⟩ h = some (.go ds ⟨[(9, .bool (iLt (.ofNat k) (.ofNat len)))], g, M372⟩ h)) :
    exec L372 tP (xE call round) ds ⟨l, g, M372⟩ h = some (.exit 0 ds ⟨[(9, .bool false)], g, M372⟩ h) := by
  rw [ex_seq (c := L372) (by kernel_rfl), hc, seqO_go, ex_seq (c := sr L372) (by kernel_rfl), ex_cond (c := sl (sr L372)) (by kernel_rfl)]
  have hcq : ev ⟨[(9, .bool (iLt (.ofNat k) (.ofNat len)))], g, M372⟩ (cq (sl (sr L372))) = some (.bool (iLt (.ofNat k) (.ofNat len))) := by kernel_rfl
  have hlt : iLt (.ofNat k) (.ofNat len) = false := by
    show Nat.blt k len = false
    cases hb : Nat.blt k len with
    | false => rfl
    | true => rw [blt_iff] at hb; omega
  rw [hcq, hlt, condO_bool, if_neg (by decide)]
  have hx : exec (ce (sl (sr L372))) tP (xE call round) ds ⟨[(9, .bool false)], g, M372⟩ h = some (.exit 0 ds ⟨[(9, .bool false)], g, M372⟩ h) := by kernel_rfl
  rw [hx]; rfl
theorem xloop1 (hq : ∀ h, call false 323 [byteV 0] h = some (.bool false, h)) (hrow : rowAtB h B = some r) (hM : ∀ i, i < len → r.get (off + i) = some (byteV 0)) (hlen : len < 9223372036854775807) : ∀ (j k fuel : Nat) (w : Value) (l : List (Nat × Value)), k + j = len → j < fuel →
    ∃ l' w', loopO fuel (exec L372 tP (xE call round)) [] ⟨l, H1 (.ofNat k) w (sV B off len cap) len, M372⟩ h = some (.exit 0 [] ⟨l', H1 (.ofNat len) w' (sV B off len cap) len, M372⟩ h)
  | 0, k, fuel, w, l, hk, hf => by
    obtain ⟨f, rfl⟩ : ∃ f, fuel = f + 1 := ⟨fuel - 1, by omega⟩
    rw [loopO_succ, xcondEnd call round h len [] l _ k (by omega) (xcond1 call round [] h l k len B off cap w)]
    have e : k = len := by omega
    subst e
    exact ⟨_, w, rfl⟩
  | j + 1, k, fuel, w, l, hk, hf => by
    obtain ⟨f, rfl⟩ : ∃ f, fuel = f + 1 := ⟨fuel - 1, by omega⟩
    rw [loopO_succ]
    obtain ⟨l2, h2⟩ := xiter1 call round [] h l k len B off cap w hq (by omega) hlen (loadF_u8 h B r _ 0 hrow (hM k (by omega)))
    rw [h2, seqO_go]
    exact xloop1 hq hrow hM hlen j (k + 1) f (.int .i64 (.ofNat k)) l2 (by omega) (by omega)
theorem idx_slice (hq : ∀ h, call false 323 [byteV 0] h = some (.bool false, h)) (hrow : rowAtB h B = some r) (hM : ∀ i, i < len → r.get (off + i) = some (byteV 0)) (hlen : len < 999999) :
    callF tP tK I0 call round false 372 [sV B off len cap, qV] h = some (.int .i64 (-1), h) := by
  have e : callF tP tK I0 call round false 372 [sV B off len cap, qV] h = endF tP (Proofs.Tryz.f372) (xE call round) (exec b372 tP (xE call round) [] ⟨[], [(0, sV B off len cap), (1, qV)], M372⟩ h) := by kernel_rfl
  rw [e, ex_seq (c := b372) (by kernel_rfl), xpre_ok, seqO_go, ex_seq (c := sr b372) (by kernel_rfl), ex_seq (c := sl (sr b372)) (by kernel_rfl)]
  obtain ⟨l2, h2⟩ := cleanOO_go (xpre2_ok call round [] h [(4, .int .i64 0)] len B off cap)
  rw [h2, seqO_go, ex_block (c := sr (sl (sr b372))) (by kernel_rfl), ex_loop (c := bb (sr (sl (sr b372)))) (by kernel_rfl)]
  have hbk : ∀ (m : Tm), blockO (bi (sr (sl (sr b372)))) (some (.exit 0 [] m h)) = some (.go [] m h) := by
    intro m
    have : bi (sr (sl (sr b372))) = 0 := by kernel_rfl
    rw [this]; rfl
  have hend : ∃ l' g' v', loopO LOOPS (exec L372 tP (xE call round)) [] ⟨l2, H0 (sV B off len cap) len, M372⟩ h = some (.exit 0 [] ⟨l', (8, v') :: g', M372⟩ h) := by
    show ∃ l' g' v', loopO (999999 + 1) _ _ _ _ = _
    rw [loopO_succ]
    rcases Nat.eq_zero_or_pos len with h0 | h0
    · rw [xcondEnd call round h len [] l2 _ 0 h0.symm (xcond0 call round [] h l2 len B off cap)]
      exact ⟨_, _, _, rfl⟩
    · obtain ⟨l3, h3⟩ := xiter0 call round [] h l2 len B off cap hq h0 (by omega) (loadF_u8 h B r _ 0 hrow (hM 0 h0))
      rw [h3, seqO_go]
      obtain ⟨l4, w4, h4⟩ := xloop1 call round h len B off cap r hq hrow hM (by omega) (len - 1) 1 999999 (.int .i64 (.ofNat 0)) l3 (by omega) (by omega)
      exact ⟨l4, _, _, h4⟩
  obtain ⟨l3, g3, v3, h3⟩ := hend
  rw [h3, hbk, seqO_go, ex_seq (c := sr (sr b372)) (by kernel_rfl), xpost_ok, seqO_go]
  show endF _ _ _ _ = _
  kernel_rfl
end
/-- Noughts alone: there is none. -/
noncomputable def idxZero (h : Hp) (args : List Value) : Option Value :=
  match args with
  | [.slice (some ⟨B, off, none⟩) len _, .func (.func g) ⟨[]⟩ ⟨[]⟩] =>
    ifB (Nat.beq g 323) (ifB (Nat.blt len 999999)
      (match rowAtB h B with
      | some r => match r.slice off len with
        | some (.bytes n N) => ifB (Nat.beq n len) (ifB (Nat.beq N 0) (some (.int .i64 (-1))) none) none
        | _ => none
      | none => none) none) none
  | _ => none
theorem idx_call {h : Hp} {args : List Value} {v : Value} (hq : idxZero h args = some v) : (callsN tP tK I0 2).call false 372 args h = some (v, h) := by
  have hcall : ∀ h, (callsN tP tK I0 1).call false 323 [byteV 0] h = some (.bool false, h) := fun h => clo_call (callsN tP tK I0 0).call (callsN tP tK I0 0).round h
  show callF tP tK I0 (callsN tP tK I0 1).call (callsN tP tK I0 1).round false 372 args h = _
  unfold idxZero at hq
  split at hq
  · rename_i B off len cap g
    rw [ifB_beq] at hq
    split at hq
    · rename_i hg
      subst hg
      rw [ifB_lt] at hq
      split at hq
      · rename_i hlen
        split at hq
        · rename_i r hrow
          split at hq
          · rename_i n N hsl
            rw [ifB_beq] at hq
            split at hq
            · rename_i hn
              rw [ifB_beq] at hq
              split at hq
              · rename_i hN
                cases hq
                subst hn; subst hN
                obtain ⟨h1, h2, h3⟩ := Row.slice_spec hsl
                refine idx_slice _ _ h n B off cap r hcall hrow (fun i hi => ?_) hlen
                have := (h3 i _ (by rw [Row.get_bytes, if_pos hi])).2
                rw [Nat.zero_div] at this; exact this
              · cases hq
            · cases hq
          · cases hq
        · cases hq
      · cases hq
    · cases hq
  · cases hq

noncomputable def tX (f : Nat) : Option (Hp → List Value → OVH) := ifB (Nat.beq f 294) (some xCmp) (none)
noncomputable def tI : Intr := ⟨fun f => ifB (Nat.beq f 211) (some crcMore) (ifB (Nat.beq f 372) (some idxZero) (none)), tX⟩
theorem crc_call {h : Hp} {args : List Value} {v : Value} (hq : crcMore h args = some v) : (callsN tP tK I0 2).call false 211 args h = some (v, h) := by
  have hcall : ∀ n h, (callsN tP tK I0 1).call false 275 [.int .u32 n] h = some (.int .u32 (byteE n), h) := fun n h => behind_call _ _ h n
  show callF tP tK I0 (callsN tP tK I0 1).call (callsN tP tK I0 1).round false 211 args h = _
  unfold crcMore at hq
  split at hq
  · rename_i s
    rw [ifB_lt] at hq
    split at hq
    · rename_i hs
      cases hq
      exact more_nil _ _ h s hs none rfl 0 0 rfl rfl
    · cases hq
  · rename_i s B off len cap
    rw [ifB_lt] at hq
    split at hq
    · rename_i hs
      rw [ifB_lt] at hq
      split at hq
      · rename_i hlen
        split at hq
        · rename_i r hrow
          split at hq
          · rename_i n N hsl
            rw [ifB_beq] at hq
            split at hq
            · rename_i hn
              cases hq
              subst hn
              obtain ⟨h1, h2, h3⟩ := Row.slice_spec hsl
              refine more_slice _ _ h s n B off cap r N hcall hs hrow (fun i hi => ?_) hlen
              exact (h3 i _ (by rw [Row.get_bytes, if_pos hi])).2
            · cases hq
          · cases hq
        · cases hq
      · cases hq
    · cases hq
  · cases hq
theorem prog_ok : ProgOK tP := by
  have h : (tP.funcs.toList.all fun fn => !(fn.name == "runtime.NumGoroutine")) = true := by kernel_rfl
  intro f fn hf
  rw [List.all_eq_true] at h
  have := h fn (Array.mem_toList_iff.2 (Array.mem_of_getElem? hf))
  simpa using this
theorem mixed : tP.follows .mixedOrders = true := by kernel_rfl
theorem intr_ok : IntrOK tP tI := by
  intro f g hf args h v hq
  have hI0 : IntrOK tP I0 := fun _ _ h => by cases h
  have hX0 : ExtOK tP I0.ext := fun _ _ h => by cases h
  have hf' : ifB (Nat.beq f 211) (some crcMore) (ifB (Nat.beq f 372) (some idxZero) (none)) = some g := hf
  rw [ifB_beq] at hf'
  split at hf'
  · rename_i e
    cases hf'
    subst e
    exact (callsN_ok (K := tK) (I := I0) (draw_ok mixed) hI0 hX0 prog_ok 2).1 false 211 args h v h (crc_call hq)
  · rw [ifB_beq] at hf'
    split at hf'
    · rename_i e
      cases hf'
      subst e
      exact (callsN_ok (K := tK) (I := I0) (draw_ok mixed) hI0 hX0 prog_ok 2).1 false 372 args h v h (idx_call hq)
    · cases hf'

theorem ext_ok : ExtOK tP tI.ext := by
  intro f g hf args h v h' hq w0 pend γ w args' ha hr
  have hf' : ifB (Nat.beq f 294) (some xCmp) (none) = some g := hf
  rw [ifB_beq] at hf'
  split at hf'
  · rename_i e
    cases hf'
    subst e
    exact xCmp_ok (P := tP) (fn := Proofs.Tryz.f294) (by kernel_rfl) (by kernel_rfl) (by kernel_rfl) (by kernel_rfl) (by kernel_rfl) hq w0 pend γ w args' ha hr
  · cases hf'
end Go.Ae

