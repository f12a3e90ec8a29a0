/- The engine's operations: numbers, tests, calls, reading memory by kinds of data. No program is named here. -/
import Derived.Test.YtfgobdejlfojiaaEng
import Derived.Test.YtfgobdejlfojiaaData
namespace Go.Proofs.Ytfgobdejlfojiaa
open Go.RowKit
set_option linter.unusedVariables false

section
variable {P : Program} {n : Nat} {ops : Array Oper} {Q : Exit → Act → World → Prop} {L : Frm} {w : World} {m : Md} {r : IT} {d : Nat} {ty : TypeId} {pos : String} {af : Array Edge}

/-- In every later world the operation hands back v and leaves the world as it is. -/
def Reads (P : Program) (n : Nat) (op : Op) (ty : TypeId) (pos : String) (L : Frm) (w : World) (v : Value) : Prop :=
  ∀ a, Env n L a → ∀ dst af gd w', Ext w w' → (execOp a.eval ⟨dst, op, ty, pos, af, gd⟩).run P w' = .ok (.value v) w'

theorem t_read {op : Op} {v : Value} (h : Reads P n op ty pos L w v) (k : WT P n ops Q r ((d, v) :: L) w) (hn : Nat.blt d n = true) : WT P n ops Q (.st m ⟨some d, op, ty, pos, af, none⟩ r) L w := by
  intro a ha
  have hk := k _ (ha.put hn v)
  cases m with
  | take => exact ⟨v, .inl ⟨rfl, fun w' hw' => h a ha _ _ _ w' hw'⟩, hk⟩
  | run =>
    simp only [wpT, Region.wanted, if_true]
    unfold Oper.wp
    rw [h a ha _ _ _ w (Below.refl _ _)]
    exact ⟨Below.refl _ _, hk⟩
  | fin =>
    simp only [wpT, Region.wanted, if_true]
    unfold Oper.wp
    rw [h a ha _ _ _ w (Below.refl _ _)]
    exact hk

/-! ### Guards -/

theorem yielded_at {a : Act} (ha : Env n L a) {j tj : Nat} {g : Bool} (hj : (ops[j]?).bind (·.dst) = some tj) (hg : look L tj = some (.bool g)) : yielded ops a.tmps j = some g := by
  unfold yielded
  rw [hj, Option.bind_some, ha.at_ _ _ hg]

theorem t_on {op : Op} {j tj : Nat} {b : Bool} {dst : Option Nat} (hj : (ops[j]?).bind (·.dst) = some tj) (hg : look L tj = some (.bool b)) (k : WT P n ops Q (.st m ⟨dst, op, ty, pos, af, none⟩ r) L w) : WT P n ops Q (.st m ⟨dst, op, ty, pos, af, some (j, b)⟩ r) L w := by
  intro a ha
  have hy := yielded_at ha hj hg
  have hk := k a ha
  cases m with
  | take =>
    obtain ⟨v, hv, hk⟩ := hk
    refine ⟨v, ?_, hk⟩
    rcases hv with ⟨_, hv⟩ | ⟨hv, _⟩
    · exact .inl ⟨by simp [Region.wanted, hy], hv⟩
    · cases hv
  | run => simpa [wpT, Region.wanted, hy, Oper.wp, Oper.upon, execOp] using hk
  | fin => simpa [wpT, Region.wanted, hy, Oper.wp, Oper.upon, execOp] using hk

theorem t_off {op : Op} {j tj : Nat} {b g : Bool} (hj : (ops[j]?).bind (·.dst) = some tj) (hg : look L tj = some (.bool g)) (hb : (g == b) = false) (k : WT P n ops Q r ((d, undef) :: L) w) (hn : Nat.blt d n = true) : WT P n ops Q (.st m ⟨some d, op, ty, pos, af, some (j, b)⟩ r) L w := by
  intro a ha
  have hy := yielded_at ha hj hg
  have hw : Region.wanted (⟨some d, op, ty, pos, af, some (j, b)⟩ : Oper) (yielded ops a.tmps) = false := by
    simp only [Region.wanted, hy]
    cases g <;> cases b <;> simp_all
  have hk := k _ (ha.put hn undef)
  cases m with
  | take => exact ⟨undef, .inr ⟨hw, rfl⟩, hk⟩
  | run => simp only [wpT, hw]; exact hk
  | fin => simp only [wpT, hw]; exact hk

theorem t_off0 {op : Op} {j tj : Nat} {b g : Bool} (hj : (ops[j]?).bind (·.dst) = some tj) (hg : look L tj = some (.bool g)) (hb : (g == b) = false) (k : WT P n ops Q r L w) : WT P n ops Q (.st m ⟨none, op, ty, pos, af, some (j, b)⟩ r) L w := by
  intro a ha
  have hy := yielded_at ha hj hg
  have hw : Region.wanted (⟨none, op, ty, pos, af, some (j, b)⟩ : Oper) (yielded ops a.tmps) = false := by
    simp only [Region.wanted, hy]
    cases g <;> cases b <;> simp_all
  have hk := k _ ha
  cases m with
  | take => exact ⟨undef, .inr ⟨hw, rfl⟩, hk⟩
  | run => simp only [wpT, hw]; exact hk
  | fin => simp only [wpT, hw]; exact hk

/-- Part on a slot's truth value: from here on it is known. -/
theorem t_part {T : IT} {t : Nat} {g : Bool} (hg : look L t = some (.bool g)) (ht : g = true → WT P n ops Q T ((t, .bool true) :: L) w) (hf : g = false → WT P n ops Q T ((t, .bool false) :: L) w) : WT P n ops Q T L w := by
  intro a ha
  have key : ∀ b, g = b → Env n ((t, .bool b) :: L) a := fun b hb => ⟨ha.defers, ha.size, fun s v hv => by
    rw [look_cons] at hv
    by_cases hs : s = t
    · subst hs
      rw [if_pos rfl] at hv
      cases hv
      subst hb
      exact ha.at_ _ _ hg
    · rw [if_neg hs] at hv
      exact ha.at_ _ _ hv⟩
  cases hb : g
  · exact hf hb a (key _ hb)
  · exact ht hb a (key _ hb)
theorem t_partp {T : IT} {t : Nat} {p : Prop} {dp : Decidable p} (hg : look L t = some (.bool (@decide p dp))) (ht : p → WT P n ops Q T ((t, .bool true) :: L) w) (hf : ¬ p → WT P n ops Q T ((t, .bool false) :: L) w) : WT P n ops Q T L w :=
  t_part hg (fun h => ht (of_decide_eq_true h)) (fun h => hf (of_decide_eq_false h))

/-! ### Values -/

theorem t_move {x : Operand} {v : Value} (hx : ev L x = some v) (k : WT P n ops Q r ((d, v) :: L) w) (hn : Nat.blt d n = true) : WT P n ops Q (.st m ⟨some d, .move x, ty, pos, af, none⟩ r) L w :=
  t_read (fun a ha _ _ _ w' _ => by simp [execOp, ha.ev hx]) k hn
theorem t_assign {x : Operand} {v : Value} (hx : ev L x = some v) (k : WT P n ops Q r ((d, v) :: L) w) (hn : Nat.blt d n = true) : WT P n ops Q (.st m ⟨some d, .assign x, ty, pos, af, none⟩ r) L w :=
  t_read (fun a ha _ _ _ w' _ => by simp [execOp, ha.ev hx]) k hn
theorem t_pickt {c x y : Operand} {v : Value} (hc : ev L c = some (.bool true)) (hx : ev L x = some v) (k : WT P n ops Q r ((d, v) :: L) w) (hn : Nat.blt d n = true) : WT P n ops Q (.st m ⟨some d, .pick c x y, ty, pos, af, none⟩ r) L w :=
  t_read (fun a ha _ _ _ w' _ => by simp [execOp, ha.ev hx, ha.ev hc, asBool]) k hn
theorem t_pickf {c x y : Operand} {v : Value} (hc : ev L c = some (.bool false)) (hx : ev L y = some v) (k : WT P n ops Q r ((d, v) :: L) w) (hn : Nat.blt d n = true) : WT P n ops Q (.st m ⟨some d, .pick c x y, ty, pos, af, none⟩ r) L w :=
  t_read (fun a ha _ _ _ w' _ => by simp [execOp, ha.ev hx, ha.ev hc, asBool]) k hn
theorem t_extract {x : Operand} {vs : Array Value} {i : Nat} {v : Value} (hx : ev L x = some (.tuple vs)) (hi : vs[i]? = some v) (k : WT P n ops Q r ((d, v) :: L) w) (hn : Nat.blt d n = true) : WT P n ops Q (.st m ⟨some d, .extract x i, ty, pos, af, none⟩ r) L w :=
  t_read (fun a ha _ _ _ w' _ => by simp [execOp, ha.ev hx, Instr.extract, hi]) k hn

theorem wr64 {a : Int} (h : -9223372036854775808 ≤ a ∧ a ≤ 9223372036854775807) : IntKind.i64.wrap a = a := Go.IntWalk.i64_in _ h

theorem t_add {x y : Operand} {t t' : TypeId} {a b : Int} (hx : ev L x = some (I a)) (hy : ev L y = some (I b)) (hr : -9223372036854775808 ≤ a + b ∧ a + b ≤ 9223372036854775807) (k : WT P n ops Q r ((d, I (a + b)) :: L) w) (hn : Nat.blt d n = true) : WT P n ops Q (.st m ⟨some d, .binOp .add t x y t', ty, pos, af, none⟩ r) L w :=
  t_read (fun e ha _ _ _ w' _ => by simp [execOp, ha.ev hx, ha.ev hy, eqGuard, binOp, Op.intArith, wr64 hr]) k hn
theorem t_addw {x y : Operand} {t t' : TypeId} {a b : Int} (hx : ev L x = some (I a)) (hy : ev L y = some (I b)) (k : WT P n ops Q r ((d, I (IntKind.i64.wrap (a + b))) :: L) w) (hn : Nat.blt d n = true) : WT P n ops Q (.st m ⟨some d, .binOp .add t x y t', ty, pos, af, none⟩ r) L w :=
  t_read (fun e ha _ _ _ w' _ => by simp [execOp, ha.ev hx, ha.ev hy, eqGuard, binOp, Op.intArith]) k hn
theorem t_sub {x y : Operand} {t t' : TypeId} {a b : Int} (hx : ev L x = some (I a)) (hy : ev L y = some (I b)) (hr : -9223372036854775808 ≤ a - b ∧ a - b ≤ 9223372036854775807) (k : WT P n ops Q r ((d, I (a - b)) :: L) w) (hn : Nat.blt d n = true) : WT P n ops Q (.st m ⟨some d, .binOp .sub t x y t', ty, pos, af, none⟩ r) L w :=
  t_read (fun e ha _ _ _ w' _ => by simp [execOp, ha.ev hx, ha.ev hy, eqGuard, binOp, Op.intArith, wr64 hr]) k hn
theorem t_subw {x y : Operand} {t t' : TypeId} {a b : Int} (hx : ev L x = some (I a)) (hy : ev L y = some (I b)) (k : WT P n ops Q r ((d, I (IntKind.i64.wrap (a - b))) :: L) w) (hn : Nat.blt d n = true) : WT P n ops Q (.st m ⟨some d, .binOp .sub t x y t', ty, pos, af, none⟩ r) L w :=
  t_read (fun e ha _ _ _ w' _ => by simp [execOp, ha.ev hx, ha.ev hy, eqGuard, binOp, Op.intArith]) k hn
theorem t_mul {x y : Operand} {t t' : TypeId} {a b : Int} (hx : ev L x = some (I a)) (hy : ev L y = some (I b)) (hr : -9223372036854775808 ≤ a * b ∧ a * b ≤ 9223372036854775807) (k : WT P n ops Q r ((d, I (a * b)) :: L) w) (hn : Nat.blt d n = true) : WT P n ops Q (.st m ⟨some d, .binOp .mul t x y t', ty, pos, af, none⟩ r) L w :=
  t_read (fun e ha _ _ _ w' _ => by simp [execOp, ha.ev hx, ha.ev hy, eqGuard, binOp, Op.intArith, wr64 hr]) k hn
theorem t_mulw {x y : Operand} {t t' : TypeId} {a b : Int} (hx : ev L x = some (I a)) (hy : ev L y = some (I b)) (k : WT P n ops Q r ((d, I (IntKind.i64.wrap (a * b))) :: L) w) (hn : Nat.blt d n = true) : WT P n ops Q (.st m ⟨some d, .binOp .mul t x y t', ty, pos, af, none⟩ r) L w :=
  t_read (fun e ha _ _ _ w' _ => by simp [execOp, ha.ev hx, ha.ev hy, eqGuard, binOp, Op.intArith]) k hn

theorem t_lss {x y : Operand} {t t' : TypeId} {kd : IntKind} {a b : Int} (hx : ev L x = some (.int kd a)) (hy : ev L y = some (.int kd b)) (k : WT P n ops Q r ((d, .bool (decide (a < b))) :: L) w) (hn : Nat.blt d n = true) : WT P n ops Q (.st m ⟨some d, .binOp .lss t x y t', ty, pos, af, none⟩ r) L w :=
  t_read (fun e ha _ _ _ w' _ => by simp [execOp, ha.ev hx, ha.ev hy, eqGuard, binOp, Op.intCmp]) k hn
theorem t_leq {x y : Operand} {t t' : TypeId} {kd : IntKind} {a b : Int} (hx : ev L x = some (.int kd a)) (hy : ev L y = some (.int kd b)) (k : WT P n ops Q r ((d, .bool (decide (a ≤ b))) :: L) w) (hn : Nat.blt d n = true) : WT P n ops Q (.st m ⟨some d, .binOp .leq t x y t', ty, pos, af, none⟩ r) L w :=
  t_read (fun e ha _ _ _ w' _ => by simp [execOp, ha.ev hx, ha.ev hy, eqGuard, binOp, Op.intCmp]) k hn
theorem t_gtr {x y : Operand} {t t' : TypeId} {kd : IntKind} {a b : Int} (hx : ev L x = some (.int kd a)) (hy : ev L y = some (.int kd b)) (k : WT P n ops Q r ((d, .bool (decide (b < a))) :: L) w) (hn : Nat.blt d n = true) : WT P n ops Q (.st m ⟨some d, .binOp .gtr t x y t', ty, pos, af, none⟩ r) L w :=
  t_read (fun e ha _ _ _ w' _ => by simp [execOp, ha.ev hx, ha.ev hy, eqGuard, binOp, Op.intCmp]) k hn
theorem t_geq {x y : Operand} {t t' : TypeId} {kd : IntKind} {a b : Int} (hx : ev L x = some (.int kd a)) (hy : ev L y = some (.int kd b)) (k : WT P n ops Q r ((d, .bool (decide (b ≤ a))) :: L) w) (hn : Nat.blt d n = true) : WT P n ops Q (.st m ⟨some d, .binOp .geq t x y t', ty, pos, af, none⟩ r) L w :=
  t_read (fun e ha _ _ _ w' _ => by simp [execOp, ha.ev hx, ha.ev hy, eqGuard, binOp, Op.intCmp]) k hn
theorem t_eql {x y : Operand} {t t' : TypeId} {kd : IntKind} {a b : Int} (hx : ev L x = some (.int kd a)) (hy : ev L y = some (.int kd b)) (k : WT P n ops Q r ((d, .bool (decide (a = b))) :: L) w) (hn : Nat.blt d n = true) : WT P n ops Q (.st m ⟨some d, .binOp .eql t x y t', ty, pos, af, none⟩ r) L w :=
  t_read (fun e ha _ _ _ w' _ => by simp [execOp, ha.ev hx, ha.ev hy, eqGuard, binOp, Op.intCmp]; rfl) k hn
theorem t_neq {x y : Operand} {t t' : TypeId} {kd : IntKind} {a b : Int} (hx : ev L x = some (.int kd a)) (hy : ev L y = some (.int kd b)) (k : WT P n ops Q r ((d, .bool (decide (a ≠ b))) :: L) w) (hn : Nat.blt d n = true) : WT P n ops Q (.st m ⟨some d, .binOp .neq t x y t', ty, pos, af, none⟩ r) L w :=
  t_read (fun e ha _ _ _ w' _ => by simp [execOp, ha.ev hx, ha.ev hy, eqGuard, binOp, Op.intCmp, bne]; rfl) k hn
theorem run_eq_bool {t : TypeId} (ht : P.underlying t = some .bool) (a b : Bool) (w : World) : (Op.equal t (.bool a) (.bool b)).run P w = .ok (a == b) w := by
  unfold Op.equal
  obtain ⟨d, hd⟩ : ∃ d, Op.maxDepth = d + 1 := ⟨9999, rfl⟩
  rw [hd]
  simp [Op.equalIn, run_underlying ht]
theorem t_neqb {x y : Operand} {t t' : TypeId} {a b : Bool} (ht : P.underlying t = some .bool) (hx : ev L x = some (.bool a)) (hy : ev L y = some (.bool b)) (k : WT P n ops Q r ((d, .bool (decide (a ≠ b))) :: L) w) (hn : Nat.blt d n = true) : WT P n ops Q (.st m ⟨some d, .binOp .neq t x y t', ty, pos, af, none⟩ r) L w :=
  t_read (fun e ha _ _ _ w' _ => by
    have h := run_eq_bool (P := P) ht a b w'
    have e : (!(a == b)) = decide (a ≠ b) := by cases a <;> cases b <;> rfl
    simp [execOp, ha.ev hx, ha.ev hy, eqGuard, binOp, h]
    try (cases a <;> cases b <;> rfl)) k hn
theorem t_rem {x y : Operand} {t t' : TypeId} {a b : Int} (hx : ev L x = some (I a)) (hy : ev L y = some (I b)) (hr : 0 ≤ a ∧ 0 < b) (k : WT P n ops Q r ((d, I (a % b)) :: L) w) (hn : Nat.blt d n = true) : WT P n ops Q (.st m ⟨some d, .binOp .rem t x y t', ty, pos, af, none⟩ r) L w :=
  t_read (fun e ha _ _ _ w' _ => by
    have hb : b ≠ 0 := by omega
    simp [execOp, ha.ev hx, ha.ev hy, eqGuard, binOp, Op.intDiv, hb, Int.tmod_eq_emod_of_nonneg hr.1]) k hn
theorem t_remt {x y : Operand} {t t' : TypeId} {a b : Int} (hx : ev L x = some (I a)) (hy : ev L y = some (I b)) (hr : b ≠ 0) (k : WT P n ops Q r ((d, I (a.tmod b)) :: L) w) (hn : Nat.blt d n = true) : WT P n ops Q (.st m ⟨some d, .binOp .rem t x y t', ty, pos, af, none⟩ r) L w :=
  t_read (fun e ha _ _ _ w' _ => by simp [execOp, ha.ev hx, ha.ev hy, eqGuard, binOp, Op.intDiv, hr]) k hn
theorem t_quo {x y : Operand} {t t' : TypeId} {a b : Int} (hx : ev L x = some (I a)) (hy : ev L y = some (I b)) (hr : 0 ≤ a ∧ 0 < b ∧ a ≤ 9223372036854775807) (k : WT P n ops Q r ((d, I (a / b)) :: L) w) (hn : Nat.blt d n = true) : WT P n ops Q (.st m ⟨some d, .binOp .quo t x y t', ty, pos, af, none⟩ r) L w :=
  t_read (fun e ha _ _ _ w' _ => by
    have hb : b ≠ 0 := by omega
    have h1 : 0 ≤ a / b := Int.ediv_nonneg hr.1 (by omega)
    have h2 : a / b ≤ a := Int.ediv_le_self b hr.1
    simp [execOp, ha.ev hx, ha.ev hy, eqGuard, binOp, Op.intDiv, hb, Int.tdiv_eq_ediv_of_nonneg hr.1, wr64 (a := a / b) (by omega)]) k hn
theorem t_not {x : Operand} {t : TypeId} {p : Prop} {dp : Decidable p} (hx : ev L x = some (.bool (@decide p dp))) (k : WT P n ops Q r ((d, .bool (decide (¬ p))) :: L) w) (hn : Nat.blt d n = true) : WT P n ops Q (.st m ⟨some d, .unOp .not t x, ty, pos, af, none⟩ r) L w :=
  t_read (fun e ha _ _ _ w' _ => by simp [execOp, ha.ev hx, Op.unary]) k hn
theorem t_notb {x : Operand} {t : TypeId} {b : Bool} (hx : ev L x = some (.bool b)) (k : WT P n ops Q r ((d, .bool (!b)) :: L) w) (hn : Nat.blt d n = true) : WT P n ops Q (.st m ⟨some d, .unOp .not t x, ty, pos, af, none⟩ r) L w :=
  t_read (fun e ha _ _ _ w' _ => by simp [execOp, ha.ev hx, Op.unary]) k hn

/-! ### Calls -/

def Md.isTake : Md → Bool
  | .take => true
  | _ => false

theorem exec_call {a : Act} {f : FuncId} {xs : List Operand} {at_ : Array TypeId} {dst : Option Nat} {gd : Option (Nat × Bool)} : execOp a.eval ⟨dst, .call ⟨.value (.func f), xs.toArray, at_⟩, ty, pos, af, gd⟩ = callFunc f (xs.map a.eval).toArray := by
  show callFunc f (#[] ++ xs.toArray.map a.eval ++ #[]) = _
  simp

/-- A call of a function that makes new memory alone. -/
theorem t_call {f : FuncId} {xs : List Operand} {at_ : Array TypeId} {vs : List Value} {R : Ending → World → Prop} (hcall : ∀ as w, (callFunc f as).run P w = .ok (.enter f as) w) (hv : evs L xs = some vs) (hc : Calls P f vs.toArray w R)
    (k : ∀ e w', R e w' → ∃ v, e = .returned v ∧ Ext w w' ∧ WT P n ops Q r ((d, v) :: L) w') (hm : m.isTake = false) (hn : Nat.blt d n = true) : WT P n ops Q (.st m ⟨some d, .call ⟨.value (.func f), xs.toArray, at_⟩, ty, pos, af, none⟩ r) L w := by
  intro a ha
  cases m with
  | take => cases hm
  | run =>
    simp only [wpT, Region.wanted, if_true]
    unfold Oper.wp
    rw [exec_call, ha.evs hv, hcall]
    refine hc.mono fun e w' he => ?_
    obtain ⟨v, rfl, hx, hk⟩ := k e w' he
    exact ⟨hx, hk _ (ha.put hn v)⟩
  | fin =>
    simp only [wpT, Region.wanted, if_true]
    unfold Oper.wp
    rw [exec_call, ha.evs hv, hcall]
    refine hc.mono fun e w' he => ?_
    obtain ⟨v, rfl, hx, hk⟩ := k e w' he
    exact hk _ (ha.put hn v)
/-- A call of a function that writes. -/
theorem t_callf {f : FuncId} {xs : List Operand} {at_ : Array TypeId} {vs : List Value} {R : Ending → World → Prop} (hcall : ∀ as w, (callFunc f as).run P w = .ok (.enter f as) w) (hv : evs L xs = some vs) (hc : Calls P f vs.toArray w R)
    (k : ∀ e w', R e w' → ∃ v, e = .returned v ∧ WT P n ops Q r ((d, v) :: L) w') (hn : Nat.blt d n = true) : WT P n ops Q (.st .fin ⟨some d, .call ⟨.value (.func f), xs.toArray, at_⟩, ty, pos, af, none⟩ r) L w := by
  intro a ha
  simp only [wpT, Region.wanted, if_true]
  unfold Oper.wp
  rw [exec_call, ha.evs hv, hcall]
  refine hc.mono fun e w' he => ?_
  obtain ⟨v, rfl, hk⟩ := k e w' he
  exact hk _ (ha.put hn v)
/-- A call of a function that leaves the world as it is. -/
theorem t_calls {f : FuncId} {xs : List Operand} {at_ : Array TypeId} {vs : List Value} {v : Value} (hcall : ∀ as w, (callFunc f as).run P w = .ok (.enter f as) w) (hv : evs L xs = some vs) (hc : Calls P f vs.toArray w fun e w' => e = .returned v ∧ w = w')
    (k : WT P n ops Q r ((d, v) :: L) w) (hm : m.isTake = false) (hn : Nat.blt d n = true) : WT P n ops Q (.st m ⟨some d, .call ⟨.value (.func f), xs.toArray, at_⟩, ty, pos, af, none⟩ r) L w :=
  t_call hcall hv hc (fun e w' ⟨he, hw⟩ => ⟨v, he, hw ▸ Below.refl _ _, hw ▸ k⟩) hm hn
/-- A call that hands back a known value and makes new memory. -/
theorem t_callx {f : FuncId} {xs : List Operand} {at_ : Array TypeId} {vs : List Value} {v : Value} (hcall : ∀ as w, (callFunc f as).run P w = .ok (.enter f as) w) (hv : evs L xs = some vs) (hc : Calls P f vs.toArray w fun e w' => e = .returned v ∧ Below w.heap.size w w')
    (k : ∀ w', Ext w w' → WT P n ops Q r ((d, v) :: L) w') (hm : m.isTake = false) (hn : Nat.blt d n = true) : WT P n ops Q (.st m ⟨some d, .call ⟨.value (.func f), xs.toArray, at_⟩, ty, pos, af, none⟩ r) L w :=
  t_call hcall hv hc (fun e w' ⟨he, hw⟩ => ⟨v, he, hw, k w' hw⟩) hm hn

/-! ### The function -/

def frm : Nat → List Value → Frm
  | _, [] => []
  | i, v :: vs => (i, v) :: frm (i + 1) vs

theorem look_frm (vs : List Value) : ∀ i t v, look (frm i vs) t = some v → i ≤ t ∧ vs[t - i]? = some v := by
  induction vs with
  | nil => intro i t v h; cases h
  | cons u vs ih =>
    intro i t v h
    rw [frm, look_cons] at h
    by_cases ht : t = i
    · subst ht
      rw [if_pos rfl] at h
      exact ⟨Nat.le_refl _, by simpa using h⟩
    · rw [if_neg ht] at h
      obtain ⟨h1, h2⟩ := ih (i + 1) t v h
      refine ⟨by omega, ?_⟩
      rw [show t - i = (t - (i + 1)) + 1 by omega, List.getElem?_cons_succ]
      exact h2

theorem enter {f : FuncId} {fn : Func} {c : Code} {args : List Value} {R : Ending → World → Prop} (hf : P.funcs[f]? = some fn) (hb : fn.body = some c) (hn : fn.ntmps = n) (ha : Nat.ble args.length n = true) (h : W P n (bodyPost P fn R) c (frm 0 args) w) : Calls P f args.toArray w R := by
  have hl : args.length ≤ n := by simpa using ha
  refine calls_of_wp hf hb (h _ ⟨rfl, by simp [hn]; omega, fun t v hv => ?_⟩)
  obtain ⟨_, h2⟩ := look_frm args 0 t v hv
  have hlt : t < args.length := by
    have := (List.getElem?_eq_some_iff.1 h2).1
    omega
  show (args.toArray ++ _)[t]? = _
  rw [Array.getElem?_append_left (by simpa using hlt)]
  simpa using h2

theorem x_ret1 {fn : Func} {R : Ending → World → Prop} {t : Nat} {v : Value} (hr : fn.results = #[.tmp t]) (hv : look L t = some v) (h : R (.returned v) w) : WX n (bodyPost P fn R) .ret L w := by
  intro a ha
  have := ha.at_ _ _ hv
  exact bodyPost_ret (by simp [results, hr, this]) ha.defers h
theorem x_ret2 {fn : Func} {R : Ending → World → Prop} {t u : Nat} {v x : Value} (hr : fn.results = #[.tmp t, .tmp u]) (hv : look L t = some v) (hx : look L u = some x) (h : R (.returned (.tuple #[v, x])) w) : WX n (bodyPost P fn R) .ret L w := by
  intro a ha
  have h1 := ha.at_ _ _ hv
  have h2 := ha.at_ _ _ hx
  exact bodyPost_ret (by simp [results, hr, h1, h2]) ha.defers h
theorem x_ret3 {fn : Func} {R : Ending → World → Prop} {t u s : Nat} {v x y : Value} (hr : fn.results = #[.tmp t, .tmp u, .tmp s]) (hv : look L t = some v) (hx : look L u = some x) (hy : look L s = some y) (h : R (.returned (.tuple #[v, x, y])) w) : WX n (bodyPost P fn R) .ret L w := by
  intro a ha
  have h1 := ha.at_ _ _ hv
  have h2 := ha.at_ _ _ hx
  have h3 := ha.at_ _ _ hy
  exact bodyPost_ret (by simp [results, hr, h1, h2, h3]) ha.defers h
theorem x_end1 {fn : Func} {R : Ending → World → Prop} (h : WX n (bodyPost P fn R) .ret L w) : WX n (bodyPost P fn R) .normal L w := h
end

end Go.Proofs.Ytfgobdejlfojiaa
