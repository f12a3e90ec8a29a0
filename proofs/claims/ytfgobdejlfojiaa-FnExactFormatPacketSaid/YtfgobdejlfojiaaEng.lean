/- The engine: a walk of a function's code over a list of known slots; regions that draw their order by one plan. No program is named here. -/
import Derived.Test.YtfgobdejlfojiaaMemC
import Derived.OrdersHeld
namespace Go.Proofs.Ytfgobdejlfojiaa
open Go.RowKit
set_option linter.unusedVariables false

abbrev Ext (w w' : World) : Prop := Below w.heap.size w w'
abbrev Frm := List (Nat × Value)

def look : Frm → Nat → Option Value
  | [], _ => none
  | e :: L, s => bif Nat.beq s e.1 then some e.2 else look L s

def ev (L : Frm) : Operand → Option Value
  | .tmp t => look L t
  | .const v => some v
  | .global g => some (.pointer (some ⟨g, 0, none⟩))
  | .func f => some (.func (.func f) #[] #[])

def evs (L : Frm) : List Operand → Option (List Value)
  | [] => some []
  | x :: xs => match ev L x, evs L xs with
    | some v, some vs => some (v :: vs)
    | _, _ => none

/-- What is known of the slots. -/
structure Env (n : Nat) (L : Frm) (a : Act) : Prop where
  defers : a.defers = []
  size : a.tmps.size = n
  at_ : ∀ t v, look L t = some v → a.tmps[t]? = some v

theorem look_cons {L : Frm} {d t : Nat} {v : Value} : look ((d, v) :: L) t = if t = d then some v else look L t := by
  show (bif Nat.beq t d then some v else look L t) = _
  by_cases h : t = d
  · subst h; simp
  · have : Nat.beq t d = false := by
      cases hb : Nat.beq t d
      · rfl
      · exact absurd (Nat.eq_of_beq_eq_true hb) h
    simp [this, h]

theorem Env.put {n : Nat} {L : Frm} {a : Act} (h : Env n L a) {d : Nat} (hd : Nat.blt d n = true) (v : Value) : Env n ((d, v) :: L) (a.put (some d) v) := by
  have hd' : d < n := by simpa [Nat.blt_eq] using hd
  refine ⟨h.defers, by simp [Act.put, h.size], fun t u hu => ?_⟩
  rw [look_cons] at hu
  by_cases e : t = d
  · subst e
    rw [if_pos rfl] at hu
    injection hu with hu
    subst hu
    simp [Act.put, h.size, hd']
  · rw [if_neg e] at hu
    simp only [Act.put]
    rw [Array.getElem?_setIfInBounds_ne (Ne.symm e)]
    exact h.at_ t u hu

theorem Env.ev {n : Nat} {L : Frm} {a : Act} (h : Env n L a) {x : Operand} {v : Value} (hx : ev L x = some v) : a.eval x = v := by
  cases x with
  | tmp t =>
    have := h.at_ t v hx
    simp [Act.eval, this]
  | const u => cases hx; rfl
  | global g => cases hx; rfl
  | func f => cases hx; rfl

theorem Env.evs {n : Nat} {L : Frm} {a : Act} (h : Env n L a) {xs : List Operand} {vs : List Value} (hx : evs L xs = some vs) : xs.map a.eval = vs := by
  induction xs generalizing vs with
  | nil => cases hx; rfl
  | cons x t ih =>
    unfold Go.Proofs.Ytfgobdejlfojiaa.evs at hx
    split at hx
    · rename_i v vs' h1 h2
      cases hx
      rw [List.map_cons, h.ev h1, ih h2]
    · cases hx

/-- Every slot that L' names is known so from L. -/
def Sub : Frm → Frm → Prop
  | [], _ => True
  | e :: L', L => look L e.1 = some e.2 ∧ Sub L' L

theorem Env.sub {n : Nat} {L L' : Frm} {a : Act} (h : Env n L a) (hs : Sub L' L) : Env n L' a := by
  refine ⟨h.defers, h.size, ?_⟩
  induction L' with
  | nil => intro t v hv; cases hv
  | cons e L' ih =>
    obtain ⟨h1, h2⟩ := hs
    intro t v hv
    rw [show e = (e.1, e.2) from rfl, look_cons] at hv
    by_cases ht : t = e.1
    · subst ht
      rw [if_pos rfl] at hv
      rw [← hv] at *
      exact h.at_ _ _ (by rw [h1, hv])
    · rw [if_neg ht] at hv
      exact ih h2 t v hv

/-! ### Regions -/

inductive Md where
  | take | run | fin

inductive IT where
  | done
  | st (m : Md) (o : Oper) (r : IT)
  | alt (p q : IT)

def wpT (P : Program) (ops : Array Oper) (Q : Exit → Act → World → Prop) : IT → Act → World → Prop
  | .done, a, w => Q .normal a w
  | .st .take o r, a, w => ∃ v, YieldsIf P ops (Ext w) o v a ∧ wpT P ops Q r (a.put o.dst v) w
  | .st .run o r, a, w => if Region.wanted o (yielded ops a.tmps) = true then o.wp P a w (fun a' w' => Ext w w' ∧ wpT P ops Q r a' w') Q else wpT P ops Q r (a.put o.dst undef) w
  | .st .fin o r, a, w => if Region.wanted o (yielded ops a.tmps) = true then o.wp P a w (wpT P ops Q r) Q else wpT P ops Q r (a.put o.dst undef) w
  | .alt p q, a, w => wpT P ops Q p a w ∧ wpT P ops Q q a w

def finT : List Oper → IT
  | [] => .done
  | o :: l => .st .fin o (finT l)

theorem wpList_of_fin {P : Program} {ops : Array Oper} {Q : Exit → Act → World → Prop} (l : List Oper) : ∀ a w, wpT P ops Q (finT l) a w → wpList P ops Q l a w := by
  induction l with
  | nil => exact fun a w h => h
  | cons o l ih =>
    intro a w h
    simp only [finT, wpT] at h
    simp only [wpList]
    split
    · rename_i hw
      rw [if_pos hw] at h
      exact .inl (Oper.wp_mono (fun a w h => ih a w h) h)
    · rename_i hw
      rw [if_neg hw] at h
      exact ih _ _ h

/-- A plan for a region that draws its order: which operation next, by its place. -/
inductive Plan where
  | done
  | st (m : Md) (i : Nat) (r : Plan)
  | alt (p q : Plan)

def Plan.heads : Plan → List Nat
  | .done => []
  | .st _ i _ => [i]
  | .alt p q => p.heads ++ q.heads

def Plan.tree (ops : Array Oper) : Plan → IT
  | .done => .done
  | .st m i r => .st m (ops.getD i default) (r.tree ops)
  | .alt p q => .alt (p.tree ops) (q.tree ops)

/-- Operation j waits for i, by its edges or by those of one that it waits for. -/
def waits (ops : Array Oper) : Nat → Nat → Nat → Bool
  | 0, _, _ => false
  | f + 1, j, i => match ops[j]? with
    | some o => o.after.toList.any fun e => Region.binds .any e && (e.on == i || waits ops f e.on i)
    | none => false

/-- A place that is 'fin' in the plan: it waits for every one that is not. -/
def Plan.isFin (i : Nat) : Plan → Bool
  | .done => false
  | .st m j r => (i == j && (match m with | .fin => true | _ => false)) || r.isFin i
  | .alt p q => p.isFin i || q.isFin i

def Plan.ok (ops : Array Oper) (b : Bool) : Plan → Array Bool → Bool
  | .done, l => !b && (Region.ready .any ops l).isEmpty
  | .st .take i r, l => !b && Nat.blt i ops.size && Region.free .any ops l i && (Region.ready .any ops l).contains i && r.ok ops false (l.setIfInBounds i true)
  | .st .run i r, l => Nat.blt i ops.size && (b || Region.ready .any ops l == [i]) && r.ok ops false (l.setIfInBounds i true)
  | .st .fin i r, l => Nat.blt i ops.size && (b || Region.ready .any ops l == [i]) && r.ok ops false (l.setIfInBounds i true)
  | .alt p q, l => (b || (!(Region.ready .any ops l).isEmpty && (Region.ready .any ops l).all (fun i => (p.heads ++ q.heads).contains i))) && p.ok ops true l && q.ok ops true l

def Plan.len : Plan → Nat
  | .done => 0
  | .st _ _ r => r.len + 1
  | .alt p q => max p.len q.len

def modesIn (top : Plan) : Plan → Bool
  | .done => true
  | .st .fin i r => top.isFin i && modesIn top r
  | .st .take i r => !top.isFin i && modesIn top r
  | .st .run i r => !top.isFin i && modesIn top r
  | .alt p q => modesIn top p && modesIn top q

def Plan.whole (p : Plan) (ops : Array Oper) : Bool :=
  p.ok ops false (Array.replicate ops.size false) && modesIn p p && Nat.ble p.len ops.size && Region.noSelect ops &&
  (List.range ops.size).all fun j => !p.isFin j || (List.range ops.size).all fun i => p.isFin i || waits ops ops.size j i

section
variable {P : Program} {ops : Array Oper} {Q : Exit → Act → World → Prop} {S S' : World → Prop} {h1 : Nat → Bool}

def Closed (ops : Array Oper) (l : Array Bool) : Prop := ∀ j o, ops[j]? = some o → l.getD j false = true → ∀ e ∈ o.after, Region.binds .any e = true → l.getD e.on false = true

theorem Closed.waits {l : Array Bool} (hc : Closed ops l) : ∀ (f j i : Nat), (∀ o, ops[j]? = some o → ∀ e ∈ o.after, Region.binds .any e = true → l.getD e.on false = true) → waits ops f j i = true → l.getD i false = true := by
  intro f
  induction f with
  | zero => intro j i _ h; cases h
  | succ f ih =>
    intro j i hj h
    unfold Go.Proofs.Ytfgobdejlfojiaa.waits at h
    split at h
    · rename_i o ho
      obtain ⟨e, he, hb⟩ := List.any_eq_true.1 h
      rw [Bool.and_eq_true, Bool.or_eq_true] at hb
      have he' : e ∈ o.after := by simpa using he
      have hl := hj o ho e he' hb.1
      rcases hb.2 with h2 | h2
      · have : e.on = i := by simpa using h2
        rw [← this]; exact hl
      · exact ih e.on i (fun o' ho' => hc e.on o' ho' hl) h2
    · cases h

def wpAnyG (P : Program) (ops : Array Oper) (Q : Exit → Act → World → Prop) (S : World → Prop) (h1 : Nat → Bool) : Nat → Array Bool → Act → World → Prop
  | 0, l, a, w => Region.ready .any ops l = [] ∧ Q .normal a w
  | f + 1, l, a, w => (Region.ready .any ops l = [] → Q .normal a w) ∧
    ∀ i ∈ Region.ready .any ops l, wpOp P ops Q i (fun a' w' => (h1 i = true → S w') ∧ wpAnyG P ops Q S h1 f (l.setIfInBounds i true) a' w') a w

theorem wpAny_of_G : ∀ (f : Nat) (l : Array Bool) (a : Act) (w : World), wpAnyG P ops Q S h1 f l a w → wpAny P .any ops Q f l a w
  | 0, _, _, _, h => h
  | f + 1, _, _, _, h => ⟨h.1, fun i hi => wpOp_mono (fun a' w' h' => wpAny_of_G f _ a' w' h'.2) (h.2 i hi)⟩

theorem G_mono (hS : ∀ w, S w → S' w) : ∀ (f : Nat) (l : Array Bool) (a : Act) (w : World), wpAnyG P ops Q S h1 f l a w → wpAnyG P ops Q S' h1 f l a w
  | 0, _, _, _, h => h
  | f + 1, _, _, _, h => ⟨h.1, fun i hi => wpOp_mono (fun a' w' h' => ⟨fun hh => hS _ (h'.1 hh), G_mono hS f _ a' w' h'.2⟩) (h.2 i hi)⟩

theorem getD_set {l : Array Bool} {i j : Nat} (h : l.getD j true = true) : (l.setIfInBounds i true).getD j true = true := by
  by_cases hij : i = j
  · subst hij
    by_cases hlt : i < l.size
    · simp [hlt]
    · simp [hlt]
  · rw [getD_set_ne true hij]; exact h

theorem G_free : ∀ (f : Nat) (l : Array Bool) (a : Act) (w : World), (∀ i, i < ops.size → h1 i = true → l.getD i true = true) → wpAnyG P ops Q S h1 f l a w → wpAnyG P ops Q S' h1 f l a w
  | 0, _, _, _, _, h => h
  | f + 1, l, _, _, hl, h => ⟨h.1, fun i hi => wpOp_mono (fun a' w' h' => ⟨(fun hh => by
      obtain ⟨h2, o, ho, _⟩ := mem_ready.1 hi
      rw [hl i (Array.getElem?_eq_some_iff.1 ho).1 hh] at h2
      cases h2), G_free f _ a' w' (fun k hk hk' => getD_set (hl k hk hk')) h'.2⟩) (h.2 i hi)⟩

theorem Closed.set {l : Array Bool} (hc : Closed ops l) {i : Nat} (hi : i ∈ Region.ready .any ops l) : Closed ops (l.setIfInBounds i true) := by
  intro j o ho hj e he hb
  refine getD_set_true ?_
  by_cases hij : i = j
  · subst hij
    obtain ⟨_, o', ho', hall⟩ := mem_ready.1 hi
    rw [ho] at ho'
    cases ho'
    exact hall e he hb
  · rw [getD_set_ne false hij] at hj
    exact hc j o ho hj e he hb

theorem G_first (hph : ∀ j i, h1 j = false → h1 i = true → j < ops.size → i < ops.size → waits ops ops.size j i = true) {i : Nat} {oi : Oper} {v : Value} (hi : ops[i]? = some oi) (hi1 : h1 i = true) (hsel : ∀ (j : Nat) (o : Oper) cs b, ops[j]? = some o → o.op ≠ .select cs b)
    (hQ : ∀ c a w, Q (.panic c) (a.put oi.dst v) w → Q (.panic c) a w) :
    ∀ (fuel : Nat) (listed : Array Bool) (a : Act) (w : World), Closed ops listed →
      (∀ j oj, ops[j]? = some oj → j ≠ i → listed.getD j true = false → (∀ e ∈ oj.after, Region.binds .any e = true → e.on ≠ i) → oi.apart ops oj = true) →
      i ∈ Region.ready .any ops listed → YieldsIf P ops S oi v a → S w →
      wpAnyG P ops Q S h1 fuel (listed.setIfInBounds i true) (a.put oi.dst v) w → wpAnyG P ops Q S h1 (fuel + 1) listed a w := by
  intro fuel
  induction fuel with
  | zero =>
    intro listed a w _ _ hr hy hS H
    refine ⟨fun h => (by rw [h] at hr; cases hr), fun j hj => ?_⟩
    by_cases hji : j = i
    · subst hji; exact hy.wpOp hi hS ⟨fun _ => hS, H⟩
    · have := ready_mono hj hji
      rw [H.1] at this
      cases this
  | succ fuel ih =>
    intro listed a w hcl hfree hr hy hS H
    refine ⟨fun h => (by rw [h] at hr; cases hr), fun j hj => ?_⟩
    by_cases hji : j = i
    · subst hji; exact hy.wpOp hi hS ⟨fun _ => hS, H⟩
    · have hm := H.2 j (ready_mono hj hji)
      obtain ⟨hjun, oj, hoj, hall⟩ := mem_ready.1 hj
      have hilt : i < ops.size := (Array.getElem?_eq_some_iff.1 hi).1
      have hjlt : j < ops.size := (Array.getElem?_eq_some_iff.1 hoj).1
      have hnl : listed.getD i false ≠ true := fun h => by
        have h0 := (mem_ready.1 hr).1
        rcases Nat.lt_or_ge i listed.size with h' | h'
        · simp [h'] at h0 h; rw [h0] at h; cases h
        · simp [Array.getElem?_eq_none h'] at h
      have hj1 : h1 j = true := by
        cases hb : h1 j
        · exact absurd (hcl.waits _ _ _ (fun o ho => by rw [hoj] at ho; cases ho; exact hall) (hph j i hb hi1 hjlt hilt)) hnl
        · rfl
      have hnot : ∀ e ∈ oj.after, Region.binds .any e = true → e.on ≠ i := fun e he hb heq => hnl (heq ▸ hall e he hb)
      have h2 := wpOp_putIf hoj (hfree j oj hoj hji hjun hnot) (fun cs b => hsel i oi cs b hi) (fun cs b => hsel j oj cs b hoj) hQ hy hm
      have hfree' : ∀ k ok, ops[k]? = some ok → k ≠ i → (listed.setIfInBounds j true).getD k true = false →
          (∀ e ∈ ok.after, Region.binds .any e = true → e.on ≠ i) → oi.apart ops ok = true := fun k ok hk hki hun hno => by
        refine hfree k ok hk hki ?_ hno
        by_cases hjk : j = k
        · subst hjk; exact hjun
        · rw [getD_set_ne true hjk] at hun; exact hun
      refine wpOp_mono (fun a' w' h3 => ⟨h3.2.1, ih (listed.setIfInBounds j true) a' w' (hcl.set hj) hfree' (ready_mono hr (Ne.symm hji)) h3.1 (h3.2.1 hj1) ?_⟩) h2
      rw [Array.setIfInBounds_comm _ _ hji]
      exact h3.2.2

theorem G_done {l : Array Bool} {a : Act} {w : World} (hr : Region.ready .any ops l = []) (h : Q .normal a w) : ∀ f, wpAnyG P ops Q S h1 f l a w
  | 0 => ⟨hr, h⟩
  | _ + 1 => ⟨fun _ => h, by rw [hr]; simp⟩

theorem plan_sound (top : Plan) (hph : ∀ j i, top.isFin j = true → top.isFin i = false → j < ops.size → i < ops.size → waits ops ops.size j i = true) (hsel : ∀ (j : Nat) (o : Oper) cs b, ops[j]? = some o → o.op ≠ .select cs b)
    (hQ : ∀ c a w d v, Q (.panic c) (Act.put a d v) w → Q (.panic c) a w) (p : Plan) : ∀ (l : Array Bool) (a : Act) (w : World), Closed ops l → modesIn top p = true → wpT P ops Q (p.tree ops) a w →
      (p.ok ops false l = true → ∀ f, p.len ≤ f → wpAnyG P ops Q (Ext w) (fun i => !top.isFin i) f l a w) ∧
      (p.ok ops true l = true → ∀ f, p.len ≤ f + 1 → ∀ i ∈ p.heads, i ∈ Region.ready .any ops l → wpOp P ops Q i (fun a' w' => ((!top.isFin i) = true → Ext w w') ∧ wpAnyG P ops Q (Ext w) (fun i => !top.isFin i) f (l.setIfInBounds i true) a' w') a w) := by
  have hph' : ∀ j i, (!top.isFin j) = false → (!top.isFin i) = true → j < ops.size → i < ops.size → waits ops ops.size j i = true := fun j i h1 h2 => hph j i (by simpa using h1) (by simpa using h2)
  induction p with
  | done =>
    intro l a w hc hm hT
    refine ⟨fun hok f hf => G_done (by simpa [Plan.ok] using hok) hT f, fun hok => by simp [Plan.ok] at hok⟩
  | alt p q ihp ihq =>
    intro l a w hc hm hT
    simp only [modesIn, Bool.and_eq_true] at hm
    obtain ⟨hTp, hTq⟩ := hT
    have hp := ihp l a w hc hm.1 hTp
    have hq := ihq l a w hc hm.2 hTq
    have hB : p.ok ops true l = true → q.ok ops true l = true → ∀ f, max p.len q.len ≤ f + 1 → ∀ i ∈ p.heads ++ q.heads, i ∈ Region.ready .any ops l → wpOp P ops Q i (fun a' w' => ((!top.isFin i) = true → Ext w w') ∧ wpAnyG P ops Q (Ext w) (fun i => !top.isFin i) f (l.setIfInBounds i true) a' w') a w := by
      intro h1 h2 f hf i hi hr
      rcases List.mem_append.1 hi with hi | hi
      · exact hp.2 h1 f (by omega) i hi hr
      · exact hq.2 h2 f (by omega) i hi hr
    refine ⟨fun hok f hf => ?_, fun hok f hf i hi hr => ?_⟩
    · simp only [Plan.ok, Bool.and_eq_true, Bool.false_or] at hok
      obtain ⟨⟨⟨hne, hall⟩, h1⟩, h2⟩ := hok
      simp only [Plan.len] at hf
      have hpos : 0 < f := by
        cases hpl : p with
        | done => rw [hpl] at h1; simp [Plan.ok] at h1
        | st m i r => rw [hpl] at hf; simp only [Plan.len] at hf; omega
        | alt p1 q1 =>
          rcases Nat.eq_zero_or_pos f with h0 | h0
          · exfalso
            have key : ∀ p : Plan, p.ok ops true l = true → 0 < p.len := by
              intro p
              induction p with
              | done => intro h; simp [Plan.ok] at h
              | st m i r _ => intro _; simp [Plan.len]
              | alt p q ih1 _ => intro h; simp only [Plan.ok, Bool.true_or, Bool.true_and, Bool.and_eq_true] at h; have := ih1 h.1; simp only [Plan.len]; omega
            have := key p h1
            omega
          · exact h0
      obtain ⟨f, rfl⟩ : ∃ g, f = g + 1 := ⟨f - 1, by omega⟩
      refine ⟨fun h0 => by rw [h0] at hne; simp at hne, fun i hi => hB h1 h2 f hf i ?_ hi⟩
      have := List.all_eq_true.1 hall i hi
      simpa using this
    · simp only [Plan.ok, Bool.and_eq_true, Bool.true_or, Bool.true_and] at hok
      exact hB hok.1 hok.2 f hf i hi hr
  | st m i r ih =>
    have hop : Nat.blt i ops.size = true → ops[i]? = some (ops.getD i default) := fun h => by
      have : i < ops.size := by simpa [Nat.blt_eq] using h
      simp [this]
    cases m with
    | take =>
      intro l a w hc hm hT
      refine ⟨fun hok f hf => ?_, fun hok => by simp [Plan.ok] at hok⟩
      simp only [Plan.ok, Bool.and_eq_true, Bool.not_false, true_and] at hok
      obtain ⟨⟨⟨hlt, hfr⟩, hrd⟩, hr⟩ := hok
      simp only [modesIn, Bool.and_eq_true] at hm
      obtain ⟨v, hy, hT⟩ := hT
      simp only [Plan.len] at hf
      obtain ⟨f, rfl⟩ : ∃ g, f = g + 1 := ⟨f - 1, by omega⟩
      have hrd' : i ∈ Region.ready .any ops l := by simpa using hrd
      exact G_first hph' (hop hlt) hm.1 hsel (fun c a w h => hQ c a w _ _ h) f l a w hc (Region.free_spec (hop hlt) hfr) hrd' hy (Below.refl _ _) ((ih _ _ w (hc.set hrd') hm.2 hT).1 hr f (by omega))
    | run =>
      intro l a w hc hm hT
      simp only [modesIn, Bool.and_eq_true] at hm
      have hB : Nat.blt i ops.size = true → r.ok ops false (l.setIfInBounds i true) = true → i ∈ Region.ready .any ops l → ∀ f, r.len ≤ f → wpOp P ops Q i (fun a' w' => ((!top.isFin i) = true → Ext w w') ∧ wpAnyG P ops Q (Ext w) (fun i => !top.isFin i) f (l.setIfInBounds i true) a' w') a w := by
        intro hlt hr hrd f hf
        simp only [Plan.tree, wpT] at hT
        have ho' := hop hlt
        generalize ops.getD i default = o' at ho' hT
        unfold wpOp
        simp only [ho']
        split
        · rename_i hw
          rw [if_pos hw] at hT
          exact .inl (Oper.wp_mono (fun a' w' h => ⟨fun _ => h.1, G_mono (fun x hx => ext_trans h.1 hx) _ _ _ _ ((ih _ a' w' (hc.set hrd) hm.2 h.2).1 hr f hf)⟩) hT)
        · rename_i hw
          rw [if_neg hw] at hT
          exact ⟨fun _ => Below.refl _ _, (ih _ _ w (hc.set hrd) hm.2 hT).1 hr f hf⟩
      refine ⟨fun hok f hf => ?_, fun hok f hf j hj hrd => ?_⟩
      · simp only [Plan.ok, Bool.and_eq_true, Bool.false_or] at hok
        obtain ⟨⟨hlt, hrd⟩, hr⟩ := hok
        have hrd' : Region.ready .any ops l = [i] := by simpa using hrd
        simp only [Plan.len] at hf
        obtain ⟨f, rfl⟩ : ∃ g, f = g + 1 := ⟨f - 1, by omega⟩
        refine ⟨(fun h0 => by rw [h0] at hrd'; cases hrd'), fun j hj => ?_⟩
        have : j = i := by rw [hrd'] at hj; simpa using hj
        subst this
        exact hB hlt hr hj f (by omega)
      · simp only [Plan.ok, Bool.and_eq_true, Bool.true_or, and_true] at hok
        have : j = i := by simpa [Plan.heads] using hj
        subst this
        simp only [Plan.len] at hf
        exact hB hok.1 hok.2 hrd f (by omega)
    | fin =>
      intro l a w hc hm hT
      simp only [modesIn, Bool.and_eq_true] at hm
      have hB : Nat.blt i ops.size = true → r.ok ops false (l.setIfInBounds i true) = true → i ∈ Region.ready .any ops l → ∀ f, r.len ≤ f → wpOp P ops Q i (fun a' w' => ((!top.isFin i) = true → Ext w w') ∧ wpAnyG P ops Q (Ext w) (fun i => !top.isFin i) f (l.setIfInBounds i true) a' w') a w := by
        intro hlt hr hrd f hf
        have hlt' : i < ops.size := by simpa [Nat.blt_eq] using hlt
        have hall : ∀ k, k < ops.size → (!top.isFin k) = true → (l.setIfInBounds i true).getD k true = true := by
          intro k hks hk
          obtain ⟨_, o, ho, hedge⟩ := mem_ready.1 hrd
          have := hc.waits _ i k (fun o' ho' => by rw [ho] at ho'; cases ho'; exact hedge) (hph i k hm.1 (by simpa using hk) hlt' hks)
          have h2 : l.getD k true = true := by
            rcases Nat.lt_or_ge k l.size with h' | h'
            · simp [h'] at this ⊢; exact this
            · simp [Array.getElem?_eq_none h'] at this
          exact getD_set h2
        simp only [Plan.tree, wpT] at hT
        have ho' := hop hlt
        generalize ops.getD i default = o' at ho' hT
        unfold wpOp
        simp only [ho']
        split
        · rename_i hw
          rw [if_pos hw] at hT
          exact .inl (Oper.wp_mono (fun a' w' h => ⟨(fun hh => by rw [hm.1] at hh; cases hh), G_free _ _ _ _ hall ((ih _ a' w' (hc.set hrd) hm.2 h).1 hr f hf)⟩) hT)
        · rename_i hw
          rw [if_neg hw] at hT
          exact ⟨fun _ => Below.refl _ _, (ih _ _ w (hc.set hrd) hm.2 hT).1 hr f hf⟩
      refine ⟨fun hok f hf => ?_, fun hok f hf j hj hrd => ?_⟩
      · simp only [Plan.ok, Bool.and_eq_true, Bool.false_or] at hok
        obtain ⟨⟨hlt, hrd⟩, hr⟩ := hok
        have hrd' : Region.ready .any ops l = [i] := by simpa using hrd
        simp only [Plan.len] at hf
        obtain ⟨f, rfl⟩ : ∃ g, f = g + 1 := ⟨f - 1, by omega⟩
        refine ⟨(fun h0 => by rw [h0] at hrd'; cases hrd'), fun j hj => ?_⟩
        have : j = i := by rw [hrd'] at hj; simpa using hj
        subst this
        exact hB hlt hr hj f (by omega)
      · simp only [Plan.ok, Bool.and_eq_true, Bool.true_or, and_true] at hok
        have : j = i := by simpa [Plan.heads] using hj
        subst this
        simp only [Plan.len] at hf
        exact hB hok.1 hok.2 hrd f (by omega)
end

/-- No way out by a panic. -/
def NoP (Q : Exit → Act → World → Prop) : Exit → Act → World → Prop
  | .panic _, _, _ => False
  | e, a, w => Q e a w

theorem NoP.out {Q : Exit → Act → World → Prop} {e : Exit} {a : Act} {w : World} (h : NoP Q e a w) : Q e a w := by
  cases e <;> first | exact h | exact h.elim

/-- The walk's judgements: of a piece of code, of a region's operations. -/
def W (P : Program) (n : Nat) (Q : Exit → Act → World → Prop) (c : Code) (L : Frm) (w : World) : Prop := ∀ a, Env n L a → c.wp P Q a w
def WT (P : Program) (n : Nat) (ops : Array Oper) (Q : Exit → Act → World → Prop) (T : IT) (L : Frm) (w : World) : Prop := ∀ a, Env n L a → wpT P ops Q T a w
def WX (n : Nat) (Q : Exit → Act → World → Prop) (e : Exit) (L : Frm) (w : World) : Prop := ∀ a, Env n L a → Q e a w

section
variable {P : Program} {n : Nat} {Q : Exit → Act → World → Prop} {L : Frm} {w : World}

theorem w_wk {c : Code} (L' : Frm) (hs : Sub L' L) (h : W P n Q c L' w) : W P n Q c L w := fun a ha => h a (ha.sub hs)
theorem t_wk {ops : Array Oper} {T : IT} (L' : Frm) (hs : Sub L' L) (h : WT P n ops Q T L' w) : WT P n ops Q T L w := fun a ha => h a (ha.sub hs)

/-- A region in the order of the text. -/
theorem w_region {id : Nat} {l : List Oper} (h : WT P n l.toArray Q (finT l) L w) : W P n Q (.region id l.toArray false) L w :=
  fun a ha => wp_region_lit (wpList_of_fin l a w (h a ha))

/-- A region that draws its order, by a plan. -/
theorem w_draw {id : Nat} {ops : Array Oper} (p : Plan) (hm : P.follows .mixedOrders = true) (hp : p.whole ops = true) (h : ∀ w', Ext w w' → WT P n ops (NoP Q) (p.tree ops) L w') : W P n Q (.region id ops true) L w := by
  intro a ha
  refine wp_mono (wp_region_any hm ?_) (fun e a w h => NoP.out h)
  simp only [Plan.whole, Bool.and_eq_true] at hp
  obtain ⟨⟨⟨⟨h1, h2⟩, h3⟩, h4⟩, h5⟩ := hp
  have hph : ∀ j i, p.isFin j = true → p.isFin i = false → j < ops.size → i < ops.size → waits ops ops.size j i = true := by
    intro j i hj hi hjs his
    have h6 := List.all_eq_true.1 h5 j (List.mem_range.2 hjs)
    rw [hj] at h6
    simp only [Bool.not_true, Bool.false_or] at h6
    have h7 := List.all_eq_true.1 h6 i (List.mem_range.2 his)
    rw [hi] at h7
    simpa using h7
  have hc : Closed ops (Array.replicate ops.size false) := by
    intro j o _ hj
    exfalso
    rcases Nat.lt_or_ge j ops.size with h' | h'
    · simp [h'] at hj
    · simp [Array.getElem?_eq_none (xs := Array.replicate ops.size false) (i := j) (by simpa using h')] at hj
  exact wpAny_of_G _ _ _ _ ((plan_sound (Q := NoP Q) p hph (Region.noSelect_spec h4) (fun c a w d v h => h) p _ a w.drew hc h2 (h w.drew (below_drew w) a ha)).1 h1 _ (by simpa using h3))

theorem w_seq {x y : Code} (h : W P n (Exit.then (y.wp P Q) Q) x L w) : W P n Q (.seq x y) L w := fun a ha => wp_seq (h a ha)
theorem w_skip (h : WX n Q .normal L w) : W P n Q .skip L w := fun a ha => wp_skip (h a ha)
theorem w_exit {id : Nat} (h : WX n Q (.exit id) L w) : W P n Q (.exit id) L w := fun a ha => wp_exit (h a ha)
theorem w_ret (h : WX n Q .ret L w) : W P n Q .ret L w := fun a ha => wp_ret (h a ha)
theorem w_block {id : Nat} {c : Code} (h : W P n (Exit.inBlock id Q) c L w) : W P n Q (.block id c) L w := fun a ha => wp_block (h a ha)
theorem t_done {ops : Array Oper} (h : WX n Q .normal L w) : WT P n ops Q .done L w := h
theorem t_done' {ops : Array Oper} (h : WX n Q .normal L w) : WT P n ops (NoP Q) .done L w := h
theorem t_alt {ops : Array Oper} {p q : IT} (h : WT P n ops Q p L w) (k : WT P n ops Q q L w) : WT P n ops Q (.alt p q) L w := fun a ha => ⟨h a ha, k a ha⟩

theorem w_if {c : Operand} {x y : Code} {p : Prop} {d : Decidable p} (hc : ev L c = some (.bool (@decide p d))) (ht : p → W P n Q x L w) (hf : ¬ p → W P n Q y L w) : W P n Q (.cond c x y) L w := by
  intro a ha
  refine wp_cond_split (ha.ev hc) (fun h => ht (of_decide_eq_true h) a ha) (fun h => hf (of_decide_eq_false h) a ha)
theorem w_ifb {c : Operand} {x y : Code} {b : Bool} (hc : ev L c = some (.bool b)) (ht : b = true → W P n Q x L w) (hf : b = false → W P n Q y L w) : W P n Q (.cond c x y) L w :=
  fun a ha => wp_cond_split (ha.ev hc) (fun h => ht h a ha) (fun h => hf h a ha)
theorem w_yes {c : Operand} {x y : Code} (hc : ev L c = some (.bool true)) (h : W P n Q x L w) : W P n Q (.cond c x y) L w := fun a ha => wp_cond_true (ha.ev hc) (h a ha)
theorem w_no {c : Operand} {x y : Code} (hc : ev L c = some (.bool false)) (h : W P n Q y L w) : W P n Q (.cond c x y) L w := fun a ha => wp_cond_false (ha.ev hc) (h a ha)

/-- The ways out. -/
theorem x_seq {y : Code} (h : W P n Q y L w) : WX n (Exit.then (y.wp P Q) Q) .normal L w := h
theorem x_then_exit {K : Act → World → Prop} {id : Nat} (h : WX n Q (.exit id) L w) : WX n (Exit.then K Q) (.exit id) L w := h
theorem x_then_ret {K : Act → World → Prop} (h : WX n Q .ret L w) : WX n (Exit.then K Q) .ret L w := h
theorem x_block_exit {id : Nat} (h : WX n Q .normal L w) : WX n (Exit.inBlock id Q) (.exit id) L w := fun a ha => by
  show if id = id then _ else _
  rw [if_pos rfl]; exact h a ha
theorem x_block_other {id id' : Nat} (hne : Nat.beq id' id = false) (h : WX n Q (.exit id') L w) : WX n (Exit.inBlock id Q) (.exit id') L w := fun a ha => by
  show if id' = id then _ else _
  rw [if_neg (fun e => by subst e; simp at hne)]; exact h a ha
theorem x_block_normal {id : Nat} (h : WX n Q .normal L w) : WX n (Exit.inBlock id Q) .normal L w := h
theorem x_block_ret {id : Nat} (h : WX n Q .ret L w) : WX n (Exit.inBlock id Q) .ret L w := h

theorem least (M : Nat → Prop) (h : ∃ k, M k) : ∃ k, M k ∧ ∀ j, M j → k ≤ j := by
  obtain ⟨k, hk⟩ := h
  induction k using Nat.strongRecOn with
  | _ k ih =>
    by_cases h : ∃ j, j < k ∧ M j
    · obtain ⟨j, hj, hM⟩ := h
      exact ih j hj hM
    · refine ⟨k, hk, fun j hj => ?_⟩
      rcases Nat.lt_or_ge j k with hlt | hge
      · exact absurd ⟨j, hlt, hj⟩ h
      · exact hge

/-- A loop: what holds at every round's head, by letters x; a measure. -/
theorem w_loop {X : Type} (I : X → World → Prop) (F : X → Frm) (μ : X → Nat) {c : Code} (x0 : X) (h0 : I x0 w) (hs : Sub (F x0) L)
    (round : ∀ x w', I x w' → W P n (Exit.then (fun a' w'' => ∃ x', I x' w'' ∧ Env n (F x') a' ∧ μ x' < μ x) Q) c (F x) w') : W P n Q (.loop c) L w := by
  intro a ha
  classical
  let M : Act → World → Nat → Prop := fun a w k => ∃ x, I x w ∧ Env n (F x) a ∧ μ x = k
  let ν : Act → World → Nat := fun a w => if h : ∃ k, M a w k then Classical.choose (least _ h) else 0
  have hν : ∀ a w, (∃ k, M a w k) → M a w (ν a w) ∧ ∀ j, M a w j → ν a w ≤ j := fun a w h => by
    show M a w (dite _ _ _) ∧ ∀ j, M a w j → dite _ _ _ ≤ j
    rw [dif_pos h]
    exact Classical.choose_spec (least _ h)
  refine wp_loop (fun a w => ∃ k, M a w k) ν ⟨_, x0, h0, ha.sub hs, rfl⟩ fun a w hI => ?_
  obtain ⟨⟨x, h1, h2, h3⟩, _⟩ := hν a w hI
  refine wp_mono (round x w h1 a h2) fun e a' w' hq => ?_
  cases e with
  | normal =>
    obtain ⟨x', k1, k2, k3⟩ := hq
    have hM : ∃ k, M a' w' k := ⟨_, x', k1, k2, rfl⟩
    exact ⟨hM, by have := (hν a' w' hM).2 _ ⟨x', k1, k2, rfl⟩; omega⟩
  | _ => exact hq

theorem x_round {X : Type} {I : X → World → Prop} {F : X → Frm} {μ : X → Nat} {m : Nat} (x' : X) (hI : I x' w) (hs : Sub (F x') L) (hm : μ x' < m) :
    WX n (Exit.then (fun a' w'' => ∃ x', I x' w'' ∧ Env n (F x') a' ∧ μ x' < m) Q) .normal L w := fun a ha => ⟨x', hI, ha.sub hs, hm⟩
end

end Go.Proofs.Ytfgobdejlfojiaa
