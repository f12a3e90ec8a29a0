/- The engine for regions whose plan begins with steps that no world touches. No program is named here. -/
import Derived.Test.YtfgobdejlfojiaaMove
namespace Go.Proofs.Ytfgobdejlfojiaa
open Go.RowKit
set_option linter.unusedVariables false

def PreL (pre : List Nat) (l : Array Bool) : Prop := ∀ j, pre.contains j = true → l.getD j false = true
theorem getD_setF {l : Array Bool} {i j : Nat} (h : l.getD j false = true) : (l.setIfInBounds i true).getD j false = true := by
  by_cases hij : i = j
  · subst hij
    by_cases hlt : i < l.size
    · simp [hlt]
    · simp [hlt] at h
  · rw [getD_set_ne false hij]; exact h
theorem PreL.set {pre : List Nat} {l : Array Bool} (h : PreL pre l) (i : Nat) : PreL pre (l.setIfInBounds i true) := fun j hj => getD_setF (h j hj)
theorem PreL.not {pre : List Nat} {l : Array Bool} (h : PreL pre l) {j : Nat} (hj : l.getD j true = false) : pre.contains j = false := by
  cases hb : pre.contains j with
  | false => rfl
  | true =>
    have h2 := h j hb
    rcases Nat.lt_or_ge j l.size with h' | h'
    · simp [h'] at hj h2; rw [hj] at h2; cases h2
    · simp [Array.getElem?_eq_none h'] at h2
def hOne (pre : List Nat) (top : Plan) (i : Nat) : Bool := !top.isFin i && !pre.contains i
theorem PreL.one {pre : List Nat} {l : Array Bool} (h : PreL pre l) {top : Plan} {i : Nat} (hi : (!top.isFin i) = true) (hj : l.getD i true = false) : hOne pre top i = true := by
  unfold hOne
  rw [hi, h.not hj]
  rfl

section
variable {P : Program} {ops : Array Oper} {Q : Exit → Act → World → Prop} {S S' : World → Prop} {h1 : Nat → Bool}
theorem G_first2 (pre : List Nat) (hph : ∀ j i, pre.contains j = false → h1 j = false → h1 i = true → j < ops.size → i < ops.size → waits ops ops.size j i = true) {i : Nat} {oi : Oper} {v : Value} (hi : ops[i]? = some oi) (hi1 : h1 i = true) (hsel : ∀ (j : Nat) (o : Oper) cs b, ops[j]? = some o → o.op ≠ .select cs b)
    (hQ : ∀ c a w, Q (.panic c) (a.put oi.dst v) w → Q (.panic c) a w) :
    ∀ (fuel : Nat) (listed : Array Bool) (a : Act) (w : World), Closed ops listed → PreL pre listed →
      (∀ j oj, ops[j]? = some oj → j ≠ i → listed.getD j true = false → (∀ e ∈ oj.after, Region.binds .any e = true → e.on ≠ i) → oi.apart ops oj = true) →
      i ∈ Region.ready .any ops listed → YieldsIf P ops S oi v a → S w →
      wpAnyG P ops Q S h1 fuel (listed.setIfInBounds i true) (a.put oi.dst v) w → wpAnyG P ops Q S h1 (fuel + 1) listed a w := by
  intro fuel
  induction fuel with
  | zero =>
    intro listed a w _ _ _ hr hy hS H
    refine ⟨fun h => (by rw [h] at hr; cases hr), fun j hj => ?_⟩
    by_cases hji : j = i
    · subst hji; exact hy.wpOp hi hS ⟨fun _ => hS, H⟩
    · have := ready_mono hj hji
      rw [H.1] at this
      cases this
  | succ fuel ih =>
    intro listed a w hcl hpl hfree hr hy hS H
    refine ⟨fun h => (by rw [h] at hr; cases hr), fun j hj => ?_⟩
    by_cases hji : j = i
    · subst hji; exact hy.wpOp hi hS ⟨fun _ => hS, H⟩
    · have hm := H.2 j (ready_mono hj hji)
      obtain ⟨hjun, oj, hoj, hall⟩ := mem_ready.1 hj
      have hilt : i < ops.size := (Array.getElem?_eq_some_iff.1 hi).1
      have hjlt : j < ops.size := (Array.getElem?_eq_some_iff.1 hoj).1
      have hnl : listed.getD i false ≠ true := fun h => by
        have h0 := (mem_ready.1 hr).1
        rcases Nat.lt_or_ge i listed.size with h' | h'
        · simp [h'] at h0 h; rw [h0] at h; cases h
        · simp [Array.getElem?_eq_none h'] at h
      have hj1 : h1 j = true := by
        cases hb : h1 j
        · exact absurd (hcl.waits _ _ _ (fun o ho => by rw [hoj] at ho; cases ho; exact hall) (hph j i (hpl.not (mem_ready.1 hj).1) hb hi1 hjlt hilt)) hnl
        · rfl
      have hnot : ∀ e ∈ oj.after, Region.binds .any e = true → e.on ≠ i := fun e he hb heq => hnl (heq ▸ hall e he hb)
      have h2 := wpOp_putIf hoj (hfree j oj hoj hji hjun hnot) (fun cs b => hsel i oi cs b hi) (fun cs b => hsel j oj cs b hoj) hQ hy hm
      have hfree' : ∀ k ok, ops[k]? = some ok → k ≠ i → (listed.setIfInBounds j true).getD k true = false →
          (∀ e ∈ ok.after, Region.binds .any e = true → e.on ≠ i) → oi.apart ops ok = true := fun k ok hk hki hun hno => by
        refine hfree k ok hk hki ?_ hno
        by_cases hjk : j = k
        · subst hjk; exact hjun
        · rw [getD_set_ne true hjk] at hun; exact hun
      refine wpOp_mono (fun a' w' h3 => ⟨h3.2.1, ih (listed.setIfInBounds j true) a' w' (hcl.set hj) (hpl.set j) hfree' (ready_mono hr (Ne.symm hji)) h3.1 (h3.2.1 hj1) ?_⟩) h2
      rw [Array.setIfInBounds_comm _ _ hji]
      exact h3.2.2

theorem plan_sound2 (pre : List Nat) (top : Plan) (hph : ∀ j i, top.isFin j = true → top.isFin i = false → pre.contains i = false → j < ops.size → i < ops.size → waits ops ops.size j i = true) (hsel : ∀ (j : Nat) (o : Oper) cs b, ops[j]? = some o → o.op ≠ .select cs b)
    (hQ : ∀ c a w d v, Q (.panic c) (Act.put a d v) w → Q (.panic c) a w) (p : Plan) : ∀ (l : Array Bool) (a : Act) (w : World), Closed ops l → PreL pre l → modesIn top p = true → wpT P ops Q (p.tree ops) a w →
      (p.ok ops false l = true → ∀ f, p.len ≤ f → wpAnyG P ops Q (Ext w) (hOne pre top) f l a w) ∧
      (p.ok ops true l = true → ∀ f, p.len ≤ f + 1 → ∀ i ∈ p.heads, i ∈ Region.ready .any ops l → wpOp P ops Q i (fun a' w' => (hOne pre top i = true → Ext w w') ∧ wpAnyG P ops Q (Ext w) (hOne pre top) f (l.setIfInBounds i true) a' w') a w) := by
  have hph' : ∀ j i, pre.contains j = false → hOne pre top j = false → hOne pre top i = true → j < ops.size → i < ops.size → waits ops ops.size j i = true := fun j i hp h1 h2 => by
    simp only [hOne, Bool.and_eq_true, Bool.not_eq_true', Bool.and_eq_false_iff, Bool.not_eq_false'] at h1 h2
    rcases h1 with h1 | h1
    · exact hph j i h1 h2.1 h2.2
    · rw [hp] at h1; cases h1
  induction p with
  | done =>
    intro l a w hc hpl hm hT
    refine ⟨fun hok f hf => G_done (by simpa [Plan.ok] using hok) hT f, fun hok => by simp [Plan.ok] at hok⟩
  | alt p q ihp ihq =>
    intro l a w hc hpl hm hT
    simp only [modesIn, Bool.and_eq_true] at hm
    obtain ⟨hTp, hTq⟩ := hT
    have hp := ihp l a w hc hpl hm.1 hTp
    have hq := ihq l a w hc hpl hm.2 hTq
    have hB : p.ok ops true l = true → q.ok ops true l = true → ∀ f, max p.len q.len ≤ f + 1 → ∀ i ∈ p.heads ++ q.heads, i ∈ Region.ready .any ops l → wpOp P ops Q i (fun a' w' => (hOne pre top i = true → Ext w w') ∧ wpAnyG P ops Q (Ext w) (hOne pre top) f (l.setIfInBounds i true) a' w') a w := by
      intro h1 h2 f hf i hi hr
      rcases List.mem_append.1 hi with hi | hi
      · exact hp.2 h1 f (by omega) i hi hr
      · exact hq.2 h2 f (by omega) i hi hr
    refine ⟨fun hok f hf => ?_, fun hok f hf i hi hr => ?_⟩
    · simp only [Plan.ok, Bool.and_eq_true, Bool.false_or] at hok
      obtain ⟨⟨⟨hne, hall⟩, h1⟩, h2⟩ := hok
      simp only [Plan.len] at hf
      have hpos : 0 < f := by
        cases hpl : p with
        | done => rw [hpl] at h1; simp [Plan.ok] at h1
        | st m i r => rw [hpl] at hf; simp only [Plan.len] at hf; omega
        | alt p1 q1 =>
          rcases Nat.eq_zero_or_pos f with h0 | h0
          · exfalso
            have key : ∀ p : Plan, p.ok ops true l = true → 0 < p.len := by
              intro p
              induction p with
              | done => intro h; simp [Plan.ok] at h
              | st m i r _ => intro _; simp [Plan.len]
              | alt p q ih1 _ => intro h; simp only [Plan.ok, Bool.true_or, Bool.true_and, Bool.and_eq_true] at h; have := ih1 h.1; simp only [Plan.len]; omega
            have := key p h1
            omega
          · exact h0
      obtain ⟨f, rfl⟩ : ∃ g, f = g + 1 := ⟨f - 1, by omega⟩
      refine ⟨fun h0 => by rw [h0] at hne; simp at hne, fun i hi => hB h1 h2 f hf i ?_ hi⟩
      have := List.all_eq_true.1 hall i hi
      simpa using this
    · simp only [Plan.ok, Bool.and_eq_true, Bool.true_or, Bool.true_and] at hok
      exact hB hok.1 hok.2 f hf i hi hr
  | st m i r ih =>
    have hop : Nat.blt i ops.size = true → ops[i]? = some (ops.getD i default) := fun h => by
      have : i < ops.size := by simpa [Nat.blt_eq] using h
      simp [this]
    cases m with
    | take =>
      intro l a w hc hpl hm hT
      refine ⟨fun hok f hf => ?_, fun hok => by simp [Plan.ok] at hok⟩
      simp only [Plan.ok, Bool.and_eq_true, Bool.not_false, true_and] at hok
      obtain ⟨⟨⟨hlt, hfr⟩, hrd⟩, hr⟩ := hok
      simp only [modesIn, Bool.and_eq_true] at hm
      obtain ⟨v, hy, hT⟩ := hT
      simp only [Plan.len] at hf
      obtain ⟨f, rfl⟩ : ∃ g, f = g + 1 := ⟨f - 1, by omega⟩
      have hrd' : i ∈ Region.ready .any ops l := by simpa using hrd
      exact G_first2 pre hph' (hop hlt) (hpl.one hm.1 (mem_ready.1 hrd').1) hsel (fun c a w h => hQ c a w _ _ h) f l a w hc hpl (Region.free_spec (hop hlt) hfr) hrd' hy (Below.refl _ _) ((ih _ _ w (hc.set hrd') (hpl.set i) hm.2 hT).1 hr f (by omega))
    | run =>
      intro l a w hc hpl hm hT
      simp only [modesIn, Bool.and_eq_true] at hm
      have hB : Nat.blt i ops.size = true → r.ok ops false (l.setIfInBounds i true) = true → i ∈ Region.ready .any ops l → ∀ f, r.len ≤ f → wpOp P ops Q i (fun a' w' => (hOne pre top i = true → Ext w w') ∧ wpAnyG P ops Q (Ext w) (hOne pre top) f (l.setIfInBounds i true) a' w') a w := by
        intro hlt hr hrd f hf
        simp only [Plan.tree, wpT] at hT
        have ho' := hop hlt
        generalize ops.getD i default = o' at ho' hT
        unfold wpOp
        simp only [ho']
        split
        · rename_i hw
          rw [if_pos hw] at hT
          exact .inl (Oper.wp_mono (fun a' w' h => ⟨fun _ => h.1, G_mono (fun x hx => ext_trans h.1 hx) _ _ _ _ ((ih _ a' w' (hc.set hrd) (hpl.set i) hm.2 h.2).1 hr f hf)⟩) hT)
        · rename_i hw
          rw [if_neg hw] at hT
          exact ⟨fun _ => Below.refl _ _, (ih _ _ w (hc.set hrd) (hpl.set i) hm.2 hT).1 hr f hf⟩
      refine ⟨fun hok f hf => ?_, fun hok f hf j hj hrd => ?_⟩
      · simp only [Plan.ok, Bool.and_eq_true, Bool.false_or] at hok
        obtain ⟨⟨hlt, hrd⟩, hr⟩ := hok
        have hrd' : Region.ready .any ops l = [i] := by simpa using hrd
        simp only [Plan.len] at hf
        obtain ⟨f, rfl⟩ : ∃ g, f = g + 1 := ⟨f - 1, by omega⟩
        refine ⟨(fun h0 => by rw [h0] at hrd'; cases hrd'), fun j hj => ?_⟩
        have : j = i := by rw [hrd'] at hj; simpa using hj
        subst this
        exact hB hlt hr hj f (by omega)
      · simp only [Plan.ok, Bool.and_eq_true, Bool.true_or, and_true] at hok
        have : j = i := by simpa [Plan.heads] using hj
        subst this
        simp only [Plan.len] at hf
        exact hB hok.1 hok.2 hrd f (by omega)
    | fin =>
      intro l a w hc hpl hm hT
      simp only [modesIn, Bool.and_eq_true] at hm
      have hB : Nat.blt i ops.size = true → r.ok ops false (l.setIfInBounds i true) = true → i ∈ Region.ready .any ops l → ∀ f, r.len ≤ f → wpOp P ops Q i (fun a' w' => (hOne pre top i = true → Ext w w') ∧ wpAnyG P ops Q (Ext w) (hOne pre top) f (l.setIfInBounds i true) a' w') a w := by
        intro hlt hr hrd f hf
        have hlt' : i < ops.size := by simpa [Nat.blt_eq] using hlt
        have hall : ∀ k, k < ops.size → hOne pre top k = true → (l.setIfInBounds i true).getD k true = true := by
          intro k hks hk
          obtain ⟨_, o, ho, hedge⟩ := mem_ready.1 hrd
          have := hc.waits _ i k (fun o' ho' => by rw [ho] at ho'; cases ho'; exact hedge) (hph i k hm.1 (by simp only [hOne, Bool.and_eq_true, Bool.not_eq_true'] at hk; exact hk.1) (by simp only [hOne, Bool.and_eq_true, Bool.not_eq_true'] at hk; exact hk.2) hlt' hks)
          have h2 : l.getD k true = true := by
            rcases Nat.lt_or_ge k l.size with h' | h'
            · simp [h'] at this ⊢; exact this
            · simp [Array.getElem?_eq_none h'] at this
          exact getD_set h2
        simp only [Plan.tree, wpT] at hT
        have ho' := hop hlt
        generalize ops.getD i default = o' at ho' hT
        unfold wpOp
        simp only [ho']
        split
        · rename_i hw
          rw [if_pos hw] at hT
          exact .inl (Oper.wp_mono (fun a' w' h => ⟨(fun hh => by simp [hOne, hm.1] at hh), G_free _ _ _ _ hall ((ih _ a' w' (hc.set hrd) (hpl.set i) hm.2 h).1 hr f hf)⟩) hT)
        · rename_i hw
          rw [if_neg hw] at hT
          exact ⟨fun _ => Below.refl _ _, (ih _ _ w (hc.set hrd) (hpl.set i) hm.2 hT).1 hr f hf⟩
      refine ⟨fun hok f hf => ?_, fun hok f hf j hj hrd => ?_⟩
      · simp only [Plan.ok, Bool.and_eq_true, Bool.false_or] at hok
        obtain ⟨⟨hlt, hrd⟩, hr⟩ := hok
        have hrd' : Region.ready .any ops l = [i] := by simpa using hrd
        simp only [Plan.len] at hf
        obtain ⟨f, rfl⟩ : ∃ g, f = g + 1 := ⟨f - 1, by omega⟩
        refine ⟨(fun h0 => by rw [h0] at hrd'; cases hrd'), fun j hj => ?_⟩
        have : j = i := by rw [hrd'] at hj; simpa using hj
        subst this
        exact hB hlt hr hj f (by omega)
      · simp only [Plan.ok, Bool.and_eq_true, Bool.true_or, and_true] at hok
        have : j = i := by simpa [Plan.heads] using hj
        subst this
        simp only [Plan.len] at hf
        exact hB hok.1 hok.2 hrd f (by omega)

/-- A step that no world touches, and that nobody has to wait for with what he knows of the world. -/
theorem G_firstP {i : Nat} {oi : Oper} {v : Value} (hi : ops[i]? = some oi) (hi1 : h1 i = false) (hsel : ∀ (j : Nat) (o : Oper) cs b, ops[j]? = some o → o.op ≠ .select cs b)
    (hQ : ∀ c a w, Q (.panic c) (a.put oi.dst v) w → Q (.panic c) a w) :
    ∀ (fuel : Nat) (listed : Array Bool) (a : Act) (w : World),
      (∀ j oj, ops[j]? = some oj → j ≠ i → listed.getD j true = false → (∀ e ∈ oj.after, Region.binds .any e = true → e.on ≠ i) → oi.apart ops oj = true) →
      i ∈ Region.ready .any ops listed → YieldsIf P ops (fun _ => True) oi v a →
      wpAnyG P ops Q S h1 fuel (listed.setIfInBounds i true) (a.put oi.dst v) w → wpAnyG P ops Q S h1 (fuel + 1) listed a w := by
  intro fuel
  induction fuel with
  | zero =>
    intro listed a w _ hr hy H
    refine ⟨fun h => (by rw [h] at hr; cases hr), fun j hj => ?_⟩
    by_cases hji : j = i
    · subst hji; exact hy.wpOp hi trivial ⟨(fun hh => by rw [hi1] at hh; cases hh), H⟩
    · have := ready_mono hj hji
      rw [H.1] at this
      cases this
  | succ fuel ih =>
    intro listed a w hfree hr hy H
    refine ⟨fun h => (by rw [h] at hr; cases hr), fun j hj => ?_⟩
    by_cases hji : j = i
    · subst hji; exact hy.wpOp hi trivial ⟨(fun hh => by rw [hi1] at hh; cases hh), H⟩
    · have hm := H.2 j (ready_mono hj hji)
      obtain ⟨hjun, oj, hoj, hall⟩ := mem_ready.1 hj
      have hnl : listed.getD i false ≠ true := fun h => by
        have h0 := (mem_ready.1 hr).1
        rcases Nat.lt_or_ge i listed.size with h' | h'
        · simp [h'] at h0 h; rw [h0] at h; cases h
        · simp [Array.getElem?_eq_none h'] at h
      have hnot : ∀ e ∈ oj.after, Region.binds .any e = true → e.on ≠ i := fun e he hb heq => hnl (heq ▸ hall e he hb)
      have h2 := wpOp_putIf hoj (hfree j oj hoj hji hjun hnot) (fun cs b => hsel i oi cs b hi) (fun cs b => hsel j oj cs b hoj) hQ hy hm
      have hfree' : ∀ k ok, ops[k]? = some ok → k ≠ i → (listed.setIfInBounds j true).getD k true = false →
          (∀ e ∈ ok.after, Region.binds .any e = true → e.on ≠ i) → oi.apart ops ok = true := fun k ok hk hki hun hno => by
        refine hfree k ok hk hki ?_ hno
        by_cases hjk : j = k
        · subst hjk; exact hjun
        · rw [getD_set_ne true hjk] at hun; exact hun
      refine wpOp_mono (fun a' w' h3 => ⟨h3.2.1, ih (listed.setIfInBounds j true) a' w' hfree' (ready_mono hr (Ne.symm hji)) h3.1 ?_⟩) h2
      rw [Array.setIfInBounds_comm _ _ hji]
      exact h3.2.2

/-- Steps that no world touches, ahead of the rest. -/
def wpPre (P : Program) (ops : Array Oper) (Q : Exit → Act → World → Prop) : List Oper → IT → Act → World → Prop
  | [], T, a, w => wpT P ops Q T a w
  | o :: l, T, a, w => ∃ v, YieldsIf P ops (fun _ => True) o v a ∧ wpPre P ops Q l T (a.put o.dst v) w
def preOK (ops : Array Oper) : List Nat → Array Bool → Bool
  | [], _ => true
  | i :: t, l => Nat.blt i ops.size && Region.free .any ops l i && (Region.ready .any ops l).contains i && preOK ops t (l.setIfInBounds i true)
def preEnd : List Nat → Array Bool → Array Bool
  | [], l => l
  | i :: t, l => preEnd t (l.setIfInBounds i true)
theorem pre_sound (top : Plan) (all : List Nat) (hsel : ∀ (j : Nat) (o : Oper) cs b, ops[j]? = some o → o.op ≠ .select cs b) (hQ : ∀ c a w d v, Q (.panic c) (Act.put a d v) w → Q (.panic c) a w)
    (hph : ∀ j i, top.isFin j = true → top.isFin i = false → all.contains i = false → j < ops.size → i < ops.size → waits ops ops.size j i = true) (hm : modesIn top top = true) :
    ∀ (pre : List Nat) (l : Array Bool) (a : Act) (w : World), (∀ i ∈ pre, all.contains i = true) → (∀ i, all.contains i = true → l.getD i false = true ∨ i ∈ pre) → Closed ops l → preOK ops pre l = true → top.ok ops false (preEnd pre l) = true →
      wpPre P ops Q (pre.map fun i => ops.getD i default) (top.tree ops) a w → ∀ f, top.len ≤ f → wpAnyG P ops Q (Ext w) (hOne all top) (f + pre.length) l a w := by
  intro pre
  induction pre with
  | nil =>
    intro l a w hin hall hc hok htop hT f hf
    exact (plan_sound2 all top hph hsel hQ top l a w hc (fun j hj => (hall j hj).resolve_right (by simp)) hm hT).1 htop f hf
  | cons i t ih =>
    intro l a w hin hall hc hok htop hT f hf
    simp only [preOK, Bool.and_eq_true] at hok
    obtain ⟨⟨⟨hlt, hfr⟩, hrd⟩, hok⟩ := hok
    have hlt' : i < ops.size := by simpa [Nat.blt_eq] using hlt
    have hop : ops[i]? = some (ops.getD i default) := by simp [hlt']
    have hrd' : i ∈ Region.ready .any ops l := by simpa using hrd
    simp only [List.map_cons, wpPre] at hT
    obtain ⟨v, hy, hT⟩ := hT
    have hI := ih (l.setIfInBounds i true) _ w (fun j hj => hin j (List.mem_cons_of_mem _ hj)) (fun j hj => by
      rcases hall j hj with h | h
      · exact .inl (getD_setF h)
      · rcases List.mem_cons.1 h with h | h
        · subst h
          left
          have h0 := (mem_ready.1 hrd').1
          have : j < l.size := by
            rcases Nat.lt_or_ge j l.size with h' | h'
            · exact h'
            · simp [Array.getElem?_eq_none h'] at h0
          simp [this]
        · exact .inr h) (hc.set hrd') hok htop hT f hf
    have := G_firstP (S := Ext w) (h1 := hOne all top) hop (by unfold hOne; rw [hin i (by simp)]; simp) hsel (fun c a w h => hQ c a w _ _ h) (f + t.length) l a w (Region.free_spec hop hfr) hrd' hy hI
    simpa [Nat.add_assoc] using this
end

def wholeP (pre : List Nat) (p : Plan) (ops : Array Oper) : Bool :=
  preOK ops pre (Array.replicate ops.size false) && p.ok ops false (preEnd pre (Array.replicate ops.size false)) && modesIn p p && Nat.ble (p.len + pre.length) ops.size && Region.noSelect ops &&
  (List.range ops.size).all fun j => !p.isFin j || (List.range ops.size).all fun i => p.isFin i || pre.contains i || waits ops ops.size j i

section
variable {P : Program} {n : Nat} {Q : Exit → Act → World → Prop} {L : Frm} {w : World}
def WPre (P : Program) (n : Nat) (ops : Array Oper) (Q : Exit → Act → World → Prop) (l : List Oper) (T : IT) (L : Frm) (w : World) : Prop := ∀ a, Env n L a → wpPre P ops Q l T a w
theorem w_drawP {id : Nat} {ops : Array Oper} (pre : List Nat) (p : Plan) (hm : P.follows .mixedOrders = true) (hp : wholeP pre p ops = true) (h : ∀ w', Ext w w' → WPre P n ops (NoP Q) (pre.map fun i => ops.getD i default) (p.tree ops) L w') : W P n Q (.region id ops true) L w := by
  intro a ha
  refine wp_mono (wp_region_any hm ?_) (fun e a w h => NoP.out h)
  simp only [wholeP, Bool.and_eq_true] at hp
  obtain ⟨⟨⟨⟨⟨h0, h1⟩, h2⟩, h3⟩, h4⟩, h5⟩ := hp
  have hph : ∀ j i, p.isFin j = true → p.isFin i = false → pre.contains i = false → j < ops.size → i < ops.size → waits ops ops.size j i = true := by
    intro j i hj hi hpi hjs his
    have h6 := List.all_eq_true.1 h5 j (List.mem_range.2 hjs)
    rw [hj] at h6
    simp only [Bool.not_true, Bool.false_or] at h6
    have h7 := List.all_eq_true.1 h6 i (List.mem_range.2 his)
    rw [hi, hpi] at h7
    simpa using h7
  have hc : Closed ops (Array.replicate ops.size false) := by
    intro j o _ hj
    exfalso
    rcases Nat.lt_or_ge j ops.size with h' | h'
    · simp [h'] at hj
    · simp [Array.getElem?_eq_none (xs := Array.replicate ops.size false) (i := j) (by simpa using h')] at hj
  have h3' : p.len + pre.length ≤ ops.size := by simpa using h3
  have := pre_sound (Q := NoP Q) p pre (Region.noSelect_spec h4) (fun c a w d v h => h) hph h2 pre _ a w.drew (fun i hi => by simpa using hi) (fun i hi => .inr (by simpa using hi)) hc h0 h1 (h w.drew (below_drew w) a ha) (ops.size - pre.length) (by omega)
  rw [Nat.sub_add_cancel (by omega)] at this
  exact wpAny_of_G _ _ _ _ this

variable {ops : Array Oper} {l : List Oper} {T : IT} {d : Nat} {ty : TypeId} {pos : String} {af : Array Edge}
theorem p_done (h : WT P n ops Q T L w) : WPre P n ops Q [] T L w := h
theorem p_read {op : Op} {v : Value} (h : ∀ a, Env n L a → ∀ dst af gd w', (execOp a.eval ⟨dst, op, ty, pos, af, gd⟩).run P w' = .ok (.value v) w') (k : WPre P n ops Q l T ((d, v) :: L) w) (hn : Nat.blt d n = true) : WPre P n ops Q (⟨some d, op, ty, pos, af, none⟩ :: l) T L w := by
  intro a ha
  exact ⟨v, .inl ⟨rfl, fun w' _ => h a ha _ _ _ w'⟩, k _ (ha.put hn v)⟩
theorem p_move {x : Operand} {v : Value} (hx : ev L x = some v) (k : WPre P n ops Q l T ((d, v) :: L) w) (hn : Nat.blt d n = true) : WPre P n ops Q (⟨some d, .move x, ty, pos, af, none⟩ :: l) T L w :=
  p_read (fun a ha _ _ _ w' => by simp [execOp, ha.ev hx]) k hn
theorem p_add {x y : Operand} {t t' : TypeId} {a b : Int} (hx : ev L x = some (I a)) (hy : ev L y = some (I b)) (hr : -9223372036854775808 ≤ a + b ∧ a + b ≤ 9223372036854775807) (k : WPre P n ops Q l T ((d, I (a + b)) :: L) w) (hn : Nat.blt d n = true) : WPre P n ops Q (⟨some d, .binOp .add t x y t', ty, pos, af, none⟩ :: l) T L w :=
  p_read (fun e ha _ _ _ w' => by simp [execOp, ha.ev hx, ha.ev hy, eqGuard, binOp, Op.intArith, wr64 hr]) k hn
theorem p_sltv {t e : TypeId} {size bytes : Nat} (et : ElemT P t e size bytes) {A : Option Addr} {nn c : Nat} {xo hi : Operand} {k : Nat} {i : Int} (hx : ev L xo = some (.slice A nn c)) (hi' : ev L hi = some (I i)) (hik : i = ((k : Nat) : Int)) (hk : k ≤ c)
    (kk : WPre P n ops Q l T ((d, .slice A k c) :: L) w) (hn : Nat.blt d n = true) : WPre P n ops Q (⟨some d, .slice t xo none (some hi) none, ty, pos, af, none⟩ :: l) T L w := by
  obtain ⟨inf, z, hinf, _, hsz, _, _⟩ := et.info
  subst hik
  refine p_read (v := .slice A k c) (fun a ha _ _ _ w' => ?_) kk hn
  have hc : (0 : Int) ≤ (k : Int) ∧ (k : Int) ≤ (c : Int) := by omega
  cases A <;> simp [execOp, ha.ev hx, ha.ev hi', Instr.sliceAt, Instr.slice, Instr.sliceBounds, Instr.sliceBound, asIntOf, run_underlying et.und, hk, sizeOf, typeInfo, hinf, Addr.add]
theorem p_sldv {t e : TypeId} {size bytes : Nat} (et : ElemT P t e size bytes) {A : Option Addr} {nn c : Nat} {xo lo : Operand} {k : Nat} {i : Int} (hx : ev L xo = some (.slice A nn c)) (hi' : ev L lo = some (I i)) (hik : i = ((k : Nat) : Int)) (hk : k ≤ nn) (hc : nn ≤ c)
    (kk : WPre P n ops Q l T ((d, .slice (if c = k then A else A.map (·.add (k * size))) (nn - k) (c - k)) :: L) w) (hn : Nat.blt d n = true) : WPre P n ops Q (⟨some d, .slice t xo (some lo) none none, ty, pos, af, none⟩ :: l) T L w := by
  obtain ⟨inf, z, hinf, _, hsz, _, _⟩ := et.info
  subst hik
  refine p_read (fun a ha _ _ _ w' => ?_) kk hn
  have hc' : (0 : Int) ≤ (k : Int) ∧ (k : Int) ≤ (nn : Int) := by omega
  simp [execOp, ha.ev hx, ha.ev hi', Instr.sliceAt, Instr.slice, Instr.sliceBounds, Instr.sliceBound, asIntOf, run_underlying et.und, hk, sizeOf, typeInfo, hinf, hsz]
end
end Go.Proofs.Ytfgobdejlfojiaa
