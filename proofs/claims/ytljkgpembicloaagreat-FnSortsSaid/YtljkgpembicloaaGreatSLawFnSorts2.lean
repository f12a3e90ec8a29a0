/- What LawFnSorts needs of the texts below it, part 2: contracts of functions, plain lemmas. (Put together by slim.py.) -/
import Derived.Test.YtljkgpembicloaaGreatSLawFnSorts1
namespace Go.Proofs.YtljkgpembicloaaGreat
open Go.RowKit
set_option linter.unusedVariables false
set_option maxRecDepth 100000
def PreL (pre : List Nat) (l : Array Bool) : Prop := ∀ j, pre.contains j = true → l.getD j false = true
theorem getD_setF {l : Array Bool} {i j : Nat} (h : l.getD j false = true) : (l.setIfInBounds i true).getD j false = true := by
  by_cases hij : i = j
  · subst hij
    by_cases hlt : i < l.size
    · simp [hlt]
    · simp [hlt] at h
  · rw [getD_set_ne false hij]; exact h
theorem PreL.set {pre : List Nat} {l : Array Bool} (h : PreL pre l) (i : Nat) : PreL pre (l.setIfInBounds i true) := fun j hj => getD_setF (h j hj)
theorem PreL.not {pre : List Nat} {l : Array Bool} (h : PreL pre l) {j : Nat} (hj : l.getD j true = false) : pre.contains j = false := by
  cases hb : pre.contains j with
  | false => rfl
  | true =>
    have h2 := h j hb
    rcases Nat.lt_or_ge j l.size with h' | h'
    · simp [h'] at hj h2; rw [hj] at h2; cases h2
    · simp [Array.getElem?_eq_none h'] at h2
def hOne (pre : List Nat) (top : Plan) (i : Nat) : Bool := !top.isFin i && !pre.contains i
theorem PreL.one {pre : List Nat} {l : Array Bool} (h : PreL pre l) {top : Plan} {i : Nat} (hi : (!top.isFin i) = true) (hj : l.getD i true = false) : hOne pre top i = true := by
  unfold hOne
  rw [hi, h.not hj]
  rfl
section
variable {P : Program} {ops : Array Oper} {Q : Exit → Act → World → Prop} {S S' : World → Prop} {h1 : Nat → Bool}
theorem G_first2 (pre : List Nat) (hph : ∀ j i, pre.contains j = false → h1 j = false → h1 i = true → j < ops.size → i < ops.size → waits ops ops.size j i = true) {i : Nat} {oi : Oper} {v : Value} (hi : ops[i]? = some oi) (hi1 : h1 i = true) (hsel : ∀ (j : Nat) (o : Oper) cs b, ops[j]? = some o → o.op ≠ .select cs b)
    (hQ : ∀ c a w, Q (.panic c) (a.put oi.dst v) w → Q (.panic c) a w) :
    ∀ (fuel : Nat) (listed : Array Bool) (a : Act) (w : World), Closed ops listed → PreL pre listed →
      (∀ j oj, ops[j]? = some oj → j ≠ i → listed.getD j true = false → (∀ e ∈ oj.after, Region.binds .any e = true → e.on ≠ i) → oi.apart ops oj = true) →
      i ∈ Region.ready .any ops listed → YieldsIf P ops S oi v a → S w →
      wpAnyG P ops Q S h1 fuel (listed.setIfInBounds i true) (a.put oi.dst v) w → wpAnyG P ops Q S h1 (fuel + 1) listed a w := by
  intro fuel
  induction fuel with
  | zero =>
    intro listed a w _ _ _ hr hy hS H; refine ⟨fun h => (by rw [h] at hr; cases hr), fun j hj => ?_⟩
    by_cases hji : j = i
    · subst hji; exact hy.wpOp hi hS ⟨fun _ => hS, H⟩
    · have := ready_mono hj hji
      rw [H.1] at this; cases this
  | succ fuel ih =>
    intro listed a w hcl hpl hfree hr hy hS H; refine ⟨fun h => (by rw [h] at hr; cases hr), fun j hj => ?_⟩
    by_cases hji : j = i
    · subst hji; exact hy.wpOp hi hS ⟨fun _ => hS, H⟩
    · have hm := H.2 j (ready_mono hj hji)
      obtain ⟨hjun, oj, hoj, hall⟩ := mem_ready.1 hj; have hilt : i < ops.size := (Array.getElem?_eq_some_iff.1 hi).1; have hjlt : j < ops.size := (Array.getElem?_eq_some_iff.1 hoj).1
      have hnl : listed.getD i false ≠ true := fun h => by
        have h0 := (mem_ready.1 hr).1
        rcases Nat.lt_or_ge i listed.size with h' | h'
        · simp [h'] at h0 h; rw [h0] at h; cases h
        · simp [Array.getElem?_eq_none h'] at h
      have hj1 : h1 j = true := by
        cases hb : h1 j
        · exact absurd (hcl.waits _ _ _ (fun o ho => by rw [hoj] at ho; cases ho; exact hall) (hph j i (hpl.not (mem_ready.1 hj).1) hb hi1 hjlt hilt)) hnl
        · rfl
      have hnot : ∀ e ∈ oj.after, Region.binds .any e = true → e.on ≠ i := fun e he hb heq => hnl (heq ▸ hall e he hb)
      have h2 := wpOp_putIf hoj (hfree j oj hoj hji hjun hnot) (fun cs b => hsel i oi cs b hi) (fun cs b => hsel j oj cs b hoj) hQ hy hm
      have hfree' : ∀ k ok, ops[k]? = some ok → k ≠ i → (listed.setIfInBounds j true).getD k true = false →
          (∀ e ∈ ok.after, Region.binds .any e = true → e.on ≠ i) → oi.apart ops ok = true := fun k ok hk hki hun hno => by
        refine hfree k ok hk hki ?_ hno
        by_cases hjk : j = k
        · subst hjk; exact hjun
        · rw [getD_set_ne true hjk] at hun; exact hun
      refine wpOp_mono (fun a' w' h3 => ⟨h3.2.1, ih (listed.setIfInBounds j true) a' w' (hcl.set hj) (hpl.set j) hfree' (ready_mono hr (Ne.symm hji)) h3.1 (h3.2.1 hj1) ?_⟩) h2; rw [Array.setIfInBounds_comm _ _ hji]; exact h3.2.2
theorem plan_sound2 (pre : List Nat) (top : Plan) (hph : ∀ j i, top.isFin j = true → top.isFin i = false → pre.contains i = false → j < ops.size → i < ops.size → waits ops ops.size j i = true) (hsel : ∀ (j : Nat) (o : Oper) cs b, ops[j]? = some o → o.op ≠ .select cs b)
  (hQ : ∀ c a w d v, Q (.panic c) (Act.put a d v) w → Q (.panic c) a w) (p : Plan) : ∀ (l : Array Bool) (a : Act) (w : World), Closed ops l → PreL pre l → modesIn top p = true → wpT P ops Q (p.tree ops) a w →
   (p.ok ops false l = true → ∀ f, p.len ≤ f → wpAnyG P ops Q (Ext w) (hOne pre top) f l a w) ∧
   (p.ok ops true l = true → ∀ f, p.len ≤ f + 1 → ∀ i ∈ p.heads, i ∈ Region.ready .any ops l → wpOp P ops Q i (fun a' w' => (hOne pre top i = true → Ext w w') ∧ wpAnyG P ops Q (Ext w) (hOne pre top) f (l.setIfInBounds i true) a' w') a w) := by
 have hph' : ∀ j i, pre.contains j = false → hOne pre top j = false → hOne pre top i = true → j < ops.size → i < ops.size → waits ops ops.size j i = true := fun j i hp h1 h2 => by
  simp only [hOne, Bool.and_eq_true, Bool.not_eq_true', Bool.and_eq_false_iff, Bool.not_eq_false'] at h1 h2
  rcases h1 with h1 | h1
  ·exact hph j i h1 h2.1 h2.2
  ·rw [hp] at h1; cases h1
 induction p with
 | done =>
  intro l a w hc hpl hm hT; refine ⟨fun hok f hf => G_done (by simpa [Plan.ok] using hok) hT f, fun hok => by simp [Plan.ok] at hok⟩
 | alt p q ihp ihq =>
  intro l a w hc hpl hm hT
  simp only [modesIn, Bool.and_eq_true] at hm
  obtain ⟨hTp, hTq⟩ := hT; have hp := ihp l a w hc hpl hm.1 hTp; have hq := ihq l a w hc hpl hm.2 hTq
  have hB : p.ok ops true l = true → q.ok ops true l = true → ∀ f, max p.len q.len ≤ f + 1 → ∀ i ∈ p.heads ++ q.heads, i ∈ Region.ready .any ops l → wpOp P ops Q i (fun a' w' => (hOne pre top i = true → Ext w w') ∧ wpAnyG P ops Q (Ext w) (hOne pre top) f (l.setIfInBounds i true) a' w') a w := by
   intro h1 h2 f hf i hi hr
   rcases List.mem_append.1 hi with hi | hi
   ·exact hp.2 h1 f (by omega) i hi hr
   ·exact hq.2 h2 f (by omega) i hi hr
  refine ⟨fun hok f hf => ?_, fun hok f hf i hi hr => ?_⟩
  ·simp only [Plan.ok, Bool.and_eq_true, Bool.false_or] at hok
   obtain ⟨⟨⟨hne, hall⟩, h1⟩, h2⟩ := hok
   simp only [Plan.len] at hf
   have hpos : 0 < f := by
    cases hpl : p with
    | done => rw [hpl] at h1; simp [Plan.ok] at h1
    | st m i r => rw [hpl] at hf; simp only [Plan.len] at hf; omega
    | alt p1 q1 =>
     rcases Nat.eq_zero_or_pos f with h0 | h0
     ·exfalso
      have key : ∀ p : Plan, p.ok ops true l = true → 0 < p.len := by
       intro p
       induction p with
       | done => intro h; simp [Plan.ok] at h
       | st m i r _ => intro _; simp [Plan.len]
       | alt p q ih1 _ => intro h; simp only [Plan.ok, Bool.true_or, Bool.true_and, Bool.and_eq_true] at h; have := ih1 h.1; simp only [Plan.len]; omega
      have := key p h1
      omega
     ·exact h0
   obtain ⟨f, rfl⟩ : ∃ g, f = g + 1 := ⟨f - 1, by omega⟩; refine ⟨fun h0 => by rw [h0] at hne; simp at hne, fun i hi => hB h1 h2 f hf i ?_ hi⟩; have := List.all_eq_true.1 hall i hi
   simpa using this
  ·simp only [Plan.ok, Bool.and_eq_true, Bool.true_or, Bool.true_and] at hok
   exact hB hok.1 hok.2 f hf i hi hr
 | st m i r ih =>
  have hop : Nat.blt i ops.size = true → ops[i]? = some (ops.getD i default) := fun h => by
   have : i < ops.size := by simpa [Nat.blt_eq] using h
   simp [this]
  cases m with
  | take =>
   intro l a w hc hpl hm hT; refine ⟨fun hok f hf => ?_, fun hok => by simp [Plan.ok] at hok⟩
   simp only [Plan.ok, Bool.and_eq_true, Bool.not_false, true_and] at hok
   obtain ⟨⟨⟨hlt, hfr⟩, hrd⟩, hr⟩ := hok
   simp only [modesIn, Bool.and_eq_true] at hm
   obtain ⟨v, hy, hT⟩ := hT
   simp only [Plan.len] at hf
   obtain ⟨f, rfl⟩ : ∃ g, f = g + 1 := ⟨f - 1, by omega⟩
   have hrd' : i ∈ Region.ready .any ops l := by simpa using hrd
   exact G_first2 pre hph' (hop hlt) (hpl.one hm.1 (mem_ready.1 hrd').1) hsel (fun c a w h => hQ c a w _ _ h) f l a w hc hpl (Region.free_spec (hop hlt) hfr) hrd' hy (Below.refl _ _) ((ih _ _ w (hc.set hrd') (hpl.set i) hm.2 hT).1 hr f (by omega))
  | run =>
   intro l a w hc hpl hm hT
   simp only [modesIn, Bool.and_eq_true] at hm
   have hB : Nat.blt i ops.size = true → r.ok ops false (l.setIfInBounds i true) = true → i ∈ Region.ready .any ops l → ∀ f, r.len ≤ f → wpOp P ops Q i (fun a' w' => (hOne pre top i = true → Ext w w') ∧ wpAnyG P ops Q (Ext w) (hOne pre top) f (l.setIfInBounds i true) a' w') a w := by
    intro hlt hr hrd f hf
    simp only [Plan.tree, wpT] at hT
    have ho' := hop hlt
    generalize ops.getD i default = o' at ho' hT
    unfold wpOp
    simp only [ho']
    split
    ·rename_i hw
     rw [if_pos hw] at hT; exact .inl (Oper.wp_mono (fun a' w' h => ⟨fun _ => h.1, G_mono (fun x hx => ext_trans h.1 hx) _ _ _ _ ((ih _ a' w' (hc.set hrd) (hpl.set i) hm.2 h.2).1 hr f hf)⟩) hT)
    ·rename_i hw
     rw [if_neg hw] at hT; exact ⟨fun _ => Below.refl _ _, (ih _ _ w (hc.set hrd) (hpl.set i) hm.2 hT).1 hr f hf⟩
   refine ⟨fun hok f hf => ?_, fun hok f hf j hj hrd => ?_⟩
   ·simp only [Plan.ok, Bool.and_eq_true, Bool.false_or] at hok
    obtain ⟨⟨hlt, hrd⟩, hr⟩ := hok
    have hrd' : Region.ready .any ops l = [i] := by simpa using hrd
    simp only [Plan.len] at hf
    obtain ⟨f, rfl⟩ : ∃ g, f = g + 1 := ⟨f - 1, by omega⟩; refine ⟨(fun h0 => by rw [h0] at hrd'; cases hrd'), fun j hj => ?_⟩
    have : j = i := by rw [hrd'] at hj; simpa using hj
    subst this; exact hB hlt hr hj f (by omega)
   ·simp only [Plan.ok, Bool.and_eq_true, Bool.true_or, and_true] at hok
    have : j = i := by simpa [Plan.heads] using hj
    subst this
    simp only [Plan.len] at hf
    exact hB hok.1 hok.2 hrd f (by omega)
  | fin =>
   intro l a w hc hpl hm hT
   simp only [modesIn, Bool.and_eq_true] at hm
   have hB : Nat.blt i ops.size = true → r.ok ops false (l.setIfInBounds i true) = true → i ∈ Region.ready .any ops l → ∀ f, r.len ≤ f → wpOp P ops Q i (fun a' w' => (hOne pre top i = true → Ext w w') ∧ wpAnyG P ops Q (Ext w) (hOne pre top) f (l.setIfInBounds i true) a' w') a w := by
    intro hlt hr hrd f hf
    have hlt' : i < ops.size := by simpa [Nat.blt_eq] using hlt
    have hall : ∀ k, k < ops.size → hOne pre top k = true → (l.setIfInBounds i true).getD k true = true := by
     intro k hks hk; obtain ⟨_, o, ho, hedge⟩ := mem_ready.1 hrd; have := hc.waits _ i k (fun o' ho' => by rw [ho] at ho'; cases ho'; exact hedge) (hph i k hm.1 (by simp only [hOne, Bool.and_eq_true, Bool.not_eq_true'] at hk; exact hk.1) (by simp only [hOne, Bool.and_eq_true, Bool.not_eq_true'] at hk; exact hk.2) hlt' hks)
     have h2 : l.getD k true = true := by
      rcases Nat.lt_or_ge k l.size with h' | h'
      ·simp [h'] at this ⊢; exact this
      ·simp [Array.getElem?_eq_none h'] at this
     exact getD_set h2
    simp only [Plan.tree, wpT] at hT
    have ho' := hop hlt
    generalize ops.getD i default = o' at ho' hT
    unfold wpOp
    simp only [ho']
    split
    ·rename_i hw
     rw [if_pos hw] at hT; exact .inl (Oper.wp_mono (fun a' w' h => ⟨(fun hh => by simp [hOne, hm.1] at hh), G_free _ _ _ _ hall ((ih _ a' w' (hc.set hrd) (hpl.set i) hm.2 h).1 hr f hf)⟩) hT)
    ·rename_i hw
     rw [if_neg hw] at hT; exact ⟨fun _ => Below.refl _ _, (ih _ _ w (hc.set hrd) (hpl.set i) hm.2 hT).1 hr f hf⟩
   refine ⟨fun hok f hf => ?_, fun hok f hf j hj hrd => ?_⟩
   ·simp only [Plan.ok, Bool.and_eq_true, Bool.false_or] at hok
    obtain ⟨⟨hlt, hrd⟩, hr⟩ := hok
    have hrd' : Region.ready .any ops l = [i] := by simpa using hrd
    simp only [Plan.len] at hf
    obtain ⟨f, rfl⟩ : ∃ g, f = g + 1 := ⟨f - 1, by omega⟩; refine ⟨(fun h0 => by rw [h0] at hrd'; cases hrd'), fun j hj => ?_⟩
    have : j = i := by rw [hrd'] at hj; simpa using hj
    subst this; exact hB hlt hr hj f (by omega)
   ·simp only [Plan.ok, Bool.and_eq_true, Bool.true_or, and_true] at hok
    have : j = i := by simpa [Plan.heads] using hj
    subst this
    simp only [Plan.len] at hf
    exact hB hok.1 hok.2 hrd f (by omega)
/-- A step that no world touches, and that nobody has to wait for with what he knows of the world. -/
theorem G_firstP {i : Nat} {oi : Oper} {v : Value} (hi : ops[i]? = some oi) (hi1 : h1 i = false) (hsel : ∀ (j : Nat) (o : Oper) cs b, ops[j]? = some o → o.op ≠ .select cs b)
    (hQ : ∀ c a w, Q (.panic c) (a.put oi.dst v) w → Q (.panic c) a w) :
    ∀ (fuel : Nat) (listed : Array Bool) (a : Act) (w : World),
      (∀ j oj, ops[j]? = some oj → j ≠ i → listed.getD j true = false → (∀ e ∈ oj.after, Region.binds .any e = true → e.on ≠ i) → oi.apart ops oj = true) →
      i ∈ Region.ready .any ops listed → YieldsIf P ops (fun _ => True) oi v a →
      wpAnyG P ops Q S h1 fuel (listed.setIfInBounds i true) (a.put oi.dst v) w → wpAnyG P ops Q S h1 (fuel + 1) listed a w := by
  intro fuel
  induction fuel with
  | zero =>
    intro listed a w _ hr hy H; refine ⟨fun h => (by rw [h] at hr; cases hr), fun j hj => ?_⟩
    by_cases hji : j = i
    · subst hji; exact hy.wpOp hi trivial ⟨(fun hh => by rw [hi1] at hh; cases hh), H⟩
    · have := ready_mono hj hji
      rw [H.1] at this; cases this
  | succ fuel ih =>
    intro listed a w hfree hr hy H; refine ⟨fun h => (by rw [h] at hr; cases hr), fun j hj => ?_⟩
    by_cases hji : j = i
    · subst hji; exact hy.wpOp hi trivial ⟨(fun hh => by rw [hi1] at hh; cases hh), H⟩
    · have hm := H.2 j (ready_mono hj hji)
      obtain ⟨hjun, oj, hoj, hall⟩ := mem_ready.1 hj
      have hnl : listed.getD i false ≠ true := fun h => by
        have h0 := (mem_ready.1 hr).1
        rcases Nat.lt_or_ge i listed.size with h' | h'
        · simp [h'] at h0 h; rw [h0] at h; cases h
        · simp [Array.getElem?_eq_none h'] at h
      have hnot : ∀ e ∈ oj.after, Region.binds .any e = true → e.on ≠ i := fun e he hb heq => hnl (heq ▸ hall e he hb)
      have h2 := wpOp_putIf hoj (hfree j oj hoj hji hjun hnot) (fun cs b => hsel i oi cs b hi) (fun cs b => hsel j oj cs b hoj) hQ hy hm
      have hfree' : ∀ k ok, ops[k]? = some ok → k ≠ i → (listed.setIfInBounds j true).getD k true = false →
          (∀ e ∈ ok.after, Region.binds .any e = true → e.on ≠ i) → oi.apart ops ok = true := fun k ok hk hki hun hno => by
        refine hfree k ok hk hki ?_ hno
        by_cases hjk : j = k
        · subst hjk; exact hjun
        · rw [getD_set_ne true hjk] at hun; exact hun
      refine wpOp_mono (fun a' w' h3 => ⟨h3.2.1, ih (listed.setIfInBounds j true) a' w' hfree' (ready_mono hr (Ne.symm hji)) h3.1 ?_⟩) h2; rw [Array.setIfInBounds_comm _ _ hji]; exact h3.2.2
/-- Steps that no world touches, ahead of the rest. -/
def wpPre (P : Program) (ops : Array Oper) (Q : Exit → Act → World → Prop) : List Oper → IT → Act → World → Prop
  | [], T, a, w => wpT P ops Q T a w
  | o :: l, T, a, w => ∃ v, YieldsIf P ops (fun _ => True) o v a ∧ wpPre P ops Q l T (a.put o.dst v) w
def preOK (ops : Array Oper) : List Nat → Array Bool → Bool
  | [], _ => true
  | i :: t, l => Nat.blt i ops.size && Region.free .any ops l i && (Region.ready .any ops l).contains i && preOK ops t (l.setIfInBounds i true)
def preEnd : List Nat → Array Bool → Array Bool
  | [], l => l
  | i :: t, l => preEnd t (l.setIfInBounds i true)
theorem pre_sound (top : Plan) (all : List Nat) (hsel : ∀ (j : Nat) (o : Oper) cs b, ops[j]? = some o → o.op ≠ .select cs b) (hQ : ∀ c a w d v, Q (.panic c) (Act.put a d v) w → Q (.panic c) a w)
    (hph : ∀ j i, top.isFin j = true → top.isFin i = false → all.contains i = false → j < ops.size → i < ops.size → waits ops ops.size j i = true) (hm : modesIn top top = true) :
    ∀ (pre : List Nat) (l : Array Bool) (a : Act) (w : World), (∀ i ∈ pre, all.contains i = true) → (∀ i, all.contains i = true → l.getD i false = true ∨ i ∈ pre) → Closed ops l → preOK ops pre l = true → top.ok ops false (preEnd pre l) = true →
      wpPre P ops Q (pre.map fun i => ops.getD i default) (top.tree ops) a w → ∀ f, top.len ≤ f → wpAnyG P ops Q (Ext w) (hOne all top) (f + pre.length) l a w := by
  intro pre
  induction pre with
  | nil =>
    intro l a w hin hall hc hok htop hT f hf; exact (plan_sound2 all top hph hsel hQ top l a w hc (fun j hj => (hall j hj).resolve_right (by simp)) hm hT).1 htop f hf
  | cons i t ih =>
    intro l a w hin hall hc hok htop hT f hf
    simp only [preOK, Bool.and_eq_true] at hok
    obtain ⟨⟨⟨hlt, hfr⟩, hrd⟩, hok⟩ := hok
    have hlt' : i < ops.size := by simpa [Nat.blt_eq] using hlt
    have hop : ops[i]? = some (ops.getD i default) := by simp [hlt']
    have hrd' : i ∈ Region.ready .any ops l := by simpa using hrd
    simp only [List.map_cons, wpPre] at hT
    obtain ⟨v, hy, hT⟩ := hT
    have hI := ih (l.setIfInBounds i true) _ w (fun j hj => hin j (List.mem_cons_of_mem _ hj)) (fun j hj => by
      rcases hall j hj with h | h
      · exact .inl (getD_setF h)
      · rcases List.mem_cons.1 h with h | h
        · subst h
          left
          have h0 := (mem_ready.1 hrd').1
          have : j < l.size := by
            rcases Nat.lt_or_ge j l.size with h' | h'
            · exact h'
            · simp [Array.getElem?_eq_none h'] at h0
          simp [this]
        · exact .inr h) (hc.set hrd') hok htop hT f hf
    have := G_firstP (S := Ext w) (h1 := hOne all top) hop (by unfold hOne; rw [hin i (by simp)]; simp) hsel (fun c a w h => hQ c a w _ _ h) (f + t.length) l a w (Region.free_spec hop hfr) hrd' hy hI
    simpa [Nat.add_assoc] using this
end
def wholeP (pre : List Nat) (p : Plan) (ops : Array Oper) : Bool :=
  preOK ops pre (Array.replicate ops.size false) && p.ok ops false (preEnd pre (Array.replicate ops.size false)) && modesIn p p && Nat.ble (p.len + pre.length) ops.size && Region.noSelect ops &&
  (List.range ops.size).all fun j => !p.isFin j || (List.range ops.size).all fun i => p.isFin i || pre.contains i || waits ops ops.size j i
section
variable {P : Program} {n : Nat} {Q : Exit → Act → World → Prop} {L : Frm} {w : World}
def WPre (P : Program) (n : Nat) (ops : Array Oper) (Q : Exit → Act → World → Prop) (l : List Oper) (T : IT) (L : Frm) (w : World) : Prop := ∀ a, Env n L a → wpPre P ops Q l T a w
theorem w_drawP {id : Nat} {ops : Array Oper} (pre : List Nat) (p : Plan) (hm : P.follows .mixedOrders = true) (hp : wholeP pre p ops = true) (h : ∀ w', Ext w w' → WPre P n ops (NoP Q) (pre.map fun i => ops.getD i default) (p.tree ops) L w') : W P n Q (.region id ops true) L w := by
  intro a ha; refine wp_mono (wp_region_any hm ?_) (fun e a w h => NoP.out h)
  simp only [wholeP, Bool.and_eq_true] at hp
  obtain ⟨⟨⟨⟨⟨h0, h1⟩, h2⟩, h3⟩, h4⟩, h5⟩ := hp
  have hph : ∀ j i, p.isFin j = true → p.isFin i = false → pre.contains i = false → j < ops.size → i < ops.size → waits ops ops.size j i = true := by
    intro j i hj hi hpi hjs his; have h6 := List.all_eq_true.1 h5 j (List.mem_range.2 hjs); rw [hj] at h6
    simp only [Bool.not_true, Bool.false_or] at h6
    have h7 := List.all_eq_true.1 h6 i (List.mem_range.2 his); rw [hi, hpi] at h7
    simpa using h7
  have hc : Closed ops (Array.replicate ops.size false) := by
    intro j o _ hj
    exfalso
    rcases Nat.lt_or_ge j ops.size with h' | h'
    · simp [h'] at hj
    · simp [Array.getElem?_eq_none (xs := Array.replicate ops.size false) (i := j) (by simpa using h')] at hj
  have h3' : p.len + pre.length ≤ ops.size := by simpa using h3
  have := pre_sound (Q := NoP Q) p pre (Region.noSelect_spec h4) (fun c a w d v h => h) hph h2 pre _ a w.drew (fun i hi => by simpa using hi) (fun i hi => .inr (by simpa using hi)) hc h0 h1 (h w.drew (below_drew w) a ha) (ops.size - pre.length) (by omega); rw [Nat.sub_add_cancel (by omega)] at this; exact wpAny_of_G _ _ _ _ this
variable {ops : Array Oper} {l : List Oper} {T : IT} {d : Nat} {ty : TypeId} {pos : String} {af : Array Edge}
theorem p_done (h : WT P n ops Q T L w) : WPre P n ops Q [] T L w := h
theorem p_read {op : Op} {v : Value} (h : ∀ a, Env n L a → ∀ dst af gd w', (execOp a.eval ⟨dst, op, ty, pos, af, gd⟩).run P w' = .ok (.value v) w') (k : WPre P n ops Q l T ((d, v) :: L) w) (hn : Nat.blt d n = true) : WPre P n ops Q (⟨some d, op, ty, pos, af, none⟩ :: l) T L w := by
  intro a ha; exact ⟨v, .inl ⟨rfl, fun w' _ => h a ha _ _ _ w'⟩, k _ (ha.put hn v)⟩
theorem p_move {x : Operand} {v : Value} (hx : ev L x = some v) (k : WPre P n ops Q l T ((d, v) :: L) w) (hn : Nat.blt d n = true) : WPre P n ops Q (⟨some d, .move x, ty, pos, af, none⟩ :: l) T L w :=
  p_read (fun a ha _ _ _ w' => by simp [execOp, ha.ev hx]) k hn
theorem p_add {x y : Operand} {t t' : TypeId} {a b : Int} (hx : ev L x = some (I a)) (hy : ev L y = some (I b)) (hr : -9223372036854775808 ≤ a + b ∧ a + b ≤ 9223372036854775807) (k : WPre P n ops Q l T ((d, I (a + b)) :: L) w) (hn : Nat.blt d n = true) : WPre P n ops Q (⟨some d, .binOp .add t x y t', ty, pos, af, none⟩ :: l) T L w :=
  p_read (fun e ha _ _ _ w' => by simp [execOp, ha.ev hx, ha.ev hy, eqGuard, binOp, Op.intArith, wr64 hr]) k hn
theorem p_sltv {t e : TypeId} {size bytes : Nat} (et : ElemT P t e size bytes) {A : Option Addr} {nn c : Nat} {xo hi : Operand} {k : Nat} {i : Int} (hx : ev L xo = some (.slice A nn c)) (hi' : ev L hi = some (I i)) (hik : i = ((k : Nat) : Int)) (hk : k ≤ c)
    (kk : WPre P n ops Q l T ((d, .slice A k c) :: L) w) (hn : Nat.blt d n = true) : WPre P n ops Q (⟨some d, .slice t xo none (some hi) none, ty, pos, af, none⟩ :: l) T L w := by
  obtain ⟨inf, z, hinf, _, hsz, _, _⟩ := et.info; subst hik; refine p_read (v := .slice A k c) (fun a ha _ _ _ w' => ?_) kk hn
  have hc : (0 : Int) ≤ (k : Int) ∧ (k : Int) ≤ (c : Int) := by omega
  cases A <;> simp [execOp, ha.ev hx, ha.ev hi', Instr.sliceAt, Instr.slice, Instr.sliceBounds, Instr.sliceBound, asIntOf, run_underlying et.und, hk, sizeOf, typeInfo, hinf, Addr.add]
theorem p_sldv {t e : TypeId} {size bytes : Nat} (et : ElemT P t e size bytes) {A : Option Addr} {nn c : Nat} {xo lo : Operand} {k : Nat} {i : Int} (hx : ev L xo = some (.slice A nn c)) (hi' : ev L lo = some (I i)) (hik : i = ((k : Nat) : Int)) (hk : k ≤ nn) (hc : nn ≤ c)
    (kk : WPre P n ops Q l T ((d, .slice (if c = k then A else A.map (·.add (k * size))) (nn - k) (c - k)) :: L) w) (hn : Nat.blt d n = true) : WPre P n ops Q (⟨some d, .slice t xo (some lo) none none, ty, pos, af, none⟩ :: l) T L w := by
  obtain ⟨inf, z, hinf, _, hsz, _, _⟩ := et.info; subst hik; refine p_read (fun a ha _ _ _ w' => ?_) kk hn
  have hc' : (0 : Int) ≤ (k : Int) ∧ (k : Int) ≤ (nn : Int) := by omega
  simp [execOp, ha.ev hx, ha.ev hi', Instr.sliceAt, Instr.slice, Instr.sliceBounds, Instr.sliceBound, asIntOf, run_underlying et.und, hk, sizeOf, typeInfo, hinf, hsz]
end
theorem app0_eq {P : Program} (w : World) {t ty e : TypeId} {size bytes : Nat} (et : ElemT P t e size bytes) {A0 A : Option Addr} {m c : Nat} (hm : 0 < m) (hby : m * bytes ≤ 140737488355328) (h63 : m ≤ maxLen) :
    (Builtin.append_ #[t, t] ty #[.slice A0 0 0, .slice A m c]).run P w = (Builtin.append_ #[t, t] ty #[.slice none 0 0, .slice A m c]).run P w := by
  obtain ⟨ht, ⟨i, z, hi, hz, hsize, hby', hzs⟩, hsz⟩ := et; subst hby'
  simp only [maxLen] at h63
  have h0 : ¬ m = 0 := by omega
  have h1 : ¬ (9223372036854775807 : Int) < (m : Int) := by omega
  have h2 : ¬ 281474976710656 < Builtin.nextslicecap m 0 * i.bytes := by have := growslice_fits (need := m) (old := 0) hm hby; omega
  cases A0 <;> simp [Builtin.append_, run_underlying ht, sizeOf, typeInfo, hi, Builtin.lenOf, Builtin.firstCells, h0, h1, h2, loadCells, loadCellsFrom]
/-- append of owned elements onto an empty literal: only new memory. -/
theorem t_mv0 {P : Program} {n : Nat} {ops : Array Oper} {Q : Exit → Act → World → Prop} {L : Frm} {w : World} {r : IT} {d : Nat} {ty : TypeId} {pos : String} {af : Array Edge} {b : Nat} {os : List Ow}
  {α : Type} {T : Ty α} {t e : TypeId} {bytes : Nat} (et : ElemT P t e T.size bytes) {s x : Operand} {ar : Array TypeId} {A0 A : Option Addr} {c mm : Nat} {css : List (List Value)} {l' : List α} (S : Sep b w (slO T e (.slice A0 0 0) ([] : List α) :: elsO T css l' :: os)) (hr : Rd w A css.flatten) (hm : mm = l'.length) (hs : ev L s = some (.slice A0 0 0)) (hx : ev L x = some (.slice A mm c)) (har : ar = #[t, t])
  (hby : l'.length * bytes ≤ 140737488355328) (h63 : l'.length ≤ maxLen)
  (k : ∀ v' w', Ext w w' → Sep b w' (slO T e v' ([] ++ l') :: os) → WT P n ops Q r ((d, v') :: L) w') (hn : Nat.blt d n = true) : WT P n ops Q (.st .run ⟨some d, .call ⟨.builtin .append, #[s, x], ar⟩, ty, pos, af, none⟩ r) L w := by
 intro a ha; subst har; subst hm; have hb := S.base; obtain ⟨h1, fp, f, g, rfl, hf0, ⟨f2, g2, rfl, ⟨fps2, q1, q2, q4, q5, q6⟩, m2, m3⟩, h6⟩ := S
 have hR : ∀ (i : Nat) cs a, css[i]? = some cs → l'[i]? = some a → T.R w cs a := fun i cs a hi ha => by
  have hlt : i < fps2.length := by rw [q2]; exact (List.getElem?_eq_some_iff.1 ha).1
  exact T.read _ _ _ _ _ (q4 i cs a _ hi ha (List.getElem?_eq_getElem hlt))
 have hall : ∀ (i : Nat) cs, css[i]? = some cs → cs.length = T.size := fun i cs hi => by
  have hl : i < css.length := (List.getElem?_eq_some_iff.1 hi).1; exact T.len _ _ _ (hR i cs _ hi (List.getElem?_eq_getElem (by omega)))
 have h11 : ∀ u ∈ css.flatten, u.oneCell' = true := fun u hu => by
  obtain ⟨cs, hcs, hu⟩ := List.mem_flatten.1 hu; obtain ⟨i, hi, rfl⟩ := List.getElem_of_mem hcs; exact T.one _ _ _ (hR i _ _ (List.getElem?_eq_getElem hi) (List.getElem?_eq_getElem (by omega))) u hu
 have hnil : w.ownsRow b e T.size (.slice none 0 0) 0 [] := World.ownsRow_nil w b e T.size
 simp only [wpT, Region.wanted, if_true]
 rcases Nat.eq_zero_or_pos l'.length with hz | hz
 ·have hl0 : l' = [] := List.eq_nil_of_length_eq_zero hz; subst hl0; obtain ⟨ht, ⟨i, z, hi, hzz, hsize, hbb, hzs⟩, hsz⟩ := et
  have hrun : (execOp a.eval ⟨some d, .call ⟨.builtin .append, #[s, x], #[t, t]⟩, ty, pos, af, none⟩).run P w = .ok (.value (.slice A0 0 0)) w := by
   cases A0 <;> cases A <;> simp [execOp, resolve, invoke, builtin, ha.ev hs, ha.ev hx, Builtin.append_, run_underlying ht, sizeOf, typeInfo, hi, Builtin.lenOf, Builtin.firstCells, loadCells, loadCellsFrom, storeCells]
  unfold Oper.wp
  rw [hrun]; refine ⟨Below.refl _ _, k _ w (Below.refl _ _) ?_ _ (ha.put hn _)⟩; exact ⟨hb, f ++ g2, f, g2, rfl, hf0, m2, fun z hz hy => h6 z hz (List.mem_append.2 (.inr hy))⟩
 ·obtain ⟨v', w', hrun, ho', hg', hv'⟩ := run_app (P := P) w (ty := ty) (c := c) et hnil hr (by rw [flatten_len hall, q1]) h11 (by rw [Nat.zero_add]; exact hby) (by rw [Nat.zero_add]; exact h63) hb; rw [← app0_eq (A0 := A0) w et hz hby h63] at hrun; obtain ⟨fp', g1, g2', g3⟩ := SlO.grow (T := T) (e := e) (base := b) (v := .slice none 0 0) (l := []) (css := []) (fps := []) (fp := []) (css' := css) (fps' := fps2) (l' := l') (m := l'.length) rfl rfl hnil (fun i cs a f hi => by simp at hi) rfl List.nodup_nil q1 q2 q4 (by rw [← q5]; exact q6) (fun y _ hy => by cases hy) rfl ho' hg' hv'; rw [← q5] at g2'; have hE : Ext w w' := ⟨g3.os, g3.tape, g3.output, g3.size, fun y hy => g3.block y hy (fun h => by cases h)⟩
  unfold Oper.wp execOp
  simp only [resolve, invoke, builtin, Sem.run_bind, Sem.run_pure, Result.andThen_ok, List.map_toArray, List.map_cons, List.map_nil, ha.ev hs, ha.ev hx, hrun]
  refine ⟨hE, k v' w' hE ⟨Nat.le_trans hb g3.size, fp' ++ g2, fp', g2, rfl, g1, m2.keep fun y hy => hE.block y (m2.lt y hy).2, fun z hz' hy => ?_⟩ _ (ha.put hn v')⟩
  rcases g2' z hz' with h | h | h
  ·cases h
  ·exact m3 z h hy
  ·have := (m2.lt z hy).2; omega
theorem SlR.takeV {α : Type} {T : Ty α} {w : World} {A : Option Addr} {c k n' : Nat} {l : List α} (h : SlR T w (.slice A n' c) l) (hk : k ≤ l.length) : SlR T w (.slice A k c) (l.take k) := by
  obtain ⟨A', c', css, e, h1, h2, h3, h4⟩ := h; cases e
  have hall : ∀ (i : Nat) cs, css[i]? = some cs → cs.length = T.size := fun i cs hi => by
    have hlt : i < l.length := by rw [← h2]; exact (List.getElem?_eq_some_iff.1 hi).1
    exact T.len _ _ _ (h4 i cs _ hi (List.getElem?_eq_getElem hlt))
  have hlen : (l.take k).length = k := by rw [List.length_take]; omega
  refine ⟨A, c, css.take k, by rw [hlen], by omega, by rw [hlen, List.length_take]; omega, fun hp => ?_, fun i cs x hi hx => ?_⟩
  · rw [flatten_take hall] at hp ⊢
    have hp' : 0 < css.flatten.length := by rw [List.length_take] at hp; omega
    obtain ⟨g, o, rfl, hg⟩ := h3 hp'; refine ⟨g, o, rfl, fun j u hu => hg j u ?_⟩; rw [List.getElem?_take] at hu
    split at hu
    · exact hu
    · cases hu
  · rw [List.getElem?_take] at hi hx
    split at hi
    · rename_i hik
      rw [if_pos hik] at hx; exact h4 i cs x hi hx
    · cases hi
/-- append of plain elements onto an empty literal: only new memory. -/
theorem t_cat0 {P : Program} {n : Nat} {ops : Array Oper} {Q : Exit → Act → World → Prop} {L : Frm} {w : World} {r : IT} {d : Nat} {ty : TypeId} {pos : String} {af : Array Edge} {b : Nat} {os : List Ow}
    {α : Type} {T : Ty α} (hT : ∀ base w cs a, T.R w cs a → T.O base w cs a []) {t e : TypeId} {bytes : Nat} (et : ElemT P t e T.size bytes) {s x : Operand} {ar : Array TypeId} {A0 : Option Addr} {u : Value} {l' : List α} (S : Sep b w (slO T e (.slice A0 0 0) ([] : List α) :: os)) (hR : SlR T w u l') (hs : ev L s = some (.slice A0 0 0)) (hx : ev L x = some u) (har : ar = #[t, t])
    (hby : l'.length * bytes ≤ 140737488355328) (h63 : l'.length ≤ maxLen)
    (k : ∀ v' w', Ext w w' → Sep b w' (slO T e v' ([] ++ l') :: os) → WT P n ops Q r ((d, v') :: L) w') (hn : Nat.blt d n = true) : WT P n ops Q (.st .run ⟨some d, .call ⟨.builtin .append, #[s, x], ar⟩, ty, pos, af, none⟩ r) L w := by
  obtain ⟨A, c, css, rfl, h1, h2, h3, h4⟩ := hR
  have hO : (elsO T css l').P w.heap.size w [] := by
    refine ⟨l'.map fun _ => [], h2, by simp, fun i cs a f hi ha hf => ?_, by simp, List.nodup_nil⟩
    simp at hf
    obtain ⟨_, _, rfl⟩ := hf; exact hT _ _ _ _ (h4 i cs a hi ha)
  exact t_mv0 et ((S.add (o := elsO T css l') (fp := []) (Below.refl _ _) hO).f1) h3 rfl hs hx har hby h63 k hn
/-- A number in its place among ascending ones, once. -/
def putL : List Int → Int → List Int
  | [], n => [n]
  | a :: t, n => if a < n then a :: putL t n else if a = n then a :: t else n :: a :: t
theorem putL_len (l : List Int) (n : Int) : (putL l n).length ≤ l.length + 1 := by
  induction l with
  | nil => simp [putL]
  | cons a t ih =>
    unfold putL
    split
    · simp; exact ih
    · split <;> simp
theorem mem_putL {l : List Int} {n x : Int} : x ∈ putL l n ↔ x = n ∨ x ∈ l := by
  induction l with
  | nil => simp [putL]
  | cons a t ih =>
    unfold putL
    split
    · simp [ih]; constructor
      · rintro (h | h | h) <;> simp [h]
      · rintro (h | h | h) <;> simp [h]
    · split
      · rename_i h; subst h; simp
      · simp
theorem spec_l5Put {b : Nat} {w : World} {u : Value} {l : List Int} {os : List Ow} (n : Int) (S : Sep b w (slO intT 3 u l :: os)) (hz : l.length ≤ 16777216) : Calls Tryz.prog 184 #[u, I n] w fun e w' => ∃ v, e = .returned v ∧ Sep b w' (slO intT 3 v (putL l n) :: os) ∧ Below b w w' := by
 have X0 := Below.refl w.heap.size w; refine enter Tryz.func184 rfl Tryz.ntmps184 rfl ?_; have B := Below.refl b w; have Hb := S.base; refine w_h ?_; refine t_a rfl ?_ rfl; refine t_k ?_; refine t_a rfl ?_ rfl; refine t_e ?_; refine w_s ?_; refine w_block ?_; refine w_loop (X := Nat) (fun k wq => k ≤ l.length ∧ putL l n = l.take k ++ putL (l.drop k) n ∧ Below b w wq ∧ Sep b wq (slO intT 3 u l :: os)) (fun k => [(5, I ((k : Int))), (0, u), (1, I n), (4, .slice none 0 0)]) (fun k => l.length - k) (0) ?_ ⟨rfl, rfl, rfl, rfl, trivial⟩ ?_
 ·exact ⟨by omega, by simp, B, S⟩
 rintro k w1 hI; (try dsimp only at hI ⊢); obtain ⟨hk, hp, B, S⟩ := hI; (iterate 2 refine w_s ?_); refine w_g ?_; (iterate 2 refine t_m rfl ?_ rfl); refine t_len e_int (S.sl) rfl rfl ?_ rfl; refine t_lss rfl rfl ?_ rfl; refine t_m rfl ?_ rfl
 have done : k = l.length → putL l n = l.take k ++ [n] ++ l.drop k := fun e => by
  rw [hp, List.drop_eq_nil_of_le (by omega)]; simp [putL]
 refine t_partp (t := 10) rfl ?_ ?_
 ·intro h1; refine t_on rfl rfl ?_; refine t_m rfl ?_ rfl; refine t_on rfl rfl ?_; refine t_m rfl ?_ rfl; refine t_on rfl rfl ?_; obtain ⟨e13, he13⟩ : ∃ e, (l)[k]? = some e := getx (by omega); refine t_idx e_int (k := k) (S.sl) he13 (Below.refl _ _) rfl rfl (by first | rfl | omega) ?_ rfl; intro p13 hp13; refine t_on rfl rfl ?_; refine t_ldi ‹_› ab_int (Below.refl _ _) rfl ?_ rfl; refine t_on rfl rfl ?_; refine t_m rfl ?_ rfl; refine t_on rfl rfl ?_; refine t_lss rfl rfl ?_ rfl; refine t_q rfl rfl ?_ rfl; refine t_e ?_
  have hd : l.drop k = e13 :: l.drop (k + 1) := by
   rw [List.drop_eq_getElem_cons (by omega)]; rw [List.getElem?_eq_getElem (by omega)] at he13; cases he13; rfl
  refine w_if rfl ?_ ?_
  ·intro h2; refine w_k ?_; refine x_s ?_; refine w_block ?_; refine w_g ?_; refine t_m rfl ?_ rfl; refine t_add rfl rfl (by omega) ?_ rfl; refine t_a rfl ?_ rfl; refine t_d ?_; refine x_b ?_; refine x_r (X := Nat) (k + 1) ?_ (by exact ⟨rfl, rfl, rfl, rfl, trivial⟩) (by (try dsimp only); omega); (try dsimp only); refine ⟨by omega, ?_, B, S⟩; rw [hp, hd, List.take_add_one, he13]
   simp [putL, h2]
  ·intro h2; refine w_exit ?_; (iterate 2 refine x_then_exit ?_); refine x_block_exit ?_; refine x_s ?_; (iterate 2 refine w_s ?_); refine w_g ?_; (iterate 2 refine t_m rfl ?_ rfl); refine t_len e_int (S.sl) rfl rfl ?_ rfl; refine t_lss rfl rfl ?_ rfl; refine t_m rfl ?_ rfl; refine t_partp (t := 24) rfl ?_ ?_
   ·intro h3; refine t_on rfl rfl ?_; refine t_m rfl ?_ rfl; refine t_on rfl rfl ?_; refine t_m rfl ?_ rfl; refine t_on rfl rfl ?_; refine t_idx e_int (k := k) (S.sl) he13 (Below.refl _ _) rfl rfl (by first | rfl | omega) ?_ rfl; intro p27 hp27; refine t_on rfl rfl ?_; refine t_ldi ‹_› ab_int (Below.refl _ _) rfl ?_ rfl; refine t_on rfl rfl ?_; refine t_m rfl ?_ rfl; refine t_on rfl rfl ?_; refine t_eql rfl rfl ?_ rfl; refine t_q rfl rfl ?_ rfl; refine t_e ?_; refine w_if rfl ?_ ?_
    ·intro h4; refine w_h ?_; refine t_m rfl ?_ rfl; refine t_a rfl ?_ rfl; refine t_e ?_; refine w_r ?_; refine x_t ?_; refine x_ret1 rfl rfl ?_
     have hq : putL l n = l := by
      rw [hp, hd, putL, if_neg h2, if_pos h4, ← hd, List.take_append_drop]
     exact ⟨_, rfl, by rw [hq]; exact S, B⟩
    ·intro h4; refine w_k ?_; refine x_s ?_; refine w_s ?_; refine w_drawP [1, 2, 3, 5, 8, 9, 10] (.alt (.st .run 0 (.alt (.st .run 4 (.st .run 6 (.st .fin 7 (.st .fin 11 (.st .fin 12 .done))))) (.st .run 6 (.st .run 4 (.st .fin 7 (.st .fin 11 (.st .fin 12 .done))))))) (.st .run 6 (.st .run 0 (.st .run 4 (.st .fin 7 (.st .fin 11 (.st .fin 12 .done))))))) mixed (by kernel_rfl) ?_; intro w2 x3; have B := bx Hb B x3; have S := S.below x3; replace hp13 := hp13.below x3; replace hp27 := hp27.below x3; (iterate 2 refine p_move rfl ?_ rfl); obtain ⟨Au, cu, rfl, _⟩ := S.sl.form; refine p_sltv e_int (k := k) rfl rfl (by first | rfl | omega) (by omega) ?_ rfl; (iterate 3 refine p_move rfl ?_ rfl); refine p_sldv e_int (k := k) rfl rfl (by first | rfl | omega) (by omega) (by omega) ?_ rfl; refine p_done ?_
     have hq : putL l n = ([] ++ l.take k) ++ [n] ++ l.drop k := by
      rw [hp, hd, putL, if_neg h2, if_neg h4]; simp
     have hkl : (l.take k).length = k := by rw [List.length_take]; omega
     have hkd : (l.drop k).length = l.length - k := by rw [List.length_drop]
     refine t_alt ?_ ?_
     ·refine t_lit0 (T := intT) S bs_int0 rfl ?_ rfl rfl; intro A33 w4 x5 S; have B := bx Hb B x5; refine t_alt ?_ ?_
      ·have hR := (SlR.takeV S.tail.sl (by omega)); refine t_cat0 int_flat e_int S hR rfl rfl rfl (by first | omega | (simp [-List.length_flatMap]; omega)) (by (simp [maxLen, -List.length_flatMap]; try omega)) ?_ rfl; intro v37 w6 x7 S; have B := bx Hb B x7; clear hR; refine t_lit (T := intT) (l := [n]) (css := ([n]).map fun a => [I a]) int_flat S (fun w => bs_int1 _ w) rfl rfl rfl rfl (by simp [maxLen]) (litR_int _) ?_ rfl rfl; intro u39 w8 x9 S; have B := bx Hb B x9; have hR := S.sl; have S := S.f1; refine t_cat int_flat e_int S hR rfl rfl rfl (by first | omega | (simp [-List.length_flatMap]; omega)) (by (simp [maxLen, -List.length_flatMap]; try omega)) ?_ rfl; intro v40 w10 x11 S; have B := B.trans x11; clear hR; have S := S.f1.tail; have hR := (SlR.drop S.tail.sl (by omega)); refine t_cat int_flat e_int S hR rfl rfl rfl (by first | omega | (simp [-List.length_flatMap]; omega)) (by (simp [maxLen, -List.length_flatMap]; try omega)) ?_ rfl; intro v44 w12 x13 S; have B := B.trans x13; clear hR; refine t_a rfl ?_ rfl; refine t_e' ?_; refine w_r ?_; refine x_ret1 rfl rfl ?_; exact ⟨_, rfl, by rw [hq]; exact S.f1.tail, B⟩
      ·refine t_lit (T := intT) (l := [n]) (css := ([n]).map fun a => [I a]) int_flat S (fun w => bs_int1 _ w) rfl rfl rfl rfl (by simp [maxLen]) (litR_int _) ?_ rfl rfl; intro u39 w14 x15 S; have B := bx Hb B x15; have hR := (SlR.takeV S.tail.tail.sl (by omega)); have S := S.f1; refine t_cat0 int_flat e_int S hR rfl rfl rfl (by first | omega | (simp [-List.length_flatMap]; omega)) (by (simp [maxLen, -List.length_flatMap]; try omega)) ?_ rfl; intro v37 w16 x17 S; have B := bx Hb B x17; clear hR; have hR := S.tail.sl; refine t_cat int_flat e_int S hR rfl rfl rfl (by first | omega | (simp [-List.length_flatMap]; omega)) (by (simp [maxLen, -List.length_flatMap]; try omega)) ?_ rfl; intro v40 w18 x19 S; have B := B.trans x19; clear hR; have S := S.f1.tail; have hR := (SlR.drop S.tail.sl (by omega)); refine t_cat int_flat e_int S hR rfl rfl rfl (by first | omega | (simp [-List.length_flatMap]; omega)) (by (simp [maxLen, -List.length_flatMap]; try omega)) ?_ rfl; intro v44 w20 x21 S; have B := B.trans x21; clear hR; refine t_a rfl ?_ rfl; refine t_e' ?_; refine w_r ?_; refine x_ret1 rfl rfl ?_; exact ⟨_, rfl, by rw [hq]; exact S.f1.tail, B⟩
     ·refine t_lit (T := intT) (l := [n]) (css := ([n]).map fun a => [I a]) int_flat S (fun w => bs_int1 _ w) rfl rfl rfl rfl (by simp [maxLen]) (litR_int _) ?_ rfl rfl; intro u39 w22 x23 S; have B := bx Hb B x23; refine t_lit0 (T := intT) S bs_int0 rfl ?_ rfl rfl; intro A33 w24 x25 S; have B := bx Hb B x25; have hR := (SlR.takeV S.tail.tail.sl (by omega)); refine t_cat0 int_flat e_int S hR rfl rfl rfl (by first | omega | (simp [-List.length_flatMap]; omega)) (by (simp [maxLen, -List.length_flatMap]; try omega)) ?_ rfl; intro v37 w26 x27 S; have B := bx Hb B x27; clear hR; have hR := S.tail.sl; refine t_cat int_flat e_int S hR rfl rfl rfl (by first | omega | (simp [-List.length_flatMap]; omega)) (by (simp [maxLen, -List.length_flatMap]; try omega)) ?_ rfl; intro v40 w28 x29 S; have B := B.trans x29; clear hR; have S := S.f1.tail; have hR := (SlR.drop S.tail.sl (by omega)); refine t_cat int_flat e_int S hR rfl rfl rfl (by first | omega | (simp [-List.length_flatMap]; omega)) (by (simp [maxLen, -List.length_flatMap]; try omega)) ?_ rfl; intro v44 w30 x31 S; have B := B.trans x31; clear hR; refine t_a rfl ?_ rfl; refine t_e' ?_; refine w_r ?_; refine x_ret1 rfl rfl ?_
      exact ⟨_, rfl, by rw [hq]; exact S.f1.tail, B⟩
   ·intro h3
    omega
 ·intro h1; (iterate 6 refine t_off rfl rfl rfl ?_ rfl); refine t_p rfl rfl ?_ rfl; refine t_e ?_; refine w_no rfl ?_; refine w_exit ?_; (iterate 2 refine x_then_exit ?_); refine x_block_exit ?_; refine x_s ?_; (iterate 2 refine w_s ?_); refine w_g ?_; (iterate 2 refine t_m rfl ?_ rfl); refine t_len e_int (S.sl) rfl rfl ?_ rfl; refine t_lss rfl rfl ?_ rfl; refine t_m rfl ?_ rfl; refine t_partp (t := 24) rfl ?_ ?_
  ·intro h3
   omega
  ·intro h3; (iterate 6 refine t_off rfl rfl rfl ?_ rfl); refine t_p rfl rfl ?_ rfl; refine t_e ?_; refine w_no rfl ?_; refine w_k ?_; refine x_s ?_; refine w_s ?_; refine w_drawP [1, 2, 3, 5, 8, 9, 10] (.alt (.st .run 0 (.alt (.st .run 4 (.st .run 6 (.st .fin 7 (.st .fin 11 (.st .fin 12 .done))))) (.st .run 6 (.st .run 4 (.st .fin 7 (.st .fin 11 (.st .fin 12 .done))))))) (.st .run 6 (.st .run 0 (.st .run 4 (.st .fin 7 (.st .fin 11 (.st .fin 12 .done))))))) mixed (by kernel_rfl) ?_; intro w32 x33; have B := bx Hb B x33; have S := S.below x33; (iterate 2 refine p_move rfl ?_ rfl); obtain ⟨Au, cu, rfl, _⟩ := S.sl.form; refine p_sltv e_int (k := k) rfl rfl (by first | rfl | omega) (by omega) ?_ rfl; (iterate 3 refine p_move rfl ?_ rfl); refine p_sldv e_int (k := k) rfl rfl (by first | rfl | omega) (by omega) (by omega) ?_ rfl; refine p_done ?_
   have hq : putL l n = ([] ++ l.take k) ++ [n] ++ l.drop k := by rw [done (by omega)]; simp
   have hkl : (l.take k).length = k := by rw [List.length_take]; omega
   have hkd : (l.drop k).length = l.length - k := by rw [List.length_drop]
   refine t_alt ?_ ?_
   ·refine t_lit0 (T := intT) S bs_int0 rfl ?_ rfl rfl; intro A33 w34 x35 S; have B := bx Hb B x35; refine t_alt ?_ ?_
    ·have hR := (SlR.takeV S.tail.sl (by omega)); refine t_cat0 int_flat e_int S hR rfl rfl rfl (by first | omega | (simp [-List.length_flatMap]; omega)) (by (simp [maxLen, -List.length_flatMap]; try omega)) ?_ rfl; intro v37 w36 x37 S; have B := bx Hb B x37; clear hR; refine t_lit (T := intT) (l := [n]) (css := ([n]).map fun a => [I a]) int_flat S (fun w => bs_int1 _ w) rfl rfl rfl rfl (by simp [maxLen]) (litR_int _) ?_ rfl rfl; intro u39 w38 x39 S; have B := bx Hb B x39; have hR := S.sl; have S := S.f1; refine t_cat int_flat e_int S hR rfl rfl rfl (by first | omega | (simp [-List.length_flatMap]; omega)) (by (simp [maxLen, -List.length_flatMap]; try omega)) ?_ rfl; intro v40 w40 x41 S; have B := B.trans x41; clear hR; have S := S.f1.tail; have hR := (SlR.drop S.tail.sl (by omega)); refine t_cat int_flat e_int S hR rfl rfl rfl (by first | omega | (simp [-List.length_flatMap]; omega)) (by (simp [maxLen, -List.length_flatMap]; try omega)) ?_ rfl; intro v44 w42 x43 S; have B := B.trans x43; clear hR; refine t_a rfl ?_ rfl; refine t_e' ?_; refine w_r ?_; refine x_ret1 rfl rfl ?_; exact ⟨_, rfl, by rw [hq]; exact S.f1.tail, B⟩
    ·refine t_lit (T := intT) (l := [n]) (css := ([n]).map fun a => [I a]) int_flat S (fun w => bs_int1 _ w) rfl rfl rfl rfl (by simp [maxLen]) (litR_int _) ?_ rfl rfl; intro u39 w44 x45 S; have B := bx Hb B x45; have hR := (SlR.takeV S.tail.tail.sl (by omega)); have S := S.f1; refine t_cat0 int_flat e_int S hR rfl rfl rfl (by first | omega | (simp [-List.length_flatMap]; omega)) (by (simp [maxLen, -List.length_flatMap]; try omega)) ?_ rfl; intro v37 w46 x47 S; have B := bx Hb B x47; clear hR; have hR := S.tail.sl; refine t_cat int_flat e_int S hR rfl rfl rfl (by first | omega | (simp [-List.length_flatMap]; omega)) (by (simp [maxLen, -List.length_flatMap]; try omega)) ?_ rfl; intro v40 w48 x49 S; have B := B.trans x49; clear hR; have S := S.f1.tail; have hR := (SlR.drop S.tail.sl (by omega)); refine t_cat int_flat e_int S hR rfl rfl rfl (by first | omega | (simp [-List.length_flatMap]; omega)) (by (simp [maxLen, -List.length_flatMap]; try omega)) ?_ rfl; intro v44 w50 x51 S; have B := B.trans x51; clear hR; refine t_a rfl ?_ rfl; refine t_e' ?_; refine w_r ?_; refine x_ret1 rfl rfl ?_; exact ⟨_, rfl, by rw [hq]; exact S.f1.tail, B⟩
   ·refine t_lit (T := intT) (l := [n]) (css := ([n]).map fun a => [I a]) int_flat S (fun w => bs_int1 _ w) rfl rfl rfl rfl (by simp [maxLen]) (litR_int _) ?_ rfl rfl; intro u39 w52 x53 S; have B := bx Hb B x53; refine t_lit0 (T := intT) S bs_int0 rfl ?_ rfl rfl; intro A33 w54 x55 S; have B := bx Hb B x55; have hR := (SlR.takeV S.tail.tail.sl (by omega)); refine t_cat0 int_flat e_int S hR rfl rfl rfl (by first | omega | (simp [-List.length_flatMap]; omega)) (by (simp [maxLen, -List.length_flatMap]; try omega)) ?_ rfl; intro v37 w56 x57 S; have B := bx Hb B x57; clear hR; have hR := S.tail.sl; refine t_cat int_flat e_int S hR rfl rfl rfl (by first | omega | (simp [-List.length_flatMap]; omega)) (by (simp [maxLen, -List.length_flatMap]; try omega)) ?_ rfl; intro v40 w58 x59 S; have B := B.trans x59; clear hR; have S := S.f1.tail; have hR := (SlR.drop S.tail.sl (by omega)); refine t_cat int_flat e_int S hR rfl rfl rfl (by first | omega | (simp [-List.length_flatMap]; omega)) (by (simp [maxLen, -List.length_flatMap]; try omega)) ?_ rfl; intro v44 w60 x61 S; have B := B.trans x61; clear hR; refine t_a rfl ?_ rfl; refine t_e' ?_; refine w_r ?_; refine x_ret1 rfl rfl ?_
    exact ⟨_, rfl, by rw [hq]; exact S.f1.tail, B⟩
/-- The doors of a realm, ascending. -/
def ifsStep (r : Int) (acc : List Int) (x : Lnk) : List Int :=
  let a := if x.a = r then putL acc x.ai else acc
  if x.b = r then putL a x.bi else a
def ifs (l : List Lnk) (r : Int) : List Int := l.foldl (ifsStep r) []
theorem ifs_succ {l : List Lnk} {k : Nat} {x : Lnk} (h : l[k]? = some x) (r : Int) : ifs (l.take (k + 1)) r = ifsStep r (ifs (l.take k) r) x := by
  unfold ifs
  rw [List.take_add_one, h, List.foldl_append]
  rfl
theorem ifsStep_len (r : Int) (acc : List Int) (x : Lnk) : (ifsStep r acc x).length ≤ acc.length + 2 := by
  unfold ifsStep
  dsimp only; have h1 := putL_len acc x.ai; have h2 := putL_len (putL acc x.ai) x.bi; have h3 := putL_len acc x.bi
  split <;> split <;> omega
theorem ifs_len (l : List Lnk) (r : Int) : (ifs l r).length ≤ 2 * l.length := by
  suffices h : ∀ (l : List Lnk) acc, (l.foldl (ifsStep r) acc).length ≤ acc.length + 2 * l.length by have := h l []; simp only [List.length_nil, Nat.zero_add] at this; exact this
  intro l
  induction l with
  | nil => simp
  | cons a t ih =>
    intro acc; have h1 := ih (ifsStep r acc a); have h2 := ifsStep_len r acc a
    simp only [List.foldl_cons, List.length_cons]
    omega
theorem spec_Interfaces0 (t : Topo) (v : Value) (r : Int) (w : World) (h : VA topoT w v t) (hz : t.links.length ≤ 1048576) : Calls Tryz.prog 166 #[v, I r] w fun e w' => ∃ v fp, e = .returned v ∧ SlO intT 3 w.heap.size w' v (ifs t.links r) fp ∧ Below w.heap.size w w' := by
 have X0 := Below.refl w.heap.size w; refine enter Tryz.func166 rfl Tryz.ntmps166 rfl ?_; refine w_h ?_; refine t_boxr ‹_› rfl ?_ rfl rfl; intro p2 w62 x63 hp2; replace h := h.below x63; have X0 := ext_trans X0 x63; have S := Sep.nil w62; have B := Below.refl w62.heap.size w62; have Hb := Nat.le_refl w62.heap.size; refine t_a rfl ?_ rfl; refine t_k ?_; refine t_lit (T := intT) (css := []) (l := []) int_flat S bs_int0 rfl rfl rfl rfl (Nat.zero_le _) litR_nil ?_ rfl rfl; intro u7 w64 x65 S; have B := bx Hb B x65; refine t_a rfl ?_ rfl; refine t_e ?_; (iterate 2 refine w_s ?_); refine w_g ?_; refine t_a rfl ?_ rfl; refine t_e ?_; refine w_block ?_; refine w_loop (X := Nat × Value) (fun x wq => (fun k q => k ≤ t.links.length ∧ Below w62.heap.size w62 wq ∧ Sep w62.heap.size wq [slO intT 3 q (ifs (t.links.take k) r)]) x.1 x.2) (fun x => (fun k q => [(6, I ((k : Int))), (5, q), (1, I r), (2, p2), (4, .slice none 0 0)]) x.1 x.2) (fun x => (fun k q => t.links.length - k) x.1 x.2) (0, _) ?_ ⟨rfl, rfl, rfl, rfl, rfl, trivial⟩ ?_
 ·exact ⟨by omega, B, S⟩
 rintro ⟨k, q⟩ w66 hI; (try dsimp only at hI ⊢); obtain ⟨hk, B, S⟩ := hI; have hl := ifs_len (t.links.take k) r; rw [List.length_take] at hl; (iterate 2 refine w_s ?_); refine w_g ?_; refine t_m rfl ?_ rfl; refine t_fld ln_topo_1 ‹_› fb_topo_1 rfl ?_ rfl; intro p9 hp9; refine t_lds ‹_› ab_s_link B rfl ?_ rfl; intro v10 hv10; refine t_len e_link ‹_› rfl rfl ?_ rfl; refine t_lss rfl rfl ?_ rfl; refine t_e ?_; refine w_if rfl ?_ ?_
 ·intro hlt; refine w_k ?_; refine x_s ?_; refine w_s ?_; refine w_block ?_; (iterate 2 refine w_s ?_); refine w_g ?_; refine t_fld ln_topo_1 ‹_› fb_topo_1 rfl ?_ rfl; intro p15 hp15; refine t_lds ‹_› ab_s_link B rfl ?_ rfl; intro v16 hv16; refine t_m rfl ?_ rfl; obtain ⟨e18, he18⟩ : ∃ e, (t.links)[k]? = some e := getx (by omega); refine t_idx e_link (k := k) ‹_› he18 B rfl rfl (by first | rfl | omega) ?_ rfl; intro p18 hp18; refine t_fld ln_link_0 ‹_› fb_link_0 rfl ?_ rfl; intro p19 hp19; refine t_ldi ‹_› ab_int B rfl ?_ rfl; refine t_m rfl ?_ rfl; refine t_eql rfl rfl ?_ rfl; refine t_e ?_; have hs := ifs_succ he18 r
  unfold ifsStep at hs
  dsimp only at hs; have hl2 := putL_len (ifs (t.links.take k) r) e18.ai; refine w_if rfl ?_ ?_
  ·intro h1; refine w_g ?_; refine t_m rfl ?_ rfl; refine t_fld ln_topo_1 ‹_› fb_topo_1 rfl ?_ rfl; intro p24 hp24; refine t_lds ‹_› ab_s_link B rfl ?_ rfl; intro v25 hv25; refine t_m rfl ?_ rfl; refine t_idx e_link (k := k) ‹_› he18 B rfl rfl (by first | rfl | omega) ?_ rfl; intro p27 hp27; refine t_fld ln_link_1 ‹_› fb_link_1 rfl ?_ rfl; intro p28 hp28; refine t_ldi ‹_› ab_int B rfl ?_ rfl; refine t_f Tryz.call184 rfl (spec_l5Put e18.ai S (by omega)) ?_ rfl; rintro e w67 ⟨v30, rfl, S, x68⟩; refine ⟨_, rfl, ?_⟩; have B := B.trans x68; refine t_a rfl ?_ rfl; refine t_k ?_; refine t_fld ln_topo_1 ‹_› fb_topo_1 rfl ?_ rfl; intro p31 hp31; refine t_lds ‹_› ab_s_link B rfl ?_ rfl; intro v32 hv32; refine t_m rfl ?_ rfl; refine t_idx e_link (k := k) ‹_› he18 B rfl rfl (by first | rfl | omega) ?_ rfl; intro p34 hp34; refine t_fld ln_link_2 ‹_› fb_link_2 rfl ?_ rfl; intro p35 hp35; refine t_ldi ‹_› ab_int B rfl ?_ rfl; refine t_m rfl ?_ rfl; refine t_eql rfl rfl ?_ rfl; refine t_e ?_; refine w_if rfl ?_ ?_
   ·intro h2; refine w_g ?_; refine t_m rfl ?_ rfl; refine t_fld ln_topo_1 ‹_› fb_topo_1 rfl ?_ rfl; intro p40 hp40; refine t_lds ‹_› ab_s_link B rfl ?_ rfl; intro v41 hv41; refine t_m rfl ?_ rfl; refine t_idx e_link (k := k) ‹_› he18 B rfl rfl (by first | rfl | omega) ?_ rfl; intro p43 hp43; refine t_fld ln_link_3 ‹_› fb_link_3 rfl ?_ rfl; intro p44 hp44; refine t_ldi ‹_› ab_int B rfl ?_ rfl; refine t_f Tryz.call184 rfl (spec_l5Put e18.bi S (by omega)) ?_ rfl; rintro e w69 ⟨v46, rfl, S, x70⟩; refine ⟨_, rfl, ?_⟩; have B := B.trans x70; refine t_a rfl ?_ rfl; refine t_d ?_; refine x_b ?_; refine x_s ?_; refine w_g ?_; refine t_m rfl ?_ rfl; refine t_add rfl rfl (by omega) ?_ rfl; refine t_a rfl ?_ rfl; refine t_d ?_; refine x_r (X := Nat × Value) (k + 1, v46) ?_ (by exact ⟨rfl, rfl, rfl, rfl, rfl, trivial⟩) (by (try dsimp only); omega); (try dsimp only); rw [hs, if_pos h2, if_pos h1]; exact ⟨by omega, B, S⟩
   ·intro h2; refine w_k ?_; refine x_b ?_; refine x_s ?_; refine w_g ?_; refine t_m rfl ?_ rfl; refine t_add rfl rfl (by omega) ?_ rfl; refine t_a rfl ?_ rfl; refine t_d ?_; refine x_r (X := Nat × Value) (k + 1, v30) ?_ (by exact ⟨rfl, rfl, rfl, rfl, rfl, trivial⟩) (by (try dsimp only); omega); (try dsimp only); rw [hs, if_neg h2, if_pos h1]; exact ⟨by omega, B, S⟩
  ·intro h1; refine w_k ?_; refine x_s ?_; refine w_h ?_; refine t_fld ln_topo_1 ‹_› fb_topo_1 rfl ?_ rfl; intro p31 hp31; refine t_lds ‹_› ab_s_link B rfl ?_ rfl; intro v32 hv32; refine t_m rfl ?_ rfl; refine t_idx e_link (k := k) ‹_› he18 B rfl rfl (by first | rfl | omega) ?_ rfl; intro p34 hp34; refine t_fld ln_link_2 ‹_› fb_link_2 rfl ?_ rfl; intro p35 hp35; refine t_ldi ‹_› ab_int B rfl ?_ rfl; refine t_m rfl ?_ rfl; refine t_eql rfl rfl ?_ rfl; refine t_e ?_; refine w_if rfl ?_ ?_
   ·intro h2; refine w_g ?_; refine t_m rfl ?_ rfl; refine t_fld ln_topo_1 ‹_› fb_topo_1 rfl ?_ rfl; intro p40 hp40; refine t_lds ‹_› ab_s_link B rfl ?_ rfl; intro v41 hv41; refine t_m rfl ?_ rfl; refine t_idx e_link (k := k) ‹_› he18 B rfl rfl (by first | rfl | omega) ?_ rfl; intro p43 hp43; refine t_fld ln_link_3 ‹_› fb_link_3 rfl ?_ rfl; intro p44 hp44; refine t_ldi ‹_› ab_int B rfl ?_ rfl; refine t_f Tryz.call184 rfl (spec_l5Put e18.bi S (by omega)) ?_ rfl; rintro e w71 ⟨v46, rfl, S, x72⟩; refine ⟨_, rfl, ?_⟩; have B := B.trans x72; refine t_a rfl ?_ rfl; refine t_d ?_; refine x_b ?_; refine x_s ?_; refine w_g ?_; refine t_m rfl ?_ rfl; refine t_add rfl rfl (by omega) ?_ rfl; refine t_a rfl ?_ rfl; refine t_d ?_; refine x_r (X := Nat × Value) (k + 1, v46) ?_ (by exact ⟨rfl, rfl, rfl, rfl, rfl, trivial⟩) (by (try dsimp only); omega); (try dsimp only); rw [hs, if_pos h2, if_neg h1]; exact ⟨by omega, B, S⟩
   ·intro h2; refine w_k ?_; refine x_b ?_; refine x_s ?_; refine w_g ?_; refine t_m rfl ?_ rfl; refine t_add rfl rfl (by omega) ?_ rfl; refine t_a rfl ?_ rfl; refine t_d ?_; refine x_r (X := Nat × Value) (k + 1, q) ?_ (by exact ⟨rfl, rfl, rfl, rfl, rfl, trivial⟩) (by (try dsimp only); omega); (try dsimp only); rw [hs, if_neg h2, if_neg h1]; exact ⟨by omega, B, S⟩
 ·intro hge; refine w_exit ?_; (iterate 2 refine x_then_exit ?_); refine x_block_exit ?_; refine x_s ?_; refine w_h ?_; refine t_m rfl ?_ rfl; refine t_a rfl ?_ rfl; refine t_e ?_; refine w_r ?_; refine x_ret1 rfl rfl ?_; obtain ⟨fp, hO⟩ := (S.mono X0.size).head; rw [List.take_of_length_le (by omega)] at hO; exact ⟨_, fp, rfl, hO, ext_trans X0 B⟩
theorem spec_Interfaces (A : List ASd) (L : List Lnk) (v : Value) (r : Int) (w : World) (h : VA topoT w v ⟨A, L⟩) (hz : L.length ≤ 1048576) : Calls Tryz.prog 166 #[v, I r] w fun e w' => ∃ v fp, e = .returned v ∧ SlO intT 3 w.heap.size w' v (ifs L r) fp ∧ Below w.heap.size w w' :=
  spec_Interfaces0 ⟨A, L⟩ v r w h hz
/-- The doors of a realm of one kind. -/
def ifsK (t : Topo) (r k : Int) : List Int := (ifs t.links r).filter fun d => decide (ifKind t r d = k)
theorem filt_succ {α : Type} (p : α → Bool) {l : List α} {k : Nat} {x : α} (h : l[k]? = some x) : (l.take (k + 1)).filter p = (l.take k).filter p ++ (if p x then [x] else []) := by
  rw [List.take_add_one, h, List.filter_append]
  cases hp : p x <;> simp [hp]
theorem spec_InterfacesOfKind (t : Topo) (v : Value) (r kd : Int) (w : World) (h : VA topoT w v t) (hz : sz_topo t ≤ 500000) : Calls Tryz.prog 139 #[v, I r, I kd] w fun e w' => ∃ v fp, e = .returned v ∧ SlO intT 3 w.heap.size w' v (ifsK t r kd) fp ∧ Below w.heap.size w w' := by
 have hz1 : t.links.length ≤ 500000 := by have := hz; simp only [sz_topo] at this; omega
 have hl := ifs_len t.links r; have X0 := Below.refl w.heap.size w; refine enter Tryz.func139 rfl Tryz.ntmps139 rfl ?_; refine w_h ?_; refine t_boxr ‹_› rfl ?_ rfl rfl; intro p3 w73 x74 hp3; replace h := h.below x74; have X0 := ext_trans X0 x74; have S := Sep.nil w73; have B := Below.refl w73.heap.size w73; have Hb := Nat.le_refl w73.heap.size; refine t_a rfl ?_ rfl; refine t_k ?_; refine t_lit (T := intT) (css := []) (l := []) int_flat S bs_int0 rfl rfl rfl rfl (Nat.zero_le _) litR_nil ?_ rfl rfl; intro u10 w75 x76 S; have B := bx Hb B x76; refine t_a rfl ?_ rfl; refine t_k ?_; refine t_lda ‹_› ab_topo sb_topo B rfl ?_ rfl; intro v11 hv11; obtain ⟨v11_0, v11_1, rfl, hv11_0, hv11_1⟩ := topo_va hv11; refine t_m rfl ?_ rfl; refine t_c Tryz.call166 rfl (spec_Interfaces t.ases t.links _ _ _ (by first | assumption | exact VA.below ‹_› B | exact topo_mkv (by first | assumption | exact SlR.below ‹_› B) (by first | assumption | exact SlR.below ‹_› B)) (by (try dsimp only); omega)) ?_ rfl rfl; rintro e w77 ⟨v13, fpv13, rfl, hOv13, x78⟩; refine ⟨_, rfl, x78, ?_⟩; have S := S.add (o := slO _ _ _ _) x78 hOv13; have B := bx Hb B x78; refine t_a rfl ?_ rfl; refine t_e ?_
 (iterate 2 refine w_s ?_); refine w_g ?_; refine t_a rfl ?_ rfl; refine t_e ?_; refine w_block ?_; refine w_loop (X := Nat × Value) (fun x wq => (fun k q => k ≤ (ifs t.links r).length ∧ Below w73.heap.size w73 wq ∧ Sep w73.heap.size wq [slO intT 3 q (((ifs t.links r).take k).filter fun d => decide (ifKind t r d = kd)), slO intT 3 v13 (ifs t.links r)]) x.1 x.2) (fun x => (fun k q => [(9, I ((k : Int))), (7, q), (1, I r), (2, I kd), (3, p3), (6, .slice none 0 0), (8, v13)]) x.1 x.2) (fun x => (fun k q => (ifs t.links r).length - k) x.1 x.2) (0, _) ?_ ⟨rfl, rfl, rfl, rfl, rfl, rfl, rfl, trivial⟩ ?_
 ·exact ⟨by omega, B, S.f1⟩
 rintro ⟨k, q⟩ w79 hI; (try dsimp only at hI ⊢); obtain ⟨hk, B, S⟩ := hI; have hl2 := List.length_filter_le (fun d => decide (ifKind t r d = kd)) ((ifs t.links r).take k); rw [List.length_take] at hl2; (iterate 2 refine w_s ?_); refine w_g ?_; (iterate 2 refine t_m rfl ?_ rfl); refine t_len e_int (S.tail.sl) rfl rfl ?_ rfl; refine t_lss rfl rfl ?_ rfl; refine t_e ?_; refine w_if rfl ?_ ?_
 ·intro hlt; refine w_k ?_; refine x_s ?_; refine w_s ?_; refine w_block ?_; refine w_s ?_; refine w_draw (.st .take 0 (.st .take 1 (.st .take 2 (.st .take 3 (.st .take 4 (.st .take 5 (.st .take 7 (.st .run 6 (.st .take 8 .done))))))))) mixed (by kernel_rfl) ?_; intro w80 x81; have B := bx Hb B x81; have S := S.below x81; refine t_lda ‹_› ab_topo sb_topo B rfl ?_ rfl; intro v20 hv20; obtain ⟨v20_0, v20_1, rfl, hv20_0, hv20_1⟩ := topo_va hv20; (iterate 3 refine t_m rfl ?_ rfl); obtain ⟨e24, he24⟩ : ∃ e, ((ifs t.links r))[k]? = some e := getx (by omega); refine t_idx e_int (k := k) (S.tail.sl) he24 (Below.refl _ _) rfl rfl (by first | rfl | omega) ?_ rfl; intro p24 hp24; refine t_ldi ‹_› ab_int (Below.refl _ _) rfl ?_ rfl; refine t_m rfl ?_ rfl; refine t_x Tryz.call167 rfl (va1 (by first | assumption | exact VA.below ‹_› B | exact topo_mkv (by first | assumption | exact SlR.below ‹_› B) (by first | assumption | exact SlR.below ‹_› B)) fun cs h => spec_ifKind _ cs _ _ _ h (by omega)) ?_ rfl rfl; intro w82 x83; have B := bx Hb B x83; have S := S.below x83; refine t_eql rfl rfl ?_ rfl; refine t_e' ?_; have hf := filt_succ (fun d => decide (ifKind t r d = kd)) he24; refine w_if rfl ?_ ?_
  ·intro h1; refine w_g ?_; (iterate 3 refine t_m rfl ?_ rfl); refine t_idx e_int (k := k) (S.tail.sl) he24 (Below.refl _ _) rfl rfl (by first | rfl | omega) ?_ rfl; intro p32 hp32; refine t_ldi ‹_› ab_int (Below.refl _ _) rfl ?_ rfl; refine t_lit (T := intT) (l := [e24]) (css := ([e24]).map fun a => [I a]) int_flat S (fun w => bs_int1 _ w) rfl rfl rfl rfl (by simp [maxLen]) (litR_int _) ?_ rfl rfl; intro u34 w84 x85 S; have B := bx Hb B x85; have hR := S.sl; have S := S.f1; refine t_cat int_flat e_int S hR rfl rfl rfl (by first | omega | (simp [-List.length_flatMap]; omega)) (by (simp [maxLen, -List.length_flatMap]; try omega)) ?_ rfl; intro v35 w86 x87 S; have B := B.trans x87; clear hR; have S := S.f1.tail; refine t_a rfl ?_ rfl; refine t_d ?_; refine x_b ?_; refine x_s ?_; refine w_g ?_; refine t_m rfl ?_ rfl; refine t_add rfl rfl (by omega) ?_ rfl; refine t_a rfl ?_ rfl; refine t_d ?_; refine x_r (X := Nat × Value) (k + 1, v35) ?_ (by exact ⟨rfl, rfl, rfl, rfl, rfl, rfl, rfl, trivial⟩) (by (try dsimp only); omega); (try dsimp only); rw [hf, if_pos (by simpa using h1)]; exact ⟨by omega, B, S⟩
  ·intro h1; refine w_k ?_; refine x_b ?_; refine x_s ?_; refine w_g ?_; refine t_m rfl ?_ rfl; refine t_add rfl rfl (by omega) ?_ rfl; refine t_a rfl ?_ rfl; refine t_d ?_; refine x_r (X := Nat × Value) (k + 1, q) ?_ (by exact ⟨rfl, rfl, rfl, rfl, rfl, rfl, rfl, trivial⟩) (by (try dsimp only); omega); (try dsimp only); rw [hf, if_neg (by simpa using h1), List.append_nil]; exact ⟨by omega, B, S⟩
 ·intro hge; refine w_exit ?_; (iterate 2 refine x_then_exit ?_); refine x_block_exit ?_; refine x_s ?_; refine w_h ?_; refine t_m rfl ?_ rfl; refine t_a rfl ?_ rfl; refine t_e ?_; refine w_r ?_; refine x_ret1 rfl rfl ?_; obtain ⟨fp, hO⟩ := (S.mono X0.size).head; rw [List.take_of_length_le (by omega)] at hO; exact ⟨_, fp, rfl, hO, ext_trans X0 B⟩
theorem ret_bool {a b : Bool} (h : a = b) : Ending.returned (.bool a) = .returned (.bool b) := by rw [h]
/-- Sums modulo the prime, of residues alone. -/
def addM (b s : Int) : Int := if inR b 0 2147483646 && inR s 0 2147483646 then (b + s) % 2147483647 else 0
def subM (b s : Int) : Int := if inR b 0 2147483646 && inR s 0 2147483646 then (b - s + 2147483647) % 2147483647 else 0
theorem impl_AddMod (b s : Int) (w : World) : Calls Tryz.prog 173 #[I b, I s] w fun e w' => e = .returned (I (addM b s)) ∧ w = w' := by
 have X0 := Below.refl w.heap.size w; refine enter Tryz.func173 rfl Tryz.ntmps173 rfl ?_; refine w_h ?_; have S := Sep.nil w; have B := Below.refl w.heap.size w; have Hb := Nat.le_refl w.heap.size; refine t_a rfl ?_ rfl; refine t_e ?_; (iterate 2 refine w_s ?_); refine w_g ?_; refine t_m rfl ?_ rfl; refine t_calls Tryz.call152 rfl (impl_isResidue _ _) ?_ rfl rfl; refine t_notb rfl ?_ rfl; refine t_m rfl ?_ rfl; refine t_part (t := 8) rfl ?_ ?_
 ·intro h1; (iterate 3 refine t_off rfl rfl rfl ?_ rfl); refine t_q rfl rfl ?_ rfl; refine t_e ?_; refine w_yes rfl ?_; refine w_h ?_; refine t_a rfl ?_ rfl; refine t_e ?_; refine w_r ?_; refine x_t ?_; refine x_ret1 rfl rfl ?_
  have h1' : inR b 0 2147483646 = false := by simpa using h1
  exact ⟨by simp [addM, h1'], rfl⟩
 ·intro h1
  have h1' : inR b 0 2147483646 = true := by simpa using h1
  have r1 := inR_iff.1 h1'; refine t_on rfl rfl ?_; refine t_m rfl ?_ rfl; refine t_on rfl rfl ?_; refine t_calls Tryz.call152 rfl (impl_isResidue _ _) ?_ rfl rfl; refine t_on rfl rfl ?_; refine t_notb rfl ?_ rfl; refine t_p rfl rfl ?_ rfl; refine t_e ?_; refine w_ifb rfl ?_ ?_
  ·intro h2; refine w_h ?_; refine t_a rfl ?_ rfl; refine t_e ?_; refine w_r ?_; refine x_t ?_; refine x_ret1 rfl rfl ?_
   have h2' : inR s 0 2147483646 = false := by simpa using h2
   exact ⟨by simp [addM, h1', h2'], rfl⟩
  ·intro h2
   have h2' : inR s 0 2147483646 = true := by simpa using h2
   have r2 := inR_iff.1 h2'; refine w_k ?_; refine x_s ?_; refine w_h ?_; (iterate 2 refine t_m rfl ?_ rfl); refine t_add rfl rfl (by omega) ?_ rfl; refine t_rem rfl rfl (by omega) ?_ rfl; refine t_a rfl ?_ rfl; refine t_e ?_; refine w_r ?_; refine x_ret1 rfl rfl ?_; exact ⟨by simp [addM, h1', h2'], rfl⟩
theorem spec_AddMod (b s : Int) (w : World) : Calls Tryz.prog 187 #[I b, I s] w fun e w' => e = .returned (I (addM b s)) ∧ w = w' := by
 have X0 := Below.refl w.heap.size w; refine enter Tryz.func187 rfl Tryz.ntmps187 rfl ?_; refine w_h ?_; have S := Sep.nil w; have B := Below.refl w.heap.size w; have Hb := Nat.le_refl w.heap.size; refine t_a rfl ?_ rfl; refine t_e ?_; (iterate 2 refine w_s ?_); refine w_g ?_; refine t_m rfl ?_ rfl; refine t_calls Tryz.call178 rfl (spec_l3Ok _ _) ?_ rfl rfl; refine t_notb rfl ?_ rfl; refine t_m rfl ?_ rfl; refine t_part (t := 8) rfl ?_ ?_
 ·intro h1; (iterate 3 refine t_off rfl rfl rfl ?_ rfl); refine t_q rfl rfl ?_ rfl; refine t_e ?_; refine w_yes rfl ?_; refine w_h ?_; refine t_a rfl ?_ rfl; refine t_e ?_; refine w_r ?_; refine x_t ?_; refine x_ret1 rfl rfl ?_
  have h1' : inR b 0 2147483646 = false := by simpa using h1
  exact ⟨by simp [addM, h1'], rfl⟩
 ·intro h1
  have h1' : inR b 0 2147483646 = true := by simpa using h1
  have r1 := inR_iff.1 h1'; refine t_on rfl rfl ?_; refine t_m rfl ?_ rfl; refine t_on rfl rfl ?_; refine t_calls Tryz.call178 rfl (spec_l3Ok _ _) ?_ rfl rfl; refine t_on rfl rfl ?_; refine t_notb rfl ?_ rfl; refine t_p rfl rfl ?_ rfl; refine t_e ?_; refine w_ifb rfl ?_ ?_
  ·intro h2; refine w_h ?_; refine t_a rfl ?_ rfl; refine t_e ?_; refine w_r ?_; refine x_t ?_; refine x_ret1 rfl rfl ?_
   have h2' : inR s 0 2147483646 = false := by simpa using h2
   exact ⟨by simp [addM, h1', h2'], rfl⟩
  ·intro h2
   have h2' : inR s 0 2147483646 = true := by simpa using h2
   have r2 := inR_iff.1 h2'; refine w_k ?_; refine x_s ?_; refine w_h ?_; (iterate 2 refine t_m rfl ?_ rfl); refine t_add rfl rfl (by omega) ?_ rfl; refine t_rem rfl rfl (by omega) ?_ rfl; refine t_a rfl ?_ rfl; refine t_e ?_; refine w_r ?_; refine x_ret1 rfl rfl ?_; exact ⟨by simp [addM, h1', h2'], rfl⟩
def isRev (k : Int) : Bool := k == 1 || k == 3
/-- The interface through which a packet enters at hop i, and through which it leaves. -/
def partIn (p : Part) (i : Nat) : Int := match p.hops[i]? with
  | none => 0
  | some h => if isRev p.kind then h.eg else h.ing
def partOut (p : Part) (i : Nat) : Int := match p.hops[i]? with
  | none => 0
  | some h => if isRev p.kind then h.ing else h.eg
theorem impl_IsReversed (k : Int) (w : World) : Calls Tryz.prog 119 #[I k] w fun e w' => e = .returned (.bool (isRev k)) ∧ w = w' := by
  obtain ⟨q, Hq⟩ : ∃ q, Hid (q = isRev k) := ⟨_, rfl⟩; rw [← Hq.out]
  cases h1 : (k == 1) <;> cases h2 : (k == 3)
  all_goals
    go_enter Tryz.func119, Tryz.ntmps119
    go_wp2
    go_ret
    exact ⟨by rw [Hq.out]; simp [isRev, h1, h2], rfl⟩
theorem spec_IsReversed (k : Int) (w : World) : Calls Tryz.prog 148 #[I k] w fun e w' => e = .returned (.bool (isRev k)) ∧ w = w' := by
  obtain ⟨q, Hq⟩ : ∃ q, Hid (q = isRev k) := ⟨_, rfl⟩; rw [← Hq.out]
  cases h1 : (k == 1) <;> cases h2 : (k == 3)
  all_goals
    go_enter Tryz.func148, Tryz.ntmps148
    go_wp2
    go_ret
    exact ⟨by rw [Hq.out]; simp [isRev, h1, h2], rfl⟩
theorem impl_PartIngress (p : Part) (cs : List Value) (i : Int) (w : World) (h : partT.R w cs p) (hz : p.hops.length ≤ 1048576) (h0 : 0 ≤ i) : Calls Tryz.prog 66 #[.agg cs.toArray, I i] w fun e w' => e = .returned (I (partIn p i.toNat)) ∧ Below w.heap.size w w' := by
  obtain ⟨A, c, rfl, ⟨h, _⟩⟩ := part_form h; obtain ⟨y, Hy⟩ : ∃ y, Hid (y = partIn p i.toNat) := ⟨_, rfl⟩; rw [← Hy.out]; obtain ⟨k, rfl⟩ := Int.eq_ofNat_of_zero_le h0; rw [Int.toNat_natCast] at Hy; obtain ⟨n, H⟩ : ∃ n, Hid (n = p.hops.length) := ⟨_, rfl⟩
  have hn : n ≤ 1048576 := by rw [H.out]; exact hz
  clear hz h0; rw [← H.out] at h ⊢
  by_cases hlt : k < n
  · obtain ⟨g, o, q, x, e, hg, hxk, c0, c1, c2, c3, c4⟩ := hop_at h (by rw [← H.out]; exact hlt)
    rw [← H.out] at e; cases e
    have HY : Hid (y = if isRev p.kind then x.eg else x.ing) := by show y = _; rw [Hy.out]; unfold partIn; rw [hxk.out]
    have hin : Hid (inR (k : Int) 0 ((n : Int) - 1) = true) := inR_yes (by omega) (by omega); cases hr : isRev p.kind
    all_goals
      rw [hr] at HY
      go_enter Tryz.func66, Tryz.ntmps66
      go_wp2_with (first | (go_at_call 109; refine (impl_InRange _ _ _ _).mono ?_; rintro e w1 ⟨rfl, rfl⟩; rw [hin.out]) | (go_at_call 119; refine (impl_IsReversed _ _).mono ?_; rintro e w1 ⟨rfl, rfl⟩))
      go_ret
      exact ⟨by rw [HY.out]; rfl, ext_alloc1 _ _⟩
  · have HY : Hid (y = 0) := by show y = _; rw [Hy.out]; unfold partIn; rw [List.getElem?_eq_none (by rw [← H.out]; omega)]
    have hin : Hid (inR (k : Int) 0 ((n : Int) - 1) = false) := inR_hi (by omega)
    go_enter Tryz.func66, Tryz.ntmps66
    go_wp2_with (first | (go_at_call 109; refine (impl_InRange _ _ _ _).mono ?_; rintro e w1 ⟨rfl, rfl⟩; rw [hin.out]))
    go_ret
    exact ⟨by rw [HY.out]; rfl, ext_alloc1 _ _⟩
theorem impl_PartEgress (p : Part) (cs : List Value) (i : Int) (w : World) (h : partT.R w cs p) (hz : p.hops.length ≤ 1048576) (h0 : 0 ≤ i) : Calls Tryz.prog 65 #[.agg cs.toArray, I i] w fun e w' => e = .returned (I (partOut p i.toNat)) ∧ Below w.heap.size w w' := by
  obtain ⟨A, c, rfl, ⟨h, _⟩⟩ := part_form h; obtain ⟨y, Hy⟩ : ∃ y, Hid (y = partOut p i.toNat) := ⟨_, rfl⟩; rw [← Hy.out]; obtain ⟨k, rfl⟩ := Int.eq_ofNat_of_zero_le h0; rw [Int.toNat_natCast] at Hy; obtain ⟨n, H⟩ : ∃ n, Hid (n = p.hops.length) := ⟨_, rfl⟩
  have hn : n ≤ 1048576 := by rw [H.out]; exact hz
  clear hz h0; rw [← H.out] at h ⊢
  by_cases hlt : k < n
  · obtain ⟨g, o, q, x, e, hg, hxk, c0, c1, c2, c3, c4⟩ := hop_at h (by rw [← H.out]; exact hlt)
    rw [← H.out] at e; cases e
    have HY : Hid (y = if isRev p.kind then x.ing else x.eg) := by show y = _; rw [Hy.out]; unfold partOut; rw [hxk.out]
    have hin : Hid (inR (k : Int) 0 ((n : Int) - 1) = true) := inR_yes (by omega) (by omega); cases hr : isRev p.kind
    all_goals
      rw [hr] at HY
      go_enter Tryz.func65, Tryz.ntmps65
      go_wp2_with (first | (go_at_call 109; refine (impl_InRange _ _ _ _).mono ?_; rintro e w1 ⟨rfl, rfl⟩; rw [hin.out]) | (go_at_call 119; refine (impl_IsReversed _ _).mono ?_; rintro e w1 ⟨rfl, rfl⟩))
      go_ret
      exact ⟨by rw [HY.out]; rfl, ext_alloc1 _ _⟩
  · have HY : Hid (y = 0) := by show y = _; rw [Hy.out]; unfold partOut; rw [List.getElem?_eq_none (by rw [← H.out]; omega)]
    have hin : Hid (inR (k : Int) 0 ((n : Int) - 1) = false) := inR_hi (by omega)
    go_enter Tryz.func65, Tryz.ntmps65
    go_wp2_with (first | (go_at_call 109; refine (impl_InRange _ _ _ _).mono ?_; rintro e w1 ⟨rfl, rfl⟩; rw [hin.out]))
    go_ret
    exact ⟨by rw [HY.out]; rfl, ext_alloc1 _ _⟩
theorem spec_PartIngress (p : Part) (cs : List Value) (i : Int) (w : World) (h : partT.R w cs p) (hz : p.hops.length ≤ 1048576) (h0 : 0 ≤ i) : Calls Tryz.prog 127 #[.agg cs.toArray, I i] w fun e w' => e = .returned (I (partIn p i.toNat)) ∧ Below w.heap.size w w' := by
  obtain ⟨A, c, rfl, ⟨h, _⟩⟩ := part_form h; obtain ⟨y, Hy⟩ : ∃ y, Hid (y = partIn p i.toNat) := ⟨_, rfl⟩; rw [← Hy.out]; obtain ⟨k, rfl⟩ := Int.eq_ofNat_of_zero_le h0; rw [Int.toNat_natCast] at Hy; obtain ⟨n, H⟩ : ∃ n, Hid (n = p.hops.length) := ⟨_, rfl⟩
  have hn : n ≤ 1048576 := by rw [H.out]; exact hz
  clear hz h0; rw [← H.out] at h ⊢
  by_cases hlt : k < n
  · obtain ⟨g, o, q, x, e, hg, hxk, c0, c1, c2, c3, c4⟩ := hop_at h (by rw [← H.out]; exact hlt)
    rw [← H.out] at e; cases e
    have HY : Hid (y = if isRev p.kind then x.eg else x.ing) := by show y = _; rw [Hy.out]; unfold partIn; rw [hxk.out]
    have hin : Hid (inR (k : Int) 0 ((n : Int) - 1) = true) := inR_yes (by omega) (by omega); cases hr : isRev p.kind
    all_goals
      rw [hr] at HY
      go_enter Tryz.func127, Tryz.ntmps127
      go_wp2_with (first | (go_at_call 144; refine (spec_l1In _ _ _ _).mono ?_; rintro e w1 ⟨rfl, rfl⟩; rw [hin.out]) | (go_at_call 148; refine (spec_IsReversed _ _).mono ?_; rintro e w1 ⟨rfl, rfl⟩))
      go_ret
      exact ⟨by rw [HY.out]; rfl, ext_alloc1 _ _⟩
  · have HY : Hid (y = 0) := by show y = _; rw [Hy.out]; unfold partIn; rw [List.getElem?_eq_none (by rw [← H.out]; omega)]
    have hin : Hid (inR (k : Int) 0 ((n : Int) - 1) = false) := inR_hi (by omega)
    go_enter Tryz.func127, Tryz.ntmps127
    go_wp2_with (first | (go_at_call 144; refine (spec_l1In _ _ _ _).mono ?_; rintro e w1 ⟨rfl, rfl⟩; rw [hin.out]))
    go_ret
    exact ⟨by rw [HY.out]; rfl, ext_alloc1 _ _⟩
theorem spec_PartEgress (p : Part) (cs : List Value) (i : Int) (w : World) (h : partT.R w cs p) (hz : p.hops.length ≤ 1048576) (h0 : 0 ≤ i) : Calls Tryz.prog 128 #[.agg cs.toArray, I i] w fun e w' => e = .returned (I (partOut p i.toNat)) ∧ Below w.heap.size w w' := by
  obtain ⟨A, c, rfl, ⟨h, _⟩⟩ := part_form h; obtain ⟨y, Hy⟩ : ∃ y, Hid (y = partOut p i.toNat) := ⟨_, rfl⟩; rw [← Hy.out]; obtain ⟨k, rfl⟩ := Int.eq_ofNat_of_zero_le h0; rw [Int.toNat_natCast] at Hy; obtain ⟨n, H⟩ : ∃ n, Hid (n = p.hops.length) := ⟨_, rfl⟩
  have hn : n ≤ 1048576 := by rw [H.out]; exact hz
  clear hz h0; rw [← H.out] at h ⊢
  by_cases hlt : k < n
  · obtain ⟨g, o, q, x, e, hg, hxk, c0, c1, c2, c3, c4⟩ := hop_at h (by rw [← H.out]; exact hlt)
    rw [← H.out] at e; cases e
    have HY : Hid (y = if isRev p.kind then x.ing else x.eg) := by show y = _; rw [Hy.out]; unfold partOut; rw [hxk.out]
    have hin : Hid (inR (k : Int) 0 ((n : Int) - 1) = true) := inR_yes (by omega) (by omega); cases hr : isRev p.kind
    all_goals
      rw [hr] at HY
      go_enter Tryz.func128, Tryz.ntmps128
      go_wp2_with (first | (go_at_call 144; refine (spec_l1In _ _ _ _).mono ?_; rintro e w1 ⟨rfl, rfl⟩; rw [hin.out]) | (go_at_call 148; refine (spec_IsReversed _ _).mono ?_; rintro e w1 ⟨rfl, rfl⟩))
      go_ret
      exact ⟨by rw [HY.out]; rfl, ext_alloc1 _ _⟩
  · have HY : Hid (y = 0) := by show y = _; rw [Hy.out]; unfold partOut; rw [List.getElem?_eq_none (by rw [← H.out]; omega)]
    have hin : Hid (inR (k : Int) 0 ((n : Int) - 1) = false) := inR_hi (by omega)
    go_enter Tryz.func128, Tryz.ntmps128
    go_wp2_with (first | (go_at_call 144; refine (spec_l1In _ _ _ _).mono ?_; rintro e w1 ⟨rfl, rfl⟩; rw [hin.out]))
    go_ret
    exact ⟨by rw [HY.out]; rfl, ext_alloc1 _ _⟩
def chainAdd (b : Int) (l : List Int) : Int := l.foldl addM b
theorem chain_succ {b : Int} {l : List Int} {k : Nat} {x : Int} (h : l[k]? = some x) : chainAdd b (l.take (k + 1)) = addM (chainAdd b (l.take k)) x := by
  unfold chainAdd; rw [take_succ h, List.foldl_append]; rfl
theorem impl_ChainAdd (b : Int) (l : List Int) (v : Value) (w : World) (h : SlR intT w v l) (hz : l.length ≤ 16777216) : Calls Tryz.prog 164 #[I b, v] w fun e w' => e = .returned (I (chainAdd b l)) ∧ w = w' := by
 have X0 := Below.refl w.heap.size w; refine enter Tryz.func164 rfl Tryz.ntmps164 rfl ?_; refine w_h ?_; have S := Sep.nil w; have B := Below.refl w.heap.size w; have Hb := Nat.le_refl w.heap.size; refine t_a rfl ?_ rfl; refine t_e ?_; (iterate 2 refine w_s ?_); refine w_g ?_; refine t_m rfl ?_ rfl; refine t_len e_int ‹_› rfl rfl ?_ rfl; refine t_m rfl ?_ rfl; refine t_e ?_; refine w_block ?_; refine w_loop (X := Nat × Int) (fun x wq => (fun k c => k ≤ l.length ∧ c = chainAdd b (l.take k) ∧ w = wq) x.1 x.2) (fun x => (fun k c => [(9, I ((k : Int))), (0, I c), (4, I 0), (7, v), (8, I ((l.length : Int)))]) x.1 x.2) (fun x => (fun k c => l.length - k) x.1 x.2) (0, b) ?_ ⟨rfl, rfl, rfl, rfl, rfl, trivial⟩ ?_
 ·exact ⟨by omega, rfl, rfl⟩
 ·rintro ⟨k, c⟩ w1 hI; (try dsimp only at hI ⊢); obtain ⟨hk, hc, rfl⟩ := hI; refine w_h ?_; refine t_lss rfl rfl ?_ rfl; refine t_e ?_; refine w_s ?_; refine w_if rfl ?_ ?_
  ·intro hlt; refine w_k ?_; refine x_s ?_; refine w_s ?_; refine w_block ?_; refine w_h ?_; obtain ⟨e11, he11⟩ : ∃ e, (l)[k]? = some e := getx (by omega); refine t_idx e_int (k := k) ‹_› he11 B rfl rfl (by first | rfl | omega) ?_ rfl; intro p11 hp11; refine t_ldi ‹_› ab_int B rfl ?_ rfl; refine t_a rfl ?_ rfl; refine t_e ?_; refine w_g ?_; (iterate 2 refine t_m rfl ?_ rfl); refine t_calls Tryz.call173 rfl (impl_AddMod _ _ _) ?_ rfl rfl; refine t_a rfl ?_ rfl; refine t_d ?_; refine x_b ?_; refine x_s ?_; refine w_g ?_; refine t_add rfl rfl (by omega) ?_ rfl; refine t_m rfl ?_ rfl; refine t_d ?_; refine x_r (X := Nat × Int) (k + 1, addM c e11) ?_ (by exact ⟨rfl, rfl, rfl, rfl, rfl, trivial⟩) (by (try dsimp only); omega); (try dsimp only); exact ⟨by omega, by rw [chain_succ he11, hc], rfl⟩
  ·intro hge; refine w_exit ?_; (iterate 2 refine x_then_exit ?_); refine x_block_exit ?_; refine x_s ?_; refine w_h ?_; refine t_m rfl ?_ rfl; refine t_a rfl ?_ rfl; refine t_e ?_; refine w_r ?_; refine x_ret1 rfl rfl ?_; exact ⟨ret_int (by rw [hc, List.take_of_length_le (by omega)]), rfl⟩
theorem spec_ChainAdd (b : Int) (l : List Int) (v : Value) (w : World) (h : SlR intT w v l) (hz : l.length ≤ 16777216) : Calls Tryz.prog 170 #[I b, v] w fun e w' => e = .returned (I (chainAdd b l)) ∧ w = w' := by
 have X0 := Below.refl w.heap.size w; refine enter Tryz.func170 rfl Tryz.ntmps170 rfl ?_; refine w_h ?_; have S := Sep.nil w; have B := Below.refl w.heap.size w; have Hb := Nat.le_refl w.heap.size; refine t_a rfl ?_ rfl; refine t_e ?_; (iterate 2 refine w_s ?_); refine w_g ?_; refine t_a rfl ?_ rfl; refine t_e ?_; refine w_block ?_; refine w_loop (X := Nat × Int) (fun x wq => (fun k c => k ≤ l.length ∧ c = chainAdd b (l.take k) ∧ w = wq) x.1 x.2) (fun x => (fun k c => [(5, I ((k : Int))), (0, I c), (1, v), (4, I 0)]) x.1 x.2) (fun x => (fun k c => l.length - k) x.1 x.2) (0, b) ?_ ⟨rfl, rfl, rfl, rfl, trivial⟩ ?_
 ·exact ⟨by omega, rfl, rfl⟩
 ·rintro ⟨k, c⟩ w2 hI; (try dsimp only at hI ⊢); obtain ⟨hk, hc, rfl⟩ := hI; (iterate 2 refine w_s ?_); refine w_g ?_; (iterate 2 refine t_m rfl ?_ rfl); refine t_len e_int ‹_› rfl rfl ?_ rfl; refine t_lss rfl rfl ?_ rfl; refine t_e ?_; refine w_if rfl ?_ ?_
  ·intro hlt; refine w_k ?_; refine x_s ?_; refine w_s ?_; refine w_block ?_; refine w_g ?_; (iterate 3 refine t_m rfl ?_ rfl); obtain ⟨e15, he15⟩ : ∃ e, (l)[k]? = some e := getx (by omega); refine t_idx e_int (k := k) ‹_› he15 B rfl rfl (by first | rfl | omega) ?_ rfl; intro p15 hp15; refine t_ldi ‹_› ab_int B rfl ?_ rfl; refine t_calls Tryz.call187 rfl (spec_AddMod _ _ _) ?_ rfl rfl; refine t_a rfl ?_ rfl; refine t_d ?_; refine x_b ?_; refine x_s ?_; refine w_g ?_; refine t_m rfl ?_ rfl; refine t_add rfl rfl (by omega) ?_ rfl; refine t_a rfl ?_ rfl; refine t_d ?_; refine x_r (X := Nat × Int) (k + 1, addM c e15) ?_ (by exact ⟨rfl, rfl, rfl, rfl, trivial⟩) (by (try dsimp only); omega); (try dsimp only); exact ⟨by omega, by rw [chain_succ he15, hc], rfl⟩
  ·intro hge; refine w_exit ?_; (iterate 2 refine x_then_exit ?_); refine x_block_exit ?_; refine x_s ?_; refine w_h ?_; refine t_m rfl ?_ rfl; refine t_a rfl ?_ rfl; refine t_e ?_; refine w_r ?_; refine x_ret1 rfl rfl ?_; exact ⟨ret_int (by rw [hc, List.take_of_length_le (by omega)]), rfl⟩
theorem impl_macsOf (l : List Hop) (v : Value) (w : World) (h : SlR hopT w v l) (hz : l.length ≤ 1048576) : Calls Tryz.prog 165 #[v] w fun e w' => ∃ v fp, e = .returned v ∧ SlO intT 3 w.heap.size w' v (l.map Hop.mac) fp ∧ Below w.heap.size w w' := by
 have X0 := Below.refl w.heap.size w; refine enter Tryz.func165 rfl Tryz.ntmps165 rfl ?_; refine w_h ?_; have S := Sep.nil w; have B := Below.refl w.heap.size w; have Hb := Nat.le_refl w.heap.size; refine t_a rfl ?_ rfl; refine t_k ?_; refine t_a rfl ?_ rfl; refine t_e ?_; (iterate 2 refine w_s ?_); refine w_g ?_; refine t_m rfl ?_ rfl; refine t_len e_hop ‹_› rfl rfl ?_ rfl; refine t_m rfl ?_ rfl; refine t_e ?_; refine w_block ?_; refine w_loop (X := Nat × Value) (fun x wq => (fun k q => k ≤ l.length ∧ Below w.heap.size w wq ∧ Sep w.heap.size wq [slO intT 3 q ((l.take k).map Hop.mac)]) x.1 x.2) (fun x => (fun k q => [(8, I ((k : Int))), (3, q), (2, .slice none 0 0), (6, v), (7, I ((l.length : Int)))]) x.1 x.2) (fun x => (fun k q => l.length - k) x.1 x.2) (0, .slice none 0 0) ?_ ⟨rfl, rfl, rfl, rfl, rfl, trivial⟩ ?_
 ·exact ⟨by omega, B, S.addNil⟩
 ·rintro ⟨k, q⟩ w3 hI; (try dsimp only at hI ⊢); obtain ⟨hk, B, S⟩ := hI
  have hml : ((l.take k).map Hop.mac).length = k := by rw [List.length_map, List.length_take]; omega
  refine w_h ?_; refine t_lss rfl rfl ?_ rfl; refine t_e ?_; refine w_s ?_; refine w_if rfl ?_ ?_
  ·intro hlt; refine w_k ?_; refine x_s ?_; refine w_s ?_; refine w_block ?_; refine w_h ?_; obtain ⟨e10, he10⟩ : ∃ e, (l)[k]? = some e := getx (by omega); refine t_idx e_hop (k := k) ‹_› he10 B rfl rfl (by first | rfl | omega) ?_ rfl; intro p10 hp10; refine t_lda ‹_› ab_hop sb_hop B rfl ?_ rfl; intro v11 hv11; obtain rfl := hop_va hv11; refine t_w S z_hop rfl ?_ rfl rfl; intro g5 w4 x5 S; have B := bx Hb B x5; refine t_stn S sb_hop rfl rfl rfl rfl (by repeat first | exact oc0 | refine oc rfl ?_) ?_; intro w6 b7 S; have B := B.trans b7; refine t_e ?_; refine w_g ?_; refine t_m rfl ?_ rfl; refine t_y fb_hop_4 rfl rfl ?_ rfl; refine t_bx1 S.box ab_int rfl rfl ?_ rfl; refine t_lit (T := intT) (l := [e10.mac]) (css := ([e10.mac]).map fun a => [I a]) int_flat S (fun w => bs_int1 _ w) rfl rfl rfl rfl (by simp [maxLen]) (litR_int _) ?_ rfl rfl; intro u15 w8 x9 S; have B := bx Hb B x9; have hR := S.sl; have S := S.f2; refine t_cat int_flat e_int S hR rfl rfl rfl (by first | omega | (simp [-List.length_flatMap]; omega)) (by (simp [maxLen, -List.length_flatMap]; try omega)) ?_ rfl; intro v16 w10 x11 S; have B := B.trans x11; clear hR; have S := S.f1.tail; refine t_a rfl ?_ rfl; refine t_d ?_
   refine x_b ?_; refine x_s ?_; refine w_g ?_; refine t_add rfl rfl (by omega) ?_ rfl; refine t_m rfl ?_ rfl; refine t_d ?_; have S := S.f1.tail; refine x_r (X := Nat × Value) (k + 1, v16) ?_ (by exact ⟨rfl, rfl, rfl, rfl, rfl, trivial⟩) (by (try dsimp only); omega); (try dsimp only); refine ⟨by omega, B, ?_⟩; rw [take_succ he10, List.map_append]; exact S
  ·intro hge; refine w_exit ?_; (iterate 2 refine x_then_exit ?_); refine x_block_exit ?_; refine x_s ?_; refine w_h ?_; refine t_m rfl ?_ rfl; refine t_a rfl ?_ rfl; refine t_e ?_; refine w_r ?_; refine x_ret1 rfl rfl ?_
   have : k = l.length := by omega
   subst this; rw [List.take_length] at S; obtain ⟨fp, hO⟩ := (S.mono X0.size).head; exact ⟨_, fp, rfl, hO, ext_trans X0 B⟩
theorem spec_l9Seals (s : Seg) (v : Value) (i : Int) (w : World) (h : VA segT w v s) (hz : s.hops.length ≤ 1048576) (hi : 0 ≤ i ∧ i ≤ s.hops.length) : Calls Tryz.prog 171 #[v, I i] w fun e w' => ∃ v fp, e = .returned v ∧ SlO intT 3 w.heap.size w' v ((s.hops.take i.toNat).map Hop.mac) fp ∧ Below w.heap.size w w' := by
 have X0 := Below.refl w.heap.size w; refine enter Tryz.func171 rfl Tryz.ntmps171 rfl ?_; refine w_h ?_; refine t_boxr ‹_› rfl ?_ rfl rfl; intro p2 w12 x13 hp2; replace h := h.below x13; have X0 := ext_trans X0 x13; have S := Sep.nil w12; have B := Below.refl w12.heap.size w12; have Hb := Nat.le_refl w12.heap.size; refine t_a rfl ?_ rfl; refine t_k ?_; refine t_lit (T := intT) (css := []) (l := []) int_flat S bs_int0 rfl rfl rfl rfl (Nat.zero_le _) litR_nil ?_ rfl rfl; intro u7 w14 x15 S; have B := bx Hb B x15; refine t_a rfl ?_ rfl; refine t_e ?_; (iterate 2 refine w_s ?_); refine w_g ?_; refine t_a rfl ?_ rfl; refine t_e ?_; refine w_block ?_; refine w_loop (X := Nat × Value) (fun x wq => (fun k v => k ≤ i.toNat ∧ Below w12.heap.size w12 wq ∧ Sep w12.heap.size wq [slO intT 3 v ((s.hops.take k).map Hop.mac)]) x.1 x.2) (fun x => (fun k v => [(6, I ((k : Int))), (5, v), (1, I i), (2, p2), (4, .slice none 0 0)]) x.1 x.2) (fun x => (fun k v => i.toNat - k) x.1 x.2) (0, u7) ?_ ⟨rfl, rfl, rfl, rfl, rfl, trivial⟩ ?_
 ·exact ⟨by omega, B, S⟩
 ·rintro ⟨k, v⟩ w16 hI; (try dsimp only at hI ⊢); obtain ⟨hk, B, S⟩ := hI
  have hml : ((s.hops.take k).map Hop.mac).length = k := by rw [List.length_map, List.length_take]; omega
  (iterate 2 refine w_s ?_); refine w_g ?_; (iterate 2 refine t_m rfl ?_ rfl); refine t_lss rfl rfl ?_ rfl; refine t_e ?_; refine w_if rfl ?_ ?_
  ·intro hlt; refine w_k ?_; refine x_s ?_; refine w_s ?_; refine w_block ?_; refine w_g ?_; refine t_m rfl ?_ rfl; refine t_fld ln_seg_2 ‹_› fb_seg_2 rfl ?_ rfl; intro p14 hp14; refine t_lds ‹_› ab_s_hop B rfl ?_ rfl; intro v15 hv15; refine t_m rfl ?_ rfl; obtain ⟨e17, he17⟩ : ∃ e, (s.hops)[k]? = some e := getx (by omega); refine t_idx e_hop (k := k) ‹_› he17 B rfl rfl (by first | rfl | omega) ?_ rfl; intro p17 hp17; refine t_fld ln_hop_4 ‹_› fb_hop_4 rfl ?_ rfl; intro p18 hp18; refine t_ldi ‹_› ab_int B rfl ?_ rfl; refine t_lit (T := intT) (l := [e17.mac]) (css := ([e17.mac]).map fun a => [I a]) int_flat S (fun w => bs_int1 _ w) rfl rfl rfl rfl (by simp [maxLen]) (litR_int _) ?_ rfl rfl; intro u20 w17 x18 S; have B := bx Hb B x18; have hR := S.sl; have S := S.f1; refine t_cat int_flat e_int S hR rfl rfl rfl (by first | omega | (simp [-List.length_flatMap]; omega)) (by (simp [maxLen, -List.length_flatMap]; try omega)) ?_ rfl; intro v21 w19 x20 S; have B := B.trans x20; clear hR; have S := S.f1.tail; refine t_a rfl ?_ rfl; refine t_d ?_; refine x_b ?_; refine x_s ?_; refine w_g ?_; refine t_m rfl ?_ rfl; refine t_add rfl rfl (by omega) ?_ rfl; refine t_a rfl ?_ rfl; refine t_d ?_
   refine x_r (X := Nat × Value) (k + 1, v21) ?_ (by exact ⟨rfl, rfl, rfl, rfl, rfl, trivial⟩) (by (try dsimp only); omega); (try dsimp only); refine ⟨by omega, B, ?_⟩; rw [take_succ he17, List.map_append]; exact S
  ·intro hge; refine w_exit ?_; (iterate 2 refine x_then_exit ?_); refine x_block_exit ?_; refine x_s ?_; refine w_h ?_; refine t_m rfl ?_ rfl; refine t_a rfl ?_ rfl; refine t_e ?_; refine w_r ?_; refine x_ret1 rfl rfl ?_
   have : k = i.toNat := by omega
   subst this; obtain ⟨fp, hO⟩ := (S.mono X0.size).head; exact ⟨_, fp, rfl, hO, ext_trans X0 B⟩
def segBeta (s : Seg) (i : Int) : Int := if inR i 0 s.hops.length then chainAdd s.beta ((s.hops.take i.toNat).map Hop.mac) else 0
theorem impl_BetaAt (s : Seg) (v : Value) (i : Int) (w : World) (h : VA segT w v s) (hz : s.hops.length ≤ 1048576) : Calls Tryz.prog 134 #[v, I i] w fun e w' => e = .returned (I (segBeta s i)) ∧ Below w.heap.size w w' := by
 have hml : ((s.hops.take i.toNat).map Hop.mac).length ≤ 1048576 := by rw [List.length_map, List.length_take]; omega
 have hml2 : (s.hops.take i.toNat).length ≤ 1048576 := by rw [List.length_take]; omega
 have X0 := Below.refl w.heap.size w; refine enter Tryz.func134 rfl Tryz.ntmps134 rfl ?_; refine w_h ?_; refine t_boxr ‹_› rfl ?_ rfl rfl; intro p2 w21 x22 hp2; replace h := h.below x22; have X0 := ext_trans X0 x22; have S := Sep.nil w21; have B := Below.refl w21.heap.size w21; have Hb := Nat.le_refl w21.heap.size; refine t_a rfl ?_ rfl; refine t_e ?_; (iterate 2 refine w_s ?_); refine w_g ?_; refine t_m rfl ?_ rfl; refine t_fld ln_seg_2 ‹_› fb_seg_2 rfl ?_ rfl; intro p6 hp6; refine t_lds ‹_› ab_s_hop B rfl ?_ rfl; intro v7 hv7; refine t_len e_hop ‹_› rfl rfl ?_ rfl; refine t_calls Tryz.call109 rfl (impl_InRange _ _ _ _) ?_ rfl rfl; refine t_notb rfl ?_ rfl; refine t_e ?_; refine w_ifb rfl ?_ ?_
 ·intro h1; refine w_h ?_; refine t_a rfl ?_ rfl; refine t_e ?_; refine w_r ?_; refine x_t ?_; refine x_ret1 rfl rfl ?_
  have h1' : inR i 0 s.hops.length = false := by simpa using h1
  exact ⟨ret_int (by simp [segBeta, h1']), ext_trans X0 B⟩
 ·intro h1
  have h1' : inR i 0 s.hops.length = true := by simpa using h1
  have r1 := inR_iff.1 h1'; refine w_k ?_; refine x_s ?_; refine w_s ?_; refine w_draw (.st .take 0 (.st .take 1 (.st .take 2 (.st .take 3 (.st .take 4 (.st .take 5 (.st .run 6 (.st .run 7 (.st .take 8 .done))))))))) mixed (by kernel_rfl) ?_; intro w23 x24; have B := bx Hb B x24; have S := S.below x24; refine t_fld ln_seg_1 ‹_› fb_seg_1 rfl ?_ rfl; intro p11 hp11; refine t_ldi ‹_› ab_int B rfl ?_ rfl; refine t_fld ln_seg_2 ‹_› fb_seg_2 rfl ?_ rfl; intro p13 hp13; refine t_lds ‹_› ab_s_hop B rfl ?_ rfl; intro v14 hv14; refine t_m rfl ?_ rfl; refine t_slt e_hop (k := (i.toNat)) ‹_› rfl rfl (by first | rfl | omega) (by omega) ?_ rfl; intro v16 hv16; refine t_c Tryz.call165 rfl (impl_macsOf _ _ _ (by first | assumption | exact SlR.below ‹_› B) (by omega)) ?_ rfl rfl; rintro e w25 ⟨v17, fpv17, rfl, hOv17, x26⟩; refine ⟨_, rfl, x26, ?_⟩; have S := S.add (o := slO _ _ _ _) x26 hOv17; have B := bx Hb B x26; refine t_calls Tryz.call164 rfl (impl_ChainAdd _ _ _ _ (S.sl) (by omega)) ?_ rfl rfl; refine t_a rfl ?_ rfl; refine t_e' ?_; refine w_r ?_; refine x_ret1 rfl rfl ?_; exact ⟨ret_int (by simp [segBeta, h1']), ext_trans X0 B⟩
theorem spec_BetaAt (s : Seg) (v : Value) (i : Int) (w : World) (h : VA segT w v s) (hz : s.hops.length ≤ 1048576) : Calls Tryz.prog 143 #[v, I i] w fun e w' => e = .returned (I (segBeta s i)) ∧ Below w.heap.size w w' := by
 have hml : ((s.hops.take i.toNat).map Hop.mac).length ≤ 1048576 := by rw [List.length_map, List.length_take]; omega
 have hml2 : (s.hops.take i.toNat).length ≤ 1048576 := by rw [List.length_take]; omega
 have X0 := Below.refl w.heap.size w; refine enter Tryz.func143 rfl Tryz.ntmps143 rfl ?_; refine w_h ?_; refine t_boxr ‹_› rfl ?_ rfl rfl; intro p2 w27 x28 hp2; replace h := h.below x28; have X0 := ext_trans X0 x28; have S := Sep.nil w27; have B := Below.refl w27.heap.size w27; have Hb := Nat.le_refl w27.heap.size; refine t_a rfl ?_ rfl; refine t_e ?_; (iterate 2 refine w_s ?_); refine w_g ?_; refine t_m rfl ?_ rfl; refine t_fld ln_seg_2 ‹_› fb_seg_2 rfl ?_ rfl; intro p6 hp6; refine t_lds ‹_› ab_s_hop B rfl ?_ rfl; intro v7 hv7; refine t_len e_hop ‹_› rfl rfl ?_ rfl; refine t_calls Tryz.call144 rfl (spec_l1In _ _ _ _) ?_ rfl rfl; refine t_notb rfl ?_ rfl; refine t_e ?_; refine w_ifb rfl ?_ ?_
 ·intro h1; refine w_h ?_; refine t_a rfl ?_ rfl; refine t_e ?_; refine w_r ?_; refine x_t ?_; refine x_ret1 rfl rfl ?_
  have h1' : inR i 0 s.hops.length = false := by simpa using h1
  exact ⟨ret_int (by simp [segBeta, h1']), ext_trans X0 B⟩
 ·intro h1
  have h1' : inR i 0 s.hops.length = true := by simpa using h1
  have r1 := inR_iff.1 h1'; refine w_k ?_; refine x_s ?_; refine w_s ?_; refine w_draw (.st .take 0 (.st .take 1 (.st .take 2 (.st .take 3 (.st .run 4 (.st .run 5 (.st .take 6 .done))))))) mixed (by kernel_rfl) ?_; intro w29 x30; have B := bx Hb B x30; have S := S.below x30; refine t_fld ln_seg_1 ‹_› fb_seg_1 rfl ?_ rfl; intro p11 hp11; refine t_ldi ‹_› ab_int B rfl ?_ rfl; refine t_lda ‹_› ab_seg sb_seg B rfl ?_ rfl; intro v13 hv13; obtain ⟨v13_2, rfl, hv13_2⟩ := seg_va hv13; refine t_m rfl ?_ rfl; refine t_c Tryz.call171 rfl (spec_l9Seals _ _ _ _ (by first | assumption | exact VA.below ‹_› B | exact seg_mkv (by first | assumption | exact SlR.below ‹_› B)) (by omega) (by omega)) ?_ rfl rfl; rintro e w31 ⟨v15, fpv15, rfl, hOv15, x32⟩; refine ⟨_, rfl, x32, ?_⟩; have S := S.add (o := slO _ _ _ _) x32 hOv15; have B := bx Hb B x32; refine t_calls Tryz.call170 rfl (spec_ChainAdd _ _ _ _ (S.sl) (by omega)) ?_ rfl rfl; refine t_a rfl ?_ rfl; refine t_e' ?_; refine w_r ?_; refine x_ret1 rfl rfl ?_; exact ⟨ret_int (by simp [segBeta, h1']), ext_trans X0 B⟩
theorem impl_copyHops (l : List Hop) (v : Value) (w : World) (h : SlR hopT w v l) (hz : l.length ≤ 1048576) : Calls Tryz.prog 125 #[v] w fun e w' => ∃ v fp, e = .returned v ∧ SlO hopT 87 w.heap.size w' v l fp ∧ Below w.heap.size w w' := by
  have X0 := Below.refl w.heap.size w; refine enter Tryz.func125 rfl Tryz.ntmps125 rfl ?_; refine w_h ?_; have S := Sep.nil w; have B := Below.refl w.heap.size w; have Hb := Nat.le_refl w.heap.size; refine t_a rfl ?_ rfl; refine t_k ?_; refine t_lit (T := hopT) (css := []) (l := []) hop_flat S bs_hop0 rfl rfl rfl rfl (Nat.zero_le _) litR_nil ?_ rfl rfl; intro u3 w33 x34 S; have B := bx Hb B x34; refine t_m rfl ?_ rfl; refine t_cat hop_flat e_hop S (by first | assumption | exact SlR.below ‹_› B) rfl rfl rfl (by first | omega | (simp [-List.length_flatMap]; omega)) (by (simp [maxLen, -List.length_flatMap]; try omega)) ?_ rfl; intro v5 w35 x36 S; have B := B.trans x36; refine t_a rfl ?_ rfl; refine t_e ?_; refine w_r ?_; refine x_ret1 rfl rfl ?_; obtain ⟨fp, hO⟩ := (S.mono X0.size).head; exact ⟨_, fp, rfl, hO, ext_trans X0 B⟩
theorem rev_snoc {l : List Hop} {i : Int} {x : Hop} (h0 : 0 ≤ i) (h : l[i.toNat]? = some x) : (l.drop (i - 1 + 1).toNat).reverse = (l.drop (i + 1).toNat).reverse ++ [x] := by
  have h2 := List.getElem?_eq_some_iff.1 h; rw [show (i - 1 + 1).toNat = i.toNat by omega, show (i + 1).toNat = i.toNat + 1 by omega, List.drop_eq_getElem_cons h2.1, List.reverse_cons, h2.2]
theorem impl_reversedHops (l : List Hop) (v : Value) (w : World) (h : SlR hopT w v l) (hz : l.length ≤ 1048576) : Calls Tryz.prog 135 #[v] w fun e w' => ∃ v fp, e = .returned v ∧ SlO hopT 87 w.heap.size w' v l.reverse fp ∧ Below w.heap.size w w' := by
 have X0 := Below.refl w.heap.size w; refine enter Tryz.func135 rfl Tryz.ntmps135 rfl ?_; refine w_h ?_; have S := Sep.nil w; have B := Below.refl w.heap.size w; have Hb := Nat.le_refl w.heap.size; refine t_a rfl ?_ rfl; refine t_k ?_; refine t_a rfl ?_ rfl; refine t_e ?_; (iterate 2 refine w_s ?_); refine w_g ?_; refine t_m rfl ?_ rfl; refine t_len e_hop ‹_› rfl rfl ?_ rfl; refine t_sub rfl rfl (by omega) ?_ rfl; refine t_a rfl ?_ rfl; refine t_e ?_; refine w_block ?_; refine w_loop (X := Int × Value) (fun x wq => (fun i u => -1 ≤ i ∧ i ≤ (l.length : Int) - 1 ∧ Below w.heap.size w wq ∧ Sep w.heap.size wq [slO hopT 87 u (l.drop (i + 1).toNat).reverse]) x.1 x.2) (fun x => (fun i u => [(4, I i), (3, u), (0, v), (2, .slice none 0 0)]) x.1 x.2) (fun x => (fun i u => (i + 1).toNat) x.1 x.2) ((l.length : Int) - 1, .slice none 0 0) ?_ ⟨rfl, rfl, rfl, rfl, trivial⟩ ?_
 ·refine ⟨by show -1 ≤ (l.length : Int) - 1; omega, by show (l.length : Int) - 1 ≤ _; omega, B, ?_⟩
  show Sep _ _ [slO hopT _ _ (l.drop ((l.length : Int) - 1 + 1).toNat).reverse]
  rw [List.drop_of_length_le (by omega)]; exact S.addNil
 ·rintro ⟨i, u⟩ w37 hI; (try dsimp only at hI ⊢); obtain ⟨hk, hk2, B, S⟩ := hI
  have hml : (l.drop (i + 1).toNat).reverse.length ≤ 1048576 := by rw [List.length_reverse, List.length_drop]; omega
  (iterate 2 refine w_s ?_); refine w_g ?_; refine t_m rfl ?_ rfl; refine t_geq rfl rfl ?_ rfl; refine t_e ?_; refine w_if rfl ?_ ?_
  ·intro hlt; refine w_k ?_; refine x_s ?_; refine w_s ?_; refine w_block ?_; refine w_g ?_; (iterate 3 refine t_m rfl ?_ rfl); obtain ⟨e15, he15⟩ : ∃ e, (l)[i.toNat]? = some e := getx (by omega); refine t_idx e_hop (k := i.toNat) ‹_› he15 B rfl rfl (by first | rfl | omega) ?_ rfl; intro p15 hp15; refine t_lda ‹_› ab_hop sb_hop B rfl ?_ rfl; intro v16 hv16; obtain rfl := hop_va hv16; refine t_lit (T := hopT) (l := [(e15 : Hop)]) (css := [[I e15.ia, I e15.ing, I e15.eg, I e15.exp, I e15.mac]]) hop_flat S (fun w => bs_hop1 _ _ _ _ _ w) rfl rfl rfl rfl (by simp [maxLen]) (litR_one fun _ => rfl) ?_ rfl rfl; intro u17 w38 x39 S; have B := bx Hb B x39; have hR := S.sl; have S := S.f1; refine t_cat hop_flat e_hop S hR rfl rfl rfl (by first | omega | (simp [-List.length_flatMap]; omega)) (by (simp [maxLen, -List.length_flatMap]; try omega)) ?_ rfl; intro v18 w40 x41 S; have B := B.trans x41; clear hR; have S := S.f1.tail; refine t_a rfl ?_ rfl; refine t_d ?_; refine x_b ?_; refine x_s ?_; refine w_g ?_; refine t_m rfl ?_ rfl; refine t_sub rfl rfl (by omega) ?_ rfl; refine t_a rfl ?_ rfl; refine t_d ?_
   refine x_r (X := Int × Value) (i - 1, v18) ?_ (by exact ⟨rfl, rfl, rfl, rfl, trivial⟩) (by (try dsimp only); omega); (try dsimp only); refine ⟨by omega, by omega, B, ?_⟩; rw [rev_snoc (by omega) he15]; exact S
  ·intro hge; refine w_exit ?_; (iterate 2 refine x_then_exit ?_); refine x_block_exit ?_; refine x_s ?_; refine w_h ?_; refine t_m rfl ?_ rfl; refine t_a rfl ?_ rfl; refine t_e ?_; refine w_r ?_; refine x_ret1 rfl rfl ?_
   have : i = -1 := by omega
   subst this; obtain ⟨fp, hO⟩ := (S.mono X0.size).head; exact ⟨_, fp, rfl, hO, ext_trans X0 B⟩
def makePart (s : Seg) (kind i : Int) : Part := if inR i 0 ((s.hops.length : Int) - 1) && inR kind 1 4 then (if isRev kind then ⟨kind, s.ts, segBeta s s.hops.length, (s.hops.drop i.toNat).reverse⟩ else ⟨kind, s.ts, segBeta s i, s.hops.drop i.toNat⟩) else ⟨0, 0, 0, []⟩
theorem make_none {s : Seg} {kind i : Int} (h : (inR i 0 ((s.hops.length : Int) - 1) && inR kind 1 4) = false) : makePart s kind i = ⟨0, 0, 0, []⟩ := by unfold makePart; rw [h]; rfl
theorem make_rev {s : Seg} {kind i : Int} (h1 : inR i 0 ((s.hops.length : Int) - 1) = true) (h2 : inR kind 1 4 = true) (h3 : isRev kind = true) : makePart s kind i = ⟨kind, s.ts, segBeta s s.hops.length, (s.hops.drop i.toNat).reverse⟩ := by unfold makePart; rw [h1, h2, h3]; rfl
theorem make_fwd {s : Seg} {kind i : Int} (h1 : inR i 0 ((s.hops.length : Int) - 1) = true) (h2 : inR kind 1 4 = true) (h3 : isRev kind = false) : makePart s kind i = ⟨kind, s.ts, segBeta s i, s.hops.drop i.toNat⟩ := by unfold makePart; rw [h1, h2, h3]; rfl
theorem impl_MakePart (s : Seg) (v : Value) (kind i : Int) (w : World) (h : VA segT w v s) (hz : s.hops.length ≤ 1048576) : Calls Tryz.prog 93 #[v, I kind, I i] w fun e w' => ∃ cs fp, e = .returned (.agg cs.toArray) ∧ partT.O w.heap.size w' cs (makePart s kind i) fp ∧ Below w.heap.size w w' := by
 have hdl : (s.hops.drop i.toNat).length ≤ 1048576 := by rw [List.length_drop]; omega
 have X0 := Below.refl w.heap.size w; refine enter Tryz.func93 rfl Tryz.ntmps93 rfl ?_; refine w_h ?_; refine t_boxr ‹_› rfl ?_ rfl rfl; intro p3 w42 x43 hp3; replace h := h.below x43; have X0 := ext_trans X0 x43; have S := Sep.nil w42; have B := Below.refl w42.heap.size w42; have Hb := Nat.le_refl w42.heap.size; refine t_w S z_part rfl ?_ rfl rfl; intro g6 w44 x45 S; have B := bx Hb B x45; refine t_e ?_; (iterate 2 refine w_s ?_); refine w_g ?_; refine t_m rfl ?_ rfl; refine t_fld ln_seg_2 ‹_› fb_seg_2 rfl ?_ rfl; intro p9 hp9; refine t_lds ‹_› ab_s_hop B rfl ?_ rfl; intro v10 hv10; refine t_len e_hop ‹_› rfl rfl ?_ rfl; refine t_sub rfl rfl (by omega) ?_ rfl; refine t_calls Tryz.call109 rfl (impl_InRange _ _ _ _) ?_ rfl rfl; refine t_notb rfl ?_ rfl; refine t_m rfl ?_ rfl; refine t_part (t := 15) rfl ?_ ?_
 ·intro h1
  have h1' : inR i 0 ((s.hops.length : Int) - 1) = false := by simpa using h1
  rw [make_none (by rw [h1']; rfl)]; (iterate 3 refine t_off rfl rfl rfl ?_ rfl); refine t_q rfl rfl ?_ rfl; refine t_e ?_; refine w_yes rfl ?_; refine w_h ?_; refine t_g (fun w => b_part0 w) rfl ?_ rfl; refine t_stn S sb_part rfl rfl rfl rfl (by simp [Value.oneCell']) ?_; intro w46 b47 S; have B := B.trans b47; refine t_e ?_; refine w_r ?_; refine x_t ?_; refine x_retc rfl rfl S.box ab_part sb_part rfl ?_; have S := Sep.addNil (T := hopT) (e := 87) S; have S := S.partShut (x := ⟨0, 0, 0, []⟩); obtain ⟨fp, hO⟩ := (S.mono X0.size).head; exact ⟨_, fp, rfl, hO, ext_trans X0 B⟩
 intro h1
 have h1' : inR i 0 ((s.hops.length : Int) - 1) = true := by simpa using h1
 have r1 := inR_iff.1 h1'; refine t_on rfl rfl ?_; refine t_m rfl ?_ rfl; refine t_on rfl rfl ?_; refine t_calls Tryz.call109 rfl (impl_InRange _ _ _ _) ?_ rfl rfl; refine t_on rfl rfl ?_; refine t_notb rfl ?_ rfl; refine t_p rfl rfl ?_ rfl; refine t_e ?_; refine w_ifb rfl ?_ ?_
 ·intro h2
  have h2' : inR kind 1 4 = false := by simpa using h2
  rw [make_none (by rw [h2']; simp)]; refine w_h ?_; refine t_g (fun w => b_part0 w) rfl ?_ rfl; refine t_stn S sb_part rfl rfl rfl rfl (by simp [Value.oneCell']) ?_; intro w48 b49 S; have B := B.trans b49; refine t_e ?_; refine w_r ?_; refine x_t ?_; refine x_retc rfl rfl S.box ab_part sb_part rfl ?_; have S := Sep.addNil (T := hopT) (e := 87) S; have S := S.partShut (x := ⟨0, 0, 0, []⟩); obtain ⟨fp, hO⟩ := (S.mono X0.size).head; exact ⟨_, fp, rfl, hO, ext_trans X0 B⟩
 intro h2
 have h2' : inR kind 1 4 = true := by simpa using h2
 refine w_k ?_; refine x_s ?_; refine w_s ?_; refine w_draw (.st .take 0 (.st .take 1 (.st .take 2 (.st .take 3 (.st .take 4 (.st .take 6 (.st .take 7 (.st .take 8 (.st .take 9 (.alt (.st .run 5 (.alt (.st .run 10 (.st .take 11 (.st .run 12 (.st .fin 13 .done)))) (.st .run 12 (.st .run 10 (.st .take 11 (.st .fin 13 .done)))))) (.st .run 12 (.st .run 5 (.st .run 10 (.st .take 11 (.st .fin 13 .done))))))))))))))) mixed (by kernel_rfl) ?_; intro w50 x51; have B := bx Hb B x51; have S := S.below x51; refine t_m rfl ?_ rfl; refine t_fld ln_seg_0 ‹_› fb_seg_0 rfl ?_ rfl; intro p22 hp22; refine t_ldi ‹_› ab_int B rfl ?_ rfl; refine t_lda ‹_› ab_seg sb_seg B rfl ?_ rfl; intro v24 hv24; obtain ⟨v24_2, rfl, hv24_2⟩ := seg_va hv24; refine t_m rfl ?_ rfl; refine t_fld ln_seg_2 ‹_› fb_seg_2 rfl ?_ rfl; intro p27 hp27; refine t_lds ‹_› ab_s_hop B rfl ?_ rfl; intro v28 hv28; refine t_m rfl ?_ rfl; refine t_sld e_hop (k := (i.toNat)) ‹_› rfl rfl (by first | rfl | omega) (by omega) ?_ rfl; intro v30 hv30; refine t_alt ?_ ?_
 refine t_x Tryz.call134 rfl (impl_BetaAt _ _ _ _ (by first | assumption | exact VA.below ‹_› B | exact seg_mkv (by first | assumption | exact SlR.below ‹_› B)) (by omega)) ?_ rfl rfl; intro w52 x53; have B := bx Hb B x53; have S := S.below x53; refine t_alt ?_ ?_
 ·refine t_c Tryz.call125 rfl (impl_copyHops _ _ _ (by first | assumption | exact SlR.below ‹_› B) (by omega)) ?_ rfl rfl; rintro e w54 ⟨v31, fpv31, rfl, hOv31, x55⟩; refine ⟨_, rfl, x55, ?_⟩; have S := S.add (o := slO _ _ _ _) x55 hOv31; have B := bx Hb B x55; obtain ⟨Av31, cv31, rfl, _⟩ := S.sl.form; refine t_g (fun w => b_part _ _ _ _ _ _ w) rfl ?_ rfl; refine t_w S z_part rfl ?_ rfl rfl; intro g7 w56 x57 S; have B := bx Hb B x57; refine t_stn S sb_part rfl rfl rfl rfl (by repeat first | exact oc0 | refine oc rfl ?_ | refine oc (SlR.cells (S.tail.sl)).2 ?_) ?_; intro w58 b59 S; have B := B.trans b59; refine t_e' ?_; (iterate 2 refine w_s ?_); refine w_g ?_; refine t_m rfl ?_ rfl; refine t_calls Tryz.call119 rfl (impl_IsReversed _ _) ?_ rfl rfl; refine t_e ?_; refine w_ifb rfl ?_ ?_
  ·intro h3; rw [make_rev h1' h2' h3]; refine w_h ?_; refine t_lda ‹_› ab_seg sb_seg B rfl ?_ rfl; intro v35 hv35; obtain ⟨v35_2, rfl, hv35_2⟩ := seg_va hv35; refine t_fld ln_seg_2 ‹_› fb_seg_2 rfl ?_ rfl; intro p36 hp36; refine t_lds ‹_› ab_s_hop B rfl ?_ rfl; intro v37 hv37; refine t_len e_hop ‹_› rfl rfl ?_ rfl; refine t_x Tryz.call134 rfl (impl_BetaAt _ _ _ _ (by first | assumption | exact VA.below ‹_› B | exact seg_mkv (by first | assumption | exact SlR.below ‹_› B)) (by omega)) ?_ rfl rfl; intro w60 x61; have B := bx Hb B x61; have S := S.below x61; refine t_y fb_part_2 rfl rfl ?_ rfl; refine t_st1 S sb_int rfl rfl rfl rfl rfl ?_; intro w62 b63 S; have B := B.trans b63; refine t_e ?_; refine w_g ?_; refine t_y fb_part_3 rfl rfl ?_ rfl; refine t_bx1 S.box ab_s_hop rfl rfl ?_ rfl; refine t_c Tryz.call135 rfl (impl_reversedHops _ _ _ (S.tail.sl) (by omega)) ?_ rfl rfl; rintro e w64 ⟨v43, fpv43, rfl, hOv43, x65⟩; refine ⟨_, rfl, x65, ?_⟩; have S := S.add (o := slO _ _ _ _) x65 hOv43; have B := bx Hb B x65; refine t_y fb_part_3 rfl rfl ?_ rfl; obtain ⟨Av43, cv43, rfl, _⟩ := S.sl.form; have S := S.f1; refine t_st1 S sb_s_hop rfl rfl rfl rfl rfl ?_; intro w66 b67 S
   have B := B.trans b67; refine t_k ?_; refine t_b S.box ab_part sb_part rfl rfl ?_ rfl; have S := S.f3; refine t_stn S sb_part rfl rfl rfl rfl (by repeat first | exact oc0 | refine oc rfl ?_ | refine oc (SlR.cells (S.tail.tail.sl)).2 ?_) ?_; intro w68 b69 S; have B := B.trans b69; refine t_e ?_; refine w_r ?_; refine x_retc rfl rfl S.box ab_part sb_part rfl ?_; have S := S.f2; have S := S.partShut (x := ⟨kind, s.ts, segBeta s s.hops.length, (s.hops.drop i.toNat).reverse⟩); obtain ⟨fp, hO⟩ := (S.mono X0.size).head; exact ⟨_, fp, rfl, hO, ext_trans X0 B⟩
  ·intro h3; rw [make_fwd h1' h2' h3]; refine w_k ?_; refine x_s ?_; refine w_h ?_; refine t_b S.box ab_part sb_part rfl rfl ?_ rfl; have S := S.f2; refine t_stn S sb_part rfl rfl rfl rfl (by repeat first | exact oc0 | refine oc rfl ?_ | refine oc (SlR.cells (S.tail.tail.sl)).2 ?_) ?_; intro w70 b71 S; have B := B.trans b71; refine t_e ?_; refine w_r ?_; refine x_retc rfl rfl S.box ab_part sb_part rfl ?_; have S := S.f2; have S := S.partShut (x := ⟨kind, s.ts, segBeta s i, s.hops.drop i.toNat⟩); obtain ⟨fp, hO⟩ := (S.mono X0.size).head; exact ⟨_, fp, rfl, hO, ext_trans X0 B⟩
 ·refine t_w S z_part rfl ?_ rfl rfl; intro g7 w72 x73 S; have B := bx Hb B x73; refine t_c Tryz.call125 rfl (impl_copyHops _ _ _ (by first | assumption | exact SlR.below ‹_› B) (by omega)) ?_ rfl rfl; rintro e w74 ⟨v31, fpv31, rfl, hOv31, x75⟩; refine ⟨_, rfl, x75, ?_⟩; have S := S.add (o := slO _ _ _ _) x75 hOv31; have B := bx Hb B x75; obtain ⟨Av31, cv31, rfl, _⟩ := S.sl.form; refine t_g (fun w => b_part _ _ _ _ _ _ w) rfl ?_ rfl; have S := S.f1; refine t_stn S sb_part rfl rfl rfl rfl (by repeat first | exact oc0 | refine oc rfl ?_ | refine oc (SlR.cells (S.tail.sl)).2 ?_) ?_; intro w76 b77 S; have B := B.trans b77; refine t_e' ?_; (iterate 2 refine w_s ?_); refine w_g ?_; refine t_m rfl ?_ rfl; refine t_calls Tryz.call119 rfl (impl_IsReversed _ _) ?_ rfl rfl; refine t_e ?_; refine w_ifb rfl ?_ ?_
  ·intro h3; rw [make_rev h1' h2' h3]; refine w_h ?_; refine t_lda ‹_› ab_seg sb_seg B rfl ?_ rfl; intro v35 hv35; obtain ⟨v35_2, rfl, hv35_2⟩ := seg_va hv35; refine t_fld ln_seg_2 ‹_› fb_seg_2 rfl ?_ rfl; intro p36 hp36; refine t_lds ‹_› ab_s_hop B rfl ?_ rfl; intro v37 hv37; refine t_len e_hop ‹_› rfl rfl ?_ rfl; refine t_x Tryz.call134 rfl (impl_BetaAt _ _ _ _ (by first | assumption | exact VA.below ‹_› B | exact seg_mkv (by first | assumption | exact SlR.below ‹_› B)) (by omega)) ?_ rfl rfl; intro w78 x79; have B := bx Hb B x79; have S := S.below x79; refine t_y fb_part_2 rfl rfl ?_ rfl; refine t_st1 S sb_int rfl rfl rfl rfl rfl ?_; intro w80 b81 S; have B := B.trans b81; refine t_e ?_; refine w_g ?_; refine t_y fb_part_3 rfl rfl ?_ rfl; refine t_bx1 S.box ab_s_hop rfl rfl ?_ rfl; refine t_c Tryz.call135 rfl (impl_reversedHops _ _ _ (S.tail.sl) (by omega)) ?_ rfl rfl; rintro e w82 ⟨v43, fpv43, rfl, hOv43, x83⟩; refine ⟨_, rfl, x83, ?_⟩; have S := S.add (o := slO _ _ _ _) x83 hOv43; have B := bx Hb B x83; refine t_y fb_part_3 rfl rfl ?_ rfl; obtain ⟨Av43, cv43, rfl, _⟩ := S.sl.form; have S := S.f1; refine t_st1 S sb_s_hop rfl rfl rfl rfl rfl ?_; intro w84 b85 S
   have B := B.trans b85; refine t_k ?_; refine t_b S.box ab_part sb_part rfl rfl ?_ rfl; have S := S.f3; refine t_stn S sb_part rfl rfl rfl rfl (by repeat first | exact oc0 | refine oc rfl ?_ | refine oc (SlR.cells (S.tail.tail.sl)).2 ?_) ?_; intro w86 b87 S; have B := B.trans b87; refine t_e ?_; refine w_r ?_; refine x_retc rfl rfl S.box ab_part sb_part rfl ?_; have S := S.f2; have S := S.partShut (x := ⟨kind, s.ts, segBeta s s.hops.length, (s.hops.drop i.toNat).reverse⟩); obtain ⟨fp, hO⟩ := (S.mono X0.size).head; exact ⟨_, fp, rfl, hO, ext_trans X0 B⟩
  ·intro h3; rw [make_fwd h1' h2' h3]; refine w_k ?_; refine x_s ?_; refine w_h ?_; refine t_b S.box ab_part sb_part rfl rfl ?_ rfl; have S := S.f2; refine t_stn S sb_part rfl rfl rfl rfl (by repeat first | exact oc0 | refine oc rfl ?_ | refine oc (SlR.cells (S.tail.tail.sl)).2 ?_) ?_; intro w88 b89 S; have B := B.trans b89; refine t_e ?_; refine w_r ?_; refine x_retc rfl rfl S.box ab_part sb_part rfl ?_; have S := S.f2; have S := S.partShut (x := ⟨kind, s.ts, segBeta s i, s.hops.drop i.toNat⟩); obtain ⟨fp, hO⟩ := (S.mono X0.size).head; exact ⟨_, fp, rfl, hO, ext_trans X0 B⟩
 ·refine t_w S z_part rfl ?_ rfl rfl; intro g7 w90 x91 S; have B := bx Hb B x91; refine t_x Tryz.call134 rfl (impl_BetaAt _ _ _ _ (by first | assumption | exact VA.below ‹_› B | exact seg_mkv (by first | assumption | exact SlR.below ‹_› B)) (by omega)) ?_ rfl rfl; intro w92 x93; have B := bx Hb B x93; have S := S.below x93; refine t_c Tryz.call125 rfl (impl_copyHops _ _ _ (by first | assumption | exact SlR.below ‹_› B) (by omega)) ?_ rfl rfl; rintro e w94 ⟨v31, fpv31, rfl, hOv31, x95⟩; refine ⟨_, rfl, x95, ?_⟩; have S := S.add (o := slO _ _ _ _) x95 hOv31; have B := bx Hb B x95; obtain ⟨Av31, cv31, rfl, _⟩ := S.sl.form; refine t_g (fun w => b_part _ _ _ _ _ _ w) rfl ?_ rfl; have S := S.f1; refine t_stn S sb_part rfl rfl rfl rfl (by repeat first | exact oc0 | refine oc rfl ?_ | refine oc (SlR.cells (S.tail.sl)).2 ?_) ?_; intro w96 b97 S; have B := B.trans b97; refine t_e' ?_; (iterate 2 refine w_s ?_); refine w_g ?_; refine t_m rfl ?_ rfl; refine t_calls Tryz.call119 rfl (impl_IsReversed _ _) ?_ rfl rfl; refine t_e ?_; refine w_ifb rfl ?_ ?_
  ·intro h3; rw [make_rev h1' h2' h3]; refine w_h ?_; refine t_lda ‹_› ab_seg sb_seg B rfl ?_ rfl; intro v35 hv35; obtain ⟨v35_2, rfl, hv35_2⟩ := seg_va hv35; refine t_fld ln_seg_2 ‹_› fb_seg_2 rfl ?_ rfl; intro p36 hp36; refine t_lds ‹_› ab_s_hop B rfl ?_ rfl; intro v37 hv37; refine t_len e_hop ‹_› rfl rfl ?_ rfl; refine t_x Tryz.call134 rfl (impl_BetaAt _ _ _ _ (by first | assumption | exact VA.below ‹_› B | exact seg_mkv (by first | assumption | exact SlR.below ‹_› B)) (by omega)) ?_ rfl rfl; intro w98 x99; have B := bx Hb B x99; have S := S.below x99; refine t_y fb_part_2 rfl rfl ?_ rfl; refine t_st1 S sb_int rfl rfl rfl rfl rfl ?_; intro w100 b101 S; have B := B.trans b101; refine t_e ?_; refine w_g ?_; refine t_y fb_part_3 rfl rfl ?_ rfl; refine t_bx1 S.box ab_s_hop rfl rfl ?_ rfl; refine t_c Tryz.call135 rfl (impl_reversedHops _ _ _ (S.tail.sl) (by omega)) ?_ rfl rfl; rintro e w102 ⟨v43, fpv43, rfl, hOv43, x103⟩; refine ⟨_, rfl, x103, ?_⟩; have S := S.add (o := slO _ _ _ _) x103 hOv43; have B := bx Hb B x103; refine t_y fb_part_3 rfl rfl ?_ rfl; obtain ⟨Av43, cv43, rfl, _⟩ := S.sl.form; have S := S.f1; refine t_st1 S sb_s_hop rfl rfl rfl rfl rfl ?_; intro w104 b105 S
   have B := B.trans b105; refine t_k ?_; refine t_b S.box ab_part sb_part rfl rfl ?_ rfl; have S := S.f3; refine t_stn S sb_part rfl rfl rfl rfl (by repeat first | exact oc0 | refine oc rfl ?_ | refine oc (SlR.cells (S.tail.tail.sl)).2 ?_) ?_; intro w106 b107 S; have B := B.trans b107; refine t_e ?_; refine w_r ?_; refine x_retc rfl rfl S.box ab_part sb_part rfl ?_; have S := S.f2; have S := S.partShut (x := ⟨kind, s.ts, segBeta s s.hops.length, (s.hops.drop i.toNat).reverse⟩); obtain ⟨fp, hO⟩ := (S.mono X0.size).head; exact ⟨_, fp, rfl, hO, ext_trans X0 B⟩
  ·intro h3; rw [make_fwd h1' h2' h3]; refine w_k ?_; refine x_s ?_; refine w_h ?_; refine t_b S.box ab_part sb_part rfl rfl ?_ rfl; have S := S.f2; refine t_stn S sb_part rfl rfl rfl rfl (by repeat first | exact oc0 | refine oc rfl ?_ | refine oc (SlR.cells (S.tail.tail.sl)).2 ?_) ?_; intro w108 b109 S; have B := B.trans b109; refine t_e ?_; refine w_r ?_; refine x_retc rfl rfl S.box ab_part sb_part rfl ?_; have S := S.f2; have S := S.partShut (x := ⟨kind, s.ts, segBeta s i, s.hops.drop i.toNat⟩); obtain ⟨fp, hO⟩ := (S.mono X0.size).head; exact ⟨_, fp, rfl, hO, ext_trans X0 B⟩
theorem spec_MakePart (s : Seg) (v : Value) (kind i : Int) (w : World) (h : VA segT w v s) (hz : s.hops.length ≤ 1048576) : Calls Tryz.prog 107 #[v, I kind, I i] w fun e w' => ∃ cs fp, e = .returned (.agg cs.toArray) ∧ partT.O w.heap.size w' cs (makePart s kind i) fp ∧ Below w.heap.size w w' := by
 have hdl : (s.hops.drop i.toNat).length ≤ 1048576 := by rw [List.length_drop]; omega
 have X0 := Below.refl w.heap.size w; refine enter Tryz.func107 rfl Tryz.ntmps107 rfl ?_; refine w_h ?_; refine t_boxr ‹_› rfl ?_ rfl rfl; intro p3 w110 x111 hp3; replace h := h.below x111; have X0 := ext_trans X0 x111; have S := Sep.nil w110; have B := Below.refl w110.heap.size w110; have Hb := Nat.le_refl w110.heap.size; refine t_w S z_part rfl ?_ rfl rfl; intro g6 w112 x113 S; have B := bx Hb B x113; refine t_e ?_; (iterate 2 refine w_s ?_); refine w_g ?_; refine t_m rfl ?_ rfl; refine t_fld ln_seg_2 ‹_› fb_seg_2 rfl ?_ rfl; intro p10 hp10; refine t_lds ‹_› ab_s_hop B rfl ?_ rfl; intro v11 hv11; refine t_len e_hop ‹_› rfl rfl ?_ rfl; refine t_sub rfl rfl (by omega) ?_ rfl; refine t_calls Tryz.call144 rfl (spec_l1In _ _ _ _) ?_ rfl rfl; refine t_notb rfl ?_ rfl; refine t_m rfl ?_ rfl; refine t_part (t := 16) rfl ?_ ?_
 ·intro h1
  have h1' : inR i 0 ((s.hops.length : Int) - 1) = false := by simpa using h1
  rw [make_none (by rw [h1']; rfl)]; (iterate 3 refine t_off rfl rfl rfl ?_ rfl); refine t_q rfl rfl ?_ rfl; refine t_e ?_; refine w_yes rfl ?_; refine w_h ?_; refine t_g (fun w => b_part0 w) rfl ?_ rfl; refine t_stn S sb_part rfl rfl rfl rfl (by simp [Value.oneCell']) ?_; intro w114 b115 S; have B := B.trans b115; refine t_e ?_; refine w_r ?_; refine x_t ?_; refine x_retc rfl rfl S.box ab_part sb_part rfl ?_; have S := Sep.addNil (T := hopT) (e := 87) S; have S := S.partShut (x := ⟨0, 0, 0, []⟩); obtain ⟨fp, hO⟩ := (S.mono X0.size).head; exact ⟨_, fp, rfl, hO, ext_trans X0 B⟩
 intro h1
 have h1' : inR i 0 ((s.hops.length : Int) - 1) = true := by simpa using h1
 have r1 := inR_iff.1 h1'; refine t_on rfl rfl ?_; refine t_m rfl ?_ rfl; refine t_on rfl rfl ?_; refine t_calls Tryz.call144 rfl (spec_l1In _ _ _ _) ?_ rfl rfl; refine t_on rfl rfl ?_; refine t_notb rfl ?_ rfl; refine t_p rfl rfl ?_ rfl; refine t_e ?_; refine w_ifb rfl ?_ ?_
 ·intro h2
  have h2' : inR kind 1 4 = false := by simpa using h2
  rw [make_none (by rw [h2']; simp)]; refine w_h ?_; refine t_g (fun w => b_part0 w) rfl ?_ rfl; refine t_stn S sb_part rfl rfl rfl rfl (by simp [Value.oneCell']) ?_; intro w116 b117 S; have B := B.trans b117; refine t_e ?_; refine w_r ?_; refine x_t ?_; refine x_retc rfl rfl S.box ab_part sb_part rfl ?_; have S := Sep.addNil (T := hopT) (e := 87) S; have S := S.partShut (x := ⟨0, 0, 0, []⟩); obtain ⟨fp, hO⟩ := (S.mono X0.size).head; exact ⟨_, fp, rfl, hO, ext_trans X0 B⟩
 intro h2
 have h2' : inR kind 1 4 = true := by simpa using h2
 refine w_k ?_; refine x_s ?_; refine w_s ?_; refine w_draw (.st .take 0 (.st .take 1 (.st .take 2 (.st .take 3 (.st .take 4 (.alt (.st .run 5 (.st .take 6 (.st .run 7 (.st .fin 8 .done)))) (.st .run 7 (.st .run 5 (.st .take 6 (.st .fin 8 .done)))))))))) mixed (by kernel_rfl) ?_; intro w118 x119; have B := bx Hb B x119; have S := S.below x119; refine t_m rfl ?_ rfl; refine t_fld ln_seg_0 ‹_› fb_seg_0 rfl ?_ rfl; intro p23 hp23; refine t_ldi ‹_› ab_int B rfl ?_ rfl; refine t_lda ‹_› ab_seg sb_seg B rfl ?_ rfl; intro v25 hv25; obtain ⟨v25_2, rfl, hv25_2⟩ := seg_va hv25; refine t_m rfl ?_ rfl; refine t_alt ?_ ?_
 ·refine t_x Tryz.call143 rfl (spec_BetaAt _ _ _ _ (by first | assumption | exact VA.below ‹_› B | exact seg_mkv (by first | assumption | exact SlR.below ‹_› B)) (by omega)) ?_ rfl rfl; intro w120 x121; have B := bx Hb B x121; have S := S.below x121; refine t_g (fun w => b_part3 _ _ _ w) rfl ?_ rfl; refine t_w S z_part rfl ?_ rfl rfl; intro g7 w122 x123 S; have B := bx Hb B x123; refine t_stn S sb_part rfl rfl rfl rfl (by simp [Value.oneCell']) ?_; intro w124 b125 S; have B := B.trans b125; refine t_e' ?_; (iterate 2 refine w_s ?_); refine w_g ?_; refine t_m rfl ?_ rfl; refine t_calls Tryz.call148 rfl (spec_IsReversed _ _) ?_ rfl rfl; refine t_notb rfl ?_ rfl; refine t_e ?_; refine w_ifb rfl ?_ ?_
  ·intro h3; rw [make_fwd h1' h2' (by simpa using h3)]; refine w_h ?_; refine t_lit (T := hopT) (css := []) (l := []) hop_flat S bs_hop0 rfl rfl rfl rfl (Nat.zero_le _) litR_nil ?_ rfl rfl; intro u32 w126 x127 S; have B := bx Hb B x127; refine t_fld ln_seg_2 ‹_› fb_seg_2 rfl ?_ rfl; intro p33 hp33; refine t_lds ‹_› ab_s_hop B rfl ?_ rfl; intro v34 hv34; refine t_m rfl ?_ rfl; refine t_sld e_hop (k := (i.toNat)) ‹_› rfl rfl (by first | rfl | omega) (by omega) ?_ rfl; intro v36 hv36; refine t_cat hop_flat e_hop S (by first | assumption | exact SlR.below ‹_› B) rfl rfl rfl (by first | omega | (simp [-List.length_flatMap]; omega)) (by (simp [maxLen, -List.length_flatMap]; try omega)) ?_ rfl; intro v37 w128 x129 S; have B := B.trans x129; refine t_y fb_part_3 rfl rfl ?_ rfl; obtain ⟨Av37, cv37, rfl, _⟩ := S.sl.form; have S := S.f1; refine t_st1 S sb_s_hop rfl rfl rfl rfl rfl ?_; intro w130 b131 S; have B := B.trans b131; refine t_k ?_; refine t_b S.box ab_part sb_part rfl rfl ?_ rfl; have S := S.f2; refine t_stn S sb_part rfl rfl rfl rfl (by repeat first | exact oc0 | refine oc rfl ?_ | refine oc (SlR.cells (S.tail.tail.sl)).2 ?_) ?_; intro w132 b133 S; have B := B.trans b133
   refine t_e ?_; refine w_r ?_; refine x_t ?_; refine x_retc rfl rfl S.box ab_part sb_part rfl ?_; have S := S.f2; have S := S.partShut (x := ⟨kind, s.ts, segBeta s i, s.hops.drop i.toNat⟩); obtain ⟨fp, hO⟩ := (S.mono X0.size).head; exact ⟨_, fp, rfl, hO, ext_trans X0 B⟩
  ·intro h3; rw [make_rev h1' h2' (by simpa using h3)]; refine w_k ?_; refine x_s ?_; refine w_h ?_; refine t_lda ‹_› ab_seg sb_seg B rfl ?_ rfl; intro v40 hv40; obtain ⟨v40_2, rfl, hv40_2⟩ := seg_va hv40; refine t_fld ln_seg_2 ‹_› fb_seg_2 rfl ?_ rfl; intro p41 hp41; refine t_lds ‹_› ab_s_hop B rfl ?_ rfl; intro v42 hv42; refine t_len e_hop ‹_› rfl rfl ?_ rfl; refine t_x Tryz.call143 rfl (spec_BetaAt _ _ _ _ (by first | assumption | exact VA.below ‹_› B | exact seg_mkv (by first | assumption | exact SlR.below ‹_› B)) (by omega)) ?_ rfl rfl; intro w134 x135; have B := bx Hb B x135; have S := S.below x135; refine t_y fb_part_2 rfl rfl ?_ rfl; refine t_st1 S sb_int rfl rfl rfl rfl rfl ?_; intro w136 b137 S; have B := B.trans b137; refine t_e ?_; (iterate 2 refine w_s ?_); refine w_g ?_; refine t_fld ln_seg_2 ‹_› fb_seg_2 rfl ?_ rfl; intro p46 hp46; refine t_lds ‹_› ab_s_hop B rfl ?_ rfl; intro v47 hv47; refine t_len e_hop ‹_› rfl rfl ?_ rfl; refine t_sub rfl rfl (by omega) ?_ rfl; refine t_a rfl ?_ rfl; refine t_e ?_; refine w_block ?_
   refine w_loop (X := Int × Value) (fun x wq => (fun j u => i - 1 ≤ j ∧ j ≤ (s.hops.length : Int) - 1 ∧ Below w110.heap.size w110 wq ∧ Sep w110.heap.size wq [bxO g7 85 #[I kind, I s.ts, I (segBeta s s.hops.length), u], slO hopT 87 u (s.hops.drop (j + 1).toNat).reverse, bxO g6 85 #[I 0, I 0, I 0, .slice none 0 0]]) x.1 x.2) (fun x => (fun j u => [(8, I j), (2, I i), (3, p3), (6, .pointer (some ⟨g6, 0, none⟩)), (7, .pointer (some ⟨g7, 0, none⟩))]) x.1 x.2) (fun x => (fun j u => (j + 1 - i).toNat) x.1 x.2) ((s.hops.length : Int) - 1, .slice none 0 0) ?_ ⟨rfl, rfl, rfl, rfl, rfl, trivial⟩ ?_
   ·refine ⟨by show i - 1 ≤ (s.hops.length : Int) - 1; omega, by show (s.hops.length : Int) - 1 ≤ _; omega, B, ?_⟩
    show Sep _ _ [_, slO hopT _ _ (s.hops.drop ((s.hops.length : Int) - 1 + 1).toNat).reverse, _]
    rw [List.drop_of_length_le (by omega)]; exact S.addNil.f1
   ·rintro ⟨j, u⟩ w138 hI; (try dsimp only at hI ⊢); obtain ⟨hk, hk2, B, S⟩ := hI
    have hml : (s.hops.drop (j + 1).toNat).reverse.length ≤ 1048576 := by rw [List.length_reverse, List.length_drop]; omega
    (iterate 2 refine w_s ?_); refine w_g ?_; (iterate 2 refine t_m rfl ?_ rfl); refine t_geq rfl rfl ?_ rfl; refine t_e ?_; refine w_if rfl ?_ ?_
    ·intro hlt; refine w_k ?_; refine x_s ?_; refine w_s ?_; refine w_block ?_; refine w_draw (.st .take 0 (.st .take 1 (.st .take 2 (.st .take 3 (.st .take 4 (.st .take 5 (.st .take 6 (.st .run 7 (.st .fin 8 (.st .fin 9 (.st .fin 10 .done))))))))))) mixed (by kernel_rfl) ?_; intro w139 x140; have B := bx Hb B x140; have S := S.below x140; refine t_y fb_part_3 rfl rfl ?_ rfl; refine t_bx1 S.box ab_s_hop rfl rfl ?_ rfl; refine t_fld ln_seg_2 ‹_› fb_seg_2 rfl ?_ rfl; intro p57 hp57; refine t_lds ‹_› ab_s_hop B rfl ?_ rfl; intro v58 hv58; refine t_m rfl ?_ rfl; obtain ⟨e60, he60⟩ : ∃ e, (s.hops)[(j.toNat)]? = some e := getx (by omega); refine t_idx e_hop (k := (j.toNat)) ‹_› he60 B rfl rfl (by first | rfl | omega) ?_ rfl; intro p60 hp60; refine t_lda ‹_› ab_hop sb_hop B rfl ?_ rfl; intro v61 hv61; obtain rfl := hop_va hv61; refine t_lit (T := hopT) (l := [(e60 : Hop)]) (css := [[I e60.ia, I e60.ing, I e60.eg, I e60.exp, I e60.mac]]) hop_flat S (fun w => bs_hop1 _ _ _ _ _ w) rfl rfl rfl rfl (by simp [maxLen]) (litR_one fun _ => rfl) ?_ rfl rfl; intro u62 w141 x142 S; have B := bx Hb B x142; have hR := S.sl; have S := S.f2
     refine t_cat hop_flat e_hop S hR rfl rfl rfl (by first | omega | (simp [-List.length_flatMap]; omega)) (by (simp [maxLen, -List.length_flatMap]; try omega)) ?_ rfl; intro v63 w143 x144 S; have B := B.trans x144; clear hR; have S := S.f1.tail; refine t_y fb_part_3 rfl rfl ?_ rfl; obtain ⟨Av63, cv63, rfl, _⟩ := S.sl.form; have S := S.f1; refine t_st1 S sb_s_hop rfl rfl rfl rfl rfl ?_; intro w145 b146 S; have B := B.trans b146; refine t_d' ?_; refine x_b ?_; refine x_s ?_; refine w_g ?_; refine t_m rfl ?_ rfl; refine t_sub rfl rfl (by omega) ?_ rfl; refine t_a rfl ?_ rfl; refine t_d ?_; refine x_r (X := Int × Value) (j - 1, .slice Av63 (((s.hops.drop (j + 1).toNat).reverse) ++ ([(e60 : Hop)])).length cv63) ?_ (by exact ⟨rfl, rfl, rfl, rfl, rfl, trivial⟩) (by (try dsimp only); omega); (try dsimp only); refine ⟨by omega, by omega, B, ?_⟩; rw [rev_snoc (by omega) he60]; exact S
    ·intro hge
     have hj : j + 1 = i := by omega
     rw [hj] at S; refine w_exit ?_; (iterate 2 refine x_then_exit ?_); refine x_block_exit ?_; refine x_s ?_; refine w_h ?_; refine t_b S.box ab_part sb_part rfl rfl ?_ rfl; have S := S.f2; refine t_stn S sb_part rfl rfl rfl rfl (by repeat first | exact oc0 | refine oc rfl ?_ | refine oc (SlR.cells (S.tail.tail.sl)).2 ?_) ?_; intro w147 b148 S; have B := B.trans b148; refine t_e ?_; refine w_r ?_; refine x_retc rfl rfl S.box ab_part sb_part rfl ?_; have S := S.f2; have S := S.partShut (x := ⟨kind, s.ts, segBeta s s.hops.length, (s.hops.drop i.toNat).reverse⟩); obtain ⟨fp, hO⟩ := (S.mono X0.size).head; exact ⟨_, fp, rfl, hO, ext_trans X0 B⟩
 ·refine t_w S z_part rfl ?_ rfl rfl; intro g7 w149 x150 S; have B := bx Hb B x150; refine t_x Tryz.call143 rfl (spec_BetaAt _ _ _ _ (by first | assumption | exact VA.below ‹_› B | exact seg_mkv (by first | assumption | exact SlR.below ‹_› B)) (by omega)) ?_ rfl rfl; intro w151 x152; have B := bx Hb B x152; have S := S.below x152; refine t_g (fun w => b_part3 _ _ _ w) rfl ?_ rfl; refine t_stn S sb_part rfl rfl rfl rfl (by simp [Value.oneCell']) ?_; intro w153 b154 S; have B := B.trans b154; refine t_e' ?_; (iterate 2 refine w_s ?_); refine w_g ?_; refine t_m rfl ?_ rfl; refine t_calls Tryz.call148 rfl (spec_IsReversed _ _) ?_ rfl rfl; refine t_notb rfl ?_ rfl; refine t_e ?_; refine w_ifb rfl ?_ ?_
  ·intro h3; rw [make_fwd h1' h2' (by simpa using h3)]; refine w_h ?_; refine t_lit (T := hopT) (css := []) (l := []) hop_flat S bs_hop0 rfl rfl rfl rfl (Nat.zero_le _) litR_nil ?_ rfl rfl; intro u32 w155 x156 S; have B := bx Hb B x156; refine t_fld ln_seg_2 ‹_› fb_seg_2 rfl ?_ rfl; intro p33 hp33; refine t_lds ‹_› ab_s_hop B rfl ?_ rfl; intro v34 hv34; refine t_m rfl ?_ rfl; refine t_sld e_hop (k := (i.toNat)) ‹_› rfl rfl (by first | rfl | omega) (by omega) ?_ rfl; intro v36 hv36; refine t_cat hop_flat e_hop S (by first | assumption | exact SlR.below ‹_› B) rfl rfl rfl (by first | omega | (simp [-List.length_flatMap]; omega)) (by (simp [maxLen, -List.length_flatMap]; try omega)) ?_ rfl; intro v37 w157 x158 S; have B := B.trans x158; refine t_y fb_part_3 rfl rfl ?_ rfl; obtain ⟨Av37, cv37, rfl, _⟩ := S.sl.form; have S := S.f1; refine t_st1 S sb_s_hop rfl rfl rfl rfl rfl ?_; intro w159 b160 S; have B := B.trans b160; refine t_k ?_; refine t_b S.box ab_part sb_part rfl rfl ?_ rfl; have S := S.f2; refine t_stn S sb_part rfl rfl rfl rfl (by repeat first | exact oc0 | refine oc rfl ?_ | refine oc (SlR.cells (S.tail.tail.sl)).2 ?_) ?_; intro w161 b162 S; have B := B.trans b162
   refine t_e ?_; refine w_r ?_; refine x_t ?_; refine x_retc rfl rfl S.box ab_part sb_part rfl ?_; have S := S.f2; have S := S.partShut (x := ⟨kind, s.ts, segBeta s i, s.hops.drop i.toNat⟩); obtain ⟨fp, hO⟩ := (S.mono X0.size).head; exact ⟨_, fp, rfl, hO, ext_trans X0 B⟩
  ·intro h3; rw [make_rev h1' h2' (by simpa using h3)]; refine w_k ?_; refine x_s ?_; refine w_h ?_; refine t_lda ‹_› ab_seg sb_seg B rfl ?_ rfl; intro v40 hv40; obtain ⟨v40_2, rfl, hv40_2⟩ := seg_va hv40; refine t_fld ln_seg_2 ‹_› fb_seg_2 rfl ?_ rfl; intro p41 hp41; refine t_lds ‹_› ab_s_hop B rfl ?_ rfl; intro v42 hv42; refine t_len e_hop ‹_› rfl rfl ?_ rfl; refine t_x Tryz.call143 rfl (spec_BetaAt _ _ _ _ (by first | assumption | exact VA.below ‹_› B | exact seg_mkv (by first | assumption | exact SlR.below ‹_› B)) (by omega)) ?_ rfl rfl; intro w163 x164; have B := bx Hb B x164; have S := S.below x164; refine t_y fb_part_2 rfl rfl ?_ rfl; refine t_st1 S sb_int rfl rfl rfl rfl rfl ?_; intro w165 b166 S; have B := B.trans b166; refine t_e ?_; (iterate 2 refine w_s ?_); refine w_g ?_; refine t_fld ln_seg_2 ‹_› fb_seg_2 rfl ?_ rfl; intro p46 hp46; refine t_lds ‹_› ab_s_hop B rfl ?_ rfl; intro v47 hv47; refine t_len e_hop ‹_› rfl rfl ?_ rfl; refine t_sub rfl rfl (by omega) ?_ rfl; refine t_a rfl ?_ rfl; refine t_e ?_; refine w_block ?_
   refine w_loop (X := Int × Value) (fun x wq => (fun j u => i - 1 ≤ j ∧ j ≤ (s.hops.length : Int) - 1 ∧ Below w110.heap.size w110 wq ∧ Sep w110.heap.size wq [bxO g7 85 #[I kind, I s.ts, I (segBeta s s.hops.length), u], slO hopT 87 u (s.hops.drop (j + 1).toNat).reverse, bxO g6 85 #[I 0, I 0, I 0, .slice none 0 0]]) x.1 x.2) (fun x => (fun j u => [(8, I j), (2, I i), (3, p3), (6, .pointer (some ⟨g6, 0, none⟩)), (7, .pointer (some ⟨g7, 0, none⟩))]) x.1 x.2) (fun x => (fun j u => (j + 1 - i).toNat) x.1 x.2) ((s.hops.length : Int) - 1, .slice none 0 0) ?_ ⟨rfl, rfl, rfl, rfl, rfl, trivial⟩ ?_
   ·refine ⟨by show i - 1 ≤ (s.hops.length : Int) - 1; omega, by show (s.hops.length : Int) - 1 ≤ _; omega, B, ?_⟩
    show Sep _ _ [_, slO hopT _ _ (s.hops.drop ((s.hops.length : Int) - 1 + 1).toNat).reverse, _]
    rw [List.drop_of_length_le (by omega)]; exact S.addNil.f1
   ·rintro ⟨j, u⟩ w167 hI; (try dsimp only at hI ⊢); obtain ⟨hk, hk2, B, S⟩ := hI
    have hml : (s.hops.drop (j + 1).toNat).reverse.length ≤ 1048576 := by rw [List.length_reverse, List.length_drop]; omega
    (iterate 2 refine w_s ?_); refine w_g ?_; (iterate 2 refine t_m rfl ?_ rfl); refine t_geq rfl rfl ?_ rfl; refine t_e ?_; refine w_if rfl ?_ ?_
    ·intro hlt; refine w_k ?_; refine x_s ?_; refine w_s ?_; refine w_block ?_; refine w_draw (.st .take 0 (.st .take 1 (.st .take 2 (.st .take 3 (.st .take 4 (.st .take 5 (.st .take 6 (.st .run 7 (.st .fin 8 (.st .fin 9 (.st .fin 10 .done))))))))))) mixed (by kernel_rfl) ?_; intro w168 x169; have B := bx Hb B x169; have S := S.below x169; refine t_y fb_part_3 rfl rfl ?_ rfl; refine t_bx1 S.box ab_s_hop rfl rfl ?_ rfl; refine t_fld ln_seg_2 ‹_› fb_seg_2 rfl ?_ rfl; intro p57 hp57; refine t_lds ‹_› ab_s_hop B rfl ?_ rfl; intro v58 hv58; refine t_m rfl ?_ rfl; obtain ⟨e60, he60⟩ : ∃ e, (s.hops)[(j.toNat)]? = some e := getx (by omega); refine t_idx e_hop (k := (j.toNat)) ‹_› he60 B rfl rfl (by first | rfl | omega) ?_ rfl; intro p60 hp60; refine t_lda ‹_› ab_hop sb_hop B rfl ?_ rfl; intro v61 hv61; obtain rfl := hop_va hv61; refine t_lit (T := hopT) (l := [(e60 : Hop)]) (css := [[I e60.ia, I e60.ing, I e60.eg, I e60.exp, I e60.mac]]) hop_flat S (fun w => bs_hop1 _ _ _ _ _ w) rfl rfl rfl rfl (by simp [maxLen]) (litR_one fun _ => rfl) ?_ rfl rfl; intro u62 w170 x171 S; have B := bx Hb B x171; have hR := S.sl; have S := S.f2
     refine t_cat hop_flat e_hop S hR rfl rfl rfl (by first | omega | (simp [-List.length_flatMap]; omega)) (by (simp [maxLen, -List.length_flatMap]; try omega)) ?_ rfl; intro v63 w172 x173 S; have B := B.trans x173; clear hR; have S := S.f1.tail; refine t_y fb_part_3 rfl rfl ?_ rfl; obtain ⟨Av63, cv63, rfl, _⟩ := S.sl.form; have S := S.f1; refine t_st1 S sb_s_hop rfl rfl rfl rfl rfl ?_; intro w174 b175 S; have B := B.trans b175; refine t_d' ?_; refine x_b ?_; refine x_s ?_; refine w_g ?_; refine t_m rfl ?_ rfl; refine t_sub rfl rfl (by omega) ?_ rfl; refine t_a rfl ?_ rfl; refine t_d ?_; refine x_r (X := Int × Value) (j - 1, .slice Av63 (((s.hops.drop (j + 1).toNat).reverse) ++ ([(e60 : Hop)])).length cv63) ?_ (by exact ⟨rfl, rfl, rfl, rfl, rfl, trivial⟩) (by (try dsimp only); omega); (try dsimp only); refine ⟨by omega, by omega, B, ?_⟩; rw [rev_snoc (by omega) he60]; exact S
    ·intro hge
     have hj : j + 1 = i := by omega
     rw [hj] at S; refine w_exit ?_; (iterate 2 refine x_then_exit ?_); refine x_block_exit ?_; refine x_s ?_; refine w_h ?_; refine t_b S.box ab_part sb_part rfl rfl ?_ rfl; have S := S.f2; refine t_stn S sb_part rfl rfl rfl rfl (by repeat first | exact oc0 | refine oc rfl ?_ | refine oc (SlR.cells (S.tail.tail.sl)).2 ?_) ?_; intro w176 b177 S; have B := B.trans b177; refine t_e ?_; refine w_r ?_; refine x_retc rfl rfl S.box ab_part sb_part rfl ?_; have S := S.f2; have S := S.partShut (x := ⟨kind, s.ts, segBeta s s.hops.length, (s.hops.drop i.toNat).reverse⟩); obtain ⟨fp, hO⟩ := (S.mono X0.size).head; exact ⟨_, fp, rfl, hO, ext_trans X0 B⟩
/-- The last place below n where the AS is r. -/
def lastI (l : List Hop) (r : Int) : Nat → Int
  | 0 => -1
  | n + 1 => match l[n]? with
    | some x => if x.ia = r then (n : Int) else lastI l r n
    | none => lastI l r n
theorem lastI_yes {l : List Hop} {r : Int} {i : Int} {x : Hop} (h0 : 0 ≤ i) (h : l[i.toNat]? = some x) (e : x.ia = r) : lastI l r (i + 1).toNat = i := by
  rw [show (i + 1).toNat = i.toNat + 1 by omega, lastI, h]
  simp only [e, if_true]
  omega
theorem lastI_no {l : List Hop} {r : Int} {i : Int} {x : Hop} (h0 : 0 ≤ i) (h : l[i.toNat]? = some x) (e : x.ia ≠ r) : lastI l r (i + 1).toNat = lastI l r (i - 1 + 1).toNat := by
  rw [show (i + 1).toNat = i.toNat + 1 by omega, show (i - 1 + 1).toNat = i.toNat by omega, lastI, h]
  simp only [e, if_false]
theorem impl_lastHopOf (s : Seg) (v : Value) (r : Int) (w : World) (h : VA segT w v s) (hz : s.hops.length ≤ 1048576) : Calls Tryz.prog 104 #[v, I r] w fun e w' => e = .returned (I (lastI s.hops r s.hops.length)) ∧ Below w.heap.size w w' := by
 have X0 := Below.refl w.heap.size w; refine enter Tryz.func104 rfl Tryz.ntmps104 rfl ?_; refine w_h ?_; refine t_boxr ‹_› rfl ?_ rfl rfl; intro p2 w1 x2 hp2; replace h := h.below x2; have X0 := ext_trans X0 x2; have S := Sep.nil w1; have B := Below.refl w1.heap.size w1; have Hb := Nat.le_refl w1.heap.size; refine t_a rfl ?_ rfl; refine t_e ?_; (iterate 2 refine w_s ?_); refine w_g ?_; refine t_fld ln_seg_2 ‹_› fb_seg_2 rfl ?_ rfl; intro p6 hp6; refine t_lds ‹_› ab_s_hop B rfl ?_ rfl; intro v7 hv7; refine t_len e_hop ‹_› rfl rfl ?_ rfl; refine t_sub rfl rfl (by omega) ?_ rfl; refine t_a rfl ?_ rfl; refine t_e ?_; refine w_block ?_; refine w_loop (X := Int) (fun i wq => -1 ≤ i ∧ i ≤ (s.hops.length : Int) - 1 ∧ lastI s.hops r (i + 1).toNat = lastI s.hops r s.hops.length ∧ Below w1.heap.size w1 wq ∧ Sep w1.heap.size wq []) (fun i => [(5, I i), (1, I r), (2, p2)]) (fun i => (i + 1).toNat) ((s.hops.length : Int) - 1) ?_ ⟨rfl, rfl, rfl, trivial⟩ ?_
 ·exact ⟨by omega, by omega, by rw [show ((s.hops.length : Int) - 1 + 1).toNat = s.hops.length by omega], B, S⟩
 ·rintro i w3 hI; (try dsimp only at hI ⊢); obtain ⟨hk, hk2, hl, B, S⟩ := hI; (iterate 2 refine w_s ?_); refine w_g ?_; refine t_m rfl ?_ rfl; refine t_geq rfl rfl ?_ rfl; refine t_e ?_; refine w_if rfl ?_ ?_
  ·intro hlt; refine w_k ?_; refine x_s ?_; refine w_s ?_; refine w_block ?_; refine w_h ?_; refine t_fld ln_seg_2 ‹_› fb_seg_2 rfl ?_ rfl; intro p14 hp14; refine t_lds ‹_› ab_s_hop B rfl ?_ rfl; intro v15 hv15; refine t_m rfl ?_ rfl; obtain ⟨e17, he17⟩ : ∃ e, (s.hops)[(i.toNat)]? = some e := getx (by omega); refine t_idx e_hop (k := (i.toNat)) ‹_› he17 B rfl rfl (by first | rfl | omega) ?_ rfl; intro p17 hp17; refine t_fld ln_hop_0 ‹_› fb_hop_0 rfl ?_ rfl; intro p18 hp18; refine t_ldi ‹_› ab_int B rfl ?_ rfl; refine t_m rfl ?_ rfl; refine t_eql rfl rfl ?_ rfl; refine t_e ?_; refine w_if rfl ?_ ?_
   ·intro he; refine w_h ?_; refine t_m rfl ?_ rfl; refine t_a rfl ?_ rfl; refine t_e ?_; refine w_r ?_; refine x_block_ret ?_; (iterate 2 refine x_t ?_); refine x_block_ret ?_; refine x_t ?_; refine x_ret1 rfl rfl ?_; exact ⟨ret_int (by rw [← hl, lastI_yes (by omega) he17 he]), ext_trans X0 B⟩
   ·intro he; refine w_k ?_; refine x_b ?_; refine x_s ?_; refine w_g ?_; refine t_m rfl ?_ rfl; refine t_sub rfl rfl (by omega) ?_ rfl; refine t_a rfl ?_ rfl; refine t_d ?_; refine x_r (X := Int) (i - 1) ?_ (by exact ⟨rfl, rfl, rfl, trivial⟩) (by (try dsimp only); omega); (try dsimp only); exact ⟨by omega, by omega, by rw [← lastI_no (by omega) he17 he]; exact hl, B, S⟩
  ·intro hge; refine w_exit ?_; (iterate 2 refine x_then_exit ?_); refine x_block_exit ?_; refine x_s ?_; refine w_h ?_; refine t_a rfl ?_ rfl; refine t_e ?_; refine w_r ?_; refine x_ret1 rfl rfl ?_
   have : i = -1 := by omega
   subst this; exact ⟨ret_int (by rw [← hl]; rfl), ext_trans X0 B⟩
theorem spec_SegmentASes (p : Seg) (v : Value) (w : World) (h : VA segT w v p) (hz : p.hops.length ≤ 1048576) : Calls Tryz.prog 141 #[v] w fun e w' => ∃ v fp, e = .returned v ∧ SlO intT 3 w.heap.size w' v (p.hops.map Hop.ia) fp ∧ Below w.heap.size w w' := by
 have X0 := Below.refl w.heap.size w; refine enter Tryz.func141 rfl Tryz.ntmps141 rfl ?_; refine w_h ?_; refine t_boxr ‹_› rfl ?_ rfl rfl; intro p1 w4 x5 hp1; replace h := h.below x5; have X0 := ext_trans X0 x5; have S := Sep.nil w4; have B := Below.refl w4.heap.size w4; have Hb := Nat.le_refl w4.heap.size; refine t_a rfl ?_ rfl; refine t_k ?_; refine t_lit (T := intT) (css := []) (l := []) int_flat S bs_int0 rfl rfl rfl rfl (Nat.zero_le _) litR_nil ?_ rfl rfl; intro u5 w6 x7 S; have B := bx Hb B x7; refine t_a rfl ?_ rfl; refine t_e ?_; (iterate 2 refine w_s ?_); refine w_g ?_; refine t_a rfl ?_ rfl; refine t_e ?_; refine w_block ?_; refine w_loop (X := Nat × Value) (fun x wq => (fun k v => k ≤ p.hops.length ∧ Below w4.heap.size w4 wq ∧ Sep w4.heap.size wq [slO intT 3 v ((p.hops.take k).map Hop.ia)]) x.1 x.2) (fun x => (fun k v => [(4, I ((k : Int))), (3, v), (1, p1), (2, .slice none 0 0)]) x.1 x.2) (fun x => (fun k v => p.hops.length - k) x.1 x.2) (0, u5) ?_ ⟨rfl, rfl, rfl, rfl, trivial⟩ ?_
 ·exact ⟨by omega, B, S⟩
 ·rintro ⟨k, v⟩ w8 hI; (try dsimp only at hI ⊢); obtain ⟨hk, B, S⟩ := hI
  have hml : ((p.hops.take k).map Hop.ia).length = k := by rw [List.length_map, List.length_take]; omega
  (iterate 2 refine w_s ?_); refine w_g ?_; refine t_m rfl ?_ rfl; refine t_fld ln_seg_2 ‹_› fb_seg_2 rfl ?_ rfl; intro p7 hp7; refine t_lds ‹_› ab_s_hop B rfl ?_ rfl; intro v8 hv8; refine t_len e_hop ‹_› rfl rfl ?_ rfl; refine t_lss rfl rfl ?_ rfl; refine t_e ?_; refine w_if rfl ?_ ?_
  ·intro hlt; refine w_k ?_; refine x_s ?_; refine w_s ?_; refine w_block ?_; refine w_g ?_; refine t_m rfl ?_ rfl; refine t_fld ln_seg_2 ‹_› fb_seg_2 rfl ?_ rfl; intro p14 hp14; refine t_lds ‹_› ab_s_hop B rfl ?_ rfl; intro v15 hv15; refine t_m rfl ?_ rfl; obtain ⟨e17, he17⟩ : ∃ e, (p.hops)[k]? = some e := getx (by omega); refine t_idx e_hop (k := k) ‹_› he17 B rfl rfl (by first | rfl | omega) ?_ rfl; intro p17 hp17; refine t_fld ln_hop_0 ‹_› fb_hop_0 rfl ?_ rfl; intro p18 hp18; refine t_ldi ‹_› ab_int B rfl ?_ rfl; refine t_lit (T := intT) (l := [e17.ia]) (css := ([e17.ia]).map fun a => [I a]) int_flat S (fun w => bs_int1 _ w) rfl rfl rfl rfl (by simp [maxLen]) (litR_int _) ?_ rfl rfl; intro u20 w9 x10 S; have B := bx Hb B x10; have hR := S.sl; have S := S.f1; refine t_cat int_flat e_int S hR rfl rfl rfl (by first | omega | (simp [-List.length_flatMap]; omega)) (by (simp [maxLen, -List.length_flatMap]; try omega)) ?_ rfl; intro v21 w11 x12 S; have B := B.trans x12; clear hR; have S := S.f1.tail; refine t_a rfl ?_ rfl; refine t_d ?_; refine x_b ?_; refine x_s ?_; refine w_g ?_; refine t_m rfl ?_ rfl; refine t_add rfl rfl (by omega) ?_ rfl; refine t_a rfl ?_ rfl; refine t_d ?_
   refine x_r (X := Nat × Value) (k + 1, v21) ?_ (by exact ⟨rfl, rfl, rfl, rfl, trivial⟩) (by (try dsimp only); omega); (try dsimp only); refine ⟨by omega, B, ?_⟩; rw [take_succ he17, List.map_append]; exact S
  ·intro hge; refine w_exit ?_; (iterate 2 refine x_then_exit ?_); refine x_block_exit ?_; refine x_s ?_; refine w_h ?_; refine t_m rfl ?_ rfl; refine t_a rfl ?_ rfl; refine t_e ?_; refine w_r ?_; refine x_ret1 rfl rfl ?_
   have : k = p.hops.length := by omega
   subst this; rw [List.take_length] at S; obtain ⟨fp, hO⟩ := (S.mono X0.size).head; exact ⟨_, fp, rfl, hO, ext_trans X0 B⟩
def meet (up down : Seg) : Nat → Path
  | 0 => []
  | n + 1 => match up.hops[n]? with
    | none => []
    | some x => if 0 ≤ lastI down.hops x.ia down.hops.length then [makePart up 1 n, makePart down 4 (lastI down.hops x.ia down.hops.length)] else meet up down n
def joinUD (up down : Seg) : Path := meet up down up.hops.length
theorem meet_yes {up down : Seg} {i : Int} {x : Hop} (h0 : 0 ≤ i) (h : up.hops[i.toNat]? = some x) (e : 0 ≤ lastI down.hops x.ia down.hops.length) : meet up down (i + 1).toNat = [makePart up 1 i, makePart down 4 (lastI down.hops x.ia down.hops.length)] := by
  rw [show (i + 1).toNat = i.toNat + 1 by omega, meet, h]
  simp only [e, if_true]
  rw [show (i.toNat : Int) = i by omega]
theorem meet_no {up down : Seg} {i : Int} {x : Hop} (h0 : 0 ≤ i) (h : up.hops[i.toNat]? = some x) (e : ¬ 0 ≤ lastI down.hops x.ia down.hops.length) : meet up down (i + 1).toNat = meet up down (i - 1 + 1).toNat := by
  rw [show (i + 1).toNat = i.toNat + 1 by omega, show (i - 1 + 1).toNat = i.toNat by omega, meet, h]
  simp only [e, if_false]
theorem impl_JoinUpDown (s t : Seg) (v u : Value) (w : World) (h : VA segT w v s) (h' : VA segT w u t) (hz : s.hops.length ≤ 1048576) (hz' : t.hops.length ≤ 1048576) : Calls Tryz.prog 49 #[v, u] w fun e w' => ∃ cs fp, e = .returned (.agg cs.toArray) ∧ pathT.O w.heap.size w' cs (joinUD s t) fp ∧ Below w.heap.size w w' := by
 have X0 := Below.refl w.heap.size w; refine enter Tryz.func49 rfl Tryz.ntmps49 rfl ?_; refine w_h ?_; refine t_boxr ‹_› rfl ?_ rfl rfl; intro p2 w13 x14 hp2; replace h := h.below x14; replace h' := h'.below x14; have X0 := ext_trans X0 x14; refine t_boxr ‹_› rfl ?_ rfl rfl; intro p3 w15 x16 hp3; replace h := h.below x16; replace h' := h'.below x16; replace hp2 := hp2.below x16; have X0 := ext_trans X0 x16; have S := Sep.nil w15; have B := Below.refl w15.heap.size w15; have Hb := Nat.le_refl w15.heap.size; refine t_w S z_path rfl ?_ rfl rfl; intro g4 w17 x18 S; have B := bx Hb B x18; refine t_e ?_; (iterate 2 refine w_s ?_); refine w_g ?_; refine t_fld ln_seg_2 ‹_› fb_seg_2 rfl ?_ rfl; intro p7 hp7; refine t_lds ‹_› ab_s_hop B rfl ?_ rfl; intro v8 hv8; refine t_len e_hop ‹_› rfl rfl ?_ rfl; refine t_sub rfl rfl (by omega) ?_ rfl; refine t_a rfl ?_ rfl; refine t_e ?_; refine w_block ?_
 refine w_loop (X := Int) (fun i wq => -1 ≤ i ∧ i ≤ (s.hops.length : Int) - 1 ∧ meet s t (i + 1).toNat = joinUD s t ∧ Below w15.heap.size w15 wq ∧ Sep w15.heap.size wq [bxO g4 38 #[.slice none 0 0]]) (fun i => [(5, I i), (2, p2), (3, p3), (4, .pointer (some ⟨g4, 0, none⟩))]) (fun i => (i + 1).toNat) ((s.hops.length : Int) - 1) ?_ ⟨rfl, rfl, rfl, rfl, trivial⟩ ?_
 ·exact ⟨by omega, by omega, by rw [show ((s.hops.length : Int) - 1 + 1).toNat = s.hops.length by omega]; rfl, B, S⟩
 ·rintro i w19 hI; (try dsimp only at hI ⊢); obtain ⟨hk, hk2, hl, B, S⟩ := hI; (iterate 2 refine w_s ?_); refine w_g ?_; refine t_m rfl ?_ rfl; refine t_geq rfl rfl ?_ rfl; refine t_e ?_; refine w_if rfl ?_ ?_
  ·intro hlt; refine w_k ?_; refine x_s ?_; refine w_s ?_; refine w_block ?_; refine w_s ?_; refine w_draw (.st .take 0 (.st .take 1 (.st .take 2 (.st .take 3 (.st .take 4 (.st .take 5 (.st .take 6 (.st .run 7 (.st .take 8 .done))))))))) mixed (by kernel_rfl) ?_; intro w20 x21; have B := bx Hb B x21; have S := S.below x21; refine t_lda ‹_› ab_seg sb_seg B rfl ?_ rfl; intro v15 hv15; obtain ⟨v15_2, rfl, hv15_2⟩ := seg_va hv15; refine t_fld ln_seg_2 ‹_› fb_seg_2 rfl ?_ rfl; intro p16 hp16; refine t_lds ‹_› ab_s_hop B rfl ?_ rfl; intro v17 hv17; refine t_m rfl ?_ rfl; obtain ⟨e19, he19⟩ : ∃ e, (s.hops)[(i.toNat)]? = some e := getx (by omega); refine t_idx e_hop (k := (i.toNat)) ‹_› he19 B rfl rfl (by first | rfl | omega) ?_ rfl; intro p19 hp19; refine t_fld ln_hop_0 ‹_› fb_hop_0 rfl ?_ rfl; intro p20 hp20; refine t_ldi ‹_› ab_int B rfl ?_ rfl; refine t_x Tryz.call104 rfl (impl_lastHopOf _ _ _ _ (by first | assumption | exact VA.below ‹_› B | exact seg_mkv (by first | assumption | exact SlR.below ‹_› B)) (by omega)) ?_ rfl rfl; intro w22 x23; have B := bx Hb B x23; have S := S.below x23; refine t_a rfl ?_ rfl; refine t_k' ?_; refine t_m rfl ?_ rfl; refine t_geq rfl rfl ?_ rfl
   refine t_e ?_; refine w_if rfl ?_ ?_
   ·intro he; refine w_s ?_; refine w_draw (.st .take 0 (.st .take 1 (.st .take 3 (.st .take 4 (.st .run 2 (.st .run 5 (.st .run 6 (.st .take 7 (.st .fin 8 .done))))))))) mixed (by kernel_rfl) ?_; intro w24 x25; have B := bx Hb B x25; have S := S.below x25; refine t_lda ‹_› ab_seg sb_seg B rfl ?_ rfl; intro v25 hv25; obtain ⟨v25_2, rfl, hv25_2⟩ := seg_va hv25; refine t_m rfl ?_ rfl; refine t_lda ‹_› ab_seg sb_seg B rfl ?_ rfl; intro v28 hv28; obtain ⟨v28_2, rfl, hv28_2⟩ := seg_va hv28; refine t_m rfl ?_ rfl; refine t_c Tryz.call93 rfl (impl_MakePart _ _ _ _ _ (by first | assumption | exact VA.below ‹_› B | exact seg_mkv (by first | assumption | exact SlR.below ‹_› B)) (by omega)) ?_ rfl rfl; rintro e w26 ⟨cs27, fp27, rfl, hO27, x27⟩; refine ⟨_, rfl, x27, ?_⟩; have S := S.add (o := tyO partT _ _) x27 hO27; have B := bx Hb B x27; obtain ⟨u27_3, rfl, S2⟩ := S.partOpen; have S := S2; refine t_c Tryz.call93 rfl (impl_MakePart _ _ _ _ _ (by first | assumption | exact VA.below ‹_› B | exact seg_mkv (by first | assumption | exact SlR.below ‹_› B)) (by omega)) ?_ rfl rfl; rintro e w28 ⟨cs30, fp30, rfl, hO30, x29⟩; refine ⟨_, rfl, x29, ?_⟩; have S := S.add (o := tyO partT _ _) x29 hO30
    have B := bx Hb B x29; obtain ⟨u30_3, rfl, S2⟩ := S.partOpen; have S := S2; have S := S.partShut (x := makePart t 4 (lastI t.hops e19.ia t.hops.length)); have S := S.f1; have S := S.partShut (x := makePart s 1 i); refine t_lit2 S (fun w => bs_part2 _ _ _ _ _ _ _ _ w) rfl rfl ?_ rfl rfl; intro u31 w30 x31 S; have B := bx Hb B x31; obtain ⟨Au31, cu31, rfl, _⟩ := S.sl.form; refine t_g (fun w => b_path _ _ _ w) rfl ?_ rfl; have S := S.f1; refine t_stn S sb_path rfl rfl rfl rfl (by repeat first | exact oc0 | refine oc rfl ?_ | refine oc (SlR.cells (S.tail.sl)).2 ?_) ?_; intro w32 b33 S; have B := B.trans b33; refine t_e' ?_; refine w_r ?_; refine x_block_ret ?_; (iterate 2 refine x_t ?_); refine x_block_ret ?_; refine x_t ?_; refine x_retc rfl rfl S.box ab_path sb_path rfl ?_; rw [← hl, meet_yes (by omega) he19 he]; have S := S.f1; have S := S.pathShut (x := [makePart s 1 i, makePart t 4 (lastI t.hops e19.ia t.hops.length)]); obtain ⟨fp, hO⟩ := (S.mono X0.size).head; exact ⟨_, fp, rfl, hO, ext_trans X0 B⟩
   ·intro he; refine w_k ?_; refine x_b ?_; refine x_s ?_; refine w_g ?_; refine t_m rfl ?_ rfl; refine t_sub rfl rfl (by omega) ?_ rfl; refine t_a rfl ?_ rfl; refine t_d ?_; refine x_r (X := Int) (i - 1) ?_ (by exact ⟨rfl, rfl, rfl, rfl, trivial⟩) (by (try dsimp only); omega); (try dsimp only); exact ⟨by omega, by omega, by rw [← meet_no (by omega) he19 he]; exact hl, B, S⟩
  ·intro hge; refine w_exit ?_; (iterate 2 refine x_then_exit ?_); refine x_block_exit ?_; refine x_s ?_; refine w_h ?_; refine t_g (fun w => b_path0 w) rfl ?_ rfl; refine t_stn S sb_path rfl rfl rfl rfl (by simp [Value.oneCell']) ?_; intro w34 b35 S; have B := B.trans b35; refine t_e ?_; refine w_r ?_; refine x_retc rfl rfl S.box ab_path sb_path rfl ?_
   have : i = -1 := by omega
   subst this; have S := Sep.addNil (T := partT) (e := 85) S; have S := S.pathShut (x := []); obtain ⟨fp, hO⟩ := (S.mono X0.size).head; exact ⟨_, fp, rfl, by rw [← hl]; exact hO, ext_trans X0 B⟩
theorem spec_l22Meet (s t : Seg) (v u : Value) (w : World) (h : VA segT w v s) (h' : VA segT w u t) (hz : s.hops.length ≤ 1048576) (hz' : t.hops.length ≤ 1048576) : Calls Tryz.prog 105 #[v, u] w fun e w' => ∃ cs fp, e = .returned (.agg cs.toArray) ∧ pathT.O w.heap.size w' cs (joinUD s t) fp ∧ Below w.heap.size w w' := by
 have hml : (s.hops.map Hop.ia).length = s.hops.length := List.length_map ..; have hml2 : (t.hops.map Hop.ia).length = t.hops.length := List.length_map ..; have X0 := Below.refl w.heap.size w; refine enter Tryz.func105 rfl Tryz.ntmps105 rfl ?_; refine w_h ?_; refine t_boxr ‹_› rfl ?_ rfl rfl; intro p2 w36 x37 hp2; replace h := h.below x37; replace h' := h'.below x37; have X0 := ext_trans X0 x37; refine t_boxr ‹_› rfl ?_ rfl rfl; intro p3 w38 x39 hp3; replace h := h.below x39; replace h' := h'.below x39; replace hp2 := hp2.below x39; have X0 := ext_trans X0 x39; have S := Sep.nil w38; have B := Below.refl w38.heap.size w38; have Hb := Nat.le_refl w38.heap.size; refine t_w S z_path rfl ?_ rfl rfl; intro g4 w40 x41 S; have B := bx Hb B x41; refine t_k ?_; refine t_lda ‹_› ab_seg sb_seg B rfl ?_ rfl; intro v9 hv9; obtain ⟨v9_2, rfl, hv9_2⟩ := seg_va hv9; refine t_c Tryz.call141 rfl (spec_SegmentASes _ _ _ (by first | assumption | exact VA.below ‹_› B | exact seg_mkv (by first | assumption | exact SlR.below ‹_› B)) (by omega)) ?_ rfl rfl; rintro e w42 ⟨v10, fpv10, rfl, hOv10, x43⟩; refine ⟨_, rfl, x43, ?_⟩; have S := S.add (o := slO _ _ _ _) x43 hOv10; have B := bx Hb B x43
 refine t_a rfl ?_ rfl; refine t_k ?_; refine t_lda ‹_› ab_seg sb_seg B rfl ?_ rfl; intro v11 hv11; obtain ⟨v11_2, rfl, hv11_2⟩ := seg_va hv11; refine t_c Tryz.call141 rfl (spec_SegmentASes _ _ _ (by first | assumption | exact VA.below ‹_› B | exact seg_mkv (by first | assumption | exact SlR.below ‹_› B)) (by omega)) ?_ rfl rfl; rintro e w44 ⟨v12, fpv12, rfl, hOv12, x45⟩; refine ⟨_, rfl, x45, ?_⟩; have S := S.add (o := slO _ _ _ _) x45 hOv12; have B := bx Hb B x45; refine t_a rfl ?_ rfl; refine t_e ?_; (iterate 2 refine w_s ?_); refine w_g ?_; refine t_m rfl ?_ rfl; refine t_len e_int (S.tail.sl) rfl rfl ?_ rfl; refine t_sub rfl rfl (by omega) ?_ rfl; refine t_a rfl ?_ rfl; refine t_e ?_; refine w_block ?_; refine w_loop (X := Int) (fun i wq => -1 ≤ i ∧ i ≤ (s.hops.length : Int) - 1 ∧ meet s t (i + 1).toNat = joinUD s t ∧ Below w38.heap.size w38 wq ∧ Sep w38.heap.size wq [bxO g4 38 #[.slice none 0 0], slO intT 3 v10 (s.hops.map Hop.ia), slO intT 3 v12 (t.hops.map Hop.ia)]) (fun i => [(7, I i), (2, p2), (3, p3), (4, .pointer (some ⟨g4, 0, none⟩)), (5, v10), (6, v12)]) (fun i => (i + 1).toNat) (((s.hops.map Hop.ia).length : Int) - 1) ?_ ⟨rfl, rfl, rfl, rfl, rfl, rfl, trivial⟩ ?_
 ·exact ⟨by omega, by omega, by rw [show (((s.hops.map Hop.ia).length : Int) - 1 + 1).toNat = s.hops.length by omega]; rfl, B, S.f1.f2⟩
 ·rintro i w46 hI; (try dsimp only at hI ⊢); obtain ⟨hk, hk2, hl, B, S⟩ := hI; (iterate 2 refine w_s ?_); refine w_g ?_; refine t_m rfl ?_ rfl; refine t_geq rfl rfl ?_ rfl; refine t_e ?_; refine w_if rfl ?_ ?_
  ·intro hlt; obtain ⟨x, hx⟩ : ∃ e, s.hops[i.toNat]? = some e := getx (by omega)
   have hxm : (s.hops.map Hop.ia)[i.toNat]? = some x.ia := by rw [List.getElem?_map, hx]; rfl
   refine w_k ?_; refine x_s ?_; refine w_s ?_; refine w_block ?_; refine w_h ?_; refine t_m rfl ?_ rfl; refine t_len e_int (S.tail.tail.sl) rfl rfl ?_ rfl; refine t_sub rfl rfl (by omega) ?_ rfl; refine t_a rfl ?_ rfl; refine t_e ?_; refine w_block ?_; refine w_loop (X := Int) (fun k wq => -1 ≤ k ∧ k ≤ (t.hops.length : Int) - 1 ∧ lastI t.hops x.ia (k + 1).toNat = lastI t.hops x.ia t.hops.length ∧ Below w38.heap.size w38 wq ∧ Sep w38.heap.size wq [bxO g4 38 #[.slice none 0 0], slO intT 3 v10 (s.hops.map Hop.ia), slO intT 3 v12 (t.hops.map Hop.ia)]) (fun k => [(8, I k), (7, I i), (2, p2), (3, p3), (4, .pointer (some ⟨g4, 0, none⟩)), (5, v10), (6, v12)]) (fun k => (k + 1).toNat) (((t.hops.map Hop.ia).length : Int) - 1) ?_ ⟨rfl, rfl, rfl, rfl, rfl, rfl, rfl, trivial⟩ ?_
   ·exact ⟨by omega, by omega, by rw [show (((t.hops.map Hop.ia).length : Int) - 1 + 1).toNat = t.hops.length by omega], B, S⟩
   ·rintro k w47 hI; (try dsimp only at hI ⊢); obtain ⟨hj, hj2, hm, B, S⟩ := hI; (iterate 2 refine w_s ?_); refine w_g ?_; refine t_m rfl ?_ rfl; refine t_geq rfl rfl ?_ rfl; refine t_e ?_; refine w_if rfl ?_ ?_
    ·intro hlt2; obtain ⟨y, hy⟩ : ∃ e, t.hops[k.toNat]? = some e := getx (by omega)
     have hym : (t.hops.map Hop.ia)[k.toNat]? = some y.ia := by rw [List.getElem?_map, hy]; rfl
     refine w_k ?_; refine x_s ?_; refine w_s ?_; refine w_block ?_; refine w_s ?_; refine w_draw (.st .take 0 (.st .take 1 (.st .take 2 (.st .take 3 (.st .take 4 (.st .take 5 (.st .take 6 (.st .take 7 (.st .take 8 .done))))))))) mixed (by kernel_rfl) ?_; intro w48 x49; have B := bx Hb B x49; have S := S.below x49; (iterate 2 refine t_m rfl ?_ rfl); refine t_idx e_int (k := (i.toNat)) (S.tail.sl) hxm (Below.refl _ _) rfl rfl (by first | rfl | omega) ?_ rfl; intro p29 hp29; refine t_ldi ‹_› ab_int (Below.refl _ _) rfl ?_ rfl; (iterate 2 refine t_m rfl ?_ rfl); refine t_idx e_int (k := (k.toNat)) (S.tail.tail.sl) hym (Below.refl _ _) rfl rfl (by first | rfl | omega) ?_ rfl; intro p33 hp33; refine t_ldi ‹_› ab_int (Below.refl _ _) rfl ?_ rfl; refine t_eql rfl rfl ?_ rfl; refine t_e' ?_; refine w_if rfl ?_ ?_
     ·intro he
      have hL : lastI t.hops x.ia t.hops.length = k := by rw [← hm, lastI_yes (by omega) hy he.symm]
      have hM := meet_yes (down := t) (by omega) hx (by omega); rw [hL] at hM; rw [← hl, hM]; refine w_s ?_; refine w_draw (.st .take 0 (.st .take 1 (.st .take 3 (.st .take 4 (.st .run 2 (.st .run 5 (.st .run 6 (.st .take 7 (.st .fin 8 .done))))))))) mixed (by kernel_rfl) ?_; intro w50 x51; have B := bx Hb B x51; have S := S.below x51; refine t_lda ‹_› ab_seg sb_seg B rfl ?_ rfl; intro v36 hv36; obtain ⟨v36_2, rfl, hv36_2⟩ := seg_va hv36; refine t_m rfl ?_ rfl; refine t_lda ‹_› ab_seg sb_seg B rfl ?_ rfl; intro v39 hv39; obtain ⟨v39_2, rfl, hv39_2⟩ := seg_va hv39; refine t_m rfl ?_ rfl; refine t_c Tryz.call107 rfl (spec_MakePart _ _ _ _ _ (by first | assumption | exact VA.below ‹_› B | exact seg_mkv (by first | assumption | exact SlR.below ‹_› B)) (by omega)) ?_ rfl rfl; rintro e w52 ⟨cs38, fp38, rfl, hO38, x53⟩; refine ⟨_, rfl, x53, ?_⟩; have S := S.add (o := tyO partT _ _) x53 hO38; have B := bx Hb B x53; obtain ⟨u38_3, rfl, S2⟩ := S.partOpen; have S := S2; refine t_c Tryz.call107 rfl (spec_MakePart _ _ _ _ _ (by first | assumption | exact VA.below ‹_› B | exact seg_mkv (by first | assumption | exact SlR.below ‹_› B)) (by omega)) ?_ rfl rfl
      rintro e w54 ⟨cs41, fp41, rfl, hO41, x55⟩; refine ⟨_, rfl, x55, ?_⟩; have S := S.add (o := tyO partT _ _) x55 hO41; have B := bx Hb B x55; obtain ⟨u41_3, rfl, S2⟩ := S.partOpen; have S := S2; have S := S.partShut (x := makePart t 4 k); have S := S.f1; have S := S.partShut (x := makePart s 1 i); refine t_lit2 S (fun w => bs_part2 _ _ _ _ _ _ _ _ w) rfl rfl ?_ rfl rfl; intro u42 w56 x57 S; have B := bx Hb B x57; obtain ⟨Au42, cu42, rfl, _⟩ := S.sl.form; refine t_g (fun w => b_path _ _ _ w) rfl ?_ rfl; have S := S.f1; refine t_stn S sb_path rfl rfl rfl rfl (by repeat first | exact oc0 | refine oc rfl ?_ | refine oc (SlR.cells (S.tail.sl)).2 ?_) ?_; intro w58 b59 S; have B := B.trans b59; refine t_e' ?_; refine w_r ?_; refine x_block_ret ?_; (iterate 2 refine x_t ?_); (iterate 2 refine x_block_ret ?_); (iterate 2 refine x_t ?_); refine x_block_ret ?_; refine x_t ?_; refine x_retc rfl rfl S.box ab_path sb_path rfl ?_; have S := S.f1; have S := S.pathShut (x := [makePart s 1 i, makePart t 4 k]); obtain ⟨fp, hO⟩ := (S.mono X0.size).head; exact ⟨_, fp, rfl, hO, ext_trans X0 B⟩
     ·intro he; refine w_k ?_; refine x_b ?_; refine x_s ?_; refine w_g ?_; refine t_m rfl ?_ rfl; refine t_sub rfl rfl (by omega) ?_ rfl; refine t_a rfl ?_ rfl; refine t_d ?_; refine x_r (X := Int) (k - 1) ?_ (by exact ⟨rfl, rfl, rfl, rfl, rfl, rfl, rfl, trivial⟩) (by (try dsimp only); omega); (try dsimp only); exact ⟨by omega, by omega, by rw [← lastI_no (by omega) hy (fun e => he e.symm)]; exact hm, B, S⟩
    ·intro hge2; refine w_exit ?_; (iterate 2 refine x_then_exit ?_); refine x_block_exit ?_; refine x_b ?_; refine x_s ?_; refine w_g ?_; refine t_m rfl ?_ rfl; refine t_sub rfl rfl (by omega) ?_ rfl; refine t_a rfl ?_ rfl; refine t_d ?_; refine x_r (X := Int) (i - 1) ?_ (by exact ⟨rfl, rfl, rfl, rfl, rfl, rfl, trivial⟩) (by (try dsimp only); omega); (try dsimp only)
     have : k = -1 := by omega
     subst this
     have hL : lastI t.hops x.ia t.hops.length = -1 := by rw [← hm]; rfl
     exact ⟨by omega, by omega, by rw [← meet_no (by omega) hx (by omega)]; exact hl, B, S⟩
  ·intro hge; refine w_exit ?_; (iterate 2 refine x_then_exit ?_); refine x_block_exit ?_; refine x_s ?_; refine w_h ?_; refine t_g (fun w => b_path0 w) rfl ?_ rfl; refine t_stn S sb_path rfl rfl rfl rfl (by simp [Value.oneCell']) ?_; intro w60 b61 S; have B := B.trans b61; refine t_e ?_; refine w_r ?_; refine x_retc rfl rfl S.box ab_path sb_path rfl ?_
   have : i = -1 := by omega
   subst this; have S := Sep.addNil (T := partT) (e := 85) S; have S := S.pathShut (x := []); obtain ⟨fp, hO⟩ := (S.mono X0.size).head; exact ⟨_, fp, rfl, by rw [← hl]; exact hO, ext_trans X0 B⟩
theorem spec_JoinUpDown (s t : Seg) (v u : Value) (w : World) (h : VA segT w v s) (h' : VA segT w u t) (hz : s.hops.length ≤ 1048576) (hz' : t.hops.length ≤ 1048576) : Calls Tryz.prog 50 #[v, u] w fun e w' => ∃ cs fp, e = .returned (.agg cs.toArray) ∧ pathT.O w.heap.size w' cs (joinUD s t) fp ∧ Below w.heap.size w w' := by
 have X0 := Below.refl w.heap.size w; refine enter Tryz.func50 rfl Tryz.ntmps50 rfl ?_; refine w_h ?_; refine t_boxr ‹_› rfl ?_ rfl rfl; intro p2 w62 x63 hp2; replace h := h.below x63; replace h' := h'.below x63; have X0 := ext_trans X0 x63; refine t_boxr ‹_› rfl ?_ rfl rfl; intro p3 w64 x65 hp3; replace h := h.below x65; replace h' := h'.below x65; replace hp2 := hp2.below x65; have X0 := ext_trans X0 x65; have S := Sep.nil w64; have B := Below.refl w64.heap.size w64; have Hb := Nat.le_refl w64.heap.size; refine t_w S z_path rfl ?_ rfl rfl; intro g4 w66 x67 S; have B := bx Hb B x67; refine t_k ?_; refine t_lda ‹_› ab_seg sb_seg B rfl ?_ rfl; intro v5 hv5; obtain ⟨v5_2, rfl, hv5_2⟩ := seg_va hv5; refine t_lda ‹_› ab_seg sb_seg B rfl ?_ rfl; intro v6 hv6; obtain ⟨v6_2, rfl, hv6_2⟩ := seg_va hv6; refine t_c Tryz.call105 rfl (spec_l22Meet _ _ _ _ _ (by first | assumption | exact VA.below ‹_› B | exact seg_mkv (by first | assumption | exact SlR.below ‹_› B)) (by first | assumption | exact VA.below ‹_› B | exact seg_mkv (by first | assumption | exact SlR.below ‹_› B)) (by omega) (by omega)) ?_ rfl rfl; rintro e w68 ⟨cs7, fp7, rfl, hO7, x69⟩; refine ⟨_, rfl, x69, ?_⟩
 have S := S.add (o := tyO pathT _ _) x69 hO7; have B := bx Hb B x69; obtain ⟨u7_0, rfl, S2⟩ := S.pathOpen; have S := S2; have S := S.f1; refine t_stn S sb_path rfl rfl rfl rfl (by repeat first | exact oc0 | refine oc rfl ?_ | refine oc (SlR.cells (S.tail.sl)).2 ?_) ?_; intro w70 b71 S; have B := B.trans b71; refine t_e ?_; refine w_r ?_; refine x_retc rfl rfl S.box ab_path sb_path rfl ?_; have S := S.f1; have S := S.pathShut (x := (joinUD s t)); obtain ⟨fp, hO⟩ := (S.mono X0.size).head; exact ⟨_, fp, rfl, hO, ext_trans X0 B⟩
theorem make_len (s : Seg) (k i : Int) : (makePart s k i).hops.length ≤ s.hops.length := by
  unfold makePart
  split
  · split
    · show ((s.hops.drop i.toNat).reverse).length ≤ _; rw [List.length_reverse, List.length_drop]; omega
    · show (s.hops.drop i.toNat).length ≤ _; rw [List.length_drop]; omega
  · exact Nat.zero_le _
section
variable {P : Program} {n : Nat} {ops : Array Oper} {Q : Exit → Act → World → Prop} {L : Frm} {w : World} {m : Md} {r : IT} {d : Nat} {ty : TypeId} {pos : String} {af : Array Edge}
theorem x_ret0 {fn : Func} {R : Ending → World → Prop} (hr : fn.results = #[]) (h : R (.returned (.tuple #[])) w) : WX n (bodyPost P fn R) .ret L w := by
  intro a ha; exact bodyPost_ret (by simp [results, hr]) ha.defers h
theorem t_makeFunc {f : FuncId} {x : Operand} {v : Value} (hx : ev L x = some v) (k : WT P n ops Q r ((d, .func (.func f) #[] #[v]) :: L) w) (hn : Nat.blt d n = true) : WT P n ops Q (.st m ⟨some d, .makeFunc (.func f) #[] #[x], ty, pos, af, none⟩ r) L w :=
  t_read (fun e ha _ _ _ w' _ => by simp [execOp, ha.ev hx, Instr.makeFunc]) k hn
theorem exec_callv {a : Act} {f : FuncId} {xs : List Operand} {at_ : Array TypeId} {dst : Option Nat} {gd : Option (Nat × Bool)} {t : Operand} {c : Value} (h : a.eval t = .func (.func f) #[] #[c]) : execOp a.eval ⟨dst, .call ⟨.value t, xs.toArray, at_⟩, ty, pos, af, gd⟩ = callFunc f (xs.map a.eval ++ [c]).toArray := by
  simp [execOp, resolve, Deferred.ofValue, invoke, h]
/-- A call of a closure that writes. -/
theorem t_callv {f : FuncId} {xs : List Operand} {at_ : Array TypeId} {vs : List Value} {R : Ending → World → Prop} {t : Operand} {c : Value} (hcall : ∀ ar wr, (callFunc f ar).run P wr = .ok (.enter f ar) wr) (ht : ev L t = some (.func (.func f) #[] #[c])) (hv : evs L xs = some vs) (hc : Calls P f (vs ++ [c]).toArray w R)
    (k : ∀ e w', R e w' → ∃ v, e = .returned v ∧ WT P n ops Q r ((d, v) :: L) w') (hn : Nat.blt d n = true) : WT P n ops Q (.st .fin ⟨some d, .call ⟨.value t, xs.toArray, at_⟩, ty, pos, af, none⟩ r) L w := by
  intro a ha
  simp only [wpT, Region.wanted, if_true]
  unfold Oper.wp
  rw [exec_callv (ha.ev ht), ha.evs hv, hcall]
  refine hc.mono fun e w' he => ?_
  obtain ⟨v, rfl, hk⟩ := k e w' he; exact hk _ (ha.put hn v)
end
def addP (s : Seg) (k : Int) : Path := if 0 < (s.hops.length : Int) then [makePart s k 0] else []
def joinT (up core : Seg) (rev : Bool) (down : Seg) : Path := addP up 1 ++ addP core (if rev then 3 else 2) ++ addP down 4
theorem impl_JoinThree1 (s : Seg) (v : Value) (kind : Int) (g : Nat) (q : Value) (acc : Path) (b : Nat) (os : List Ow) (w : World) (S : Sep b w (bxO g 38 #[q] :: slO partT 85 q acc :: os)) (h : VA segT w v s) (hz : s.hops.length ≤ 1048576) (ha : List.length acc ≤ 1048576) : Calls Tryz.prog 106 #[v, I kind, .pointer (some ⟨g, 0, none⟩)] w fun e w' => e = .returned (.tuple #[]) ∧ ∃ q', Sep b w' (bxO g 38 #[q'] :: slO partT 85 q' (acc ++ addP s kind) :: os) ∧ Below b w w' := by
 have X0 := Below.refl w.heap.size w; refine enter Tryz.func106 rfl Tryz.ntmps106 rfl ?_; have B := Below.refl b w; have Hb := S.base; refine w_h ?_; refine t_boxr (by first | assumption | exact VA.below ‹_› B) rfl ?_ rfl rfl; intro p3 w1 x2 hp3; have B := bx Hb B x2; have S := S.below x2; refine t_k ?_; refine t_fld ln_seg_2 ‹_› fb_seg_2 rfl ?_ rfl; intro p5 hp5; refine t_lds ‹_› ab_s_hop (Below.refl _ _) rfl ?_ rfl; intro v6 hv6; refine t_len e_hop ‹_› rfl rfl ?_ rfl; refine t_gtr rfl rfl ?_ rfl; refine t_e ?_; refine w_if rfl ?_ ?_
 ·intro h1; refine w_draw (.st .take 0 (.st .take 1 (.st .take 2 (.st .take 3 (.st .run 4 (.st .run 5 (.st .fin 6 (.st .fin 7 (.st .fin 8 .done))))))))) mixed (by kernel_rfl) ?_; intro w3 x4; have B := bx Hb B x4; have S := S.below x4; replace hp3 := hp3.below x4; replace hp5 := hp5.below x4; refine t_y fb_path_0 rfl rfl ?_ rfl; refine t_bx1 S.box ab_s_part rfl rfl ?_ rfl; refine t_lda ‹_› ab_seg sb_seg (Below.refl _ _) rfl ?_ rfl; intro v11 hv11; obtain ⟨v11_2, rfl, hv11_2⟩ := seg_va hv11; refine t_m rfl ?_ rfl; refine t_c Tryz.call93 rfl (impl_MakePart _ _ _ _ _ (by first | assumption | exact VA.below ‹_› B | exact seg_mkv (by first | assumption | exact SlR.below ‹_› B)) (by omega)) ?_ rfl rfl; rintro e w5 ⟨cs13, fp13, rfl, hO13, x6⟩; refine ⟨_, rfl, x6, ?_⟩; have S := S.add (o := tyO partT _ _) x6 hO13; have B := bx Hb B x6; obtain ⟨u13_3, rfl, S2⟩ := S.partOpen; have S := S2; refine t_lit1 (fun w => bs_part1 _ _ _ _ w) rfl ?_ rfl rfl; intro A14 w7 x8 hA14; have B := bx Hb B x8; have S := S.below x8; have S := S.partShut (x := makePart s kind 0); have S := S.f2
  refine t_snoc e_part S hA14 rfl rfl rfl (by first | omega | (simp; done) | (simp; omega)) (by (simp only [maxLen]); first | omega | (simp; done) | (simp; omega)) ?_ rfl; intro v15 w9 x10 S; have B := B.trans x10; refine t_y fb_path_0 rfl rfl ?_ rfl; obtain ⟨Av15, cv15, rfl, _⟩ := S.sl.form; have S := S.f1; refine t_st1 S sb_s_part rfl rfl rfl rfl rfl ?_; intro w11 b12 S; have B := B.trans b12; refine t_d' ?_; refine x_end1 ?_; refine x_ret0 rfl ?_; exact ⟨rfl, _, by rw [addP, if_pos h1]; exact S, B⟩
 ·intro h1; refine w_k ?_; refine x_end1 ?_; refine x_ret0 rfl ?_; exact ⟨rfl, _, by rw [addP, if_neg h1, List.append_nil]; exact S, B⟩
theorem spec_JoinThree_true (up core down : Seg) (v1 v2 v3 : Value) (w : World) (h1 : VA segT w v1 up) (h2 : VA segT w v2 core) (h3 : VA segT w v3 down) (hz1 : up.hops.length ≤ 1048576) (hz2 : core.hops.length ≤ 1048576) (hz3 : down.hops.length ≤ 1048576) : Calls Tryz.prog 52 #[v1, v2, .bool true, v3] w fun e w' => ∃ cs fp, e = .returned (.agg cs.toArray) ∧ pathT.O w.heap.size w' cs (joinT up core true down) fp ∧ Below w.heap.size w w' := by
 have X0 := Below.refl w.heap.size w; refine enter Tryz.func52 rfl Tryz.ntmps52 rfl ?_; refine w_h ?_; refine t_boxr ‹_› rfl ?_ rfl rfl; intro p4 w13 x14 hp4; replace h1 := h1.below x14; replace h2 := h2.below x14; replace h3 := h3.below x14; have X0 := ext_trans X0 x14; refine t_boxr ‹_› rfl ?_ rfl rfl; intro p5 w15 x16 hp5; replace h1 := h1.below x16; replace h2 := h2.below x16; replace h3 := h3.below x16; replace hp4 := hp4.below x16; have X0 := ext_trans X0 x16; refine t_boxr ‹_› rfl ?_ rfl rfl; intro p7 w17 x18 hp7; replace h1 := h1.below x18; replace h2 := h2.below x18; replace h3 := h3.below x18; replace hp4 := hp4.below x18; replace hp5 := hp5.below x18; have X0 := ext_trans X0 x18; have S := Sep.nil w17; have B := Below.refl w17.heap.size w17; have Hb := Nat.le_refl w17.heap.size; refine t_w S z_path rfl ?_ rfl rfl; intro g8 w19 x20 S; have B := bx Hb B x20; refine t_k ?_; refine t_g (fun w => b_path0 w) rfl ?_ rfl; refine t_w S z_path rfl ?_ rfl rfl; intro g9 w21 x22 S; have B := bx Hb B x22; refine t_stn S sb_path rfl rfl rfl rfl (by simp [Value.oneCell']) ?_; intro w23 b24 S; have B := B.trans b24; refine t_e ?_; (iterate 2 refine w_s ?_); refine w_g ?_
 refine t_fld ln_seg_2 ‹_› fb_seg_2 rfl ?_ rfl; intro p12 hp12; refine t_lds ‹_› ab_s_hop B rfl ?_ rfl; intro v13 hv13; refine t_len e_hop ‹_› rfl rfl ?_ rfl; refine t_gtr rfl rfl ?_ rfl; refine t_e ?_; refine w_if rfl ?_ ?_
 ·intro hc1; refine w_draw (.st .take 0 (.st .take 1 (.st .take 2 (.st .run 3 (.st .run 4 (.st .fin 5 (.st .fin 6 (.st .fin 7 .done)))))))) mixed (by kernel_rfl) ?_; intro w25 x26; have B := bx Hb B x26; have S := S.below x26; refine t_y fb_path_0 rfl rfl ?_ rfl; refine t_bx1 S.box ab_s_part rfl rfl ?_ rfl; refine t_lda ‹_› ab_seg sb_seg B rfl ?_ rfl; intro v18 hv18; obtain ⟨v18_2, rfl, hv18_2⟩ := seg_va hv18; refine t_c Tryz.call107 rfl (spec_MakePart _ _ _ _ _ (by first | assumption | exact VA.below ‹_› B | exact seg_mkv (by first | assumption | exact SlR.below ‹_› B)) (by omega)) ?_ rfl rfl; rintro e w27 ⟨cs19, fp19, rfl, hO19, x28⟩; refine ⟨_, rfl, x28, ?_⟩; have S := S.add (o := tyO partT _ _) x28 hO19; have B := bx Hb B x28; obtain ⟨u19_3, rfl, S2⟩ := S.partOpen; have S := S2; refine t_lit1 (fun w => bs_part1 _ _ _ _ w) rfl ?_ rfl rfl; intro A20 w29 x30 hA20; have B := bx Hb B x30; have S := S.below x30; have S := Sep.addNil (T := partT) (e := 85) S; have S := S.f1; have S := S.partShut (x := makePart up 1 0); have S := S.f1
  refine t_snoc e_part S hA20 rfl rfl rfl (by first | omega | (simp; done) | (simp; omega)) (by (simp only [maxLen]); first | omega | (simp; done) | (simp; omega)) ?_ rfl; intro v21 w31 x32 S; have B := B.trans x32; refine t_y fb_path_0 rfl rfl ?_ rfl; obtain ⟨Av21, cv21, rfl, _⟩ := S.sl.form; have S := S.f1; refine t_st1 S sb_s_part rfl rfl rfl rfl rfl ?_; intro w33 b34 S; have B := B.trans b34; refine t_e' ?_; (iterate 2 refine w_s ?_); refine w_g ?_; refine t_fld ln_seg_2 ‹_› fb_seg_2 rfl ?_ rfl; intro p23 hp23; refine t_lds ‹_› ab_s_hop B rfl ?_ rfl; intro v24 hv24; refine t_len e_hop ‹_› rfl rfl ?_ rfl; refine t_gtr rfl rfl ?_ rfl; refine t_e ?_; refine w_if rfl ?_ ?_
  ·intro hc2; refine w_h ?_; refine t_a rfl ?_ rfl; refine t_e ?_; (iterate 2 refine w_s ?_); refine w_g ?_; refine t_m rfl ?_ rfl; refine t_e ?_; refine w_yes rfl ?_; refine w_g ?_; refine t_a rfl ?_ rfl; refine t_e ?_; refine w_draw (.st .take 0 (.st .take 1 (.st .take 2 (.st .take 3 (.st .run 4 (.st .run 5 (.st .fin 6 (.st .fin 7 (.st .fin 8 .done))))))))) mixed (by kernel_rfl) ?_; intro w35 x36; have B := bx Hb B x36; have S := S.below x36; refine t_y fb_path_0 rfl rfl ?_ rfl; refine t_bx1 S.box ab_s_part rfl rfl ?_ rfl; refine t_lda ‹_› ab_seg sb_seg B rfl ?_ rfl; intro v30 hv30; obtain ⟨v30_2, rfl, hv30_2⟩ := seg_va hv30; refine t_m rfl ?_ rfl; refine t_c Tryz.call107 rfl (spec_MakePart _ _ _ _ _ (by first | assumption | exact VA.below ‹_› B | exact seg_mkv (by first | assumption | exact SlR.below ‹_› B)) (by omega)) ?_ rfl rfl; rintro e w37 ⟨cs32, fp32, rfl, hO32, x38⟩; refine ⟨_, rfl, x38, ?_⟩; have S := S.add (o := tyO partT _ _) x38 hO32; have B := bx Hb B x38; obtain ⟨u32_3, rfl, S2⟩ := S.partOpen; have S := S2; refine t_lit1 (fun w => bs_part1 _ _ _ _ w) rfl ?_ rfl rfl; intro A33 w39 x40 hA33; have B := bx Hb B x40; have S := S.below x40
   have S := S.partShut (x := makePart core 3 0); have S := S.f2; refine t_snoc e_part S hA33 rfl rfl rfl (by first | omega | (simp; done) | (simp; omega)) (by (simp only [maxLen]); first | omega | (simp; done) | (simp; omega)) ?_ rfl; intro v34 w41 x42 S; have B := B.trans x42; refine t_y fb_path_0 rfl rfl ?_ rfl; obtain ⟨Av34, cv34, rfl, _⟩ := S.sl.form; have S := S.f1; refine t_st1 S sb_s_part rfl rfl rfl rfl rfl ?_; intro w43 b44 S; have B := B.trans b44; refine t_e' ?_; (iterate 2 refine w_s ?_); refine w_g ?_; refine t_fld ln_seg_2 ‹_› fb_seg_2 rfl ?_ rfl; intro p36 hp36; refine t_lds ‹_› ab_s_hop B rfl ?_ rfl; intro v37 hv37; refine t_len e_hop ‹_› rfl rfl ?_ rfl; refine t_gtr rfl rfl ?_ rfl; refine t_e ?_; refine w_if rfl ?_ ?_
   ·intro hc3; refine w_draw (.st .take 0 (.st .take 1 (.st .take 2 (.st .run 3 (.st .run 4 (.st .fin 5 (.st .fin 6 (.st .fin 7 .done)))))))) mixed (by kernel_rfl) ?_; intro w45 x46; have B := bx Hb B x46; have S := S.below x46; refine t_y fb_path_0 rfl rfl ?_ rfl; refine t_bx1 S.box ab_s_part rfl rfl ?_ rfl; refine t_lda ‹_› ab_seg sb_seg B rfl ?_ rfl; intro v42 hv42; obtain ⟨v42_2, rfl, hv42_2⟩ := seg_va hv42; refine t_c Tryz.call107 rfl (spec_MakePart _ _ _ _ _ (by first | assumption | exact VA.below ‹_› B | exact seg_mkv (by first | assumption | exact SlR.below ‹_› B)) (by omega)) ?_ rfl rfl; rintro e w47 ⟨cs43, fp43, rfl, hO43, x48⟩; refine ⟨_, rfl, x48, ?_⟩; have S := S.add (o := tyO partT _ _) x48 hO43; have B := bx Hb B x48; obtain ⟨u43_3, rfl, S2⟩ := S.partOpen; have S := S2; refine t_lit1 (fun w => bs_part1 _ _ _ _ w) rfl ?_ rfl rfl; intro A44 w49 x50 hA44; have B := bx Hb B x50; have S := S.below x50; have S := S.partShut (x := makePart down 4 0); have S := S.f2; refine t_snoc e_part S hA44 rfl rfl rfl (by first | omega | (simp; done) | (simp; omega)) (by (simp only [maxLen]); first | omega | (simp; done) | (simp; omega)) ?_ rfl; intro v45 w51 x52 S; have B := B.trans x52
    refine t_y fb_path_0 rfl rfl ?_ rfl; obtain ⟨Av45, cv45, rfl, _⟩ := S.sl.form; have S := S.f1; refine t_st1 S sb_s_part rfl rfl rfl rfl rfl ?_; intro w53 b54 S; have B := B.trans b54; refine t_k' ?_; refine t_b S.box ab_path sb_path rfl rfl ?_ rfl; have S := S.f2; refine t_stn S sb_path rfl rfl rfl rfl (by repeat first | exact oc0 | refine oc rfl ?_ | refine oc (SlR.cells (S.tail.tail.sl)).2 ?_) ?_; intro w55 b56 S; have B := B.trans b56; refine t_e ?_; refine w_r ?_; refine x_retc rfl rfl S.box ab_path sb_path rfl ?_; have S := S.f2; have S := S.pathShut (x := (((([]) ++ [makePart up 1 0]) ++ [makePart core 3 0]) ++ [makePart down 4 0])); obtain ⟨fp, hO⟩ := (S.mono X0.size).head; exact ⟨_, fp, rfl, (by rw [show joinT up core true down = ((([]) ++ [makePart up 1 0]) ++ [makePart core 3 0]) ++ [makePart down 4 0] by unfold joinT addP; (first | rw [if_pos hc1] | rw [if_neg hc1]); (first | rw [if_pos hc2] | rw [if_neg hc2]); (first | rw [if_pos hc3] | rw [if_neg hc3]); rfl]; exact hO), ext_trans X0 B⟩
   intro hc3; refine w_k ?_; refine x_s ?_; refine w_h ?_; refine t_b S.box ab_path sb_path rfl rfl ?_ rfl; have S := S.f2; refine t_stn S sb_path rfl rfl rfl rfl (by repeat first | exact oc0 | refine oc rfl ?_ | refine oc (SlR.cells (S.tail.tail.sl)).2 ?_) ?_; intro w57 b58 S; have B := B.trans b58; refine t_e ?_; refine w_r ?_; refine x_retc rfl rfl S.box ab_path sb_path rfl ?_; have S := S.f2; have S := S.pathShut (x := ((([]) ++ [makePart up 1 0]) ++ [makePart core 3 0])); obtain ⟨fp, hO⟩ := (S.mono X0.size).head; exact ⟨_, fp, rfl, (by rw [show joinT up core true down = (([]) ++ [makePart up 1 0]) ++ [makePart core 3 0] by unfold joinT addP; (first | rw [if_pos hc1] | rw [if_neg hc1]); (first | rw [if_pos hc2] | rw [if_neg hc2]); (first | rw [if_pos hc3] | rw [if_neg hc3]); rfl]; exact hO), ext_trans X0 B⟩
  intro hc2; refine w_k ?_; refine x_s ?_; (iterate 2 refine w_s ?_); refine w_g ?_; refine t_fld ln_seg_2 ‹_› fb_seg_2 rfl ?_ rfl; intro p36 hp36; refine t_lds ‹_› ab_s_hop B rfl ?_ rfl; intro v37 hv37; refine t_len e_hop ‹_› rfl rfl ?_ rfl; refine t_gtr rfl rfl ?_ rfl; refine t_e ?_; refine w_if rfl ?_ ?_
  ·intro hc3; refine w_draw (.st .take 0 (.st .take 1 (.st .take 2 (.st .run 3 (.st .run 4 (.st .fin 5 (.st .fin 6 (.st .fin 7 .done)))))))) mixed (by kernel_rfl) ?_; intro w59 x60; have B := bx Hb B x60; have S := S.below x60; refine t_y fb_path_0 rfl rfl ?_ rfl; refine t_bx1 S.box ab_s_part rfl rfl ?_ rfl; refine t_lda ‹_› ab_seg sb_seg B rfl ?_ rfl; intro v42 hv42; obtain ⟨v42_2, rfl, hv42_2⟩ := seg_va hv42; refine t_c Tryz.call107 rfl (spec_MakePart _ _ _ _ _ (by first | assumption | exact VA.below ‹_› B | exact seg_mkv (by first | assumption | exact SlR.below ‹_› B)) (by omega)) ?_ rfl rfl; rintro e w61 ⟨cs43, fp43, rfl, hO43, x62⟩; refine ⟨_, rfl, x62, ?_⟩; have S := S.add (o := tyO partT _ _) x62 hO43; have B := bx Hb B x62; obtain ⟨u43_3, rfl, S2⟩ := S.partOpen; have S := S2; refine t_lit1 (fun w => bs_part1 _ _ _ _ w) rfl ?_ rfl rfl; intro A44 w63 x64 hA44; have B := bx Hb B x64; have S := S.below x64; have S := S.partShut (x := makePart down 4 0); have S := S.f2; refine t_snoc e_part S hA44 rfl rfl rfl (by first | omega | (simp; done) | (simp; omega)) (by (simp only [maxLen]); first | omega | (simp; done) | (simp; omega)) ?_ rfl; intro v45 w65 x66 S; have B := B.trans x66
   refine t_y fb_path_0 rfl rfl ?_ rfl; obtain ⟨Av45, cv45, rfl, _⟩ := S.sl.form; have S := S.f1; refine t_st1 S sb_s_part rfl rfl rfl rfl rfl ?_; intro w67 b68 S; have B := B.trans b68; refine t_k' ?_; refine t_b S.box ab_path sb_path rfl rfl ?_ rfl; have S := S.f2; refine t_stn S sb_path rfl rfl rfl rfl (by repeat first | exact oc0 | refine oc rfl ?_ | refine oc (SlR.cells (S.tail.tail.sl)).2 ?_) ?_; intro w69 b70 S; have B := B.trans b70; refine t_e ?_; refine w_r ?_; refine x_retc rfl rfl S.box ab_path sb_path rfl ?_; have S := S.f2; have S := S.pathShut (x := ((([]) ++ [makePart up 1 0]) ++ [makePart down 4 0])); obtain ⟨fp, hO⟩ := (S.mono X0.size).head; exact ⟨_, fp, rfl, (by rw [show joinT up core true down = (([]) ++ [makePart up 1 0]) ++ [makePart down 4 0] by unfold joinT addP; (first | rw [if_pos hc1] | rw [if_neg hc1]); (first | rw [if_pos hc2] | rw [if_neg hc2]); (first | rw [if_pos hc3] | rw [if_neg hc3]); rfl]; exact hO), ext_trans X0 B⟩
  intro hc3; refine w_k ?_; refine x_s ?_; refine w_h ?_; refine t_b S.box ab_path sb_path rfl rfl ?_ rfl; have S := S.f2; refine t_stn S sb_path rfl rfl rfl rfl (by repeat first | exact oc0 | refine oc rfl ?_ | refine oc (SlR.cells (S.tail.tail.sl)).2 ?_) ?_; intro w71 b72 S; have B := B.trans b72; refine t_e ?_; refine w_r ?_; refine x_retc rfl rfl S.box ab_path sb_path rfl ?_; have S := S.f2; have S := S.pathShut (x := (([]) ++ [makePart up 1 0])); obtain ⟨fp, hO⟩ := (S.mono X0.size).head; exact ⟨_, fp, rfl, (by rw [show joinT up core true down = ([]) ++ [makePart up 1 0] by unfold joinT addP; (first | rw [if_pos hc1] | rw [if_neg hc1]); (first | rw [if_pos hc2] | rw [if_neg hc2]); (first | rw [if_pos hc3] | rw [if_neg hc3]); rfl]; exact hO), ext_trans X0 B⟩
 intro hc1; refine w_k ?_; refine x_s ?_; (iterate 2 refine w_s ?_); refine w_g ?_; refine t_fld ln_seg_2 ‹_› fb_seg_2 rfl ?_ rfl; intro p23 hp23; refine t_lds ‹_› ab_s_hop B rfl ?_ rfl; intro v24 hv24; refine t_len e_hop ‹_› rfl rfl ?_ rfl; refine t_gtr rfl rfl ?_ rfl; refine t_e ?_; refine w_if rfl ?_ ?_
 ·intro hc2; refine w_h ?_; refine t_a rfl ?_ rfl; refine t_e ?_; (iterate 2 refine w_s ?_); refine w_g ?_; refine t_m rfl ?_ rfl; refine t_e ?_; refine w_yes rfl ?_; refine w_g ?_; refine t_a rfl ?_ rfl; refine t_e ?_; refine w_draw (.st .take 0 (.st .take 1 (.st .take 2 (.st .take 3 (.st .run 4 (.st .run 5 (.st .fin 6 (.st .fin 7 (.st .fin 8 .done))))))))) mixed (by kernel_rfl) ?_; intro w73 x74; have B := bx Hb B x74; have S := S.below x74; refine t_y fb_path_0 rfl rfl ?_ rfl; refine t_bx1 S.box ab_s_part rfl rfl ?_ rfl; refine t_lda ‹_› ab_seg sb_seg B rfl ?_ rfl; intro v30 hv30; obtain ⟨v30_2, rfl, hv30_2⟩ := seg_va hv30; refine t_m rfl ?_ rfl; refine t_c Tryz.call107 rfl (spec_MakePart _ _ _ _ _ (by first | assumption | exact VA.below ‹_› B | exact seg_mkv (by first | assumption | exact SlR.below ‹_› B)) (by omega)) ?_ rfl rfl; rintro e w75 ⟨cs32, fp32, rfl, hO32, x76⟩; refine ⟨_, rfl, x76, ?_⟩; have S := S.add (o := tyO partT _ _) x76 hO32; have B := bx Hb B x76; obtain ⟨u32_3, rfl, S2⟩ := S.partOpen; have S := S2; refine t_lit1 (fun w => bs_part1 _ _ _ _ w) rfl ?_ rfl rfl; intro A33 w77 x78 hA33; have B := bx Hb B x78; have S := S.below x78
  have S := Sep.addNil (T := partT) (e := 85) S; have S := S.f1; have S := S.partShut (x := makePart core 3 0); have S := S.f1; refine t_snoc e_part S hA33 rfl rfl rfl (by first | omega | (simp; done) | (simp; omega)) (by (simp only [maxLen]); first | omega | (simp; done) | (simp; omega)) ?_ rfl; intro v34 w79 x80 S; have B := B.trans x80; refine t_y fb_path_0 rfl rfl ?_ rfl; obtain ⟨Av34, cv34, rfl, _⟩ := S.sl.form; have S := S.f1; refine t_st1 S sb_s_part rfl rfl rfl rfl rfl ?_; intro w81 b82 S; have B := B.trans b82; refine t_e' ?_; (iterate 2 refine w_s ?_); refine w_g ?_; refine t_fld ln_seg_2 ‹_› fb_seg_2 rfl ?_ rfl; intro p36 hp36; refine t_lds ‹_› ab_s_hop B rfl ?_ rfl; intro v37 hv37; refine t_len e_hop ‹_› rfl rfl ?_ rfl; refine t_gtr rfl rfl ?_ rfl; refine t_e ?_; refine w_if rfl ?_ ?_
  ·intro hc3; refine w_draw (.st .take 0 (.st .take 1 (.st .take 2 (.st .run 3 (.st .run 4 (.st .fin 5 (.st .fin 6 (.st .fin 7 .done)))))))) mixed (by kernel_rfl) ?_; intro w83 x84; have B := bx Hb B x84; have S := S.below x84; refine t_y fb_path_0 rfl rfl ?_ rfl; refine t_bx1 S.box ab_s_part rfl rfl ?_ rfl; refine t_lda ‹_› ab_seg sb_seg B rfl ?_ rfl; intro v42 hv42; obtain ⟨v42_2, rfl, hv42_2⟩ := seg_va hv42; refine t_c Tryz.call107 rfl (spec_MakePart _ _ _ _ _ (by first | assumption | exact VA.below ‹_› B | exact seg_mkv (by first | assumption | exact SlR.below ‹_› B)) (by omega)) ?_ rfl rfl; rintro e w85 ⟨cs43, fp43, rfl, hO43, x86⟩; refine ⟨_, rfl, x86, ?_⟩; have S := S.add (o := tyO partT _ _) x86 hO43; have B := bx Hb B x86; obtain ⟨u43_3, rfl, S2⟩ := S.partOpen; have S := S2; refine t_lit1 (fun w => bs_part1 _ _ _ _ w) rfl ?_ rfl rfl; intro A44 w87 x88 hA44; have B := bx Hb B x88; have S := S.below x88; have S := S.partShut (x := makePart down 4 0); have S := S.f2; refine t_snoc e_part S hA44 rfl rfl rfl (by first | omega | (simp; done) | (simp; omega)) (by (simp only [maxLen]); first | omega | (simp; done) | (simp; omega)) ?_ rfl; intro v45 w89 x90 S; have B := B.trans x90
   refine t_y fb_path_0 rfl rfl ?_ rfl; obtain ⟨Av45, cv45, rfl, _⟩ := S.sl.form; have S := S.f1; refine t_st1 S sb_s_part rfl rfl rfl rfl rfl ?_; intro w91 b92 S; have B := B.trans b92; refine t_k' ?_; refine t_b S.box ab_path sb_path rfl rfl ?_ rfl; have S := S.f2; refine t_stn S sb_path rfl rfl rfl rfl (by repeat first | exact oc0 | refine oc rfl ?_ | refine oc (SlR.cells (S.tail.tail.sl)).2 ?_) ?_; intro w93 b94 S; have B := B.trans b94; refine t_e ?_; refine w_r ?_; refine x_retc rfl rfl S.box ab_path sb_path rfl ?_; have S := S.f2; have S := S.pathShut (x := ((([]) ++ [makePart core 3 0]) ++ [makePart down 4 0])); obtain ⟨fp, hO⟩ := (S.mono X0.size).head; exact ⟨_, fp, rfl, (by rw [show joinT up core true down = (([]) ++ [makePart core 3 0]) ++ [makePart down 4 0] by unfold joinT addP; (first | rw [if_pos hc1] | rw [if_neg hc1]); (first | rw [if_pos hc2] | rw [if_neg hc2]); (first | rw [if_pos hc3] | rw [if_neg hc3]); rfl]; exact hO), ext_trans X0 B⟩
  intro hc3; refine w_k ?_; refine x_s ?_; refine w_h ?_; refine t_b S.box ab_path sb_path rfl rfl ?_ rfl; have S := S.f2; refine t_stn S sb_path rfl rfl rfl rfl (by repeat first | exact oc0 | refine oc rfl ?_ | refine oc (SlR.cells (S.tail.tail.sl)).2 ?_) ?_; intro w95 b96 S; have B := B.trans b96; refine t_e ?_; refine w_r ?_; refine x_retc rfl rfl S.box ab_path sb_path rfl ?_; have S := S.f2; have S := S.pathShut (x := (([]) ++ [makePart core 3 0])); obtain ⟨fp, hO⟩ := (S.mono X0.size).head; exact ⟨_, fp, rfl, (by rw [show joinT up core true down = ([]) ++ [makePart core 3 0] by unfold joinT addP; (first | rw [if_pos hc1] | rw [if_neg hc1]); (first | rw [if_pos hc2] | rw [if_neg hc2]); (first | rw [if_pos hc3] | rw [if_neg hc3]); rfl]; exact hO), ext_trans X0 B⟩
 intro hc2; refine w_k ?_; refine x_s ?_; (iterate 2 refine w_s ?_); refine w_g ?_; refine t_fld ln_seg_2 ‹_› fb_seg_2 rfl ?_ rfl; intro p36 hp36; refine t_lds ‹_› ab_s_hop B rfl ?_ rfl; intro v37 hv37; refine t_len e_hop ‹_› rfl rfl ?_ rfl; refine t_gtr rfl rfl ?_ rfl; refine t_e ?_; refine w_if rfl ?_ ?_
 ·intro hc3; refine w_draw (.st .take 0 (.st .take 1 (.st .take 2 (.st .run 3 (.st .run 4 (.st .fin 5 (.st .fin 6 (.st .fin 7 .done)))))))) mixed (by kernel_rfl) ?_; intro w97 x98; have B := bx Hb B x98; have S := S.below x98; refine t_y fb_path_0 rfl rfl ?_ rfl; refine t_bx1 S.box ab_s_part rfl rfl ?_ rfl; refine t_lda ‹_› ab_seg sb_seg B rfl ?_ rfl; intro v42 hv42; obtain ⟨v42_2, rfl, hv42_2⟩ := seg_va hv42; refine t_c Tryz.call107 rfl (spec_MakePart _ _ _ _ _ (by first | assumption | exact VA.below ‹_› B | exact seg_mkv (by first | assumption | exact SlR.below ‹_› B)) (by omega)) ?_ rfl rfl; rintro e w99 ⟨cs43, fp43, rfl, hO43, x100⟩; refine ⟨_, rfl, x100, ?_⟩; have S := S.add (o := tyO partT _ _) x100 hO43; have B := bx Hb B x100; obtain ⟨u43_3, rfl, S2⟩ := S.partOpen; have S := S2; refine t_lit1 (fun w => bs_part1 _ _ _ _ w) rfl ?_ rfl rfl; intro A44 w101 x102 hA44; have B := bx Hb B x102; have S := S.below x102; have S := Sep.addNil (T := partT) (e := 85) S; have S := S.f1; have S := S.partShut (x := makePart down 4 0); have S := S.f1
  refine t_snoc e_part S hA44 rfl rfl rfl (by first | omega | (simp; done) | (simp; omega)) (by (simp only [maxLen]); first | omega | (simp; done) | (simp; omega)) ?_ rfl; intro v45 w103 x104 S; have B := B.trans x104; refine t_y fb_path_0 rfl rfl ?_ rfl; obtain ⟨Av45, cv45, rfl, _⟩ := S.sl.form; have S := S.f1; refine t_st1 S sb_s_part rfl rfl rfl rfl rfl ?_; intro w105 b106 S; have B := B.trans b106; refine t_k' ?_; refine t_b S.box ab_path sb_path rfl rfl ?_ rfl; have S := S.f2; refine t_stn S sb_path rfl rfl rfl rfl (by repeat first | exact oc0 | refine oc rfl ?_ | refine oc (SlR.cells (S.tail.tail.sl)).2 ?_) ?_; intro w107 b108 S; have B := B.trans b108; refine t_e ?_; refine w_r ?_; refine x_retc rfl rfl S.box ab_path sb_path rfl ?_; have S := S.f2; have S := S.pathShut (x := (([]) ++ [makePart down 4 0])); obtain ⟨fp, hO⟩ := (S.mono X0.size).head; exact ⟨_, fp, rfl, (by rw [show joinT up core true down = ([]) ++ [makePart down 4 0] by unfold joinT addP; (first | rw [if_pos hc1] | rw [if_neg hc1]); (first | rw [if_pos hc2] | rw [if_neg hc2]); (first | rw [if_pos hc3] | rw [if_neg hc3]); rfl]; exact hO), ext_trans X0 B⟩
 intro hc3; refine w_k ?_; refine x_s ?_; refine w_h ?_; refine t_b S.box ab_path sb_path rfl rfl ?_ rfl; have S := S.f1; refine t_stn S sb_path rfl rfl rfl rfl (by simp [Value.oneCell']) ?_; intro w109 b110 S; have B := B.trans b110; refine t_e ?_; refine w_r ?_; refine x_retc rfl rfl S.box ab_path sb_path rfl ?_; have S := Sep.addNil (T := partT) (e := 85) S; have S := S.pathShut (x := ([])); obtain ⟨fp, hO⟩ := (S.mono X0.size).head; exact ⟨_, fp, rfl, (by rw [show joinT up core true down = [] by unfold joinT addP; (first | rw [if_pos hc1] | rw [if_neg hc1]); (first | rw [if_pos hc2] | rw [if_neg hc2]); (first | rw [if_pos hc3] | rw [if_neg hc3]); rfl]; exact hO), ext_trans X0 B⟩
theorem impl_JoinThree_true (up core down : Seg) (v1 v2 v3 : Value) (w : World) (h1 : VA segT w v1 up) (h2 : VA segT w v2 core) (h3 : VA segT w v3 down) (hz1 : up.hops.length ≤ 1048576) (hz2 : core.hops.length ≤ 1048576) (hz3 : down.hops.length ≤ 1048576) : Calls Tryz.prog 51 #[v1, v2, .bool true, v3] w fun e w' => ∃ cs fp, e = .returned (.agg cs.toArray) ∧ pathT.O w.heap.size w' cs (joinT up core true down) fp ∧ Below w.heap.size w w' := by
 have ha1 : List.length (addP up 1) ≤ 1 := by unfold addP; split <;> simp
 have ha2 : List.length (addP core 3) ≤ 1 := by unfold addP; split <;> simp
 have X0 := Below.refl w.heap.size w; refine enter Tryz.func51 rfl Tryz.ntmps51 rfl ?_; refine w_h ?_; refine t_boxr ‹_› rfl ?_ rfl rfl; intro p4 w111 x112 hp4; replace h1 := h1.below x112; replace h2 := h2.below x112; replace h3 := h3.below x112; have X0 := ext_trans X0 x112; refine t_boxr ‹_› rfl ?_ rfl rfl; intro p5 w113 x114 hp5; replace h1 := h1.below x114; replace h2 := h2.below x114; replace h3 := h3.below x114; replace hp4 := hp4.below x114; have X0 := ext_trans X0 x114; refine t_boxr ‹_› rfl ?_ rfl rfl; intro p7 w115 x116 hp7; replace h1 := h1.below x116; replace h2 := h2.below x116; replace h3 := h3.below x116; replace hp4 := hp4.below x116; replace hp5 := hp5.below x116; have X0 := ext_trans X0 x116; have S := Sep.nil w115; have B := Below.refl w115.heap.size w115; have Hb := Nat.le_refl w115.heap.size; refine t_w S z_path rfl ?_ rfl rfl; intro g8 w117 x118 S; have B := bx Hb B x118; refine t_k ?_; refine t_a rfl ?_ rfl; refine t_e ?_; (iterate 2 refine w_s ?_); refine w_g ?_; refine t_m rfl ?_ rfl; refine t_e ?_; refine w_yes rfl ?_; refine w_g ?_; refine t_a rfl ?_ rfl; refine t_k ?_; refine t_w S z_path rfl ?_ rfl rfl; intro g10 w119 x120 S; have B := bx Hb B x120
 refine t_k ?_; refine t_makeFunc rfl ?_ rfl; refine t_a rfl ?_ rfl; refine t_k ?_; refine t_m rfl ?_ rfl; refine t_lda ‹_› ab_seg sb_seg B rfl ?_ rfl; intro v15 hv15; obtain ⟨v15_2, rfl, hv15_2⟩ := seg_va hv15; have S := (S.addNil (T := partT) (e := 85)).f1; refine t_callv Tryz.call106 rfl rfl (impl_JoinThree1 up _ 1 g10 _ [] _ _ _ S (by first | assumption | exact VA.below ‹_› B) (by omega) (by simp)) ?_ rfl; rintro e wa ⟨rfl, qa, S, xa⟩; refine ⟨_, rfl, ?_⟩; have B := B.trans xa; refine t_k ?_; refine t_m rfl ?_ rfl; refine t_lda ‹_› ab_seg sb_seg B rfl ?_ rfl; intro v18 hv18; obtain ⟨v18_2, rfl, hv18_2⟩ := seg_va hv18; refine t_m rfl ?_ rfl; refine t_callv Tryz.call106 rfl rfl (impl_JoinThree1 core _ 3 g10 _ _ _ _ _ S (by first | assumption | exact VA.below ‹_› B) (by omega) (by rw [List.length_append, List.length_nil]; omega)) ?_ rfl; rintro e wb ⟨rfl, qb, S, xb⟩; refine ⟨_, rfl, ?_⟩; have B := B.trans xb; refine t_k ?_; refine t_m rfl ?_ rfl; refine t_lda ‹_› ab_seg sb_seg B rfl ?_ rfl; intro v22 hv22; obtain ⟨v22_2, rfl, hv22_2⟩ := seg_va hv22
 refine t_callv Tryz.call106 rfl rfl (impl_JoinThree1 down _ 4 g10 _ _ _ _ _ S (by first | assumption | exact VA.below ‹_› B) (by omega) (by rw [List.length_append, List.length_append, List.length_nil]; omega)) ?_ rfl; rintro e wc ⟨rfl, qc, S, xc⟩; refine ⟨_, rfl, ?_⟩; have B := B.trans xc; refine t_k ?_; refine t_b S.box ab_path sb_path rfl rfl ?_ rfl; have S := S.f2; refine t_stn S sb_path rfl rfl rfl rfl (by repeat first | exact oc0 | refine oc rfl ?_ | refine oc (SlR.cells (S.tail.tail.sl)).2 ?_) ?_; intro w121 b122 S; have B := B.trans b122; refine t_e ?_; refine w_r ?_; refine x_retc rfl rfl S.box ab_path sb_path rfl ?_; have S := S.f2; have S := S.pathShut (x := ([] ++ addP up 1 ++ addP core 3 ++ addP down 4)); obtain ⟨fp, hO⟩ := (S.mono X0.size).head; exact ⟨_, fp, rfl, hO, ext_trans X0 B⟩
theorem spec_JoinThree_false (up core down : Seg) (v1 v2 v3 : Value) (w : World) (h1 : VA segT w v1 up) (h2 : VA segT w v2 core) (h3 : VA segT w v3 down) (hz1 : up.hops.length ≤ 1048576) (hz2 : core.hops.length ≤ 1048576) (hz3 : down.hops.length ≤ 1048576) : Calls Tryz.prog 52 #[v1, v2, .bool false, v3] w fun e w' => ∃ cs fp, e = .returned (.agg cs.toArray) ∧ pathT.O w.heap.size w' cs (joinT up core false down) fp ∧ Below w.heap.size w w' := by
 have X0 := Below.refl w.heap.size w; refine enter Tryz.func52 rfl Tryz.ntmps52 rfl ?_; refine w_h ?_; refine t_boxr ‹_› rfl ?_ rfl rfl; intro p4 w123 x124 hp4; replace h1 := h1.below x124; replace h2 := h2.below x124; replace h3 := h3.below x124; have X0 := ext_trans X0 x124; refine t_boxr ‹_› rfl ?_ rfl rfl; intro p5 w125 x126 hp5; replace h1 := h1.below x126; replace h2 := h2.below x126; replace h3 := h3.below x126; replace hp4 := hp4.below x126; have X0 := ext_trans X0 x126; refine t_boxr ‹_› rfl ?_ rfl rfl; intro p7 w127 x128 hp7; replace h1 := h1.below x128; replace h2 := h2.below x128; replace h3 := h3.below x128; replace hp4 := hp4.below x128; replace hp5 := hp5.below x128; have X0 := ext_trans X0 x128; have S := Sep.nil w127; have B := Below.refl w127.heap.size w127; have Hb := Nat.le_refl w127.heap.size; refine t_w S z_path rfl ?_ rfl rfl; intro g8 w129 x130 S; have B := bx Hb B x130; refine t_k ?_; refine t_g (fun w => b_path0 w) rfl ?_ rfl; refine t_w S z_path rfl ?_ rfl rfl; intro g9 w131 x132 S; have B := bx Hb B x132; refine t_stn S sb_path rfl rfl rfl rfl (by simp [Value.oneCell']) ?_; intro w133 b134 S; have B := B.trans b134; refine t_e ?_
 (iterate 2 refine w_s ?_); refine w_g ?_; refine t_fld ln_seg_2 ‹_› fb_seg_2 rfl ?_ rfl; intro p12 hp12; refine t_lds ‹_› ab_s_hop B rfl ?_ rfl; intro v13 hv13; refine t_len e_hop ‹_› rfl rfl ?_ rfl; refine t_gtr rfl rfl ?_ rfl; refine t_e ?_; refine w_if rfl ?_ ?_
 ·intro hc1; refine w_draw (.st .take 0 (.st .take 1 (.st .take 2 (.st .run 3 (.st .run 4 (.st .fin 5 (.st .fin 6 (.st .fin 7 .done)))))))) mixed (by kernel_rfl) ?_; intro w135 x136; have B := bx Hb B x136; have S := S.below x136; refine t_y fb_path_0 rfl rfl ?_ rfl; refine t_bx1 S.box ab_s_part rfl rfl ?_ rfl; refine t_lda ‹_› ab_seg sb_seg B rfl ?_ rfl; intro v18 hv18; obtain ⟨v18_2, rfl, hv18_2⟩ := seg_va hv18; refine t_c Tryz.call107 rfl (spec_MakePart _ _ _ _ _ (by first | assumption | exact VA.below ‹_› B | exact seg_mkv (by first | assumption | exact SlR.below ‹_› B)) (by omega)) ?_ rfl rfl; rintro e w137 ⟨cs19, fp19, rfl, hO19, x138⟩; refine ⟨_, rfl, x138, ?_⟩; have S := S.add (o := tyO partT _ _) x138 hO19; have B := bx Hb B x138; obtain ⟨u19_3, rfl, S2⟩ := S.partOpen; have S := S2; refine t_lit1 (fun w => bs_part1 _ _ _ _ w) rfl ?_ rfl rfl; intro A20 w139 x140 hA20; have B := bx Hb B x140; have S := S.below x140; have S := Sep.addNil (T := partT) (e := 85) S; have S := S.f1; have S := S.partShut (x := makePart up 1 0); have S := S.f1
  refine t_snoc e_part S hA20 rfl rfl rfl (by first | omega | (simp; done) | (simp; omega)) (by (simp only [maxLen]); first | omega | (simp; done) | (simp; omega)) ?_ rfl; intro v21 w141 x142 S; have B := B.trans x142; refine t_y fb_path_0 rfl rfl ?_ rfl; obtain ⟨Av21, cv21, rfl, _⟩ := S.sl.form; have S := S.f1; refine t_st1 S sb_s_part rfl rfl rfl rfl rfl ?_; intro w143 b144 S; have B := B.trans b144; refine t_e' ?_; (iterate 2 refine w_s ?_); refine w_g ?_; refine t_fld ln_seg_2 ‹_› fb_seg_2 rfl ?_ rfl; intro p23 hp23; refine t_lds ‹_› ab_s_hop B rfl ?_ rfl; intro v24 hv24; refine t_len e_hop ‹_› rfl rfl ?_ rfl; refine t_gtr rfl rfl ?_ rfl; refine t_e ?_; refine w_if rfl ?_ ?_
  ·intro hc2; refine w_h ?_; refine t_a rfl ?_ rfl; refine t_e ?_; (iterate 2 refine w_s ?_); refine w_g ?_; refine t_m rfl ?_ rfl; refine t_e ?_; refine w_no rfl ?_; refine w_k ?_; refine x_s ?_; refine w_draw (.st .take 0 (.st .take 1 (.st .take 2 (.st .take 3 (.st .run 4 (.st .run 5 (.st .fin 6 (.st .fin 7 (.st .fin 8 .done))))))))) mixed (by kernel_rfl) ?_; intro w145 x146; have B := bx Hb B x146; have S := S.below x146; refine t_y fb_path_0 rfl rfl ?_ rfl; refine t_bx1 S.box ab_s_part rfl rfl ?_ rfl; refine t_lda ‹_› ab_seg sb_seg B rfl ?_ rfl; intro v30 hv30; obtain ⟨v30_2, rfl, hv30_2⟩ := seg_va hv30; refine t_m rfl ?_ rfl; refine t_c Tryz.call107 rfl (spec_MakePart _ _ _ _ _ (by first | assumption | exact VA.below ‹_› B | exact seg_mkv (by first | assumption | exact SlR.below ‹_› B)) (by omega)) ?_ rfl rfl; rintro e w147 ⟨cs32, fp32, rfl, hO32, x148⟩; refine ⟨_, rfl, x148, ?_⟩; have S := S.add (o := tyO partT _ _) x148 hO32; have B := bx Hb B x148; obtain ⟨u32_3, rfl, S2⟩ := S.partOpen; have S := S2; refine t_lit1 (fun w => bs_part1 _ _ _ _ w) rfl ?_ rfl rfl; intro A33 w149 x150 hA33; have B := bx Hb B x150; have S := S.below x150
   have S := S.partShut (x := makePart core 2 0); have S := S.f2; refine t_snoc e_part S hA33 rfl rfl rfl (by first | omega | (simp; done) | (simp; omega)) (by (simp only [maxLen]); first | omega | (simp; done) | (simp; omega)) ?_ rfl; intro v34 w151 x152 S; have B := B.trans x152; refine t_y fb_path_0 rfl rfl ?_ rfl; obtain ⟨Av34, cv34, rfl, _⟩ := S.sl.form; have S := S.f1; refine t_st1 S sb_s_part rfl rfl rfl rfl rfl ?_; intro w153 b154 S; have B := B.trans b154; refine t_e' ?_; (iterate 2 refine w_s ?_); refine w_g ?_; refine t_fld ln_seg_2 ‹_› fb_seg_2 rfl ?_ rfl; intro p36 hp36; refine t_lds ‹_› ab_s_hop B rfl ?_ rfl; intro v37 hv37; refine t_len e_hop ‹_› rfl rfl ?_ rfl; refine t_gtr rfl rfl ?_ rfl; refine t_e ?_; refine w_if rfl ?_ ?_
   ·intro hc3; refine w_draw (.st .take 0 (.st .take 1 (.st .take 2 (.st .run 3 (.st .run 4 (.st .fin 5 (.st .fin 6 (.st .fin 7 .done)))))))) mixed (by kernel_rfl) ?_; intro w155 x156; have B := bx Hb B x156; have S := S.below x156; refine t_y fb_path_0 rfl rfl ?_ rfl; refine t_bx1 S.box ab_s_part rfl rfl ?_ rfl; refine t_lda ‹_› ab_seg sb_seg B rfl ?_ rfl; intro v42 hv42; obtain ⟨v42_2, rfl, hv42_2⟩ := seg_va hv42; refine t_c Tryz.call107 rfl (spec_MakePart _ _ _ _ _ (by first | assumption | exact VA.below ‹_› B | exact seg_mkv (by first | assumption | exact SlR.below ‹_› B)) (by omega)) ?_ rfl rfl; rintro e w157 ⟨cs43, fp43, rfl, hO43, x158⟩; refine ⟨_, rfl, x158, ?_⟩; have S := S.add (o := tyO partT _ _) x158 hO43; have B := bx Hb B x158; obtain ⟨u43_3, rfl, S2⟩ := S.partOpen; have S := S2; refine t_lit1 (fun w => bs_part1 _ _ _ _ w) rfl ?_ rfl rfl; intro A44 w159 x160 hA44; have B := bx Hb B x160; have S := S.below x160; have S := S.partShut (x := makePart down 4 0); have S := S.f2; refine t_snoc e_part S hA44 rfl rfl rfl (by first | omega | (simp; done) | (simp; omega)) (by (simp only [maxLen]); first | omega | (simp; done) | (simp; omega)) ?_ rfl; intro v45 w161 x162 S
    have B := B.trans x162; refine t_y fb_path_0 rfl rfl ?_ rfl; obtain ⟨Av45, cv45, rfl, _⟩ := S.sl.form; have S := S.f1; refine t_st1 S sb_s_part rfl rfl rfl rfl rfl ?_; intro w163 b164 S; have B := B.trans b164; refine t_k' ?_; refine t_b S.box ab_path sb_path rfl rfl ?_ rfl; have S := S.f2; refine t_stn S sb_path rfl rfl rfl rfl (by repeat first | exact oc0 | refine oc rfl ?_ | refine oc (SlR.cells (S.tail.tail.sl)).2 ?_) ?_; intro w165 b166 S; have B := B.trans b166; refine t_e ?_; refine w_r ?_; refine x_retc rfl rfl S.box ab_path sb_path rfl ?_; have S := S.f2; have S := S.pathShut (x := (((([]) ++ [makePart up 1 0]) ++ [makePart core 2 0]) ++ [makePart down 4 0])); obtain ⟨fp, hO⟩ := (S.mono X0.size).head; exact ⟨_, fp, rfl, (by rw [show joinT up core false down = ((([]) ++ [makePart up 1 0]) ++ [makePart core 2 0]) ++ [makePart down 4 0] by unfold joinT addP; (first | rw [if_pos hc1] | rw [if_neg hc1]); (first | rw [if_pos hc2] | rw [if_neg hc2]); (first | rw [if_pos hc3] | rw [if_neg hc3]); rfl]; exact hO), ext_trans X0 B⟩
   intro hc3; refine w_k ?_; refine x_s ?_; refine w_h ?_; refine t_b S.box ab_path sb_path rfl rfl ?_ rfl; have S := S.f2; refine t_stn S sb_path rfl rfl rfl rfl (by repeat first | exact oc0 | refine oc rfl ?_ | refine oc (SlR.cells (S.tail.tail.sl)).2 ?_) ?_; intro w167 b168 S; have B := B.trans b168; refine t_e ?_; refine w_r ?_; refine x_retc rfl rfl S.box ab_path sb_path rfl ?_; have S := S.f2; have S := S.pathShut (x := ((([]) ++ [makePart up 1 0]) ++ [makePart core 2 0])); obtain ⟨fp, hO⟩ := (S.mono X0.size).head; exact ⟨_, fp, rfl, (by rw [show joinT up core false down = (([]) ++ [makePart up 1 0]) ++ [makePart core 2 0] by unfold joinT addP; (first | rw [if_pos hc1] | rw [if_neg hc1]); (first | rw [if_pos hc2] | rw [if_neg hc2]); (first | rw [if_pos hc3] | rw [if_neg hc3]); rfl]; exact hO), ext_trans X0 B⟩
  intro hc2; refine w_k ?_; refine x_s ?_; (iterate 2 refine w_s ?_); refine w_g ?_; refine t_fld ln_seg_2 ‹_› fb_seg_2 rfl ?_ rfl; intro p36 hp36; refine t_lds ‹_› ab_s_hop B rfl ?_ rfl; intro v37 hv37; refine t_len e_hop ‹_› rfl rfl ?_ rfl; refine t_gtr rfl rfl ?_ rfl; refine t_e ?_; refine w_if rfl ?_ ?_
  ·intro hc3; refine w_draw (.st .take 0 (.st .take 1 (.st .take 2 (.st .run 3 (.st .run 4 (.st .fin 5 (.st .fin 6 (.st .fin 7 .done)))))))) mixed (by kernel_rfl) ?_; intro w169 x170; have B := bx Hb B x170; have S := S.below x170; refine t_y fb_path_0 rfl rfl ?_ rfl; refine t_bx1 S.box ab_s_part rfl rfl ?_ rfl; refine t_lda ‹_› ab_seg sb_seg B rfl ?_ rfl; intro v42 hv42; obtain ⟨v42_2, rfl, hv42_2⟩ := seg_va hv42; refine t_c Tryz.call107 rfl (spec_MakePart _ _ _ _ _ (by first | assumption | exact VA.below ‹_› B | exact seg_mkv (by first | assumption | exact SlR.below ‹_› B)) (by omega)) ?_ rfl rfl; rintro e w171 ⟨cs43, fp43, rfl, hO43, x172⟩; refine ⟨_, rfl, x172, ?_⟩; have S := S.add (o := tyO partT _ _) x172 hO43; have B := bx Hb B x172; obtain ⟨u43_3, rfl, S2⟩ := S.partOpen; have S := S2; refine t_lit1 (fun w => bs_part1 _ _ _ _ w) rfl ?_ rfl rfl; intro A44 w173 x174 hA44; have B := bx Hb B x174; have S := S.below x174; have S := S.partShut (x := makePart down 4 0); have S := S.f2; refine t_snoc e_part S hA44 rfl rfl rfl (by first | omega | (simp; done) | (simp; omega)) (by (simp only [maxLen]); first | omega | (simp; done) | (simp; omega)) ?_ rfl; intro v45 w175 x176 S
   have B := B.trans x176; refine t_y fb_path_0 rfl rfl ?_ rfl; obtain ⟨Av45, cv45, rfl, _⟩ := S.sl.form; have S := S.f1; refine t_st1 S sb_s_part rfl rfl rfl rfl rfl ?_; intro w177 b178 S; have B := B.trans b178; refine t_k' ?_; refine t_b S.box ab_path sb_path rfl rfl ?_ rfl; have S := S.f2; refine t_stn S sb_path rfl rfl rfl rfl (by repeat first | exact oc0 | refine oc rfl ?_ | refine oc (SlR.cells (S.tail.tail.sl)).2 ?_) ?_; intro w179 b180 S; have B := B.trans b180; refine t_e ?_; refine w_r ?_; refine x_retc rfl rfl S.box ab_path sb_path rfl ?_; have S := S.f2; have S := S.pathShut (x := ((([]) ++ [makePart up 1 0]) ++ [makePart down 4 0])); obtain ⟨fp, hO⟩ := (S.mono X0.size).head; exact ⟨_, fp, rfl, (by rw [show joinT up core false down = (([]) ++ [makePart up 1 0]) ++ [makePart down 4 0] by unfold joinT addP; (first | rw [if_pos hc1] | rw [if_neg hc1]); (first | rw [if_pos hc2] | rw [if_neg hc2]); (first | rw [if_pos hc3] | rw [if_neg hc3]); rfl]; exact hO), ext_trans X0 B⟩
  intro hc3; refine w_k ?_; refine x_s ?_; refine w_h ?_; refine t_b S.box ab_path sb_path rfl rfl ?_ rfl; have S := S.f2; refine t_stn S sb_path rfl rfl rfl rfl (by repeat first | exact oc0 | refine oc rfl ?_ | refine oc (SlR.cells (S.tail.tail.sl)).2 ?_) ?_; intro w181 b182 S; have B := B.trans b182; refine t_e ?_; refine w_r ?_; refine x_retc rfl rfl S.box ab_path sb_path rfl ?_; have S := S.f2; have S := S.pathShut (x := (([]) ++ [makePart up 1 0])); obtain ⟨fp, hO⟩ := (S.mono X0.size).head; exact ⟨_, fp, rfl, (by rw [show joinT up core false down = ([]) ++ [makePart up 1 0] by unfold joinT addP; (first | rw [if_pos hc1] | rw [if_neg hc1]); (first | rw [if_pos hc2] | rw [if_neg hc2]); (first | rw [if_pos hc3] | rw [if_neg hc3]); rfl]; exact hO), ext_trans X0 B⟩
 intro hc1; refine w_k ?_; refine x_s ?_; (iterate 2 refine w_s ?_); refine w_g ?_; refine t_fld ln_seg_2 ‹_› fb_seg_2 rfl ?_ rfl; intro p23 hp23; refine t_lds ‹_› ab_s_hop B rfl ?_ rfl; intro v24 hv24; refine t_len e_hop ‹_› rfl rfl ?_ rfl; refine t_gtr rfl rfl ?_ rfl; refine t_e ?_; refine w_if rfl ?_ ?_
 ·intro hc2; refine w_h ?_; refine t_a rfl ?_ rfl; refine t_e ?_; (iterate 2 refine w_s ?_); refine w_g ?_; refine t_m rfl ?_ rfl; refine t_e ?_; refine w_no rfl ?_; refine w_k ?_; refine x_s ?_; refine w_draw (.st .take 0 (.st .take 1 (.st .take 2 (.st .take 3 (.st .run 4 (.st .run 5 (.st .fin 6 (.st .fin 7 (.st .fin 8 .done))))))))) mixed (by kernel_rfl) ?_; intro w183 x184; have B := bx Hb B x184; have S := S.below x184; refine t_y fb_path_0 rfl rfl ?_ rfl; refine t_bx1 S.box ab_s_part rfl rfl ?_ rfl; refine t_lda ‹_› ab_seg sb_seg B rfl ?_ rfl; intro v30 hv30; obtain ⟨v30_2, rfl, hv30_2⟩ := seg_va hv30; refine t_m rfl ?_ rfl; refine t_c Tryz.call107 rfl (spec_MakePart _ _ _ _ _ (by first | assumption | exact VA.below ‹_› B | exact seg_mkv (by first | assumption | exact SlR.below ‹_› B)) (by omega)) ?_ rfl rfl; rintro e w185 ⟨cs32, fp32, rfl, hO32, x186⟩; refine ⟨_, rfl, x186, ?_⟩; have S := S.add (o := tyO partT _ _) x186 hO32; have B := bx Hb B x186; obtain ⟨u32_3, rfl, S2⟩ := S.partOpen; have S := S2; refine t_lit1 (fun w => bs_part1 _ _ _ _ w) rfl ?_ rfl rfl; intro A33 w187 x188 hA33; have B := bx Hb B x188; have S := S.below x188
  have S := Sep.addNil (T := partT) (e := 85) S; have S := S.f1; have S := S.partShut (x := makePart core 2 0); have S := S.f1; refine t_snoc e_part S hA33 rfl rfl rfl (by first | omega | (simp; done) | (simp; omega)) (by (simp only [maxLen]); first | omega | (simp; done) | (simp; omega)) ?_ rfl; intro v34 w189 x190 S; have B := B.trans x190; refine t_y fb_path_0 rfl rfl ?_ rfl; obtain ⟨Av34, cv34, rfl, _⟩ := S.sl.form; have S := S.f1; refine t_st1 S sb_s_part rfl rfl rfl rfl rfl ?_; intro w191 b192 S; have B := B.trans b192; refine t_e' ?_; (iterate 2 refine w_s ?_); refine w_g ?_; refine t_fld ln_seg_2 ‹_› fb_seg_2 rfl ?_ rfl; intro p36 hp36; refine t_lds ‹_› ab_s_hop B rfl ?_ rfl; intro v37 hv37; refine t_len e_hop ‹_› rfl rfl ?_ rfl; refine t_gtr rfl rfl ?_ rfl; refine t_e ?_; refine w_if rfl ?_ ?_
  ·intro hc3; refine w_draw (.st .take 0 (.st .take 1 (.st .take 2 (.st .run 3 (.st .run 4 (.st .fin 5 (.st .fin 6 (.st .fin 7 .done)))))))) mixed (by kernel_rfl) ?_; intro w193 x194; have B := bx Hb B x194; have S := S.below x194; refine t_y fb_path_0 rfl rfl ?_ rfl; refine t_bx1 S.box ab_s_part rfl rfl ?_ rfl; refine t_lda ‹_› ab_seg sb_seg B rfl ?_ rfl; intro v42 hv42; obtain ⟨v42_2, rfl, hv42_2⟩ := seg_va hv42; refine t_c Tryz.call107 rfl (spec_MakePart _ _ _ _ _ (by first | assumption | exact VA.below ‹_› B | exact seg_mkv (by first | assumption | exact SlR.below ‹_› B)) (by omega)) ?_ rfl rfl; rintro e w195 ⟨cs43, fp43, rfl, hO43, x196⟩; refine ⟨_, rfl, x196, ?_⟩; have S := S.add (o := tyO partT _ _) x196 hO43; have B := bx Hb B x196; obtain ⟨u43_3, rfl, S2⟩ := S.partOpen; have S := S2; refine t_lit1 (fun w => bs_part1 _ _ _ _ w) rfl ?_ rfl rfl; intro A44 w197 x198 hA44; have B := bx Hb B x198; have S := S.below x198; have S := S.partShut (x := makePart down 4 0); have S := S.f2; refine t_snoc e_part S hA44 rfl rfl rfl (by first | omega | (simp; done) | (simp; omega)) (by (simp only [maxLen]); first | omega | (simp; done) | (simp; omega)) ?_ rfl; intro v45 w199 x200 S
   have B := B.trans x200; refine t_y fb_path_0 rfl rfl ?_ rfl; obtain ⟨Av45, cv45, rfl, _⟩ := S.sl.form; have S := S.f1; refine t_st1 S sb_s_part rfl rfl rfl rfl rfl ?_; intro w201 b202 S; have B := B.trans b202; refine t_k' ?_; refine t_b S.box ab_path sb_path rfl rfl ?_ rfl; have S := S.f2; refine t_stn S sb_path rfl rfl rfl rfl (by repeat first | exact oc0 | refine oc rfl ?_ | refine oc (SlR.cells (S.tail.tail.sl)).2 ?_) ?_; intro w203 b204 S; have B := B.trans b204; refine t_e ?_; refine w_r ?_; refine x_retc rfl rfl S.box ab_path sb_path rfl ?_; have S := S.f2; have S := S.pathShut (x := ((([]) ++ [makePart core 2 0]) ++ [makePart down 4 0])); obtain ⟨fp, hO⟩ := (S.mono X0.size).head; exact ⟨_, fp, rfl, (by rw [show joinT up core false down = (([]) ++ [makePart core 2 0]) ++ [makePart down 4 0] by unfold joinT addP; (first | rw [if_pos hc1] | rw [if_neg hc1]); (first | rw [if_pos hc2] | rw [if_neg hc2]); (first | rw [if_pos hc3] | rw [if_neg hc3]); rfl]; exact hO), ext_trans X0 B⟩
  intro hc3; refine w_k ?_; refine x_s ?_; refine w_h ?_; refine t_b S.box ab_path sb_path rfl rfl ?_ rfl; have S := S.f2; refine t_stn S sb_path rfl rfl rfl rfl (by repeat first | exact oc0 | refine oc rfl ?_ | refine oc (SlR.cells (S.tail.tail.sl)).2 ?_) ?_; intro w205 b206 S; have B := B.trans b206; refine t_e ?_; refine w_r ?_; refine x_retc rfl rfl S.box ab_path sb_path rfl ?_; have S := S.f2; have S := S.pathShut (x := (([]) ++ [makePart core 2 0])); obtain ⟨fp, hO⟩ := (S.mono X0.size).head; exact ⟨_, fp, rfl, (by rw [show joinT up core false down = ([]) ++ [makePart core 2 0] by unfold joinT addP; (first | rw [if_pos hc1] | rw [if_neg hc1]); (first | rw [if_pos hc2] | rw [if_neg hc2]); (first | rw [if_pos hc3] | rw [if_neg hc3]); rfl]; exact hO), ext_trans X0 B⟩
 intro hc2; refine w_k ?_; refine x_s ?_; (iterate 2 refine w_s ?_); refine w_g ?_; refine t_fld ln_seg_2 ‹_› fb_seg_2 rfl ?_ rfl; intro p36 hp36; refine t_lds ‹_› ab_s_hop B rfl ?_ rfl; intro v37 hv37; refine t_len e_hop ‹_› rfl rfl ?_ rfl; refine t_gtr rfl rfl ?_ rfl; refine t_e ?_; refine w_if rfl ?_ ?_
 ·intro hc3; refine w_draw (.st .take 0 (.st .take 1 (.st .take 2 (.st .run 3 (.st .run 4 (.st .fin 5 (.st .fin 6 (.st .fin 7 .done)))))))) mixed (by kernel_rfl) ?_; intro w207 x208; have B := bx Hb B x208; have S := S.below x208; refine t_y fb_path_0 rfl rfl ?_ rfl; refine t_bx1 S.box ab_s_part rfl rfl ?_ rfl; refine t_lda ‹_› ab_seg sb_seg B rfl ?_ rfl; intro v42 hv42; obtain ⟨v42_2, rfl, hv42_2⟩ := seg_va hv42; refine t_c Tryz.call107 rfl (spec_MakePart _ _ _ _ _ (by first | assumption | exact VA.below ‹_› B | exact seg_mkv (by first | assumption | exact SlR.below ‹_› B)) (by omega)) ?_ rfl rfl; rintro e w209 ⟨cs43, fp43, rfl, hO43, x210⟩; refine ⟨_, rfl, x210, ?_⟩; have S := S.add (o := tyO partT _ _) x210 hO43; have B := bx Hb B x210; obtain ⟨u43_3, rfl, S2⟩ := S.partOpen; have S := S2; refine t_lit1 (fun w => bs_part1 _ _ _ _ w) rfl ?_ rfl rfl; intro A44 w211 x212 hA44; have B := bx Hb B x212; have S := S.below x212; have S := Sep.addNil (T := partT) (e := 85) S; have S := S.f1; have S := S.partShut (x := makePart down 4 0); have S := S.f1
  refine t_snoc e_part S hA44 rfl rfl rfl (by first | omega | (simp; done) | (simp; omega)) (by (simp only [maxLen]); first | omega | (simp; done) | (simp; omega)) ?_ rfl; intro v45 w213 x214 S; have B := B.trans x214; refine t_y fb_path_0 rfl rfl ?_ rfl; obtain ⟨Av45, cv45, rfl, _⟩ := S.sl.form; have S := S.f1; refine t_st1 S sb_s_part rfl rfl rfl rfl rfl ?_; intro w215 b216 S; have B := B.trans b216; refine t_k' ?_; refine t_b S.box ab_path sb_path rfl rfl ?_ rfl; have S := S.f2; refine t_stn S sb_path rfl rfl rfl rfl (by repeat first | exact oc0 | refine oc rfl ?_ | refine oc (SlR.cells (S.tail.tail.sl)).2 ?_) ?_; intro w217 b218 S; have B := B.trans b218; refine t_e ?_; refine w_r ?_; refine x_retc rfl rfl S.box ab_path sb_path rfl ?_; have S := S.f2; have S := S.pathShut (x := (([]) ++ [makePart down 4 0])); obtain ⟨fp, hO⟩ := (S.mono X0.size).head; exact ⟨_, fp, rfl, (by rw [show joinT up core false down = ([]) ++ [makePart down 4 0] by unfold joinT addP; (first | rw [if_pos hc1] | rw [if_neg hc1]); (first | rw [if_pos hc2] | rw [if_neg hc2]); (first | rw [if_pos hc3] | rw [if_neg hc3]); rfl]; exact hO), ext_trans X0 B⟩
 intro hc3; refine w_k ?_; refine x_s ?_; refine w_h ?_; refine t_b S.box ab_path sb_path rfl rfl ?_ rfl; have S := S.f1; refine t_stn S sb_path rfl rfl rfl rfl (by simp [Value.oneCell']) ?_; intro w219 b220 S; have B := B.trans b220; refine t_e ?_; refine w_r ?_; refine x_retc rfl rfl S.box ab_path sb_path rfl ?_; have S := Sep.addNil (T := partT) (e := 85) S; have S := S.pathShut (x := ([])); obtain ⟨fp, hO⟩ := (S.mono X0.size).head; exact ⟨_, fp, rfl, (by rw [show joinT up core false down = [] by unfold joinT addP; (first | rw [if_pos hc1] | rw [if_neg hc1]); (first | rw [if_pos hc2] | rw [if_neg hc2]); (first | rw [if_pos hc3] | rw [if_neg hc3]); rfl]; exact hO), ext_trans X0 B⟩
theorem impl_JoinThree_false (up core down : Seg) (v1 v2 v3 : Value) (w : World) (h1 : VA segT w v1 up) (h2 : VA segT w v2 core) (h3 : VA segT w v3 down) (hz1 : up.hops.length ≤ 1048576) (hz2 : core.hops.length ≤ 1048576) (hz3 : down.hops.length ≤ 1048576) : Calls Tryz.prog 51 #[v1, v2, .bool false, v3] w fun e w' => ∃ cs fp, e = .returned (.agg cs.toArray) ∧ pathT.O w.heap.size w' cs (joinT up core false down) fp ∧ Below w.heap.size w w' := by
 have ha1 : List.length (addP up 1) ≤ 1 := by unfold addP; split <;> simp
 have ha2 : List.length (addP core 2) ≤ 1 := by unfold addP; split <;> simp
 have X0 := Below.refl w.heap.size w; refine enter Tryz.func51 rfl Tryz.ntmps51 rfl ?_; refine w_h ?_; refine t_boxr ‹_› rfl ?_ rfl rfl; intro p4 w221 x222 hp4; replace h1 := h1.below x222; replace h2 := h2.below x222; replace h3 := h3.below x222; have X0 := ext_trans X0 x222; refine t_boxr ‹_› rfl ?_ rfl rfl; intro p5 w223 x224 hp5; replace h1 := h1.below x224; replace h2 := h2.below x224; replace h3 := h3.below x224; replace hp4 := hp4.below x224; have X0 := ext_trans X0 x224; refine t_boxr ‹_› rfl ?_ rfl rfl; intro p7 w225 x226 hp7; replace h1 := h1.below x226; replace h2 := h2.below x226; replace h3 := h3.below x226; replace hp4 := hp4.below x226; replace hp5 := hp5.below x226; have X0 := ext_trans X0 x226; have S := Sep.nil w225; have B := Below.refl w225.heap.size w225; have Hb := Nat.le_refl w225.heap.size; refine t_w S z_path rfl ?_ rfl rfl; intro g8 w227 x228 S; have B := bx Hb B x228; refine t_k ?_; refine t_a rfl ?_ rfl; refine t_e ?_; (iterate 2 refine w_s ?_); refine w_g ?_; refine t_m rfl ?_ rfl; refine t_e ?_; refine w_no rfl ?_; refine w_k ?_; refine x_s ?_; refine w_h ?_; refine t_w S z_path rfl ?_ rfl rfl; intro g10 w229 x230 S; have B := bx Hb B x230
 refine t_k ?_; refine t_makeFunc rfl ?_ rfl; refine t_a rfl ?_ rfl; refine t_k ?_; refine t_m rfl ?_ rfl; refine t_lda ‹_› ab_seg sb_seg B rfl ?_ rfl; intro v15 hv15; obtain ⟨v15_2, rfl, hv15_2⟩ := seg_va hv15; have S := (S.addNil (T := partT) (e := 85)).f1; refine t_callv Tryz.call106 rfl rfl (impl_JoinThree1 up _ 1 g10 _ [] _ _ _ S (by first | assumption | exact VA.below ‹_› B) (by omega) (by simp)) ?_ rfl; rintro e wa ⟨rfl, qa, S, xa⟩; refine ⟨_, rfl, ?_⟩; have B := B.trans xa; refine t_k ?_; refine t_m rfl ?_ rfl; refine t_lda ‹_› ab_seg sb_seg B rfl ?_ rfl; intro v18 hv18; obtain ⟨v18_2, rfl, hv18_2⟩ := seg_va hv18; refine t_m rfl ?_ rfl; refine t_callv Tryz.call106 rfl rfl (impl_JoinThree1 core _ 2 g10 _ _ _ _ _ S (by first | assumption | exact VA.below ‹_› B) (by omega) (by rw [List.length_append, List.length_nil]; omega)) ?_ rfl; rintro e wb ⟨rfl, qb, S, xb⟩; refine ⟨_, rfl, ?_⟩; have B := B.trans xb; refine t_k ?_; refine t_m rfl ?_ rfl; refine t_lda ‹_› ab_seg sb_seg B rfl ?_ rfl; intro v22 hv22; obtain ⟨v22_2, rfl, hv22_2⟩ := seg_va hv22
 refine t_callv Tryz.call106 rfl rfl (impl_JoinThree1 down _ 4 g10 _ _ _ _ _ S (by first | assumption | exact VA.below ‹_› B) (by omega) (by rw [List.length_append, List.length_append, List.length_nil]; omega)) ?_ rfl; rintro e wc ⟨rfl, qc, S, xc⟩; refine ⟨_, rfl, ?_⟩; have B := B.trans xc; refine t_k ?_; refine t_b S.box ab_path sb_path rfl rfl ?_ rfl; have S := S.f2; refine t_stn S sb_path rfl rfl rfl rfl (by repeat first | exact oc0 | refine oc rfl ?_ | refine oc (SlR.cells (S.tail.tail.sl)).2 ?_) ?_; intro w231 b232 S; have B := B.trans b232; refine t_e ?_; refine w_r ?_; refine x_retc rfl rfl S.box ab_path sb_path rfl ?_; have S := S.f2; have S := S.pathShut (x := ([] ++ addP up 1 ++ addP core 2 ++ addP down 4)); obtain ⟨fp, hO⟩ := (S.mono X0.size).head; exact ⟨_, fp, rfl, hO, ext_trans X0 B⟩
theorem impl_JoinThree (up core : Seg) (rev : Bool) (down : Seg) (v1 v2 v3 : Value) (w : World) (h1 : VA segT w v1 up) (h2 : VA segT w v2 core) (h3 : VA segT w v3 down) (hz1 : up.hops.length ≤ 1048576) (hz2 : core.hops.length ≤ 1048576) (hz3 : down.hops.length ≤ 1048576) : Calls Tryz.prog 51 #[v1, v2, .bool rev, v3] w fun e w' => ∃ cs fp, e = .returned (.agg cs.toArray) ∧ pathT.O w.heap.size w' cs (joinT up core rev down) fp ∧ Below w.heap.size w w' := by
  cases rev
  · exact impl_JoinThree_false up core down v1 v2 v3 w h1 h2 h3 hz1 hz2 hz3
  · exact impl_JoinThree_true up core down v1 v2 v3 w h1 h2 h3 hz1 hz2 hz3
theorem spec_JoinThree (up core : Seg) (rev : Bool) (down : Seg) (v1 v2 v3 : Value) (w : World) (h1 : VA segT w v1 up) (h2 : VA segT w v2 core) (h3 : VA segT w v3 down) (hz1 : up.hops.length ≤ 1048576) (hz2 : core.hops.length ≤ 1048576) (hz3 : down.hops.length ≤ 1048576) : Calls Tryz.prog 52 #[v1, v2, .bool rev, v3] w fun e w' => ∃ cs fp, e = .returned (.agg cs.toArray) ∧ pathT.O w.heap.size w' cs (joinT up core rev down) fp ∧ Below w.heap.size w w' := by
  cases rev
  · exact spec_JoinThree_false up core down v1 v2 v3 w h1 h2 h3 hz1 hz2 hz3
  · exact spec_JoinThree_true up core down v1 v2 v3 w h1 h2 h3 hz1 hz2 hz3
def betaStep (rev : Bool) (b : Int) (h : Hop) : Int := if rev then subM b h.mac else addM b h.mac
def betaFold (p : Part) (l : List Hop) : Int := l.foldl (betaStep (isRev p.kind)) p.beta
def betaAfter (p : Part) (i : Int) : Int := if inR i 0 p.hops.length then betaFold p (p.hops.take i.toNat) else 0
/-- What the code of a hop is reckoned with. -/
def hopBeta (p : Part) (i : Int) : Int := if isRev p.kind then betaAfter p (i + 1) else betaAfter p i
def computeMac (key : Int) (l : List Int) : Int := digest ([key] ++ l ++ [key])
def hopMac (key ts beta : Int) (h : Hop) : Int := computeMac key [ts, beta, h.ia, h.ing, h.eg, h.exp]
theorem impl_ComputeMAC (key : Int) (l : List Int) (v : Value) (w : World) (h : SlR intT w v l) (hn : l.length ≤ 1048576) : Calls Tryz.prog 188 #[I key, v] w fun e w' => e = .returned (I (computeMac key l)) ∧ Below w.heap.size w w' := by
  have X0 := Below.refl w.heap.size w; refine enter Tryz.func188 rfl Tryz.ntmps188 rfl ?_; refine w_h ?_; have S := Sep.nil w; have B := Below.refl w.heap.size w; have Hb := Nat.le_refl w.heap.size; refine t_a rfl ?_ rfl; refine t_k ?_; refine t_m rfl ?_ rfl; refine t_lit (T := intT) (l := [key]) (css := ([key]).map fun a => [I a]) int_flat S (fun w => bs_int1 _ w) rfl rfl rfl rfl (by simp [maxLen]) (litR_int _) ?_ rfl rfl; intro u6 w17 x18 S; have B := bx Hb B x18; refine t_m rfl ?_ rfl; refine t_cat int_flat e_int S (by first | assumption | exact SlR.below ‹_› B) rfl rfl rfl (by first | omega | (simp [-List.length_flatMap]; omega)) (by (simp [maxLen, -List.length_flatMap]; try omega)) ?_ rfl; intro v8 w19 x20 S; have B := B.trans x20; refine t_m rfl ?_ rfl; refine t_lit (T := intT) (l := [key]) (css := ([key]).map fun a => [I a]) int_flat S (fun w => bs_int1 _ w) rfl rfl rfl rfl (by simp [maxLen]) (litR_int _) ?_ rfl rfl; intro u10 w21 x22 S; have B := bx Hb B x22; have hR := S.sl; have S := S.f1; refine t_cat int_flat e_int S hR rfl rfl rfl (by first | omega | (simp [-List.length_flatMap]; omega)) (by (simp [maxLen, -List.length_flatMap]; try omega)) ?_ rfl; intro v11 w23 x24 S
  have B := B.trans x24; clear hR; have S := S.f1.tail; refine t_calls Tryz.call86 rfl (impl_Digest _ _ _ (S.sl) (by simp; omega)) ?_ rfl rfl; refine t_a rfl ?_ rfl; refine t_e ?_; refine w_r ?_; refine x_ret1 rfl rfl ?_; exact ⟨rfl, ext_trans X0 B⟩
theorem impl_HopMAC (key ts beta : Int) (x : Hop) (w : World) : Calls Tryz.prog 175 #[I key, I ts, I beta, .agg #[I x.ia, I x.ing, I x.eg, I x.exp, I x.mac]] w fun e w' => e = .returned (I (hopMac key ts beta x)) ∧ Below w.heap.size w w' := by
 have h := hop_mkv w x; have X0 := Below.refl w.heap.size w; refine enter Tryz.func175 rfl Tryz.ntmps175 rfl ?_; refine w_h ?_; refine t_boxr ‹_› rfl ?_ rfl rfl; intro p7 w25 x26 hp7; replace h := h.below x26; have X0 := ext_trans X0 x26; have S := Sep.nil w25; have B := Below.refl w25.heap.size w25; have Hb := Nat.le_refl w25.heap.size; refine t_a rfl ?_ rfl; refine t_k ?_; (iterate 3 refine t_m rfl ?_ rfl); refine t_fld ln_hop_0 ‹_› fb_hop_0 rfl ?_ rfl; intro p12 hp12; refine t_ldi ‹_› ab_int B rfl ?_ rfl; refine t_fld ln_hop_1 ‹_› fb_hop_1 rfl ?_ rfl; intro p14 hp14; refine t_ldi ‹_› ab_int B rfl ?_ rfl; refine t_fld ln_hop_2 ‹_› fb_hop_2 rfl ?_ rfl; intro p16 hp16; refine t_ldi ‹_› ab_int B rfl ?_ rfl; refine t_fld ln_hop_3 ‹_› fb_hop_3 rfl ?_ rfl; intro p18 hp18; refine t_ldi ‹_› ab_int B rfl ?_ rfl; refine t_lit (T := intT) (l := [ts, beta, x.ia, x.ing, x.eg, x.exp]) (css := ([ts, beta, x.ia, x.ing, x.eg, x.exp]).map fun a => [I a]) int_flat S (fun w => bs_int6 _ _ _ _ _ _ w) rfl rfl rfl rfl (by simp [maxLen]) (litR_int _) ?_ rfl rfl; intro u20 w27 x28 S; have B := bx Hb B x28; refine t_x Tryz.call188 rfl (impl_ComputeMAC _ _ _ _ (S.sl) (by simp)) ?_ rfl rfl; intro w29 x30
 have B := bx Hb B x30; have S := S.below x30; refine t_a rfl ?_ rfl; refine t_e ?_; refine w_r ?_; refine x_ret1 rfl rfl ?_; exact ⟨rfl, ext_trans X0 B⟩
theorem spec_ComputeMAC (key : Int) (l : List Int) (v : Value) (w : World) (h : SlR intT w v l) (hn : l.length ≤ 1048576) : Calls Tryz.prog 186 #[I key, v] w fun e w' => e = .returned (I (computeMac key l)) ∧ Below w.heap.size w w' := by
  have X0 := Below.refl w.heap.size w; refine enter Tryz.func186 rfl Tryz.ntmps186 rfl ?_; refine w_h ?_; have S := Sep.nil w; have B := Below.refl w.heap.size w; have Hb := Nat.le_refl w.heap.size; refine t_a rfl ?_ rfl; refine t_k ?_; refine t_m rfl ?_ rfl; refine t_lit (T := intT) (l := [key]) (css := ([key]).map fun a => [I a]) int_flat S (fun w => bs_int1 _ w) rfl rfl rfl rfl (by simp [maxLen]) (litR_int _) ?_ rfl rfl; intro u6 w31 x32 S; have B := bx Hb B x32; refine t_m rfl ?_ rfl; refine t_cat int_flat e_int S (by first | assumption | exact SlR.below ‹_› B) rfl rfl rfl (by first | omega | (simp [-List.length_flatMap]; omega)) (by (simp [maxLen, -List.length_flatMap]; try omega)) ?_ rfl; intro v8 w33 x34 S; have B := B.trans x34; refine t_m rfl ?_ rfl; refine t_lit (T := intT) (l := [key]) (css := ([key]).map fun a => [I a]) int_flat S (fun w => bs_int1 _ w) rfl rfl rfl rfl (by simp [maxLen]) (litR_int _) ?_ rfl rfl; intro u10 w35 x36 S; have B := bx Hb B x36; have hR := S.sl; have S := S.f1; refine t_cat int_flat e_int S hR rfl rfl rfl (by first | omega | (simp [-List.length_flatMap]; omega)) (by (simp [maxLen, -List.length_flatMap]; try omega)) ?_ rfl; intro v11 w37 x38 S
  have B := B.trans x38; clear hR; have S := S.f1.tail; refine t_calls Tryz.call87 rfl (spec_Digest _ _ _ (S.sl) (by simp; omega)) ?_ rfl rfl; refine t_a rfl ?_ rfl; refine t_e ?_; refine w_r ?_; refine x_ret1 rfl rfl ?_; exact ⟨rfl, ext_trans X0 B⟩
theorem spec_HopMAC (key ts beta : Int) (x : Hop) (w : World) : Calls Tryz.prog 169 #[I key, I ts, I beta, .agg #[I x.ia, I x.ing, I x.eg, I x.exp, I x.mac]] w fun e w' => e = .returned (I (hopMac key ts beta x)) ∧ Below w.heap.size w w' := by
 have h := hop_mkv w x; have X0 := Below.refl w.heap.size w; refine enter Tryz.func169 rfl Tryz.ntmps169 rfl ?_; refine w_h ?_; refine t_boxr ‹_› rfl ?_ rfl rfl; intro p7 w39 x40 hp7; replace h := h.below x40; have X0 := ext_trans X0 x40; have S := Sep.nil w39; have B := Below.refl w39.heap.size w39; have Hb := Nat.le_refl w39.heap.size; refine t_a rfl ?_ rfl; refine t_k ?_; (iterate 3 refine t_m rfl ?_ rfl); refine t_fld ln_hop_0 ‹_› fb_hop_0 rfl ?_ rfl; intro p12 hp12; refine t_ldi ‹_› ab_int B rfl ?_ rfl; refine t_fld ln_hop_1 ‹_› fb_hop_1 rfl ?_ rfl; intro p14 hp14; refine t_ldi ‹_› ab_int B rfl ?_ rfl; refine t_fld ln_hop_2 ‹_› fb_hop_2 rfl ?_ rfl; intro p16 hp16; refine t_ldi ‹_› ab_int B rfl ?_ rfl; refine t_fld ln_hop_3 ‹_› fb_hop_3 rfl ?_ rfl; intro p18 hp18; refine t_ldi ‹_› ab_int B rfl ?_ rfl; refine t_lit (T := intT) (l := [ts, beta, x.ia, x.ing, x.eg, x.exp]) (css := ([ts, beta, x.ia, x.ing, x.eg, x.exp]).map fun a => [I a]) int_flat S (fun w => bs_int6 _ _ _ _ _ _ w) rfl rfl rfl rfl (by simp [maxLen]) (litR_int _) ?_ rfl rfl; intro u20 w41 x42 S; have B := bx Hb B x42; refine t_x Tryz.call186 rfl (spec_ComputeMAC _ _ _ _ (S.sl) (by simp)) ?_ rfl rfl; intro w43 x44
 have B := bx Hb B x44; have S := S.below x44; refine t_a rfl ?_ rfl; refine t_e ?_; refine w_r ?_; refine x_ret1 rfl rfl ?_; exact ⟨rfl, ext_trans X0 B⟩
def isAS (t : Topo) (r : Int) : Bool := inR r 0 ((t.ases.length : Int) - 1)
def asKey (t : Topo) (r : Int) : Int := match t.ases[r.toNat]? with
  | some a => a.key
  | none => 0
def verifyHop (t : Topo) (ts beta : Int) (h : Hop) : Bool := validHop h && (isAS t h.ia && decide (h.mac = hopMac (asKey t h.ia) ts beta h))
theorem impl_isAS (t : Topo) (v : Value) (r : Int) (w : World) (h : VA topoT w v t) (hz : sz_topo t ≤ 1048576) : Calls Tryz.prog 90 #[v, I r] w fun e w' => e = .returned (.bool (isAS t r)) ∧ Below w.heap.size w w' := by
  have hz' : t.ases.length ≤ 1048576 := by unfold sz_topo at hz; omega
  have X0 := Below.refl w.heap.size w; refine enter Tryz.func90 rfl Tryz.ntmps90 rfl ?_; refine w_h ?_; refine t_boxr ‹_› rfl ?_ rfl rfl; intro p2 w1 x2 hp2; replace h := h.below x2; have X0 := ext_trans X0 x2; have S := Sep.nil w1; have B := Below.refl w1.heap.size w1; have Hb := Nat.le_refl w1.heap.size; refine t_a rfl ?_ rfl; refine t_k ?_; refine t_m rfl ?_ rfl; refine t_fld ln_topo_0 ‹_› fb_topo_0 rfl ?_ rfl; intro p6 hp6; refine t_lds ‹_› ab_s_asn B rfl ?_ rfl; intro v7 hv7; refine t_len e_asn ‹_› rfl rfl ?_ rfl; refine t_sub rfl rfl (by omega) ?_ rfl; refine t_calls Tryz.call109 rfl (impl_InRange _ _ _ _) ?_ rfl rfl; refine t_a rfl ?_ rfl; refine t_e ?_; refine w_r ?_; refine x_ret1 rfl rfl ?_; exact ⟨rfl, ext_trans X0 B⟩
theorem spec_l5Realm (t : Topo) (v : Value) (r : Int) (w : World) (h : VA topoT w v t) (hz : sz_topo t ≤ 1048576) : Calls Tryz.prog 99 #[v, I r] w fun e w' => e = .returned (.bool (isAS t r)) ∧ Below w.heap.size w w' := by
  have hz' : t.ases.length ≤ 1048576 := by unfold sz_topo at hz; omega
  have X0 := Below.refl w.heap.size w; refine enter Tryz.func99 rfl Tryz.ntmps99 rfl ?_; refine w_h ?_; refine t_boxr ‹_› rfl ?_ rfl rfl; intro p2 w3 x4 hp2; replace h := h.below x4; have X0 := ext_trans X0 x4; have S := Sep.nil w3; have B := Below.refl w3.heap.size w3; have Hb := Nat.le_refl w3.heap.size; refine t_a rfl ?_ rfl; refine t_k ?_; refine t_m rfl ?_ rfl; refine t_fld ln_topo_0 ‹_› fb_topo_0 rfl ?_ rfl; intro p6 hp6; refine t_lds ‹_› ab_s_asn B rfl ?_ rfl; intro v7 hv7; refine t_len e_asn ‹_› rfl rfl ?_ rfl; refine t_sub rfl rfl (by omega) ?_ rfl; refine t_calls Tryz.call144 rfl (spec_l1In _ _ _ _) ?_ rfl rfl; refine t_a rfl ?_ rfl; refine t_e ?_; refine w_r ?_; refine x_ret1 rfl rfl ?_; exact ⟨rfl, ext_trans X0 B⟩
theorem impl_VerifyHop (t : Topo) (v : Value) (ts beta : Int) (x : Hop) (w : World) (h : VA topoT w v t) (hz : sz_topo t ≤ 1048576) : Calls Tryz.prog 150 #[v, I ts, I beta, .agg #[I x.ia, I x.ing, I x.eg, I x.exp, I x.mac]] w fun e w' => e = .returned (.bool (verifyHop t ts beta x)) ∧ Below w.heap.size w w' := by
 have hx := hop_mkv w x; have X0 := Below.refl w.heap.size w; refine enter Tryz.func150 rfl Tryz.ntmps150 rfl ?_; refine w_h ?_; refine t_boxr ‹_› rfl ?_ rfl rfl; intro p4 w5 x6 hp4; replace h := h.below x6; replace hx := hx.below x6; have X0 := ext_trans X0 x6; refine t_boxr ‹_› rfl ?_ rfl rfl; intro p7 w7 x8 hp7; replace h := h.below x8; replace hx := hx.below x8; replace hp4 := hp4.below x8; have X0 := ext_trans X0 x8; have S := Sep.nil w7; have B := Below.refl w7.heap.size w7; have Hb := Nat.le_refl w7.heap.size; refine t_a rfl ?_ rfl; refine t_e ?_; refine w_s ?_; refine w_draw (.st .take 0 (.st .run 1 (.st .take 2 (.st .take 3 (.st .take 4 (.st .take 5 (.st .run 6 (.st .take 7 (.st .take 8 (.st .take 9 (.st .take 10 (.st .take 11 (.st .take 12 (.st .take 13 (.st .take 14 (.st .take 15 (.st .take 16 (.st .take 17 (.st .take 18 (.st .take 19 (.st .take 20 (.st .run 21 (.st .take 22 (.st .take 23 (.st .take 24 .done))))))))))))))))))))))))) mixed (by kernel_rfl) ?_; intro w9 x10; have B := bx Hb B x10; have S := S.below x10; refine t_lda ‹_› ab_hop sb_hop B rfl ?_ rfl; intro v9 hv9; obtain rfl := hop_va hv9; refine t_x Tryz.call174 rfl (impl_ValidHop _ _) ?_ rfl rfl
 intro w11 x12; have B := bx Hb B x12; have S := S.below x12; refine t_m rfl ?_ rfl; refine t_part (t := 11) rfl ?_ ?_
 ·intro h1; refine t_on rfl rfl ?_; refine t_lda ‹_› ab_topo sb_topo B rfl ?_ rfl; intro v12 hv12; obtain ⟨v12_0, v12_1, rfl, hv12_0, hv12_1⟩ := topo_va hv12; refine t_on rfl rfl ?_; refine t_fld ln_hop_0 ‹_› fb_hop_0 rfl ?_ rfl; intro p13 hp13; refine t_on rfl rfl ?_; refine t_ldi ‹_› ab_int B rfl ?_ rfl; refine t_on rfl rfl ?_; refine t_x Tryz.call90 rfl (impl_isAS _ _ _ _ (by first | assumption | exact VA.below ‹_› B | exact topo_mkv (by first | assumption | exact SlR.below ‹_› B) (by first | assumption | exact SlR.below ‹_› B)) (by omega)) ?_ rfl rfl; intro w13 x14; have B := bx Hb B x14; have S := S.below x14; refine t_q rfl rfl ?_ rfl; refine t_m rfl ?_ rfl; refine t_part (t := 17) rfl ?_ ?_
  ·intro h2; have r2 := inR_iff.1 h2; refine t_on rfl rfl ?_; refine t_fld ln_hop_4 ‹_› fb_hop_4 rfl ?_ rfl; intro p18 hp18; refine t_on rfl rfl ?_; refine t_ldi ‹_› ab_int B rfl ?_ rfl; refine t_on rfl rfl ?_; refine t_fld ln_topo_0 ‹_› fb_topo_0 rfl ?_ rfl; intro p20 hp20; refine t_on rfl rfl ?_; refine t_lds ‹_› ab_s_asn B rfl ?_ rfl; intro v21 hv21; refine t_on rfl rfl ?_; refine t_fld ln_hop_0 ‹_› fb_hop_0 rfl ?_ rfl; intro p22 hp22; refine t_on rfl rfl ?_; refine t_ldi ‹_› ab_int B rfl ?_ rfl; refine t_on rfl rfl ?_; obtain ⟨e24, he24⟩ : ∃ e, (t.ases)[x.ia.toNat]? = some e := getx (by omega); refine t_idx e_asn (k := x.ia.toNat) ‹_› he24 B rfl rfl (by first | rfl | omega) ?_ rfl; intro p24 hp24; refine t_on rfl rfl ?_; refine t_fld ln_asn_2 ‹_› fb_asn_2 rfl ?_ rfl; intro p25 hp25; refine t_on rfl rfl ?_; refine t_ldi ‹_› ab_int B rfl ?_ rfl; refine t_on rfl rfl ?_; refine t_m rfl ?_ rfl; refine t_on rfl rfl ?_; refine t_m rfl ?_ rfl; refine t_on rfl rfl ?_; refine t_lda ‹_› ab_hop sb_hop B rfl ?_ rfl; intro v29 hv29; obtain rfl := hop_va hv29; refine t_on rfl rfl ?_; refine t_x Tryz.call175 rfl (impl_HopMAC _ _ _ _ _) ?_ rfl rfl; intro w15 x16; have B := bx Hb B x16
   have S := S.below x16; refine t_on rfl rfl ?_; refine t_eql rfl rfl ?_ rfl; refine t_q rfl rfl ?_ rfl; refine t_a rfl ?_ rfl; refine t_e' ?_; refine w_r ?_; refine x_ret1 rfl rfl ?_; exact ⟨ret_bool (by simp [verifyHop, h1, h2, asKey, he24]), ext_trans X0 B⟩
  ·intro h2; (iterate 14 refine t_off rfl rfl rfl ?_ rfl); refine t_p rfl rfl ?_ rfl; refine t_a rfl ?_ rfl; refine t_e' ?_; refine w_r ?_; refine x_ret1 rfl rfl ?_; exact ⟨ret_bool (by simp [verifyHop, h1, h2]), ext_trans X0 B⟩
 ·intro h1; (iterate 4 refine t_off rfl rfl rfl ?_ rfl); refine t_p rfl rfl ?_ rfl; refine t_m rfl ?_ rfl; (iterate 14 refine t_off rfl rfl rfl ?_ rfl); refine t_p rfl rfl ?_ rfl; refine t_a rfl ?_ rfl; refine t_e' ?_; refine w_r ?_; refine x_ret1 rfl rfl ?_; exact ⟨ret_bool (by simp [verifyHop, h1]), ext_trans X0 B⟩
theorem spec_VerifyHop (t : Topo) (v : Value) (ts beta : Int) (x : Hop) (w : World) (h : VA topoT w v t) (hz : sz_topo t ≤ 1048576) : Calls Tryz.prog 182 #[v, I ts, I beta, .agg #[I x.ia, I x.ing, I x.eg, I x.exp, I x.mac]] w fun e w' => e = .returned (.bool (verifyHop t ts beta x)) ∧ Below w.heap.size w w' := by
 have hx := hop_mkv w x; have X0 := Below.refl w.heap.size w; refine enter Tryz.func182 rfl Tryz.ntmps182 rfl ?_; refine w_h ?_; refine t_boxr ‹_› rfl ?_ rfl rfl; intro p4 w17 x18 hp4; replace h := h.below x18; replace hx := hx.below x18; have X0 := ext_trans X0 x18; refine t_boxr ‹_› rfl ?_ rfl rfl; intro p7 w19 x20 hp7; replace h := h.below x20; replace hx := hx.below x20; replace hp4 := hp4.below x20; have X0 := ext_trans X0 x20; have S := Sep.nil w19; have B := Below.refl w19.heap.size w19; have Hb := Nat.le_refl w19.heap.size; refine t_a rfl ?_ rfl; refine t_e ?_; refine w_s ?_; refine w_draw (.st .take 0 (.st .run 1 (.st .take 2 (.st .take 3 (.st .take 4 (.st .take 5 (.st .run 6 (.st .take 7 (.st .take 8 (.st .take 9 (.st .take 10 (.st .take 11 (.st .take 12 (.st .take 13 (.st .take 14 (.st .take 15 (.st .take 16 (.st .take 17 (.st .take 18 (.st .take 19 (.st .take 20 (.st .run 21 (.st .take 22 (.st .take 23 (.st .take 24 .done))))))))))))))))))))))))) mixed (by kernel_rfl) ?_; intro w21 x22; have B := bx Hb B x22; have S := S.below x22; refine t_lda ‹_› ab_hop sb_hop B rfl ?_ rfl; intro v9 hv9; obtain rfl := hop_va hv9
 refine t_x Tryz.call189 rfl (spec_ValidHop _ _) ?_ rfl rfl; intro w23 x24; have B := bx Hb B x24; have S := S.below x24; refine t_m rfl ?_ rfl; refine t_part (t := 11) rfl ?_ ?_
 ·intro h1; refine t_on rfl rfl ?_; refine t_lda ‹_› ab_topo sb_topo B rfl ?_ rfl; intro v12 hv12; obtain ⟨v12_0, v12_1, rfl, hv12_0, hv12_1⟩ := topo_va hv12; refine t_on rfl rfl ?_; refine t_fld ln_hop_0 ‹_› fb_hop_0 rfl ?_ rfl; intro p13 hp13; refine t_on rfl rfl ?_; refine t_ldi ‹_› ab_int B rfl ?_ rfl; refine t_on rfl rfl ?_; refine t_x Tryz.call99 rfl (spec_l5Realm _ _ _ _ (by first | assumption | exact VA.below ‹_› B | exact topo_mkv (by first | assumption | exact SlR.below ‹_› B) (by first | assumption | exact SlR.below ‹_› B)) (by omega)) ?_ rfl rfl; intro w25 x26; have B := bx Hb B x26; have S := S.below x26; refine t_q rfl rfl ?_ rfl; refine t_m rfl ?_ rfl; refine t_part (t := 17) rfl ?_ ?_
  ·intro h2; have r2 := inR_iff.1 h2; refine t_on rfl rfl ?_; refine t_fld ln_hop_4 ‹_› fb_hop_4 rfl ?_ rfl; intro p18 hp18; refine t_on rfl rfl ?_; refine t_ldi ‹_› ab_int B rfl ?_ rfl; refine t_on rfl rfl ?_; refine t_fld ln_topo_0 ‹_› fb_topo_0 rfl ?_ rfl; intro p20 hp20; refine t_on rfl rfl ?_; refine t_lds ‹_› ab_s_asn B rfl ?_ rfl; intro v21 hv21; refine t_on rfl rfl ?_; refine t_fld ln_hop_0 ‹_› fb_hop_0 rfl ?_ rfl; intro p22 hp22; refine t_on rfl rfl ?_; refine t_ldi ‹_› ab_int B rfl ?_ rfl; refine t_on rfl rfl ?_; obtain ⟨e24, he24⟩ : ∃ e, (t.ases)[x.ia.toNat]? = some e := getx (by omega); refine t_idx e_asn (k := x.ia.toNat) ‹_› he24 B rfl rfl (by first | rfl | omega) ?_ rfl; intro p24 hp24; refine t_on rfl rfl ?_; refine t_fld ln_asn_2 ‹_› fb_asn_2 rfl ?_ rfl; intro p25 hp25; refine t_on rfl rfl ?_; refine t_ldi ‹_› ab_int B rfl ?_ rfl; refine t_on rfl rfl ?_; refine t_m rfl ?_ rfl; refine t_on rfl rfl ?_; refine t_m rfl ?_ rfl; refine t_on rfl rfl ?_; refine t_lda ‹_› ab_hop sb_hop B rfl ?_ rfl; intro v29 hv29; obtain rfl := hop_va hv29; refine t_on rfl rfl ?_; refine t_x Tryz.call169 rfl (spec_HopMAC _ _ _ _ _) ?_ rfl rfl; intro w27 x28; have B := bx Hb B x28
   have S := S.below x28; refine t_on rfl rfl ?_; refine t_eql rfl rfl ?_ rfl; refine t_q rfl rfl ?_ rfl; refine t_a rfl ?_ rfl; refine t_e' ?_; refine w_r ?_; refine x_ret1 rfl rfl ?_; exact ⟨ret_bool (by simp [verifyHop, h1, h2, asKey, he24]), ext_trans X0 B⟩
  ·intro h2; (iterate 14 refine t_off rfl rfl rfl ?_ rfl); refine t_p rfl rfl ?_ rfl; refine t_a rfl ?_ rfl; refine t_e' ?_; refine w_r ?_; refine x_ret1 rfl rfl ?_; exact ⟨ret_bool (by simp [verifyHop, h1, h2]), ext_trans X0 B⟩
 ·intro h1; (iterate 4 refine t_off rfl rfl rfl ?_ rfl); refine t_p rfl rfl ?_ rfl; refine t_m rfl ?_ rfl; (iterate 14 refine t_off rfl rfl rfl ?_ rfl); refine t_p rfl rfl ?_ rfl; refine t_a rfl ?_ rfl; refine t_e' ?_; refine w_r ?_; refine x_ret1 rfl rfl ?_; exact ⟨ret_bool (by simp [verifyHop, h1]), ext_trans X0 B⟩
def verifyPart (t : Topo) (p : Part) : Bool := (p.hops.zipIdx).all fun x => verifyHop t p.ts (hopBeta p x.2) x.1
theorem verify_all {t : Topo} {p : Part} (h : ∀ (k : Nat) x, p.hops[k]? = some x → verifyHop t p.ts (hopBeta p k) x = true) : verifyPart t p = true := by
  unfold verifyPart
  rw [List.all_eq_true]; rintro ⟨x, k⟩ hm; exact h k x (by simpa using List.mem_zipIdx_iff_getElem?.1 hm)
theorem et_step : ElemT Tryz.prog 41 45 3 24 := ElemT.mk' Tryz.underlying41 (z := .agg #[I 0, I 0, I 0]) (by kernel_rfl) rfl (by omega)
def hopIa (x : Part) (j : Nat) : Int := match x.hops[j]? with
  | none => 0
  | some h => h.ia
def lastOf (l : List Stp) : Stp := (l[l.length - 1]?).getD ⟨0, 0, 0⟩
def firstOf (l : List Stp) : Stp := (l[0]?).getD ⟨0, 0, 0⟩
/-- Whether hop j of part i is the same AS as_ the last step so far. -/
def joinAt (i : Nat) (x : Part) (l : List Stp) (j : Nat) : Bool := decide (0 < i) && (decide (j = 0) && (decide (0 < l.length) && ((lastOf l).ia == hopIa x j)))
def addHop (i : Nat) (x : Part) (l : List Stp) (j : Nat) : List Stp :=
  if joinAt i x l j then l.set (l.length - 1) { lastOf l with eg := partOut x j } else l ++ [⟨hopIa x j, partIn x j, partOut x j⟩]
def hopsTo (i : Nat) (x : Part) (l : List Stp) (j : Nat) : List Stp := (List.range j).foldl (addHop i x) l
def addPart (p : Path) (l : List Stp) (i : Nat) : List Stp := match p[i]? with
  | none => l
  | some x => hopsTo i x l x.hops.length
def rawSteps (p : Path) (k : Nat) : List Stp := (List.range k).foldl (addPart p) []
def cutFirst (l : List Stp) : List Stp := l.set 0 { firstOf l with ing := 0 }
def cutLast (l : List Stp) : List Stp := l.set (l.length - 1) { lastOf l with eg := 0 }
def pathSteps (p : Path) : List Stp := cutLast (cutFirst (rawSteps p p.length))
theorem hopsTo_succ (i : Nat) (x : Part) (l : List Stp) (j : Nat) : hopsTo i x l (j + 1) = addHop i x (hopsTo i x l j) j := by
  unfold hopsTo; rw [List.range_succ, List.foldl_append]; rfl
theorem rawSteps_succ {p : Path} {k : Nat} {x : Part} (h : p[k]? = some x) : rawSteps p (k + 1) = hopsTo k x (rawSteps p k) x.hops.length := by
  unfold rawSteps; rw [List.range_succ, List.foldl_append]
  show addPart p _ k = _
  unfold addPart; rw [h]
theorem addHop_len (i : Nat) (x : Part) (l : List Stp) (j : Nat) : (addHop i x l j).length ≤ l.length + 1 := by
  unfold addHop; split <;> simp
theorem hopsTo_len (i : Nat) (x : Part) (l : List Stp) (j : Nat) : (hopsTo i x l j).length ≤ l.length + j := by
  induction j with
  | zero => simp [hopsTo]
  | succ j ih => rw [hopsTo_succ]; have := addHop_len i x (hopsTo i x l j) j; omega
theorem rawSteps_len (p : Path) (k : Nat) : (rawSteps p k).length ≤ ((p.take k).map fun x => x.hops.length).sum := by
  induction k with
  | zero => simp [rawSteps]
  | succ k ih =>
    cases h : p[k]? with
    | none =>
      have e : rawSteps p (k + 1) = rawSteps p k := by
        unfold rawSteps; rw [List.range_succ, List.foldl_append]
        show addPart p _ k = _
        unfold addPart; rw [h]
      have h2 : p.length ≤ k := List.getElem?_eq_none_iff.1 h; rw [e, List.take_of_length_le (by omega)]; rw [List.take_of_length_le (by omega)] at ih; exact ih
    | some x =>
      rw [rawSteps_succ h, take_succ h, List.map_append, List.sum_append]; have := hopsTo_len k x (rawSteps p k) x.hops.length
      simp only [List.map_cons, List.map_nil, List.sum_cons, List.sum_nil]
      omega
theorem take_hops_le (p : Path) (k : Nat) : ((p.take k).map fun x => x.hops.length).sum ≤ sz_path p := by
  have h1 : (p.map fun x => x.hops.length).sum = ((p.take k).map fun x => x.hops.length).sum + ((p.drop k).map fun x => x.hops.length).sum := by
    rw [← List.sum_append, ← List.map_append, List.take_append_drop]
  have h2 : sz_path p = List.length p + (p.map fun x => x.hops.length).sum := rfl
  omega
/-- The bound that each append needs. -/
theorem hopsTo_bound {p : Path} {k : Nat} {x : Part} (h : p[k]? = some x) {j : Nat} (hj : j ≤ x.hops.length) : (hopsTo k x (rawSteps p k) j).length ≤ sz_path p := by
  have h1 := hopsTo_len k x (rawSteps p k) j; have h2 := rawSteps_len p k; have h3 := take_hops_le p (k + 1); rw [take_succ h, List.map_append, List.sum_append] at h3
  simp only [List.map_cons, List.map_nil, List.sum_cons, List.sum_nil] at h3
  omega
theorem rawSteps_bound (p : Path) (k : Nat) : (rawSteps p k).length ≤ sz_path p := Nat.le_trans (rawSteps_len p k) (take_hops_le p k)
theorem pathSteps_len (p : Path) : (pathSteps p).length ≤ sz_path p := by
  have := rawSteps_bound p p.length
  simpa [pathSteps, cutLast, cutFirst] using this
theorem hops_le_path {p : Path} {x : Part} (h : x ∈ p) : x.hops.length ≤ sz_path p := by
  have := le_sum_of_mem (List.mem_map.2 ⟨x, h, rfl⟩ : sz_part x ∈ p.map sz_part)
  show _ ≤ List.length p + _
  have e : sz_part x = x.hops.length := rfl
  omega
theorem lastOf_at {l : List Stp} {s : Stp} (h : l[l.length - 1]? = some s) : lastOf l = s := by unfold lastOf; rw [h]; rfl
theorem firstOf_at {l : List Stp} {s : Stp} (h : l[0]? = some s) : firstOf l = s := by unfold firstOf; rw [h]; rfl
theorem hopIa_at {x : Part} {j : Nat} {y : Hop} (h : x.hops[j]? = some y) : hopIa x j = y.ia := by unfold hopIa; rw [h]
theorem addHop_join {i : Nat} {x : Part} {l : List Stp} {j : Nat} (h : joinAt i x l j = true) : addHop i x l j = l.set (l.length - 1) { lastOf l with eg := partOut x j } := by unfold addHop; rw [h]; rfl
theorem addHop_new {i : Nat} {x : Part} {l : List Stp} {j : Nat} (h : joinAt i x l j = false) : addHop i x l j = l ++ [⟨hopIa x j, partIn x j, partOut x j⟩] := by unfold addHop; rw [h]; rfl
theorem take_set {α : Type} (l : List α) (a : α) (h : 0 < l.length) : l.take (l.length - 1) ++ [a] = l.set (l.length - 1) a := by
  rw [List.set_eq_take_append_cons_drop, if_pos (by omega), List.drop_eq_nil_of_le (by omega)]
theorem step_put2 {base : Nat} {w : World} {cs : List Value} {s : Stp} {f : List Nat} (h : stepT.O base w cs s f) (v : Int) : stepT.O base w (cs.set 2 (I v)) { s with eg := v } f := by
  have e : cs = [I s.ia, I s.ing, I s.eg] := h.1; subst e; exact ⟨rfl, h.2⟩
theorem step_put1 {base : Nat} {w : World} {cs : List Value} {s : Stp} {f : List Nat} (h : stepT.O base w cs s f) (v : Int) : stepT.O base w (cs.set 1 (I v)) { s with ing := v } f := by
  have e : cs = [I s.ia, I s.ing, I s.eg] := h.1; subst e; exact ⟨rfl, h.2⟩
set_option maxRecDepth 100000 in
set_option maxHeartbeats 4000000 in
theorem impl_PathSteps (p : Path) (cs : List Value) (w : World) (h : pathT.R w cs p) (hz : sz_path p ≤ 1048576) (hl : lenOk_path p) (hg : rng_path p) :
  Calls Tryz.prog 16 #[.agg cs.toArray] w fun r w' => ∃ v fp, r = .returned v ∧ SlO stepT 45 w.heap.size w' v (pathSteps p) fp ∧ Below w.heap.size w w' := by
 obtain ⟨A, c, rfl, ⟨h, _⟩⟩ := path_form h; obtain ⟨n, H⟩ : ∃ n, Hid (n = p.length) := ⟨_, rfl⟩
 have hn : n ≤ 1048576 := by rw [H.out]; have : sz_path p = List.length p + (p.map sz_part).sum := rfl; omega
 have Hz := hid hz; clear hz hl hg; rw [← H.out] at h ⊢; have hb0 : Below w.heap.size w (w.alloc (.cells #[.slice A n c] 38)) := ext_alloc1 _ _
 go_enter Tryz.func16, Tryz.ntmps16
 go_wp2
 go_loopw [3, 12] (fun v i wr => ∃ k : Nat, k ≤ n ∧ i = I k ∧ Below w.heap.size w wr ∧ ∃ fp, SlO stepT 45 w.heap.size wr v (rawSteps p k) fp) (fun _ i _ => n - (intOf i).toNat)
 case atStart => exact ⟨0, by omega, rfl, hb0, [], SlO.nil⟩
 case round =>
  obtain ⟨k, hk, rfl, hb, fp, hO⟩ := hrel; clear hb0; obtain ⟨wo, rfl⟩ : ∃ wo : World, wo = wr := ⟨_, rfl⟩
  by_cases hlt : k < n
  ·obtain ⟨g, o, q, x, B, d, e, hg, hxk, hin, hd, c0, c1, c2, c3⟩ := part_at h (by rw [← H.out]; exact hlt); rw [← H.out] at e; cases e; replace c0 := ck hb c0; replace c1 := ck hb c1; replace c2 := ck hb c2; replace c3 := ck hb c3; have hm2 : x.hops.length ≤ 1048576 := Nat.le_trans (hops_le_path (List.mem_of_getElem? hxk.out)) Hz.out; obtain ⟨m, Hm⟩ : ∃ m, Hid (m = x.hops.length) := ⟨_, rfl⟩; rw [← Hm.out] at hin hd hm2 c3
   have Hbd : Hid (∀ j, j ≤ m → (hopsTo k x (rawSteps p k) j).length ≤ 1048576) := fun j hj => Nat.le_trans (hopsTo_bound hxk.out (by rw [← Hm.out]; exact hj)) Hz.out
   have hsuc : Hid (rawSteps p (k + 1) = hopsTo k x (rawSteps p k) m) := by show _ = _; rw [Hm.out]; exact rawSteps_succ hxk.out
   obtain ⟨l0, Hl0⟩ : ∃ l0, Hid (l0 = rawSteps p k) := ⟨_, rfl⟩; rw [← Hl0.out] at hO hsuc Hbd; have hz0 : w.heap.size ≤ wo.heap.size := hb.size; have C0 := hid c0; have C1 := hid c1; have C2 := hid c2; have C3 := hid c3; have hOa := hid (hO.alloc (.cells #[I x.kind, I x.ts, I x.beta, .slice B m d] 85))
   have hfr := hid fun hm => Nat.lt_irrefl _ (hO.size_ok wo.heap.size hm).2
   have hba := hid (ext_alloc hb (.cells #[I x.kind, I x.ts, I x.beta, .slice B m d] 85))
   go_wp2
   clear c0 c1 c2 c3 hO
   go_loopw [3, 20] (fun v i wr => ∃ j : Nat, j ≤ m ∧ i = I j ∧ Below w.heap.size w wr ∧ wo.heap.size + 1 ≤ wr.heap.size ∧ (wr.cell? ⟨wo.heap.size, 0, none⟩ = some (I x.kind) ∧ wr.cell? ⟨wo.heap.size, 1, none⟩ = some (I x.ts) ∧ wr.cell? ⟨wo.heap.size, 2, none⟩ = some (I x.beta) ∧ wr.cell? ⟨wo.heap.size, 3, none⟩ = some (.slice B m d)) ∧ ∃ fp, SlO stepT 45 w.heap.size wr v (hopsTo k x l0 j) fp ∧ wo.heap.size ∉ fp) (fun _ i _ => m - (intOf i).toNat)
   case atStart => exact ⟨0, by omega, rfl, hba.out, by simp, ⟨by simp, by simp, by simp, by simp⟩, fp, hOa.out, hfr.out⟩
   case round =>
    obtain ⟨j, hj, rfl, hbi, hs2, ⟨q0, q1, q2, q3⟩, fpi, hOi, hni⟩ := hrel; clear hOa hfr hba; obtain ⟨wi, rfl⟩ : ∃ wi : World, wi = wr := ⟨_, rfl⟩
    by_cases hjl : j < m
    ·obtain ⟨g', o', q', y, e', hg', hyj, b0, b1, b2, b3, b4⟩ := hop_at hin (by rw [← Hm.out]; exact hjl); rw [← Hm.out] at e'; cases e'; replace b0 := ck hbi b0; replace b1 := ck hbi b1; replace b2 := ck hbi b2; replace b3 := ck hbi b3; replace b4 := ck hbi b4; obtain ⟨li, Hli⟩ : ∃ li, Hid (li = hopsTo k x l0 j) := ⟨_, rfl⟩
     have hlen : li.length ≤ 1048576 := by rw [Hli.out]; exact Hbd.out j hj
     have Hnx : Hid (hopsTo k x l0 (j + 1) = addHop k x li j) := by show _ = _; rw [hopsTo_succ, Hli.out]
     rw [← Hli.out] at hOi; obtain ⟨Av, cv, ev, _⟩ := hOi.form; subst ev; obtain ⟨wj, Hwj⟩ : ∃ wj, Hid (wj = wi.alloc (.cells #[I y.ia, I y.ing, I y.eg, I y.exp, I y.mac] 87)) := ⟨_, rfl⟩
     have Hsz : Hid (wj.heap.size = wi.heap.size + 1) := by show _ = _; rw [Hwj.out]; simp
     have hij : Below wi.heap.size wi wj := by rw [Hwj.out]; exact ext_alloc1 _ _
     have HS : Hid (∀ w', Below wj.heap.size wj w' → (w'.cell? ⟨wo.heap.size, 0, none⟩ = some (I x.kind) ∧ w'.cell? ⟨wo.heap.size, 1, none⟩ = some (I x.ts) ∧ w'.cell? ⟨wo.heap.size, 2, none⟩ = some (I x.beta) ∧ w'.cell? ⟨wo.heap.size, 3, none⟩ = some (.slice (some ⟨g', o', none⟩) m d) ∧ w'.cell? ⟨wi.heap.size, 0, none⟩ = some (I y.ia))) := fun w' hw => by
      have hx := ext_trans hij hw; exact ⟨ck hx q0, ck hx q1, ck hx q2, ck hx q3, ck hw (by rw [Hwj.out]; simp)⟩
     have hR : ∀ w' : World, Below wj.heap.size wj w' → partT.R w' [I x.kind, I x.ts, I x.beta, .slice (some ⟨g', o', none⟩) m d] x := fun w' hw => by
      have := part_mk (d := x) (A3 := some ⟨g', o', none⟩) (cA3 := d) (w := w') (by rw [← Hm.out]; exact hin.below (ext_trans hbi (ext_trans hij hw))); rw [← Hm.out] at this; exact this
     obtain ⟨vi, Hvi⟩ : ∃ vi, Hid (vi = partIn x j) := ⟨_, rfl⟩; obtain ⟨vo, Hvo⟩ : ∃ vo, Hid (vo = partOut x j) := ⟨_, rfl⟩
     have HI : Hid (∀ w', Below wj.heap.size wj w' → Calls Tryz.prog 66 #[.agg #[I x.kind, I x.ts, I x.beta, .slice (some ⟨g', o', none⟩) m d], I j] w' fun e w'' => e = .returned (I vi) ∧ Below w'.heap.size w' w'') := fun w' hw => by
      have := impl_PartIngress x _ j w' (hR w' hw) (by rw [← Hm.out]; exact hm2) (by omega); rw [Int.toNat_natCast, ← Hvi.out] at this; exact this
     have HE : Hid (∀ w', Below wj.heap.size wj w' → Calls Tryz.prog 65 #[.agg #[I x.kind, I x.ts, I x.beta, .slice (some ⟨g', o', none⟩) m d], I j] w' fun e w'' => e = .returned (I vo) ∧ Below w'.heap.size w' w'') := fun w' hw => by
      have := impl_PartEgress x _ j w' (hR w' hw) (by rw [← Hm.out]; exact hm2) (by omega); rw [Int.toNat_natCast, ← Hvo.out] at this; exact this
     have hOj : Hid (SlO stepT 45 w.heap.size wj (.slice Av li.length cv) li fpi) := hOi.below hij; have Hni := hid hni
     have Hni2 : Hid (wi.heap.size ∉ fpi) := fun hm => Nat.lt_irrefl _ (hOi.size_ok _ hm).2
     clear hR
     rcases Nat.eq_zero_or_pos k with hk0 | hk0
     ·have g1 : decide (0 < k) = false := by simp; omega
      have g1' : decide ((0 : Int) < k) = false := by simp; omega
      have hJ : Hid (joinAt k x li j = false) := by show _ = _; simp [joinAt, hk0]
      clear hk0
      go_wp2
      rw [← Hwj.out]
      go_quiet (fail)
      go_wp2
      go_region_held3 (fun w' => (w'.cell? ⟨wo.heap.size, 0, none⟩ = some (I x.kind) ∧ w'.cell? ⟨wo.heap.size, 1, none⟩ = some (I x.ts) ∧ w'.cell? ⟨wo.heap.size, 2, none⟩ = some (I x.beta) ∧ w'.cell? ⟨wo.heap.size, 3, none⟩ = some (.slice (some ⟨g', o', none⟩) m d) ∧ w'.cell? ⟨wi.heap.size, 0, none⟩ = some (I y.ia)))
       (first | exact HS.out _ ((below_drewN (Below.refl _ _) _).drew) | exact HS.out _ x1 | exact HS.out _ x2 | exact HS.out _ (ext_alloc x2 _) | exact z3 | go_keep)
       (first | (go_at_call 66; refine (HI.out _ ((below_drewN (Below.refl _ _) _).drew)).mono ?_; rintro e w1 ⟨rfl, hb1⟩; have x1 := ext_trans ((below_drewN (Below.refl _ wj) _).drew) hb1) | (go_at_call 65; refine (HE.out _ x1).mono ?_; rintro e w2 ⟨rfl, hb2⟩; have x2 := ext_trans x1 hb2) | (refine step_cat step_flat (.tmp 55) (.tmp 65) et_step ((hOj.out.below x2).alloc _) (lit_one w2 45 (⟨y.ia, vi, vo⟩ : Stp) 1 w2.heap.size (Nat.le_refl _) rfl #[I y.ia, I vi, I vo] (fun _ => rfl)) (by simp; omega) (by simp [maxLen]; omega) (by have := x2.size; have := hbi.size; have := Hsz.out; simp; omega) (by rfl) (by rfl) (by rfl) (by rfl) ?_; intro v3 w3 fp3 hO3 hfp3 hkp3; have z2 := HS.out _ (ext_alloc x2 (.cells #[I y.ia, I vi, I vo] 45)); have z3 := And.intro (hkp3.ck z2.1 Hni.out) (And.intro (hkp3.ck z2.2.1 Hni.out) (And.intro (hkp3.ck z2.2.2.1 Hni.out) (And.intro (hkp3.ck z2.2.2.2.1 Hni.out) (hkp3.ck z2.2.2.2.2 Hni2.out))))))
      have y3 : Below w.heap.size w w3 := (ext_trans hbi (ext_trans hij (ext_alloc x2 _))).trans (hkp3.below (fun b hb => (hOj.out.size_ok b hb).1) (by have := x2.size; have := hbi.size; have := Hsz.out; simp; omega))
      have z4 : wo.heap.size + 1 ≤ w3.heap.size := by have := hkp3.size; have := x2.size; have := Hsz.out; simp at *; omega
      go_wp2
      go_roundw
      case rel =>
       refine ⟨j + 1, by omega, by go_num, y3, z4, ⟨z3.1, z3.2.1, z3.2.2.1, z3.2.2.2.1⟩, fp3, by rw [Hnx.out, addHop_new hJ.out, hopIa_at hyj.out, ← Hvi.out, ← Hvo.out]; exact hO3, fun hm => ?_⟩
       rcases hfp3 _ hm with hm | hm
       ·exact Hni.out hm
       ·have := x2.size; have := Hsz.out; simp at hm; omega
      case measure => simp [intOf]; omega
     ·have g1 : decide (0 < k) = true := by simp; omega
      have g1' : decide ((0 : Int) < k) = true := by simp; omega
      rcases Nat.eq_zero_or_pos j with hj0 | hj0
      ·have g2 : ((j : Int) == 0) = true := by simp; omega
       have g2' : (j == 0) = true := by simp; omega
       rcases Nat.eq_zero_or_pos li.length with hl0 | hl0
       ·have g3 : decide ((1 : Int) ≤ (li.length : Int)) = false := by simp; omega
        have hJ : Hid (joinAt k x li j = false) := by show _ = _; simp [joinAt, hl0]
        clear hj0 hl0 hk0
        go_wp2
        rw [← Hwj.out]
        go_quiet (fail)
        go_wp2
        go_region_held3 (fun w' => (w'.cell? ⟨wo.heap.size, 0, none⟩ = some (I x.kind) ∧ w'.cell? ⟨wo.heap.size, 1, none⟩ = some (I x.ts) ∧ w'.cell? ⟨wo.heap.size, 2, none⟩ = some (I x.beta) ∧ w'.cell? ⟨wo.heap.size, 3, none⟩ = some (.slice (some ⟨g', o', none⟩) m d) ∧ w'.cell? ⟨wi.heap.size, 0, none⟩ = some (I y.ia)))
         (first | exact HS.out _ ((below_drewN (Below.refl _ _) _).drew) | exact HS.out _ x1 | exact HS.out _ x2 | exact HS.out _ (ext_alloc x2 _) | exact z3 | go_keep)
         (first | (go_at_call 66; refine (HI.out _ ((below_drewN (Below.refl _ _) _).drew)).mono ?_; rintro e w1 ⟨rfl, hb1⟩; have x1 := ext_trans ((below_drewN (Below.refl _ wj) _).drew) hb1) | (go_at_call 65; refine (HE.out _ x1).mono ?_; rintro e w2 ⟨rfl, hb2⟩; have x2 := ext_trans x1 hb2) | (refine step_cat step_flat (.tmp 55) (.tmp 65) et_step ((hOj.out.below x2).alloc _) (lit_one w2 45 (⟨y.ia, vi, vo⟩ : Stp) 1 w2.heap.size (Nat.le_refl _) rfl #[I y.ia, I vi, I vo] (fun _ => rfl)) (by simp; omega) (by simp [maxLen]; omega) (by have := x2.size; have := hbi.size; have := Hsz.out; simp; omega) (by rfl) (by rfl) (by rfl) (by rfl) ?_; intro v3 w3 fp3 hO3 hfp3 hkp3; have z2 := HS.out _ (ext_alloc x2 (.cells #[I y.ia, I vi, I vo] 45)); have z3 := And.intro (hkp3.ck z2.1 Hni.out) (And.intro (hkp3.ck z2.2.1 Hni.out) (And.intro (hkp3.ck z2.2.2.1 Hni.out) (And.intro (hkp3.ck z2.2.2.2.1 Hni.out) (hkp3.ck z2.2.2.2.2 Hni2.out))))))
        have y3 : Below w.heap.size w w3 := (ext_trans hbi (ext_trans hij (ext_alloc x2 _))).trans (hkp3.below (fun b hb => (hOj.out.size_ok b hb).1) (by have := x2.size; have := hbi.size; have := Hsz.out; simp; omega))
        have z4 : wo.heap.size + 1 ≤ w3.heap.size := by have := hkp3.size; have := x2.size; have := Hsz.out; simp at *; omega
        go_wp2
        go_roundw
        case rel =>
         refine ⟨j + 1, by omega, by go_num, y3, z4, ⟨z3.1, z3.2.1, z3.2.2.1, z3.2.2.2.1⟩, fp3, by rw [Hnx.out, addHop_new hJ.out, hopIa_at hyj.out, ← Hvi.out, ← Hvo.out]; exact hO3, fun hm => ?_⟩
         rcases hfp3 _ hm with hm | hm
         ·exact Hni.out hm
         ·have := x2.size; have := Hsz.out; simp at hm; omega
        case measure => simp [intOf]; omega
       ·have g3 : decide ((1 : Int) ≤ (li.length : Int)) = true := by simp; omega
        obtain ⟨L, HL⟩ : ∃ L, li.length = L + 1 := ⟨li.length - 1, by omega⟩; obtain ⟨gs, os, qs, sl, es, hgs, hsl, s0, s1, s2⟩ := step_at (k := L) hOi.read (by omega); have hL : lastOf li = sl := lastOf_at (by rw [HL]; exact hsl.out); obtain ⟨ga, ca, ea, hga, hgb, hgc, hgd, hgf⟩ := hOi.addr (by omega); cases ea; cases es; rw [Nat.zero_add] at s0 s1 s2
        have hL2 : L ≤ 1048576 := by omega
        have hL3 : L < L + 1 := Nat.lt_succ_self L; rw [HL] at hOi hOj g3 ⊢; replace s0 := ck hij s0; replace s1 := ck hij s1; replace s2 := ck hij s2
        have t0 : wj.cell? ⟨wi.heap.size, 0, none⟩ = some (I y.ia) := by rw [Hwj.out]; simp
        have HL' := hid HL; cases g4 : (sl.ia == y.ia)
        ·have hJ : Hid (joinAt k x li j = false) := by show _ = _; simp only [joinAt, hL, hopIa_at hyj.out, g4, Bool.and_false]
         clear hj0 hk0 hl0 HL hL
         go_wp2
         rw [← Hwj.out]
         go_quiet (fail)
         go_wp2
         go_region_held3 (fun w' => (w'.cell? ⟨wo.heap.size, 0, none⟩ = some (I x.kind) ∧ w'.cell? ⟨wo.heap.size, 1, none⟩ = some (I x.ts) ∧ w'.cell? ⟨wo.heap.size, 2, none⟩ = some (I x.beta) ∧ w'.cell? ⟨wo.heap.size, 3, none⟩ = some (.slice (some ⟨g', o', none⟩) m d) ∧ w'.cell? ⟨wi.heap.size, 0, none⟩ = some (I y.ia)))
          (first | exact HS.out _ ((below_drewN (Below.refl _ _) _).drew) | exact HS.out _ x1 | exact HS.out _ x2 | exact HS.out _ (ext_alloc x2 _) | exact z3 | go_keep)
          (first | (go_at_call 66; refine (HI.out _ ((below_drewN (Below.refl _ _) _).drew)).mono ?_; rintro e w1 ⟨rfl, hb1⟩; have x1 := ext_trans ((below_drewN (Below.refl _ wj) _).drew) hb1) | (go_at_call 65; refine (HE.out _ x1).mono ?_; rintro e w2 ⟨rfl, hb2⟩; have x2 := ext_trans x1 hb2) | (refine step_cat step_flat (.tmp 55) (.tmp 65) et_step ((hOj.out.below x2).alloc _) (lit_one w2 45 (⟨y.ia, vi, vo⟩ : Stp) 1 w2.heap.size (Nat.le_refl _) rfl #[I y.ia, I vi, I vo] (fun _ => rfl)) (by simp; omega) (by simp [maxLen]; omega) (by have := x2.size; have := hbi.size; have := Hsz.out; simp; omega) (by rfl) (by rfl) (by rfl) (by rfl) ?_; intro v3 w3 fp3 hO3 hfp3 hkp3; have z2 := HS.out _ (ext_alloc x2 (.cells #[I y.ia, I vi, I vo] 45)); have z3 := And.intro (hkp3.ck z2.1 Hni.out) (And.intro (hkp3.ck z2.2.1 Hni.out) (And.intro (hkp3.ck z2.2.2.1 Hni.out) (And.intro (hkp3.ck z2.2.2.2.1 Hni.out) (hkp3.ck z2.2.2.2.2 Hni2.out))))))
         have y3 : Below w.heap.size w w3 := (ext_trans hbi (ext_trans hij (ext_alloc x2 _))).trans (hkp3.below (fun b hb => (hOj.out.size_ok b hb).1) (by have := x2.size; have := hbi.size; have := Hsz.out; simp; omega))
         have z4 : wo.heap.size + 1 ≤ w3.heap.size := by have := hkp3.size; have := x2.size; have := Hsz.out; simp at *; omega
         go_wp2
         go_roundw
         case rel =>
          refine ⟨j + 1, by omega, by go_num, y3, z4, ⟨z3.1, z3.2.1, z3.2.2.1, z3.2.2.2.1⟩, fp3, by rw [Hnx.out, addHop_new hJ.out, hopIa_at hyj.out, ← Hvi.out, ← Hvo.out]; exact hO3, fun hm => ?_⟩
          rcases hfp3 _ hm with hm | hm
          ·exact Hni.out hm
          ·have := x2.size; have := Hsz.out; simp at hm; omega
         case measure => simp [intOf]; omega
        ·have hJ : Hid (joinAt k x li j = true) := by show _ = _; simp only [joinAt, hL, hopIa_at hyj.out, g4]; simp; omega
         have HLa := hid hL; clear hj0 hk0 hl0 HL hL
         go_wp2
         rw [← Hwj.out]
         go_quiet (fail)
         replace q0 := ck hij q0; replace q1 := ck hij q1; replace q2 := ck hij q2; replace q3 := ck hij q3
         go_wp2_with (fail)
         refine (HE.out _ (below_drewN (Below.refl _ _) _)).mono ?_; rintro e w1 ⟨rfl, hb1⟩; have x1 := ext_trans (below_drewN (Below.refl _ wj) _) hb1; have hO1 := hOj.out.below x1; obtain ⟨gb, cb, eb, _, _, _, _, hfz⟩ := hO1.addr (by rw [HL'.out]; omega); rw [HL'.out] at eb; cases eb; have hfz' := hfz (L * 3 + 2); obtain ⟨u2, hu2⟩ : ∃ u, w1.cell? ⟨gs, L * 3 + 2, none⟩ = some u := ⟨_, ck x1 s2⟩; have K2 : Kept fpi wj (w1.setCell ⟨gs, L * 3 + 2, none⟩ (I vo)) := (Kept.of_below x1 fpi).setCell hga (I vo); have HK2 := hid K2; clear K2
         go_wp2
         go_roundw
         case rel =>
          refine ⟨j + 1, by omega, by go_num, (ext_trans hbi hij).trans (HK2.out.below (fun b hb => (hOj.out.size_ok b hb).1) (by have := hbi.size; have := Hsz.out; omega)), Nat.le_trans (by have := Hsz.out; omega) HK2.out.size, ⟨HK2.out.ck q0 Hni.out, HK2.out.ck q1 Hni.out, HK2.out.ck q2 Hni.out, HK2.out.ck q3 Hni.out⟩, fpi, ?_, Hni.out⟩; have := SlO.put (i := L) (j := 2) (a := sl) (a' := { sl with eg := vo }) (u := I vo) hO1 HL'.out.symm (fun _ _ _ _ _ h => h) hsl.out (by show 2 < 3; omega) (fun w cs f hh => step_put2 hh vo); rw [Hnx.out, addHop_join hJ.out, HLa.out, HL'.out, ← Hvo.out]; exact this
         case measure => simp [intOf]; omega
      ·have g2 : ((j : Int) == 0) = false := by simp; omega
       have g2' : (j == 0) = false := by simp; omega
       have hJ : Hid (joinAt k x li j = false) := by show _ = _; simp [joinAt]; omega
       clear hj0 hk0
       go_wp2
       rw [← Hwj.out]
       go_quiet (fail)
       go_wp2
       go_region_held3 (fun w' => (w'.cell? ⟨wo.heap.size, 0, none⟩ = some (I x.kind) ∧ w'.cell? ⟨wo.heap.size, 1, none⟩ = some (I x.ts) ∧ w'.cell? ⟨wo.heap.size, 2, none⟩ = some (I x.beta) ∧ w'.cell? ⟨wo.heap.size, 3, none⟩ = some (.slice (some ⟨g', o', none⟩) m d) ∧ w'.cell? ⟨wi.heap.size, 0, none⟩ = some (I y.ia)))
        (first | exact HS.out _ ((below_drewN (Below.refl _ _) _).drew) | exact HS.out _ x1 | exact HS.out _ x2 | exact HS.out _ (ext_alloc x2 _) | exact z3 | go_keep)
        (first | (go_at_call 66; refine (HI.out _ ((below_drewN (Below.refl _ _) _).drew)).mono ?_; rintro e w1 ⟨rfl, hb1⟩; have x1 := ext_trans ((below_drewN (Below.refl _ wj) _).drew) hb1) | (go_at_call 65; refine (HE.out _ x1).mono ?_; rintro e w2 ⟨rfl, hb2⟩; have x2 := ext_trans x1 hb2) | (refine step_cat step_flat (.tmp 55) (.tmp 65) et_step ((hOj.out.below x2).alloc _) (lit_one w2 45 (⟨y.ia, vi, vo⟩ : Stp) 1 w2.heap.size (Nat.le_refl _) rfl #[I y.ia, I vi, I vo] (fun _ => rfl)) (by simp; omega) (by simp [maxLen]; omega) (by have := x2.size; have := hbi.size; have := Hsz.out; simp; omega) (by rfl) (by rfl) (by rfl) (by rfl) ?_; intro v3 w3 fp3 hO3 hfp3 hkp3; have z2 := HS.out _ (ext_alloc x2 (.cells #[I y.ia, I vi, I vo] 45)); have z3 := And.intro (hkp3.ck z2.1 Hni.out) (And.intro (hkp3.ck z2.2.1 Hni.out) (And.intro (hkp3.ck z2.2.2.1 Hni.out) (And.intro (hkp3.ck z2.2.2.2.1 Hni.out) (hkp3.ck z2.2.2.2.2 Hni2.out))))))
       have y3 : Below w.heap.size w w3 := (ext_trans hbi (ext_trans hij (ext_alloc x2 _))).trans (hkp3.below (fun b hb => (hOj.out.size_ok b hb).1) (by have := x2.size; have := hbi.size; have := Hsz.out; simp; omega))
       have z4 : wo.heap.size + 1 ≤ w3.heap.size := by have := hkp3.size; have := x2.size; have := Hsz.out; simp at *; omega
       go_wp2
       go_roundw
       case rel =>
        refine ⟨j + 1, by omega, by go_num, y3, z4, ⟨z3.1, z3.2.1, z3.2.2.1, z3.2.2.2.1⟩, fp3, by rw [Hnx.out, addHop_new hJ.out, hopIa_at hyj.out, ← Hvi.out, ← Hvo.out]; exact hO3, fun hm => ?_⟩
        rcases hfp3 _ hm with hm | hm
        ·exact Hni.out hm
        ·have := x2.size; have := Hsz.out; simp at hm; omega
       case measure => simp [intOf]; omega
    ·have hjm : j = m := by omega
     subst hjm
     go_wp2
     go_roundw
     case rel => exact ⟨k + 1, by omega, by go_num, hbi, fpi, by rw [hsuc.out]; exact hOi⟩
     case measure => simp [intOf]; omega
  ·have hkn : k = n := by omega
   subst hkn; rw [H.out] at hO; obtain ⟨l, Hl⟩ : ∃ l, Hid (l = rawSteps p p.length) := ⟨_, rfl⟩
   have Hps : Hid (pathSteps p = cutLast (cutFirst l)) := by show _ = _; rw [Hl.out]; rfl
   have hlen : l.length ≤ 1048576 := by rw [Hl.out]; exact Nat.le_trans (rawSteps_bound _ _) Hz.out
   rw [← Hl.out] at hO; obtain ⟨Av, cv, ev, _⟩ := hO.form; subst ev
   rcases Nat.eq_zero_or_pos l.length with hl0 | hl0
   ·have hlz : l = [] := List.length_eq_zero_iff.1 hl0; subst hlz
    go_wp2
    go_ret
    exact ⟨_, fp, rfl, by rw [Hps.out]; exact hO, hb⟩
   ·obtain ⟨L, HL⟩ : ∃ L, l.length = L + 1 := ⟨l.length - 1, by omega⟩
    have hL2 : L ≤ 1048576 := by omega
    obtain ⟨g, ca, ea, hga, hgb, hgc, hgd, hgf⟩ := hO.addr (by omega); cases ea; have f1 := hgf 1; obtain ⟨g1, o1, q1, sf, e1, _, hsf, r0, r1, r2⟩ := step_at (k := 0) hO.read (by omega); cases e1
    simp only [Nat.zero_mul, Nat.zero_add, Nat.add_zero] at r0 r1 r2
    have hO1 := SlO.put (i := 0) (j := 1) (a := sf) (a' := { sf with ing := 0 }) (u := I 0) hO rfl (fun _ _ _ _ _ h => h) hsf.out (by show 1 < 3; omega) (fun w cs f hh => step_put1 hh 0)
    have e2 : l.set 0 { sf with ing := 0 } = cutFirst l := by unfold cutFirst; rw [firstOf_at hsf.out]
    rw [e2] at hO1
    have hcl : (cutFirst l).length = l.length := by unfold cutFirst; simp
    obtain ⟨g2, o2, q2, sg, e2', _, hsg, t0, t1, t2⟩ := step_at (k := L) hO1.read (by omega); rw [hcl] at e2'; cases e2'; have hO2 := SlO.put (i := L) (j := 2) (a := sg) (a' := { sg with eg := 0 }) (u := I 0) hO1 hcl.symm (fun _ _ _ _ _ h => h) hsg.out (by show 2 < 3; omega) (fun w cs f hh => step_put2 hh 0)
    have e3 : (cutFirst l).set L { sg with eg := 0 } = cutLast (cutFirst l) := by
     have hh : (cutFirst l).length - 1 = L := by omega
     unfold cutLast
     rw [lastOf_at (by rw [hh]; exact hsg.out), hh]
    rw [e3, ← Hps.out] at hO2; obtain ⟨g3, c3, e4, _, _, _, _, hf3⟩ := hO1.addr (by omega); rw [hcl] at e4; cases e4; have f2 := hf3 (L * 3 + 2); have HL' := hid HL; rw [HL] at hO hO1 hO2 ⊢; have HO2 := hid hO2; have hb2 := hid ((hb.setCell (p := ⟨g, 0 * stepT.size + 1, none⟩) hgb (I 0)).setCell (p := ⟨g, L * stepT.size + 2, none⟩) hgb (I 0)); clear hl0 HL hO2 hO1 hO e2 e3 hcl
    simp only [show stepT.size = 3 from rfl, Nat.zero_mul, Nat.zero_add] at t0 t1 t2 f2 HO2 hb2
    go_wp2
    go_ret
    exact ⟨_, fp, rfl, HO2.out, hb2.out⟩
/-- A box of three cells, just made, behind a call that came after. -/
theorem nb3 {w w2 : World} {z0 z1 z2 : Value} {t : TypeId} (hb : Below (w.alloc (.cells #[z0, z1, z2] t)).heap.size (w.alloc (.cells #[z0, z1, z2] t)) w2) :
    w2.cell? ⟨w.heap.size, 0, none⟩ = some z0 ∧ w2.cell? ⟨w.heap.size, 1, none⟩ = some z1 ∧ w2.cell? ⟨w.heap.size, 2, none⟩ = some z2 ∧ w2.frozen? ⟨w.heap.size, 0, none⟩ = false ∧ w2.frozen? ⟨w.heap.size, 1, none⟩ = false ∧ w2.frozen? ⟨w.heap.size, 2, none⟩ = false :=
  ⟨ck hb (show (w.alloc (.cells #[z0, z1, z2] t)).cell? ⟨w.heap.size, 0, none⟩ = some z0 by simp), ck hb (show (w.alloc (.cells #[z0, z1, z2] t)).cell? ⟨w.heap.size, 1, none⟩ = some z1 by simp), ck hb (show (w.alloc (.cells #[z0, z1, z2] t)).cell? ⟨w.heap.size, 2, none⟩ = some z2 by simp),
   by rw [hb.frozen (p := ⟨w.heap.size, 0, none⟩) (by simp)]; simp, by rw [hb.frozen (p := ⟨w.heap.size, 1, none⟩) (by simp)]; simp, by rw [hb.frozen (p := ⟨w.heap.size, 2, none⟩) (by simp)]; simp⟩
theorem nb3d {w w2 : World} {z0 z1 z2 : Value} {t : TypeId} (hb : Below (w.drew.alloc (.cells #[z0, z1, z2] t)).heap.size (w.drew.alloc (.cells #[z0, z1, z2] t)) w2) :
    w2.cell? ⟨w.heap.size, 0, none⟩ = some z0 ∧ w2.cell? ⟨w.heap.size, 1, none⟩ = some z1 ∧ w2.cell? ⟨w.heap.size, 2, none⟩ = some z2 ∧ w2.frozen? ⟨w.heap.size, 0, none⟩ = false ∧ w2.frozen? ⟨w.heap.size, 1, none⟩ = false ∧ w2.frozen? ⟨w.heap.size, 2, none⟩ = false := nb3 (w := w.drew) hb
theorem box3 {w2 : World} {g : Nat} {z0 z1 z2 a b c : Value} (h0 : w2.cell? ⟨g, 0, none⟩ = some z0) (h1 : w2.cell? ⟨g, 1, none⟩ = some z1) (h2 : w2.cell? ⟨g, 2, none⟩ = some z2) (h3 : w2.frozen? ⟨g, 1, none⟩ = false) :
    (((w2.setCell ⟨g, 0, none⟩ a).setCell ⟨g, 1, none⟩ b).setCell ⟨g, 2, none⟩ c).cell? ⟨g, 0, none⟩ = some a ∧
    (((w2.setCell ⟨g, 0, none⟩ a).setCell ⟨g, 1, none⟩ b).setCell ⟨g, 2, none⟩ c).cell? ⟨g, 1, none⟩ = some b ∧
    (((w2.setCell ⟨g, 0, none⟩ a).setCell ⟨g, 1, none⟩ b).setCell ⟨g, 2, none⟩ c).cell? ⟨g, 2, none⟩ = some c ∧
    (((w2.setCell ⟨g, 0, none⟩ a).setCell ⟨g, 1, none⟩ b).setCell ⟨g, 2, none⟩ c).frozen? ⟨g, 1, none⟩ = false := by
  have n1 : ∀ i j : Nat, i ≠ j → (⟨g, i, none⟩ : Addr) ≠ ⟨g, j, none⟩ := fun i j h e => h (by injection e)
  refine ⟨?_, ?_, ?_, by simp [h3]⟩
  · rw [World.cell?_setCell_other (h := n1 2 0 (by omega)), World.cell?_setCell_other (h := n1 1 0 (by omega))]
    exact World.cell?_setCell_same (h := h0) ..
  · rw [World.cell?_setCell_other (h := n1 2 1 (by omega))]
    exact World.cell?_setCell_same (h := by rw [World.cell?_setCell_other (h := n1 0 1 (by omega))]; exact h1) ..
  · exact World.cell?_setCell_same (h := by rw [World.cell?_setCell_other (h := n1 1 2 (by omega)), World.cell?_setCell_other (h := n1 0 2 (by omega))]; exact h2) ..
theorem step_put0 {base : Nat} {w : World} {cs : List Value} {s : Stp} {f : List Nat} (h : stepT.O base w cs s f) (v : Int) : stepT.O base w (cs.set 0 (I v)) { s with ia := v } f := by
  have e : cs = [I s.ia, I s.ing, I s.eg] := h.1; subst e; exact ⟨rfl, h.2⟩
/-- A store of a whole step. -/
theorem put3 {base : Nat} {w : World} {g n c : Nat} {l : List Stp} {fp : List Nat} (h : SlO stepT 45 base w (.slice (some ⟨g, 0, none⟩) n c) l fp) (hn : n = l.length) {i : Nat} {s : Stp} (hi : l[i]? = some s) (a b d : Int) :
    SlO stepT 45 base (((w.setCell ⟨g, i * 3, none⟩ (I a)).setCell ⟨g, i * 3 + 1, none⟩ (I b)).setCell ⟨g, i * 3 + 2, none⟩ (I d)) (.slice (some ⟨g, 0, none⟩) n c) (l.set i ⟨a, b, d⟩) fp := by
  have hlt := (List.getElem?_eq_some_iff.1 hi).1; have h1 := SlO.put (i := i) (j := 0) (a := s) (a' := { s with ia := a }) (u := I a) h hn (fun _ _ _ _ _ h => h) hi (by show 0 < 3; omega) (fun w cs f hh => step_put0 hh a); have h2 := SlO.put (i := i) (j := 1) (a := { s with ia := a }) (a' := { s with ia := a, ing := b }) (u := I b) h1 (by simp [hn]) (fun _ _ _ _ _ h => h) (by rw [List.getElem?_set_self hlt]) (by show 1 < 3; omega) (fun w cs f hh => step_put1 hh b); have h3 := SlO.put (i := i) (j := 2) (a := { s with ia := a, ing := b }) (a' := ⟨a, b, d⟩) (u := I d) h2 (by simp [hn]) (fun _ _ _ _ _ h => h) (by rw [List.getElem?_set_self (by simpa using hlt)]) (by show 2 < 3; omega) (fun w cs f hh => step_put2 hh d); rw [List.set_set, List.set_set] at h3; exact h3
set_option maxRecDepth 100000 in
set_option maxHeartbeats 8000000 in
theorem spec_PathSteps (p : Path) (cs : List Value) (w : World) (h : pathT.R w cs p) (hz : sz_path p ≤ 1048576) (hl : lenOk_path p) (hg : rng_path p) :
  Calls Tryz.prog 83 #[.agg cs.toArray] w fun r w' => ∃ v fp, r = .returned v ∧ SlO stepT 45 w.heap.size w' v (pathSteps p) fp ∧ Below w.heap.size w w' := by
 obtain ⟨A, c, rfl, ⟨h, _⟩⟩ := path_form h; obtain ⟨n, H⟩ : ∃ n, Hid (n = p.length) := ⟨_, rfl⟩
 have hn : n ≤ 1048576 := by rw [H.out]; have : sz_path p = List.length p + (p.map sz_part).sum := rfl; omega
 have Hz := hid hz; clear hz hl hg; rw [← H.out] at h ⊢; have hb0 : Below w.heap.size w ((w.alloc (.cells #[.slice A n c] 38)).alloc (.cells #[] 45)) := ext_alloc (ext_alloc1 _ _) _
 have P0 : Hid (((w.alloc (.cells #[.slice A n c] 38)).alloc (.cells #[] 45)).cell? ⟨w.heap.size, 0, none⟩ = some (.slice A n c)) := by show _ = _; simp
 have hE : SlO stepT 45 (w.heap.size + 1) ((w.alloc (.cells #[.slice A n c] 38)).alloc (.cells #[] 45)) (.slice (some ⟨w.heap.size + 1, 0, none⟩) 0 0) [] [w.heap.size + 1] := by
  have := SlO.empty stepT 45 (w.alloc (.cells #[.slice A n c] 38))
  simpa using this
 have HE := hid hE; clear hE
 go_enter Tryz.func83, Tryz.ntmps83
 go_wp2
 go_loopw [3, 4] (fun v i wr => ∃ k : Nat, k ≤ n ∧ i = I k ∧ Below w.heap.size w wr ∧ w.heap.size + 1 ≤ wr.heap.size ∧ wr.cell? ⟨w.heap.size, 0, none⟩ = some (.slice A n c) ∧ ∃ fp, SlO stepT 45 (w.heap.size + 1) wr v (rawSteps p k) fp) (fun _ i _ => n - (intOf i).toNat)
 case atStart => exact ⟨0, by omega, rfl, hb0, by simp, P0.out, _, HE.out⟩
 case round =>
  obtain ⟨k, hk, rfl, hb, hs1, p0, fp, hO⟩ := hrel; clear hb0 P0 HE; obtain ⟨wo, rfl⟩ : ∃ wo : World, wo = wr := ⟨_, rfl⟩
  by_cases hlt : k < n
  ·obtain ⟨g, o, q, x, B, d, e, hg, hxk, hin, hd, c0, c1, c2, c3⟩ := part_at h (by rw [← H.out]; exact hlt); rw [← H.out] at e; cases e; have hm2 : x.hops.length ≤ 1048576 := Nat.le_trans (hops_le_path (List.mem_of_getElem? hxk.out)) Hz.out; obtain ⟨m, Hm⟩ : ∃ m, Hid (m = x.hops.length) := ⟨_, rfl⟩; rw [← Hm.out] at hin hd hm2 c3
   have Hbd : Hid (∀ j, j ≤ m → (hopsTo k x (rawSteps p k) j).length ≤ 1048576) := fun j hj => Nat.le_trans (hopsTo_bound hxk.out (by rw [← Hm.out]; exact hj)) Hz.out
   have hsuc : Hid (rawSteps p (k + 1) = hopsTo k x (rawSteps p k) m) := by show _ = _; rw [Hm.out]; exact rawSteps_succ hxk.out
   obtain ⟨l0, Hl0⟩ : ∃ l0, Hid (l0 = rawSteps p k) := ⟨_, rfl⟩; rw [← Hl0.out] at hO hsuc Hbd; have C0 := hid c0; have C1 := hid c1; have C2 := hid c2; have C3 := hid c3; clear c0 c1 c2 c3; have HO := hid hO; clear hO
   go_wp2
   go_loopw [3, 5] (fun v i wr => ∃ j : Nat, j ≤ m ∧ i = I j ∧ Below w.heap.size w wr ∧ w.heap.size + 1 ≤ wr.heap.size ∧ wr.cell? ⟨w.heap.size, 0, none⟩ = some (.slice (some ⟨g, o, none⟩) n c) ∧ ∃ fp, SlO stepT 45 (w.heap.size + 1) wr v (hopsTo k x l0 j) fp) (fun _ i _ => m - (intOf i).toNat)
   case atStart => exact ⟨0, by omega, rfl, hb, hs1, p0, fp, HO.out⟩
   case round =>
    obtain ⟨j, hj, rfl, hbi, hs2, q0, fpi, hOi⟩ := hrel; clear HO p0 hb hs1; obtain ⟨wi, rfl⟩ : ∃ wi : World, wi = wr := ⟨_, rfl⟩; have d3 := ck hbi C3.out
    by_cases hjl : j < m
    ·obtain ⟨g', o', q', y, e', hg', hyj, b0, b1, b2, b3, b4⟩ := hop_at hin (by rw [← Hm.out]; exact hjl); rw [← Hm.out] at e'; cases e'
     have HS : Hid (∀ w', Below wi.heap.size wi w' → (w'.cell? ⟨w.heap.size, 0, none⟩ = some (.slice (some ⟨g, o, none⟩) n c) ∧ w'.cell? ⟨g, o + k * 4, none⟩ = some (I x.kind) ∧ w'.cell? ⟨g, o + k * 4 + 1, none⟩ = some (I x.ts) ∧ w'.cell? ⟨g, o + k * 4 + 2, none⟩ = some (I x.beta) ∧ w'.cell? ⟨g, o + k * 4 + 3, none⟩ = some (.slice (some ⟨g', o', none⟩) m d) ∧ w'.cell? ⟨g', o' + j * 5, none⟩ = some (I y.ia))) := fun w' hw => by
      have hx := ext_trans hbi hw; exact ⟨ck hw q0, ck hx C0.out, ck hx C1.out, ck hx C2.out, ck hw d3, ck hx b0⟩
     clear b0 b1 b2 b3 b4; obtain ⟨li, Hli⟩ : ∃ li, Hid (li = hopsTo k x l0 j) := ⟨_, rfl⟩
     have hlen : li.length ≤ 1048576 := by rw [Hli.out]; exact Hbd.out j hj
     have Hnx : Hid (hopsTo k x l0 (j + 1) = addHop k x li j) := by show _ = _; rw [hopsTo_succ, Hli.out]
     rw [← Hli.out] at hOi; obtain ⟨Av, cv, ev, _⟩ := hOi.form; subst ev
     have hR : ∀ w' : World, Below wi.heap.size wi w' → partT.R w' [I x.kind, I x.ts, I x.beta, .slice (some ⟨g', o', none⟩) m d] x := fun w' hw => by
      have := part_mk (d := x) (A3 := some ⟨g', o', none⟩) (cA3 := d) (w := w') (by rw [← Hm.out]; exact hin.below (ext_trans hbi hw)); rw [← Hm.out] at this; exact this
     obtain ⟨vi, Hvi⟩ : ∃ vi, Hid (vi = partIn x j) := ⟨_, rfl⟩; obtain ⟨vo, Hvo⟩ : ∃ vo, Hid (vo = partOut x j) := ⟨_, rfl⟩
     have HI : Hid (∀ w', Below wi.heap.size wi w' → Calls Tryz.prog 127 #[.agg #[I x.kind, I x.ts, I x.beta, .slice (some ⟨g', o', none⟩) m d], I j] w' fun e w'' => e = .returned (I vi) ∧ Below w'.heap.size w' w'') := fun w' hw => by
      have := spec_PartIngress x _ j w' (hR w' hw) (by rw [← Hm.out]; exact hm2) (by omega); rw [Int.toNat_natCast, ← Hvi.out] at this; exact this
     have HE : Hid (∀ w', Below wi.heap.size wi w' → Calls Tryz.prog 128 #[.agg #[I x.kind, I x.ts, I x.beta, .slice (some ⟨g', o', none⟩) m d], I j] w' fun e w'' => e = .returned (I vo) ∧ Below w'.heap.size w' w'') := fun w' hw => by
      have := spec_PartEgress x _ j w' (hR w' hw) (by rw [← Hm.out]; exact hm2) (by omega); rw [Int.toNat_natCast, ← Hvo.out] at this; exact this
     clear hR
     go_upto_region 8 with fail
     go_cut [6] (fun s6 wx => ∃ g6, s6 = .pointer (some ⟨g6, 0, none⟩) ∧ wi.heap.size ≤ g6 ∧ Below wi.heap.size wi wx ∧ wx.cell? ⟨g6, 0, none⟩ = some (I y.ia) ∧ wx.cell? ⟨g6, 1, none⟩ = some (I vi) ∧ wx.cell? ⟨g6, 2, none⟩ = some (I vo) ∧ wx.frozen? ⟨g6, 1, none⟩ = false)
     case first =>
      go_region_held3 (fun w' => w'.cell? ⟨w.heap.size, 0, none⟩ = some (.slice (some ⟨g, o, none⟩) n c) ∧ w'.cell? ⟨g, o + k * 4, none⟩ = some (I x.kind) ∧ w'.cell? ⟨g, o + k * 4 + 1, none⟩ = some (I x.ts) ∧ w'.cell? ⟨g, o + k * 4 + 2, none⟩ = some (I x.beta) ∧ w'.cell? ⟨g, o + k * 4 + 3, none⟩ = some (.slice (some ⟨g', o', none⟩) m d) ∧ w'.cell? ⟨g', o' + j * 5, none⟩ = some (I y.ia))
       (first | exact HS.out _ x2 | exact HS.out _ x1 | exact HS.out _ (Below.refl _ _).drew | exact HS.out _ (ext_alloc x2 _) | exact HS.out _ (ext_alloc x1 _) | exact HS.out _ (ext_alloc (Below.refl _ _).drew _) | exact HS.out _ (below_set (below_set (below_set x2 x1.size _) x1.size _) x1.size _) | exact HS.out _ (below_set (below_set (below_set x2 (Nat.le_refl _) _) (Nat.le_refl _) _) (Nat.le_refl _) _) | go_keep | (trace_state; fail))
       (first
        | (go_at_call 127; refine (HI.out _ ?_).mono ?_; (first | exact (Below.refl _ _).drew | exact ext_alloc (Below.refl _ _).drew _); rintro e w1 ⟨rfl, hb1⟩; have x1 : Below wi.heap.size wi w1 := (by (first | exact ext_trans (Below.refl _ wi).drew hb1 | exact ext_trans (ext_alloc (Below.refl _ wi).drew _) hb1)))
        | (go_at_call 128; refine (HE.out _ ?_).mono ?_; (first | exact x1 | exact ext_alloc x1 _); rintro e w2 ⟨rfl, hb2⟩; have x2 : Below wi.heap.size wi w2 := (by (first | exact ext_trans x1 hb2 | exact ext_trans (ext_alloc x1 _) hb2)); (first | (have T := nb3 hb2; obtain ⟨t0, t1, t2, t3, t4, t5⟩ := T) | (have T := nb3d (ext_trans hb1 hb2); obtain ⟨t0, t1, t2, t3, t4, t5⟩ := T) | skip)))
      all_goals (go_wp2_with fail; go_meet)
      all_goals (first
       | exact ⟨_, rfl, x2.size, ext_alloc x2 _, by simp, by simp, by simp, by simp⟩
       | exact ⟨_, rfl, x1.size, below_set (below_set (below_set x2 x1.size _) x1.size _) x1.size _, box3 t0 t1 t2 t4⟩
       | exact ⟨wi.heap.size, rfl, Nat.le_refl _, below_set (below_set (below_set x2 (Nat.le_refl _) _) (Nat.le_refl _) _) (Nat.le_refl _) _, box3 t0 t1 t2 t4⟩
       | trace_state)
     case rest =>
      obtain ⟨g6, rfl, hg6, hbc, t0, t1, t2, tf⟩ := hcut; have hOc := hOi.below hbc; have Hq0 := hid (ck hbc q0); have Hd3 := hid (ck hbc d3); have hwc := hbc.size
      have Hlo := hid fun b hb => (hOi.size_ok b hb).1
      have hgn : Hid (g6 ∉ fpi) := fun hm => by have := (hOi.size_ok _ hm).2; omega
      have Hxc := hid (ext_trans hbi hbc); have hlt6 : g6 < wc.heap.size := World.block_lt_of_cell? wc _ t0; clear HS HI HE q0 d3 hbi hOi; obtain ⟨wq, rfl⟩ : ∃ wq : World, wq = wc := ⟨_, rfl⟩
      go_upto_region 10 with fail
      go_cut [3, 7, 76] (fun s3 s7 s76 wx => s3 = .slice Av li.length cv ∧ s7 = I (li.length : Int) ∧ s76 = .bool (joinAt k x li j) ∧ ∃ nn, wx = wq.drewN nn)
      case first =>
       rcases Nat.eq_zero_or_pos k with hk0 | hk0
       ·have g1 : decide (0 < k) = false := by simp; omega
        have g1' : decide ((0 : Int) < k) = false := by simp; omega
        have hJ : Hid (joinAt k x li j = false) := by show _ = _; simp [joinAt, hk0]
        clear hk0
        go_quiet (fail)
        go_wp2_with fail
        go_meet
        exact ⟨rfl, rfl, by rw [hJ.out], _, rfl⟩
       ·have g1 : decide (0 < k) = true := by simp; omega
        have g1' : decide ((0 : Int) < k) = true := by simp; omega
        rcases Nat.eq_zero_or_pos j with hj0 | hj0
        ·have g2 : ((j : Int) == 0) = true := by simp; omega
         have g2' : (j == 0) = true := by simp; omega
         rcases Nat.eq_zero_or_pos li.length with hl0 | hl0
         ·have g3 : decide ((0 : Int) < (li.length : Int)) = false := decide_eq_false (by omega); have g3' : decide (0 < li.length) = false := decide_eq_false (by omega)
          have hJ : Hid (joinAt k x li j = false) := by show _ = _; simp [joinAt, hl0]
          clear hj0 hl0 hk0
          go_quiet (fail)
          go_wp2_with fail
          go_meet
          exact ⟨rfl, rfl, by rw [hJ.out], _, rfl⟩
         ·obtain ⟨L, HL⟩ : ∃ L, li.length = L + 1 := ⟨li.length - 1, by omega⟩; obtain ⟨gs, os, qs, sl, es, hgs, hsl, s0, s1, s2⟩ := step_at (k := L) hOc.read (by omega); have hL : lastOf li = sl := lastOf_at (by rw [HL]; exact hsl.out); cases es; have g3 : decide ((0 : Int) < ((L + 1 : Nat) : Int)) = true := decide_eq_true (by omega)
          have g3' : decide (0 < L + 1) = true := by simp
          have hL2 : L ≤ 1048576 := by omega
          have hL3 : L < L + 1 := Nat.lt_succ_self L; rw [HL] at hOc ⊢
          have hJ : Hid (joinAt k x li j = (sl.ia == y.ia)) := by show _ = _; simp only [joinAt, hL, hopIa_at hyj.out, HL]; simp [hk0, hj0]
          have HL' := hid HL; clear hj0 hk0 hl0 HL hL
          go_quiet (fail)
          go_wp2_with fail
          go_meet
          exact ⟨by rw [HL'.out], by rw [HL'.out], by rw [hJ.out], _, rfl⟩
        ·have g2 : ((j : Int) == 0) = false := by simp; omega
         have g2' : (j == 0) = false := by simp; omega
         have hJ : Hid (joinAt k x li j = false) := by show _ = _; simp [joinAt]; omega
         clear hj0 hk0
         go_quiet (fail)
         go_wp2_with fail
         go_meet
         exact ⟨rfl, rfl, by rw [hJ.out], _, rfl⟩
      case rest =>
       obtain ⟨rfl, rfl, rfl, nn, rfl⟩ := hcut; cases hJ : joinAt k x li j
       ·have HJ := hid hJ; clear hJ
        go_wp2_with ((at_builtin; refine wpList_cat step_flat (.tmp 88) (.tmp 90) et_step (SlO.alloc (hOc.drewN nn) _) (lit_one (wq.drewN nn) 45 (⟨y.ia, vi, vo⟩ : Stp) 1 wq.heap.size (Nat.le_refl _) rfl #[I y.ia, I vi, I vo] (fun _ => rfl)) ?_ ?_ ?_ rfl rfl rfl rfl ?_))
        ·simp; omega
        ·simp [maxLen]; omega
        ·have := Hxc.out.size; simp; omega
        ·intro v1 w1 fp1 hO1 hfp1 hkp1; have hq := Hxc.out.size; have x1 : Below w.heap.size w w1 := (ext_alloc (below_drewN Hxc.out nn) _).trans (hkp1.below (fun b hb => by have := Hlo.out b hb; omega) (by simp; omega)); have pc := hkp1.ck (ck (ext_alloc1 _ _) (ck (below_drewN (Below.refl _ _) nn) Hq0.out)) (fun hm => by have := Hlo.out _ hm; omega)
         have z1 : w.heap.size + 1 ≤ w1.heap.size := by have := hkp1.size; simp at this; omega
         go_wp2
         go_roundw
         case rel => exact ⟨j + 1, by omega, by go_num, x1, z1, pc, fp1, by rw [Hnx.out, addHop_new HJ.out, hopIa_at hyj.out, ← Hvi.out, ← Hvo.out]; exact hO1⟩
         case measure => simp [intOf]; omega
       ·obtain ⟨hk0, hj0, hl0, hia⟩ : 0 < k ∧ j = 0 ∧ 0 < li.length ∧ (lastOf li).ia = hopIa x j := by
         have := hJ
         unfold joinAt at this
         simp only [Bool.and_eq_true, decide_eq_true_eq, beq_iff_eq] at this
         exact this
        obtain ⟨L, HL⟩ : ∃ L, li.length = L + 1 := ⟨li.length - 1, by omega⟩; obtain ⟨gs, os, qs, sl, es, hgs, hsl, s0, s1, s2⟩ := step_at (k := L) hOc.read (by omega); have hL : lastOf li = sl := lastOf_at (by rw [HL]; exact hsl.out); obtain ⟨ga, ca, ea, hga, hgb, hgc, hgd, hgf⟩ := hOc.addr (by omega); cases ea; cases es; rw [Nat.zero_add] at s0 s1 s2
        have hcv : L ≤ cv := by omega
        rw [hL, hopIa_at hyj.out] at hia
        have Hfin : Hid (li.take L ++ [(⟨y.ia, sl.ing, vo⟩ : Stp)] = addHop k x li j) := by
         show _ = _
         rw [addHop_join hJ, hL, ← Hvo.out]; have e := take_set li { sl with eg := vo } (by omega); rw [HL] at e ⊢
         simp only [Nat.add_sub_cancel] at e ⊢
         rw [← e, ← hia]
        have hT : (li.take L).length = L := by rw [List.length_take]; omega
        have HL' := hid HL
        have hL2 : L ≤ 1048576 := by omega
        have hL3 : L < L + 1 := Nat.lt_succ_self L; have HJ := hid hJ
        have hne : g6 ≠ gs := fun e => hgn.out (e ▸ hga)
        rw [HL] at hOc ⊢; have hOs : SlO stepT 45 (w.heap.size + 1) ((wq.drewN nn).setCell ⟨g6, 1, none⟩ (I sl.ing)) (.slice (some ⟨gs, 0, none⟩) (L + 1) cv) li fpi := (hOc.drewN nn).kept ((Kept.refl [g6] _).setCell (p := ⟨g6, 1, none⟩) (by simp) _) (fun b hb hm => hgn.out (by simp at hm; rw [hm] at hb; exact hb)); obtain ⟨fpc, hOx, hsub⟩ := hOs.cut (m := L) HL'.out.symm (by omega); have HOx := hid hOx; have Hsub := hid hsub; clear hJ hj0 hk0 hl0 HL hL hia hOs hOx hsub hgf hgc hgb
        go_wp2_with ((at_builtin; refine wpList_cat step_flat (.tmp 88) (.tmp 90) et_step (SlO.alloc HOx.out _) (lit_one ((wq.drewN nn).setCell ⟨g6, 1, none⟩ (I sl.ing)) 45 (⟨y.ia, sl.ing, vo⟩ : Stp) 1 wq.heap.size (Nat.le_refl _) (by simp) #[I y.ia, I sl.ing, I vo] (fun _ => rfl)) ?_ ?_ ?_ rfl rfl rfl rfl ?_))
        ·rw [hT]; simp; omega
        ·rw [hT]; simp [maxLen]; omega
        ·have := Hxc.out.size; simp; omega
        ·intro v1 w1 fp1 hO1 hfp1 hkp1; have hq := Hxc.out.size; have x1 : Below w.heap.size w w1 := (ext_alloc (ext_set (below_drewN Hxc.out nn) (by omega) _) _).trans (hkp1.below (fun b hb => by have := Hlo.out b (Hsub.out b hb); omega) (by simp; omega)); have pc := hkp1.ck (ck (ext_alloc1 _ _) (((Kept.refl [g6] (wq.drewN nn)).setCell (p := ⟨g6, 1, none⟩) (by simp) (I sl.ing)).ck (ck (below_drewN (Below.refl _ _) nn) Hq0.out) (by simp; omega))) (fun hm => by have := Hlo.out _ (Hsub.out _ hm); omega)
         have z1 : w.heap.size + 1 ≤ w1.heap.size := by have := hkp1.size; simp at this; omega
         go_wp2
         go_roundw
         case rel => exact ⟨j + 1, by omega, by go_num, x1, z1, pc, fp1, by rw [Hnx.out, ← Hfin.out]; exact hO1⟩
         case measure => simp [intOf]; omega
    ·have hjm : j = m := by omega
     subst hjm
     go_wp2
     go_roundw
     case rel => exact ⟨k + 1, by omega, by go_num, hbi, hs2, q0, fpi, by rw [hsuc.out]; exact hOi⟩
     case measure => simp [intOf]; omega
  ·have hkn : k = n := by omega
   subst hkn; rw [H.out] at hO; obtain ⟨l, Hl⟩ : ∃ l, Hid (l = rawSteps p p.length) := ⟨_, rfl⟩
   have Hps : Hid (pathSteps p = cutLast (cutFirst l)) := by show _ = _; rw [Hl.out]; rfl
   have hlen : l.length ≤ 1048576 := by rw [Hl.out]; exact Nat.le_trans (rawSteps_bound _ _) Hz.out
   rw [← Hl.out] at hO; obtain ⟨Av, cv, ev, _⟩ := hO.form; subst ev
   rcases Nat.eq_zero_or_pos l.length with hl0 | hl0
   ·have hlz : l = [] := List.length_eq_zero_iff.1 hl0; subst hlz
    go_wp2
    go_ret
    exact ⟨_, fp, rfl, by rw [Hps.out]; exact hO.mono (by omega), hb⟩
   ·obtain ⟨L, HL⟩ : ∃ L, l.length = L + 1 := ⟨l.length - 1, by omega⟩
    have hL2 : L ≤ 1048576 := by omega
    obtain ⟨g, ca, ea, hga, hgb, hgc, hgd, hgf⟩ := hO.addr (by omega); cases ea; have f0 := hgf 0; have f1 := hgf 1; have f2 := hgf 2; obtain ⟨g1, o1, q1, sf, e1, _, hsf, r0, r1, r2⟩ := step_at (k := 0) hO.read (by omega); cases e1
    simp only [Nat.zero_mul, Nat.zero_add, Nat.add_zero] at r0 r1 r2
    have hO1 := put3 (i := 0) hO rfl hsf.out sf.ia 0 sf.eg
    simp only [Nat.zero_mul, Nat.zero_add] at hO1
    have e2 : l.set 0 (⟨sf.ia, 0, sf.eg⟩ : Stp) = cutFirst l := by unfold cutFirst; rw [firstOf_at hsf.out]
    rw [e2] at hO1
    have hcl : (cutFirst l).length = l.length := by unfold cutFirst; simp
    obtain ⟨W1, HW1⟩ : ∃ W1, Hid (W1 = ((wo.setCell ⟨g, 0, none⟩ (I sf.ia)).setCell ⟨g, 1, none⟩ (I 0)).setCell ⟨g, 2, none⟩ (I sf.eg)) := ⟨_, rfl⟩; rw [← HW1.out] at hO1
    have hgw : w.heap.size ≤ g := by omega
    have X1 : Below w.heap.size w W1 := by rw [HW1.out]; exact ext_set (ext_set (ext_set hb hgw _) hgw _) hgw _
    obtain ⟨g2, o2, q2, sg, e2', _, hsg, t0, t1, t2⟩ := step_at (k := L) hO1.read (by omega); rw [hcl] at e2'; cases e2'; rw [Nat.zero_add] at t0 t1 t2; have hO2 := put3 (i := L) hO1 hcl.symm hsg.out sg.ia sg.ing 0
    have e3 : (cutFirst l).set L (⟨sg.ia, sg.ing, 0⟩ : Stp) = cutLast (cutFirst l) := by
     have hh : (cutFirst l).length - 1 = L := by omega
     unfold cutLast
     rw [lastOf_at (by rw [hh]; exact hsg.out), hh]
    rw [e3, ← Hps.out] at hO2; obtain ⟨g3, c3, e4, _, _, _, hg3, hf3⟩ := hO1.addr (by omega); rw [hcl] at e4; cases e4; have k0 := hf3 (L * 3); have k1 := hf3 (L * 3 + 1); have k2 := hf3 (L * 3 + 2); have hgW : g < W1.heap.size := World.block_lt_of_cell? W1 _ t0; have hX2 := hid (ext_set (ext_set (ext_set X1 hgw (j := L * 3) (I sg.ia)) hgw (j := L * 3 + 1) (I sg.ing)) hgw (j := L * 3 + 2) (I 0)); rw [HL] at hO hO1 hO2 ⊢; have HO2 := hid (hO2.mono (base' := w.heap.size) (by omega)); clear hO2 hO1 hO e2 e3 hl0
    go_upto_region 18 with fail
    rw [← HW1.out]; clear r0 r1 r2 f0 f1 f2 hgf hf3
    go_wp2
    go_ret
    refine ⟨_, fp, rfl, ?_, ?_⟩
    ·exact (HO2.out.alloc _).alloc _
    ·exact ext_alloc (ext_alloc hX2.out _) _
end Go.Proofs.YtljkgpembicloaaGreat
