/- The engine: writing into the elements of a slice of one's own; an element's inner data. -/
import Derived.Test.YtfgobdejlfojiaaRun
namespace Go.Proofs.Ytfgobdejlfojiaa
open Go.RowKit
set_option linter.unusedVariables false

/-- A store into one cell of one element of an owned slice, whatever its elements lead to. -/
theorem SlO.put2 {α : Type} {T : Ty α} {e base : Nat} {w : World} {g n c : Nat} {l : List α} {fp : List Nat} (h : SlO T e base w (.slice (some ⟨g, 0, none⟩) n c) l fp) (hn : n = l.length) {i j : Nat} {a : α} (hi : l[i]? = some a) (hj : j < T.size) {u : Value} {a' : α}
    (hc : ∀ w cs f, T.O base w cs a f → T.O base w (cs.set j u) a' f) : SlO T e base (w.setCell ⟨g, i * T.size + j, none⟩ u) (.slice (some ⟨g, 0, none⟩) n c) (l.set i a') fp := by
  subst hn
  obtain ⟨css, fps, h1, h2, h3, h4, h5, h6⟩ := h
  have hlt : i < l.length := (List.getElem?_eq_some_iff.1 hi).1
  have hall : ∀ (i : Nat) cs, css[i]? = some cs → cs.length = T.size := fun i cs hi => by
    have hl : i < css.length := (List.getElem?_eq_some_iff.1 hi).1
    exact T.len _ _ _ (T.read _ _ _ _ _ (h4 i cs _ _ hi (List.getElem?_eq_getElem (by omega)) (List.getElem?_eq_getElem (by omega))))
  have hk : css[i]? = some (css[i]'(by omega)) := List.getElem?_eq_getElem (by omega)
  have hg : g ∉ fps.flatten := by
    rw [h5] at h6
    simp only [Value.ownBlock, Option.toList_some, List.singleton_append, List.nodup_cons] at h6
    exact h6.1
  have hmv : ∀ k cs x f, fps[k]? = some f → T.O base w cs x f → T.O base (w.setCell ⟨g, i * T.size + j, none⟩ u) cs x f := fun k cs x f hf hO =>
    T.okeep _ _ _ _ _ _ hO fun y hy => far_set (fun e => hg (e ▸ List.mem_flatten.2 ⟨f, List.mem_of_getElem? hf, hy⟩))
  refine ⟨css.set i ((css[i]'(by omega)).set j u), fps, by simp [h1], by simp [h2], ?_, ?_, h5, h6⟩
  · rw [List.length_set, ← flatten_set hall i _ hk j hj u]
    exact own_set h3 _ _
  · intro k cs x f hk' hx hf
    by_cases hki : k = i
    · subst hki
      rw [List.getElem?_set_self (by omega)] at hk' hx
      injection hk' with hk'
      injection hx with hx
      subst hk' hx
      exact hc _ _ _ (hmv k _ _ _ hf (h4 k _ _ _ hk hi hf))
    · rw [List.getElem?_set_ne (by omega)] at hk' hx
      exact hmv k _ _ _ hf (h4 k _ _ _ hk' hx hf)

theorem flat_apart {fps : List (List Nat)} (h : fps.flatten.Nodup) : ∀ (i j : Nat) f g, i < j → fps[i]? = some f → fps[j]? = some g → ∀ x ∈ f, x ∉ g := by
  induction fps with
  | nil => intro i j f g _ hi; simp at hi
  | cons a t ih =>
    rw [List.flatten_cons, List.nodup_append] at h
    obtain ⟨h1, h2, h3⟩ := h
    intro i j f g hij hi hj x hx hg
    cases j with
    | zero => omega
    | succ j =>
      simp at hj
      cases i with
      | zero =>
        simp at hi
        subst hi
        exact h3 x hx x (List.mem_flatten.2 ⟨g, List.mem_of_getElem? hj, hg⟩) rfl
      | succ i =>
        simp at hi
        exact ih h2 i j f g (by omega) hi hj x hx hg

/-- An element of an owned slice: its cells, its own blocks, and how the slice stands when these alone have been written. -/
theorem SlO.focus {α : Type} {T : Ty α} {e base : Nat} {w : World} {g n c : Nat} {l : List α} {fp : List Nat} (h : SlO T e base w (.slice (some ⟨g, 0, none⟩) n c) l fp) {i : Nat} {a : α} (hi : l[i]? = some a) :
    ∃ cs f, T.O base w cs a f ∧ (∀ x ∈ f, x ∈ fp) ∧ (∀ j u, cs[j]? = some u → w.cell? ⟨g, i * T.size + j, none⟩ = some u) ∧
      ∀ w' a', T.O base w' cs a' f → Kept f w w' → SlO T e base w' (.slice (some ⟨g, 0, none⟩) n c) (l.set i a') fp := by
  obtain ⟨css, fps, h1, h2, h3, h4, h5, h6⟩ := h
  have hlt : i < l.length := (List.getElem?_eq_some_iff.1 hi).1
  have hall : ∀ (i : Nat) cs, css[i]? = some cs → cs.length = T.size := fun i cs hi => by
    have hl : i < css.length := (List.getElem?_eq_some_iff.1 hi).1
    exact T.len _ _ _ (T.read _ _ _ _ _ (h4 i cs _ _ hi (List.getElem?_eq_getElem (by omega)) (List.getElem?_eq_getElem (by omega))))
  have hk : css[i]? = some (css[i]'(by omega)) := List.getElem?_eq_getElem (by omega)
  have hf : fps[i]? = some (fps[i]'(by omega)) := List.getElem?_eq_getElem (by omega)
  have hnd := h6
  rw [h5] at hnd
  simp only [Value.ownBlock, Option.toList_some, List.singleton_append, List.nodup_cons] at hnd
  have hin : ∀ (k : Nat) f, fps[k]? = some f → ∀ x ∈ f, x ∈ fps.flatten := fun k f hk x hx => List.mem_flatten.2 ⟨f, List.mem_of_getElem? hk, hx⟩
  have hdis : ∀ (k : Nat) f, fps[k]? = some f → k ≠ i → ∀ x ∈ f, x ∉ (fps[i]'(by omega)) := by
    intro k f hkf hne x hx hxi
    rcases Nat.lt_or_ge k i with hlt' | hge
    · exact flat_apart hnd.2 k i _ _ hlt' hkf hf x hx hxi
    · exact flat_apart hnd.2 i k _ _ (by omega) hf hkf x hxi hx
  refine ⟨_, _, h4 i _ _ _ hk hi hf, fun x hx => by rw [h5]; exact List.mem_append.2 (.inr (hin i _ hf x hx)), fun j u hu => ?_, fun w' a' hO hK => ?_⟩
  · have hj : j < T.size := by rw [← hall i _ hk]; exact (List.getElem?_eq_some_iff.1 hu).1
    have hfl := flatten_at hall i _ hk j hj
    have hc := h3.cells (g := g) rfl (i * T.size + j) u (by rw [hfl]; exact hu)
    simpa [Addr.add_lit] using hc
  · refine ⟨css, fps, by simp [h1], by simp [h2], ?_, ?_, h5, h6⟩
    · rw [List.length_set]
      refine ⟨h3.1, ?_⟩
      rcases h3.2 with hn | ⟨g', cap, cur, hv, hb, hgg, rest⟩
      · exact .inl hn
      · cases hv
        refine .inr ⟨g, c, cur, rfl, hb, ?_, rest⟩
        rw [hK.block g (Array.getElem?_eq_some_iff.1 hgg).1 (fun hx => hnd.1 (hin i _ hf g hx))]
        exact hgg
    · intro k cs x f hk' hx hkf
      by_cases hki : k = i
      · subst hki
        rw [List.getElem?_set_self (by omega)] at hx
        rw [hk] at hk'
        rw [hf] at hkf
        injection hk' with hk'
        injection hx with hx
        injection hkf with hkf
        subst hk' hx hkf
        exact hO
      · rw [List.getElem?_set_ne (by omega)] at hx
        have hO' := h4 k cs x f hk' hx hkf
        exact T.okeep _ _ _ _ _ _ hO' fun y hy => hK.block y (T.lt _ _ _ _ _ hO' y hy).2 (hdis k f hkf hki y hy)

section
variable {P : Program} {n : Nat} {ops : Array Oper} {Q : Exit → Act → World → Prop} {L : Frm} {w w0 : World} {m : Md} {r : IT} {d : Nat} {ty : TypeId} {pos : String} {af : Array Edge} {b : Nat} {os : List Ow}

theorem Sep.addr {α : Type} {T : Ty α} {e : TypeId} {v : Value} {l : List α} (S : Sep b w (slO T e v l :: os)) (hp : 0 < l.length) : ∃ g c, v = .slice (some ⟨g, 0, none⟩) l.length c := by
  obtain ⟨fp, h⟩ := S.head
  obtain ⟨g, c, h1, _⟩ := SlO.addr h hp
  exact ⟨g, c, h1⟩

/-- The address of an element of a slice whose address is known. -/
theorem t_idxx {t e : TypeId} {size bytes : Nat} (et : ElemT P t e size bytes) {g k nn c a : Nat} {i : Int} {xo io : Operand} (hx : ev L xo = some (.slice (some ⟨g, 0, none⟩) nn c)) (hi : ev L io = some (I i)) (hik : i = ((k : Nat) : Int)) (hlt : k < nn) (ha : k * size = a)
    (kk : WT P n ops Q r ((d, .pointer (some ⟨g, a, none⟩)) :: L) w) (hn : Nat.blt d n = true) : WT P n ops Q (.st m ⟨some d, .indexAddr t xo io, ty, pos, af, none⟩ r) L w := by
  obtain ⟨inf, z, hinf, _, hsz, _, _⟩ := et.info
  subst ha
  refine t_read (fun a ha _ _ _ w' _ => ?_) kk hn
  subst hik
  have hc : (0 : Int) ≤ (k : Int) ∧ (k : Int) < (nn : Int) := by omega
  simp [execOp, ha.ev hx, ha.ev hi, Instr.indexAt, asIntOf, run_underlying et.und, hc, sizeOf, typeInfo, hinf, hsz, Addr.add_lit, hlt]

/-- A store into a cell of an element. -/
theorem t_stS {α : Type} {T : Ty α} {t e : TypeId} {g nn c i j ad : Nat} {l : List α} {x x' : α} {u : Value} {po xo : Operand} (S : Sep b w (slO T e (.slice (some ⟨g, 0, none⟩) nn c) l :: os)) (hnn : nn = l.length) (hs : sizeB P t = some 1) (hp : ev L po = some (.pointer (some ⟨g, ad, none⟩))) (hxo : ev L xo = some u) (hx : l[i]? = some x) (had : i * T.size + j = ad) (hj : j < T.size) (hu : u.oneCell' = true) (huc : u.cells = #[u])
    (hT : ∀ w cs f, T.O b w cs x f → T.O b w (cs.set j u) x' f)
    (k : ∀ w', Below b w w' → Sep b w' (slO T e (.slice (some ⟨g, 0, none⟩) nn c) (l.set i x') :: os) → WT P n ops Q r L w') : WT P n ops Q (.st .fin ⟨none, .store t po xo, ty, pos, af, none⟩ r) L w := by
  subst had
  obtain ⟨fp, hO⟩ := S.head
  have hO' : SlO T e b w (.slice (some ⟨g, 0, none⟩) nn c) l fp := hO
  have hil : i < l.length := (List.getElem?_eq_some_iff.1 hx).1
  obtain ⟨g', c', hv, hgf, hbg, hgw, _, hfr⟩ := SlO.addr hO' (by omega)
  cases hv
  obtain ⟨cs, f, hc1, hc2, hc3, hc4⟩ := SlO.focus hO' hx
  have hcell : ∃ c0, w.cell? ⟨g, i * T.size + j, none⟩ = some c0 := by
    have hlen := T.len _ _ _ (T.read _ _ _ _ _ hc1)
    exact ⟨_, hc3 j _ (List.getElem?_eq_getElem (by omega))⟩
  obtain ⟨c0, hcell⟩ := hcell
  have hrun : (store ⟨g, i * T.size + j, none⟩ u).run P w = .ok () (w.setCell ⟨g, i * T.size + j, none⟩ u) := by
    have h2 := hfr (i * T.size + j)
    cases u <;> simp [Value.oneCell'] at hu <;> simp [store, Sem.run, hcell, h2]
  refine t_store (w' := w.setCell ⟨g, i * T.size + j, none⟩ u) (fun a ha _ _ _ => ?_) (k _ ((Below.refl _ _).setCell hbg u) (S.turn (fp' := fun _ _ => True) fun f' hf' => ?_))
  · simp [execOp, ha.ev hp, ha.ev hxo, Instr.storeAt, Instr.sureAddr, storeVar, huc, run_sizeOf hs, storeCells, Addr.add, hrun]
  · have hf'' : SlO T e b w (.slice (some ⟨g, 0, none⟩) l.length c) l f' := hf'
    obtain ⟨_, _, hv2, hgf2, _⟩ := SlO.addr hf'' (by omega)
    cases hv2
    exact ⟨f', SlO.put2 hf'' rfl hx hj hT, fun y hy => .inl hy, (Kept.refl _ _).setCell hgf2 u⟩

/-- A load of a cell of an element. -/
theorem t_ldS {α : Type} {T : Ty α} {t e : TypeId} {g nn c i j ad : Nat} {l : List α} {x : α} {u : Value} {po : Operand} (S : Sep b w (slO T e (.slice (some ⟨g, 0, none⟩) nn c) l :: os)) (ha : aggB P t = some false) (hp : ev L po = some (.pointer (some ⟨g, ad, none⟩))) (hx : l[i]? = some x) (had : i * T.size + j = ad)
    (hT : ∀ w cs, T.R w cs x → cs[j]? = some u) (k : WT P n ops Q r ((d, u) :: L) w) (hn : Nat.blt d n = true) : WT P n ops Q (.st m ⟨some d, .load t po, ty, pos, af, none⟩ r) L w := by
  subst had
  obtain ⟨fp, hO⟩ := S.head
  obtain ⟨cs, f, hc1, hc2, hc3, hc4⟩ := SlO.focus (T := T) hO hx
  exact t_ld1 ha (w0 := w) (hc3 j u (hT _ _ (T.read _ _ _ _ _ hc1))) (Below.refl _ _) hp k hn
end

theorem set_at {α : Type} {l : List α} {i : Nat} {x y : α} (h : l[i]? = some x) : (l.set i y)[i]? = some y := by
  rw [List.getElem?_set_self (List.getElem?_eq_some_iff.1 h).1]
theorem t_lenx {P : Program} {n : Nat} {ops : Array Oper} {Q : Exit → Act → World → Prop} {L : Frm} {w : World} {m : Md} {r : IT} {d : Nat} {ty : TypeId} {pos : String} {af : Array Edge} {x : Operand} {t e : TypeId} {ar : Array TypeId} {size bytes nn c : Nat} {A : Option Addr} (et : ElemT P t e size bytes) (hx : ev L x = some (.slice A nn c)) (har : ar = #[t]) (k : WT P n ops Q r ((d, I (nn : Int)) :: L) w) (hn : Nat.blt d n = true) :
    WT P n ops Q (.st m ⟨some d, .call ⟨.builtin .len, #[x], ar⟩, ty, pos, af, none⟩ r) L w := by
  subst har
  exact t_read (fun a ha _ _ _ w' _ => by simp [execOp, resolve, invoke, builtin, ha.ev hx, Builtin.len_, run_underlying et.und, goInt]) k hn
theorem set_mid {α : Type} {A B : List α} {i : Nat} {x y : α} (hA : A.length = i) (hB : B[0]? = some x) : (A ++ B).set i y = A ++ [y] ++ B.drop 1 := by
  subst hA
  cases B with
  | nil => simp at hB
  | cons b t => rw [List.set_append_right _ _ (Nat.le_refl _)]; simp
theorem mid_at {α : Type} {A l : List α} {i : Nat} {x : α} (hA : A.length = i) (hx : l[i]? = some x) : (A ++ l.drop i)[i]? = some x := by
  subst hA
  rw [List.getElem?_append_right (Nat.le_refl _), Nat.sub_self, List.getElem?_drop, Nat.add_zero]
  exact hx
theorem mid_set {α : Type} {A l : List α} {i : Nat} {x y : α} (hA : A.length = i) (hx : l[i]? = some x) : (A ++ l.drop i).set i y = A ++ [y] ++ l.drop (i + 1) := by
  rw [set_mid hA (x := x) (by rw [List.getElem?_drop, Nat.add_zero]; exact hx), List.drop_drop]

theorem rl_int {x : Int} : ∀ (w : World) cs, intT.R w cs x → cs[0]? = some (I x) := fun w cs h => by rw [show cs = [I x] from h]; rfl
theorem rl_byte {x : UInt8} : ∀ (w : World) cs, byteT.R w cs x → cs[0]? = some (.int .u8 (x.toNat : Int)) := fun w cs h => by rw [show cs = [.int .u8 (x.toNat : Int)] from h]; rfl
theorem so_int {b : Nat} {x e : Int} : ∀ (w : World) cs f, intT.O b w cs x f → intT.O b w (cs.set 0 (I e)) e f := fun w cs f h => ⟨by rw [show cs = [I x] from h.1]; rfl, h.2⟩
/-- A number's last byte. -/
def bt (k : Int) : UInt8 := UInt8.ofNat (IntKind.u8.wrap k).toNat
theorem wrap_u8 (k : Int) : IntKind.u8.wrap k = k % 256 := by
  simp [IntKind.wrap, IntKind.signed, IntKind.bits]
theorem bt_toNat (k : Int) : ((bt k).toNat : Int) = IntKind.u8.wrap k := by
  have h := wrap_u8 k
  have h1 : 0 ≤ k % 256 := Int.emod_nonneg _ (by omega)
  have h2 : k % 256 < 256 := Int.emod_lt_of_pos _ (by omega)
  unfold bt
  rw [h, UInt8.toNat_ofNat']
  omega
theorem so_byte {b : Nat} {x : UInt8} {k : Int} : ∀ (w : World) cs f, byteT.O b w cs x f → byteT.O b w (cs.set 0 (.int .u8 (IntKind.u8.wrap k))) (bt k) f := fun w cs f h => ⟨by rw [show cs = [.int .u8 (x.toNat : Int)] from h.1, ← bt_toNat]; rfl, h.2⟩
theorem rl_hop_0 {x : Hop} : ∀ (w : World) cs, hopT.R w cs x → cs[0]? = some (I x.ia) := fun w cs h => by rw [hop_form h]; rfl
theorem so_hop_0 {b : Nat} {x : Hop} {k : Int} : ∀ (w : World) cs f, hopT.O b w cs x f → hopT.O b w (cs.set 0 (I k)) { x with ia := k } f := fun w cs f h => ⟨by rw [hop_form (w := w) h.1]; rfl, h.2⟩
theorem rl_hop_1 {x : Hop} : ∀ (w : World) cs, hopT.R w cs x → cs[1]? = some (I x.ing) := fun w cs h => by rw [hop_form h]; rfl
theorem so_hop_1 {b : Nat} {x : Hop} {k : Int} : ∀ (w : World) cs f, hopT.O b w cs x f → hopT.O b w (cs.set 1 (I k)) { x with ing := k } f := fun w cs f h => ⟨by rw [hop_form (w := w) h.1]; rfl, h.2⟩
theorem rl_hop_2 {x : Hop} : ∀ (w : World) cs, hopT.R w cs x → cs[2]? = some (I x.eg) := fun w cs h => by rw [hop_form h]; rfl
theorem so_hop_2 {b : Nat} {x : Hop} {k : Int} : ∀ (w : World) cs f, hopT.O b w cs x f → hopT.O b w (cs.set 2 (I k)) { x with eg := k } f := fun w cs f h => ⟨by rw [hop_form (w := w) h.1]; rfl, h.2⟩
theorem rl_hop_3 {x : Hop} : ∀ (w : World) cs, hopT.R w cs x → cs[3]? = some (I x.exp) := fun w cs h => by rw [hop_form h]; rfl
theorem so_hop_3 {b : Nat} {x : Hop} {k : Int} : ∀ (w : World) cs f, hopT.O b w cs x f → hopT.O b w (cs.set 3 (I k)) { x with exp := k } f := fun w cs f h => ⟨by rw [hop_form (w := w) h.1]; rfl, h.2⟩
theorem rl_hop_4 {x : Hop} : ∀ (w : World) cs, hopT.R w cs x → cs[4]? = some (I x.mac) := fun w cs h => by rw [hop_form h]; rfl
theorem so_hop_4 {b : Nat} {x : Hop} {k : Int} : ∀ (w : World) cs f, hopT.O b w cs x f → hopT.O b w (cs.set 4 (I k)) { x with mac := k } f := fun w cs f h => ⟨by rw [hop_form (w := w) h.1]; rfl, h.2⟩
theorem rl_step_0 {x : Stp} : ∀ (w : World) cs, stepT.R w cs x → cs[0]? = some (I x.ia) := fun w cs h => by rw [step_form h]; rfl
theorem so_step_0 {b : Nat} {x : Stp} {k : Int} : ∀ (w : World) cs f, stepT.O b w cs x f → stepT.O b w (cs.set 0 (I k)) { x with ia := k } f := fun w cs f h => ⟨by rw [step_form (w := w) h.1]; rfl, h.2⟩
theorem rl_step_1 {x : Stp} : ∀ (w : World) cs, stepT.R w cs x → cs[1]? = some (I x.ing) := fun w cs h => by rw [step_form h]; rfl
theorem so_step_1 {b : Nat} {x : Stp} {k : Int} : ∀ (w : World) cs f, stepT.O b w cs x f → stepT.O b w (cs.set 1 (I k)) { x with ing := k } f := fun w cs f h => ⟨by rw [step_form (w := w) h.1]; rfl, h.2⟩
theorem rl_step_2 {x : Stp} : ∀ (w : World) cs, stepT.R w cs x → cs[2]? = some (I x.eg) := fun w cs h => by rw [step_form h]; rfl
theorem so_step_2 {b : Nat} {x : Stp} {k : Int} : ∀ (w : World) cs f, stepT.O b w cs x f → stepT.O b w (cs.set 2 (I k)) { x with eg := k } f := fun w cs f h => ⟨by rw [step_form (w := w) h.1]; rfl, h.2⟩
theorem rl_link_0 {x : Lnk} : ∀ (w : World) cs, linkT.R w cs x → cs[0]? = some (I x.a) := fun w cs h => by rw [link_form h]; rfl
theorem so_link_0 {b : Nat} {x : Lnk} {k : Int} : ∀ (w : World) cs f, linkT.O b w cs x f → linkT.O b w (cs.set 0 (I k)) { x with a := k } f := fun w cs f h => ⟨by rw [link_form (w := w) h.1]; rfl, h.2⟩
theorem rl_link_1 {x : Lnk} : ∀ (w : World) cs, linkT.R w cs x → cs[1]? = some (I x.ai) := fun w cs h => by rw [link_form h]; rfl
theorem so_link_1 {b : Nat} {x : Lnk} {k : Int} : ∀ (w : World) cs f, linkT.O b w cs x f → linkT.O b w (cs.set 1 (I k)) { x with ai := k } f := fun w cs f h => ⟨by rw [link_form (w := w) h.1]; rfl, h.2⟩
theorem rl_link_2 {x : Lnk} : ∀ (w : World) cs, linkT.R w cs x → cs[2]? = some (I x.b) := fun w cs h => by rw [link_form h]; rfl
theorem so_link_2 {b : Nat} {x : Lnk} {k : Int} : ∀ (w : World) cs f, linkT.O b w cs x f → linkT.O b w (cs.set 2 (I k)) { x with b := k } f := fun w cs f h => ⟨by rw [link_form (w := w) h.1]; rfl, h.2⟩
theorem rl_link_3 {x : Lnk} : ∀ (w : World) cs, linkT.R w cs x → cs[3]? = some (I x.bi) := fun w cs h => by rw [link_form h]; rfl
theorem so_link_3 {b : Nat} {x : Lnk} {k : Int} : ∀ (w : World) cs f, linkT.O b w cs x f → linkT.O b w (cs.set 3 (I k)) { x with bi := k } f := fun w cs f h => ⟨by rw [link_form (w := w) h.1]; rfl, h.2⟩
theorem rl_link_4 {x : Lnk} : ∀ (w : World) cs, linkT.R w cs x → cs[4]? = some (I x.kind) := fun w cs h => by rw [link_form h]; rfl
theorem so_link_4 {b : Nat} {x : Lnk} {k : Int} : ∀ (w : World) cs f, linkT.O b w cs x f → linkT.O b w (cs.set 4 (I k)) { x with kind := k } f := fun w cs f h => ⟨by rw [link_form (w := w) h.1]; rfl, h.2⟩
theorem part_set {b : Nat} {x y : Part} {w : World} {cs : List Value} {f : List Nat} {j : Nat} {u : Value} (hj : j < 3) (h : partT.O b w cs x f) (hy : [I x.kind, I x.ts, I x.beta].set j u = [I y.kind, I y.ts, I y.beta]) (hh : y.hops = x.hops) : partT.O b w (cs.set j u) y f := by
  obtain ⟨xs, ys, p, q, e, g0, r0, t0, nd⟩ := h
  have hx : xs = [I x.kind, I x.ts, I x.beta] := g0.1
  refine ⟨xs.set j u, ys, p, q, ?_, ⟨by rw [hx, hy]; rfl, g0.2⟩, by rw [hh]; exact r0, t0, nd⟩
  rw [e, List.set_append_left _ _ (by rw [hx]; simpa using hj)]
theorem so_part_0 {b : Nat} {x : Part} {k : Int} : ∀ (w : World) cs f, partT.O b w cs x f → partT.O b w (cs.set 0 (I k)) { x with kind := k } f := fun w cs f h => part_set (by omega) h rfl rfl
theorem so_part_1 {b : Nat} {x : Part} {k : Int} : ∀ (w : World) cs f, partT.O b w cs x f → partT.O b w (cs.set 1 (I k)) { x with ts := k } f := fun w cs f h => part_set (by omega) h rfl rfl
theorem so_part_2 {b : Nat} {x : Part} {k : Int} : ∀ (w : World) cs f, partT.O b w cs x f → partT.O b w (cs.set 2 (I k)) { x with beta := k } f := fun w cs f h => part_set (by omega) h rfl rfl
theorem seg_set {b : Nat} {x y : Seg} {w : World} {cs : List Value} {f : List Nat} {j : Nat} {u : Value} (hj : j < 2) (h : segT.O b w cs x f) (hy : [I x.ts, I x.beta].set j u = [I y.ts, I y.beta]) (hh : y.hops = x.hops) : segT.O b w (cs.set j u) y f := by
  obtain ⟨xs, ys, p, q, e, g0, r0, t0, nd⟩ := h
  have hx : xs = [I x.ts, I x.beta] := g0.1
  refine ⟨xs.set j u, ys, p, q, ?_, ⟨by rw [hx, hy]; rfl, g0.2⟩, by rw [hh]; exact r0, t0, nd⟩
  rw [e, List.set_append_left _ _ (by rw [hx]; simpa using hj)]
theorem so_seg_0 {b : Nat} {x : Seg} {k : Int} : ∀ (w : World) cs f, segT.O b w cs x f → segT.O b w (cs.set 0 (I k)) { x with ts := k } f := fun w cs f h => seg_set (by omega) h rfl rfl
theorem so_seg_1 {b : Nat} {x : Seg} {k : Int} : ∀ (w : World) cs f, segT.O b w cs x f → segT.O b w (cs.set 1 (I k)) { x with beta := k } f := fun w cs f h => seg_set (by omega) h rfl rfl

end Go.Proofs.Ytfgobdejlfojiaa
