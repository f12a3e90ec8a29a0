/- Packets out of bytes: ReadBytes, DecodePacket, of the program and of the reference. -/
import Derived.Test.YtfgobdejlfojiaaWkS
import Derived.Test.YtfgobdejlfojiaaWkV
namespace Go.Proofs.Ytfgobdejlfojiaa
open Go.RowKit
set_option linter.unusedVariables false
set_option maxRecDepth 20000

theorem SlR.takev {α : Type} {T : Ty α} {w : World} {A : Option Addr} {c k n' : Nat} {l : List α} (h : SlR T w (.slice A n' c) l) (hk : k ≤ l.length) : SlR T w (.slice A k c) (l.take k) := by
  obtain ⟨A', c', css, e, h1, h2, h3, h4⟩ := h
  cases e
  have hall : ∀ (i : Nat) cs, css[i]? = some cs → cs.length = T.size := fun i cs hi => by
    have hlt : i < l.length := by rw [← h2]; exact (List.getElem?_eq_some_iff.1 hi).1
    exact T.len _ _ _ (h4 i cs _ hi (List.getElem?_eq_getElem hlt))
  have hlen : (l.take k).length = k := by rw [List.length_take]; omega
  refine ⟨A, c, css.take k, by rw [hlen], by omega, by rw [hlen, List.length_take]; omega, fun hp => ?_, fun i cs x hi hx => ?_⟩
  · rw [flatten_take hall] at hp ⊢
    have hp' : 0 < css.flatten.length := by rw [List.length_take] at hp; omega
    obtain ⟨g, o, rfl, hg⟩ := h3 hp'
    refine ⟨g, o, rfl, fun j u hu => hg j u ?_⟩
    rw [List.getElem?_take] at hu
    split at hu
    · exact hu
    · cases hu
  · rw [List.getElem?_take] at hi hx
    split at hi
    · rename_i hik
      rw [if_pos hik] at hx
      exact h4 i cs x hi hx
    · cases hi
section
variable {P : Program} {n : Nat} {ops : Array Oper} {Q : Exit → Act → World → Prop} {L : Frm} {w w0 : World} {m : Md} {r : IT} {d : Nat} {ty : TypeId} {pos : String} {af : Array Edge}
theorem t_slr {α : Type} {T : Ty α} {t e : TypeId} {bytes : Nat} (et : ElemT P t e T.size bytes) {v : Value} {l : List α} {xo lo hi : Operand} {a c : Nat} {i j : Int} (h : SlR T w0 v l) (hx : ev L xo = some v) (hlo : ev L lo = some (I i)) (hhi : ev L hi = some (I j)) (hi' : i = ((a : Nat) : Int)) (hj : j = ((c : Nat) : Int)) (hac : a ≤ c) (hcl : c ≤ l.length)
    (kk : ∀ v', SlR T w0 v' ((l.take c).drop a) → WT P n ops Q r ((d, v') :: L) w) (hn : Nat.blt d n = true) : WT P n ops Q (.st m ⟨some d, .slice t xo (some lo) (some hi) none, ty, pos, af, none⟩ r) L w := by
  obtain ⟨A, cc, rfl, h1⟩ := h.form
  obtain ⟨inf, z, hinf, _, hsz, _, _⟩ := et.info
  subst hi'
  subst hj
  have h2 := h.takev hcl
  have hlen : (l.take c).length = c := by rw [List.length_take]; omega
  have h3 := h2.drop (k := a) (by omega)
  rw [hlen] at h3
  refine t_read (fun ac ha _ _ _ w' _ => ?_) (kk _ h3) hn
  have hc : (0 : Int) ≤ (a : Int) ∧ (a : Int) ≤ (c : Int) := by omega
  have hcc : c ≤ cc := by omega
  have hac' : a ≤ c := hac
  simp [execOp, ha.ev hx, ha.ev hlo, ha.ev hhi, Instr.sliceAt, Instr.slice, Instr.sliceBounds, Instr.sliceBound, asIntOf, run_underlying et.und, hcc, hac', sizeOf, typeInfo, hinf, hsz]
end

def readB (b : List UInt8) (i most : Int) : Option (List UInt8 × Int) := match readVI b i with
  | none => none
  | some (n, j) => if most < n ∨ (b.length : Int) - j < n then none else some ((b.take (j + n).toNat).drop j, j + n)
def rb3 : Option (List UInt8 × Int) → List UInt8 × Int × Bool
  | none => ([], 0, false)
  | some (l, j) => (l, j, true)
theorem readB_no {b : List UInt8} {i most : Int} (h : readVI b i = none) : readB b i most = none := by rw [readB, h]
theorem readB_bad {b : List UInt8} {i most n : Int} {j : Nat} (h : readVI b i = some (n, j)) (hb : most < n ∨ (b.length : Int) - j < n) : readB b i most = none := by rw [readB, h]; simp only [if_pos hb]
theorem readB_yes {b : List UInt8} {i most n : Int} {j : Nat} (h : readVI b i = some (n, j)) (hb : ¬ (most < n ∨ (b.length : Int) - j < n)) : readB b i most = some ((b.take (j + n).toNat).drop j, j + n) := by rw [readB, h]; simp only [if_neg hb]
theorem rb_no {o : Option (List UInt8 × Int)} {l : List UInt8} {j : Int} {ok : Bool} (hr : rb3 o = (l, j, ok)) (hok : (!ok) = true) : o = none := by
  cases ok
  · cases o with
    | none => rfl
    | some r => cases hr
  · cases hok
theorem rb_yes {b : List UInt8} {i most : Int} {l : List UInt8} {j : Int} {ok : Bool} (hr : rb3 (readB b i most) = (l, j, ok)) (hok : (!ok) = false) : readB b i most = some (l, j) ∧ 0 ≤ j ∧ j ≤ b.length ∧ (l.length : Int) ≤ most := by
  cases ok
  · cases hok
  · cases hv : readVI b i with
    | none => rw [readB_no hv] at hr; cases hr
    | some r =>
      obtain ⟨n, m⟩ := r
      have ho := readVI_out hv
      have h1 : 0 ≤ n := ho.1
      have h2 : m ≤ b.length := ho.2.2.2.1
      by_cases hb : most < n ∨ (b.length : Int) - m < n
      · rw [readB_bad hv hb] at hr; cases hr
      · rw [readB_yes hv hb] at hr ⊢
        cases hr
        refine ⟨rfl, by omega, by omega, ?_⟩
        rw [List.length_drop, List.length_take]
        omega
theorem min3 {b : List UInt8} {x y : Nat} : ((b.take x).drop y).length ≤ b.length := by rw [List.length_drop, List.length_take]; omega
theorem impl_ReadBytes (b : List UInt8) (v : Value) (i most : Int) {l0 : List UInt8} {j0 : Int} {ok0 : Bool} (w : World) (h : SlR byteT w v b) (hz : b.length ≤ 1048576) (hi : i ≤ 9223372036854775807) (hr : rb3 (readB b i most) = (l0, j0, ok0)) : Calls Try.prog 115 #[v, I i, I most] w fun e w' => ∃ v fp, e = .returned (.tuple #[v, I j0, .bool ok0]) ∧ SlO byteT 5 w.heap.size w' v l0 fp ∧ Below w.heap.size w w' := by
  obtain ⟨n1, j1, ok1, hr1⟩ : ∃ n j ok, rv3 (readVI b i) = (n, j, ok) := ⟨_, _, _, rfl⟩
  have X0 := Below.refl w.heap.size w
  refine enter Try.func115 rfl Try.ntmps115 rfl ?_
  refine w_seq ?_
  refine w_region ?_
  have S := Sep.nil w
  have B := Below.refl w.heap.size w
  have Hb := Nat.le_refl w.heap.size
  refine t_assign rfl ?_ rfl
  refine t_assign rfl ?_ rfl
  refine t_assign rfl ?_ rfl
  refine t_done ?_
  refine x_seq ?_
  refine w_seq ?_
  refine w_region ?_
  refine t_move rfl ?_ rfl
  refine t_move rfl ?_ rfl
  refine t_callx Try.call95 rfl (impl_ReadVarint _ _ _ _ (by first | assumption | exact SlR.below (by assumption) B) (by omega) (by omega) hr1) ?_ rfl rfl
  intro w1 x2
  have B := bx Hb B x2
  have S := S.below x2
  refine t_move rfl ?_ rfl
  refine t_extract rfl rfl ?_ rfl
  refine t_extract rfl rfl ?_ rfl
  refine t_extract rfl rfl ?_ rfl
  refine t_assign rfl ?_ rfl
  refine t_assign rfl ?_ rfl
  refine t_assign rfl ?_ rfl
  refine t_done ?_
  refine x_seq ?_
  refine w_seq ?_
  refine w_seq ?_
  refine w_region ?_
  refine t_move rfl ?_ rfl
  refine t_notb rfl ?_ rfl
  refine t_move rfl ?_ rfl
  refine t_part (t := 20) rfl ?_ ?_
  · intro hno
    refine t_off rfl rfl rfl ?_ rfl
    refine t_off rfl rfl rfl ?_ rfl
    refine t_off rfl rfl rfl ?_ rfl
    refine t_pickt rfl rfl ?_ rfl
    refine t_move rfl ?_ rfl
    refine t_off rfl rfl rfl ?_ rfl
    refine t_off rfl rfl rfl ?_ rfl
    refine t_off rfl rfl rfl ?_ rfl
    refine t_off rfl rfl rfl ?_ rfl
    refine t_off rfl rfl rfl ?_ rfl
    refine t_off rfl rfl rfl ?_ rfl
    refine t_pickt rfl rfl ?_ rfl
    refine t_done ?_
    refine x_seq ?_
    refine w_yes rfl ?_
    refine w_seq ?_
    refine w_region ?_
    refine t_assign rfl ?_ rfl
    refine t_assign rfl ?_ rfl
    refine t_assign rfl ?_ rfl
    refine t_done ?_
    refine x_seq ?_
    refine w_ret ?_
    refine x_then_ret ?_
    refine x_ret3 rfl rfl rfl rfl ?_
    rw [readB_no (rv_no hr1 hno)] at hr
    cases hr
    obtain ⟨fp, hO⟩ := (S.addNil.mono X0.size).head
    exact ⟨_, fp, rfl, hO, ext_trans X0 B⟩
  intro hyes
  obtain ⟨hy1, hy2, hy3, hy4, hy5, hy6⟩ := rv_yes hr1 hyes
  have hjt : ((j1.toNat : Nat) : Int) = j1 := by omega
  have hsl := min3 (b := b) (x := (j1 + n1).toNat) (y := j1.toNat)
  refine t_on rfl rfl ?_
  refine t_move rfl ?_ rfl
  refine t_on rfl rfl ?_
  refine t_move rfl ?_ rfl
  refine t_on rfl rfl ?_
  refine t_gtr rfl rfl ?_ rfl
  refine t_pickf rfl rfl ?_ rfl
  refine t_move rfl ?_ rfl
  refine t_partp (t := 25) rfl ?_ ?_
  · intro hb
    refine t_off rfl rfl rfl ?_ rfl
    refine t_off rfl rfl rfl ?_ rfl
    refine t_off rfl rfl rfl ?_ rfl
    refine t_off rfl rfl rfl ?_ rfl
    refine t_off rfl rfl rfl ?_ rfl
    refine t_off rfl rfl rfl ?_ rfl
    refine t_pickt rfl rfl ?_ rfl
    refine t_done ?_
    refine x_seq ?_
    refine w_yes rfl ?_
    refine w_seq ?_
    refine w_region ?_
    refine t_assign rfl ?_ rfl
    refine t_assign rfl ?_ rfl
    refine t_assign rfl ?_ rfl
    refine t_done ?_
    refine x_seq ?_
    refine w_ret ?_
    refine x_then_ret ?_
    refine x_ret3 rfl rfl rfl rfl ?_
    rw [readB_bad hy1 (.inl (by omega))] at hr
    cases hr
    obtain ⟨fp, hO⟩ := (S.addNil.mono X0.size).head
    exact ⟨_, fp, rfl, hO, ext_trans X0 B⟩
  intro hb
  refine t_on rfl rfl ?_
  refine t_move rfl ?_ rfl
  refine t_on rfl rfl ?_
  refine t_move rfl ?_ rfl
  refine t_on rfl rfl ?_
  refine t_len e_byte (by assumption) rfl rfl ?_ rfl
  refine t_on rfl rfl ?_
  refine t_move rfl ?_ rfl
  refine t_on rfl rfl ?_
  refine t_sub rfl rfl (by omega) ?_ rfl
  refine t_on rfl rfl ?_
  refine t_gtr rfl rfl ?_ rfl
  refine t_pickf rfl rfl ?_ rfl
  refine t_done ?_
  refine x_seq ?_
  refine w_if rfl ?_ ?_
  · intro hb2
    refine w_seq ?_
    refine w_region ?_
    refine t_assign rfl ?_ rfl
    refine t_assign rfl ?_ rfl
    refine t_assign rfl ?_ rfl
    refine t_done ?_
    refine x_seq ?_
    refine w_ret ?_
    refine x_then_ret ?_
    refine x_ret3 rfl rfl rfl rfl ?_
    rw [readB_bad hy1 (.inr (by omega))] at hr
    cases hr
    obtain ⟨fp, hO⟩ := (S.addNil.mono X0.size).head
    exact ⟨_, fp, rfl, hO, ext_trans X0 B⟩
  intro hb2
  rw [readB_yes hy1 (by omega), hjt] at hr
  refine w_skip ?_
  refine x_seq ?_
  refine w_seq ?_
  refine w_region ?_
  refine t_move rfl ?_ rfl
  refine t_move rfl ?_ rfl
  refine t_move rfl ?_ rfl
  refine t_move rfl ?_ rfl
  refine t_add rfl rfl (by omega) ?_ rfl
  refine t_slr e_byte (a := j1.toNat) (c := (j1 + n1).toNat) (by assumption) rfl rfl rfl (by first | rfl | omega) (by first | rfl | omega) (by omega) (by omega) ?_ rfl
  intro v38 hv38
  refine t_call Try.call104 rfl (impl_copyBytes _ _ _ (by first | assumption | exact SlR.below (by assumption) B) (by omega)) ?_ rfl rfl
  rintro e w3 ⟨v39, fpv39, rfl, hOv39, x4⟩
  refine ⟨_, rfl, x4, ?_⟩
  have S := S.add (o := slO _ _ _ _) x4 hOv39
  have B := bx Hb B x4
  refine t_move rfl ?_ rfl
  refine t_move rfl ?_ rfl
  refine t_add rfl rfl (by omega) ?_ rfl
  refine t_assign rfl ?_ rfl
  refine t_assign rfl ?_ rfl
  refine t_assign rfl ?_ rfl
  refine t_done ?_
  refine x_seq ?_
  refine w_ret ?_
  refine x_ret3 rfl rfl rfl rfl ?_
  cases hr
  obtain ⟨fp, hO⟩ := (S.mono X0.size).head
  exact ⟨_, fp, rfl, hO, ext_trans X0 B⟩
theorem spec_ReadBytes (b : List UInt8) (v : Value) (i most : Int) {l0 : List UInt8} {j0 : Int} {ok0 : Bool} (w : World) (h : SlR byteT w v b) (hz : b.length ≤ 1048576) (hi : i ≤ 9223372036854775807) (hr : rb3 (readB b i most) = (l0, j0, ok0)) : Calls Try.prog 114 #[v, I i, I most] w fun e w' => ∃ v fp, e = .returned (.tuple #[v, I j0, .bool ok0]) ∧ SlO byteT 5 w.heap.size w' v l0 fp ∧ Below w.heap.size w w' := by
  obtain ⟨n1, j1, ok1, hr1⟩ : ∃ n j ok, rv3 (readVI b i) = (n, j, ok) := ⟨_, _, _, rfl⟩
  have X0 := Below.refl w.heap.size w
  refine enter Try.func114 rfl Try.ntmps114 rfl ?_
  refine w_seq ?_
  refine w_region ?_
  have S := Sep.nil w
  have B := Below.refl w.heap.size w
  have Hb := Nat.le_refl w.heap.size
  refine t_assign rfl ?_ rfl
  refine t_assign rfl ?_ rfl
  refine t_assign rfl ?_ rfl
  refine t_done ?_
  refine x_seq ?_
  refine w_seq ?_
  refine w_region ?_
  refine t_move rfl ?_ rfl
  refine t_move rfl ?_ rfl
  refine t_callx Try.call92 rfl (spec_ReadVarint _ _ _ _ (by first | assumption | exact SlR.below (by assumption) B) (by omega) (by omega) hr1) ?_ rfl rfl
  intro w5 x6
  have B := bx Hb B x6
  have S := S.below x6
  refine t_move rfl ?_ rfl
  refine t_extract rfl rfl ?_ rfl
  refine t_extract rfl rfl ?_ rfl
  refine t_extract rfl rfl ?_ rfl
  refine t_assign rfl ?_ rfl
  refine t_assign rfl ?_ rfl
  refine t_assign rfl ?_ rfl
  refine t_done ?_
  refine x_seq ?_
  refine w_seq ?_
  refine w_seq ?_
  refine w_region ?_
  refine t_move rfl ?_ rfl
  refine t_notb rfl ?_ rfl
  refine t_move rfl ?_ rfl
  refine t_part (t := 21) rfl ?_ ?_
  · intro hno
    refine t_off rfl rfl rfl ?_ rfl
    refine t_off rfl rfl rfl ?_ rfl
    refine t_off rfl rfl rfl ?_ rfl
    refine t_pickt rfl rfl ?_ rfl
    refine t_move rfl ?_ rfl
    refine t_off rfl rfl rfl ?_ rfl
    refine t_off rfl rfl rfl ?_ rfl
    refine t_off rfl rfl rfl ?_ rfl
    refine t_off rfl rfl rfl ?_ rfl
    refine t_off rfl rfl rfl ?_ rfl
    refine t_off rfl rfl rfl ?_ rfl
    refine t_pickt rfl rfl ?_ rfl
    refine t_done ?_
    refine x_seq ?_
    refine w_yes rfl ?_
    refine w_seq ?_
    refine w_region ?_
    refine t_lit (T := byteT) (css := []) (l := []) byte_flat S bs_byte0 rfl rfl rfl rfl (Nat.zero_le _) litR_nil ?_ rfl rfl
    intro u34 w7 x8 S
    have B := bx Hb B x8
    refine t_assign rfl ?_ rfl
    refine t_assign rfl ?_ rfl
    refine t_assign rfl ?_ rfl
    refine t_done ?_
    refine x_seq ?_
    refine w_ret ?_
    refine x_then_ret ?_
    refine x_ret3 rfl rfl rfl rfl ?_
    rw [readB_no (rv_no hr1 hno)] at hr
    cases hr
    obtain ⟨fp, hO⟩ := (S.mono X0.size).head
    exact ⟨_, fp, rfl, hO, ext_trans X0 B⟩
  intro hyes
  obtain ⟨hy1, hy2, hy3, hy4, hy5, hy6⟩ := rv_yes hr1 hyes
  have hjt : ((j1.toNat : Nat) : Int) = j1 := by omega
  have hsl := min3 (b := b) (x := (j1 + n1).toNat) (y := j1.toNat)
  refine t_on rfl rfl ?_
  refine t_move rfl ?_ rfl
  refine t_on rfl rfl ?_
  refine t_move rfl ?_ rfl
  refine t_on rfl rfl ?_
  refine t_gtr rfl rfl ?_ rfl
  refine t_pickf rfl rfl ?_ rfl
  refine t_move rfl ?_ rfl
  refine t_partp (t := 26) rfl ?_ ?_
  · intro hb
    refine t_off rfl rfl rfl ?_ rfl
    refine t_off rfl rfl rfl ?_ rfl
    refine t_off rfl rfl rfl ?_ rfl
    refine t_off rfl rfl rfl ?_ rfl
    refine t_off rfl rfl rfl ?_ rfl
    refine t_off rfl rfl rfl ?_ rfl
    refine t_pickt rfl rfl ?_ rfl
    refine t_done ?_
    refine x_seq ?_
    refine w_yes rfl ?_
    refine w_seq ?_
    refine w_region ?_
    refine t_lit (T := byteT) (css := []) (l := []) byte_flat S bs_byte0 rfl rfl rfl rfl (Nat.zero_le _) litR_nil ?_ rfl rfl
    intro u34 w9 x10 S
    have B := bx Hb B x10
    refine t_assign rfl ?_ rfl
    refine t_assign rfl ?_ rfl
    refine t_assign rfl ?_ rfl
    refine t_done ?_
    refine x_seq ?_
    refine w_ret ?_
    refine x_then_ret ?_
    refine x_ret3 rfl rfl rfl rfl ?_
    rw [readB_bad hy1 (.inl (by omega))] at hr
    cases hr
    obtain ⟨fp, hO⟩ := (S.mono X0.size).head
    exact ⟨_, fp, rfl, hO, ext_trans X0 B⟩
  intro hb
  refine t_on rfl rfl ?_
  refine t_move rfl ?_ rfl
  refine t_on rfl rfl ?_
  refine t_move rfl ?_ rfl
  refine t_on rfl rfl ?_
  refine t_len e_byte (by assumption) rfl rfl ?_ rfl
  refine t_on rfl rfl ?_
  refine t_move rfl ?_ rfl
  refine t_on rfl rfl ?_
  refine t_sub rfl rfl (by omega) ?_ rfl
  refine t_on rfl rfl ?_
  refine t_gtr rfl rfl ?_ rfl
  refine t_pickf rfl rfl ?_ rfl
  refine t_done ?_
  refine x_seq ?_
  refine w_if rfl ?_ ?_
  · intro hb2
    refine w_seq ?_
    refine w_region ?_
    refine t_lit (T := byteT) (css := []) (l := []) byte_flat S bs_byte0 rfl rfl rfl rfl (Nat.zero_le _) litR_nil ?_ rfl rfl
    intro u34 w11 x12 S
    have B := bx Hb B x12
    refine t_assign rfl ?_ rfl
    refine t_assign rfl ?_ rfl
    refine t_assign rfl ?_ rfl
    refine t_done ?_
    refine x_seq ?_
    refine w_ret ?_
    refine x_then_ret ?_
    refine x_ret3 rfl rfl rfl rfl ?_
    rw [readB_bad hy1 (.inr (by omega))] at hr
    cases hr
    obtain ⟨fp, hO⟩ := (S.mono X0.size).head
    exact ⟨_, fp, rfl, hO, ext_trans X0 B⟩
  intro hb2
  rw [readB_yes hy1 (by omega), hjt] at hr
  refine w_skip ?_
  refine x_seq ?_
  refine w_seq ?_
  refine w_region ?_
  refine t_lit (T := byteT) (css := []) (l := []) byte_flat S bs_byte0 rfl rfl rfl rfl (Nat.zero_le _) litR_nil ?_ rfl rfl
  intro u35 w13 x14 S
  have B := bx Hb B x14
  refine t_move rfl ?_ rfl
  refine t_move rfl ?_ rfl
  refine t_move rfl ?_ rfl
  refine t_move rfl ?_ rfl
  refine t_add rfl rfl (by omega) ?_ rfl
  refine t_slr e_byte (a := j1.toNat) (c := (j1 + n1).toNat) (by assumption) rfl rfl rfl (by first | rfl | omega) (by first | rfl | omega) (by omega) (by omega) ?_ rfl
  intro v41 hv41
  refine t_cat byte_flat e_byte S (by first | assumption | exact SlR.below (by assumption) B) rfl rfl rfl (by first | omega | (simp [-List.length_flatMap]; omega)) (by (simp [maxLen, -List.length_flatMap]; try omega)) ?_ rfl
  intro v42 w15 x16 S
  have B := B.trans x16
  refine t_move rfl ?_ rfl
  refine t_move rfl ?_ rfl
  refine t_add rfl rfl (by omega) ?_ rfl
  refine t_assign rfl ?_ rfl
  refine t_assign rfl ?_ rfl
  refine t_assign rfl ?_ rfl
  refine t_done ?_
  refine x_seq ?_
  refine w_ret ?_
  refine x_ret3 rfl rfl rfl rfl ?_
  cases hr
  obtain ⟨fp, hO⟩ := (S.mono X0.size).head
  exact ⟨_, fp, rfl, hO, ext_trans X0 B⟩
end Go.Proofs.Ytfgobdejlfojiaa
