/- ValidPacket of the program and of the reference. -/
import Derived.Test.YtfgobdejlfojiaaPacketB
import Derived.Test.YtfgobdejlfojiaaEnc
namespace Go.Proofs.Ytfgobdejlfojiaa
open Go.RowKit
set_option linter.unusedVariables false

/-- A packet's box. -/
structure PkB (w : World) (b : Nat) (p : Pkt) (A3 : Option Addr) (n c3 : Nat) (A9 : Option Addr) (m9 c9 : Nat) : Prop where
  c0 : w.cell? ⟨b, 0, none⟩ = some (I p.kind)
  c1 : w.cell? ⟨b, 1, none⟩ = some (I p.src)
  c2 : w.cell? ⟨b, 2, none⟩ = some (I p.dst)
  c3' : w.cell? ⟨b, 3, none⟩ = some (.slice A3 n c3)
  c4 : w.cell? ⟨b, 4, none⟩ = some (I p.pidx)
  c5 : w.cell? ⟨b, 5, none⟩ = some (I p.hidx)
  c6 : w.cell? ⟨b, 6, none⟩ = some (I p.beta)
  c7 : w.cell? ⟨b, 7, none⟩ = some (I p.rid)
  c8 : w.cell? ⟨b, 8, none⟩ = some (I p.seq)
  c9' : w.cell? ⟨b, 9, none⟩ = some (.slice A9 m9 c9)
theorem PkB.below {w w' : World} {b : Nat} {p : Pkt} {A3 : Option Addr} {n c3 : Nat} {A9 : Option Addr} {m9 c9 : Nat} (h : PkB w b p A3 n c3 A9 m9 c9) (hb : Below w.heap.size w w') : PkB w' b p A3 n c3 A9 m9 c9 :=
  ⟨ck hb h.c0, ck hb h.c1, ck hb h.c2, ck hb h.c3', ck hb h.c4, ck hb h.c5, ck hb h.c6, ck hb h.c7, ck hb h.c8, ck hb h.c9'⟩
theorem PkB.new (w : World) (p : Pkt) (A3 : Option Addr) (n c3 : Nat) (A9 : Option Addr) (m9 c9 : Nat) (t : TypeId) : PkB (w.alloc (.cells #[I p.kind, I p.src, I p.dst, .slice A3 n c3, I p.pidx, I p.hidx, I p.beta, I p.rid, I p.seq, .slice A9 m9 c9] t)) w.heap.size p A3 n c3 A9 m9 c9 := by
  constructor <;> simp
theorem PkB.lt {w : World} {b : Nat} {p : Pkt} {A3 : Option Addr} {n c3 : Nat} {A9 : Option Addr} {m9 c9 : Nat} (h : PkB w b p A3 n c3 A9 m9 c9) : b < w.heap.size := World.block_lt_of_cell? w _ h.c0

theorem and5 (b1 b2 b3 b4 b5 : Bool) : b1 = false ∨ (b1 = true ∧ b2 = false) ∨ (b1 = true ∧ b2 = true ∧ b3 = false) ∨ (b1 = true ∧ b2 = true ∧ b3 = true ∧ b4 = false) ∨ (b1 = true ∧ b2 = true ∧ b3 = true ∧ b4 = true ∧ b5 = false) ∨ (b1 = true ∧ b2 = true ∧ b3 = true ∧ b4 = true ∧ b5 = true) := by
  cases b1 <;> cases b2 <;> cases b3 <;> cases b4 <;> cases b5 <;> simp

def someHops (x : Part) : Bool := !(x.hops.length == 0)
def tailOk (p : Pkt) : Bool := inR p.src 0 7 && (inR p.dst 0 7 && (inR p.rid 0 100000 && (inR p.seq 0 100000 && decide ((p.pay.length : Int) ≤ 40))))
def validPkt (p : Pkt) : Bool := inR p.kind 1 3 && (encPath p.path && (!(p.path.length == 0) && (!decide (currentAS p < 0) && (inR p.beta 0 2147483646 && (p.path.all someHops && tailOk p)))))

theorem enc_ia {p : Path} {k : Nat} {x : Part} {j : Nat} {y : Hop} (h : encPath p = true) (hx : p[k]? = some x) (hy : x.hops[j]? = some y) : 0 ≤ y.ia := by
  unfold encPath at h
  simp only [Bool.and_eq_true, List.all_eq_true] at h
  have h1 := h.2 x (List.mem_of_getElem? hx)
  unfold encPart encHops at h1
  simp only [Bool.and_eq_true, List.all_eq_true] at h1
  have h2 := h1.2.2.2 y (List.mem_of_getElem? hy)
  unfold validHop at h2
  simp only [Bool.and_eq_true] at h2
  exact (inR_iff.1 h2.1.1.1.1.1).1

set_option maxRecDepth 100000 in
set_option maxHeartbeats 4000000 in
theorem impl_ValidPacket (p : Pkt) (cs : List Value) (w : World) (h : pktT.R w cs p) (hz : sz_pkt p ≤ 1048576) (hl : lenOk_pkt p) (hg : rng_pkt p) :
    Calls Try.prog 110 #[.agg cs.toArray] w fun e w' => e = .returned (.bool (validPkt p)) ∧ Below w.heap.size w w' := by
  obtain ⟨A3, c3, A9, c9, rfl, ⟨h3, m3⟩, _⟩ := pkt_form h
  have hs : sz_path p.path ≤ 1048576 := by unfold sz_pkt at hz; omega
  have hn0 : p.path.length ≤ 1048576 := by have : sz_path p.path = List.length p.path + (p.path.map sz_part).sum := rfl; omega
  have hm9 : p.pay.length ≤ 1048576 := by unfold sz_pkt at hz; omega
  obtain ⟨r, Hr⟩ : ∃ r, Hid (r = validPkt p) := ⟨_, rfl⟩
  rw [← Hr.out]
  obtain ⟨n, H⟩ : ∃ n, Hid (n = List.length p.path) := ⟨_, rfl⟩
  obtain ⟨m9, H9⟩ : ∃ n, Hid (n = List.length p.pay) := ⟨_, rfl⟩
  obtain ⟨c, Hc⟩ : ∃ c, Hid (c = currentAS p) := ⟨_, rfl⟩
  have HC := hid fun w' (hw : Below w.heap.size w w') => impl_CurrentAS p _ w' (pktT.kp h hw) hz hl hg
  have HE := hid fun w' (hw : Below w.heap.size w w') => impl_EncodablePath p.path _ w' (path_mk (h3.below hw)) hs hl.1 hg.2.2.2.1
  rw [← H.out, ← H9.out, ← Hc.out] at HC
  rw [← H.out] at HE
  rw [← H.out] at h3 hn0 ⊢
  rw [← H9.out] at hm9 ⊢
  clear h hz hl hg m3
  obtain ⟨W, HW⟩ : ∃ W, Hid (W = w.alloc (.cells #[I p.kind, I p.src, I p.dst, .slice A3 n c3, I p.pidx, I p.hidx, I p.beta, I p.rid, I p.seq, .slice A9 m9 c9] 51)) := ⟨_, rfl⟩
  have x0 : Below w.heap.size w W := by rw [HW.out]; exact ext_alloc1 _ _
  have B0 : PkB W w.heap.size p A3 n c3 A9 m9 c9 := by rw [HW.out]; exact PkB.new _ _ _ _ _ _ _ _ _
  rcases and5 (inR p.kind 1 3) (encPath p.path) (!(n == 0)) (!decide (c < 0)) (inR p.beta 0 2147483646) with h1 | ⟨h1, h2⟩ | ⟨h1, h2, h3'⟩ | ⟨h1, h2, h3', h4⟩ | ⟨h1, h2, h3', h4, h5⟩ | ⟨h1, h2, h3', h4, h5⟩
  · have HR : Hid (r = false) := by show r = _; rw [Hr.out]; unfold validPkt; rw [h1]; rfl
    go_enter Try.func110, Try.ntmps110
    go_wp2_with (fail)
    rw [← HW.out]
    obtain ⟨f0, f1, f2, f3, f4, f5, f6, f7, f8, f9⟩ := B0
    refine (impl_InRange _ _ _ _).mono ?_
    rintro e w1 ⟨rfl, rfl⟩
    go_wp2_with (fail)
    go_ret
    exact ⟨by rw [HR.out]; rfl, x0⟩
  · have HR : Hid (r = false) := by show r = _; rw [Hr.out]; unfold validPkt; rw [h1, h2]; rfl
    go_enter Try.func110, Try.ntmps110
    go_wp2_with (fail)
    rw [← HW.out]
    obtain ⟨f0, f1, f2, f3, f4, f5, f6, f7, f8, f9⟩ := B0
    refine (impl_InRange _ _ _ _).mono ?_
    rintro e w1 ⟨rfl, rfl⟩
    go_wp2_with (fail)
    refine (HE.out W x0).mono ?_
    rintro e w1 ⟨rfl, hb1⟩
    go_wp2_with (fail)
    go_ret
    exact ⟨by rw [HR.out]; rfl, ext_trans x0 hb1⟩
  · have HR : Hid (r = false) := by show r = _; rw [Hr.out]; unfold validPkt; rw [h1, h2, ← H.out, h3']; rfl
    have hn := hid (show n = 0 by simpa using h3')
    clear h3'
    go_enter Try.func110, Try.ntmps110
    go_wp2_with (fail)
    rw [← HW.out]
    obtain ⟨f0, f1, f2, f3, f4, f5, f6, f7, f8, f9⟩ := id B0
    refine (impl_InRange _ _ _ _).mono ?_
    rintro e w1 ⟨rfl, rfl⟩
    go_wp2_with (fail)
    refine (HE.out W x0).mono ?_
    rintro e w1 ⟨rfl, hb1⟩
    clear f0 f1 f2 f3 f4 f5 f6 f7 f8 f9
    obtain ⟨f0, f1, f2, f3, f4, f5, f6, f7, f8, f9⟩ := B0.below hb1
    have hnn : ((n : Int) == 0) = true := by rw [hn.out]; rfl
    have hn2 : (n == 0) = true := by rw [hn.out]; rfl
    go_wp2_with (fail)
    go_ret
    exact ⟨by rw [HR.out]; rfl, ext_trans x0 hb1⟩
  all_goals
    have hnn : ((n : Int) == 0) = false := by have hq : n ≠ 0 := (by simpa using h3'); simp; omega
    have hn1 : (n == 0) = false := by simpa using h3'
  · have HR : Hid (r = false) := by show r = _; rw [Hr.out]; unfold validPkt; rw [h1, h2, ← H.out, h3', ← Hc.out, h4]; rfl
    have h4' : decide (c < 0) = true := by simpa using h4
    clear h3' h4
    go_enter Try.func110, Try.ntmps110
    go_wp2_with (fail)
    rw [← HW.out]
    obtain ⟨f0, f1, f2, f3, f4, f5, f6, f7, f8, f9⟩ := id B0
    refine (impl_InRange _ _ _ _).mono ?_
    rintro e w1 ⟨rfl, rfl⟩
    go_wp2_with (fail)
    refine (HE.out W x0).mono ?_
    rintro e w1 ⟨rfl, hb1⟩
    clear f0 f1 f2 f3 f4 f5 f6 f7 f8 f9
    obtain ⟨f0, f1, f2, f3, f4, f5, f6, f7, f8, f9⟩ := B0.below hb1
    go_wp2_with (fail)
    refine (HC.out w1 (ext_trans x0 hb1)).mono ?_
    rintro e w2 ⟨rfl, hb2⟩
    go_wp2_with (fail)
    go_ret
    exact ⟨by rw [HR.out]; rfl, ext_trans x0 (ext_trans hb1 hb2)⟩
  · have HR : Hid (r = false) := by show r = _; rw [Hr.out]; unfold validPkt; rw [h1, h2, ← H.out, h3', ← Hc.out, h4, h5]; rfl
    have h4' : decide (c < 0) = false := by simpa using h4
    clear h3' h4
    go_enter Try.func110, Try.ntmps110
    go_wp2_with (fail)
    rw [← HW.out]
    obtain ⟨f0, f1, f2, f3, f4, f5, f6, f7, f8, f9⟩ := id B0
    refine (impl_InRange _ _ _ _).mono ?_
    rintro e w1 ⟨rfl, rfl⟩
    go_wp2_with (fail)
    refine (HE.out W x0).mono ?_
    rintro e w1 ⟨rfl, hb1⟩
    clear f0 f1 f2 f3 f4 f5 f6 f7 f8 f9
    have B1 := B0.below hb1
    obtain ⟨f0, f1, f2, f3, f4, f5, f6, f7, f8, f9⟩ := id B1
    go_wp2_with (fail)
    refine (HC.out w1 (ext_trans x0 hb1)).mono ?_
    rintro e w2 ⟨rfl, hb2⟩
    clear f0 f1 f2 f3 f4 f5 f6 f7 f8 f9
    obtain ⟨f0, f1, f2, f3, f4, f5, f6, f7, f8, f9⟩ := B1.below hb2
    go_wp2_with (fail)
    refine (impl_isResidue _ _).mono ?_
    rintro e w3 ⟨rfl, rfl⟩
    go_wp2_with (fail)
    go_ret
    exact ⟨by rw [HR.out]; rfl, ext_trans x0 (ext_trans hb1 hb2)⟩
  · have HR : Hid (r = (p.path.all someHops && tailOk p)) := by show r = _; rw [Hr.out]; unfold validPkt; rw [h1, h2, ← H.out, h3', ← Hc.out, h4, h5]; rfl
    have h4' : decide (c < 0) = false := by simpa using h4
    clear h3' h4
    go_enter Try.func110, Try.ntmps110
    go_wp2_with (fail)
    rw [← HW.out]
    obtain ⟨f0, f1, f2, f3, f4, f5, f6, f7, f8, f9⟩ := id B0
    refine (impl_InRange _ _ _ _).mono ?_
    rintro e w1 ⟨rfl, rfl⟩
    go_wp2_with (fail)
    refine (HE.out W x0).mono ?_
    rintro e w1 ⟨rfl, hb1⟩
    clear f0 f1 f2 f3 f4 f5 f6 f7 f8 f9
    have B1 := B0.below hb1
    obtain ⟨f0, f1, f2, f3, f4, f5, f6, f7, f8, f9⟩ := id B1
    go_wp2_with (fail)
    refine (HC.out w1 (ext_trans x0 hb1)).mono ?_
    rintro e w2 ⟨rfl, hb2⟩
    clear f0 f1 f2 f3 f4 f5 f6 f7 f8 f9
    have B2 := B1.below hb2
    obtain ⟨f0, f1, f2, f3, f4, f5, f6, f7, f8, f9⟩ := id B2
    go_wp2_with (fail)
    refine (impl_isResidue _ _).mono ?_
    rintro e w3 ⟨rfl, rfl⟩
    go_wp2_with (fail)
    have X2 := ext_trans x0 (ext_trans hb1 hb2)
    clear f0 f1 f2 f3 f4 f5 f6 f7 f8 f9 B0 B1 h1 h2 h4' h5 hnn hn1
    go_loopw [37] (fun i wr => ∃ k : Nat, k ≤ n ∧ i = I k ∧ (p.path.take k).all someHops = true ∧ Below w.heap.size w wr ∧ PkB wr w.heap.size p A3 n c3 A9 m9 c9) (fun i _ => n - (intOf i).toNat)
    case atStart => exact ⟨0, by omega, rfl, rfl, X2, B2⟩
    case round =>
      rename_i wr
      obtain ⟨k, hk, rfl, hall, hb, B⟩ := hrel
      have Ha := hid hall
      clear hall X2 B2 x0 hb1 hb2
      by_cases hlt : k < n
      · obtain ⟨g, o, q, x, B', d, e, hg, hxk, hin, hd, c0, c1, c2, c3⟩ := part_at (h3.below hb) (by rw [← H.out]; exact hlt)
        rw [← H.out] at e
        cases e
        obtain ⟨m, Hm⟩ : ∃ m, Hid (m = x.hops.length) := ⟨_, rfl⟩
        rw [← Hm.out] at c3
        clear hin hd
        by_cases hm : m = 0
        · have Hv : Hid (someHops x = false) := by show _ = _; unfold someHops; rw [← Hm.out, hm]; rfl
          clear Hm
          subst hm
          go_wp2_with (fail)
          go_ret
          exact ⟨by rw [HR.out, all_bad hxk.out Hv.out]; rfl, ext_alloc hb _⟩
        · have Hv : Hid (someHops x = true) := by show _ = _; unfold someHops; rw [← Hm.out]; simp [hm]
          have hm1 : ((m : Int) == 0) = false := by simp; omega
          have hm2 : (m == 0) = false := by simp; omega
          go_wp2_with (fail)
          go_roundw
          case rel => exact ⟨k + 1, by omega, by go_num, all_succ Ha.out hxk.out Hv.out, ext_alloc hb _, B.below (ext_alloc1 _ _)⟩
          case measure => simp [intOf]; omega
      · have hkn : k = n := by omega
        have hA := Ha.out
        rw [List.take_of_length_le (by rw [← H.out]; omega)] at hA
        have HT : Hid (r = tailOk p) := by show _ = _; rw [HR.out, hA]; rfl
        clear HR hA Ha Hr
        obtain ⟨f0, f1, f2, f3, f4, f5, f6, f7, f8, f9⟩ := B
        rcases and4 (inR p.src 0 7) (inR p.dst 0 7) (inR p.rid 0 100000) (inR p.seq 0 100000) with h1 | ⟨h1, h2⟩ | ⟨h1, h2, h3⟩ | ⟨h1, h2, h3, h4⟩ | ⟨h1, h2, h3, h4⟩
        all_goals
          have HQ : Hid (tailOk p = (inR p.src 0 7 && (inR p.dst 0 7 && (inR p.rid 0 100000 && (inR p.seq 0 100000 && decide ((m9 : Int) ≤ 40)))))) := by show _ = _; rw [H9.out]; rfl
          go_wp2_with (first | (go_at_call 70; refine (impl_InRange _ _ _ _).mono ?_; rintro e w1 ⟨rfl, rfl⟩))
          go_ret
          exact ⟨by rw [HT.out, HQ.out]; simp [*], hb⟩

theorem valid_pidx {p : Pkt} (h : inR p.pidx 0 ((p.path.length : Int) - 1) = false) : validPkt p = false := by
  have hc : currentAS p = -1 := by
    rcases cur_cases p with ⟨_, hc⟩ | ⟨k, x, ek, hk, hx, hr, _⟩
    · unfold currentAS; rw [hc.out]
    · have := hr.out; rw [← ek, h] at this; cases this
  unfold validPkt
  rw [hc]
  simp
theorem valid_tail {p : Pkt} {k : Nat} {x : Part} (h1 : inR p.kind 1 3 = true) (h2 : encPath p.path = true) (h5 : inR p.beta 0 2147483646 = true) (ek : p.pidx = (k : Int)) (hx : p.path[k]? = some x) :
    validPkt p = (p.path.all someHops && (inR p.hidx 0 ((x.hops.length : Int) - 1) && tailOk p)) := by
  have hk := (List.getElem?_eq_some_iff.1 hx).1
  have hl : (p.path.length == 0) = false := by simp; intro e; rw [e] at hk; simp at hk
  have hq : (!decide (currentAS p < 0)) = inR p.hidx 0 ((x.hops.length : Int) - 1) := by
    rcases cur_cases p with ⟨hr, _⟩ | ⟨k', x', ek', hk', hx', hr, hj⟩
    · have := hr.out; rw [ek, inR_yes (by omega) (by omega)] at this; cases this
    · have : k' = k := by omega
      subst this
      have := hx'.out.symm.trans hx
      injection this with this
      subst this
      rcases hj with ⟨hr2, hc⟩ | ⟨j, y, ej, hjl, hy, hr2, hc⟩
      · rw [hr2.out]; unfold currentAS; rw [hc.out]; simp
      · rw [ej, hr2.out]; unfold currentAS; rw [hc.out]
        have := enc_ia h2 hx hy.out
        simp; omega
  unfold validPkt
  rw [h1, h2, h5, hl, hq]
  simp only [Bool.true_and, Bool.not_false]
  cases inR p.hidx 0 ((x.hops.length : Int) - 1) <;> simp

set_option maxRecDepth 100000 in
set_option maxHeartbeats 8000000 in
theorem spec_ValidPacket (p : Pkt) (cs : List Value) (w : World) (h : pktT.R w cs p) (hz : sz_pkt p ≤ 1048576) (hl : lenOk_pkt p) (hg : rng_pkt p) :
    Calls Try.prog 106 #[.agg cs.toArray] w fun e w' => e = .returned (.bool (validPkt p)) ∧ Below w.heap.size w w' := by
  obtain ⟨A3, c3, A9, c9, rfl, ⟨h3, m3⟩, _⟩ := pkt_form h
  have hs : sz_path p.path ≤ 1048576 := by unfold sz_pkt at hz; omega
  have hn0 : p.path.length ≤ 1048576 := by have : sz_path p.path = List.length p.path + (p.path.map sz_part).sum := rfl; omega
  have hm9 : p.pay.length ≤ 1048576 := by unfold sz_pkt at hz; omega
  obtain ⟨r, Hr⟩ : ∃ r, Hid (r = validPkt p) := ⟨_, rfl⟩
  rw [← Hr.out]
  obtain ⟨n, H⟩ : ∃ n, Hid (n = List.length p.path) := ⟨_, rfl⟩
  obtain ⟨m9, H9⟩ : ∃ n, Hid (n = List.length p.pay) := ⟨_, rfl⟩
  have HE := hid fun w' (hw : Below w.heap.size w w') => spec_EncodablePath p.path _ w' (path_mk (h3.below hw)) hs hl.1 hg.2.2.2.1
  have Hs := hid hs
  rw [← H.out] at HE
  rw [← H.out] at h3 hn0 ⊢
  rw [← H9.out] at hm9 ⊢
  clear h hz hl hg m3 hs
  obtain ⟨W, HW⟩ : ∃ W, Hid (W = w.alloc (.cells #[I p.kind, I p.src, I p.dst, .slice A3 n c3, I p.pidx, I p.hidx, I p.beta, I p.rid, I p.seq, .slice A9 m9 c9] 51)) := ⟨_, rfl⟩
  have x0 : Below w.heap.size w W := by rw [HW.out]; exact ext_alloc1 _ _
  have B0 : PkB W w.heap.size p A3 n c3 A9 m9 c9 := by rw [HW.out]; exact PkB.new _ _ _ _ _ _ _ _ _
  rcases and4 (inR p.kind 1 3) (encPath p.path) (inR p.pidx 0 ((n : Int) - 1)) (inR p.beta 0 2147483646) with h1 | ⟨h1, h2⟩ | ⟨h1, h2, h3'⟩ | ⟨h1, h2, h3', h4⟩ | ⟨h1, h2, h3', h4⟩
  · have HR : Hid (r = false) := by show r = _; rw [Hr.out]; unfold validPkt; rw [h1]; rfl
    go_enter Try.func106, Try.ntmps106
    go_wp2_with (fail)
    rw [← HW.out]
    obtain ⟨f0, f1, f2, f3, f4, f5, f6, f7, f8, f9⟩ := B0
    refine (spec_l1In _ _ _ _).mono ?_
    rintro e w1 ⟨rfl, rfl⟩
    go_wp2_with (fail)
    go_ret
    exact ⟨by rw [HR.out]; rfl, x0⟩
  · have HR : Hid (r = false) := by show r = _; rw [Hr.out]; unfold validPkt; rw [h1, h2]; rfl
    go_enter Try.func106, Try.ntmps106
    go_wp2_with (fail)
    rw [← HW.out]
    obtain ⟨f0, f1, f2, f3, f4, f5, f6, f7, f8, f9⟩ := B0
    refine (spec_l1In _ _ _ _).mono ?_
    rintro e w1 ⟨rfl, rfl⟩
    go_wp2_with (fail)
    refine (HE.out W x0).mono ?_
    rintro e w1 ⟨rfl, hb1⟩
    go_wp2_with (fail)
    go_ret
    exact ⟨by rw [HR.out]; rfl, ext_trans x0 hb1⟩
  · have HR : Hid (r = false) := by show r = _; rw [Hr.out]; exact valid_pidx (by rw [← H.out]; exact h3')
    go_enter Try.func106, Try.ntmps106
    go_wp2_with (fail)
    rw [← HW.out]
    obtain ⟨f0, f1, f2, f3, f4, f5, f6, f7, f8, f9⟩ := id B0
    refine (spec_l1In _ _ _ _).mono ?_
    rintro e w1 ⟨rfl, rfl⟩
    go_wp2_with (fail)
    refine (HE.out W x0).mono ?_
    rintro e w1 ⟨rfl, hb1⟩
    clear f0 f1 f2 f3 f4 f5 f6 f7 f8 f9
    obtain ⟨f0, f1, f2, f3, f4, f5, f6, f7, f8, f9⟩ := B0.below hb1
    go_wp2_with (fail)
    refine (spec_l1In _ _ _ _).mono ?_
    rintro e w2 ⟨rfl, rfl⟩
    go_wp2_with (fail)
    go_ret
    exact ⟨by rw [HR.out]; rfl, ext_trans x0 hb1⟩
  · have HR : Hid (r = false) := by show r = _; rw [Hr.out]; unfold validPkt; rw [h1, h2, h4]; simp
    go_enter Try.func106, Try.ntmps106
    go_wp2_with (fail)
    rw [← HW.out]
    obtain ⟨f0, f1, f2, f3, f4, f5, f6, f7, f8, f9⟩ := id B0
    refine (spec_l1In _ _ _ _).mono ?_
    rintro e w1 ⟨rfl, rfl⟩
    go_wp2_with (fail)
    refine (HE.out W x0).mono ?_
    rintro e w1 ⟨rfl, hb1⟩
    clear f0 f1 f2 f3 f4 f5 f6 f7 f8 f9
    obtain ⟨f0, f1, f2, f3, f4, f5, f6, f7, f8, f9⟩ := B0.below hb1
    go_wp2_with (fail)
    refine (spec_l1In _ _ _ _).mono ?_
    rintro e w2 ⟨rfl, rfl⟩
    go_wp2_with (fail)
    refine (spec_l3Ok _ _).mono ?_
    rintro e w2 ⟨rfl, rfl⟩
    go_wp2_with (fail)
    go_ret
    exact ⟨by rw [HR.out]; rfl, ext_trans x0 hb1⟩
  · obtain ⟨u1, u2⟩ := inR_iff.1 h3'
    obtain ⟨kk, ek⟩ := Int.eq_ofNat_of_zero_le u1
    have hkk : kk < n := by omega
    have hx' : p.path[kk]? = some (p.path[kk]'(by rw [← H.out]; exact hkk)) := List.getElem?_eq_getElem _
    obtain ⟨X, HX⟩ : ∃ X, Hid (p.path[kk]? = some X) := ⟨_, hx'⟩
    clear hx' u1 u2
    have HR : Hid (r = (p.path.all someHops && (inR p.hidx 0 ((X.hops.length : Int) - 1) && tailOk p))) := by show r = _; rw [Hr.out]; exact valid_tail h1 h2 h4 ek HX.out
    have EK := hid ek
    clear ek
    go_enter Try.func106, Try.ntmps106
    go_wp2_with (fail)
    rw [← HW.out]
    obtain ⟨f0, f1, f2, f3, f4, f5, f6, f7, f8, f9⟩ := id B0
    refine (spec_l1In _ _ _ _).mono ?_
    rintro e w1 ⟨rfl, rfl⟩
    go_wp2_with (fail)
    refine (HE.out W x0).mono ?_
    rintro e w1 ⟨rfl, hb1⟩
    clear f0 f1 f2 f3 f4 f5 f6 f7 f8 f9
    have B1 := B0.below hb1
    obtain ⟨f0, f1, f2, f3, f4, f5, f6, f7, f8, f9⟩ := id B1
    go_wp2_with (fail)
    refine (spec_l1In _ _ _ _).mono ?_
    rintro e w2 ⟨rfl, rfl⟩
    go_wp2_with (fail)
    refine (spec_l3Ok _ _).mono ?_
    rintro e w2 ⟨rfl, rfl⟩
    go_wp2_with (fail)
    have X2 := ext_trans x0 hb1
    clear f0 f1 f2 f3 f4 f5 f6 f7 f8 f9 B0 h1 h2 h3' h4
    go_loopw [3] (fun i wr => ∃ k : Nat, k ≤ n ∧ i = I k ∧ (p.path.take k).all someHops = true ∧ Below w.heap.size w wr ∧ PkB wr w.heap.size p A3 n c3 A9 m9 c9) (fun i _ => n - (intOf i).toNat)
    case atStart => exact ⟨0, by omega, rfl, rfl, X2, B1⟩
    case round =>
      rename_i wr
      obtain ⟨k, hk, rfl, hall, hb, B⟩ := hrel
      have Ha := hid hall
      clear hall X2 B1 x0 hb1
      obtain ⟨f0, f1, f2, f3, f4, f5, f6, f7, f8, f9⟩ := id B
      by_cases hlt : k < n
      · clear f0 f1 f2 f4 f5 f6 f7 f8 f9
        obtain ⟨g, o, q, x, B', d, e, hg, hxk, hin, hd, c0, c1, c2, c3⟩ := part_at (h3.below hb) (by rw [← H.out]; exact hlt)
        rw [← H.out] at e
        cases e
        obtain ⟨m, Hm⟩ : ∃ m, Hid (m = x.hops.length) := ⟨_, rfl⟩
        rw [← Hm.out] at c3
        clear hin hd
        by_cases hm : m = 0
        · have Hv : Hid (someHops x = false) := by show _ = _; unfold someHops; rw [← Hm.out, hm]; rfl
          clear Hm
          subst hm
          go_wp2_with (fail)
          go_ret
          exact ⟨by rw [HR.out, all_bad hxk.out Hv.out]; rfl, hb⟩
        · have Hv : Hid (someHops x = true) := by show _ = _; unfold someHops; rw [← Hm.out]; simp [hm]
          have hm1 : ((m : Int) == 0) = false := by simp; omega
          have hm2 : (m == 0) = false := by simp; omega
          go_wp2_with (fail)
          go_roundw
          case rel => exact ⟨k + 1, by omega, by go_num, all_succ Ha.out hxk.out Hv.out, hb, B⟩
          case measure => simp [intOf]; omega
      · have hkn : k = n := by omega
        have hA := Ha.out
        rw [List.take_of_length_le (by rw [← H.out]; omega)] at hA
        obtain ⟨g, o, q, x, B', d, e, hg, hxk, hin, hd, c0, c1, c2, c3'⟩ := part_at (k := kk) (h3.below hb) (by rw [← H.out]; exact hkk)
        rw [← H.out] at e
        cases e
        obtain rfl : X = x := by have := HX.out.symm.trans hxk.out; injection this
        have hm0 : X.hops.length ≤ 1048576 := Nat.le_trans (mem_sz_part (List.mem_of_getElem? hxk.out)) Hs.out
        obtain ⟨m, Hm⟩ : ∃ m, Hid (m = X.hops.length) := ⟨_, rfl⟩
        rw [← Hm.out] at c3' hm0 HR
        have HT : Hid (r = (inR p.hidx 0 ((m : Int) - 1) && tailOk p)) := by show _ = _; rw [HR.out, hA]; rfl
        have HQ : Hid (tailOk p = (inR p.src 0 7 && (inR p.dst 0 7 && (inR p.rid 0 100000 && (inR p.seq 0 100000 && decide ((m9 : Int) ≤ 40)))))) := by show _ = _; rw [H9.out]; rfl
        rw [EK.out] at f4
        clear HR hA Ha Hr hin hd c0 c1 c2 f0 f6
        have a1 : ∀ m : Xt wr, m.w.cell? ⟨w.heap.size, 1, none⟩ = some (I p.src) := fun m => ck m.h f1
        have a2 : ∀ m : Xt wr, m.w.cell? ⟨w.heap.size, 2, none⟩ = some (I p.dst) := fun m => ck m.h f2
        have a3 : ∀ m : Xt wr, m.w.cell? ⟨w.heap.size, 3, none⟩ = some (.slice (some ⟨g, o, none⟩) n c3) := fun m => ck m.h f3
        have a4 : ∀ m : Xt wr, m.w.cell? ⟨w.heap.size, 4, none⟩ = some (I (kk : Int)) := fun m => ck m.h f4
        have a5 : ∀ m : Xt wr, m.w.cell? ⟨w.heap.size, 5, none⟩ = some (I p.hidx) := fun m => ck m.h f5
        have a7 : ∀ m : Xt wr, m.w.cell? ⟨w.heap.size, 7, none⟩ = some (I p.rid) := fun m => ck m.h f7
        have a8 : ∀ m : Xt wr, m.w.cell? ⟨w.heap.size, 8, none⟩ = some (I p.seq) := fun m => ck m.h f8
        have a9 : ∀ m : Xt wr, m.w.cell? ⟨w.heap.size, 9, none⟩ = some (.slice A9 m9 c9) := fun m => ck m.h f9
        have b3 : ∀ m' : Xt wr, m'.w.cell? ⟨g, o + kk * 4 + 3, none⟩ = some (.slice B' m d) := fun m => ck m.h c3'
        clear f1 f2 f4 f5 f7 f8 f9 c3'
        rcases and5 (inR p.hidx 0 ((m : Int) - 1)) (inR p.src 0 7) (inR p.dst 0 7) (inR p.rid 0 100000) (inR p.seq 0 100000) with h1 | ⟨h1, h2⟩ | ⟨h1, h2, h3⟩ | ⟨h1, h2, h3, h4⟩ | ⟨h1, h2, h3, h4, h5⟩ | ⟨h1, h2, h3, h4, h5⟩
        all_goals
          go_wp2_with (fail)
          refine wp_region_ext (by kernel_rfl) (by kernel_rfl) ?_
          repeat (go_big_quiet_step (first
            | (go_at_call_of 64 (I p.hidx); exact ext_of_same _ (same_false (hid h1) (spec_l1In _ _ _ _)))
            | (go_at_call_of 64 (I p.src); exact ext_of_same _ (same_false (hid h2) (spec_l1In _ _ _ _)))
            | (go_at_call_of 64 (I p.dst); exact ext_of_same _ (same_false (hid h3) (spec_l1In _ _ _ _)))
            | (go_at_call_of 64 (I p.rid); exact ext_of_same _ (same_false (hid h4) (spec_l1In _ _ _ _)))
            | (go_at_call_of 64 (I p.seq); exact ext_of_same _ (same_false (hid h5) (spec_l1In _ _ _ _)))))
          refine wpQuiet_nil ?_
          rintro w1 ⟨⟨_, hb1⟩, rfl⟩
          go_wp2_with (fail)
          go_ret
          exact ⟨by rw [HT.out, HQ.out]; simp [*], ext_trans hb hb1⟩

end Go.Proofs.Ytfgobdejlfojiaa
