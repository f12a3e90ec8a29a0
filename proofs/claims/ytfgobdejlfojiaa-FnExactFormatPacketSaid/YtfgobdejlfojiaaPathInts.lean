/- The numbers of a path: PathDigest and PathInts, of the program and of the reference. -/
import Derived.Test.YtfgobdejlfojiaaNum
import Derived.Test.YtfgobdejlfojiaaFamPath
import Derived.Test.YtfgobdejlfojiaaFamInt
import Derived.Test.YtfgobdejlfojiaaMemB
import Derived.Deep.RegionHeld3
namespace Go.Proofs.Ytfgobdejlfojiaa
open Go.RowKit
set_option linter.unusedVariables false

/-- The numbers of the parts and of their hops, one behind the other. -/
def intsOf (f : Part → List Int) (g : Hop → List Int) (p : Path) : List Int := p.flatMap fun x => f x ++ x.hops.flatMap g
theorem intsOf_snoc (f : Part → List Int) (g : Hop → List Int) (p : Path) (x : Part) : intsOf f g (p ++ [x]) = intsOf f g p ++ (f x ++ x.hops.flatMap g) := by simp [intsOf]
theorem flat_snoc {α β : Type} {g : α → List β} {l : List α} {k : Nat} {x : α} (h : l[k]? = some x) : (l.take (k + 1)).flatMap g = (l.take k).flatMap g ++ g x := by rw [take_succ h]; simp

theorem len_flat_le {α β : Type} (g : α → List β) (m : Nat) (l : List α) (hm : ∀ x ∈ l, (g x).length ≤ m) : (l.flatMap g).length ≤ m * l.length := by
  induction l with
  | nil => simp
  | cons a t ih =>
    have h1 := hm a (by simp)
    have h2 := ih fun x hx => hm x (by simp [hx])
    rw [List.flatMap_cons, List.length_append, List.length_cons, Nat.mul_add, Nat.mul_one]
    omega

theorem intsOf_len (f : Part → List Int) (g : Hop → List Int) (hf : ∀ x, (f x).length ≤ 5) (hg : ∀ x, (g x).length ≤ 5) (p : Path) : (intsOf f g p).length ≤ 5 * sz_path p := by
  show _ ≤ 5 * (List.length p + (p.map sz_part).sum)
  unfold intsOf
  induction p with
  | nil => simp
  | cons a t ih =>
    have h1 := hf a
    have h2 := len_flat_le g 5 a.hops fun x _ => hg x
    have h3 : sz_part a = a.hops.length := rfl
    rw [List.flatMap_cons, List.length_append, List.length_append, List.length_cons, List.map_cons, List.sum_cons]
    omega

theorem take_len_le {f : Part → List Int} {g : Hop → List Int} {p : Path} {k : Nat} {x : Part} (h : p[k]? = some x) (j : Nat) : (intsOf f g (p.take k)).length + (f x).length + ((x.hops.take j).flatMap g).length ≤ (intsOf f g p).length := by
  have e : p = p.take k ++ x :: p.drop (k + 1) := by
    have h2 := List.getElem?_eq_some_iff.1 h
    rw [← h2.2, ← List.drop_eq_getElem_cons h2.1, List.take_append_drop]
  have e2 : (x.hops.flatMap g).length = ((x.hops.take j).flatMap g).length + ((x.hops.drop j).flatMap g).length := by
    rw [← List.length_append, ← List.flatMap_append, List.take_append_drop]
  have e3 : (intsOf f g p).length = (intsOf f g (p.take k)).length + ((f x).length + (x.hops.flatMap g).length) + (intsOf f g (p.drop (k + 1))).length := by
    conv => lhs; rw [e]
    unfold intsOf
    simp
    omega
  omega

theorem mem_len_path {p : Path} {x : Part} (h : x ∈ p) : x.hops.length ≤ sz_path p := by
  have := le_sum_of_mem (List.mem_map.2 ⟨x, h, rfl⟩ : sz_part x ∈ p.map sz_part)
  show _ ≤ List.length p + _
  have e : sz_part x = x.hops.length := rfl
  omega

theorem int_one (w : World) (a : Int) : intT.R w [I a] a := rfl

def digP (x : Part) : List Int := [x.kind, x.ts, x.beta]
def digH (h : Hop) : List Int := [h.ia, h.ing, h.eg]
def piP (x : Part) : List Int := [x.kind, x.ts, x.beta, (x.hops.length : Int)]
def piH (h : Hop) : List Int := [h.ia, h.ing, h.eg, h.exp, h.mac]
def pathInts (p : Path) : List Int := intsOf piP piH p
def pathDigest (p : Path) : Int := digest (intsOf digP digH p)

set_option maxRecDepth 100000 in
set_option maxHeartbeats 1000000 in
theorem impl_PathDigest (p : Path) (cs : List Value) (w : World) (h : pathT.R w cs p) (hz : sz_path p ≤ 1048576) (hl : lenOk_path p) (hg : rng_path p) :
    Calls Try.prog 167 #[.agg cs.toArray] w fun r w' => r = .returned (I (pathDigest p)) ∧ Below w.heap.size w w' := by
  obtain ⟨A, c, rfl, ⟨h, _⟩⟩ := path_form h
  obtain ⟨n, H⟩ : ∃ n, Hid (n = p.length) := ⟨_, rfl⟩
  have hn : n ≤ 1048576 := by rw [H.out]; have : sz_path p = List.length p + (p.map sz_part).sum := rfl; omega
  have hL : (intsOf digP digH p).length ≤ 5242880 := by have := intsOf_len digP digH (fun _ => by simp [digP]) (fun _ => by simp [digH]) p; omega
  have Hz := hid hz
  clear hz hl hg
  rw [← H.out] at h ⊢
  have hb0 : Below w.heap.size w (w.alloc (.cells #[.slice A n c] 39)) := ext_alloc1 _ _
  go_enter Try.func167, Try.ntmps167
  go_wp2
  go_loopw [3, 11] (fun v i wr => ∃ k : Nat, k ≤ n ∧ i = I k ∧ Below w.heap.size w wr ∧ ∃ fp, SlO intT 3 w.heap.size wr v (intsOf digP digH (p.take k)) fp) (fun _ i _ => n - (intOf i).toNat)
  case atStart => exact ⟨0, by omega, rfl, hb0, [], SlO.nil⟩
  case round =>
    rename_i wr
    obtain ⟨k, hk, rfl, hb, fp, hO⟩ := hrel
    clear hb0
    obtain ⟨wo, rfl⟩ : ∃ wo : World, wo = wr := ⟨_, rfl⟩
    by_cases hlt : k < n
    · obtain ⟨g, o, q, x, B, d, e, hg, hxk, hin, hd, c0, c1, c2, c3⟩ := part_at h (by rw [← H.out]; exact hlt)
      rw [← H.out] at e
      cases e
      replace c0 := ck hb c0
      replace c1 := ck hb c1
      replace c2 := ck hb c2
      replace c3 := ck hb c3
      have hT := fun j => take_len_le (f := digP) (g := digH) hxk.out j
      have h0 := hT 0
      have HT := hid hT
      clear hT
      have hsn : Hid (intsOf digP digH (p.take (k + 1)) = intsOf digP digH (p.take k) ++ (digP x ++ x.hops.flatMap digH)) := by show _ = _; rw [take_succ hxk.out, intsOf_snoc]
      obtain ⟨m, Hm⟩ : ∃ m, Hid (m = x.hops.length) := ⟨_, rfl⟩
      rw [← Hm.out] at hin hd c3
      have hw := hb.size
      obtain ⟨l0, Hl0⟩ : ∃ l0, Hid (l0 = intsOf digP digH (p.take k)) := ⟨_, rfl⟩
      rw [← Hl0.out] at hO hsn HT h0
      have h0' : l0.length + 3 ≤ 5242880 := by have e : (digP x).length = 3 := rfl; omega
      clear h0
      have hm2 : m ≤ 1048576 := by rw [Hm.out]; exact Nat.le_trans (mem_len_path (List.mem_of_getElem? hxk.out)) Hz.out
      go_wp2_with ((at_builtin; refine wpList_cat int_flat (.tmp 15) (.tmp 22) et_int (SlO.alloc (SlO.alloc hO _) _) (lit_read _ 3 I int_one [x.kind, x.ts, x.beta] 3 (Nat.le_refl _) (wo.heap.size + 1) 3 (by simp) rfl _ rfl) ?_ ?_ ?_ rfl rfl rfl rfl ?_))
      · simp; omega
      · simp [maxLen]; omega
      · simp; omega
      · intro v1 w1 fp1 hO1 hfp1 hkp1
        have x1 : Below w.heap.size w w1 := (ext_alloc (ext_alloc hb _) _).trans (hkp1.below (fun b hb => (hO.size_ok b hb).1) (by simp; omega))
        have p3 : w1.cell? ⟨wo.heap.size, 3, none⟩ = some (.slice B m d) := hkp1.ck (by simp) (fun hm => by have := (hO.size_ok _ hm).2; omega)
        clear hkp1 hfp1 hO c0 c1 c2 c3
        go_wp2
        go_loopw [3, 27] (fun v i wr => ∃ j : Nat, j ≤ m ∧ i = I j ∧ Below w.heap.size w wr ∧ ∃ fp, SlO intT 3 w.heap.size wr v (l0 ++ digP x ++ (x.hops.take j).flatMap digH) fp) (fun _ i _ => m - (intOf i).toNat)
        case atStart => exact ⟨0, by omega, rfl, x1, fp1, by simpa [digP] using hO1⟩
        case round =>
          obtain ⟨wi, rfl⟩ : ∃ wi : World, wi = wr := ⟨_, rfl⟩
          obtain ⟨j, hj, rfl, hbi, fpi, hOi⟩ := hrel
          clear x1 p3 hO1
          by_cases hjl : j < m
          · obtain ⟨g', o', q', y, e', hg', hyj, b0, b1, b2, b3, b4⟩ := hop_at hin (by rw [← Hm.out]; exact hjl)
            rw [← Hm.out] at e'
            cases e'
            replace b0 := ck hbi b0
            replace b1 := ck hbi b1
            replace b2 := ck hbi b2
            replace b3 := ck hbi b3
            replace b4 := ck hbi b4
            have hwi := hbi.size
            have HQ : Hid (l0 ++ digP x ++ (x.hops.take (j + 1)).flatMap digH = (l0 ++ digP x ++ (x.hops.take j).flatMap digH) ++ [y.ia, y.ing, y.eg]) := by show _ = _; rw [flat_snoc hyj.out, ← List.append_assoc]; rfl
            have hlen : (l0 ++ digP x ++ (x.hops.take j).flatMap digH).length + 3 ≤ 5242880 := by
              have h1 := HT.out (j + 1)
              have h2 := congrArg List.length HQ.out
              simp only [List.length_append, List.length_cons, List.length_nil] at h2 ⊢
              omega
            obtain ⟨li, Hli⟩ : ∃ li, Hid (li = l0 ++ digP x ++ (x.hops.take j).flatMap digH) := ⟨_, rfl⟩
            rw [← Hli.out] at hOi HQ hlen
            go_wp2_with ((at_builtin; refine wpList_cat int_flat (.tmp 31) (.tmp 38) et_int (SlO.alloc (SlO.alloc hOi _) _) (lit_read _ 3 I int_one [y.ia, y.ing, y.eg] 3 (Nat.le_refl _) (wi.heap.size + 1) 3 (by simp) rfl _ rfl) ?_ ?_ ?_ rfl rfl rfl rfl ?_))
            · simp; omega
            · simp [maxLen]; omega
            · simp; omega
            · intro v2 w2 fp2 hO2 hfp2 hkp2
              have x2 : Below w.heap.size w w2 := (ext_alloc (ext_alloc hbi _) _).trans (hkp2.below (fun b hb => (hOi.size_ok b hb).1) (by simp; omega))
              go_wp2
              go_roundw
              case rel => exact ⟨j + 1, by omega, by go_num, x2, fp2, by rw [HQ.out]; exact hO2⟩
              case measure => simp [intOf]; omega
          · have hjm : j = m := by omega
            subst hjm
            have hfin : Hid (intsOf digP digH (p.take (k + 1)) = l0 ++ digP x ++ (x.hops.take j).flatMap digH) := by
              show _ = _
              rw [hsn.out, Hm.out, List.take_length, List.append_assoc]
            go_wp2
            go_roundw
            case rel => exact ⟨k + 1, by omega, by go_num, hbi, fpi, by rw [hfin.out]; exact hOi⟩
            case measure => simp [intOf]; omega
    · have hkn : k = n := by omega
      subst hkn
      rw [H.out, List.take_length] at hO
      go_wp2_with (fail)
      refine (impl_Digest _ _ _ hO.read (by omega)).mono ?_
      rintro e w1 ⟨rfl, rfl⟩
      go_wp2_with (fail)
      go_ret
      exact ⟨rfl, hb⟩

set_option maxRecDepth 100000 in
set_option maxHeartbeats 2000000 in
theorem spec_PathDigest (p : Path) (cs : List Value) (w : World) (h : pathT.R w cs p) (hz : sz_path p ≤ 1048576) (hl : lenOk_path p) (hg : rng_path p) :
    Calls Try.prog 164 #[.agg cs.toArray] w fun r w' => r = .returned (I (pathDigest p)) ∧ Below w.heap.size w w' := by
  obtain ⟨A, c, rfl, ⟨h, _⟩⟩ := path_form h
  obtain ⟨n, H⟩ : ∃ n, Hid (n = p.length) := ⟨_, rfl⟩
  have hn : n ≤ 1048576 := by rw [H.out]; have : sz_path p = List.length p + (p.map sz_part).sum := rfl; omega
  have hL : (intsOf digP digH p).length ≤ 5242880 := by have := intsOf_len digP digH (fun _ => by simp [digP]) (fun _ => by simp [digH]) p; omega
  have Hz := hid hz
  clear hz hl hg
  rw [← H.out] at h ⊢
  have hb0 : Below w.heap.size w ((w.alloc (.cells #[.slice A n c] 39)).alloc (.cells #[] 3)) := ext_alloc (ext_alloc1 _ _) _
  have P0 : Hid (((w.alloc (.cells #[.slice A n c] 39)).alloc (.cells #[] 3)).cell? ⟨w.heap.size, 0, none⟩ = some (.slice A n c)) := by show _ = _; simp
  have hE : SlO intT 3 (w.heap.size + 1) ((w.alloc (.cells #[.slice A n c] 39)).alloc (.cells #[] 3)) (.slice (some ⟨w.heap.size + 1, 0, none⟩) 0 0) [] [w.heap.size + 1] := by
    have := SlO.empty intT 3 (w.alloc (.cells #[.slice A n c] 39))
    simpa using this
  have HE := hid hE
  clear hE
  go_enter Try.func164, Try.ntmps164
  go_wp2
  go_loopw [3, 4] (fun v i wr => ∃ k : Nat, k ≤ n ∧ i = I k ∧ Below w.heap.size w wr ∧ w.heap.size + 1 ≤ wr.heap.size ∧ wr.cell? ⟨w.heap.size, 0, none⟩ = some (.slice A n c) ∧ ∃ fp, SlO intT 3 (w.heap.size + 1) wr v (intsOf digP digH (p.take k)) fp) (fun _ i _ => n - (intOf i).toNat)
  case atStart => exact ⟨0, by omega, rfl, hb0, by simp, P0.out, _, HE.out⟩
  case round =>
    obtain ⟨k, hk, rfl, hb, hs1, p0, fp, hO⟩ := hrel
    clear hb0 P0 HE
    obtain ⟨wo, rfl⟩ : ∃ wo : World, wo = wr := ⟨_, rfl⟩
    by_cases hlt : k < n
    · obtain ⟨g, o, q, x, B, d, e, hg, hxk, hin, hd, c0, c1, c2, c3⟩ := part_at h (by rw [← H.out]; exact hlt)
      rw [← H.out] at e
      cases e
      have d0 := ck hb c0
      have d1 := ck hb c1
      have d2 := ck hb c2
      have d3 := ck hb c3
      have C0 := hid c0
      have C1 := hid c1
      have C2 := hid c2
      have C3 := hid c3
      clear c0 c1 c2 c3
      have hT := fun j => take_len_le (f := digP) (g := digH) hxk.out j
      have h0 := hT 0
      have HT := hid hT
      clear hT
      have hsn : Hid (intsOf digP digH (p.take (k + 1)) = intsOf digP digH (p.take k) ++ (digP x ++ x.hops.flatMap digH)) := by show _ = _; rw [take_succ hxk.out, intsOf_snoc]
      have hm2 : x.hops.length ≤ 1048576 := Nat.le_trans (mem_len_path (List.mem_of_getElem? hxk.out)) Hz.out
      obtain ⟨l0, Hl0⟩ : ∃ l0, Hid (l0 = intsOf digP digH (p.take k)) := ⟨_, rfl⟩
      rw [← Hl0.out] at hO hsn HT h0
      have h0' : l0.length + 3 ≤ 5242880 := by have e : (digP x).length = 3 := rfl; omega
      clear h0
      have hlo := fun b hb => (hO.size_ok b hb).1
      have Hlo := hid hlo
      clear hlo
      go_wp2
      go_region_held3 (fun w' => w'.cell? ⟨w.heap.size, 0, none⟩ = some (.slice (some ⟨g, o, none⟩) n c) ∧ w'.cell? ⟨g, o + k * 4, none⟩ = some (I x.kind) ∧ w'.cell? ⟨g, o + k * 4 + 1, none⟩ = some (I x.ts) ∧ w'.cell? ⟨g, o + k * 4 + 2, none⟩ = some (I x.beta) ∧ w'.cell? ⟨g, o + k * 4 + 3, none⟩ = some (.slice B x.hops.length d))
        (first | exact ⟨p0, d0, d1, d2, d3⟩ | exact ⟨pb, a0, a1, a2, a3⟩ | exact ⟨ck (ext_alloc1 _ _) p0, ck (ext_alloc1 _ _) d0, ck (ext_alloc1 _ _) d1, ck (ext_alloc1 _ _) d2, ck (ext_alloc1 _ _) d3⟩ | go_keep)
        ((refine step_cat int_flat (.tmp 15) (.tmp 34) et_int (SlO.drew (SlO.alloc hO _)) ((lit_read _ 3 I int_one [x.kind, x.ts, x.beta] 3 (Nat.le_refl _) wo.heap.size 3 rfl rfl _ rfl).below (below_drew _)) (by simp; omega) (by simp [maxLen]; omega) (by simp; omega) (by rfl) (by rfl) (by rfl) (by rfl) ?_; intro v1 w1 fp1 hO1 hfp1 hkp1; have x1 : Below w.heap.size w w1 := ((ext_alloc hb _).drew).trans (hkp1.below (fun b hb => Nat.le_trans (Nat.le_succ _) (Hlo.out b hb)) (by simp; omega)); have a0 := ck x1 C0.out; have a1 := ck x1 C1.out; have a2 := ck x1 C2.out; have a3 := ck x1 C3.out; have pb := hkp1.ck (show (World.drew (World.alloc wo _)).cell? ⟨w.heap.size, 0, none⟩ = some (.slice (some ⟨g, o, none⟩) n c) from ck (ext_alloc1 _ _) p0) (fun hm => by have := Hlo.out _ hm; omega)))
      have z1 : w.heap.size + 1 ≤ w1.heap.size := by have := hkp1.size; simp at this; omega
      clear hkp1 hfp1 hO d0 d1 d2 d3 a0 a1 a2 a3
      obtain ⟨m, Hm⟩ : ∃ m, Hid (m = x.hops.length) := ⟨_, rfl⟩
      rw [← Hm.out] at hin hd hm2
      have C3' : Hid (w.cell? ⟨g, o + k * 4 + 3, none⟩ = some (.slice B m d)) := by show _ = _; rw [Hm.out]; exact C3.out
      go_wp2
      go_loopw [3, 5] (fun v i wr => ∃ j : Nat, j ≤ m ∧ i = I j ∧ Below w.heap.size w wr ∧ w.heap.size + 1 ≤ wr.heap.size ∧ wr.cell? ⟨w.heap.size, 0, none⟩ = some (.slice (some ⟨g, o, none⟩) n c) ∧ ∃ fp, SlO intT 3 (w.heap.size + 1) wr v (l0 ++ digP x ++ (x.hops.take j).flatMap digH) fp) (fun _ i _ => m - (intOf i).toNat)
      case atStart => exact ⟨0, by omega, rfl, x1, z1, pb, fp1, by simpa [digP] using hO1⟩
      case round =>
        obtain ⟨j, hj, rfl, hbi, hs2, pi, fpi, hOi⟩ := hrel
        obtain ⟨wi, rfl⟩ : ∃ wi : World, wi = wr := ⟨_, rfl⟩
        clear x1 z1 pb hO1 p0
        have e3 := ck hbi C3'.out
        by_cases hjl : j < m
        · obtain ⟨g', o', q', y, e', hg', hyj, b0, b1, b2, b3, b4⟩ := hop_at hin (by rw [← Hm.out]; exact hjl)
          rw [← Hm.out] at e'
          cases e'
          replace b0 := ck hbi b0
          replace b1 := ck hbi b1
          replace b2 := ck hbi b2
          replace b3 := ck hbi b3
          replace b4 := ck hbi b4
          have HQ : Hid (l0 ++ digP x ++ (x.hops.take (j + 1)).flatMap digH = (l0 ++ digP x ++ (x.hops.take j).flatMap digH) ++ [y.ia, y.ing, y.eg]) := by show _ = _; rw [flat_snoc hyj.out, ← List.append_assoc]; rfl
          have hlen : (l0 ++ digP x ++ (x.hops.take j).flatMap digH).length + 3 ≤ 5242880 := by
            have h1 := HT.out (j + 1)
            have h2 := congrArg List.length HQ.out
            simp only [List.length_append, List.length_cons, List.length_nil] at h2 ⊢
            omega
          obtain ⟨li, Hli⟩ : ∃ li, Hid (li = l0 ++ digP x ++ (x.hops.take j).flatMap digH) := ⟨_, rfl⟩
          rw [← Hli.out] at hOi HQ hlen
          go_wp2_with ((at_builtin; refine wpList_cat int_flat (.tmp 56) (.tmp 63) et_int (SlO.alloc (SlO.alloc hOi _) _) (lit_read _ 3 I int_one [y.ia, y.ing, y.eg] 3 (Nat.le_refl _) (wi.heap.size + 1) 3 (by simp) rfl _ rfl) ?_ ?_ ?_ rfl rfl rfl rfl ?_))
          · simp; omega
          · simp [maxLen]; omega
          · simp; omega
          · intro v2 w2 fp2 hO2 hfp2 hkp2
            have x2 : Below w.heap.size w w2 := (ext_alloc (ext_alloc hbi _) _).trans (hkp2.below (fun b hb => by have := (hOi.size_ok b hb).1; omega) (by simp; omega))
            have pc := hkp2.ck (ck (ext_alloc1 _ _) (ck (ext_alloc1 _ _) pi)) (fun hm => by have := (hOi.size_ok _ hm).1; omega)
            have z2 : w.heap.size + 1 ≤ w2.heap.size := by have := hkp2.size; simp at this; omega
            go_wp2
            go_roundw
            case rel => exact ⟨j + 1, by omega, by go_num, x2, z2, pc, fp2, by rw [HQ.out]; exact hO2⟩
            case measure => simp [intOf]; omega
        · have hjm : j = m := by omega
          subst hjm
          have hfin : Hid (intsOf digP digH (p.take (k + 1)) = l0 ++ digP x ++ (x.hops.take j).flatMap digH) := by
            show _ = _
            rw [hsn.out, Hm.out, List.take_length, List.append_assoc]
          go_wp2
          go_roundw
          case rel => exact ⟨k + 1, by omega, by go_num, hbi, hs2, pi, fpi, by rw [hfin.out]; exact hOi⟩
          case measure => simp [intOf]; omega
    · have hkn : k = n := by omega
      subst hkn
      rw [H.out, List.take_length] at hO
      go_wp2_with (fail)
      refine (spec_Digest _ _ _ hO.read (by omega)).mono ?_
      rintro e w1 ⟨rfl, rfl⟩
      go_wp2_with (fail)
      go_ret
      exact ⟨rfl, hb⟩

set_option maxRecDepth 100000 in
set_option maxHeartbeats 2000000 in
theorem spec_PathInts (p : Path) (cs : List Value) (w : World) (h : pathT.R w cs p) (hz : sz_path p ≤ 1048576) (hl : lenOk_path p) (hg : rng_path p) :
    Calls Try.prog 158 #[.agg cs.toArray] w fun r w' => ∃ v fp, r = .returned v ∧ SlO intT 3 w.heap.size w' v (pathInts p) fp ∧ Below w.heap.size w w' := by
  obtain ⟨A, c, rfl, ⟨h, _⟩⟩ := path_form h
  obtain ⟨n, H⟩ : ∃ n, Hid (n = p.length) := ⟨_, rfl⟩
  have hn : n ≤ 1048576 := by rw [H.out]; have : sz_path p = List.length p + (p.map sz_part).sum := rfl; omega
  have hL : (intsOf piP piH p).length ≤ 5242880 := by have := intsOf_len piP piH (fun _ => by simp [piP]) (fun _ => by simp [piH]) p; omega
  have Hz := hid hz
  clear hz hl hg
  rw [← H.out] at h ⊢
  have hb0 : Below w.heap.size w ((w.alloc (.cells #[.slice A n c] 39)).alloc (.cells #[] 3)) := ext_alloc (ext_alloc1 _ _) _
  have P0 : Hid (((w.alloc (.cells #[.slice A n c] 39)).alloc (.cells #[] 3)).cell? ⟨w.heap.size, 0, none⟩ = some (.slice A n c)) := by show _ = _; simp
  have hE : SlO intT 3 (w.heap.size + 1) ((w.alloc (.cells #[.slice A n c] 39)).alloc (.cells #[] 3)) (.slice (some ⟨w.heap.size + 1, 0, none⟩) 0 0) [] [w.heap.size + 1] := by
    have := SlO.empty intT 3 (w.alloc (.cells #[.slice A n c] 39))
    simpa using this
  have HE := hid hE
  clear hE
  go_enter Try.func158, Try.ntmps158
  go_wp2
  go_loopw [3, 4] (fun v i wr => ∃ k : Nat, k ≤ n ∧ i = I k ∧ Below w.heap.size w wr ∧ w.heap.size + 1 ≤ wr.heap.size ∧ wr.cell? ⟨w.heap.size, 0, none⟩ = some (.slice A n c) ∧ ∃ fp, SlO intT 3 (w.heap.size + 1) wr v (intsOf piP piH (p.take k)) fp) (fun _ i _ => n - (intOf i).toNat)
  case atStart => exact ⟨0, by omega, rfl, hb0, by simp, P0.out, _, HE.out⟩
  case round =>
    obtain ⟨k, hk, rfl, hb, hs1, p0, fp, hO⟩ := hrel
    clear hb0 P0 HE
    obtain ⟨wo, rfl⟩ : ∃ wo : World, wo = wr := ⟨_, rfl⟩
    by_cases hlt : k < n
    · obtain ⟨g, o, q, x, B, d, e, hg, hxk, hin, hd, c0, c1, c2, c3⟩ := part_at h (by rw [← H.out]; exact hlt)
      rw [← H.out] at e
      cases e
      have d0 := ck hb c0
      have d1 := ck hb c1
      have d2 := ck hb c2
      have d3 := ck hb c3
      have C0 := hid c0
      have C1 := hid c1
      have C2 := hid c2
      have C3 := hid c3
      clear c0 c1 c2 c3
      have hT := fun j => take_len_le (f := piP) (g := piH) hxk.out j
      have h0 := hT 0
      have HT := hid hT
      clear hT
      have hsn : Hid (intsOf piP piH (p.take (k + 1)) = intsOf piP piH (p.take k) ++ (piP x ++ x.hops.flatMap piH)) := by show _ = _; rw [take_succ hxk.out, intsOf_snoc]
      have hm2 : x.hops.length ≤ 1048576 := Nat.le_trans (mem_len_path (List.mem_of_getElem? hxk.out)) Hz.out
      obtain ⟨l0, Hl0⟩ : ∃ l0, Hid (l0 = intsOf piP piH (p.take k)) := ⟨_, rfl⟩
      rw [← Hl0.out] at hO hsn HT h0
      have h0' : l0.length + 4 ≤ 5242880 := by have e : (piP x).length = 4 := rfl; omega
      clear h0
      have hlo := fun b hb => (hO.size_ok b hb).1
      have Hlo := hid hlo
      clear hlo
      go_wp2
      go_region_held3 (fun w' => w'.cell? ⟨w.heap.size, 0, none⟩ = some (.slice (some ⟨g, o, none⟩) n c) ∧ w'.cell? ⟨g, o + k * 4, none⟩ = some (I x.kind) ∧ w'.cell? ⟨g, o + k * 4 + 1, none⟩ = some (I x.ts) ∧ w'.cell? ⟨g, o + k * 4 + 2, none⟩ = some (I x.beta) ∧ w'.cell? ⟨g, o + k * 4 + 3, none⟩ = some (.slice B x.hops.length d))
        (first | exact ⟨p0, d0, d1, d2, d3⟩ | exact ⟨pb, a0, a1, a2, a3⟩ | exact ⟨ck (ext_alloc1 _ _) p0, ck (ext_alloc1 _ _) d0, ck (ext_alloc1 _ _) d1, ck (ext_alloc1 _ _) d2, ck (ext_alloc1 _ _) d3⟩ | go_keep)
        ((refine step_cat int_flat (.tmp 15) (.tmp 41) et_int (SlO.drew (SlO.alloc hO _)) ((lit_read _ 3 I int_one [x.kind, x.ts, x.beta, (x.hops.length : Int)] 4 (Nat.le_refl _) wo.heap.size 4 rfl rfl _ rfl).below (below_drew _)) (by simp; omega) (by simp [maxLen]; omega) (by simp; omega) (by rfl) (by rfl) (by rfl) (by rfl) ?_; intro v1 w1 fp1 hO1 hfp1 hkp1; have x1 : Below w.heap.size w w1 := ((ext_alloc hb _).drew).trans (hkp1.below (fun b hb => Nat.le_trans (Nat.le_succ _) (Hlo.out b hb)) (by simp; omega)); have a0 := ck x1 C0.out; have a1 := ck x1 C1.out; have a2 := ck x1 C2.out; have a3 := ck x1 C3.out; have pb := hkp1.ck (show (World.drew (World.alloc wo _)).cell? ⟨w.heap.size, 0, none⟩ = some (.slice (some ⟨g, o, none⟩) n c) from ck (ext_alloc1 _ _) p0) (fun hm => by have := Hlo.out _ hm; omega)))
      have z1 : w.heap.size + 1 ≤ w1.heap.size := by have := hkp1.size; simp at this; omega
      clear hkp1 hfp1 hO d0 d1 d2 d3 a0 a1 a2 a3
      obtain ⟨m, Hm⟩ : ∃ m, Hid (m = x.hops.length) := ⟨_, rfl⟩
      rw [← Hm.out] at hin hd hm2
      have C3' : Hid (w.cell? ⟨g, o + k * 4 + 3, none⟩ = some (.slice B m d)) := by show _ = _; rw [Hm.out]; exact C3.out
      go_wp2
      go_loopw [3, 5] (fun v i wr => ∃ j : Nat, j ≤ m ∧ i = I j ∧ Below w.heap.size w wr ∧ w.heap.size + 1 ≤ wr.heap.size ∧ wr.cell? ⟨w.heap.size, 0, none⟩ = some (.slice (some ⟨g, o, none⟩) n c) ∧ ∃ fp, SlO intT 3 (w.heap.size + 1) wr v (l0 ++ piP x ++ (x.hops.take j).flatMap piH) fp) (fun _ i _ => m - (intOf i).toNat)
      case atStart => exact ⟨0, by omega, rfl, x1, z1, pb, fp1, by simpa [piP] using hO1⟩
      case round =>
        obtain ⟨j, hj, rfl, hbi, hs2, pi, fpi, hOi⟩ := hrel
        obtain ⟨wi, rfl⟩ : ∃ wi : World, wi = wr := ⟨_, rfl⟩
        clear x1 z1 pb hO1 p0
        have e3 := ck hbi C3'.out
        by_cases hjl : j < m
        · obtain ⟨g', o', q', y, e', hg', hyj, b0, b1, b2, b3, b4⟩ := hop_at hin (by rw [← Hm.out]; exact hjl)
          rw [← Hm.out] at e'
          cases e'
          replace b0 := ck hbi b0
          replace b1 := ck hbi b1
          replace b2 := ck hbi b2
          replace b3 := ck hbi b3
          replace b4 := ck hbi b4
          have HQ : Hid (l0 ++ piP x ++ (x.hops.take (j + 1)).flatMap piH = (l0 ++ piP x ++ (x.hops.take j).flatMap piH) ++ [y.ia, y.ing, y.eg, y.exp, y.mac]) := by show _ = _; rw [flat_snoc hyj.out, ← List.append_assoc]; rfl
          have hlen : (l0 ++ piP x ++ (x.hops.take j).flatMap piH).length + 5 ≤ 5242880 := by
            have h1 := HT.out (j + 1)
            have h2 := congrArg List.length HQ.out
            simp only [List.length_append, List.length_cons, List.length_nil] at h2 ⊢
            omega
          obtain ⟨li, Hli⟩ : ∃ li, Hid (li = l0 ++ piP x ++ (x.hops.take j).flatMap piH) := ⟨_, rfl⟩
          rw [← Hli.out] at hOi HQ hlen
          go_wp2_with ((at_builtin; refine wpList_cat int_flat (.tmp 63) (.tmp 74) et_int (SlO.alloc (SlO.alloc hOi _) _) (lit_read _ 3 I int_one [y.ia, y.ing, y.eg, y.exp, y.mac] 5 (Nat.le_refl _) (wi.heap.size + 1) 5 (by simp) rfl _ rfl) ?_ ?_ ?_ rfl rfl rfl rfl ?_))
          · simp; omega
          · simp [maxLen]; omega
          · simp; omega
          · intro v2 w2 fp2 hO2 hfp2 hkp2
            have x2 : Below w.heap.size w w2 := (ext_alloc (ext_alloc hbi _) _).trans (hkp2.below (fun b hb => by have := (hOi.size_ok b hb).1; omega) (by simp; omega))
            have pc := hkp2.ck (ck (ext_alloc1 _ _) (ck (ext_alloc1 _ _) pi)) (fun hm => by have := (hOi.size_ok _ hm).1; omega)
            have z2 : w.heap.size + 1 ≤ w2.heap.size := by have := hkp2.size; simp at this; omega
            go_wp2
            go_roundw
            case rel => exact ⟨j + 1, by omega, by go_num, x2, z2, pc, fp2, by rw [HQ.out]; exact hO2⟩
            case measure => simp [intOf]; omega
        · have hjm : j = m := by omega
          subst hjm
          have hfin : Hid (intsOf piP piH (p.take (k + 1)) = l0 ++ piP x ++ (x.hops.take j).flatMap piH) := by
            show _ = _
            rw [hsn.out, Hm.out, List.take_length, List.append_assoc]
          go_wp2
          go_roundw
          case rel => exact ⟨k + 1, by omega, by go_num, hbi, hs2, pi, fpi, by rw [hfin.out]; exact hOi⟩
          case measure => simp [intOf]; omega
    · have hkn : k = n := by omega
      subst hkn
      rw [H.out, List.take_length] at hO
      go_wp2
      go_ret
      exact ⟨_, fp, rfl, hO.mono (by omega), hb⟩

end Go.Proofs.Ytfgobdejlfojiaa
