/- An owned slice with one element taken out, and put back. -/
import Derived.Test.YtfgobdejlfojiaaMut
namespace Go.Proofs.Ytfgobdejlfojiaa
open Go.RowKit
set_option linter.unusedVariables false

theorem Sep.conv {b : Nat} {w : World} {o1 o2 : Ow} {os : List Ow} (h : Sep b w (o1 :: os)) (hk : ∀ f, o1.P b w f → o2.P b w f) : Sep b w (o2 :: os) := by
  obtain ⟨h1, fp, f, g, rfl, h2, h3, h6⟩ := h
  exact ⟨h1, f ++ g, f, g, rfl, hk f h2, h3, h6⟩

theorem Sep.rm1 {b : Nat} {w : World} {o1 o2 : Ow} {os : List Ow} (h : Sep b w (o1 :: o2 :: os)) : Sep b w (o1 :: os) := h.f1.tail

/-- The slice v reads as l, but for what element i leads to: its cells are cs. -/
def HoleP {α : Type} (T : Ty α) (e : TypeId) (v : Value) (l : List α) (i : Nat) (cs : List Value) (base : Nat) (w : World) (fp : List Nat) : Prop :=
  ∃ (css : List (List Value)) (fps : List (List Nat)), css.length = l.length ∧ fps.length = l.length ∧ css[i]? = some cs ∧ fps[i]? = some [] ∧ cs.length = T.size ∧ w.ownsRow base e T.size v l.length css.flatten ∧
    (∀ (k : Nat) cs' a f, k ≠ i → css[k]? = some cs' → l[k]? = some a → fps[k]? = some f → T.O base w cs' a f) ∧ fp = v.ownBlock.toList ++ fps.flatten ∧ fp.Nodup

theorem own_keep {w w' : World} {base : Nat} {e : TypeId} {size : Nat} {v : Value} {n : Nat} {xs : List Value} (h : w.ownsRow base e size v n xs) (hk : ∀ x ∈ v.ownBlock.toList, w'.heap[x]? = w.heap[x]?) : w'.ownsRow base e size v n xs := by
  refine ⟨h.1, ?_⟩
  rcases h.2 with hn | ⟨g, cap, cur, rfl, hb, hgg, rest⟩
  · exact .inl hn
  · exact .inr ⟨g, cap, cur, rfl, hb, by rw [hk g (by simp [Value.ownBlock])]; exact hgg, rest⟩

theorem own_mono {w : World} {base base' : Nat} {e : TypeId} {size : Nat} {v : Value} {n : Nat} {xs : List Value} (hb : base' ≤ base) (h : w.ownsRow base e size v n xs) : w.ownsRow base' e size v n xs := by
  refine ⟨h.1, ?_⟩
  rcases h.2 with hn | ⟨g, cap, cur, rfl, hg, hgg, rest⟩
  · exact .inl hn
  · exact .inr ⟨g, cap, cur, rfl, by omega, hgg, rest⟩

def holeO {α : Type} (T : Ty α) (e : TypeId) (v : Value) (l : List α) (i : Nat) (cs : List Value) : Ow where
  P := HoleP T e v l i cs
  lt := by
    rintro b w fp ⟨css, fps, h1, h2, h3, h4, h5, h6, h7, rfl, h9⟩ x hx
    rcases List.mem_append.1 hx with hx | hx
    · exact h6.lt x (by simpa using hx)
    · obtain ⟨f, hf, hxf⟩ := List.mem_flatten.1 hx
      obtain ⟨k, hk, rfl⟩ := List.getElem_of_mem hf
      by_cases hki : k = i
      · subst hki
        rw [List.getElem?_eq_getElem hk] at h4
        rw [Option.some.inj h4] at hxf
        cases hxf
      · exact T.lt _ _ _ _ _ (h7 k _ _ _ hki (List.getElem?_eq_getElem (by omega)) (List.getElem?_eq_getElem (by omega)) (List.getElem?_eq_getElem hk)) x hxf
  keep := by
    rintro b w w' fp ⟨css, fps, h1, h2, h3, h4, h5, h6, h7, rfl, h9⟩ hk
    exact ⟨css, fps, h1, h2, h3, h4, h5, own_keep h6 fun x hx => hk x (List.mem_append.2 (.inl hx)), fun k cs' a f hki hc ha hf => T.okeep _ _ _ _ _ _ (h7 k cs' a f hki hc ha hf) fun x hx => hk x (List.mem_append.2 (.inr (List.mem_flatten.2 ⟨f, List.mem_of_getElem? hf, hx⟩))), rfl, h9⟩
  mono := by
    rintro b b' w fp hb ⟨css, fps, h1, h2, h3, h4, h5, h6, h7, h8, h9⟩
    exact ⟨css, fps, h1, h2, h3, h4, h5, own_mono hb h6, fun k cs' a f hki hc ha hf => T.mono _ _ _ _ _ _ hb (h7 k cs' a f hki hc ha hf), h8, h9⟩

theorem nodup_cut {fps : List (List Nat)} (h : fps.flatten.Nodup) (i : Nat) : (fps.set i []).flatten.Nodup := by
  induction fps generalizing i with
  | nil => simp
  | cons a t ih =>
    rw [List.flatten_cons, List.nodup_append] at h
    cases i with
    | zero => simpa using h.2.1
    | succ i =>
      rw [List.set_cons_succ, List.flatten_cons, List.nodup_append]
      refine ⟨h.1, ih h.2.1 i, fun x hx y hy => h.2.2 x hx y ?_⟩
      obtain ⟨f, hf, hyf⟩ := List.mem_flatten.1 hy
      rcases List.mem_or_eq_of_mem_set hf with hf | hf
      · exact List.mem_flatten.2 ⟨f, hf, hyf⟩
      · rw [hf] at hyf; cases hyf
theorem mem_cut {fps : List (List Nat)} {i : Nat} {f : List Nat} (hf : fps[i]? = some f) {x : Nat} (hx : x ∈ fps.flatten) : x ∈ f ∨ x ∈ (fps.set i []).flatten := by
  obtain ⟨g, hg, hxg⟩ := List.mem_flatten.1 hx
  obtain ⟨k, hk, rfl⟩ := List.getElem_of_mem hg
  by_cases hki : k = i
  · subst hki
    rw [List.getElem?_eq_getElem hk] at hf
    rw [← Option.some.inj hf]
    exact .inl hxg
  · exact .inr (List.mem_flatten.2 ⟨fps[k], List.mem_of_getElem? (i := k) (by rw [List.getElem?_set_ne (Ne.symm hki)]; exact List.getElem?_eq_getElem hk), hxg⟩)
theorem cut_sub {fps : List (List Nat)} {i : Nat} {x : Nat} (hx : x ∈ (fps.set i []).flatten) : x ∈ fps.flatten := by
  obtain ⟨f, hf, hxf⟩ := List.mem_flatten.1 hx
  rcases List.mem_or_eq_of_mem_set hf with hf | hf
  · exact List.mem_flatten.2 ⟨f, hf, hxf⟩
  · rw [hf] at hxf; cases hxf
theorem cut_apart {fps : List (List Nat)} (h : fps.flatten.Nodup) {i : Nat} {f : List Nat} (hf : fps[i]? = some f) : ∀ x ∈ f, x ∉ (fps.set i []).flatten := by
  intro x hx hm
  obtain ⟨g, hg, hxg⟩ := List.mem_flatten.1 hm
  obtain ⟨k, hk, rfl⟩ := List.getElem_of_mem hg
  have hk' : k < fps.length := by simpa using hk
  by_cases hki : k = i
  · subst hki
    simp at hxg
  · rw [List.getElem_set_ne (Ne.symm hki)] at hxg
    rcases Nat.lt_or_ge k i with hlt | hge
    · exact flat_apart h k i _ _ hlt (List.getElem?_eq_getElem hk') hf x hxg hx
    · exact flat_apart h i k _ _ (by omega) hf (List.getElem?_eq_getElem hk') x hx hxg
theorem flatten_put {fps : List (List Nat)} {i : Nat} (hi : fps[i]? = some []) (f : List Nat) (hn : fps.flatten.Nodup) (hf : f.Nodup) (hd : ∀ x ∈ f, x ∉ fps.flatten) : (fps.set i f).flatten.Nodup ∧ ∀ x, x ∈ (fps.set i f).flatten ↔ x ∈ f ∨ x ∈ fps.flatten := by
  induction fps generalizing i with
  | nil => simp at hi
  | cons a t ih =>
    rw [List.flatten_cons, List.nodup_append] at hn
    cases i with
    | zero =>
      simp at hi
      subst hi
      refine ⟨?_, fun x => by simp⟩
      rw [List.set_cons_zero, List.flatten_cons, List.nodup_append]
      refine ⟨hf, hn.2.1, fun x hx y hy hxy => hd x hx ?_⟩
      subst hxy
      simpa using List.mem_flatten.1 hy
    | succ i =>
      simp at hi
      have hd' : ∀ x ∈ f, x ∉ t.flatten := fun x hx hm => hd x hx (by rw [List.flatten_cons]; exact List.mem_append.2 (.inr hm))
      obtain ⟨h1, h2⟩ := ih hi hn.2.1 hd'
      rw [List.set_cons_succ, List.flatten_cons]
      refine ⟨?_, fun x => ?_⟩
      · rw [List.nodup_append]
        refine ⟨hn.1, h1, fun x hx y hy hxy => ?_⟩
        subst hxy
        rcases (h2 x).1 hy with h | h
        · exact hd x h (by rw [List.flatten_cons]; exact List.mem_append.2 (.inl hx))
        · exact hn.2.2 x hx x h rfl
      · rw [List.mem_append, h2, List.flatten_cons, List.mem_append]
        constructor
        · rintro (h | h | h)
          · exact .inr (.inl h)
          · exact .inl h
          · exact .inr (.inr h)
        · rintro (h | h | h)
          · exact .inr (.inl h)
          · exact .inl h
          · exact .inr (.inr h)

/-- An element taken out. -/
theorem Sep.split {α : Type} {T : Ty α} {e b : Nat} {w : World} {v : Value} {l : List α} {os : List Ow} (S : Sep b w (slO T e v l :: os)) {i : Nat} {a : α} (hi : l[i]? = some a) :
    ∃ cs, Sep b w (tyO T cs a :: holeO T e v l i cs :: os) ∧ ∀ g n c, v = .slice (some ⟨g, 0, none⟩) n c → ∀ j u, cs[j]? = some u → w.cell? ⟨g, i * T.size + j, none⟩ = some u := by
  obtain ⟨hb, fp, f, g, rfl, ⟨css, fps, h1, h2, h3, h4, h5, h6⟩, hg, hfg⟩ := S
  have hlt : i < l.length := (List.getElem?_eq_some_iff.1 hi).1
  have hk : css[i]? = some (css[i]'(by omega)) := List.getElem?_eq_getElem (by omega)
  have hf : fps[i]? = some (fps[i]'(by omega)) := List.getElem?_eq_getElem (by omega)
  have hO := h4 i _ _ _ hk hi hf
  have hall : ∀ (i : Nat) cs, css[i]? = some cs → cs.length = T.size := fun i cs hi => by
    have hl : i < css.length := (List.getElem?_eq_some_iff.1 hi).1
    exact T.len _ _ _ (T.read _ _ _ _ _ (h4 i cs _ _ hi (List.getElem?_eq_getElem (by omega)) (List.getElem?_eq_getElem (by omega))))
  subst h5
  rw [List.nodup_append] at h6
  refine ⟨css[i]'(by omega), ⟨hb, (fps[i]'(by omega)) ++ ((v.ownBlock.toList ++ (fps.set i []).flatten) ++ g), _, _, rfl, hO, ⟨_, g, rfl, ⟨css, fps.set i [], h1, by simp [h2], hk, by rw [List.getElem?_set_self (by omega)], hall i _ hk, h3, ?_, rfl, ?_⟩, hg, ?_⟩, ?_⟩, ?_⟩
  · intro k cs' a' f' hki hc ha hf'
    rw [List.getElem?_set_ne (Ne.symm hki)] at hf'
    exact h4 k cs' a' f' hc ha hf'
  · rw [List.nodup_append]
    exact ⟨h6.1, nodup_cut h6.2.1 i, fun x hx y hy => h6.2.2 x hx y (cut_sub hy)⟩
  · intro x hx hy
    refine hfg x ?_ hy
    rcases List.mem_append.1 hx with hx | hx
    · exact List.mem_append.2 (.inl hx)
    · exact List.mem_append.2 (.inr (cut_sub hx))
  · intro x hx hm
    have hxf : x ∈ fps.flatten := List.mem_flatten.2 ⟨_, List.mem_of_getElem? hf, hx⟩
    rcases List.mem_append.1 hm with hm | hm
    · rcases List.mem_append.1 hm with hm | hm
      · exact h6.2.2 x hm x hxf rfl
      · exact cut_apart h6.2.1 hf x hx hm
    · exact hfg x (List.mem_append.2 (.inr hxf)) hm
  · intro g' n c hv j u hu
    subst hv
    have hj : j < T.size := by rw [← hall i _ hk]; exact (List.getElem?_eq_some_iff.1 hu).1
    have hfl := flatten_at hall i _ hk j hj
    have hc := h3.cells (g := g') rfl (i * T.size + j) u (by rw [hfl]; exact hu)
    simpa [Addr.add_lit] using hc

/-- The element put back, with whatever it leads to now. -/
theorem Sep.join {α : Type} {T : Ty α} {e b : Nat} {w : World} {v : Value} {l : List α} {os : List Ow} {i : Nat} {cs : List Value} {a : α} (S : Sep b w (tyO T cs a :: holeO T e v l i cs :: os)) : Sep b w (slO T e v (l.set i a) :: os) := by
  obtain ⟨hb, fp, f, _, rfl, hO, ⟨f', g, rfl, ⟨css, fps, h1, h2, h3, h4, h5, h6, h7, rfl, h9⟩, hg, hd2⟩, hd1⟩ := S
  have hO' : T.O b w cs a f := hO
  have hil : i < l.length := by rw [← h1]; exact (List.getElem?_eq_some_iff.1 h3).1
  rw [List.nodup_append] at h9
  obtain ⟨hp1, hp2⟩ := flatten_put h4 f h9.2.1 (T.nodup _ _ _ _ _ hO') (fun x hx hm => hd1 x hx (List.mem_append.2 (.inl (List.mem_append.2 (.inr hm)))))
  refine ⟨hb, (v.ownBlock.toList ++ (fps.set i f).flatten) ++ g, _, g, rfl, ⟨css, fps.set i f, by simp [h1], by simp [h2], by rw [List.length_set]; exact h6, ?_, rfl, ?_⟩, hg, ?_⟩
  · intro k cs' a' f' hc ha hf'
    by_cases hki : k = i
    · subst hki
      rw [List.getElem?_set_self (by omega)] at ha hf'
      rw [h3] at hc
      cases hc
      cases ha
      cases hf'
      exact hO'
    · rw [List.getElem?_set_ne (Ne.symm hki)] at ha hf'
      exact h7 k cs' a' f' hki hc ha hf'
  · rw [List.nodup_append]
    refine ⟨h9.1, hp1, fun x hx y hy hxy => ?_⟩
    subst hxy
    rcases (hp2 x).1 hy with h | h
    · exact hd1 x h (List.mem_append.2 (.inl (List.mem_append.2 (.inl hx))))
    · exact h9.2.2 x hx x h rfl
  · intro x hx hy
    rcases List.mem_append.1 hx with hx | hx
    · exact hd2 x (List.mem_append.2 (.inl hx)) hy
    · rcases (hp2 x).1 hx with h | h
      · exact hd1 x h (List.mem_append.2 (.inr hy))
      · exact hd2 x (List.mem_append.2 (.inr h)) hy

theorem Sep.two {b : Nat} {w : World} {o o1 o2 : Ow} {os : List Ow} (S : Sep b w (o :: os)) (h : ∀ f, o.P b w f → ∃ f1 f2, f = f1 ++ f2 ∧ f.Nodup ∧ o1.P b w f1 ∧ o2.P b w f2) : Sep b w (o1 :: o2 :: os) := by
  obtain ⟨hb, fp, f, g, rfl, hO, hg, hd⟩ := S
  obtain ⟨f1, f2, rfl, hn, h1, h2⟩ := h f hO
  rw [List.nodup_append] at hn
  refine ⟨hb, f1 ++ (f2 ++ g), f1, _, rfl, h1, ⟨f2, g, rfl, h2, hg, fun x hx => hd x (List.mem_append.2 (.inr hx))⟩, fun x hx hm => ?_⟩
  rcases List.mem_append.1 hm with hm | hm
  · exact hn.2.2 x hx x hm rfl
  · exact hd x (List.mem_append.2 (.inl hx)) hm

section
variable {b : Nat} {w : World} {os : List Ow}
theorem Sep.topoOpen {cs : List Value} {x : Topo} (S : Sep b w (tyO topoT cs x :: os)) : ∃ u0 u1, cs = [u0, u1] ∧ Sep b w (slO asnT 147 u0 x.ases :: slO linkT 151 u1 x.links :: os) := by
  obtain ⟨fp, h⟩ := S.head
  obtain ⟨A0, c0, A1, c1, f0, f1, rfl, _⟩ := topo_oform h
  refine ⟨_, _, rfl, S.two fun f hf => ?_⟩
  obtain ⟨A0', c0', A1', c1', f0', f1', e, h0, h1, hfp, hn⟩ := topo_oform hf
  injection e with e0 e; injection e with e1 _
  exact ⟨f0', f1', hfp, hn, by rw [e0]; exact h0, by rw [e1]; exact h1⟩
theorem Sep.pktOpen {cs : List Value} {x : Pkt} (S : Sep b w (tyO pktT cs x :: os)) : ∃ u3 u9, cs = [I x.kind, I x.src, I x.dst, u3, I x.pidx, I x.hidx, I x.beta, I x.rid, I x.seq, u9] ∧ Sep b w (slO partT 90 u3 x.path :: slO byteT 5 u9 x.pay :: os) := by
  obtain ⟨fp, h⟩ := S.head
  obtain ⟨A0, c0, A1, c1, f0, f1, rfl, _⟩ := pkt_oform h
  refine ⟨_, _, rfl, S.two fun f hf => ?_⟩
  obtain ⟨A0', c0', A1', c1', f0', f1', e, h0, h1, hfp, hn⟩ := pkt_oform hf
  simp only [List.cons.injEq, and_true, true_and] at e
  exact ⟨f0', f1', hfp, hn, by rw [e.1]; exact h0, by rw [e.2]; exact h1⟩
theorem Sep.partOpen {cs : List Value} {x : Part} (S : Sep b w (tyO partT cs x :: os)) : ∃ u, cs = [I x.kind, I x.ts, I x.beta, u] ∧ Sep b w (slO hopT 93 u x.hops :: os) := by
  obtain ⟨fp, h⟩ := S.head
  obtain ⟨A, c, f, rfl, h3, _⟩ := part_oform h
  refine ⟨_, rfl, S.conv fun f hf => ?_⟩
  obtain ⟨A', c', f', e, h3', rfl, _⟩ := part_oform hf
  injection e with _ e; injection e with _ e; injection e with _ e; injection e with e _
  rw [e]; exact h3'
theorem Sep.partShut {u : Value} {x : Part} (S : Sep b w (slO hopT 93 u x.hops :: os)) : Sep b w (tyO partT [I x.kind, I x.ts, I x.beta, u] x :: os) :=
  S.conv fun f hf => ⟨[_, _, _], _, [], f, rfl, ⟨rfl, rfl⟩, ⟨_, rfl, hf⟩, rfl, SlO.nodup hf⟩
theorem Sep.segOpen {cs : List Value} {x : Seg} (S : Sep b w (tyO segT cs x :: os)) : ∃ u, cs = [I x.ts, I x.beta, u] ∧ Sep b w (slO hopT 93 u x.hops :: os) := by
  obtain ⟨fp, h⟩ := S.head
  obtain ⟨A, c, f, rfl, h3, _⟩ := seg_oform h
  refine ⟨_, rfl, S.conv fun f hf => ?_⟩
  obtain ⟨A', c', f', e, h3', rfl, _⟩ := seg_oform hf
  injection e with _ e; injection e with _ e; injection e with e _
  rw [e]; exact h3'
theorem Sep.segShut {u : Value} {x : Seg} (S : Sep b w (slO hopT 93 u x.hops :: os)) : Sep b w (tyO segT [I x.ts, I x.beta, u] x :: os) :=
  S.conv fun f hf => ⟨[_, _], _, [], f, rfl, ⟨rfl, rfl⟩, ⟨_, rfl, hf⟩, rfl, SlO.nodup hf⟩
theorem Sep.pathOpen {cs : List Value} {x : Path} (S : Sep b w (tyO pathT cs x :: os)) : ∃ u, cs = [u] ∧ Sep b w (slO partT 90 u x :: os) := by
  obtain ⟨fp, v, rfl, h⟩ := S.head
  refine ⟨v, rfl, S.conv fun f hf => ?_⟩
  obtain ⟨v', e, h'⟩ := hf
  cases e
  exact h'
theorem Sep.pathShut {u : Value} {x : Path} (S : Sep b w (slO partT 90 u x :: os)) : Sep b w (tyO pathT [u] x :: os) :=
  S.conv fun f hf => ⟨u, rfl, hf⟩
end

end Go.Proofs.Ytfgobdejlfojiaa
