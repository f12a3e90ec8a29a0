/- Sizes of the data, as the laws measure them. (Printed by fam.py.) -/
import Derived.Test.YtfgobdejlfojiaaData
namespace Go.Proofs.Ytfgobdejlfojiaa
open Go.RowKit
set_option linter.unusedVariables false

/-- What a measure answers: what is left, -1 if there is too much. -/
def szI (left : Int) (n : Nat) : Int := if (n : Int) ≤ left then left - n else -1
theorem szI_yes {left : Int} {n : Nat} (h : (n : Int) ≤ left) : szI left n = left - n := by unfold szI; rw [if_pos h]
theorem szI_no {left : Int} {n : Nat} (h : left < (n : Int)) : szI left n = -1 := by unfold szI; rw [if_neg (by omega)]
theorem ret_int {k : IntKind} {a b : Int} (h : a = b) : Ending.returned (.int k a) = .returned (.int k b) := by rw [h]
theorem sum_take_succ {l : List Nat} {k x : Nat} (h : l[k]? = some x) : (l.take (k + 1)).sum = (l.take k).sum + x := by
  rw [List.take_add_one, h, List.sum_append]; simp
theorem sum_take_le (l : List Nat) (k : Nat) : (l.take k).sum ≤ l.sum := by
  have := List.take_append_drop k l
  have h2 : (l.take k ++ l.drop k).sum = l.sum := by rw [this]
  rw [List.sum_append] at h2
  omega

/-- An int's range. -/
def In64 (n : Int) : Prop := -9223372036854775808 ≤ n ∧ n ≤ 9223372036854775807

def rng_hop (d : Hop) : Prop := In64 d.ia ∧ In64 d.ing ∧ In64 d.eg ∧ In64 d.exp ∧ In64 d.mac
def lenOk_hop (d : Hop) : Prop := True
def rng_asn (d : ASd) : Prop := In64 d.isd ∧ In64 d.key
def lenOk_asn (d : ASd) : Prop := True
def rng_link (d : Lnk) : Prop := In64 d.a ∧ In64 d.ai ∧ In64 d.b ∧ In64 d.bi ∧ In64 d.kind
def lenOk_link (d : Lnk) : Prop := True
def rng_step (d : Stp) : Prop := In64 d.ia ∧ In64 d.ing ∧ In64 d.eg
def lenOk_step (d : Stp) : Prop := True
def rng_part (d : Part) : Prop := In64 d.kind ∧ In64 d.ts ∧ In64 d.beta ∧ (∀ x ∈ d.hops, rng_hop x)
def sz_part (d : Part) : Nat := d.hops.length
def sz_parts (l : List Part) : Nat := l.length + (l.map sz_part).sum
def lenOk_part (d : Part) : Prop := d.hops.length ≤ 9223372036854775807
def rng_path (d : Path) : Prop := ∀ x ∈ d, rng_part x
def sz_path (d : Path) : Nat := sz_parts d
def sz_paths (l : List Path) : Nat := l.length + (l.map sz_path).sum
def lenOk_path (d : Path) : Prop := d.length ≤ 9223372036854775807 ∧ ∀ x ∈ d, lenOk_part x
def rng_seg (d : Seg) : Prop := In64 d.ts ∧ In64 d.beta ∧ (∀ x ∈ d.hops, rng_hop x)
def sz_seg (d : Seg) : Nat := d.hops.length
def sz_segs (l : List Seg) : Nat := l.length + (l.map sz_seg).sum
def lenOk_seg (d : Seg) : Prop := d.hops.length ≤ 9223372036854775807
def rng_topo (d : Topo) : Prop := (∀ x ∈ d.ases, rng_asn x) ∧ (∀ x ∈ d.links, rng_link x)
def sz_topo (d : Topo) : Nat := d.ases.length + d.links.length
def lenOk_topo (d : Topo) : Prop := d.ases.length ≤ 9223372036854775807 ∧ d.links.length ≤ 9223372036854775807
def rng_sdb (d : Sdb) : Prop := (∀ x ∈ d.down, rng_seg x) ∧ (∀ x ∈ d.core, rng_seg x)
def sz_sdb (d : Sdb) : Nat := sz_segs d.down + sz_segs d.core
def lenOk_sdb (d : Sdb) : Prop := (d.down.length ≤ 9223372036854775807 ∧ ∀ x ∈ d.down, lenOk_seg x) ∧ (d.core.length ≤ 9223372036854775807 ∧ ∀ x ∈ d.core, lenOk_seg x)
def rng_pkt (d : Pkt) : Prop := In64 d.kind ∧ In64 d.src ∧ In64 d.dst ∧ rng_path d.path ∧ In64 d.pidx ∧ In64 d.hidx ∧ In64 d.beta ∧ In64 d.rid ∧ In64 d.seq
def sz_pkt (d : Pkt) : Nat := sz_path d.path + d.pay.length
def lenOk_pkt (d : Pkt) : Prop := lenOk_path d.path ∧ d.pay.length ≤ 9223372036854775807
def rng_vrd (d : Vrd) : Prop := In64 d.code ∧ In64 d.egress ∧ rng_pkt d.pkt
def sz_vrd (d : Vrd) : Nat := sz_pkt d.pkt
def lenOk_vrd (d : Vrd) : Prop := lenOk_pkt d.pkt
end Go.Proofs.Ytfgobdejlfojiaa
