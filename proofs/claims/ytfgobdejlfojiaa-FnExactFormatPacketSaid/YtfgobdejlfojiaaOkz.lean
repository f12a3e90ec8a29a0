/- Sizes that comparing can take. -/
import Derived.Test.YtfgobdejlfojiaaEqs
namespace Go.Proofs.Ytfgobdejlfojiaa
theorem ok_path_big {p : Path} (h : sz_path p ≤ 1099511627776) : ok_path p := by
  have : List.length p ≤ sz_path p := by show List.length p ≤ List.length p + _; omega
  refine ⟨by show List.length p ≤ _; omega, fun x hx => ?_⟩
  have := sz_parts_mem hx
  unfold ok_part
  unfold sz_path at h
  unfold sz_part at this
  omega
end Go.Proofs.Ytfgobdejlfojiaa
