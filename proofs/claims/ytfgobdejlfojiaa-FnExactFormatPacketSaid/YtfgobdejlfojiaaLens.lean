/- The program's types: which cells a field takes, how large a value is, what a slice's elements are. (Printed by lens.py.) -/
import Derived.Test.YtfgobdejlfojiaaSep
import Derived.Test.YtfgobdejlfojiaaProg
import Derived.KernelRfl
namespace Go.Proofs.Ytfgobdejlfojiaa
open Go.RowKit
set_option linter.unusedVariables false

theorem mixed : Try.prog.follows .mixedOrders = true := by kernel_rfl
theorem getx {α : Type} {l : List α} {k : Nat} (h : k < l.length) : ∃ x, l[k]? = some x := ⟨_, List.getElem?_eq_getElem h⟩
theorem one_at {c : Value} {cs : List Value} {off : Nat} (h : cs[off]? = some c) : ∀ j u, [c][j]? = some u → cs[off + j]? = some u := by
  intro j u hu
  cases j with
  | zero => simp at hu; subst hu; simpa using h
  | succ j => simp at hu

theorem ab_int : aggB Try.prog 3 = some false := by kernel_rfl
theorem sb_int : sizeB Try.prog 3 = some 1 := by kernel_rfl
theorem ab_bool : aggB Try.prog 4 = some false := by kernel_rfl
theorem sb_bool : sizeB Try.prog 4 = some 1 := by kernel_rfl
theorem ab_byte : aggB Try.prog 5 = some false := by kernel_rfl
theorem sb_byte : sizeB Try.prog 5 = some 1 := by kernel_rfl
theorem ab_str : aggB Try.prog 9 = some false := by kernel_rfl
theorem sb_str : sizeB Try.prog 9 = some 1 := by kernel_rfl
theorem ab_s_int : aggB Try.prog 100 = some false := by kernel_rfl
theorem sb_s_int : sizeB Try.prog 100 = some 1 := by kernel_rfl
theorem e_int : ElemT Try.prog 100 3 1 8 := ElemT.mk' Try.underlying100 (z := I 0) (by kernel_rfl) rfl (by omega)
theorem ab_s_byte : aggB Try.prog 46 = some false := by kernel_rfl
theorem sb_s_byte : sizeB Try.prog 46 = some 1 := by kernel_rfl
theorem e_byte : ElemT Try.prog 46 5 1 1 := ElemT.mk' Try.underlying46 (z := .int .u8 0) (by kernel_rfl) rfl (by omega)
theorem ab_hop : aggB Try.prog 93 = some true := by kernel_rfl
theorem sb_hop : sizeB Try.prog 93 = some 5 := by kernel_rfl
theorem z_hop : (Try.prog.info? 93).map (·.zero) = some (some (.agg #[I 0, I 0, I 0, I 0, I 0])) := by kernel_rfl
theorem fb_hop_0 : fieldB Try.prog 93 0 = some 0 := by kernel_rfl
theorem ln_hop_0 : Lens hopT intT 0 Hop.ia := fun w cs x h => by
  obtain rfl := hop_form h
  exact ⟨[I x.ia], rfl, one_at rfl⟩
theorem fb_hop_1 : fieldB Try.prog 93 1 = some 1 := by kernel_rfl
theorem ln_hop_1 : Lens hopT intT 1 Hop.ing := fun w cs x h => by
  obtain rfl := hop_form h
  exact ⟨[I x.ing], rfl, one_at rfl⟩
theorem fb_hop_2 : fieldB Try.prog 93 2 = some 2 := by kernel_rfl
theorem ln_hop_2 : Lens hopT intT 2 Hop.eg := fun w cs x h => by
  obtain rfl := hop_form h
  exact ⟨[I x.eg], rfl, one_at rfl⟩
theorem fb_hop_3 : fieldB Try.prog 93 3 = some 3 := by kernel_rfl
theorem ln_hop_3 : Lens hopT intT 3 Hop.exp := fun w cs x h => by
  obtain rfl := hop_form h
  exact ⟨[I x.exp], rfl, one_at rfl⟩
theorem fb_hop_4 : fieldB Try.prog 93 4 = some 4 := by kernel_rfl
theorem ln_hop_4 : Lens hopT intT 4 Hop.mac := fun w cs x h => by
  obtain rfl := hop_form h
  exact ⟨[I x.mac], rfl, one_at rfl⟩
theorem ab_s_hop : aggB Try.prog 88 = some false := by kernel_rfl
theorem sb_s_hop : sizeB Try.prog 88 = some 1 := by kernel_rfl
theorem e_hop : ElemT Try.prog 88 93 5 40 := ElemT.mk' Try.underlying88 (z := .agg #[I 0, I 0, I 0, I 0, I 0]) (by kernel_rfl) rfl (by omega)
theorem ab_l_hop : aggB Try.prog 185 = some true := by kernel_rfl
theorem sb_l_hop : sizeB Try.prog 185 = some 5 := by kernel_rfl
theorem ab_asn : aggB Try.prog 147 = some true := by kernel_rfl
theorem sb_asn : sizeB Try.prog 147 = some 3 := by kernel_rfl
theorem z_asn : (Try.prog.info? 147).map (·.zero) = some (some (.agg #[I 0, .bool false, I 0])) := by kernel_rfl
theorem fb_asn_0 : fieldB Try.prog 147 0 = some 0 := by kernel_rfl
theorem ln_asn_0 : Lens asnT intT 0 ASd.isd := fun w cs x h => by
  obtain rfl := asn_form h
  exact ⟨[I x.isd], rfl, one_at rfl⟩
theorem fb_asn_1 : fieldB Try.prog 147 1 = some 1 := by kernel_rfl
theorem ln_asn_1 : Lens asnT boolT 1 ASd.core := fun w cs x h => by
  obtain rfl := asn_form h
  exact ⟨[.bool x.core], rfl, one_at rfl⟩
theorem fb_asn_2 : fieldB Try.prog 147 2 = some 2 := by kernel_rfl
theorem ln_asn_2 : Lens asnT intT 2 ASd.key := fun w cs x h => by
  obtain rfl := asn_form h
  exact ⟨[I x.key], rfl, one_at rfl⟩
theorem ab_s_asn : aggB Try.prog 32 = some false := by kernel_rfl
theorem sb_s_asn : sizeB Try.prog 32 = some 1 := by kernel_rfl
theorem e_asn : ElemT Try.prog 32 147 3 24 := ElemT.mk' Try.underlying32 (z := .agg #[I 0, .bool false, I 0]) (by kernel_rfl) rfl (by omega)
theorem ab_l_asn : aggB Try.prog 149 = some true := by kernel_rfl
theorem sb_l_asn : sizeB Try.prog 149 = some 3 := by kernel_rfl
theorem ab_link : aggB Try.prog 151 = some true := by kernel_rfl
theorem sb_link : sizeB Try.prog 151 = some 5 := by kernel_rfl
theorem z_link : (Try.prog.info? 151).map (·.zero) = some (some (.agg #[I 0, I 0, I 0, I 0, I 0])) := by kernel_rfl
theorem fb_link_0 : fieldB Try.prog 151 0 = some 0 := by kernel_rfl
theorem ln_link_0 : Lens linkT intT 0 Lnk.a := fun w cs x h => by
  obtain rfl := link_form h
  exact ⟨[I x.a], rfl, one_at rfl⟩
theorem fb_link_1 : fieldB Try.prog 151 1 = some 1 := by kernel_rfl
theorem ln_link_1 : Lens linkT intT 1 Lnk.ai := fun w cs x h => by
  obtain rfl := link_form h
  exact ⟨[I x.ai], rfl, one_at rfl⟩
theorem fb_link_2 : fieldB Try.prog 151 2 = some 2 := by kernel_rfl
theorem ln_link_2 : Lens linkT intT 2 Lnk.b := fun w cs x h => by
  obtain rfl := link_form h
  exact ⟨[I x.b], rfl, one_at rfl⟩
theorem fb_link_3 : fieldB Try.prog 151 3 = some 3 := by kernel_rfl
theorem ln_link_3 : Lens linkT intT 3 Lnk.bi := fun w cs x h => by
  obtain rfl := link_form h
  exact ⟨[I x.bi], rfl, one_at rfl⟩
theorem fb_link_4 : fieldB Try.prog 151 4 = some 4 := by kernel_rfl
theorem ln_link_4 : Lens linkT intT 4 Lnk.kind := fun w cs x h => by
  obtain rfl := link_form h
  exact ⟨[I x.kind], rfl, one_at rfl⟩
theorem ab_s_link : aggB Try.prog 33 = some false := by kernel_rfl
theorem sb_s_link : sizeB Try.prog 33 = some 1 := by kernel_rfl
theorem e_link : ElemT Try.prog 33 151 5 40 := ElemT.mk' Try.underlying33 (z := .agg #[I 0, I 0, I 0, I 0, I 0]) (by kernel_rfl) rfl (by omega)
theorem ab_l_link : aggB Try.prog 153 = some true := by kernel_rfl
theorem sb_l_link : sizeB Try.prog 153 = some 5 := by kernel_rfl
theorem ab_step : aggB Try.prog 131 = some true := by kernel_rfl
theorem sb_step : sizeB Try.prog 131 = some 3 := by kernel_rfl
theorem z_step : (Try.prog.info? 131).map (·.zero) = some (some (.agg #[I 0, I 0, I 0])) := by kernel_rfl
theorem fb_step_0 : fieldB Try.prog 131 0 = some 0 := by kernel_rfl
theorem ln_step_0 : Lens stepT intT 0 Stp.ia := fun w cs x h => by
  obtain rfl := step_form h
  exact ⟨[I x.ia], rfl, one_at rfl⟩
theorem fb_step_1 : fieldB Try.prog 131 1 = some 1 := by kernel_rfl
theorem ln_step_1 : Lens stepT intT 1 Stp.ing := fun w cs x h => by
  obtain rfl := step_form h
  exact ⟨[I x.ing], rfl, one_at rfl⟩
theorem fb_step_2 : fieldB Try.prog 131 2 = some 2 := by kernel_rfl
theorem ln_step_2 : Lens stepT intT 2 Stp.eg := fun w cs x h => by
  obtain rfl := step_form h
  exact ⟨[I x.eg], rfl, one_at rfl⟩
theorem ab_s_step : aggB Try.prog 127 = some false := by kernel_rfl
theorem sb_s_step : sizeB Try.prog 127 = some 1 := by kernel_rfl
theorem e_step : ElemT Try.prog 127 131 3 24 := ElemT.mk' Try.underlying127 (z := .agg #[I 0, I 0, I 0]) (by kernel_rfl) rfl (by omega)
theorem ab_part : aggB Try.prog 90 = some true := by kernel_rfl
theorem sb_part : sizeB Try.prog 90 = some 4 := by kernel_rfl
theorem z_part : (Try.prog.info? 90).map (·.zero) = some (some (.agg #[I 0, I 0, I 0, .slice none 0 0])) := by kernel_rfl
theorem fb_part_0 : fieldB Try.prog 90 0 = some 0 := by kernel_rfl
theorem ln_part_0 : Lens partT intT 0 Part.kind := fun w cs x h => by
  obtain ⟨A3, c3, rfl, ⟨h3, _⟩⟩ := part_form h
  exact ⟨[I x.kind], rfl, one_at rfl⟩
theorem fb_part_1 : fieldB Try.prog 90 1 = some 1 := by kernel_rfl
theorem ln_part_1 : Lens partT intT 1 Part.ts := fun w cs x h => by
  obtain ⟨A3, c3, rfl, ⟨h3, _⟩⟩ := part_form h
  exact ⟨[I x.ts], rfl, one_at rfl⟩
theorem fb_part_2 : fieldB Try.prog 90 2 = some 2 := by kernel_rfl
theorem ln_part_2 : Lens partT intT 2 Part.beta := fun w cs x h => by
  obtain ⟨A3, c3, rfl, ⟨h3, _⟩⟩ := part_form h
  exact ⟨[I x.beta], rfl, one_at rfl⟩
theorem fb_part_3 : fieldB Try.prog 90 3 = some 3 := by kernel_rfl
theorem ln_part_3 : Lens partT (slT hopT 93) 3 Part.hops := fun w cs x h => by
  obtain ⟨A3, c3, rfl, ⟨h3, _⟩⟩ := part_form h
  exact ⟨[.slice A3 x.hops.length c3], ⟨_, rfl, h3⟩, one_at rfl⟩
theorem ab_s_part : aggB Try.prog 37 = some false := by kernel_rfl
theorem sb_s_part : sizeB Try.prog 37 = some 1 := by kernel_rfl
theorem e_part : ElemT Try.prog 37 90 4 48 := ElemT.mk' Try.underlying37 (z := .agg #[I 0, I 0, I 0, .slice none 0 0]) (by kernel_rfl) rfl (by omega)
theorem ab_l_part : aggB Try.prog 139 = some true := by kernel_rfl
theorem sb_l_part : sizeB Try.prog 139 = some 4 := by kernel_rfl
theorem ab_path : aggB Try.prog 39 = some true := by kernel_rfl
theorem sb_path : sizeB Try.prog 39 = some 1 := by kernel_rfl
theorem z_path : (Try.prog.info? 39).map (·.zero) = some (some (.agg #[.slice none 0 0])) := by kernel_rfl
theorem fb_path_0 : fieldB Try.prog 39 0 = some 0 := by kernel_rfl
theorem ln_path_0 : Lens pathT (slT partT 90) 0 (fun x : Path => x) := fun w cs x h => by
  obtain ⟨A0, c0, rfl, ⟨h0, _⟩⟩ := path_form h
  exact ⟨[.slice A0 x.length c0], ⟨_, rfl, h0⟩, one_at rfl⟩
theorem ab_s_path : aggB Try.prog 72 = some false := by kernel_rfl
theorem sb_s_path : sizeB Try.prog 72 = some 1 := by kernel_rfl
theorem e_path : ElemT Try.prog 72 39 1 24 := ElemT.mk' Try.underlying72 (z := .agg #[.slice none 0 0]) (by kernel_rfl) rfl (by omega)
theorem ab_l_path : aggB Try.prog 28 = some true := by kernel_rfl
theorem sb_l_path : sizeB Try.prog 28 = some 1 := by kernel_rfl
theorem ab_seg : aggB Try.prog 179 = some true := by kernel_rfl
theorem sb_seg : sizeB Try.prog 179 = some 3 := by kernel_rfl
theorem z_seg : (Try.prog.info? 179).map (·.zero) = some (some (.agg #[I 0, I 0, .slice none 0 0])) := by kernel_rfl
theorem fb_seg_0 : fieldB Try.prog 179 0 = some 0 := by kernel_rfl
theorem ln_seg_0 : Lens segT intT 0 Seg.ts := fun w cs x h => by
  obtain ⟨A2, c2, rfl, ⟨h2, _⟩⟩ := seg_form h
  exact ⟨[I x.ts], rfl, one_at rfl⟩
theorem fb_seg_1 : fieldB Try.prog 179 1 = some 1 := by kernel_rfl
theorem ln_seg_1 : Lens segT intT 1 Seg.beta := fun w cs x h => by
  obtain ⟨A2, c2, rfl, ⟨h2, _⟩⟩ := seg_form h
  exact ⟨[I x.beta], rfl, one_at rfl⟩
theorem fb_seg_2 : fieldB Try.prog 179 2 = some 2 := by kernel_rfl
theorem ln_seg_2 : Lens segT (slT hopT 93) 2 Seg.hops := fun w cs x h => by
  obtain ⟨A2, c2, rfl, ⟨h2, _⟩⟩ := seg_form h
  exact ⟨[.slice A2 x.hops.length c2], ⟨_, rfl, h2⟩, one_at rfl⟩
theorem ab_topo : aggB Try.prog 35 = some true := by kernel_rfl
theorem sb_topo : sizeB Try.prog 35 = some 2 := by kernel_rfl
theorem z_topo : (Try.prog.info? 35).map (·.zero) = some (some (.agg #[.slice none 0 0, .slice none 0 0])) := by kernel_rfl
theorem fb_topo_0 : fieldB Try.prog 35 0 = some 0 := by kernel_rfl
theorem ln_topo_0 : Lens topoT (slT asnT 147) 0 Topo.ases := fun w cs x h => by
  obtain ⟨A0, c0, A1, c1, rfl, ⟨h0, _⟩, ⟨h1, _⟩⟩ := topo_form h
  exact ⟨[.slice A0 x.ases.length c0], ⟨_, rfl, h0⟩, one_at rfl⟩
theorem fb_topo_1 : fieldB Try.prog 35 1 = some 1 := by kernel_rfl
theorem ln_topo_1 : Lens topoT (slT linkT 151) 1 Topo.links := fun w cs x h => by
  obtain ⟨A0, c0, A1, c1, rfl, ⟨h0, _⟩, ⟨h1, _⟩⟩ := topo_form h
  exact ⟨[.slice A1 x.links.length c1], ⟨_, rfl, h1⟩, one_at rfl⟩
theorem ab_l_topo : aggB Try.prog 25 = some true := by kernel_rfl
theorem sb_l_topo : sizeB Try.prog 25 = some 2 := by kernel_rfl
theorem ab_pkt : aggB Try.prog 51 = some true := by kernel_rfl
theorem sb_pkt : sizeB Try.prog 51 = some 10 := by kernel_rfl
theorem z_pkt : (Try.prog.info? 51).map (·.zero) = some (some (.agg #[I 0, I 0, I 0, .slice none 0 0, I 0, I 0, I 0, I 0, I 0, .slice none 0 0])) := by kernel_rfl
theorem fb_pkt_0 : fieldB Try.prog 51 0 = some 0 := by kernel_rfl
theorem ln_pkt_0 : Lens pktT intT 0 Pkt.kind := fun w cs x h => by
  obtain ⟨A3, c3, A9, c9, rfl, ⟨h3, _⟩, ⟨h9, _⟩⟩ := pkt_form h
  exact ⟨[I x.kind], rfl, one_at rfl⟩
theorem fb_pkt_1 : fieldB Try.prog 51 1 = some 1 := by kernel_rfl
theorem ln_pkt_1 : Lens pktT intT 1 Pkt.src := fun w cs x h => by
  obtain ⟨A3, c3, A9, c9, rfl, ⟨h3, _⟩, ⟨h9, _⟩⟩ := pkt_form h
  exact ⟨[I x.src], rfl, one_at rfl⟩
theorem fb_pkt_2 : fieldB Try.prog 51 2 = some 2 := by kernel_rfl
theorem ln_pkt_2 : Lens pktT intT 2 Pkt.dst := fun w cs x h => by
  obtain ⟨A3, c3, A9, c9, rfl, ⟨h3, _⟩, ⟨h9, _⟩⟩ := pkt_form h
  exact ⟨[I x.dst], rfl, one_at rfl⟩
theorem fb_pkt_3 : fieldB Try.prog 51 3 = some 3 := by kernel_rfl
theorem ln_pkt_3 : Lens pktT pathT 3 Pkt.path := fun w cs x h => by
  obtain ⟨A3, c3, A9, c9, rfl, ⟨h3, _⟩, ⟨h9, _⟩⟩ := pkt_form h
  exact ⟨[.slice A3 x.path.length c3], path_mk h3, one_at rfl⟩
theorem fb_pkt_4 : fieldB Try.prog 51 4 = some 4 := by kernel_rfl
theorem ln_pkt_4 : Lens pktT intT 4 Pkt.pidx := fun w cs x h => by
  obtain ⟨A3, c3, A9, c9, rfl, ⟨h3, _⟩, ⟨h9, _⟩⟩ := pkt_form h
  exact ⟨[I x.pidx], rfl, one_at rfl⟩
theorem fb_pkt_5 : fieldB Try.prog 51 5 = some 5 := by kernel_rfl
theorem ln_pkt_5 : Lens pktT intT 5 Pkt.hidx := fun w cs x h => by
  obtain ⟨A3, c3, A9, c9, rfl, ⟨h3, _⟩, ⟨h9, _⟩⟩ := pkt_form h
  exact ⟨[I x.hidx], rfl, one_at rfl⟩
theorem fb_pkt_6 : fieldB Try.prog 51 6 = some 6 := by kernel_rfl
theorem ln_pkt_6 : Lens pktT intT 6 Pkt.beta := fun w cs x h => by
  obtain ⟨A3, c3, A9, c9, rfl, ⟨h3, _⟩, ⟨h9, _⟩⟩ := pkt_form h
  exact ⟨[I x.beta], rfl, one_at rfl⟩
theorem fb_pkt_7 : fieldB Try.prog 51 7 = some 7 := by kernel_rfl
theorem ln_pkt_7 : Lens pktT intT 7 Pkt.rid := fun w cs x h => by
  obtain ⟨A3, c3, A9, c9, rfl, ⟨h3, _⟩, ⟨h9, _⟩⟩ := pkt_form h
  exact ⟨[I x.rid], rfl, one_at rfl⟩
theorem fb_pkt_8 : fieldB Try.prog 51 8 = some 8 := by kernel_rfl
theorem ln_pkt_8 : Lens pktT intT 8 Pkt.seq := fun w cs x h => by
  obtain ⟨A3, c3, A9, c9, rfl, ⟨h3, _⟩, ⟨h9, _⟩⟩ := pkt_form h
  exact ⟨[I x.seq], rfl, one_at rfl⟩
theorem fb_pkt_9 : fieldB Try.prog 51 9 = some 9 := by kernel_rfl
theorem ln_pkt_9 : Lens pktT (slT byteT 5) 9 Pkt.pay := fun w cs x h => by
  obtain ⟨A3, c3, A9, c9, rfl, ⟨h3, _⟩, ⟨h9, _⟩⟩ := pkt_form h
  exact ⟨[.slice A9 x.pay.length c9], ⟨_, rfl, h9⟩, one_at rfl⟩
theorem ab_l_pkt : aggB Try.prog 48 = some true := by kernel_rfl
theorem sb_l_pkt : sizeB Try.prog 48 = some 10 := by kernel_rfl

end Go.Proofs.Ytfgobdejlfojiaa
