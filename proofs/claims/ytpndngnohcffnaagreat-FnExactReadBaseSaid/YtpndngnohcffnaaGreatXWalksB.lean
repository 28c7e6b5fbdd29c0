import Derived.Test.YtpndngnohcffnaaGreatXWalksA
set_option maxHeartbeats 4000000
set_option maxRecDepth 100000
namespace Go.Proofs.YtpndngnohcffnaaGreat
open Go.Gv
theorem c_spec_ShowBase {w0 : World} {b : Base} {s1 : Value} {s2 : Value} {s3 : Value} {s4 : Value} {s5 : Value} {s6 : Value} {s7 : Value} {r : (List UInt8)} (h1 : Rep.rd (All w0) w0 [s1] (b.Mem.Heap.Bytes : List Int)) (h2 : Rep.rd (All w0) w0 [s2] (b.Mem.Heap.Class : List Int)) (h3 : Rep.rd (All w0) w0 [s3] (b.Mem.Lists.Global : List SList)) (h4 : Rep.rd (All w0) w0 [s4] (b.Mem.Lists.Own : List SList)) (h5 : Rep.rd (All w0) w0 [s5] (b.Clock.Pins : List Pin)) (h6 : Rep.rd (All w0) w0 [s6] (b.Limbo : List LList)) (h7 : Rep.rd (All w0) w0 [s7] (b.Haz : List Int)) (hF : spec_ShowBase b = some r) :
    Calls Tryz.prog 6 #[.agg #[s1, s2, s3, s4, .int .i64 (b.Clock.Epoch), s5, s6, s7]] w0 (Ret fun v w' => v = sv (r) ∧ St (cxAll w0) w' [] []) := by
 have hS : St (cxAll w0) w0 [] [fRd [s1] (b.Mem.Heap.Bytes : List Int), fRd [s2] (b.Mem.Heap.Class : List Int), fRd [s3] (b.Mem.Lists.Global : List SList), fRd [s4] (b.Mem.Lists.Own : List SList), fRd [s5] (b.Clock.Pins : List Pin), fRd [s6] (b.Limbo : List LList), fRd [s7] (b.Haz : List Int)] := St.enter (by
   intro f hf
   simp only [List.mem_cons, List.not_mem_nil, or_false] at hf
   rcases hf with rfl | rfl | rfl | rfl | rfl | rfl | rfl
   · exact h1
   · exact h2
   · exact h3
   · exact h4
   · exact h5
   · exact h6
   · exact h7)
 refine calls_cw (args := [_]) Tryz.func6 rfl Tryz.ntmps6 rfl ?_
 unfold spec_ShowBase at hF
 intro a hA
 refine cw_seq <| cw_ops hA ?_
 clear hA
 refine ops_mv (rv_box (cs := [s1, s2, s3, s4, .int .i64 (b.Clock.Epoch), s5, s6, s7]) hS rfl rfl rfl) (want_yes rfl) rfl rfl ?_
 clear hS
 rintro _ w ⟨b1, rfl, hS⟩
 refine oa rfl rfl <| ops_nil fun a hA => cw_seq <| cw_seq <| cw_ops hA ?_
 clear hA
 refine oy (rv_loadN rfl rfl Tryz.isAgg49 Tryz.sizeOf49 rfl (hS.cells 0 0 (cs' := [s1, s2, s3, s4, .int .i64 (b.Clock.Epoch), s5, s6, s7]) rfl rfl)) rfl ?_
 obtain ⟨x1, hx1, hF⟩ := bindE hF
 refine ops_c (rc_call Tryz.call18 rfl rfl) (want_yes rfl) rfl rfl (c_spec_BaseOk (b := b) (hS.rd 0 rfl) (hS.rd 1 rfl) (hS.rd 2 rfl) (hS.rd 3 rfl) (hS.rd 4 rfl) (hS.rd 5 rfl) (hS.rd 6 rfl) hx1) ?_
 rintro _ w ⟨rfl, hk⟩
 replace hS := hS.after hk; clear hk
 refine oy (rv_not rfl rfl) rfl <| ops_nil fun a hA => cw_cond hA rfl (fun hc1 => ?_) (fun hc1 => ?_)
 ·replace hF := iteT hc1 hF
  refine cw_seq <| cw_ops hA ?_
  clear hA
  refine oa rfl rfl <| ops_nil fun a hA => cw_ret ?_
  cases hF
  exact fy Tryz.results6 hA rfl hS
 ·replace hF := iteF hc1 hF
  refine cw_skip <| cw_seq <| cw_any (Keeps (cxAll w0) [cBox b1 [s1, s2, s3, s4, .int .i64 (b.Clock.Epoch), s5, s6, s7]] [fRd [s1] (b.Mem.Heap.Bytes : List Int), fRd [s2] (b.Mem.Heap.Class : List Int), fRd [s3] (b.Mem.Lists.Global : List SList), fRd [s4] (b.Mem.Lists.Own : List SList), fRd [s5] (b.Clock.Pins : List Pin), fRd [s6] (b.Limbo : List LList), fRd [s7] (b.Haz : List Int)]) mixed_Tryz hA hS ?_
  clear hA hS; intro w hS
  have hK : Keeps (cxAll w0) [cBox b1 [s1, s2, s3, s4, .int .i64 (b.Clock.Epoch), s5, s6, s7]] [fRd [s1] (b.Mem.Heap.Bytes : List Int), fRd [s2] (b.Mem.Heap.Class : List Int), fRd [s3] (b.Mem.Lists.Global : List SList), fRd [s4] (b.Mem.Lists.Own : List SList), fRd [s5] (b.Clock.Pins : List Pin), fRd [s6] (b.Limbo : List LList), fRd [s7] (b.Haz : List Int)] w := ⟨_, (hS.sel [0] rfl).selR [0, 1, 2, 3, 4, 5, 6] rfl⟩
  refine ey 0 rfl (by kernel_rfl) hK (fun _ _ _ => (rv_fld (m := 3) Tryz.underlying49 rfl rfl Tryz.sizeOf43 rfl rfl)) rfl ?_
  refine ey 1 rfl (by kernel_rfl) hK (fun _ _ hS => (rv_loadN rfl rfl Tryz.isAgg43 Tryz.sizeOf43 rfl (hS.cells 0 0 (cs' := [s1, s2, s3, s4]) rfl rfl))) rfl ?_
  refine ey 3 rfl (by kernel_rfl) hK (fun _ _ _ => (rv_fld (m := 1) Tryz.underlying49 rfl rfl Tryz.sizeOf46 rfl rfl)) rfl ?_
  refine ey 4 rfl (by kernel_rfl) hK (fun _ _ _ => (rv_fld (m := 0) Tryz.underlying46 rfl rfl Tryz.sizeOf3 rfl rfl)) rfl ?_
  refine ey 5 rfl (by kernel_rfl) hK (fun _ _ hS => (rv_load1 rfl rfl Tryz.isAgg3 (hS.cell 0 rfl rfl))) rfl ?_
  refine any_1 (i := 2) (by kernel_rfl) ?_
  obtain ⟨x2, hx2, hF⟩ := bindE hF
  refine as_c rfl (rc_call Tryz.call19 rfl rfl) (want_yes rfl) rfl rfl (c_spec_ShowMem (m := b.Mem) (hS.rd 0 rfl) (hS.rd 1 rfl) (hS.rd 2 rfl) (hS.rd 3 rfl) hx2) ?_
  clear hK; rintro _ w ⟨rfl, hk⟩
  replace hS := hS.after hk; clear hk
  have hK := keepsI ((hS.sel [0] rfl).selR [0, 1, 2, 3, 4, 5, 6] rfl)
  refine ⟨hK, ?_⟩
  refine any_1 (i := 6) (by kernel_rfl) ?_
  obtain ⟨x3, hx3, hF⟩ := bindE hF
  refine as_c rfl (rc_call Tryz.call20 rfl rfl) (want_yes rfl) rfl rfl (c_spec_Var (n := b.Clock.Epoch)  hx3) ?_
  clear hK; rintro _ w ⟨rfl, hk⟩
  replace hS := hS.after hk; clear hk
  have hK := keepsI ((hS.sel [0] rfl).selR [0, 1, 2, 3, 4, 5, 6] rfl)
  refine ⟨hK, ?_⟩
  obtain ⟨hn1, hF⟩ := needE hF
  refine ey 7 rfl (by kernel_rfl) hK (fun _ _ _ => (rv_cat rfl rfl rfl hn1)) rfl ?_
  refine ey 8 rfl (by kernel_rfl) hK (fun _ _ _ => (rv_assign rfl rfl)) rfl ?_
  refine any_done (by kernel_rfl) ?_
  intro a hA
  refine cw_seq <| cw_seq <| cw_ops hA ?_
  clear hA
  refine oa rfl rfl <| ops_nil fun a hA => ?_
  obtain ⟨o1, hl1, hF⟩ := bindE hF
  refine cw_cut (J := fun a' w' => ∃ (x8 : List UInt8), o1 = x8 ∧ AEnv 112 [(1, .pointer (some ⟨b1, 0, none⟩)), (3, sv (x8))] a' ∧ St (cxAll w0) w' [cBox b1 [s1, s2, s3, s4, .int .i64 (b.Clock.Epoch), s5, s6, s7]] [fRd [s1] (b.Mem.Heap.Bytes : List Int), fRd [s2] (b.Mem.Heap.Class : List Int), fRd [s3] (b.Mem.Lists.Global : List SList), fRd [s4] (b.Mem.Lists.Own : List SList), fRd [s5] (b.Clock.Pins : List Pin), fRd [s6] (b.Limbo : List LList), fRd [s7] (b.Haz : List Int)]) ?_ ?_
  ·refine cw_block ?_
   refine cw_loop (body := spec_ShowBase_l1 b) (r := o1) (fun sg a' w' => AEnv 112 [(1, .pointer (some ⟨b1, 0, none⟩)), (3, sv (sg.1)), (4, .int .i64 (sg.2))] a' ∧ St (cxAll w0) w' [cBox b1 [s1, s2, s3, s4, .int .i64 (b.Clock.Epoch), s5, s6, s7]] [fRd [s1] (b.Mem.Heap.Bytes : List Int), fRd [s2] (b.Mem.Heap.Class : List Int), fRd [s3] (b.Mem.Lists.Global : List SList), fRd [s4] (b.Mem.Lists.Own : List SList), fRd [s5] (b.Clock.Pins : List Pin), fRd [s6] (b.Limbo : List LList), fRd [s7] (b.Haz : List Int)]) ?_ hl1 ⟨hA.part ⟨rfl, rfl, rfl, trivial⟩, ((hS).sel [0] rfl).selR [0, 1, 2, 3, 4, 5, 6] rfl⟩
   clear hA hS hl1
   rintro ⟨x6, x7⟩ a w q1 ⟨hA, hS⟩ hG1 hr1
   try dsimp only at hA hS
   unfold spec_ShowBase_l1 at hG1
   refine cw_seq <| cw_seq <| cw_ops hA ?_
   clear hA
   refine om rfl rfl <| oy (rv_lss rfl rfl rfl) rfl <| ops_nil fun a hA => cw_cond hA rfl (fun hc5 => ?_) (fun hc5 => ?_)
   ·replace hG1 := iteT hc5 hG1
    refine cw_skip <| cw_seq <| cw_block <| cw_seq <| cw_ops hA ?_
    clear hA
    refine oy (rv_fld (m := 1) Tryz.underlying49 rfl rfl Tryz.sizeOf46 rfl rfl) rfl <| oy (rv_fld (m := 0) Tryz.underlying46 rfl rfl Tryz.sizeOf44 rfl rfl) rfl <| oy (rv_load1 rfl rfl Tryz.isAgg44 (hS.cell 0 rfl rfl)) rfl <| om rfl rfl ?_
    obtain ⟨x35, hx35, hG1⟩ := bindE hG1
    refine oy (rv_idx (m := 4) (hS.rd 4 rfl) rfl hx35 Tryz.underlying44 Tryz.sizeOf65 rfl rfl rfl) rfl <| oy (rv_loadN rfl rfl Tryz.isAgg65 Tryz.sizeOf65 rfl (el_Pin (hS.rd 4 rfl) (idx_some hx35).2.2)) rfl <| ops_mv (rv_alloc (cs := [.bool (false), .int .i64 (0), .bool (false), .int .i64 (0)]) hS rfl Tryz.zeroValue65 rfl) (want_yes rfl) rfl rfl ?_
    clear hS
    rintro _ w ⟨b2, rfl, hS⟩
    refine ops_ms (rs_box (vs := [.bool (x35.On), .int .i64 (x35.Epoch), .bool (x35.Marked), .int .i64 (x35.Seen)]) hS (i := 1) rfl rfl rfl rfl rfl Tryz.sizeOf65 rfl rfl rfl) (want_yes rfl) rfl ?_
    clear hS
    intro w hS
    refine ops_nil fun a hA => cw_any (Keeps (cxAll w0) [cBox b1 [s1, s2, s3, s4, .int .i64 (b.Clock.Epoch), s5, s6, s7], cBox b2 [.bool (x35.On), .int .i64 (x35.Epoch), .bool (x35.Marked), .int .i64 (x35.Seen)]] [fRd [s1] (b.Mem.Heap.Bytes : List Int), fRd [s2] (b.Mem.Heap.Class : List Int), fRd [s3] (b.Mem.Lists.Global : List SList), fRd [s4] (b.Mem.Lists.Own : List SList), fRd [s5] (b.Clock.Pins : List Pin), fRd [s6] (b.Limbo : List LList), fRd [s7] (b.Haz : List Int)]) mixed_Tryz hA hS ?_
    clear hA hS; intro w hS
    have hK : Keeps (cxAll w0) [cBox b1 [s1, s2, s3, s4, .int .i64 (b.Clock.Epoch), s5, s6, s7], cBox b2 [.bool (x35.On), .int .i64 (x35.Epoch), .bool (x35.Marked), .int .i64 (x35.Seen)]] [fRd [s1] (b.Mem.Heap.Bytes : List Int), fRd [s2] (b.Mem.Heap.Class : List Int), fRd [s3] (b.Mem.Lists.Global : List SList), fRd [s4] (b.Mem.Lists.Own : List SList), fRd [s5] (b.Clock.Pins : List Pin), fRd [s6] (b.Limbo : List LList), fRd [s7] (b.Haz : List Int)] w := ⟨_, (hS.sel [0, 1] rfl).selR [0, 1, 2, 3, 4, 5, 6] rfl⟩
    refine ey 0 rfl (by kernel_rfl) hK (fun _ _ _ => (rv_move rfl rfl)) rfl ?_
    refine ey 1 rfl (by kernel_rfl) hK (fun _ _ _ => (rv_fld (m := 0) Tryz.underlying65 rfl rfl Tryz.sizeOf4 rfl rfl)) rfl ?_
    refine ey 2 rfl (by kernel_rfl) hK (fun _ _ hS => (rv_load1 rfl rfl Tryz.isAgg4 (hS.cell 1 rfl rfl))) rfl ?_
    refine ey 6 rfl (by kernel_rfl) hK (fun _ _ _ => (rv_fld (m := 0) Tryz.underlying65 rfl rfl Tryz.sizeOf3 rfl rfl)) rfl ?_
    refine ey 7 rfl (by kernel_rfl) hK (fun _ _ hS => (rv_load1 rfl rfl Tryz.isAgg3 (hS.cell 1 rfl rfl))) rfl ?_
    refine ey 10 rfl (by kernel_rfl) hK (fun _ _ _ => (rv_fld (m := 0) Tryz.underlying65 rfl rfl Tryz.sizeOf4 rfl rfl)) rfl ?_
    refine ey 11 rfl (by kernel_rfl) hK (fun _ _ hS => (rv_load1 rfl rfl Tryz.isAgg4 (hS.cell 1 rfl rfl))) rfl ?_
    refine ey 15 rfl (by kernel_rfl) hK (fun _ _ _ => (rv_fld (m := 0) Tryz.underlying65 rfl rfl Tryz.sizeOf3 rfl rfl)) rfl ?_
    refine ey 16 rfl (by kernel_rfl) hK (fun _ _ hS => (rv_load1 rfl rfl Tryz.isAgg3 (hS.cell 1 rfl rfl))) rfl ?_
    refine any_1 (i := 3) (by kernel_rfl) ?_
    obtain ⟨x36, hx36, hG1⟩ := bindE hG1
    refine as_c rfl (rc_call Tryz.call21 rfl rfl) (want_yes rfl) rfl rfl (c_spec_l30Bool (b := x35.On)  hx36) ?_
    clear hK; rintro _ w ⟨rfl, hk⟩
    replace hS := hS.after hk; clear hk
    have hK := keepsI ((hS.sel [0, 1] rfl).selR [0, 1, 2, 3, 4, 5, 6] rfl)
    refine ⟨hK, ?_⟩
    refine any_1 (i := 4) (by kernel_rfl) ?_
    obtain ⟨x37, hx37, hG1⟩ := bindE hG1
    refine as_c rfl (rc_call Tryz.call20 rfl rfl) (want_yes rfl) rfl rfl (c_spec_Var (n := x36)  hx37) ?_
    clear hK; rintro _ w ⟨rfl, hk⟩
    replace hS := hS.after hk; clear hk
    have hK := keepsI ((hS.sel [0, 1] rfl).selR [0, 1, 2, 3, 4, 5, 6] rfl)
    refine ⟨hK, ?_⟩
    obtain ⟨hn6, hG1⟩ := needE hG1
    refine ey 5 rfl (by kernel_rfl) hK (fun _ _ _ => (rv_cat rfl rfl rfl hn6)) rfl ?_
    refine any_1 (i := 8) (by kernel_rfl) ?_
    obtain ⟨x38, hx38, hG1⟩ := bindE hG1
    refine as_c rfl (rc_call Tryz.call20 rfl rfl) (want_yes rfl) rfl rfl (c_spec_Var (n := x35.Epoch)  hx38) ?_
    clear hK; rintro _ w ⟨rfl, hk⟩
    replace hS := hS.after hk; clear hk
    have hK := keepsI ((hS.sel [0, 1] rfl).selR [0, 1, 2, 3, 4, 5, 6] rfl)
    refine ⟨hK, ?_⟩
    obtain ⟨hn7, hG1⟩ := needE hG1
    refine ey 9 rfl (by kernel_rfl) hK (fun _ _ _ => (rv_cat rfl rfl rfl hn7)) rfl ?_
    refine any_1 (i := 12) (by kernel_rfl) ?_
    obtain ⟨x39, hx39, hG1⟩ := bindE hG1
    refine as_c rfl (rc_call Tryz.call21 rfl rfl) (want_yes rfl) rfl rfl (c_spec_l30Bool (b := x35.Marked)  hx39) ?_
    clear hK; rintro _ w ⟨rfl, hk⟩
    replace hS := hS.after hk; clear hk
    have hK := keepsI ((hS.sel [0, 1] rfl).selR [0, 1, 2, 3, 4, 5, 6] rfl)
    refine ⟨hK, ?_⟩
    refine any_1 (i := 13) (by kernel_rfl) ?_
    obtain ⟨x40, hx40, hG1⟩ := bindE hG1
    refine as_c rfl (rc_call Tryz.call20 rfl rfl) (want_yes rfl) rfl rfl (c_spec_Var (n := x39)  hx40) ?_
    clear hK; rintro _ w ⟨rfl, hk⟩
    replace hS := hS.after hk; clear hk
    have hK := keepsI ((hS.sel [0, 1] rfl).selR [0, 1, 2, 3, 4, 5, 6] rfl)
    refine ⟨hK, ?_⟩
    obtain ⟨hn8, hG1⟩ := needE hG1
    refine ey 14 rfl (by kernel_rfl) hK (fun _ _ _ => (rv_cat rfl rfl rfl hn8)) rfl ?_
    refine any_1 (i := 17) (by kernel_rfl) ?_
    obtain ⟨x41, hx41, hG1⟩ := bindE hG1
    refine as_c rfl (rc_call Tryz.call20 rfl rfl) (want_yes rfl) rfl rfl (c_spec_Var (n := x35.Seen)  hx41) ?_
    clear hK; rintro _ w ⟨rfl, hk⟩
    replace hS := hS.after hk; clear hk
    have hK := keepsI ((hS.sel [0, 1] rfl).selR [0, 1, 2, 3, 4, 5, 6] rfl)
    refine ⟨hK, ?_⟩
    obtain ⟨hn9, hG1⟩ := needE hG1
    refine ey 18 rfl (by kernel_rfl) hK (fun _ _ _ => (rv_cat rfl rfl rfl hn9)) rfl ?_
    refine ey 19 rfl (by kernel_rfl) hK (fun _ _ _ => (rv_assign rfl rfl)) rfl ?_
    refine any_done (by kernel_rfl) ?_
    intro a hA
    refine cw_ops hA ?_
    clear hA
    refine om rfl rfl <| oy (rv_add rfl rfl rfl) rfl <| oa rfl rfl <| ops_nil fun a hA => ?_
    cases hG1
    exact ⟨_, rfl, ⟨hA.part ⟨rfl, rfl, rfl, trivial⟩, ((hS).sel [0] rfl).selR [0, 1, 2, 3, 4, 5, 6] rfl⟩⟩
   ·replace hG1 := iteF hc5 hG1
    refine cw_exit <| xcons_hit ?_
    cases hG1
    have ho := hr1 _ rfl; subst ho
    exact ⟨x6, rfl, hA.part ⟨rfl, rfl, trivial⟩, ((hS).sel [0] rfl).selR [0, 1, 2, 3, 4, 5, 6] rfl⟩
  ·skip
   clear hA hS hl1
   rintro a w ⟨x8, heq, hA, hS⟩
   replace hF : spec_ShowBase_j1 b x8 = some r := by rw [heq] at hF; exact hF
   clear heq
   unfold spec_ShowBase_j1 at hF
   refine cw_seq <| cw_seq <| cw_ops hA ?_
   clear hA
   refine oa rfl rfl <| ops_nil fun a hA => ?_
   obtain ⟨o2, hl2, hF⟩ := bindE hF
   refine cw_cut (J := fun a' w' => ∃ (x13 : List UInt8), o2 = x13 ∧ AEnv 112 [(1, .pointer (some ⟨b1, 0, none⟩)), (3, sv (x13))] a' ∧ St (cxAll w0) w' [cBox b1 [s1, s2, s3, s4, .int .i64 (b.Clock.Epoch), s5, s6, s7]] [fRd [s1] (b.Mem.Heap.Bytes : List Int), fRd [s2] (b.Mem.Heap.Class : List Int), fRd [s3] (b.Mem.Lists.Global : List SList), fRd [s4] (b.Mem.Lists.Own : List SList), fRd [s5] (b.Clock.Pins : List Pin), fRd [s6] (b.Limbo : List LList), fRd [s7] (b.Haz : List Int)]) ?_ ?_
   ·refine cw_block ?_
    refine cw_loop (body := spec_ShowBase_l2 b) (r := o2) (fun sg a' w' => AEnv 112 [(1, .pointer (some ⟨b1, 0, none⟩)), (3, sv (sg.1)), (6, .int .i64 (sg.2))] a' ∧ St (cxAll w0) w' [cBox b1 [s1, s2, s3, s4, .int .i64 (b.Clock.Epoch), s5, s6, s7]] [fRd [s1] (b.Mem.Heap.Bytes : List Int), fRd [s2] (b.Mem.Heap.Class : List Int), fRd [s3] (b.Mem.Lists.Global : List SList), fRd [s4] (b.Mem.Lists.Own : List SList), fRd [s5] (b.Clock.Pins : List Pin), fRd [s6] (b.Limbo : List LList), fRd [s7] (b.Haz : List Int)]) ?_ hl2 ⟨hA.part ⟨rfl, rfl, rfl, trivial⟩, ((hS).sel [0] rfl).selR [0, 1, 2, 3, 4, 5, 6] rfl⟩
    clear hA hS hl2
    rintro ⟨x11, x12⟩ a w q2 ⟨hA, hS⟩ hG2 hr2
    try dsimp only at hA hS
    unfold spec_ShowBase_l2 at hG2
    refine cw_seq <| cw_seq <| cw_ops hA ?_
    clear hA
    refine om rfl rfl <| oy (rv_lss rfl rfl rfl) rfl <| ops_nil fun a hA => cw_cond hA rfl (fun hc3 => ?_) (fun hc3 => ?_)
    ·replace hG2 := iteT hc3 hG2
     refine cw_skip <| cw_seq <| cw_block <| cw_seq <| cw_ops hA ?_
     clear hA
     refine om rfl rfl <| oy (rv_fld (m := 0) Tryz.underlying49 rfl rfl Tryz.sizeOf47 rfl rfl) rfl <| oy (rv_load1 rfl rfl Tryz.isAgg47 (hS.cell 0 rfl rfl)) rfl <| om rfl rfl ?_
     obtain ⟨x21, hx21, hG2⟩ := bindE hG2
     refine oy (rv_idx (m := 1) (hS.rd 5 rfl) rfl hx21 Tryz.underlying47 Tryz.sizeOf69 rfl rfl rfl) rfl <| oy (rv_fld (m := 0) Tryz.underlying69 rfl rfl Tryz.sizeOf67 rfl rfl) rfl ?_
     obtain ⟨s8, hel, hS⟩ := hS.el_LList 5 rfl (idx_some hx21).2.2
     refine oy (rv_load1 rfl rfl Tryz.isAgg67 (cell1 (CellsAt.sub (cs' := [s8]) hel 0 rfl rfl))) rfl <| oy (rv_lenS (hS.rd 7 rfl) Tryz.underlying67 rfl rfl) rfl ?_
     obtain ⟨x22, hx22, hG2⟩ := bindE hG2
     refine ops_c (rc_call Tryz.call20 rfl rfl) (want_yes rfl) rfl rfl (c_spec_Var (n := (x21.Rows.length : Int))  hx22) ?_
     rintro _ w ⟨rfl, hk⟩
     replace hS := hS.after hk; clear hk
     obtain ⟨hn3, hG2⟩ := needE hG2
     refine oy (rv_cat rfl rfl rfl hn3) rfl <| oa rfl rfl <| ops_nil fun a hA => cw_seq <| cw_ops hA ?_
     clear hA
     refine oa rfl rfl <| ops_nil fun a hA => ?_
     obtain ⟨o4, hl4, hG2⟩ := bindE hG2
     refine cw_cut (J := fun a' w' => ∃ (x27 : List UInt8), o4 = x27 ∧ AEnv 112 [(1, .pointer (some ⟨b1, 0, none⟩)), (3, sv (x27)), (6, .int .i64 (x12))] a' ∧ St (cxAll w0) w' [cBox b1 [s1, s2, s3, s4, .int .i64 (b.Clock.Epoch), s5, s6, s7]] [fRd [s1] (b.Mem.Heap.Bytes : List Int), fRd [s2] (b.Mem.Heap.Class : List Int), fRd [s3] (b.Mem.Lists.Global : List SList), fRd [s4] (b.Mem.Lists.Own : List SList), fRd [s5] (b.Clock.Pins : List Pin), fRd [s6] (b.Limbo : List LList), fRd [s7] (b.Haz : List Int)]) ?_ ?_
     ·refine cw_block ?_
      refine cw_loop (body := spec_ShowBase_l4 b x12) (r := o4) (fun sg a' w' => AEnv 112 [(1, .pointer (some ⟨b1, 0, none⟩)), (3, sv (sg.1)), (6, .int .i64 (x12)), (7, .int .i64 (sg.2))] a' ∧ St (cxAll w0) w' [cBox b1 [s1, s2, s3, s4, .int .i64 (b.Clock.Epoch), s5, s6, s7]] [fRd [s1] (b.Mem.Heap.Bytes : List Int), fRd [s2] (b.Mem.Heap.Class : List Int), fRd [s3] (b.Mem.Lists.Global : List SList), fRd [s4] (b.Mem.Lists.Own : List SList), fRd [s5] (b.Clock.Pins : List Pin), fRd [s6] (b.Limbo : List LList), fRd [s7] (b.Haz : List Int)]) ?_ hl4 ⟨hA.part ⟨rfl, rfl, rfl, rfl, trivial⟩, ((hS).sel [0] rfl).selR [0, 1, 2, 3, 4, 5, 6] rfl⟩
      clear hA hS hl4
      rintro ⟨x25, x26⟩ a w q4 ⟨hA, hS⟩ hG4 hr4
      try dsimp only at hA hS
      unfold spec_ShowBase_l4 at hG4
      refine cw_seq <| cw_seq <| cw_ops hA ?_
      clear hA
      refine om rfl rfl <| oy (rv_fld (m := 0) Tryz.underlying49 rfl rfl Tryz.sizeOf47 rfl rfl) rfl <| oy (rv_load1 rfl rfl Tryz.isAgg47 (hS.cell 0 rfl rfl)) rfl <| om rfl rfl ?_
      obtain ⟨x28, hx28, hG4⟩ := bindE hG4
      refine oy (rv_idx (m := 1) (hS.rd 5 rfl) rfl hx28 Tryz.underlying47 Tryz.sizeOf69 rfl rfl rfl) rfl <| oy (rv_fld (m := 0) Tryz.underlying69 rfl rfl Tryz.sizeOf67 rfl rfl) rfl ?_
      obtain ⟨s9, hel, hS⟩ := hS.el_LList 5 rfl (idx_some hx28).2.2
      refine oy (rv_load1 rfl rfl Tryz.isAgg67 (cell1 (CellsAt.sub (cs' := [s9]) hel 0 rfl rfl))) rfl <| oy (rv_lenS (hS.rd 7 rfl) Tryz.underlying67 rfl rfl) rfl <| oy (rv_lss rfl rfl rfl) rfl <| ops_nil fun a hA => cw_cond hA rfl (fun hc4 => ?_) (fun hc4 => ?_)
      ·replace hG4 := iteT hc4 hG4
       refine cw_skip <| cw_seq <| cw_block ?_
       obtain ⟨x29, hx29, hG4⟩ := bindE hG4
       obtain ⟨s10, hS⟩ := hS.elF_LList 5 rfl (idx_some hx29).2.2
       refine cw_any (Keeps (cxAll w0) [cBox b1 [s1, s2, s3, s4, .int .i64 (b.Clock.Epoch), s5, s6, s7]] [fRd [s1] (b.Mem.Heap.Bytes : List Int), fRd [s2] (b.Mem.Heap.Class : List Int), fRd [s3] (b.Mem.Lists.Global : List SList), fRd [s4] (b.Mem.Lists.Own : List SList), fRd [s5] (b.Clock.Pins : List Pin), fRd [s6] (b.Limbo : List LList), fRd [s7] (b.Haz : List Int), fRd [s9] (x28.Rows : List LRow), fAt (elB s6) (elO 1 (x12.toNat) s6) [s10], fRd [s10] (x29.Rows : List LRow)]) mixed_Tryz hA hS ?_
       clear hA hS; intro w hS
       have hK : Keeps (cxAll w0) [cBox b1 [s1, s2, s3, s4, .int .i64 (b.Clock.Epoch), s5, s6, s7]] [fRd [s1] (b.Mem.Heap.Bytes : List Int), fRd [s2] (b.Mem.Heap.Class : List Int), fRd [s3] (b.Mem.Lists.Global : List SList), fRd [s4] (b.Mem.Lists.Own : List SList), fRd [s5] (b.Clock.Pins : List Pin), fRd [s6] (b.Limbo : List LList), fRd [s7] (b.Haz : List Int), fRd [s9] (x28.Rows : List LRow), fAt (elB s6) (elO 1 (x12.toNat) s6) [s10], fRd [s10] (x29.Rows : List LRow)] w := ⟨_, (hS.sel [0] rfl).selR [0, 1, 2, 3, 4, 5, 6, 7, 8, 9] rfl⟩
       refine ey 0 rfl (by kernel_rfl) hK (fun _ _ _ => (rv_move rfl rfl)) rfl ?_
       refine ey 1 rfl (by kernel_rfl) hK (fun _ _ _ => (rv_fld (m := 0) Tryz.underlying49 rfl rfl Tryz.sizeOf47 rfl rfl)) rfl ?_
       refine ey 2 rfl (by kernel_rfl) hK (fun _ _ hS => (rv_load1 rfl rfl Tryz.isAgg47 (hS.cell 0 rfl rfl))) rfl ?_
       refine ey 3 rfl (by kernel_rfl) hK (fun _ _ _ => (rv_move rfl rfl)) rfl ?_
       refine ey 4 rfl (by kernel_rfl) hK (fun _ _ hS => (rv_idx (m := 1) (hS.rd 5 rfl) rfl hx29 Tryz.underlying47 Tryz.sizeOf69 rfl rfl rfl)) rfl ?_
       refine ey 5 rfl (by kernel_rfl) hK (fun _ _ _ => (rv_fld (m := 0) Tryz.underlying69 rfl rfl Tryz.sizeOf67 rfl rfl)) rfl ?_
       refine ey 6 rfl (by kernel_rfl) hK (fun _ _ hS => (rv_load1 rfl rfl Tryz.isAgg67 (cell1 (CellsAt.sub (cs' := [s10]) (hS.fat 8 rfl) 0 rfl rfl)))) rfl ?_
       refine ey 7 rfl (by kernel_rfl) hK (fun _ _ _ => (rv_move rfl rfl)) rfl ?_
       obtain ⟨x30, hx30, hG4⟩ := bindE hG4
       refine ey 8 rfl (by kernel_rfl) hK (fun _ _ hS => (rv_idx (m := 2) (hS.rd 9 rfl) rfl hx30 Tryz.underlying67 Tryz.sizeOf71 rfl rfl rfl)) rfl ?_
       refine ey 9 rfl (by kernel_rfl) hK (fun _ _ _ => (rv_fld (m := 0) Tryz.underlying71 rfl rfl Tryz.sizeOf3 rfl rfl)) rfl ?_
       refine ey 10 rfl (by kernel_rfl) hK (fun _ _ hS => (rv_load1 rfl rfl Tryz.isAgg3 (cell1 (CellsAt.sub (cs' := [.int .i64 (x30.Handle)]) (el_LRow (hS.rd 9 rfl) (idx_some hx30).2.2) 0 rfl rfl)))) rfl ?_
       refine ey 13 rfl (by kernel_rfl) hK (fun _ _ _ => (rv_fld (m := 0) Tryz.underlying49 rfl rfl Tryz.sizeOf47 rfl rfl)) rfl ?_
       refine ey 14 rfl (by kernel_rfl) hK (fun _ _ hS => (rv_load1 rfl rfl Tryz.isAgg47 (hS.cell 0 rfl rfl))) rfl ?_
       refine ey 15 rfl (by kernel_rfl) hK (fun _ _ _ => (rv_move rfl rfl)) rfl ?_
       obtain ⟨x31, hx31, hG4⟩ := bindE hG4
       refine ey 16 rfl (by kernel_rfl) hK (fun _ _ hS => (rv_idx (m := 1) (hS.rd 5 rfl) rfl hx31 Tryz.underlying47 Tryz.sizeOf69 rfl rfl rfl)) rfl ?_
       refine ey 17 rfl (by kernel_rfl) hK (fun _ _ _ => (rv_fld (m := 0) Tryz.underlying69 rfl rfl Tryz.sizeOf67 rfl rfl)) rfl ?_
       refine ey 18 rfl (by kernel_rfl) hK (fun _ _ hS => (rv_load1 rfl rfl Tryz.isAgg67 (cell1 (CellsAt.sub (cs' := [s10]) (hS.fat 8 rfl) 0 rfl rfl)))) rfl ?_
       refine ey 19 rfl (by kernel_rfl) hK (fun _ _ _ => (rv_move rfl rfl)) rfl ?_
       obtain ⟨x32, hx32, hG4⟩ := bindE hG4
       refine ey 20 rfl (by kernel_rfl) hK (fun _ _ hS => (rv_idx (m := 2) (hS.rd 9 rfl) rfl hx32 Tryz.underlying67 Tryz.sizeOf71 rfl rfl rfl)) rfl ?_
       refine ey 21 rfl (by kernel_rfl) hK (fun _ _ _ => (rv_fld (m := 0) Tryz.underlying71 rfl rfl Tryz.sizeOf3 rfl rfl)) rfl ?_
       refine ey 22 rfl (by kernel_rfl) hK (fun _ _ hS => (rv_load1 rfl rfl Tryz.isAgg3 (cell1 (CellsAt.sub (cs' := [.int .i64 (x32.Epoch)]) (el_LRow (hS.rd 9 rfl) (idx_some hx32).2.2) 1 rfl rfl)))) rfl ?_
       refine any_1 (i := 11) (by kernel_rfl) ?_
       obtain ⟨x33, hx33, hG4⟩ := bindE hG4
       refine as_c rfl (rc_call Tryz.call20 rfl rfl) (want_yes rfl) rfl rfl (c_spec_Var (n := x30.Handle)  hx33) ?_
       clear hK; rintro _ w ⟨rfl, hk⟩
       replace hS := hS.after hk; clear hk
       have hK := keepsI ((hS.sel [0] rfl).selR [0, 1, 2, 3, 4, 5, 6, 7, 8, 9] rfl)
       refine ⟨hK, ?_⟩
       obtain ⟨hn4, hG4⟩ := needE hG4
       refine ey 12 rfl (by kernel_rfl) hK (fun _ _ _ => (rv_cat rfl rfl rfl hn4)) rfl ?_
       refine any_1 (i := 23) (by kernel_rfl) ?_
       obtain ⟨x34, hx34, hG4⟩ := bindE hG4
       refine as_c rfl (rc_call Tryz.call20 rfl rfl) (want_yes rfl) rfl rfl (c_spec_Var (n := x32.Epoch)  hx34) ?_
       clear hK; rintro _ w ⟨rfl, hk⟩
       replace hS := hS.after hk; clear hk
       have hK := keepsI ((hS.sel [0] rfl).selR [0, 1, 2, 3, 4, 5, 6, 7, 8, 9] rfl)
       refine ⟨hK, ?_⟩
       obtain ⟨hn5, hG4⟩ := needE hG4
       refine ey 24 rfl (by kernel_rfl) hK (fun _ _ _ => (rv_cat rfl rfl rfl hn5)) rfl ?_
       refine ey 25 rfl (by kernel_rfl) hK (fun _ _ _ => (rv_assign rfl rfl)) rfl ?_
       refine any_done (by kernel_rfl) ?_
       intro a hA
       refine cw_ops hA ?_
       clear hA
       refine om rfl rfl <| oy (rv_add rfl rfl rfl) rfl <| oa rfl rfl <| ops_nil fun a hA => ?_
       cases hG4
       exact ⟨_, rfl, ⟨hA.part ⟨rfl, rfl, rfl, rfl, trivial⟩, ((hS).sel [0] rfl).selR [0, 1, 2, 3, 4, 5, 6] rfl⟩⟩
      ·replace hG4 := iteF hc4 hG4
       refine cw_exit <| xcons_hit ?_
       cases hG4
       have ho := hr4 _ rfl; subst ho
       exact ⟨x25, rfl, hA.part ⟨rfl, rfl, rfl, trivial⟩, ((hS).sel [0] rfl).selR [0, 1, 2, 3, 4, 5, 6] rfl⟩
     ·skip
      clear hA hS hl4
      rintro a w ⟨x27, heq, hA, hS⟩
      replace hG2 : spec_ShowBase_j4 x12 x27 = some q2 := by rw [heq] at hG2; exact hG2
      clear heq
      unfold spec_ShowBase_j4 at hG2
      refine cw_ops hA ?_
      clear hA
      refine om rfl rfl <| oy (rv_add rfl rfl rfl) rfl <| oa rfl rfl <| ops_nil fun a hA => ?_
      cases hG2
      exact ⟨_, rfl, ⟨hA.part ⟨rfl, rfl, rfl, trivial⟩, ((hS).sel [0] rfl).selR [0, 1, 2, 3, 4, 5, 6] rfl⟩⟩
    ·replace hG2 := iteF hc3 hG2
     refine cw_exit <| xcons_hit ?_
     cases hG2
     have ho := hr2 _ rfl; subst ho
     exact ⟨x11, rfl, hA.part ⟨rfl, rfl, trivial⟩, ((hS).sel [0] rfl).selR [0, 1, 2, 3, 4, 5, 6] rfl⟩
   ·skip
    clear hA hS hl2
    rintro a w ⟨x13, heq, hA, hS⟩
    replace hF : spec_ShowBase_j2 b x13 = some r := by rw [heq] at hF; exact hF
    clear heq
    unfold spec_ShowBase_j2 at hF
    refine cw_seq <| cw_seq <| cw_ops hA ?_
    clear hA
    refine oa rfl rfl <| ops_nil fun a hA => ?_
    obtain ⟨o3, hl3, hF⟩ := bindE hF
    refine cw_cut (J := fun a' w' => ∃ (x18 : List UInt8), o3 = x18 ∧ AEnv 112 [(3, sv (x18))] a' ∧ St (cxAll w0) w' [] []) ?_ ?_
    ·refine cw_block ?_
     refine cw_loop (body := spec_ShowBase_l3 b) (r := o3) (fun sg a' w' => AEnv 112 [(1, .pointer (some ⟨b1, 0, none⟩)), (3, sv (sg.1)), (8, .int .i64 (sg.2))] a' ∧ St (cxAll w0) w' [cBox b1 [s1, s2, s3, s4, .int .i64 (b.Clock.Epoch), s5, s6, s7]] [fRd [s1] (b.Mem.Heap.Bytes : List Int), fRd [s2] (b.Mem.Heap.Class : List Int), fRd [s3] (b.Mem.Lists.Global : List SList), fRd [s4] (b.Mem.Lists.Own : List SList), fRd [s5] (b.Clock.Pins : List Pin), fRd [s6] (b.Limbo : List LList), fRd [s7] (b.Haz : List Int)]) ?_ hl3 ⟨hA.part ⟨rfl, rfl, rfl, trivial⟩, ((hS).sel [0] rfl).selR [0, 1, 2, 3, 4, 5, 6] rfl⟩
     clear hA hS hl3
     rintro ⟨x16, x17⟩ a w q3 ⟨hA, hS⟩ hG3 hr3
     try dsimp only at hA hS
     unfold spec_ShowBase_l3 at hG3
     refine cw_seq <| cw_seq <| cw_ops hA ?_
     clear hA
     refine om rfl rfl <| oy (rv_lss rfl rfl rfl) rfl <| ops_nil fun a hA => cw_cond hA rfl (fun hc2 => ?_) (fun hc2 => ?_)
     ·replace hG3 := iteT hc2 hG3
      refine cw_skip <| cw_seq <| cw_block <| cw_ops hA ?_
      clear hA
      refine om rfl rfl <| oy (rv_fld (m := 0) Tryz.underlying49 rfl rfl Tryz.sizeOf22 rfl rfl) rfl <| oy (rv_load1 rfl rfl Tryz.isAgg22 (hS.cell 0 rfl rfl)) rfl <| om rfl rfl ?_
      obtain ⟨x19, hx19, hG3⟩ := bindE hG3
      refine oy (rv_idx (m := 1) (hS.rd 6 rfl) rfl hx19 Tryz.underlying22 Tryz.sizeOf3 rfl rfl rfl) rfl <| oy (rv_load1 rfl rfl Tryz.isAgg3 (cell1 (el_Int (hS.rd 6 rfl) (idx_some hx19).2.2))) rfl ?_
      obtain ⟨x20, hx20, hG3⟩ := bindE hG3
      refine ops_c (rc_call Tryz.call20 rfl rfl) (want_yes rfl) rfl rfl (c_spec_Var (n := x19)  hx20) ?_
      rintro _ w ⟨rfl, hk⟩
      replace hS := hS.after hk; clear hk
      obtain ⟨hn2, hG3⟩ := needE hG3
      refine oy (rv_cat rfl rfl rfl hn2) rfl <| oa rfl rfl <| ops_nil fun a hA => cw_ops hA ?_
      clear hA
      refine om rfl rfl <| oy (rv_add rfl rfl rfl) rfl <| oa rfl rfl <| ops_nil fun a hA => ?_
      cases hG3
      exact ⟨_, rfl, ⟨hA.part ⟨rfl, rfl, rfl, trivial⟩, ((hS).sel [0] rfl).selR [0, 1, 2, 3, 4, 5, 6] rfl⟩⟩
     ·replace hG3 := iteF hc2 hG3
      refine cw_exit <| xcons_hit ?_
      cases hG3
      have ho := hr3 _ rfl; subst ho
      exact ⟨x16, rfl, hA.part ⟨rfl, trivial⟩, ((hS).sel [] rfl).selR [] rfl⟩
    ·skip
     clear hA hS hl3
     rintro a w ⟨x18, heq, hA, hS⟩
     replace hF : spec_ShowBase_j3 x18 = some r := by rw [heq] at hF; exact hF
     clear heq
     unfold spec_ShowBase_j3 at hF
     refine cw_seq <| cw_ops hA ?_
     clear hA
     refine om rfl rfl <| oa rfl rfl <| ops_nil fun a hA => cw_ret ?_
     cases hF
     exact fy Tryz.results6 hA rfl hS

theorem c_spec_ReadBase {w0 : World} {s : List UInt8}  {r : Base × Bool}  (hF : spec_ReadBase s = some r) :
    Calls Tryz.prog 10 #[sv (s)] w0 (Ret fun v w' => ∃ (s0_0 : Value) (s0_1 : Value) (s0_2 : Value) (s0_3 : Value) (s0_4 : Value) (s0_5 : Value) (s0_6 : Value), v = .tuple #[.agg #[s0_0, s0_1, s0_2, s0_3, .int .i64 (r.1.Clock.Epoch), s0_4, s0_5, s0_6], .bool (r.2)] ∧ St (cxAll w0) w' [cOwn [s0_0] (r.1.Mem.Heap.Bytes : List Int), cOwn [s0_1] (r.1.Mem.Heap.Class : List Int), cOwn [s0_2] (r.1.Mem.Lists.Global : List SList), cOwn [s0_3] (r.1.Mem.Lists.Own : List SList), cOwn [s0_4] (r.1.Clock.Pins : List Pin), cOwn [s0_5] (r.1.Limbo : List LList), cOwn [s0_6] (r.1.Haz : List Int)] []) := by
 have hS : St (cxAll w0) w0 [] [] := St.enter (by
   intro f hf; cases hf)
 refine calls_cw (args := [_]) Tryz.func10 rfl Tryz.ntmps10 rfl ?_
 unfold spec_ReadBase at hF
 intro a hA
 refine cw_seq <| cw_ops hA ?_
 clear hA
 refine ops_mv (rv_alloc (cs := [(.slice none 0 0), (.slice none 0 0), (.slice none 0 0), (.slice none 0 0), .int .i64 (0), (.slice none 0 0), (.slice none 0 0), (.slice none 0 0)]) hS rfl Tryz.zeroValue49 rfl) (want_yes rfl) rfl rfl ?_
 clear hS
 rintro _ w ⟨b1, rfl, hS⟩
 refine oa rfl rfl <| ops_nil fun a hA => cw_seq <| cw_ops hA ?_
 clear hA
 refine om rfl rfl ?_
 obtain ⟨x1, hx1, hF⟩ := bindE hF
 refine ops_c (rc_call Tryz.call34 rfl rfl) (want_yes rfl) rfl rfl (c_spec_l30Mem (s := s)  hx1) ?_
 rintro _ w ⟨s1, s2, s3, s4, rfl, hk⟩
 replace hS := hS.after hk; clear hk
 refine om rfl rfl <| oy (rv_extract rfl rfl rfl) rfl <| oy (rv_extract rfl rfl rfl) rfl <| ops_mv (rv_alloc (cs := [(.slice none 0 0), (.slice none 0 0), (.slice none 0 0), (.slice none 0 0)]) hS rfl Tryz.zeroValue43 rfl) (want_yes rfl) rfl rfl ?_
 clear hS
 rintro _ w ⟨b2, rfl, hS⟩
 refine ops_ms (rs_box (vs := [s1, s2, s3, s4]) hS (i := 5) rfl rfl rfl rfl rfl Tryz.sizeOf43 rfl rfl (all1 (one_rd (hS.rdOwn 1 rfl)) (all1 (one_rd (hS.rdOwn 2 rfl)) (all1 (one_rd (hS.rdOwn 3 rfl)) (all1 (one_rd (hS.rdOwn 4 rfl)) rfl))))) (want_yes rfl) rfl ?_
 clear hS
 intro w hS
 refine oa rfl rfl <| ops_nil fun a hA => cw_seq <| cw_ops hA ?_
 clear hA
 refine oy (rv_loadN rfl rfl Tryz.isAgg43 Tryz.sizeOf43 rfl (hS.cells 5 0 (cs' := [s1, s2, s3, s4]) rfl rfl)) rfl <| oy (rv_build (cells := #[s1, s2, s3, s4, .int .i64 (0), (.slice none 0 0), (.slice none 0 0), (.slice none 0 0)]) rfl Tryz.zeroValue49 Tryz.underlying49 (by have h := places_Tryz49; rw [Tryz.underlying49] at h; exact h) rfl rfl) rfl <| ops_mv (rv_alloc (cs := [(.slice none 0 0), (.slice none 0 0), (.slice none 0 0), (.slice none 0 0), .int .i64 (0), (.slice none 0 0), (.slice none 0 0), (.slice none 0 0)]) hS rfl Tryz.zeroValue49 rfl) (want_yes rfl) rfl rfl ?_
 clear hS
 rintro _ w ⟨b3, rfl, hS⟩
 refine ops_ms (rs_box (vs := [s1, s2, s3, s4, .int .i64 (0), (.slice none 0 0), (.slice none 0 0), (.slice none 0 0)]) hS (i := 6) rfl rfl rfl rfl rfl Tryz.sizeOf49 rfl rfl (all1 (one_rd (hS.rdOwn 1 rfl)) (all1 (one_rd (hS.rdOwn 2 rfl)) (all1 (one_rd (hS.rdOwn 3 rfl)) (all1 (one_rd (hS.rdOwn 4 rfl)) (all1 rfl (all1 rfl (all1 rfl (all1 rfl rfl))))))))) (want_yes rfl) rfl ?_
 clear hS
 intro w hS
 refine ops_nil fun a hA => cw_seq <| cw_ops hA ?_
 clear hA
 refine om rfl rfl <| om rfl rfl ?_
 obtain ⟨x2, hx2, hF⟩ := bindE hF
 refine ops_c (rc_call Tryz.call35 rfl rfl) (want_yes rfl) rfl rfl (c_spec_l30Num (s := s) (at_ := x1.2)  hx2) ?_
 rintro _ w ⟨rfl, hk⟩
 replace hS := hS.after hk; clear hk
 refine om rfl rfl <| oy (rv_extract rfl rfl rfl) rfl <| oy (rv_extract rfl rfl rfl) rfl <| oa rfl rfl <| oa rfl rfl <| ops_nil fun a hA => cw_seq <| cw_ops hA ?_
 clear hA
 refine om rfl rfl <| oy (rv_fld (m := 1) Tryz.underlying49 rfl rfl Tryz.sizeOf46 rfl rfl) rfl <| oy (rv_fld (m := 0) Tryz.underlying46 rfl rfl Tryz.sizeOf3 rfl rfl) rfl <| ops_ms (rs_box (vs := [.int .i64 (x2.1)]) hS (i := 6) rfl rfl rfl rfl rfl Tryz.sizeOf3 rfl rfl rfl) (want_yes rfl) rfl ?_
 clear hS
 intro w hS
 refine ops_nil fun a hA => cw_seq <| cw_seq <| cw_ops hA ?_
 clear hA
 refine oa rfl rfl <| ops_nil fun a hA => ?_
 obtain ⟨o1, hl1, hF⟩ := bindE hF
 refine cw_cut (J := fun a' w' => ∃ (x9 : Int) (x10 : List Pin) (s7 : Value), o1 = (x9, x10) ∧ AEnv 103 [(0, sv (s)), (2, .pointer (some ⟨b1, 0, none⟩)), (5, .int .i64 (x9)), (6, .pointer (some ⟨b3, 0, none⟩))] a' ∧ St (cxAll w0) w' [cBox b1 [(.slice none 0 0), (.slice none 0 0), (.slice none 0 0), (.slice none 0 0), .int .i64 (0), (.slice none 0 0), (.slice none 0 0), (.slice none 0 0)], cOwn [s1] (x1.1.Heap.Bytes : List Int), cOwn [s2] (x1.1.Heap.Class : List Int), cOwn [s3] (x1.1.Lists.Global : List SList), cOwn [s4] (x1.1.Lists.Own : List SList), cOwn [s7] (x10 : List Pin), cBox b3 [s1, s2, s3, s4, .int .i64 (x2.1), s7, (.slice none 0 0), (.slice none 0 0)]] []) ?_ ?_
 ·refine cw_block ?_
  refine cw_loop (body := spec_ReadBase_l1 s) (r := o1) (fun sg a' w' => ∃ (s6 : Value), AEnv 103 [(0, sv (s)), (2, .pointer (some ⟨b1, 0, none⟩)), (5, .int .i64 (sg.1)), (6, .pointer (some ⟨b3, 0, none⟩)), (8, .int .i64 (sg.2.1))] a' ∧ St (cxAll w0) w' [cBox b1 [(.slice none 0 0), (.slice none 0 0), (.slice none 0 0), (.slice none 0 0), .int .i64 (0), (.slice none 0 0), (.slice none 0 0), (.slice none 0 0)], cOwn [s1] (x1.1.Heap.Bytes : List Int), cOwn [s2] (x1.1.Heap.Class : List Int), cOwn [s3] (x1.1.Lists.Global : List SList), cOwn [s4] (x1.1.Lists.Own : List SList), cOwn [s6] (sg.2.2 : List Pin), cBox b3 [s1, s2, s3, s4, .int .i64 (x2.1), s6, (.slice none 0 0), (.slice none 0 0)]] []) ?_ hl1 ⟨(.slice none 0 0), hA.part ⟨rfl, rfl, rfl, rfl, rfl, trivial⟩, (((hS).nilOwn (α := Pin)).sel [0, 1, 2, 3, 4, 7, 6] rfl).selR [] rfl⟩
  clear hA hS hl1
  rintro ⟨x6, x7, x8⟩ a w q1 ⟨s6, hA, hS⟩ hG1 hr1
  try dsimp only at hA hS
  unfold spec_ReadBase_l1 at hG1
  refine cw_seq <| cw_seq <| cw_ops hA ?_
  clear hA
  refine om rfl rfl <| oy (rv_lss rfl rfl rfl) rfl <| ops_nil fun a hA => cw_cond hA rfl (fun hc6 => ?_) (fun hc6 => ?_)
  ·replace hG1 := iteT hc6 hG1
   refine cw_skip <| cw_seq <| cw_block <| cw_seq <| cw_ops hA ?_
   clear hA
   refine om rfl rfl <| om rfl rfl ?_
   obtain ⟨x32, hx32, hG1⟩ := bindE hG1
   refine ops_c (rc_call Tryz.call36 rfl rfl) (want_yes rfl) rfl rfl (c_spec_l30Pin (s := s) (at_ := x6)  hx32) ?_
   rintro _ w ⟨rfl, hk⟩
   replace hS := hS.after hk; clear hk
   refine om rfl rfl <| oy (rv_extract rfl rfl rfl) rfl <| oy (rv_extract rfl rfl rfl) rfl <| ops_mv (rv_alloc (cs := [.bool (false), .int .i64 (0), .bool (false), .int .i64 (0)]) hS rfl Tryz.zeroValue65 rfl) (want_yes rfl) rfl rfl ?_
   clear hS
   rintro _ w ⟨b5, rfl, hS⟩
   refine ops_ms (rs_box (vs := [.bool (x32.1.On), .int .i64 (x32.1.Epoch), .bool (x32.1.Marked), .int .i64 (x32.1.Seen)]) hS (i := 7) rfl rfl rfl rfl rfl Tryz.sizeOf65 rfl rfl rfl) (want_yes rfl) rfl ?_
   clear hS
   intro w hS
   refine oa rfl rfl <| ops_nil fun a hA => cw_seq <| cw_ops hA ?_
   clear hA
   refine oy (rv_fld (m := 1) Tryz.underlying49 rfl rfl Tryz.sizeOf46 rfl rfl) rfl <| oy (rv_fld (m := 0) Tryz.underlying46 rfl rfl Tryz.sizeOf44 rfl rfl) rfl <| oy (rv_load1 rfl rfl Tryz.isAgg44 (hS.cell 6 rfl rfl)) rfl <| oy (rv_loadN rfl rfl Tryz.isAgg65 Tryz.sizeOf65 rfl (hS.cells 7 0 (cs' := [.bool (x32.1.On), .int .i64 (x32.1.Epoch), .bool (x32.1.Marked), .int .i64 (x32.1.Seen)]) rfl rfl)) rfl <| ops_mv (rv_lit (m := 4) (len := 1) (cells := [.bool (x32.1.On), .int .i64 (x32.1.Epoch), .bool (x32.1.Marked), .int .i64 (x32.1.Seen)]) ([x32.1] : List Pin) hS rfl Tryz.underlying44 inf_Tryz65 rfl rfl rfl ⟨(mk_Pin x32.1), rfl⟩ rfl rfl (lit_fill rfl rfl rfl rfl)) (want_yes rfl) rfl rfl ?_
   clear hS
   rintro s19 w hS
   obtain ⟨hn3, hG1⟩ := needE hG1
   refine ops_mv (rv_append (α := Pin) 5 hS rfl (hS.rdOwn 8 rfl) rfl Tryz.underlying44 inf_Tryz65 rfl hn3 rfl rfl rfl) (want_yes rfl) rfl rfl ?_
   clear hS
   rintro s20 w hS
   refine oy (rv_fld (m := 1) Tryz.underlying49 rfl rfl Tryz.sizeOf46 rfl rfl) rfl <| oy (rv_fld (m := 0) Tryz.underlying46 rfl rfl Tryz.sizeOf44 rfl rfl) rfl <| ops_ms (rs_box (vs := [s20]) hS (i := 6) rfl rfl rfl rfl (cells_rd (hS.rdOwn 5 rfl)) Tryz.sizeOf44 rfl rfl (all1 (one_rd (hS.rdOwn 5 rfl)) rfl)) (want_yes rfl) rfl ?_
   clear hS
   intro w hS
   refine ops_nil fun a hA => cw_ops hA ?_
   clear hA
   refine om rfl rfl <| oa rfl rfl <| ops_nil fun a hA => cw_ops hA ?_
   clear hA
   refine om rfl rfl <| oy (rv_add rfl rfl rfl) rfl <| oa rfl rfl <| ops_nil fun a hA => ?_
   cases hG1
   exact ⟨_, rfl, ⟨s20, hA.part ⟨rfl, rfl, rfl, rfl, rfl, trivial⟩, ((hS).sel [0, 1, 2, 3, 4, 5, 6] rfl).selR [] rfl⟩⟩
  ·replace hG1 := iteF hc6 hG1
   refine cw_exit <| xcons_hit ?_
   cases hG1
   have ho := hr1 _ rfl; subst ho
   exact ⟨x6, x8, s6, rfl, hA.part ⟨rfl, rfl, rfl, rfl, trivial⟩, ((hS).sel [0, 1, 2, 3, 4, 5, 6] rfl).selR [] rfl⟩
 ·skip
  clear hA hS hl1
  rintro a w ⟨x9, x10, s7, heq, hA, hS⟩
  replace hF : spec_ReadBase_j1 s x1 x2 x9 x10 = some r := by rw [heq] at hF; exact hF
  clear heq
  unfold spec_ReadBase_j1 at hF
  refine cw_seq <| cw_seq <| cw_ops hA ?_
  clear hA
  refine oa rfl rfl <| ops_nil fun a hA => ?_
  obtain ⟨o2, hl2, hF⟩ := bindE hF
  refine cw_cut (J := fun a' w' => ∃ (x17 : Int) (x18 : List LList) (s10 : Value), o2 = (x17, x18) ∧ AEnv 103 [(0, sv (s)), (2, .pointer (some ⟨b1, 0, none⟩)), (5, .int .i64 (x17)), (6, .pointer (some ⟨b3, 0, none⟩))] a' ∧ St (cxAll w0) w' [cBox b1 [(.slice none 0 0), (.slice none 0 0), (.slice none 0 0), (.slice none 0 0), .int .i64 (0), (.slice none 0 0), (.slice none 0 0), (.slice none 0 0)], cOwn [s1] (x1.1.Heap.Bytes : List Int), cOwn [s2] (x1.1.Heap.Class : List Int), cOwn [s3] (x1.1.Lists.Global : List SList), cOwn [s4] (x1.1.Lists.Own : List SList), cOwn [s7] (x10 : List Pin), cOwn [s10] (x18 : List LList), cBox b3 [s1, s2, s3, s4, .int .i64 (x2.1), s7, s10, (.slice none 0 0)]] []) ?_ ?_
  ·refine cw_block ?_
   refine cw_loop (body := spec_ReadBase_l2 s) (r := o2) (fun sg a' w' => ∃ (s9 : Value), AEnv 103 [(0, sv (s)), (2, .pointer (some ⟨b1, 0, none⟩)), (5, .int .i64 (sg.1)), (6, .pointer (some ⟨b3, 0, none⟩)), (11, .int .i64 (sg.2.1))] a' ∧ St (cxAll w0) w' [cBox b1 [(.slice none 0 0), (.slice none 0 0), (.slice none 0 0), (.slice none 0 0), .int .i64 (0), (.slice none 0 0), (.slice none 0 0), (.slice none 0 0)], cOwn [s1] (x1.1.Heap.Bytes : List Int), cOwn [s2] (x1.1.Heap.Class : List Int), cOwn [s3] (x1.1.Lists.Global : List SList), cOwn [s4] (x1.1.Lists.Own : List SList), cOwn [s7] (x10 : List Pin), cOwn [s9] (sg.2.2 : List LList), cBox b3 [s1, s2, s3, s4, .int .i64 (x2.1), s7, s9, (.slice none 0 0)]] []) ?_ hl2 ⟨(.slice none 0 0), hA.part ⟨rfl, rfl, rfl, rfl, rfl, trivial⟩, (((hS).nilOwn (α := LList)).sel [0, 1, 2, 3, 4, 5, 7, 6] rfl).selR [] rfl⟩
   clear hA hS hl2
   rintro ⟨x14, x15, x16⟩ a w q2 ⟨s9, hA, hS⟩ hG2 hr2
   try dsimp only at hA hS
   unfold spec_ReadBase_l2 at hG2
   refine cw_seq <| cw_seq <| cw_ops hA ?_
   clear hA
   refine om rfl rfl <| oy (rv_lss rfl rfl rfl) rfl <| ops_nil fun a hA => cw_cond hA rfl (fun hc5 => ?_) (fun hc5 => ?_)
   ·replace hG2 := iteT hc5 hG2
    refine cw_skip <| cw_seq <| cw_block <| cw_seq <| cw_ops hA ?_
    clear hA
    refine om rfl rfl <| om rfl rfl ?_
    obtain ⟨x31, hx31, hG2⟩ := bindE hG2
    refine ops_c (rc_call Tryz.call37 rfl rfl) (want_yes rfl) rfl rfl (c_spec_l30Rows (s := s) (at_ := x14)  hx31) ?_
    rintro _ w ⟨s16, rfl, hk⟩
    replace hS := hS.after hk; clear hk
    refine om rfl rfl <| oy (rv_extract rfl rfl rfl) rfl <| oy (rv_extract rfl rfl rfl) rfl <| ops_mv (rv_alloc (cs := [(.slice none 0 0)]) hS rfl Tryz.zeroValue69 rfl) (want_yes rfl) rfl rfl ?_
    clear hS
    rintro _ w ⟨b4, rfl, hS⟩
    refine ops_ms (rs_box (vs := [s16]) hS (i := 9) rfl rfl rfl rfl rfl Tryz.sizeOf69 rfl rfl (all1 (one_rd (hS.rdOwn 8 rfl)) rfl)) (want_yes rfl) rfl ?_
    clear hS
    intro w hS
    refine oa rfl rfl <| ops_nil fun a hA => cw_seq <| cw_ops hA ?_
    clear hA
    refine oy (rv_fld (m := 0) Tryz.underlying49 rfl rfl Tryz.sizeOf47 rfl rfl) rfl <| oy (rv_load1 rfl rfl Tryz.isAgg47 (hS.cell 7 rfl rfl)) rfl <| oy (rv_loadN rfl rfl Tryz.isAgg69 Tryz.sizeOf69 rfl (hS.cells 9 0 (cs' := [s16]) rfl rfl)) rfl ?_
    replace hS := hS.pack [8] rfl rfl (op_LList x31.1)
    refine ops_mv (rv_litN1 (x31.1 : LList) hS [10] rfl ⟨_, rfl, rfl, ⟨rfl, rfl⟩⟩ rfl Tryz.underlying47 inf_Tryz69 rfl rfl rfl) (want_yes rfl) rfl rfl ?_
    clear hS
    rintro s17 w hS
    obtain ⟨hn2, hG2⟩ := needE hG2
    refine ops_mv (rv_appN (α := LList) [6, 11] hS rfl rfl rfl Tryz.underlying47 inf_Tryz69 rfl hn2 rfl rfl rfl) (want_yes rfl) rfl rfl ?_
    clear hS
    rintro s18 w hS
    refine oy (rv_fld (m := 0) Tryz.underlying49 rfl rfl Tryz.sizeOf47 rfl rfl) rfl <| ops_ms (rs_box (vs := [s18]) hS (i := 7) rfl rfl rfl rfl (cells_rd (hS.rdOwn 12 rfl)) Tryz.sizeOf47 rfl rfl (all1 (one_rd (hS.rdOwn 12 rfl)) rfl)) (want_yes rfl) rfl ?_
    clear hS
    intro w hS
    refine ops_nil fun a hA => cw_ops hA ?_
    clear hA
    refine om rfl rfl <| oa rfl rfl <| ops_nil fun a hA => cw_ops hA ?_
    clear hA
    refine om rfl rfl <| oy (rv_add rfl rfl rfl) rfl <| oa rfl rfl <| ops_nil fun a hA => ?_
    cases hG2
    exact ⟨_, rfl, ⟨s18, hA.part ⟨rfl, rfl, rfl, rfl, rfl, trivial⟩, ((hS).sel [0, 1, 2, 3, 4, 5, 12, 7] rfl).selR [] rfl⟩⟩
   ·replace hG2 := iteF hc5 hG2
    refine cw_exit <| xcons_hit ?_
    cases hG2
    have ho := hr2 _ rfl; subst ho
    exact ⟨x14, x16, s9, rfl, hA.part ⟨rfl, rfl, rfl, rfl, trivial⟩, ((hS).sel [0, 1, 2, 3, 4, 5, 6, 7] rfl).selR [] rfl⟩
  ·skip
   clear hA hS hl2
   rintro a w ⟨x17, x18, s10, heq, hA, hS⟩
   replace hF : spec_ReadBase_j2 s x1 x2 x10 x17 x18 = some r := by rw [heq] at hF; exact hF
   clear heq
   unfold spec_ReadBase_j2 at hF
   refine cw_seq <| cw_seq <| cw_ops hA ?_
   clear hA
   refine oa rfl rfl <| ops_nil fun a hA => ?_
   obtain ⟨o3, hl3, hF⟩ := bindE hF
   refine cw_cut (J := fun a' w' => ∃ (x25 : Int) (x26 : List Int) (s13 : Value), o3 = (x25, x26) ∧ AEnv 103 [(0, sv (s)), (2, .pointer (some ⟨b1, 0, none⟩)), (5, .int .i64 (x25)), (6, .pointer (some ⟨b3, 0, none⟩))] a' ∧ St (cxAll w0) w' [cBox b1 [(.slice none 0 0), (.slice none 0 0), (.slice none 0 0), (.slice none 0 0), .int .i64 (0), (.slice none 0 0), (.slice none 0 0), (.slice none 0 0)], cOwn [s1] (x1.1.Heap.Bytes : List Int), cOwn [s2] (x1.1.Heap.Class : List Int), cOwn [s3] (x1.1.Lists.Global : List SList), cOwn [s4] (x1.1.Lists.Own : List SList), cOwn [s7] (x10 : List Pin), cOwn [s10] (x18 : List LList), cOwn [s13] (x26 : List Int), cBox b3 [s1, s2, s3, s4, .int .i64 (x2.1), s7, s10, s13]] []) ?_ ?_
   ·refine cw_block ?_
    refine cw_loop (body := spec_ReadBase_l3 s) (r := o3) (fun sg a' w' => ∃ (s12 : Value), AEnv 103 [(0, sv (s)), (2, .pointer (some ⟨b1, 0, none⟩)), (5, .int .i64 (sg.1)), (6, .pointer (some ⟨b3, 0, none⟩)), (14, .int .i64 (sg.2.1))] a' ∧ St (cxAll w0) w' [cBox b1 [(.slice none 0 0), (.slice none 0 0), (.slice none 0 0), (.slice none 0 0), .int .i64 (0), (.slice none 0 0), (.slice none 0 0), (.slice none 0 0)], cOwn [s1] (x1.1.Heap.Bytes : List Int), cOwn [s2] (x1.1.Heap.Class : List Int), cOwn [s3] (x1.1.Lists.Global : List SList), cOwn [s4] (x1.1.Lists.Own : List SList), cOwn [s7] (x10 : List Pin), cOwn [s10] (x18 : List LList), cOwn [s12] (sg.2.2 : List Int), cBox b3 [s1, s2, s3, s4, .int .i64 (x2.1), s7, s10, s12]] []) ?_ hl3 ⟨(.slice none 0 0), hA.part ⟨rfl, rfl, rfl, rfl, rfl, trivial⟩, (((hS).nilOwn (α := Int)).sel [0, 1, 2, 3, 4, 5, 6, 8, 7] rfl).selR [] rfl⟩
    clear hA hS hl3
    rintro ⟨x22, x23, x24⟩ a w q3 ⟨s12, hA, hS⟩ hG3 hr3
    try dsimp only at hA hS
    unfold spec_ReadBase_l3 at hG3
    refine cw_seq <| cw_seq <| cw_ops hA ?_
    clear hA
    refine om rfl rfl <| oy (rv_lss rfl rfl rfl) rfl <| ops_nil fun a hA => cw_cond hA rfl (fun hc4 => ?_) (fun hc4 => ?_)
    ·replace hG3 := iteT hc4 hG3
     refine cw_skip <| cw_seq <| cw_block <| cw_seq <| cw_ops hA ?_
     clear hA
     refine om rfl rfl <| om rfl rfl ?_
     obtain ⟨x30, hx30, hG3⟩ := bindE hG3
     refine ops_c (rc_call Tryz.call35 rfl rfl) (want_yes rfl) rfl rfl (c_spec_l30Num (s := s) (at_ := x22)  hx30) ?_
     rintro _ w ⟨rfl, hk⟩
     replace hS := hS.after hk; clear hk
     refine om rfl rfl <| oy (rv_extract rfl rfl rfl) rfl <| oy (rv_extract rfl rfl rfl) rfl <| oa rfl rfl <| oa rfl rfl <| ops_nil fun a hA => cw_seq <| cw_ops hA ?_
     clear hA
     refine oy (rv_fld (m := 0) Tryz.underlying49 rfl rfl Tryz.sizeOf22 rfl rfl) rfl <| oy (rv_load1 rfl rfl Tryz.isAgg22 (hS.cell 8 rfl rfl)) rfl <| om rfl rfl <| ops_mv (rv_lit1 (x30.1 : Int) hS rfl Tryz.underlying22 inf_Tryz3 rfl rfl rfl rfl) (want_yes rfl) rfl rfl ?_
     clear hS
     rintro s14 w hS
     obtain ⟨hn1, hG3⟩ := needE hG3
     refine ops_mv (rv_append (α := Int) 7 hS rfl (hS.rdOwn 9 rfl) rfl Tryz.underlying22 inf_Tryz3 rfl hn1 rfl rfl rfl) (want_yes rfl) rfl rfl ?_
     clear hS
     rintro s15 w hS
     refine oy (rv_fld (m := 0) Tryz.underlying49 rfl rfl Tryz.sizeOf22 rfl rfl) rfl <| ops_ms (rs_box (vs := [s15]) hS (i := 8) rfl rfl rfl rfl (cells_rd (hS.rdOwn 7 rfl)) Tryz.sizeOf22 rfl rfl (all1 (one_rd (hS.rdOwn 7 rfl)) rfl)) (want_yes rfl) rfl ?_
     clear hS
     intro w hS
     refine ops_nil fun a hA => cw_ops hA ?_
     clear hA
     refine om rfl rfl <| oa rfl rfl <| ops_nil fun a hA => cw_ops hA ?_
     clear hA
     refine om rfl rfl <| oy (rv_add rfl rfl rfl) rfl <| oa rfl rfl <| ops_nil fun a hA => ?_
     cases hG3
     exact ⟨_, rfl, ⟨s15, hA.part ⟨rfl, rfl, rfl, rfl, rfl, trivial⟩, ((hS).sel [0, 1, 2, 3, 4, 5, 6, 7, 8] rfl).selR [] rfl⟩⟩
    ·replace hG3 := iteF hc4 hG3
     refine cw_exit <| xcons_hit ?_
     cases hG3
     have ho := hr3 _ rfl; subst ho
     exact ⟨x22, x24, s12, rfl, hA.part ⟨rfl, rfl, rfl, rfl, trivial⟩, ((hS).sel [0, 1, 2, 3, 4, 5, 6, 7, 8] rfl).selR [] rfl⟩
   ·skip
    clear hA hS hl3
    rintro a w ⟨x25, x26, s13, heq, hA, hS⟩
    replace hF : spec_ReadBase_j3 s x1 x2 x10 x18 x25 x26 = some r := by rw [heq] at hF; exact hF
    clear heq
    unfold spec_ReadBase_j3 at hF
    refine cw_seq <| cw_seq <| cw_cut (J := fun a' w' => ∃ (x27 : Bool), spec_ReadBase_j4 x1 x2 x10 x18 x26 x27 = some r ∧ AEnv 103 [(2, .pointer (some ⟨b1, 0, none⟩)), (6, .pointer (some ⟨b3, 0, none⟩)), (100, .bool (x27))] a' ∧ St (cxAll w0) w' [cBox b1 [(.slice none 0 0), (.slice none 0 0), (.slice none 0 0), (.slice none 0 0), .int .i64 (0), (.slice none 0 0), (.slice none 0 0), (.slice none 0 0)], cOwn [s1] (x1.1.Heap.Bytes : List Int), cOwn [s2] (x1.1.Heap.Class : List Int), cOwn [s3] (x1.1.Lists.Global : List SList), cOwn [s4] (x1.1.Lists.Own : List SList), cOwn [s7] (x10 : List Pin), cOwn [s10] (x18 : List LList), cOwn [s13] (x26 : List Int), cBox b3 [s1, s2, s3, s4, .int .i64 (x2.1), s7, s10, s13]] []) ?_ ?_
    ·skip
     refine cw_ops hA ?_
     clear hA
     refine om rfl rfl <| om rfl rfl <| oy (rv_lens Tryz.underlying9 rfl rfl) rfl <| oy (rv_neq rfl rfl rfl) rfl <| om rfl rfl <| ops_case (s := 90) rfl (fun hc2 => ?_) (fun hc2 => ?_)
     ·replace hF := iteT hc2 hF
      refine ops_off (want_if rfl rfl rfl (by rw [hc2]; rfl)) rfl rfl <| ops_off (want_if rfl rfl rfl (by rw [hc2]; rfl)) rfl rfl <| ops_off (want_if rfl rfl rfl (by rw [hc2]; rfl)) rfl rfl <| oy (rv_pick_t rfl rfl hc2 rfl) rfl <| om rfl rfl <| ops_off (want_if rfl rfl rfl rfl) rfl rfl <| ops_off (want_if rfl rfl rfl rfl) rfl rfl <| ops_off (want_if rfl rfl rfl rfl) rfl rfl <| ops_off (want_if rfl rfl rfl rfl) rfl rfl ?_
      refine oy (rv_pick_t rfl rfl rfl rfl) rfl <| ops_nil fun a hA => ?_
      exact ⟨true, hF, hA.part ⟨rfl, rfl, rfl, trivial⟩, ((hS).sel [0, 1, 2, 3, 4, 5, 6, 7, 8] rfl).selR [] rfl⟩
     ·replace hF := iteF hc2 hF
      refine ops_v (rv_loadN rfl rfl Tryz.isAgg49 Tryz.sizeOf49 rfl (hS.cells 8 0 (cs' := [s1, s2, s3, s4, .int .i64 (x2.1), s7, s10, s13]) rfl rfl)) (want_if rfl rfl rfl (by rw [hc2]; rfl)) rfl rfl ?_
      obtain ⟨x28, hx28, hF⟩ := bindE hF
      refine ops_c (rc_call Tryz.call18 rfl rfl) (want_if rfl rfl rfl (by rw [hc2]; rfl)) rfl rfl (c_spec_BaseOk (b := (⟨x1.1, (⟨x2.1, x10⟩ : Clock), x18, x26⟩ : Base)) (hS.rdOwn 1 rfl) (hS.rdOwn 2 rfl) (hS.rdOwn 3 rfl) (hS.rdOwn 4 rfl) (hS.rdOwn 5 rfl) (hS.rdOwn 6 rfl) (hS.rdOwn 7 rfl) hx28) ?_
      rintro _ w ⟨rfl, hk⟩
      replace hS := hS.after hk; clear hk
      refine ops_v (rv_not rfl rfl) (want_if rfl rfl rfl (by rw [hc2]; rfl)) rfl rfl <| oy (rv_pick_f rfl rfl hc2 rfl) rfl <| om rfl rfl <| ops_case (s := 95) rfl (fun hc3 => ?_) (fun hc3 => ?_)
      ·replace hF := iteT hc3 hF
       refine ops_off (want_if rfl rfl rfl (by rw [hc3]; rfl)) rfl rfl <| ops_off (want_if rfl rfl rfl (by rw [hc3]; rfl)) rfl rfl <| ops_off (want_if rfl rfl rfl (by rw [hc3]; rfl)) rfl rfl <| ops_off (want_if rfl rfl rfl (by rw [hc3]; rfl)) rfl rfl <| oy (rv_pick_t rfl rfl hc3 rfl) rfl <| ops_nil fun a hA => ?_
       exact ⟨true, hF, hA.part ⟨rfl, rfl, rfl, trivial⟩, ((hS).sel [0, 1, 2, 3, 4, 5, 6, 7, 8] rfl).selR [] rfl⟩
      ·replace hF := iteF hc3 hF
       refine ops_v (rv_loadN rfl rfl Tryz.isAgg49 Tryz.sizeOf49 rfl (hS.cells 8 0 (cs' := [s1, s2, s3, s4, .int .i64 (x2.1), s7, s10, s13]) rfl rfl)) (want_if rfl rfl rfl (by rw [hc3]; rfl)) rfl rfl ?_
       obtain ⟨x29, hx29, hF⟩ := bindE hF
       refine ops_c (rc_call Tryz.call6 rfl rfl) (want_if rfl rfl rfl (by rw [hc3]; rfl)) rfl rfl (c_spec_ShowBase (b := (⟨x1.1, (⟨x2.1, x10⟩ : Clock), x18, x26⟩ : Base)) (hS.rdOwn 1 rfl) (hS.rdOwn 2 rfl) (hS.rdOwn 3 rfl) (hS.rdOwn 4 rfl) (hS.rdOwn 5 rfl) (hS.rdOwn 6 rfl) (hS.rdOwn 7 rfl) hx29) ?_
       rintro _ w ⟨rfl, hk⟩
       replace hS := hS.after hk; clear hk
       refine ops_v (rv_move rfl rfl) (want_if rfl rfl rfl (by rw [hc3]; rfl)) rfl rfl <| ops_v (rv_neqs rfl rfl rfl) (want_if rfl rfl rfl (by rw [hc3]; rfl)) rfl rfl <| oy (rv_pick_f rfl rfl hc3 rfl) rfl <| ops_nil fun a hA => ?_
       exact ⟨!(x29 == s), hF, hA.part ⟨rfl, rfl, rfl, trivial⟩, ((hS).sel [0, 1, 2, 3, 4, 5, 6, 7, 8] rfl).selR [] rfl⟩
    ·skip
     clear hA hS hF
     rintro a w ⟨x27, hF, hA, hS⟩
     unfold spec_ReadBase_j4 at hF
     refine cw_cond hA rfl (fun hc1 => ?_) (fun hc1 => ?_)
     ·replace hF := iteT hc1 hF
      refine cw_seq <| cw_ops hA ?_
      clear hA
      refine oy (rv_build (cells := #[(.slice none 0 0), (.slice none 0 0), (.slice none 0 0), (.slice none 0 0), .int .i64 (0), (.slice none 0 0), (.slice none 0 0), (.slice none 0 0)]) rfl Tryz.zeroValue49 Tryz.underlying49 (by have h := places_Tryz49; rw [Tryz.underlying49] at h; exact h) rfl rfl) rfl <| ops_ms (rs_box (vs := [(.slice none 0 0), (.slice none 0 0), (.slice none 0 0), (.slice none 0 0), .int .i64 (0), (.slice none 0 0), (.slice none 0 0), (.slice none 0 0)]) hS (i := 0) rfl rfl rfl rfl rfl Tryz.sizeOf49 rfl rfl rfl) (want_yes rfl) rfl ?_
      clear hS
      intro w hS
      refine oa rfl rfl <| ops_nil fun a hA => cw_ret ?_
      replace hS := hS.nilOwn (α := Int)
      replace hS := hS.nilOwn (α := Int)
      replace hS := hS.nilOwn (α := SList)
      replace hS := hS.nilOwn (α := SList)
      replace hS := hS.nilOwn (α := Pin)
      replace hS := hS.nilOwn (α := LList)
      replace hS := hS.nilOwn (α := Int)
      cases hF
      exact fin2 Tryz.results10 hA (res_cell rfl Tryz.isAgg49 Tryz.sizeOf49 rfl (hS.cells 0 0 (cs' := [(.slice none 0 0), (.slice none 0 0), (.slice none 0 0), (.slice none 0 0), .int .i64 (0), (.slice none 0 0), (.slice none 0 0), (.slice none 0 0)]) rfl rfl)) (res_tmp rfl) ⟨(.slice none 0 0), (.slice none 0 0), (.slice none 0 0), (.slice none 0 0), (.slice none 0 0), (.slice none 0 0), (.slice none 0 0), rfl, (hS.sel [9, 10, 11, 12, 13, 14, 15] rfl).weaken (R' := []) (fun _ h => nomatch h)⟩
     ·replace hF := iteF hc1 hF
      refine cw_skip <| cw_seq <| cw_ops hA ?_
      clear hA
      refine oy (rv_loadN rfl rfl Tryz.isAgg49 Tryz.sizeOf49 rfl (hS.cells 8 0 (cs' := [s1, s2, s3, s4, .int .i64 (x2.1), s7, s10, s13]) rfl rfl)) rfl <| ops_ms (rs_box (vs := [s1, s2, s3, s4, .int .i64 (x2.1), s7, s10, s13]) hS (i := 0) rfl rfl rfl rfl rfl Tryz.sizeOf49 rfl rfl (all1 (one_rd (hS.rdOwn 1 rfl)) (all1 (one_rd (hS.rdOwn 2 rfl)) (all1 (one_rd (hS.rdOwn 3 rfl)) (all1 (one_rd (hS.rdOwn 4 rfl)) (all1 rfl (all1 (one_rd (hS.rdOwn 5 rfl)) (all1 (one_rd (hS.rdOwn 6 rfl)) (all1 (one_rd (hS.rdOwn 7 rfl)) rfl))))))))) (want_yes rfl) rfl ?_
      clear hS
      intro w hS
      refine oa rfl rfl <| ops_nil fun a hA => cw_ret ?_
      cases hF
      exact fin2 Tryz.results10 hA (res_cell rfl Tryz.isAgg49 Tryz.sizeOf49 rfl (hS.cells 0 0 (cs' := [s1, s2, s3, s4, .int .i64 (x2.1), s7, s10, s13]) rfl rfl)) (res_tmp rfl) ⟨s1, s2, s3, s4, s7, s10, s13, rfl, (hS.sel [1, 2, 3, 4, 5, 6, 7] rfl).weaken (R' := []) (fun _ h => nomatch h)⟩

theorem c_impl_reader_byte {c : Ctx} {w0 : World} {r_ : Reader} {b1 z1 : Nat} {r : Int × Reader} (hS : St c w0 [cAt b1 z1 [sv (r_.left.b), .bool (r_.bad)]] []) (hF : impl_reader_byte r_ = some r) :
    Calls Tryz.prog 82 #[.pointer (some ⟨b1, z1, none⟩)] w0 (Ret fun v w' => v = .int .i64 (r.1) ∧ St (c) w' [cAt b1 z1 [sv (r.2.left.b), .bool (r.2.bad)]] []) := by
 refine calls_cw (args := [_]) Tryz.func82 rfl Tryz.ntmps82 rfl ?_
 unfold impl_reader_byte at hF
 intro a hA
 refine cw_seq <| cw_ops hA ?_
 clear hA
 refine oa rfl rfl <| ops_nil fun a hA => cw_seq <| cw_seq <| cw_ops hA ?_
 clear hA
 refine om rfl rfl <| oy (rv_nil rfl rfl) rfl <| oy (rv_fld (m := 0) Tryz.underlying89 rfl rfl Tryz.sizeOf9 rfl rfl) rfl <| oy (rv_load1 rfl rfl Tryz.isAgg9 (hS.acell (q := z1) (j := 0) 0 rfl rfl)) rfl <| oy (rv_eqls rfl rfl rfl) rfl <| ops_nil fun a hA => cw_cond hA rfl (fun hc1 => ?_) (fun hc1 => ?_)
 ·replace hF := iteT hc1 hF
  refine cw_seq <| cw_ops hA ?_
  clear hA
  refine om rfl rfl <| oy (rv_nil rfl rfl) rfl <| oy (rv_fld (m := 0) Tryz.underlying89 rfl rfl Tryz.sizeOf4 rfl rfl) rfl <| ops_ms (rs_at (vs := [.bool (true)]) (q := z1) (j := 1) hS (i := 0) rfl rfl rfl rfl rfl Tryz.sizeOf4 rfl rfl rfl) (want_yes rfl) rfl ?_
  clear hS
  intro w hS
  refine ops_nil fun a hA => cw_seq <| cw_ops hA ?_
  clear hA
  refine oa rfl rfl <| ops_nil fun a hA => cw_ret ?_
  cases hF
  exact fin1 Tryz.results82 hA (res_tmp rfl) ⟨rfl, (hS.sel [0] rfl).weaken (R' := []) (fun _ h => nomatch h)⟩
 ·replace hF := iteF hc1 hF
  refine cw_skip <| cw_seq <| cw_ops hA ?_
  clear hA
  refine om rfl rfl <| oy (rv_nil rfl rfl) rfl <| oy (rv_fld (m := 0) Tryz.underlying89 rfl rfl Tryz.sizeOf9 rfl rfl) rfl <| oy (rv_load1 rfl rfl Tryz.isAgg9 (hS.acell (q := z1) (j := 0) 0 rfl rfl)) rfl ?_
  obtain ⟨x1, hx1, hF⟩ := bindE hF
  refine oy (rv_stri Tryz.underlying9 hx1 rfl rfl rfl) rfl <| oy (rv_convU Tryz.underlying5 Tryz.underlying3 rfl rfl) rfl <| oa rfl rfl <| ops_nil fun a hA => cw_seq <| cw_ops hA ?_
  clear hA
  refine om rfl rfl <| om rfl rfl <| oy (rv_nil rfl rfl) rfl <| oy (rv_fld (m := 0) Tryz.underlying89 rfl rfl Tryz.sizeOf9 rfl rfl) rfl <| oy (rv_load1 rfl rfl Tryz.isAgg9 (hS.acell (q := z1) (j := 0) 0 rfl rfl)) rfl ?_
  obtain ⟨hn1, hF⟩ := needE hF
  refine oy (rv_str_l Tryz.underlying9 hn1 rfl rfl rfl) rfl <| oy (rv_nil rfl rfl) rfl <| oy (rv_fld (m := 0) Tryz.underlying89 rfl rfl Tryz.sizeOf9 rfl rfl) rfl <| ops_ms (rs_at (vs := [sv (r_.left.b.drop ((1 : Int).toNat))]) (q := z1) (j := 0) hS (i := 0) rfl rfl rfl rfl rfl Tryz.sizeOf9 rfl rfl rfl) (want_yes rfl) rfl ?_
  clear hS
  intro w hS
  refine ops_nil fun a hA => cw_seq <| cw_ops hA ?_
  clear hA
  refine om rfl rfl <| oa rfl rfl <| ops_nil fun a hA => cw_ret ?_
  cases hF
  exact fin1 Tryz.results82 hA (res_tmp rfl) ⟨rfl, (hS.sel [0] rfl).weaken (R' := []) (fun _ h => nomatch h)⟩

theorem c_impl_ReadVar {w0 : World} {s : List UInt8}  {r : Int × Int}  (hF : impl_ReadVar s = some r) :
    Calls Tryz.prog 84 #[sv (s)] w0 (Ret fun v w' => v = .tuple #[.int .i64 (r.1), .int .i64 (r.2)] ∧ St (cxAll w0) w' [] []) := by
 have hS : St (cxAll w0) w0 [] [] := St.enter (by
   intro f hf; cases hf)
 refine calls_cw (args := [_]) Tryz.func84 rfl Tryz.ntmps84 rfl ?_
 unfold impl_ReadVar at hF
 intro a hA
 refine cw_seq <| cw_ops hA ?_
 clear hA
 refine oa rfl rfl <| oa rfl rfl <| ops_nil fun a hA => cw_seq <| cw_ops hA ?_
 clear hA
 refine oa rfl rfl <| ops_nil fun a hA => cw_seq <| cw_seq <| cw_ops hA ?_
 clear hA
 refine om rfl rfl <| oy (rv_lens Tryz.underlying9 rfl rfl) rfl <| oy (rv_min rfl rfl rfl) rfl <| om rfl rfl <| ops_nil fun a hA => ?_
 obtain ⟨o1, hl1, hF⟩ := bindE hF
 refine cw_cut (J := fun a' w' => o1 = Out.brk (()) ∧ AEnv 39 [] a' ∧ St (cxAll w0) w' [] []) ?_ ?_
 ·refine cw_block ?_
  refine cw_loop (body := impl_ReadVar_l1 s) (r := o1) (fun sg a' w' => AEnv 39 [(0, sv (s)), (4, .int .i64 (sg.1)), (8, .int .i64 (if 7 < ((s.length : Int)) then 7 else ((s.length : Int)))), (9, .int .i64 (sg.2))] a' ∧ St (cxAll w0) w' [] []) ?_ hl1 ⟨hA.part ⟨rfl, rfl, rfl, rfl, trivial⟩, ((hS).sel [] rfl).selR [] rfl⟩
  clear hA hS hl1
  rintro ⟨x3, x4⟩ a w q1 ⟨hA, hS⟩ hG1 hr1
  try dsimp only at hA hS
  unfold impl_ReadVar_l1 at hG1
  refine cw_seq <| cw_ops hA ?_
  clear hA
  refine oy (rv_lss rfl rfl rfl) rfl <| ops_nil fun a hA => cw_seq <| cw_cond hA rfl (fun hc1 => ?_) (fun hc1 => ?_)
  ·replace hG1 := iteT hc1 hG1
   refine cw_skip <| cw_seq <| cw_block <| cw_seq <| cw_ops hA ?_
   clear hA
   refine om rfl rfl <| oa rfl rfl <| ops_nil fun a hA => cw_seq <| cw_ops hA ?_
   clear hA
   refine om rfl rfl <| om rfl rfl <| om rfl rfl ?_
   obtain ⟨x5, hx5, hG1⟩ := bindE hG1
   refine oy (rv_stri Tryz.underlying9 hx5 rfl rfl rfl) rfl <| oy (rv_and rfl rfl rfl) rfl <| oy (rv_conv Tryz.underlying5 Tryz.underlying3 rfl rfl) rfl <| om rfl rfl <| oy (rv_mul rfl rfl rfl) rfl <| oy (rv_conv Tryz.underlying3 Tryz.underlying122 rfl rfl) rfl ?_
   obtain ⟨hn1, hG1⟩ := needE hG1
   refine oy (rv_shl rfl rfl rfl hn1) rfl <| oy (rv_or rfl rfl rfl) rfl <| oa rfl rfl <| ops_nil fun a hA => cw_seq <| cw_ops hA ?_
   clear hA
   refine om rfl rfl <| om rfl rfl ?_
   obtain ⟨x6, hx6, hG1⟩ := bindE hG1
   refine oy (rv_stri Tryz.underlying9 hx6 rfl rfl rfl) rfl <| oy (rv_lss rfl rfl rfl) rfl <| ops_nil fun a hA => cw_cond hA rfl (fun hc2 => ?_) (fun hc2 => ?_)
   ·replace hG1 := iteT hc2 hG1
    refine cw_seq <| cw_seq <| cw_cut (J := fun a' w' => ∃ (x7 : Bool), impl_ReadVar_j2 x3 x4 x5 x7 = some q1 ∧ AEnv 39 [(4, .int .i64 (bitsOp .or .i64 x3 (shlOp .i64 (IntKind.i64.wrap (bitsOp .and .u8 ((x5.toNat : Int)) ((((127 : UInt8)).toNat : Int)))) (IntKind.u64.wrap (w64 (7 * x4)))))), (5, .int .i64 (x4)), (34, .bool (x7))] a' ∧ St (cxAll w0) w' [] []) ?_ ?_
    ·skip
     refine cw_ops hA ?_
     clear hA
     refine om rfl rfl <| oy (rv_gtr rfl rfl rfl) rfl <| om rfl rfl <| ops_case (s := 29) rfl (fun hc4 => ?_) (fun hc4 => ?_)
     ·replace hG1 := iteT hc4 hG1
      refine ops_v (rv_move rfl rfl) (want_if rfl rfl rfl (by rw [hc4]; rfl)) rfl rfl <| ops_v (rv_move rfl rfl) (want_if rfl rfl rfl (by rw [hc4]; rfl)) rfl rfl ?_
      obtain ⟨x8, hx8, hG1⟩ := bindE hG1
      refine ops_v (rv_stri Tryz.underlying9 hx8 rfl rfl rfl) (want_if rfl rfl rfl (by rw [hc4]; rfl)) rfl rfl <| ops_v (rv_eql rfl rfl rfl) (want_if rfl rfl rfl (by rw [hc4]; rfl)) rfl rfl <| oy (rv_pick_t rfl rfl hc4 rfl) rfl <| ops_nil fun a hA => ?_
      exact ⟨((x8.toNat : Int)) == ((((0 : UInt8)).toNat : Int)), hG1, hA.part ⟨rfl, rfl, rfl, trivial⟩, ((hS).sel [] rfl).selR [] rfl⟩
     ·replace hG1 := iteF hc4 hG1
      refine ops_off (want_if rfl rfl rfl (by rw [hc4]; rfl)) rfl rfl <| ops_off (want_if rfl rfl rfl (by rw [hc4]; rfl)) rfl rfl <| ops_off (want_if rfl rfl rfl (by rw [hc4]; rfl)) rfl rfl <| ops_off (want_if rfl rfl rfl (by rw [hc4]; rfl)) rfl rfl <| oy (rv_pick_f rfl rfl hc4 rfl) rfl <| ops_nil fun a hA => ?_
      exact ⟨false, hG1, hA.part ⟨rfl, rfl, rfl, trivial⟩, ((hS).sel [] rfl).selR [] rfl⟩
    ·skip
     clear hA hS hG1
     rintro a w ⟨x7, hG1, hA, hS⟩
     unfold impl_ReadVar_j2 at hG1
     refine cw_cond hA rfl (fun hc3 => ?_) (fun hc3 => ?_)
     ·replace hG1 := iteT hc3 hG1
      refine cw_exit <| xcons_miss rfl <| xcons_hit ?_
      cases hG1
      have ho := hr1 _ rfl; subst ho
      exact ⟨rfl, hA.part trivial, ((hS).sel [] rfl).selR [] rfl⟩
     ·replace hG1 := iteF hc3 hG1
      refine cw_skip <| cw_seq <| cw_ops hA ?_
      clear hA
      refine om rfl rfl <| om rfl rfl <| oy (rv_add rfl rfl rfl) rfl <| oa rfl rfl <| oa rfl rfl <| ops_nil fun a hA => cw_ret ?_
      cases hG1
      have ho := hr1 _ rfl; subst ho
      replace hF : some ((bitsOp .or .i64 x3 (shlOp .i64 (IntKind.i64.wrap (bitsOp .and .u8 ((x5.toNat : Int)) ((((127 : UInt8)).toNat : Int)))) (IntKind.u64.wrap (w64 (7 * x4)))), w64 (x4 + 1))) = some r := hF
      cases hF
      exact fin2 Tryz.results84 hA (res_tmp rfl) (res_tmp rfl) ⟨rfl, (hS.sel [] rfl).weaken (R' := []) (fun _ h => nomatch h)⟩
   ·replace hG1 := iteF hc2 hG1
    refine cw_skip <| cw_ops hA ?_
    clear hA
    refine oy (rv_add rfl rfl rfl) rfl <| om rfl rfl <| ops_nil fun a hA => ?_
    cases hG1
    exact ⟨_, rfl, ⟨hA.part ⟨rfl, rfl, rfl, rfl, trivial⟩, ((hS).sel [] rfl).selR [] rfl⟩⟩
  ·replace hG1 := iteF hc1 hG1
   refine cw_exit <| xcons_hit ?_
   cases hG1
   have ho := hr1 _ rfl; subst ho
   exact ⟨rfl, hA.part trivial, ((hS).sel [] rfl).selR [] rfl⟩
 ·skip
  clear hA hS hl1
  rintro a w ⟨heq, hA, hS⟩
  replace hF : impl_ReadVar_j1 = some r := by rw [heq] at hF; exact hF
  clear heq
  unfold impl_ReadVar_j1 at hF
  refine cw_seq <| cw_ops hA ?_
  clear hA
  refine oa rfl rfl <| oa rfl rfl <| ops_nil fun a hA => cw_ret ?_
  cases hF
  exact fin2 Tryz.results84 hA (res_tmp rfl) (res_tmp rfl) ⟨rfl, (hS.sel [] rfl).weaken (R' := []) (fun _ h => nomatch h)⟩

theorem c_impl_reader_number {c : Ctx} {w0 : World} {r_ : Reader} {b1 z1 : Nat} {r : Int × Reader} (hS : St c w0 [cAt b1 z1 [sv (r_.left.b), .bool (r_.bad)]] []) (hF : impl_reader_number r_ = some r) :
    Calls Tryz.prog 39 #[.pointer (some ⟨b1, z1, none⟩)] w0 (Ret fun v w' => v = .int .i64 (r.1) ∧ St (c) w' [cAt b1 z1 [sv (r.2.left.b), .bool (r.2.bad)]] []) := by
 refine calls_cw (args := [_]) Tryz.func39 rfl Tryz.ntmps39 rfl ?_
 unfold impl_reader_number at hF
 intro a hA
 refine cw_seq <| cw_ops hA ?_
 clear hA
 refine oa rfl rfl <| ops_nil fun a hA => cw_seq <| cw_ops hA ?_
 clear hA
 refine om rfl rfl <| oy (rv_nil rfl rfl) rfl <| oy (rv_fld (m := 0) Tryz.underlying89 rfl rfl Tryz.sizeOf9 rfl rfl) rfl <| oy (rv_load1 rfl rfl Tryz.isAgg9 (hS.acell (q := z1) (j := 0) 0 rfl rfl)) rfl ?_
 obtain ⟨x1, hx1, hF⟩ := bindE hF
 refine ops_c (rc_call Tryz.call84 rfl rfl) (want_yes rfl) rfl rfl (c_impl_ReadVar (s := r_.left.b)  hx1) ?_
 rintro _ w ⟨rfl, hk⟩
 replace hS := hS.after hk; clear hk
 refine om rfl rfl <| oy (rv_extract rfl rfl rfl) rfl <| oy (rv_extract rfl rfl rfl) rfl <| oa rfl rfl <| oa rfl rfl <| ops_nil fun a hA => cw_seq <| cw_cut (J := fun a' w' => ∃ (x2 : Bool), impl_reader_number_j1 r_ x1 x2 = some r ∧ AEnv 34 [(0, .pointer (some ⟨b1, z1, none⟩)), (3, .int .i64 (x1.1)), (4, .int .i64 (x1.2))] a' ∧ St (c) w' [cAt b1 z1 [sv (r_.left.b), .bool (x2)]] []) ?_ ?_
 ·skip
  refine cw_ops hA ?_
  clear hA
  refine om rfl rfl <| om rfl rfl <| oy (rv_nil rfl rfl) rfl <| oy (rv_fld (m := 0) Tryz.underlying89 rfl rfl Tryz.sizeOf4 rfl rfl) rfl <| oy (rv_load1 rfl rfl Tryz.isAgg4 (hS.acell (q := z1) (j := 1) 0 rfl rfl)) rfl <| om rfl rfl <| ops_case (s := 18) rfl (fun hc1 => ?_) (fun hc1 => ?_)
  ·replace hF := iteT hc1 hF
   refine ops_off (want_if rfl rfl rfl (by rw [hc1]; rfl)) rfl rfl <| ops_off (want_if rfl rfl rfl (by rw [hc1]; rfl)) rfl rfl <| oy (rv_pick_t rfl rfl hc1 rfl) rfl <| oy (rv_nil rfl rfl) rfl <| oy (rv_fld (m := 0) Tryz.underlying89 rfl rfl Tryz.sizeOf4 rfl rfl) rfl <| ops_ms (rs_at (vs := [.bool (true)]) (q := z1) (j := 1) hS (i := 0) rfl rfl rfl rfl rfl Tryz.sizeOf4 rfl rfl rfl) (want_yes rfl) rfl ?_
   clear hS
   intro w hS
   refine ops_nil fun a hA => ?_
   exact ⟨true, hF, hA.part ⟨rfl, rfl, rfl, trivial⟩, ((hS).sel [0] rfl).selR [] rfl⟩
  ·replace hF := iteF hc1 hF
   refine ops_v (rv_move rfl rfl) (want_if rfl rfl rfl (by rw [hc1]; rfl)) rfl rfl <| ops_v (rv_eql rfl rfl rfl) (want_if rfl rfl rfl (by rw [hc1]; rfl)) rfl rfl <| oy (rv_pick_f rfl rfl hc1 rfl) rfl <| oy (rv_nil rfl rfl) rfl <| oy (rv_fld (m := 0) Tryz.underlying89 rfl rfl Tryz.sizeOf4 rfl rfl) rfl <| ops_ms (rs_at (vs := [.bool (x1.2 == 0)]) (q := z1) (j := 1) hS (i := 0) rfl rfl rfl rfl rfl Tryz.sizeOf4 rfl rfl rfl) (want_yes rfl) rfl ?_
   clear hS
   intro w hS
   refine ops_nil fun a hA => ?_
   exact ⟨x1.2 == 0, hF, hA.part ⟨rfl, rfl, rfl, trivial⟩, ((hS).sel [0] rfl).selR [] rfl⟩
 ·skip
  clear hA hS hF
  rintro a w ⟨x2, hF, hA, hS⟩
  unfold impl_reader_number_j1 at hF
  refine cw_seq <| cw_ops hA ?_
  clear hA
  refine om rfl rfl <| om rfl rfl <| oy (rv_nil rfl rfl) rfl <| oy (rv_fld (m := 0) Tryz.underlying89 rfl rfl Tryz.sizeOf9 rfl rfl) rfl <| oy (rv_load1 rfl rfl Tryz.isAgg9 (hS.acell (q := z1) (j := 0) 0 rfl rfl)) rfl <| om rfl rfl ?_
  obtain ⟨hn1, hF⟩ := needE hF
  refine oy (rv_str_l Tryz.underlying9 hn1 rfl rfl rfl) rfl <| oy (rv_nil rfl rfl) rfl <| oy (rv_fld (m := 0) Tryz.underlying89 rfl rfl Tryz.sizeOf9 rfl rfl) rfl <| ops_ms (rs_at (vs := [sv (r_.left.b.drop (x1.2.toNat))]) (q := z1) (j := 0) hS (i := 0) rfl rfl rfl rfl rfl Tryz.sizeOf9 rfl rfl rfl) (want_yes rfl) rfl ?_
  clear hS
  intro w hS
  refine ops_nil fun a hA => cw_seq <| cw_ops hA ?_
  clear hA
  refine om rfl rfl <| oa rfl rfl <| ops_nil fun a hA => cw_ret ?_
  cases hF
  exact fin1 Tryz.results39 hA (res_tmp rfl) ⟨rfl, (hS.sel [0] rfl).weaken (R' := []) (fun _ h => nomatch h)⟩

theorem c_impl_reader_count {c : Ctx} {w0 : World} {r_ : Reader} {b1 z1 : Nat} {r : Int × Reader} (hS : St c w0 [cAt b1 z1 [sv (r_.left.b), .bool (r_.bad)]] []) (hF : impl_reader_count r_ = some r) :
    Calls Tryz.prog 40 #[.pointer (some ⟨b1, z1, none⟩)] w0 (Ret fun v w' => v = .int .i64 (r.1) ∧ St (c) w' [cAt b1 z1 [sv (r.2.left.b), .bool (r.2.bad)]] []) := by
 refine calls_cw (args := [_]) Tryz.func40 rfl Tryz.ntmps40 rfl ?_
 unfold impl_reader_count at hF
 intro a hA
 refine cw_seq <| cw_ops hA ?_
 clear hA
 refine oa rfl rfl <| ops_nil fun a hA => cw_seq <| cw_ops hA ?_
 clear hA
 refine om rfl rfl ?_
 obtain ⟨c1, hg, hb⟩ := hS.give [0] rfl rfl
 obtain ⟨x1, hx1, hF⟩ := bindE hF
 refine ops_c (rc_call Tryz.call39 rfl rfl) (want_yes rfl) rfl rfl (c_impl_reader_number (c := c1) (r_ := r_) (b1 := b1) (z1 := z1) (hg _ all_nil) hx1) ?_
 rintro _ w ⟨rfl, hk⟩
 replace hS := hb _ _ _ hk; clear hk hg hb
 refine oa rfl rfl <| ops_nil fun a hA => cw_seq <| cw_seq <| cw_ops hA ?_
 clear hA
 refine om rfl rfl <| om rfl rfl <| oy (rv_nil rfl rfl) rfl <| oy (rv_fld (m := 0) Tryz.underlying89 rfl rfl Tryz.sizeOf9 rfl rfl) rfl <| oy (rv_load1 rfl rfl Tryz.isAgg9 (hS.acell (q := z1) (j := 0) 1 rfl rfl)) rfl <| oy (rv_lens Tryz.underlying9 rfl rfl) rfl <| oy (rv_gtr rfl rfl rfl) rfl <| ops_nil fun a hA => cw_cond hA rfl (fun hc1 => ?_) (fun hc1 => ?_)
 ·replace hF := iteT hc1 hF
  refine cw_seq <| cw_ops hA ?_
  clear hA
  refine om rfl rfl <| oy (rv_nil rfl rfl) rfl <| oy (rv_fld (m := 0) Tryz.underlying89 rfl rfl Tryz.sizeOf4 rfl rfl) rfl <| ops_ms (rs_at (vs := [.bool (true)]) (q := z1) (j := 1) hS (i := 1) rfl rfl rfl rfl rfl Tryz.sizeOf4 rfl rfl rfl) (want_yes rfl) rfl ?_
  clear hS
  intro w hS
  refine ops_nil fun a hA => cw_seq <| cw_ops hA ?_
  clear hA
  refine oa rfl rfl <| ops_nil fun a hA => cw_ret ?_
  cases hF
  exact fin1 Tryz.results40 hA (res_tmp rfl) ⟨rfl, (hS.sel [1] rfl).weaken (R' := []) (fun _ h => nomatch h)⟩
 ·replace hF := iteF hc1 hF
  refine cw_skip <| cw_seq <| cw_ops hA ?_
  clear hA
  refine om rfl rfl <| oa rfl rfl <| ops_nil fun a hA => cw_ret ?_
  cases hF
  exact fin1 Tryz.results40 hA (res_tmp rfl) ⟨rfl, (hS.sel [1] rfl).weaken (R' := []) (fun _ h => nomatch h)⟩

theorem c_impl_reader_list {c : Ctx} {w0 : World} {r_ : Reader} {b1 z1 : Nat} {r : SList × Reader} (hS : St c w0 [cAt b1 z1 [sv (r_.left.b), .bool (r_.bad)]] []) (hF : impl_reader_list r_ = some r) :
    Calls Tryz.prog 83 #[.pointer (some ⟨b1, z1, none⟩)] w0 (Ret fun v w' => ∃ (s0_0 : Value), v = .agg #[s0_0] ∧ St (c) w' [cOwn [s0_0] (r.1.Slots : List Int), cAt b1 z1 [sv (r.2.left.b), .bool (r.2.bad)]] []) := by
 refine calls_cw (args := [_]) Tryz.func83 rfl Tryz.ntmps83 rfl ?_
 unfold impl_reader_list at hF
 intro a hA
 refine cw_seq <| cw_ops hA ?_
 clear hA
 refine ops_mv (rv_alloc (cs := [(.slice none 0 0)]) hS rfl Tryz.zeroValue120 rfl) (want_yes rfl) rfl rfl ?_
 clear hS
 rintro _ w ⟨b2, rfl, hS⟩
 refine ops_nil fun a hA => cw_seq <| cw_ops hA ?_
 clear hA
 refine oy (rv_build (cells := #[(.slice none 0 0)]) rfl Tryz.zeroValue120 Tryz.underlying120 (by have h := places_Tryz120; rw [Tryz.underlying120] at h; exact h) rfl rfl) rfl <| ops_mv (rv_alloc (cs := [(.slice none 0 0)]) hS rfl Tryz.zeroValue120 rfl) (want_yes rfl) rfl rfl ?_
 clear hS
 rintro _ w ⟨b3, rfl, hS⟩
 refine ops_ms (rs_box (vs := [(.slice none 0 0)]) hS (i := 2) rfl rfl rfl rfl rfl Tryz.sizeOf120 rfl rfl rfl) (want_yes rfl) rfl ?_
 clear hS
 intro w hS
 refine ops_nil fun a hA => cw_seq <| cw_seq <| cw_ops hA ?_
 clear hA
 refine om rfl rfl ?_
 obtain ⟨c1, hg, hb⟩ := hS.give [0] rfl rfl
 obtain ⟨x1, hx1, hF⟩ := bindE hF
 refine ops_c (rc_call Tryz.call40 rfl rfl) (want_yes rfl) rfl rfl (c_impl_reader_count (c := c1) (r_ := r_) (b1 := b1) (z1 := z1) (hg _ all_nil) hx1) ?_
 rintro _ w ⟨rfl, hk⟩
 replace hS := hb _ _ _ hk; clear hk hg hb
 refine om rfl rfl <| ops_nil fun a hA => ?_
 obtain ⟨o1, hl1, hF⟩ := bindE hF
 refine cw_cut (J := fun a' w' => ∃ (x10 : List UInt8) (x11 : Bool) (x12 : List Int) (s3 : Value), o1 = (x10, x11, x12) ∧ AEnv 18 [(0, .pointer (some ⟨b1, z1, none⟩)), (2, .pointer (some ⟨b2, 0, none⟩)), (3, .pointer (some ⟨b3, 0, none⟩))] a' ∧ St (c) w' [cAt b1 z1 [sv (x10), .bool (x11)], cBox b2 [(.slice none 0 0)], cOwn [s3] (x12 : List Int), cBox b3 [s3]] []) ?_ ?_
 ·refine cw_block ?_
  refine cw_loop (body := impl_reader_list_l1 x1) (r := o1) (fun sg a' w' => ∃ (s2 : Value), AEnv 18 [(0, .pointer (some ⟨b1, z1, none⟩)), (2, .pointer (some ⟨b2, 0, none⟩)), (3, .pointer (some ⟨b3, 0, none⟩)), (6, .int .i64 (x1.1)), (7, .int .i64 (sg.1))] a' ∧ St (c) w' [cAt b1 z1 [sv (sg.2.1), .bool (sg.2.2.1)], cBox b2 [(.slice none 0 0)], cOwn [s2] (sg.2.2.2 : List Int), cBox b3 [s2]] []) ?_ hl1 ⟨(.slice none 0 0), hA.part ⟨rfl, rfl, rfl, rfl, rfl, trivial⟩, (((hS).nilOwn (α := Int)).sel [3, 1, 4, 2] rfl).selR [] rfl⟩
  clear hA hS hl1
  rintro ⟨x6, x7, x8, x9⟩ a w q1 ⟨s2, hA, hS⟩ hG1 hr1
  try dsimp only at hA hS
  unfold impl_reader_list_l1 at hG1
  refine cw_seq <| cw_ops hA ?_
  clear hA
  refine oy (rv_lss rfl rfl rfl) rfl <| ops_nil fun a hA => cw_seq <| cw_cond hA rfl (fun hc1 => ?_) (fun hc1 => ?_)
  ·replace hG1 := iteT hc1 hG1
   refine cw_skip <| cw_seq <| cw_cut (J := fun a' w' => ∃ (x13 : List UInt8) (x14 : Bool) (x15 : List Int) (s4 : Value), impl_reader_list_j2 x6 x13 x14 x15 = some q1 ∧ AEnv 18 [(0, .pointer (some ⟨b1, z1, none⟩)), (2, .pointer (some ⟨b2, 0, none⟩)), (3, .pointer (some ⟨b3, 0, none⟩)), (6, .int .i64 (x1.1)), (7, .int .i64 (x6))] a' ∧ St (c) w' [cAt b1 z1 [sv (x13), .bool (x14)], cBox b2 [(.slice none 0 0)], cOwn [s4] (x15 : List Int), cBox b3 [s4]] []) ?_ ?_
   ·skip
    refine cw_block <| cw_any (Keeps (c) [cNo, cBox b2 [(.slice none 0 0)], cNo, cNo] []) mixed_Tryz hA hS ?_
    clear hA hS; intro w hS
    have hK : Keeps (c) [cNo, cBox b2 [(.slice none 0 0)], cNo, cNo] [] w := ⟨_, (hS.sel [900000, 1, 900002, 900003] rfl).selR [] rfl⟩
    refine ey 0 rfl (by kernel_rfl) hK (fun _ _ _ => (rv_fld (m := 0) Tryz.underlying120 rfl rfl Tryz.sizeOf22 rfl rfl)) rfl ?_
    refine ey 2 rfl (by kernel_rfl) hK (fun _ _ _ => (rv_move rfl rfl)) rfl ?_
    obtain ⟨x16, hx16, hG1⟩ := bindE hG1
    obtain ⟨hn1, hG1⟩ := needE hG1
    refine any_2 (i := 1) (j := 3) (by kernel_rfl) ?_ ?_
    ·skip
     refine as_v rfl (rv_load1 rfl rfl Tryz.isAgg22 (hS.cell 3 rfl rfl)) (want_yes rfl) rfl rfl hK ?_
     refine any_1 (i := 3) (by kernel_rfl) ?_
     obtain ⟨c2, hg, hb⟩ := hS.give [0] rfl rfl
     refine as_c rfl (rc_call Tryz.call39 rfl rfl) (want_yes rfl) rfl rfl (c_impl_reader_number (c := c2) (r_ := (⟨(⟨x7⟩ : GStr), x8⟩ : Reader)) (b1 := b1) (z1 := z1) (hg _ all_nil) hx16) ?_
     clear hK; rintro _ w ⟨rfl, hk⟩
     replace hS := hb _ _ _ hk; clear hk hg hb
     have hK := keepsI ((hS.sel [900000, 1, 900002, 900003] rfl).selR [] rfl)
     refine ⟨hK, ?_⟩
     refine any_1 (i := 4) (by kernel_rfl) ?_
     refine as_mv rfl (rv_lit1 (x16.1 : Int) hS rfl Tryz.underlying22 inf_Tryz3 rfl rfl rfl rfl) (want_yes rfl) rfl rfl ?_
     clear hS
     clear hK; rintro s5 w hS
     have hK := keepsI ((hS.sel [900000, 1, 900002, 900003] rfl).selR [] rfl)
     refine ⟨hK, ?_⟩
     refine any_1 (i := 5) (by kernel_rfl) ?_
     refine as_mv rfl (rv_append (α := Int) 2 hS rfl (hS.rdOwn 5 rfl) rfl Tryz.underlying22 inf_Tryz3 rfl hn1 rfl rfl rfl) (want_yes rfl) rfl rfl ?_
     clear hS
     clear hK; rintro s6 w hS
     have hK := keepsI ((hS.sel [900000, 1, 900002, 900003] rfl).selR [] rfl)
     refine ⟨hK, ?_⟩
     refine ey 6 rfl (by kernel_rfl) hK (fun _ _ _ => (rv_fld (m := 0) Tryz.underlying120 rfl rfl Tryz.sizeOf22 rfl rfl)) rfl ?_
     refine any_1 (i := 7) (by kernel_rfl) ?_
     refine as_ms rfl (rs_box (vs := [s6]) hS (i := 3) rfl rfl rfl rfl (cells_rd (hS.rdOwn 2 rfl)) Tryz.sizeOf22 rfl rfl (all1 (one_rd (hS.rdOwn 2 rfl)) rfl)) (want_yes rfl) rfl ?_
     clear hS
     clear hK; intro w hS
     have hK := keepsI ((hS.sel [900000, 1, 900002, 900003] rfl).selR [] rfl)
     refine ⟨hK, ?_⟩
     refine any_done (by kernel_rfl) ?_
     intro a hA
     exact ⟨x16.2.left.b, x16.2.bad, x9 ++ ([x16.1]), s6, hG1, hA.part ⟨rfl, rfl, rfl, rfl, rfl, trivial⟩, ((hS).sel [4, 1, 2, 3] rfl).selR [] rfl⟩
    ·skip
     obtain ⟨c2, hg, hb⟩ := hS.give [0] rfl rfl
     refine as_c rfl (rc_call Tryz.call39 rfl rfl) (want_yes rfl) rfl rfl (c_impl_reader_number (c := c2) (r_ := (⟨(⟨x7⟩ : GStr), x8⟩ : Reader)) (b1 := b1) (z1 := z1) (hg _ all_nil) hx16) ?_
     clear hK; rintro _ w ⟨rfl, hk⟩
     replace hS := hb _ _ _ hk; clear hk hg hb
     have hK := keepsI ((hS.sel [900000, 1, 900002, 900003] rfl).selR [] rfl)
     refine ⟨hK, ?_⟩
     refine any_2 (i := 1) (j := 4) (by kernel_rfl) ?_ ?_
     ·skip
      refine as_v rfl (rv_load1 rfl rfl Tryz.isAgg22 (hS.cell 3 rfl rfl)) (want_yes rfl) rfl rfl hK ?_
      refine any_1 (i := 4) (by kernel_rfl) ?_
      refine as_mv rfl (rv_lit1 (x16.1 : Int) hS rfl Tryz.underlying22 inf_Tryz3 rfl rfl rfl rfl) (want_yes rfl) rfl rfl ?_
      clear hS
      clear hK; rintro s5 w hS
      have hK := keepsI ((hS.sel [900000, 1, 900002, 900003] rfl).selR [] rfl)
      refine ⟨hK, ?_⟩
      refine any_1 (i := 5) (by kernel_rfl) ?_
      refine as_mv rfl (rv_append (α := Int) 2 hS rfl (hS.rdOwn 5 rfl) rfl Tryz.underlying22 inf_Tryz3 rfl hn1 rfl rfl rfl) (want_yes rfl) rfl rfl ?_
      clear hS
      clear hK; rintro s6 w hS
      have hK := keepsI ((hS.sel [900000, 1, 900002, 900003] rfl).selR [] rfl)
      refine ⟨hK, ?_⟩
      refine ey 6 rfl (by kernel_rfl) hK (fun _ _ _ => (rv_fld (m := 0) Tryz.underlying120 rfl rfl Tryz.sizeOf22 rfl rfl)) rfl ?_
      refine any_1 (i := 7) (by kernel_rfl) ?_
      refine as_ms rfl (rs_box (vs := [s6]) hS (i := 3) rfl rfl rfl rfl (cells_rd (hS.rdOwn 2 rfl)) Tryz.sizeOf22 rfl rfl (all1 (one_rd (hS.rdOwn 2 rfl)) rfl)) (want_yes rfl) rfl ?_
      clear hS
      clear hK; intro w hS
      have hK := keepsI ((hS.sel [900000, 1, 900002, 900003] rfl).selR [] rfl)
      refine ⟨hK, ?_⟩
      refine any_done (by kernel_rfl) ?_
      intro a hA
      exact ⟨x16.2.left.b, x16.2.bad, x9 ++ ([x16.1]), s6, hG1, hA.part ⟨rfl, rfl, rfl, rfl, rfl, trivial⟩, ((hS).sel [4, 1, 2, 3] rfl).selR [] rfl⟩
     ·skip
      refine as_mv rfl (rv_lit1 (x16.1 : Int) hS rfl Tryz.underlying22 inf_Tryz3 rfl rfl rfl rfl) (want_yes rfl) rfl rfl ?_
      clear hS
      clear hK; rintro s5 w hS
      have hK := keepsI ((hS.sel [900000, 1, 900002, 900003] rfl).selR [] rfl)
      refine ⟨hK, ?_⟩
      refine any_1 (i := 1) (by kernel_rfl) ?_
      refine as_v rfl (rv_load1 rfl rfl Tryz.isAgg22 (hS.cell 3 rfl rfl)) (want_yes rfl) rfl rfl hK ?_
      refine any_1 (i := 5) (by kernel_rfl) ?_
      refine as_mv rfl (rv_append (α := Int) 2 hS rfl (hS.rdOwn 5 rfl) rfl Tryz.underlying22 inf_Tryz3 rfl hn1 rfl rfl rfl) (want_yes rfl) rfl rfl ?_
      clear hS
      clear hK; rintro s6 w hS
      have hK := keepsI ((hS.sel [900000, 1, 900002, 900003] rfl).selR [] rfl)
      refine ⟨hK, ?_⟩
      refine ey 6 rfl (by kernel_rfl) hK (fun _ _ _ => (rv_fld (m := 0) Tryz.underlying120 rfl rfl Tryz.sizeOf22 rfl rfl)) rfl ?_
      refine any_1 (i := 7) (by kernel_rfl) ?_
      refine as_ms rfl (rs_box (vs := [s6]) hS (i := 3) rfl rfl rfl rfl (cells_rd (hS.rdOwn 2 rfl)) Tryz.sizeOf22 rfl rfl (all1 (one_rd (hS.rdOwn 2 rfl)) rfl)) (want_yes rfl) rfl ?_
      clear hS
      clear hK; intro w hS
      have hK := keepsI ((hS.sel [900000, 1, 900002, 900003] rfl).selR [] rfl)
      refine ⟨hK, ?_⟩
      refine any_done (by kernel_rfl) ?_
      intro a hA
      exact ⟨x16.2.left.b, x16.2.bad, x9 ++ ([x16.1]), s6, hG1, hA.part ⟨rfl, rfl, rfl, rfl, rfl, trivial⟩, ((hS).sel [4, 1, 2, 3] rfl).selR [] rfl⟩
   ·skip
    clear hA hS hG1
    rintro a w ⟨x13, x14, x15, s4, hG1, hA, hS⟩
    unfold impl_reader_list_j2 at hG1
    refine cw_ops hA ?_
    clear hA
    refine oy (rv_add rfl rfl rfl) rfl <| om rfl rfl <| ops_nil fun a hA => ?_
    cases hG1
    exact ⟨_, rfl, ⟨s4, hA.part ⟨rfl, rfl, rfl, rfl, rfl, trivial⟩, ((hS).sel [0, 1, 2, 3] rfl).selR [] rfl⟩⟩
  ·replace hG1 := iteF hc1 hG1
   refine cw_exit <| xcons_hit ?_
   cases hG1
   have ho := hr1 _ rfl; subst ho
   exact ⟨x7, x8, x9, s2, rfl, hA.part ⟨rfl, rfl, rfl, trivial⟩, ((hS).sel [0, 1, 2, 3] rfl).selR [] rfl⟩
 ·skip
  clear hA hS hl1
  rintro a w ⟨x10, x11, x12, s3, heq, hA, hS⟩
  replace hF : impl_reader_list_j1 x10 x11 x12 = some r := by rw [heq] at hF; exact hF
  clear heq
  unfold impl_reader_list_j1 at hF
  refine cw_seq <| cw_ops hA ?_
  clear hA
  refine oy (rv_loadN rfl rfl Tryz.isAgg120 Tryz.sizeOf120 rfl (hS.cells 3 0 (cs' := [s3]) rfl rfl)) rfl <| ops_ms (rs_box (vs := [s3]) hS (i := 1) rfl rfl rfl rfl rfl Tryz.sizeOf120 rfl rfl (all1 (one_rd (hS.rdOwn 2 rfl)) rfl)) (want_yes rfl) rfl ?_
  clear hS
  intro w hS
  refine ops_nil fun a hA => cw_ret ?_
  cases hF
  exact fin1 Tryz.results83 hA (res_cell rfl Tryz.isAgg120 Tryz.sizeOf120 rfl (hS.cells 1 0 (cs' := [s3]) rfl rfl)) ⟨s3, rfl, (hS.sel [2, 0] rfl).weaken (R' := []) (fun _ h => nomatch h)⟩

theorem c_impl_reader_mem {c : Ctx} {w0 : World} {r_ : Reader} {b1 z1 : Nat} {r : Mem × Reader} (hS : St c w0 [cAt b1 z1 [sv (r_.left.b), .bool (r_.bad)]] []) (hF : impl_reader_mem r_ = some r) :
    Calls Tryz.prog 38 #[.pointer (some ⟨b1, z1, none⟩)] w0 (Ret fun v w' => ∃ (s0_0 : Value) (s0_1 : Value) (s0_2 : Value) (s0_3 : Value), v = .agg #[s0_0, s0_1, s0_2, s0_3] ∧ St (c) w' [cOwn [s0_0] (r.1.Heap.Bytes : List Int), cOwn [s0_1] (r.1.Heap.Class : List Int), cOwn [s0_2] (r.1.Lists.Global : List SList), cOwn [s0_3] (r.1.Lists.Own : List SList), cAt b1 z1 [sv (r.2.left.b), .bool (r.2.bad)]] []) := by
 refine calls_cw (args := [_]) Tryz.func38 rfl Tryz.ntmps38 rfl ?_
 unfold impl_reader_mem at hF
 intro a hA
 refine cw_seq <| cw_ops hA ?_
 clear hA
 refine ops_mv (rv_alloc (cs := [(.slice none 0 0), (.slice none 0 0), (.slice none 0 0), (.slice none 0 0)]) hS rfl Tryz.zeroValue43 rfl) (want_yes rfl) rfl rfl ?_
 clear hS
 rintro _ w ⟨b2, rfl, hS⟩
 refine ops_nil fun a hA => cw_seq <| cw_ops hA ?_
 clear hA
 refine oy (rv_build (cells := #[(.slice none 0 0), (.slice none 0 0), (.slice none 0 0), (.slice none 0 0)]) rfl Tryz.zeroValue43 Tryz.underlying43 (by have h := places_Tryz43; rw [Tryz.underlying43] at h; exact h) rfl rfl) rfl <| ops_mv (rv_alloc (cs := [(.slice none 0 0), (.slice none 0 0), (.slice none 0 0), (.slice none 0 0)]) hS rfl Tryz.zeroValue43 rfl) (want_yes rfl) rfl rfl ?_
 clear hS
 rintro _ w ⟨b3, rfl, hS⟩
 refine ops_ms (rs_box (vs := [(.slice none 0 0), (.slice none 0 0), (.slice none 0 0), (.slice none 0 0)]) hS (i := 2) rfl rfl rfl rfl rfl Tryz.sizeOf43 rfl rfl rfl) (want_yes rfl) rfl ?_
 clear hS
 intro w hS
 refine ops_nil fun a hA => cw_seq <| cw_seq <| cw_ops hA ?_
 clear hA
 refine om rfl rfl <| ops_nil fun a hA => ?_
 obtain ⟨o1, hl1, hF⟩ := bindE hF
 refine cw_cut (J := fun a' w' => ∃ (x9 : List UInt8) (x10 : Bool) (x11 : List Int) (s3 : Value), o1 = (x9, x10, x11) ∧ AEnv 55 [(0, .pointer (some ⟨b1, z1, none⟩)), (2, .pointer (some ⟨b2, 0, none⟩)), (3, .pointer (some ⟨b3, 0, none⟩))] a' ∧ St (c) w' [cAt b1 z1 [sv (x9), .bool (x10)], cBox b2 [(.slice none 0 0), (.slice none 0 0), (.slice none 0 0), (.slice none 0 0)], cOwn [s3] (x11 : List Int), cBox b3 [s3, (.slice none 0 0), (.slice none 0 0), (.slice none 0 0)]] []) ?_ ?_
 ·refine cw_block ?_
  refine cw_loop (body := impl_reader_mem_l1) (r := o1) (fun sg a' w' => ∃ (s2 : Value), AEnv 55 [(0, .pointer (some ⟨b1, z1, none⟩)), (2, .pointer (some ⟨b2, 0, none⟩)), (3, .pointer (some ⟨b3, 0, none⟩)), (5, .int .i64 (sg.1))] a' ∧ St (c) w' [cAt b1 z1 [sv (sg.2.1), .bool (sg.2.2.1)], cBox b2 [(.slice none 0 0), (.slice none 0 0), (.slice none 0 0), (.slice none 0 0)], cOwn [s2] (sg.2.2.2 : List Int), cBox b3 [s2, (.slice none 0 0), (.slice none 0 0), (.slice none 0 0)]] []) ?_ hl1 ⟨(.slice none 0 0), hA.part ⟨rfl, rfl, rfl, rfl, trivial⟩, (((hS).nilOwn (α := Int)).sel [0, 1, 3, 2] rfl).selR [] rfl⟩
  clear hA hS hl1
  rintro ⟨x5, x6, x7, x8⟩ a w q1 ⟨s2, hA, hS⟩ hG1 hr1
  try dsimp only at hA hS
  unfold impl_reader_mem_l1 at hG1
  refine cw_seq <| cw_ops hA ?_
  clear hA
  refine oy (rv_lss rfl rfl rfl) rfl <| ops_nil fun a hA => cw_seq <| cw_cond hA rfl (fun hc4 => ?_) (fun hc4 => ?_)
  ·replace hG1 := iteT hc4 hG1
   refine cw_skip <| cw_seq <| cw_cut (J := fun a' w' => ∃ (x57 : List UInt8) (x58 : Bool) (x59 : List Int) (s24 : Value), impl_reader_mem_j8 x5 x57 x58 x59 = some q1 ∧ AEnv 55 [(0, .pointer (some ⟨b1, z1, none⟩)), (2, .pointer (some ⟨b2, 0, none⟩)), (3, .pointer (some ⟨b3, 0, none⟩)), (5, .int .i64 (x5))] a' ∧ St (c) w' [cAt b1 z1 [sv (x57), .bool (x58)], cBox b2 [(.slice none 0 0), (.slice none 0 0), (.slice none 0 0), (.slice none 0 0)], cOwn [s24] (x59 : List Int), cBox b3 [s24, (.slice none 0 0), (.slice none 0 0), (.slice none 0 0)]] []) ?_ ?_
   ·skip
    refine cw_block <| cw_any (Keeps (c) [cNo, cBox b2 [(.slice none 0 0), (.slice none 0 0), (.slice none 0 0), (.slice none 0 0)], cNo, cNo] []) mixed_Tryz hA hS ?_
    clear hA hS; intro w hS
    have hK : Keeps (c) [cNo, cBox b2 [(.slice none 0 0), (.slice none 0 0), (.slice none 0 0), (.slice none 0 0)], cNo, cNo] [] w := ⟨_, (hS.sel [900000, 1, 900002, 900003] rfl).selR [] rfl⟩
    refine ey 0 rfl (by kernel_rfl) hK (fun _ _ _ => (rv_fld (m := 1) Tryz.underlying43 rfl rfl Tryz.sizeOf38 rfl rfl)) rfl ?_
    refine ey 1 rfl (by kernel_rfl) hK (fun _ _ _ => (rv_fld (m := 0) Tryz.underlying38 rfl rfl Tryz.sizeOf22 rfl rfl)) rfl ?_
    refine ey 3 rfl (by kernel_rfl) hK (fun _ _ _ => (rv_move rfl rfl)) rfl ?_
    obtain ⟨x60, hx60, hG1⟩ := bindE hG1
    obtain ⟨hn4, hG1⟩ := needE hG1
    refine any_2 (i := 2) (j := 4) (by kernel_rfl) ?_ ?_
    ·skip
     refine as_v rfl (rv_load1 rfl rfl Tryz.isAgg22 (hS.cell 3 rfl rfl)) (want_yes rfl) rfl rfl hK ?_
     refine any_1 (i := 4) (by kernel_rfl) ?_
     obtain ⟨c4, hg, hb⟩ := hS.give [0] rfl rfl
     refine as_c rfl (rc_call Tryz.call82 rfl rfl) (want_yes rfl) rfl rfl (c_impl_reader_byte (c := c4) (r_ := (⟨(⟨x6⟩ : GStr), x7⟩ : Reader)) (b1 := b1) (z1 := z1) (hg _ all_nil) hx60) ?_
     clear hK; rintro _ w ⟨rfl, hk⟩
     replace hS := hb _ _ _ hk; clear hk hg hb
     have hK := keepsI ((hS.sel [900000, 1, 900002, 900003] rfl).selR [] rfl)
     refine ⟨hK, ?_⟩
     refine any_1 (i := 5) (by kernel_rfl) ?_
     refine as_mv rfl (rv_lit1 (x60.1 : Int) hS rfl Tryz.underlying22 inf_Tryz3 rfl rfl rfl rfl) (want_yes rfl) rfl rfl ?_
     clear hS
     clear hK; rintro s25 w hS
     have hK := keepsI ((hS.sel [900000, 1, 900002, 900003] rfl).selR [] rfl)
     refine ⟨hK, ?_⟩
     refine any_1 (i := 6) (by kernel_rfl) ?_
     refine as_mv rfl (rv_append (α := Int) 2 hS rfl (hS.rdOwn 5 rfl) rfl Tryz.underlying22 inf_Tryz3 rfl hn4 rfl rfl rfl) (want_yes rfl) rfl rfl ?_
     clear hS
     clear hK; rintro s26 w hS
     have hK := keepsI ((hS.sel [900000, 1, 900002, 900003] rfl).selR [] rfl)
     refine ⟨hK, ?_⟩
     refine ey 7 rfl (by kernel_rfl) hK (fun _ _ _ => (rv_fld (m := 1) Tryz.underlying43 rfl rfl Tryz.sizeOf38 rfl rfl)) rfl ?_
     refine ey 8 rfl (by kernel_rfl) hK (fun _ _ _ => (rv_fld (m := 0) Tryz.underlying38 rfl rfl Tryz.sizeOf22 rfl rfl)) rfl ?_
     refine any_1 (i := 9) (by kernel_rfl) ?_
     refine as_ms rfl (rs_box (vs := [s26]) hS (i := 3) rfl rfl rfl rfl (cells_rd (hS.rdOwn 2 rfl)) Tryz.sizeOf22 rfl rfl (all1 (one_rd (hS.rdOwn 2 rfl)) rfl)) (want_yes rfl) rfl ?_
     clear hS
     clear hK; intro w hS
     have hK := keepsI ((hS.sel [900000, 1, 900002, 900003] rfl).selR [] rfl)
     refine ⟨hK, ?_⟩
     refine any_done (by kernel_rfl) ?_
     intro a hA
     exact ⟨x60.2.left.b, x60.2.bad, x8 ++ ([x60.1]), s26, hG1, hA.part ⟨rfl, rfl, rfl, rfl, trivial⟩, ((hS).sel [4, 1, 2, 3] rfl).selR [] rfl⟩
    ·skip
     obtain ⟨c4, hg, hb⟩ := hS.give [0] rfl rfl
     refine as_c rfl (rc_call Tryz.call82 rfl rfl) (want_yes rfl) rfl rfl (c_impl_reader_byte (c := c4) (r_ := (⟨(⟨x6⟩ : GStr), x7⟩ : Reader)) (b1 := b1) (z1 := z1) (hg _ all_nil) hx60) ?_
     clear hK; rintro _ w ⟨rfl, hk⟩
     replace hS := hb _ _ _ hk; clear hk hg hb
     have hK := keepsI ((hS.sel [900000, 1, 900002, 900003] rfl).selR [] rfl)
     refine ⟨hK, ?_⟩
     refine any_2 (i := 2) (j := 5) (by kernel_rfl) ?_ ?_
     ·skip
      refine as_v rfl (rv_load1 rfl rfl Tryz.isAgg22 (hS.cell 3 rfl rfl)) (want_yes rfl) rfl rfl hK ?_
      refine any_1 (i := 5) (by kernel_rfl) ?_
      refine as_mv rfl (rv_lit1 (x60.1 : Int) hS rfl Tryz.underlying22 inf_Tryz3 rfl rfl rfl rfl) (want_yes rfl) rfl rfl ?_
      clear hS
      clear hK; rintro s25 w hS
      have hK := keepsI ((hS.sel [900000, 1, 900002, 900003] rfl).selR [] rfl)
      refine ⟨hK, ?_⟩
      refine any_1 (i := 6) (by kernel_rfl) ?_
      refine as_mv rfl (rv_append (α := Int) 2 hS rfl (hS.rdOwn 5 rfl) rfl Tryz.underlying22 inf_Tryz3 rfl hn4 rfl rfl rfl) (want_yes rfl) rfl rfl ?_
      clear hS
      clear hK; rintro s26 w hS
      have hK := keepsI ((hS.sel [900000, 1, 900002, 900003] rfl).selR [] rfl)
      refine ⟨hK, ?_⟩
      refine ey 7 rfl (by kernel_rfl) hK (fun _ _ _ => (rv_fld (m := 1) Tryz.underlying43 rfl rfl Tryz.sizeOf38 rfl rfl)) rfl ?_
      refine ey 8 rfl (by kernel_rfl) hK (fun _ _ _ => (rv_fld (m := 0) Tryz.underlying38 rfl rfl Tryz.sizeOf22 rfl rfl)) rfl ?_
      refine any_1 (i := 9) (by kernel_rfl) ?_
      refine as_ms rfl (rs_box (vs := [s26]) hS (i := 3) rfl rfl rfl rfl (cells_rd (hS.rdOwn 2 rfl)) Tryz.sizeOf22 rfl rfl (all1 (one_rd (hS.rdOwn 2 rfl)) rfl)) (want_yes rfl) rfl ?_
      clear hS
      clear hK; intro w hS
      have hK := keepsI ((hS.sel [900000, 1, 900002, 900003] rfl).selR [] rfl)
      refine ⟨hK, ?_⟩
      refine any_done (by kernel_rfl) ?_
      intro a hA
      exact ⟨x60.2.left.b, x60.2.bad, x8 ++ ([x60.1]), s26, hG1, hA.part ⟨rfl, rfl, rfl, rfl, trivial⟩, ((hS).sel [4, 1, 2, 3] rfl).selR [] rfl⟩
     ·skip
      refine as_mv rfl (rv_lit1 (x60.1 : Int) hS rfl Tryz.underlying22 inf_Tryz3 rfl rfl rfl rfl) (want_yes rfl) rfl rfl ?_
      clear hS
      clear hK; rintro s25 w hS
      have hK := keepsI ((hS.sel [900000, 1, 900002, 900003] rfl).selR [] rfl)
      refine ⟨hK, ?_⟩
      refine any_1 (i := 2) (by kernel_rfl) ?_
      refine as_v rfl (rv_load1 rfl rfl Tryz.isAgg22 (hS.cell 3 rfl rfl)) (want_yes rfl) rfl rfl hK ?_
      refine any_1 (i := 6) (by kernel_rfl) ?_
      refine as_mv rfl (rv_append (α := Int) 2 hS rfl (hS.rdOwn 5 rfl) rfl Tryz.underlying22 inf_Tryz3 rfl hn4 rfl rfl rfl) (want_yes rfl) rfl rfl ?_
      clear hS
      clear hK; rintro s26 w hS
      have hK := keepsI ((hS.sel [900000, 1, 900002, 900003] rfl).selR [] rfl)
      refine ⟨hK, ?_⟩
      refine ey 7 rfl (by kernel_rfl) hK (fun _ _ _ => (rv_fld (m := 1) Tryz.underlying43 rfl rfl Tryz.sizeOf38 rfl rfl)) rfl ?_
      refine ey 8 rfl (by kernel_rfl) hK (fun _ _ _ => (rv_fld (m := 0) Tryz.underlying38 rfl rfl Tryz.sizeOf22 rfl rfl)) rfl ?_
      refine any_1 (i := 9) (by kernel_rfl) ?_
      refine as_ms rfl (rs_box (vs := [s26]) hS (i := 3) rfl rfl rfl rfl (cells_rd (hS.rdOwn 2 rfl)) Tryz.sizeOf22 rfl rfl (all1 (one_rd (hS.rdOwn 2 rfl)) rfl)) (want_yes rfl) rfl ?_
      clear hS
      clear hK; intro w hS
      have hK := keepsI ((hS.sel [900000, 1, 900002, 900003] rfl).selR [] rfl)
      refine ⟨hK, ?_⟩
      refine any_done (by kernel_rfl) ?_
      intro a hA
      exact ⟨x60.2.left.b, x60.2.bad, x8 ++ ([x60.1]), s26, hG1, hA.part ⟨rfl, rfl, rfl, rfl, trivial⟩, ((hS).sel [4, 1, 2, 3] rfl).selR [] rfl⟩
   ·skip
    clear hA hS hG1
    rintro a w ⟨x57, x58, x59, s24, hG1, hA, hS⟩
    unfold impl_reader_mem_j8 at hG1
    refine cw_ops hA ?_
    clear hA
    refine oy (rv_add rfl rfl rfl) rfl <| om rfl rfl <| ops_nil fun a hA => ?_
    cases hG1
    exact ⟨_, rfl, ⟨s24, hA.part ⟨rfl, rfl, rfl, rfl, trivial⟩, ((hS).sel [0, 1, 2, 3] rfl).selR [] rfl⟩⟩
  ·replace hG1 := iteF hc4 hG1
   refine cw_exit <| xcons_hit ?_
   cases hG1
   have ho := hr1 _ rfl; subst ho
   exact ⟨x6, x7, x8, s2, rfl, hA.part ⟨rfl, rfl, rfl, trivial⟩, ((hS).sel [0, 1, 2, 3] rfl).selR [] rfl⟩
 ·skip
  clear hA hS hl1
  rintro a w ⟨x9, x10, x11, s3, heq, hA, hS⟩
  replace hF : impl_reader_mem_j1 x9 x10 x11 = some r := by rw [heq] at hF; exact hF
  clear heq
  unfold impl_reader_mem_j1 at hF
  refine cw_seq <| cw_seq <| cw_ops hA ?_
  clear hA
  refine om rfl rfl <| ops_nil fun a hA => ?_
  obtain ⟨o2, hl2, hF⟩ := bindE hF
  refine cw_cut (J := fun a' w' => ∃ (x20 : List UInt8) (x21 : Bool) (x22 : List Int) (s6 : Value), o2 = (x20, x21, x22) ∧ AEnv 55 [(0, .pointer (some ⟨b1, z1, none⟩)), (2, .pointer (some ⟨b2, 0, none⟩)), (3, .pointer (some ⟨b3, 0, none⟩))] a' ∧ St (c) w' [cAt b1 z1 [sv (x20), .bool (x21)], cBox b2 [(.slice none 0 0), (.slice none 0 0), (.slice none 0 0), (.slice none 0 0)], cOwn [s3] (x11 : List Int), cOwn [s6] (x22 : List Int), cBox b3 [s3, s6, (.slice none 0 0), (.slice none 0 0)]] []) ?_ ?_
  ·refine cw_block ?_
   refine cw_loop (body := impl_reader_mem_l2) (r := o2) (fun sg a' w' => ∃ (s5 : Value), AEnv 55 [(0, .pointer (some ⟨b1, z1, none⟩)), (2, .pointer (some ⟨b2, 0, none⟩)), (3, .pointer (some ⟨b3, 0, none⟩)), (17, .int .i64 (sg.1))] a' ∧ St (c) w' [cAt b1 z1 [sv (sg.2.1), .bool (sg.2.2.1)], cBox b2 [(.slice none 0 0), (.slice none 0 0), (.slice none 0 0), (.slice none 0 0)], cOwn [s3] (x11 : List Int), cOwn [s5] (sg.2.2.2 : List Int), cBox b3 [s3, s5, (.slice none 0 0), (.slice none 0 0)]] []) ?_ hl2 ⟨(.slice none 0 0), hA.part ⟨rfl, rfl, rfl, rfl, trivial⟩, (((hS).nilOwn (α := Int)).sel [0, 1, 2, 4, 3] rfl).selR [] rfl⟩
   clear hA hS hl2
   rintro ⟨x16, x17, x18, x19⟩ a w q2 ⟨s5, hA, hS⟩ hG2 hr2
   try dsimp only at hA hS
   unfold impl_reader_mem_l2 at hG2
   refine cw_seq <| cw_ops hA ?_
   clear hA
   refine oy (rv_lss rfl rfl rfl) rfl <| ops_nil fun a hA => cw_seq <| cw_cond hA rfl (fun hc3 => ?_) (fun hc3 => ?_)
   ·replace hG2 := iteT hc3 hG2
    refine cw_skip <| cw_seq <| cw_cut (J := fun a' w' => ∃ (x53 : List UInt8) (x54 : Bool) (x55 : List Int) (s21 : Value), impl_reader_mem_j7 x16 x53 x54 x55 = some q2 ∧ AEnv 55 [(0, .pointer (some ⟨b1, z1, none⟩)), (2, .pointer (some ⟨b2, 0, none⟩)), (3, .pointer (some ⟨b3, 0, none⟩)), (17, .int .i64 (x16))] a' ∧ St (c) w' [cAt b1 z1 [sv (x53), .bool (x54)], cBox b2 [(.slice none 0 0), (.slice none 0 0), (.slice none 0 0), (.slice none 0 0)], cOwn [s3] (x11 : List Int), cOwn [s21] (x55 : List Int), cBox b3 [s3, s21, (.slice none 0 0), (.slice none 0 0)]] []) ?_ ?_
    ·skip
     refine cw_block <| cw_any (Keeps (c) [cNo, cBox b2 [(.slice none 0 0), (.slice none 0 0), (.slice none 0 0), (.slice none 0 0)], cOwn [s3] (x11 : List Int), cNo, cNo] []) mixed_Tryz hA hS ?_
     clear hA hS; intro w hS
     have hK : Keeps (c) [cNo, cBox b2 [(.slice none 0 0), (.slice none 0 0), (.slice none 0 0), (.slice none 0 0)], cOwn [s3] (x11 : List Int), cNo, cNo] [] w := ⟨_, (hS.sel [900000, 1, 2, 900003, 900004] rfl).selR [] rfl⟩
     refine ey 0 rfl (by kernel_rfl) hK (fun _ _ _ => (rv_fld (m := 1) Tryz.underlying43 rfl rfl Tryz.sizeOf38 rfl rfl)) rfl ?_
     refine ey 1 rfl (by kernel_rfl) hK (fun _ _ _ => (rv_fld (m := 0) Tryz.underlying38 rfl rfl Tryz.sizeOf22 rfl rfl)) rfl ?_
     refine ey 3 rfl (by kernel_rfl) hK (fun _ _ _ => (rv_move rfl rfl)) rfl ?_
     obtain ⟨x56, hx56, hG2⟩ := bindE hG2
     obtain ⟨hn3, hG2⟩ := needE hG2
     refine any_2 (i := 2) (j := 4) (by kernel_rfl) ?_ ?_
     ·skip
      refine as_v rfl (rv_load1 rfl rfl Tryz.isAgg22 (hS.cell 4 rfl rfl)) (want_yes rfl) rfl rfl hK ?_
      refine any_1 (i := 4) (by kernel_rfl) ?_
      obtain ⟨c3, hg, hb⟩ := hS.give [0] rfl rfl
      refine as_c rfl (rc_call Tryz.call82 rfl rfl) (want_yes rfl) rfl rfl (c_impl_reader_byte (c := c3) (r_ := (⟨(⟨x17⟩ : GStr), x18⟩ : Reader)) (b1 := b1) (z1 := z1) (hg _ all_nil) hx56) ?_
      clear hK; rintro _ w ⟨rfl, hk⟩
      replace hS := hb _ _ _ hk; clear hk hg hb
      have hK := keepsI ((hS.sel [900000, 1, 2, 900003, 900004] rfl).selR [] rfl)
      refine ⟨hK, ?_⟩
      refine ey 5 rfl (by kernel_rfl) hK (fun _ _ _ => (rv_sub rfl rfl rfl)) rfl ?_
      refine any_1 (i := 6) (by kernel_rfl) ?_
      refine as_mv rfl (rv_lit1 (w64 (x56.1 - 1) : Int) hS rfl Tryz.underlying22 inf_Tryz3 rfl rfl rfl rfl) (want_yes rfl) rfl rfl ?_
      clear hS
      clear hK; rintro s22 w hS
      have hK := keepsI ((hS.sel [900000, 1, 2, 900003, 900004] rfl).selR [] rfl)
      refine ⟨hK, ?_⟩
      refine any_1 (i := 7) (by kernel_rfl) ?_
      refine as_mv rfl (rv_append (α := Int) 3 hS rfl (hS.rdOwn 6 rfl) rfl Tryz.underlying22 inf_Tryz3 rfl hn3 rfl rfl rfl) (want_yes rfl) rfl rfl ?_
      clear hS
      clear hK; rintro s23 w hS
      have hK := keepsI ((hS.sel [900000, 1, 2, 900003, 900004] rfl).selR [] rfl)
      refine ⟨hK, ?_⟩
      refine ey 8 rfl (by kernel_rfl) hK (fun _ _ _ => (rv_fld (m := 1) Tryz.underlying43 rfl rfl Tryz.sizeOf38 rfl rfl)) rfl ?_
      refine ey 9 rfl (by kernel_rfl) hK (fun _ _ _ => (rv_fld (m := 0) Tryz.underlying38 rfl rfl Tryz.sizeOf22 rfl rfl)) rfl ?_
      refine any_1 (i := 10) (by kernel_rfl) ?_
      refine as_ms rfl (rs_box (vs := [s23]) hS (i := 4) rfl rfl rfl rfl (cells_rd (hS.rdOwn 3 rfl)) Tryz.sizeOf22 rfl rfl (all1 (one_rd (hS.rdOwn 3 rfl)) rfl)) (want_yes rfl) rfl ?_
      clear hS
      clear hK; intro w hS
      have hK := keepsI ((hS.sel [900000, 1, 2, 900003, 900004] rfl).selR [] rfl)
      refine ⟨hK, ?_⟩
      refine any_done (by kernel_rfl) ?_
      intro a hA
      exact ⟨x56.2.left.b, x56.2.bad, x19 ++ ([w64 (x56.1 - 1)]), s23, hG2, hA.part ⟨rfl, rfl, rfl, rfl, trivial⟩, ((hS).sel [5, 1, 2, 3, 4] rfl).selR [] rfl⟩
     ·skip
      obtain ⟨c3, hg, hb⟩ := hS.give [0] rfl rfl
      refine as_c rfl (rc_call Tryz.call82 rfl rfl) (want_yes rfl) rfl rfl (c_impl_reader_byte (c := c3) (r_ := (⟨(⟨x17⟩ : GStr), x18⟩ : Reader)) (b1 := b1) (z1 := z1) (hg _ all_nil) hx56) ?_
      clear hK; rintro _ w ⟨rfl, hk⟩
      replace hS := hb _ _ _ hk; clear hk hg hb
      have hK := keepsI ((hS.sel [900000, 1, 2, 900003, 900004] rfl).selR [] rfl)
      refine ⟨hK, ?_⟩
      refine ey 5 rfl (by kernel_rfl) hK (fun _ _ _ => (rv_sub rfl rfl rfl)) rfl ?_
      refine any_2 (i := 2) (j := 6) (by kernel_rfl) ?_ ?_
      ·skip
       refine as_v rfl (rv_load1 rfl rfl Tryz.isAgg22 (hS.cell 4 rfl rfl)) (want_yes rfl) rfl rfl hK ?_
       refine any_1 (i := 6) (by kernel_rfl) ?_
       refine as_mv rfl (rv_lit1 (w64 (x56.1 - 1) : Int) hS rfl Tryz.underlying22 inf_Tryz3 rfl rfl rfl rfl) (want_yes rfl) rfl rfl ?_
       clear hS
       clear hK; rintro s22 w hS
       have hK := keepsI ((hS.sel [900000, 1, 2, 900003, 900004] rfl).selR [] rfl)
       refine ⟨hK, ?_⟩
       refine any_1 (i := 7) (by kernel_rfl) ?_
       refine as_mv rfl (rv_append (α := Int) 3 hS rfl (hS.rdOwn 6 rfl) rfl Tryz.underlying22 inf_Tryz3 rfl hn3 rfl rfl rfl) (want_yes rfl) rfl rfl ?_
       clear hS
       clear hK; rintro s23 w hS
       have hK := keepsI ((hS.sel [900000, 1, 2, 900003, 900004] rfl).selR [] rfl)
       refine ⟨hK, ?_⟩
       refine ey 8 rfl (by kernel_rfl) hK (fun _ _ _ => (rv_fld (m := 1) Tryz.underlying43 rfl rfl Tryz.sizeOf38 rfl rfl)) rfl ?_
       refine ey 9 rfl (by kernel_rfl) hK (fun _ _ _ => (rv_fld (m := 0) Tryz.underlying38 rfl rfl Tryz.sizeOf22 rfl rfl)) rfl ?_
       refine any_1 (i := 10) (by kernel_rfl) ?_
       refine as_ms rfl (rs_box (vs := [s23]) hS (i := 4) rfl rfl rfl rfl (cells_rd (hS.rdOwn 3 rfl)) Tryz.sizeOf22 rfl rfl (all1 (one_rd (hS.rdOwn 3 rfl)) rfl)) (want_yes rfl) rfl ?_
       clear hS
       clear hK; intro w hS
       have hK := keepsI ((hS.sel [900000, 1, 2, 900003, 900004] rfl).selR [] rfl)
       refine ⟨hK, ?_⟩
       refine any_done (by kernel_rfl) ?_
       intro a hA
       exact ⟨x56.2.left.b, x56.2.bad, x19 ++ ([w64 (x56.1 - 1)]), s23, hG2, hA.part ⟨rfl, rfl, rfl, rfl, trivial⟩, ((hS).sel [5, 1, 2, 3, 4] rfl).selR [] rfl⟩
      ·skip
       refine as_mv rfl (rv_lit1 (w64 (x56.1 - 1) : Int) hS rfl Tryz.underlying22 inf_Tryz3 rfl rfl rfl rfl) (want_yes rfl) rfl rfl ?_
       clear hS
       clear hK; rintro s22 w hS
       have hK := keepsI ((hS.sel [900000, 1, 2, 900003, 900004] rfl).selR [] rfl)
       refine ⟨hK, ?_⟩
       refine any_1 (i := 2) (by kernel_rfl) ?_
       refine as_v rfl (rv_load1 rfl rfl Tryz.isAgg22 (hS.cell 4 rfl rfl)) (want_yes rfl) rfl rfl hK ?_
       refine any_1 (i := 7) (by kernel_rfl) ?_
       refine as_mv rfl (rv_append (α := Int) 3 hS rfl (hS.rdOwn 6 rfl) rfl Tryz.underlying22 inf_Tryz3 rfl hn3 rfl rfl rfl) (want_yes rfl) rfl rfl ?_
       clear hS
       clear hK; rintro s23 w hS
       have hK := keepsI ((hS.sel [900000, 1, 2, 900003, 900004] rfl).selR [] rfl)
       refine ⟨hK, ?_⟩
       refine ey 8 rfl (by kernel_rfl) hK (fun _ _ _ => (rv_fld (m := 1) Tryz.underlying43 rfl rfl Tryz.sizeOf38 rfl rfl)) rfl ?_
       refine ey 9 rfl (by kernel_rfl) hK (fun _ _ _ => (rv_fld (m := 0) Tryz.underlying38 rfl rfl Tryz.sizeOf22 rfl rfl)) rfl ?_
       refine any_1 (i := 10) (by kernel_rfl) ?_
       refine as_ms rfl (rs_box (vs := [s23]) hS (i := 4) rfl rfl rfl rfl (cells_rd (hS.rdOwn 3 rfl)) Tryz.sizeOf22 rfl rfl (all1 (one_rd (hS.rdOwn 3 rfl)) rfl)) (want_yes rfl) rfl ?_
       clear hS
       clear hK; intro w hS
       have hK := keepsI ((hS.sel [900000, 1, 2, 900003, 900004] rfl).selR [] rfl)
       refine ⟨hK, ?_⟩
       refine any_done (by kernel_rfl) ?_
       intro a hA
       exact ⟨x56.2.left.b, x56.2.bad, x19 ++ ([w64 (x56.1 - 1)]), s23, hG2, hA.part ⟨rfl, rfl, rfl, rfl, trivial⟩, ((hS).sel [5, 1, 2, 3, 4] rfl).selR [] rfl⟩
    ·skip
     clear hA hS hG2
     rintro a w ⟨x53, x54, x55, s21, hG2, hA, hS⟩
     unfold impl_reader_mem_j7 at hG2
     refine cw_ops hA ?_
     clear hA
     refine oy (rv_add rfl rfl rfl) rfl <| om rfl rfl <| ops_nil fun a hA => ?_
     cases hG2
     exact ⟨_, rfl, ⟨s21, hA.part ⟨rfl, rfl, rfl, rfl, trivial⟩, ((hS).sel [0, 1, 2, 3, 4] rfl).selR [] rfl⟩⟩
   ·replace hG2 := iteF hc3 hG2
    refine cw_exit <| xcons_hit ?_
    cases hG2
    have ho := hr2 _ rfl; subst ho
    exact ⟨x17, x18, x19, s5, rfl, hA.part ⟨rfl, rfl, rfl, trivial⟩, ((hS).sel [0, 1, 2, 3, 4] rfl).selR [] rfl⟩
  ·skip
   clear hA hS hl2
   rintro a w ⟨x20, x21, x22, s6, heq, hA, hS⟩
   replace hF : impl_reader_mem_j2 x11 x20 x21 x22 = some r := by rw [heq] at hF; exact hF
   clear heq
   unfold impl_reader_mem_j2 at hF
   refine cw_seq <| cw_seq <| cw_ops hA ?_
   clear hA
   refine om rfl rfl <| ops_nil fun a hA => ?_
   obtain ⟨o3, hl3, hF⟩ := bindE hF
   refine cw_cut (J := fun a' w' => ∃ (x31 : List UInt8) (x32 : Bool) (x33 : List SList) (s9 : Value), o3 = (x31, x32, x33) ∧ AEnv 55 [(0, .pointer (some ⟨b1, z1, none⟩)), (2, .pointer (some ⟨b2, 0, none⟩)), (3, .pointer (some ⟨b3, 0, none⟩))] a' ∧ St (c) w' [cAt b1 z1 [sv (x31), .bool (x32)], cBox b2 [(.slice none 0 0), (.slice none 0 0), (.slice none 0 0), (.slice none 0 0)], cOwn [s3] (x11 : List Int), cOwn [s6] (x22 : List Int), cOwn [s9] (x33 : List SList), cBox b3 [s3, s6, s9, (.slice none 0 0)]] []) ?_ ?_
   ·refine cw_block ?_
    refine cw_loop (body := impl_reader_mem_l3) (r := o3) (fun sg a' w' => ∃ (s8 : Value), AEnv 55 [(0, .pointer (some ⟨b1, z1, none⟩)), (2, .pointer (some ⟨b2, 0, none⟩)), (3, .pointer (some ⟨b3, 0, none⟩)), (30, .int .i64 (sg.1))] a' ∧ St (c) w' [cAt b1 z1 [sv (sg.2.1), .bool (sg.2.2.1)], cBox b2 [(.slice none 0 0), (.slice none 0 0), (.slice none 0 0), (.slice none 0 0)], cOwn [s3] (x11 : List Int), cOwn [s6] (x22 : List Int), cOwn [s8] (sg.2.2.2 : List SList), cBox b3 [s3, s6, s8, (.slice none 0 0)]] []) ?_ hl3 ⟨(.slice none 0 0), hA.part ⟨rfl, rfl, rfl, rfl, trivial⟩, (((hS).nilOwn (α := SList)).sel [0, 1, 2, 3, 5, 4] rfl).selR [] rfl⟩
    clear hA hS hl3
    rintro ⟨x27, x28, x29, x30⟩ a w q3 ⟨s8, hA, hS⟩ hG3 hr3
    try dsimp only at hA hS
    unfold impl_reader_mem_l3 at hG3
    refine cw_seq <| cw_ops hA ?_
    clear hA
    refine oy (rv_lss rfl rfl rfl) rfl <| ops_nil fun a hA => cw_seq <| cw_cond hA rfl (fun hc2 => ?_) (fun hc2 => ?_)
    ·replace hG3 := iteT hc2 hG3
     refine cw_skip <| cw_seq <| cw_cut (J := fun a' w' => ∃ (x49 : List UInt8) (x50 : Bool) (x51 : List SList) (s17 : Value), impl_reader_mem_j6 x27 x49 x50 x51 = some q3 ∧ AEnv 55 [(0, .pointer (some ⟨b1, z1, none⟩)), (2, .pointer (some ⟨b2, 0, none⟩)), (3, .pointer (some ⟨b3, 0, none⟩)), (30, .int .i64 (x27))] a' ∧ St (c) w' [cAt b1 z1 [sv (x49), .bool (x50)], cBox b2 [(.slice none 0 0), (.slice none 0 0), (.slice none 0 0), (.slice none 0 0)], cOwn [s3] (x11 : List Int), cOwn [s6] (x22 : List Int), cOwn [s17] (x51 : List SList), cBox b3 [s3, s6, s17, (.slice none 0 0)]] []) ?_ ?_
     ·skip
      refine cw_block <| cw_any (Keeps (c) [cNo, cBox b2 [(.slice none 0 0), (.slice none 0 0), (.slice none 0 0), (.slice none 0 0)], cOwn [s3] (x11 : List Int), cOwn [s6] (x22 : List Int), cNo, cNo] []) mixed_Tryz hA hS ?_
      clear hA hS; intro w hS
      have hK : Keeps (c) [cNo, cBox b2 [(.slice none 0 0), (.slice none 0 0), (.slice none 0 0), (.slice none 0 0)], cOwn [s3] (x11 : List Int), cOwn [s6] (x22 : List Int), cNo, cNo] [] w := ⟨_, (hS.sel [900000, 1, 2, 3, 900004, 900005] rfl).selR [] rfl⟩
      refine ey 0 rfl (by kernel_rfl) hK (fun _ _ _ => (rv_fld (m := 1) Tryz.underlying43 rfl rfl Tryz.sizeOf41 rfl rfl)) rfl ?_
      refine ey 1 rfl (by kernel_rfl) hK (fun _ _ _ => (rv_fld (m := 0) Tryz.underlying41 rfl rfl Tryz.sizeOf39 rfl rfl)) rfl ?_
      refine ey 3 rfl (by kernel_rfl) hK (fun _ _ _ => (rv_move rfl rfl)) rfl ?_
      obtain ⟨x52, hx52, hG3⟩ := bindE hG3
      obtain ⟨hn2, hG3⟩ := needE hG3
      refine any_2 (i := 2) (j := 4) (by kernel_rfl) ?_ ?_
      ·skip
       refine as_v rfl (rv_load1 rfl rfl Tryz.isAgg39 (hS.cell 5 rfl rfl)) (want_yes rfl) rfl rfl hK ?_
       refine any_1 (i := 4) (by kernel_rfl) ?_
       obtain ⟨c2, hg, hb⟩ := hS.give [0] rfl rfl
       refine as_c rfl (rc_call Tryz.call83 rfl rfl) (want_yes rfl) rfl rfl (c_impl_reader_list (c := c2) (r_ := (⟨(⟨x28⟩ : GStr), x29⟩ : Reader)) (b1 := b1) (z1 := z1) (hg _ all_nil) hx52) ?_
       clear hK; rintro _ w ⟨s18, rfl, hk⟩
       replace hS := hb _ _ _ hk; clear hk hg hb
       have hK := keepsI ((hS.sel [900000, 1, 2, 3, 900004, 900005] rfl).selR [] rfl)
       refine ⟨hK, ?_⟩
       refine any_1 (i := 5) (by kernel_rfl) ?_
       replace hS := hS.pack [6] rfl rfl (op_SList x52.1)
       refine as_mv rfl (rv_litN1 (x52.1 : SList) hS [8] rfl ⟨_, rfl, rfl, ⟨rfl, rfl⟩⟩ rfl Tryz.underlying39 inf_Tryz120 rfl rfl rfl) (want_yes rfl) rfl rfl ?_
       clear hS
       clear hK; rintro s19 w hS
       have hK := keepsI ((hS.sel [900000, 1, 2, 3, 900004, 900005] rfl).selR [] rfl)
       refine ⟨hK, ?_⟩
       refine any_1 (i := 6) (by kernel_rfl) ?_
       refine as_mv rfl (rv_appN (α := SList) [4, 9] hS rfl rfl rfl Tryz.underlying39 inf_Tryz120 rfl hn2 rfl rfl rfl) (want_yes rfl) rfl rfl ?_
       clear hS
       clear hK; rintro s20 w hS
       have hK := keepsI ((hS.sel [900000, 1, 2, 3, 900004, 900005] rfl).selR [] rfl)
       refine ⟨hK, ?_⟩
       refine ey 7 rfl (by kernel_rfl) hK (fun _ _ _ => (rv_fld (m := 1) Tryz.underlying43 rfl rfl Tryz.sizeOf41 rfl rfl)) rfl ?_
       refine ey 8 rfl (by kernel_rfl) hK (fun _ _ _ => (rv_fld (m := 0) Tryz.underlying41 rfl rfl Tryz.sizeOf39 rfl rfl)) rfl ?_
       refine any_1 (i := 9) (by kernel_rfl) ?_
       refine as_ms rfl (rs_box (vs := [s20]) hS (i := 5) rfl rfl rfl rfl (cells_rd (hS.rdOwn 10 rfl)) Tryz.sizeOf39 rfl rfl (all1 (one_rd (hS.rdOwn 10 rfl)) rfl)) (want_yes rfl) rfl ?_
       clear hS
       clear hK; intro w hS
       have hK := keepsI ((hS.sel [900000, 1, 2, 3, 900004, 900005] rfl).selR [] rfl)
       refine ⟨hK, ?_⟩
       refine any_done (by kernel_rfl) ?_
       intro a hA
       exact ⟨x52.2.left.b, x52.2.bad, x30 ++ ([x52.1]), s20, hG3, hA.part ⟨rfl, rfl, rfl, rfl, trivial⟩, ((hS).sel [7, 1, 2, 3, 10, 5] rfl).selR [] rfl⟩
      ·skip
       obtain ⟨c2, hg, hb⟩ := hS.give [0] rfl rfl
       refine as_c rfl (rc_call Tryz.call83 rfl rfl) (want_yes rfl) rfl rfl (c_impl_reader_list (c := c2) (r_ := (⟨(⟨x28⟩ : GStr), x29⟩ : Reader)) (b1 := b1) (z1 := z1) (hg _ all_nil) hx52) ?_
       clear hK; rintro _ w ⟨s18, rfl, hk⟩
       replace hS := hb _ _ _ hk; clear hk hg hb
       have hK := keepsI ((hS.sel [900000, 1, 2, 3, 900004, 900005] rfl).selR [] rfl)
       refine ⟨hK, ?_⟩
       refine any_2 (i := 2) (j := 5) (by kernel_rfl) ?_ ?_
       ·skip
        refine as_v rfl (rv_load1 rfl rfl Tryz.isAgg39 (hS.cell 5 rfl rfl)) (want_yes rfl) rfl rfl hK ?_
        refine any_1 (i := 5) (by kernel_rfl) ?_
        replace hS := hS.pack [6] rfl rfl (op_SList x52.1)
        refine as_mv rfl (rv_litN1 (x52.1 : SList) hS [8] rfl ⟨_, rfl, rfl, ⟨rfl, rfl⟩⟩ rfl Tryz.underlying39 inf_Tryz120 rfl rfl rfl) (want_yes rfl) rfl rfl ?_
        clear hS
        clear hK; rintro s19 w hS
        have hK := keepsI ((hS.sel [900000, 1, 2, 3, 900004, 900005] rfl).selR [] rfl)
        refine ⟨hK, ?_⟩
        refine any_1 (i := 6) (by kernel_rfl) ?_
        refine as_mv rfl (rv_appN (α := SList) [4, 9] hS rfl rfl rfl Tryz.underlying39 inf_Tryz120 rfl hn2 rfl rfl rfl) (want_yes rfl) rfl rfl ?_
        clear hS
        clear hK; rintro s20 w hS
        have hK := keepsI ((hS.sel [900000, 1, 2, 3, 900004, 900005] rfl).selR [] rfl)
        refine ⟨hK, ?_⟩
        refine ey 7 rfl (by kernel_rfl) hK (fun _ _ _ => (rv_fld (m := 1) Tryz.underlying43 rfl rfl Tryz.sizeOf41 rfl rfl)) rfl ?_
        refine ey 8 rfl (by kernel_rfl) hK (fun _ _ _ => (rv_fld (m := 0) Tryz.underlying41 rfl rfl Tryz.sizeOf39 rfl rfl)) rfl ?_
        refine any_1 (i := 9) (by kernel_rfl) ?_
        refine as_ms rfl (rs_box (vs := [s20]) hS (i := 5) rfl rfl rfl rfl (cells_rd (hS.rdOwn 10 rfl)) Tryz.sizeOf39 rfl rfl (all1 (one_rd (hS.rdOwn 10 rfl)) rfl)) (want_yes rfl) rfl ?_
        clear hS
        clear hK; intro w hS
        have hK := keepsI ((hS.sel [900000, 1, 2, 3, 900004, 900005] rfl).selR [] rfl)
        refine ⟨hK, ?_⟩
        refine any_done (by kernel_rfl) ?_
        intro a hA
        exact ⟨x52.2.left.b, x52.2.bad, x30 ++ ([x52.1]), s20, hG3, hA.part ⟨rfl, rfl, rfl, rfl, trivial⟩, ((hS).sel [7, 1, 2, 3, 10, 5] rfl).selR [] rfl⟩
       ·skip
        replace hS := hS.pack [6] rfl rfl (op_SList x52.1)
        refine as_mv rfl (rv_litN1 (x52.1 : SList) hS [8] rfl ⟨_, rfl, rfl, ⟨rfl, rfl⟩⟩ rfl Tryz.underlying39 inf_Tryz120 rfl rfl rfl) (want_yes rfl) rfl rfl ?_
        clear hS
        clear hK; rintro s19 w hS
        have hK := keepsI ((hS.sel [900000, 1, 2, 3, 900004, 900005] rfl).selR [] rfl)
        refine ⟨hK, ?_⟩
        refine any_1 (i := 2) (by kernel_rfl) ?_
        refine as_v rfl (rv_load1 rfl rfl Tryz.isAgg39 (hS.cell 5 rfl rfl)) (want_yes rfl) rfl rfl hK ?_
        refine any_1 (i := 6) (by kernel_rfl) ?_
        refine as_mv rfl (rv_appN (α := SList) [4, 9] hS rfl rfl rfl Tryz.underlying39 inf_Tryz120 rfl hn2 rfl rfl rfl) (want_yes rfl) rfl rfl ?_
        clear hS
        clear hK; rintro s20 w hS
        have hK := keepsI ((hS.sel [900000, 1, 2, 3, 900004, 900005] rfl).selR [] rfl)
        refine ⟨hK, ?_⟩
        refine ey 7 rfl (by kernel_rfl) hK (fun _ _ _ => (rv_fld (m := 1) Tryz.underlying43 rfl rfl Tryz.sizeOf41 rfl rfl)) rfl ?_
        refine ey 8 rfl (by kernel_rfl) hK (fun _ _ _ => (rv_fld (m := 0) Tryz.underlying41 rfl rfl Tryz.sizeOf39 rfl rfl)) rfl ?_
        refine any_1 (i := 9) (by kernel_rfl) ?_
        refine as_ms rfl (rs_box (vs := [s20]) hS (i := 5) rfl rfl rfl rfl (cells_rd (hS.rdOwn 10 rfl)) Tryz.sizeOf39 rfl rfl (all1 (one_rd (hS.rdOwn 10 rfl)) rfl)) (want_yes rfl) rfl ?_
        clear hS
        clear hK; intro w hS
        have hK := keepsI ((hS.sel [900000, 1, 2, 3, 900004, 900005] rfl).selR [] rfl)
        refine ⟨hK, ?_⟩
        refine any_done (by kernel_rfl) ?_
        intro a hA
        exact ⟨x52.2.left.b, x52.2.bad, x30 ++ ([x52.1]), s20, hG3, hA.part ⟨rfl, rfl, rfl, rfl, trivial⟩, ((hS).sel [7, 1, 2, 3, 10, 5] rfl).selR [] rfl⟩
     ·skip
      clear hA hS hG3
      rintro a w ⟨x49, x50, x51, s17, hG3, hA, hS⟩
      unfold impl_reader_mem_j6 at hG3
      refine cw_ops hA ?_
      clear hA
      refine oy (rv_add rfl rfl rfl) rfl <| om rfl rfl <| ops_nil fun a hA => ?_
      cases hG3
      exact ⟨_, rfl, ⟨s17, hA.part ⟨rfl, rfl, rfl, rfl, trivial⟩, ((hS).sel [0, 1, 2, 3, 4, 5] rfl).selR [] rfl⟩⟩
    ·replace hG3 := iteF hc2 hG3
     refine cw_exit <| xcons_hit ?_
     cases hG3
     have ho := hr3 _ rfl; subst ho
     exact ⟨x28, x29, x30, s8, rfl, hA.part ⟨rfl, rfl, rfl, trivial⟩, ((hS).sel [0, 1, 2, 3, 4, 5] rfl).selR [] rfl⟩
   ·skip
    clear hA hS hl3
    rintro a w ⟨x31, x32, x33, s9, heq, hA, hS⟩
    replace hF : impl_reader_mem_j3 x11 x22 x31 x32 x33 = some r := by rw [heq] at hF; exact hF
    clear heq
    unfold impl_reader_mem_j3 at hF
    refine cw_seq <| cw_seq <| cw_ops hA ?_
    clear hA
    refine om rfl rfl <| ops_nil fun a hA => ?_
    obtain ⟨o4, hl4, hF⟩ := bindE hF
    refine cw_cut (J := fun a' w' => ∃ (x42 : List UInt8) (x43 : Bool) (x44 : List SList) (s12 : Value), o4 = (x42, x43, x44) ∧ AEnv 55 [(0, .pointer (some ⟨b1, z1, none⟩)), (2, .pointer (some ⟨b2, 0, none⟩)), (3, .pointer (some ⟨b3, 0, none⟩))] a' ∧ St (c) w' [cAt b1 z1 [sv (x42), .bool (x43)], cBox b2 [(.slice none 0 0), (.slice none 0 0), (.slice none 0 0), (.slice none 0 0)], cOwn [s3] (x11 : List Int), cOwn [s6] (x22 : List Int), cOwn [s9] (x33 : List SList), cOwn [s12] (x44 : List SList), cBox b3 [s3, s6, s9, s12]] []) ?_ ?_
    ·refine cw_block ?_
     refine cw_loop (body := impl_reader_mem_l4) (r := o4) (fun sg a' w' => ∃ (s11 : Value), AEnv 55 [(0, .pointer (some ⟨b1, z1, none⟩)), (2, .pointer (some ⟨b2, 0, none⟩)), (3, .pointer (some ⟨b3, 0, none⟩)), (42, .int .i64 (sg.1))] a' ∧ St (c) w' [cAt b1 z1 [sv (sg.2.1), .bool (sg.2.2.1)], cBox b2 [(.slice none 0 0), (.slice none 0 0), (.slice none 0 0), (.slice none 0 0)], cOwn [s3] (x11 : List Int), cOwn [s6] (x22 : List Int), cOwn [s9] (x33 : List SList), cOwn [s11] (sg.2.2.2 : List SList), cBox b3 [s3, s6, s9, s11]] []) ?_ hl4 ⟨(.slice none 0 0), hA.part ⟨rfl, rfl, rfl, rfl, trivial⟩, (((hS).nilOwn (α := SList)).sel [0, 1, 2, 3, 4, 6, 5] rfl).selR [] rfl⟩
     clear hA hS hl4
     rintro ⟨x38, x39, x40, x41⟩ a w q4 ⟨s11, hA, hS⟩ hG4 hr4
     try dsimp only at hA hS
     unfold impl_reader_mem_l4 at hG4
     refine cw_seq <| cw_ops hA ?_
     clear hA
     refine oy (rv_lss rfl rfl rfl) rfl <| ops_nil fun a hA => cw_seq <| cw_cond hA rfl (fun hc1 => ?_) (fun hc1 => ?_)
     ·replace hG4 := iteT hc1 hG4
      refine cw_skip <| cw_seq <| cw_cut (J := fun a' w' => ∃ (x45 : List UInt8) (x46 : Bool) (x47 : List SList) (s13 : Value), impl_reader_mem_j5 x38 x45 x46 x47 = some q4 ∧ AEnv 55 [(0, .pointer (some ⟨b1, z1, none⟩)), (2, .pointer (some ⟨b2, 0, none⟩)), (3, .pointer (some ⟨b3, 0, none⟩)), (42, .int .i64 (x38))] a' ∧ St (c) w' [cAt b1 z1 [sv (x45), .bool (x46)], cBox b2 [(.slice none 0 0), (.slice none 0 0), (.slice none 0 0), (.slice none 0 0)], cOwn [s3] (x11 : List Int), cOwn [s6] (x22 : List Int), cOwn [s9] (x33 : List SList), cOwn [s13] (x47 : List SList), cBox b3 [s3, s6, s9, s13]] []) ?_ ?_
      ·skip
       refine cw_block <| cw_any (Keeps (c) [cNo, cBox b2 [(.slice none 0 0), (.slice none 0 0), (.slice none 0 0), (.slice none 0 0)], cOwn [s3] (x11 : List Int), cOwn [s6] (x22 : List Int), cOwn [s9] (x33 : List SList), cNo, cNo] []) mixed_Tryz hA hS ?_
       clear hA hS; intro w hS
       have hK : Keeps (c) [cNo, cBox b2 [(.slice none 0 0), (.slice none 0 0), (.slice none 0 0), (.slice none 0 0)], cOwn [s3] (x11 : List Int), cOwn [s6] (x22 : List Int), cOwn [s9] (x33 : List SList), cNo, cNo] [] w := ⟨_, (hS.sel [900000, 1, 2, 3, 4, 900005, 900006] rfl).selR [] rfl⟩
       refine ey 0 rfl (by kernel_rfl) hK (fun _ _ _ => (rv_fld (m := 1) Tryz.underlying43 rfl rfl Tryz.sizeOf41 rfl rfl)) rfl ?_
       refine ey 1 rfl (by kernel_rfl) hK (fun _ _ _ => (rv_fld (m := 0) Tryz.underlying41 rfl rfl Tryz.sizeOf39 rfl rfl)) rfl ?_
       refine ey 3 rfl (by kernel_rfl) hK (fun _ _ _ => (rv_move rfl rfl)) rfl ?_
       obtain ⟨x48, hx48, hG4⟩ := bindE hG4
       obtain ⟨hn1, hG4⟩ := needE hG4
       refine any_2 (i := 2) (j := 4) (by kernel_rfl) ?_ ?_
       ·skip
        refine as_v rfl (rv_load1 rfl rfl Tryz.isAgg39 (hS.cell 6 rfl rfl)) (want_yes rfl) rfl rfl hK ?_
        refine any_1 (i := 4) (by kernel_rfl) ?_
        obtain ⟨c1, hg, hb⟩ := hS.give [0] rfl rfl
        refine as_c rfl (rc_call Tryz.call83 rfl rfl) (want_yes rfl) rfl rfl (c_impl_reader_list (c := c1) (r_ := (⟨(⟨x39⟩ : GStr), x40⟩ : Reader)) (b1 := b1) (z1 := z1) (hg _ all_nil) hx48) ?_
        clear hK; rintro _ w ⟨s14, rfl, hk⟩
        replace hS := hb _ _ _ hk; clear hk hg hb
        have hK := keepsI ((hS.sel [900000, 1, 2, 3, 4, 900005, 900006] rfl).selR [] rfl)
        refine ⟨hK, ?_⟩
        refine any_1 (i := 5) (by kernel_rfl) ?_
        replace hS := hS.pack [7] rfl rfl (op_SList x48.1)
        refine as_mv rfl (rv_litN1 (x48.1 : SList) hS [9] rfl ⟨_, rfl, rfl, ⟨rfl, rfl⟩⟩ rfl Tryz.underlying39 inf_Tryz120 rfl rfl rfl) (want_yes rfl) rfl rfl ?_
        clear hS
        clear hK; rintro s15 w hS
        have hK := keepsI ((hS.sel [900000, 1, 2, 3, 4, 900005, 900006] rfl).selR [] rfl)
        refine ⟨hK, ?_⟩
        refine any_1 (i := 6) (by kernel_rfl) ?_
        refine as_mv rfl (rv_appN (α := SList) [5, 10] hS rfl rfl rfl Tryz.underlying39 inf_Tryz120 rfl hn1 rfl rfl rfl) (want_yes rfl) rfl rfl ?_
        clear hS
        clear hK; rintro s16 w hS
        have hK := keepsI ((hS.sel [900000, 1, 2, 3, 4, 900005, 900006] rfl).selR [] rfl)
        refine ⟨hK, ?_⟩
        refine ey 7 rfl (by kernel_rfl) hK (fun _ _ _ => (rv_fld (m := 1) Tryz.underlying43 rfl rfl Tryz.sizeOf41 rfl rfl)) rfl ?_
        refine ey 8 rfl (by kernel_rfl) hK (fun _ _ _ => (rv_fld (m := 0) Tryz.underlying41 rfl rfl Tryz.sizeOf39 rfl rfl)) rfl ?_
        refine any_1 (i := 9) (by kernel_rfl) ?_
        refine as_ms rfl (rs_box (vs := [s16]) hS (i := 6) rfl rfl rfl rfl (cells_rd (hS.rdOwn 11 rfl)) Tryz.sizeOf39 rfl rfl (all1 (one_rd (hS.rdOwn 11 rfl)) rfl)) (want_yes rfl) rfl ?_
        clear hS
        clear hK; intro w hS
        have hK := keepsI ((hS.sel [900000, 1, 2, 3, 4, 900005, 900006] rfl).selR [] rfl)
        refine ⟨hK, ?_⟩
        refine any_done (by kernel_rfl) ?_
        intro a hA
        exact ⟨x48.2.left.b, x48.2.bad, x41 ++ ([x48.1]), s16, hG4, hA.part ⟨rfl, rfl, rfl, rfl, trivial⟩, ((hS).sel [8, 1, 2, 3, 4, 11, 6] rfl).selR [] rfl⟩
       ·skip
        obtain ⟨c1, hg, hb⟩ := hS.give [0] rfl rfl
        refine as_c rfl (rc_call Tryz.call83 rfl rfl) (want_yes rfl) rfl rfl (c_impl_reader_list (c := c1) (r_ := (⟨(⟨x39⟩ : GStr), x40⟩ : Reader)) (b1 := b1) (z1 := z1) (hg _ all_nil) hx48) ?_
        clear hK; rintro _ w ⟨s14, rfl, hk⟩
        replace hS := hb _ _ _ hk; clear hk hg hb
        have hK := keepsI ((hS.sel [900000, 1, 2, 3, 4, 900005, 900006] rfl).selR [] rfl)
        refine ⟨hK, ?_⟩
        refine any_2 (i := 2) (j := 5) (by kernel_rfl) ?_ ?_
        ·skip
         refine as_v rfl (rv_load1 rfl rfl Tryz.isAgg39 (hS.cell 6 rfl rfl)) (want_yes rfl) rfl rfl hK ?_
         refine any_1 (i := 5) (by kernel_rfl) ?_
         replace hS := hS.pack [7] rfl rfl (op_SList x48.1)
         refine as_mv rfl (rv_litN1 (x48.1 : SList) hS [9] rfl ⟨_, rfl, rfl, ⟨rfl, rfl⟩⟩ rfl Tryz.underlying39 inf_Tryz120 rfl rfl rfl) (want_yes rfl) rfl rfl ?_
         clear hS
         clear hK; rintro s15 w hS
         have hK := keepsI ((hS.sel [900000, 1, 2, 3, 4, 900005, 900006] rfl).selR [] rfl)
         refine ⟨hK, ?_⟩
         refine any_1 (i := 6) (by kernel_rfl) ?_
         refine as_mv rfl (rv_appN (α := SList) [5, 10] hS rfl rfl rfl Tryz.underlying39 inf_Tryz120 rfl hn1 rfl rfl rfl) (want_yes rfl) rfl rfl ?_
         clear hS
         clear hK; rintro s16 w hS
         have hK := keepsI ((hS.sel [900000, 1, 2, 3, 4, 900005, 900006] rfl).selR [] rfl)
         refine ⟨hK, ?_⟩
         refine ey 7 rfl (by kernel_rfl) hK (fun _ _ _ => (rv_fld (m := 1) Tryz.underlying43 rfl rfl Tryz.sizeOf41 rfl rfl)) rfl ?_
         refine ey 8 rfl (by kernel_rfl) hK (fun _ _ _ => (rv_fld (m := 0) Tryz.underlying41 rfl rfl Tryz.sizeOf39 rfl rfl)) rfl ?_
         refine any_1 (i := 9) (by kernel_rfl) ?_
         refine as_ms rfl (rs_box (vs := [s16]) hS (i := 6) rfl rfl rfl rfl (cells_rd (hS.rdOwn 11 rfl)) Tryz.sizeOf39 rfl rfl (all1 (one_rd (hS.rdOwn 11 rfl)) rfl)) (want_yes rfl) rfl ?_
         clear hS
         clear hK; intro w hS
         have hK := keepsI ((hS.sel [900000, 1, 2, 3, 4, 900005, 900006] rfl).selR [] rfl)
         refine ⟨hK, ?_⟩
         refine any_done (by kernel_rfl) ?_
         intro a hA
         exact ⟨x48.2.left.b, x48.2.bad, x41 ++ ([x48.1]), s16, hG4, hA.part ⟨rfl, rfl, rfl, rfl, trivial⟩, ((hS).sel [8, 1, 2, 3, 4, 11, 6] rfl).selR [] rfl⟩
        ·skip
         replace hS := hS.pack [7] rfl rfl (op_SList x48.1)
         refine as_mv rfl (rv_litN1 (x48.1 : SList) hS [9] rfl ⟨_, rfl, rfl, ⟨rfl, rfl⟩⟩ rfl Tryz.underlying39 inf_Tryz120 rfl rfl rfl) (want_yes rfl) rfl rfl ?_
         clear hS
         clear hK; rintro s15 w hS
         have hK := keepsI ((hS.sel [900000, 1, 2, 3, 4, 900005, 900006] rfl).selR [] rfl)
         refine ⟨hK, ?_⟩
         refine any_1 (i := 2) (by kernel_rfl) ?_
         refine as_v rfl (rv_load1 rfl rfl Tryz.isAgg39 (hS.cell 6 rfl rfl)) (want_yes rfl) rfl rfl hK ?_
         refine any_1 (i := 6) (by kernel_rfl) ?_
         refine as_mv rfl (rv_appN (α := SList) [5, 10] hS rfl rfl rfl Tryz.underlying39 inf_Tryz120 rfl hn1 rfl rfl rfl) (want_yes rfl) rfl rfl ?_
         clear hS
         clear hK; rintro s16 w hS
         have hK := keepsI ((hS.sel [900000, 1, 2, 3, 4, 900005, 900006] rfl).selR [] rfl)
         refine ⟨hK, ?_⟩
         refine ey 7 rfl (by kernel_rfl) hK (fun _ _ _ => (rv_fld (m := 1) Tryz.underlying43 rfl rfl Tryz.sizeOf41 rfl rfl)) rfl ?_
         refine ey 8 rfl (by kernel_rfl) hK (fun _ _ _ => (rv_fld (m := 0) Tryz.underlying41 rfl rfl Tryz.sizeOf39 rfl rfl)) rfl ?_
         refine any_1 (i := 9) (by kernel_rfl) ?_
         refine as_ms rfl (rs_box (vs := [s16]) hS (i := 6) rfl rfl rfl rfl (cells_rd (hS.rdOwn 11 rfl)) Tryz.sizeOf39 rfl rfl (all1 (one_rd (hS.rdOwn 11 rfl)) rfl)) (want_yes rfl) rfl ?_
         clear hS
         clear hK; intro w hS
         have hK := keepsI ((hS.sel [900000, 1, 2, 3, 4, 900005, 900006] rfl).selR [] rfl)
         refine ⟨hK, ?_⟩
         refine any_done (by kernel_rfl) ?_
         intro a hA
         exact ⟨x48.2.left.b, x48.2.bad, x41 ++ ([x48.1]), s16, hG4, hA.part ⟨rfl, rfl, rfl, rfl, trivial⟩, ((hS).sel [8, 1, 2, 3, 4, 11, 6] rfl).selR [] rfl⟩
      ·skip
       clear hA hS hG4
       rintro a w ⟨x45, x46, x47, s13, hG4, hA, hS⟩
       unfold impl_reader_mem_j5 at hG4
       refine cw_ops hA ?_
       clear hA
       refine oy (rv_add rfl rfl rfl) rfl <| om rfl rfl <| ops_nil fun a hA => ?_
       cases hG4
       exact ⟨_, rfl, ⟨s13, hA.part ⟨rfl, rfl, rfl, rfl, trivial⟩, ((hS).sel [0, 1, 2, 3, 4, 5, 6] rfl).selR [] rfl⟩⟩
     ·replace hG4 := iteF hc1 hG4
      refine cw_exit <| xcons_hit ?_
      cases hG4
      have ho := hr4 _ rfl; subst ho
      exact ⟨x39, x40, x41, s11, rfl, hA.part ⟨rfl, rfl, rfl, trivial⟩, ((hS).sel [0, 1, 2, 3, 4, 5, 6] rfl).selR [] rfl⟩
    ·skip
     clear hA hS hl4
     rintro a w ⟨x42, x43, x44, s12, heq, hA, hS⟩
     replace hF : impl_reader_mem_j4 x11 x22 x33 x42 x43 x44 = some r := by rw [heq] at hF; exact hF
     clear heq
     unfold impl_reader_mem_j4 at hF
     refine cw_seq <| cw_ops hA ?_
     clear hA
     refine oy (rv_loadN rfl rfl Tryz.isAgg43 Tryz.sizeOf43 rfl (hS.cells 6 0 (cs' := [s3, s6, s9, s12]) rfl rfl)) rfl <| ops_ms (rs_box (vs := [s3, s6, s9, s12]) hS (i := 1) rfl rfl rfl rfl rfl Tryz.sizeOf43 rfl rfl (all1 (one_rd (hS.rdOwn 2 rfl)) (all1 (one_rd (hS.rdOwn 3 rfl)) (all1 (one_rd (hS.rdOwn 4 rfl)) (all1 (one_rd (hS.rdOwn 5 rfl)) rfl))))) (want_yes rfl) rfl ?_
     clear hS
     intro w hS
     refine ops_nil fun a hA => cw_ret ?_
     cases hF
     exact fin1 Tryz.results38 hA (res_cell rfl Tryz.isAgg43 Tryz.sizeOf43 rfl (hS.cells 1 0 (cs' := [s3, s6, s9, s12]) rfl rfl)) ⟨s3, s6, s9, s12, rfl, (hS.sel [2, 3, 4, 5, 0] rfl).weaken (R' := []) (fun _ h => nomatch h)⟩

theorem c_slices_IndexFunc_int {w0 : World} {s : List Int} {f : (Int → Option Bool)} {s1 : Value} {g_f : FuncId} {cap_f : List Value} {r : Int} (h1 : Rep.rd (All w0) w0 [s1] (s : List Int)) (hg_f : ∀ args w, (callFunc g_f args).run Tryz.prog w = .ok (.enter g_f args) w) (hp_f : ∀ (w' : World) (x0 : Int)  (q : Bool), Keep F0 w0 w' → f x0 = some q → Calls Tryz.prog g_f (([.int .i64 (x0)] : List Value) ++ cap_f).toArray w' (Ret fun v w'' => v = .bool (q) ∧ St (cxAll w') w'' [] [])) (hF : slices_IndexFunc_int s f = some r) :
    Calls Tryz.prog 143 #[s1, .func (.func g_f) #[] cap_f.toArray] w0 (Ret fun v w' => v = .int .i64 (r) ∧ St (cxAll w0) w' [] []) := by
 have hS : St (cxAll w0) w0 [] [fRd [s1] (s : List Int)] := St.enter (by
   intro f hf
   simp only [List.mem_cons, List.not_mem_nil, or_false] at hf
   subst hf; exact h1)
 refine calls_cw (args := [_, _]) Tryz.func143 rfl Tryz.ntmps143 rfl ?_
 unfold slices_IndexFunc_int at hF
 intro a hA
 refine cw_seq <| cw_ops hA ?_
 clear hA
 refine oa rfl rfl <| ops_nil fun a hA => cw_seq <| cw_seq <| cw_ops hA ?_
 clear hA
 refine om rfl rfl <| oy (rv_lenS (hS.rd 0 rfl) Tryz.underlying22 rfl rfl) rfl <| om rfl rfl <| ops_nil fun a hA => ?_
 obtain ⟨o1, hl1, hF⟩ := bindE hF
 refine cw_cut (J := fun a' w' => o1 = Out.brk (()) ∧ AEnv 19 [] a' ∧ St (cxAll w0) w' [] []) ?_ ?_
 ·refine cw_block ?_
  refine cw_loop (body := slices_IndexFunc_int_l1 s f) (r := o1) (fun sg a' w' => AEnv 19 [(0, s1), (1, .func (.func g_f) #[] cap_f.toArray), (7, .int .i64 ((s.length : Int))), (8, .int .i64 (sg))] a' ∧ St (cxAll w0) w' [] [fRd [s1] (s : List Int)]) ?_ hl1 ⟨hA.part ⟨rfl, rfl, rfl, rfl, trivial⟩, ((hS).sel [] rfl).selR [0] rfl⟩
  clear hA hS hl1
  rintro x2 a w q1 ⟨hA, hS⟩ hG1 hr1
  try dsimp only at hA hS
  unfold slices_IndexFunc_int_l1 at hG1
  refine cw_seq <| cw_ops hA ?_
  clear hA
  refine oy (rv_lss rfl rfl rfl) rfl <| ops_nil fun a hA => cw_seq <| cw_cond hA rfl (fun hc1 => ?_) (fun hc1 => ?_)
  ·replace hG1 := iteT hc1 hG1
   refine cw_skip <| cw_seq <| cw_block <| cw_seq <| cw_ops hA ?_
   clear hA
   refine om rfl rfl <| oa rfl rfl <| ops_nil fun a hA => cw_seq <| cw_ops hA ?_
   clear hA
   refine om rfl rfl <| om rfl rfl <| om rfl rfl ?_
   obtain ⟨x3, hx3, hG1⟩ := bindE hG1
   refine oy (rv_idx (m := 1) (hS.rd 0 rfl) rfl hx3 Tryz.underlying22 Tryz.sizeOf3 rfl rfl rfl) rfl <| oy (rv_load1 rfl rfl Tryz.isAgg3 (cell1 (el_Int (hS.rd 0 rfl) (idx_some hx3).2.2))) rfl ?_
   obtain ⟨x4, hx4, hG1⟩ := bindE hG1
   refine ops_c (rc_callv hg_f rfl rfl rfl) (want_yes rfl) rfl rfl (hp_f _ x3  _ hS.keep  hx4) ?_
   rintro _ w ⟨rfl, hk⟩
   replace hS := hS.after hk; clear hk
   refine ops_nil fun a hA => cw_cond hA rfl (fun hc2 => ?_) (fun hc2 => ?_)
   ·replace hG1 := iteT hc2 hG1
    refine cw_seq <| cw_ops hA ?_
    clear hA
    refine om rfl rfl <| oa rfl rfl <| ops_nil fun a hA => cw_ret ?_
    cases hG1
    have ho := hr1 _ rfl; subst ho
    replace hF : some x2 = some r := hF
    cases hF
    exact fy Tryz.results143 hA rfl hS
   ·replace hG1 := iteF hc2 hG1
    refine cw_skip <| cw_ops hA ?_
    clear hA
    refine oy (rv_add rfl rfl rfl) rfl <| om rfl rfl <| ops_nil fun a hA => ?_
    cases hG1
    exact ⟨_, rfl, ⟨hA.part ⟨rfl, rfl, rfl, rfl, trivial⟩, ((hS).sel [] rfl).selR [0] rfl⟩⟩
  ·replace hG1 := iteF hc1 hG1
   refine cw_exit <| xcons_hit ?_
   cases hG1
   have ho := hr1 _ rfl; subst ho
   exact ⟨rfl, hA.part trivial, ((hS).sel [] rfl).selR [] rfl⟩
 ·skip
  clear hA hS hl1
  rintro a w ⟨heq, hA, hS⟩
  replace hF : slices_IndexFunc_int_j1 = some r := by rw [heq] at hF; exact hF
  clear heq
  unfold slices_IndexFunc_int_j1 at hF
  refine cw_seq <| cw_ops hA ?_
  clear hA
  refine oa rfl rfl <| ops_nil fun a hA => cw_ret ?_
  cases hF
  exact fy Tryz.results143 hA rfl hS

theorem c_slices_ContainsFunc_int {w0 : World} {s : List Int} {f : (Int → Option Bool)} {s1 : Value} {g_f : FuncId} {cap_f : List Value} {r : Bool} (h1 : Rep.rd (All w0) w0 [s1] (s : List Int)) (hg_f : ∀ args w, (callFunc g_f args).run Tryz.prog w = .ok (.enter g_f args) w) (hp_f : ∀ (w' : World) (x0 : Int)  (q : Bool), Keep F0 w0 w' → f x0 = some q → Calls Tryz.prog g_f (([.int .i64 (x0)] : List Value) ++ cap_f).toArray w' (Ret fun v w'' => v = .bool (q) ∧ St (cxAll w') w'' [] [])) (hF : slices_ContainsFunc_int s f = some r) :
    Calls Tryz.prog 115 #[s1, .func (.func g_f) #[] cap_f.toArray] w0 (Ret fun v w' => v = .bool (r) ∧ St (cxAll w0) w' [] []) := by
 have hS : St (cxAll w0) w0 [] [fRd [s1] (s : List Int)] := St.enter (by
   intro f hf
   simp only [List.mem_cons, List.not_mem_nil, or_false] at hf
   subst hf; exact h1)
 refine calls_cw (args := [_, _]) Tryz.func115 rfl Tryz.ntmps115 rfl ?_
 unfold slices_ContainsFunc_int at hF
 intro a hA
 refine cw_seq <| cw_ops hA ?_
 clear hA
 refine oa rfl rfl <| ops_nil fun a hA => cw_seq <| cw_ops hA ?_
 clear hA
 refine om rfl rfl <| om rfl rfl ?_
 obtain ⟨x1, hx1, hF⟩ := bindE hF
 refine ops_c (rc_call Tryz.call143 rfl rfl) (want_yes rfl) rfl rfl (c_slices_IndexFunc_int (s := s) (f := f) (hS.rd 0 rfl) hg_f (fun w1 y0 q hk => hp_f w1 y0 q (hS.keep.trans hk fun _ _ _ h => h)) hx1) ?_
 rintro _ w ⟨rfl, hk⟩
 replace hS := hS.after hk; clear hk
 refine oy (rv_geq rfl rfl rfl) rfl <| oa rfl rfl <| ops_nil fun a hA => cw_ret ?_
 cases hF
 exact fy Tryz.results115 hA rfl hS

theorem c_impl_within {w0 : World} {n : Int} {low : Int} {high : Int}  {r : Bool}  (hF : impl_within n low high = some r) :
    Calls Tryz.prog 75 #[.int .i64 (n), .int .i64 (low), .int .i64 (high)] w0 (Ret fun v w' => v = .bool (r) ∧ St (cxAll w0) w' [] []) := by
 have hS : St (cxAll w0) w0 [] [] := St.enter (by
   intro f hf; cases hf)
 refine calls_cw (args := [_, _, _]) Tryz.func75 rfl Tryz.ntmps75 rfl ?_
 unfold impl_within at hF
 intro a hA
 refine cw_seq <| cw_ops hA ?_
 clear hA
 refine oa rfl rfl <| ops_nil fun a hA => cw_seq <| cw_cut (J := fun a' w' => ∃ (x1 : Bool), impl_within_j1 x1 = some r ∧ AEnv 15 [(6, .bool (x1))] a' ∧ St (cxAll w0) w' [] []) ?_ ?_
 ·skip
  refine cw_ops hA ?_
  clear hA
  refine om rfl rfl <| om rfl rfl <| oy (rv_geq rfl rfl rfl) rfl <| om rfl rfl <| ops_case (s := 10) rfl (fun hc1 => ?_) (fun hc1 => ?_)
  ·replace hF := iteT hc1 hF
   refine ops_v (rv_move rfl rfl) (want_if rfl rfl rfl (by rw [hc1]; rfl)) rfl rfl <| ops_v (rv_move rfl rfl) (want_if rfl rfl rfl (by rw [hc1]; rfl)) rfl rfl <| ops_v (rv_leq rfl rfl rfl) (want_if rfl rfl rfl (by rw [hc1]; rfl)) rfl rfl <| oy (rv_pick_t rfl rfl hc1 rfl) rfl <| oa rfl rfl <| ops_nil fun a hA => ?_
   exact ⟨decide (n ≤ high), hF, hA.part ⟨rfl, trivial⟩, ((hS).sel [] rfl).selR [] rfl⟩
  ·replace hF := iteF hc1 hF
   refine ops_off (want_if rfl rfl rfl (by rw [hc1]; rfl)) rfl rfl <| ops_off (want_if rfl rfl rfl (by rw [hc1]; rfl)) rfl rfl <| ops_off (want_if rfl rfl rfl (by rw [hc1]; rfl)) rfl rfl <| oy (rv_pick_f rfl rfl hc1 rfl) rfl <| oa rfl rfl <| ops_nil fun a hA => ?_
   exact ⟨false, hF, hA.part ⟨rfl, trivial⟩, ((hS).sel [] rfl).selR [] rfl⟩
 ·skip
  clear hA hS hF
  rintro a w ⟨x1, hF, hA, hS⟩
  unfold impl_within_j1 at hF
  refine cw_ret ?_
  cases hF
  exact fy Tryz.results75 hA rfl hS

theorem c_impl_isByte {w0 : World} {x : Int}  {r : Bool}  (hF : impl_isByte x = some r) :
    Calls Tryz.prog 168 #[.int .i64 (x)] w0 (Ret fun v w' => v = .bool (r) ∧ St (cxAll w0) w' [] []) := by
 have hS : St (cxAll w0) w0 [] [] := St.enter (by
   intro f hf; cases hf)
 refine calls_cw (args := [_]) Tryz.func168 rfl Tryz.ntmps168 rfl ?_
 unfold impl_isByte at hF
 intro a hA
 refine cw_seq <| cw_ops hA ?_
 clear hA
 refine oa rfl rfl <| ops_nil fun a hA => cw_seq <| cw_ops hA ?_
 clear hA
 refine om rfl rfl ?_
 obtain ⟨x1, hx1, hF⟩ := bindE hF
 refine ops_c (rc_call Tryz.call75 rfl rfl) (want_yes rfl) rfl rfl (c_impl_within (n := x) (low := 0) (high := 255)  hx1) ?_
 rintro _ w ⟨rfl, hk⟩
 replace hS := hS.after hk; clear hk
 refine oa rfl rfl <| ops_nil fun a hA => cw_ret ?_
 cases hF
 exact fy Tryz.results168 hA rfl hS

theorem c_impl_BytesOk_1 {w0 : World} {x : Int}  {r : Bool}  (hF : impl_BytesOk_1 x = some r) :
    Calls Tryz.prog 167 #[.int .i64 (x)] w0 (Ret fun v w' => v = .bool (r) ∧ St (cxAll w0) w' [] []) := by
 have hS : St (cxAll w0) w0 [] [] := St.enter (by
   intro f hf; cases hf)
 refine calls_cw (args := [_]) Tryz.func167 rfl Tryz.ntmps167 rfl ?_
 unfold impl_BytesOk_1 at hF
 intro a hA
 refine cw_seq <| cw_ops hA ?_
 clear hA
 refine oa rfl rfl <| ops_nil fun a hA => cw_seq <| cw_ops hA ?_
 clear hA
 refine om rfl rfl ?_
 obtain ⟨x1, hx1, hF⟩ := bindE hF
 refine ops_c (rc_call Tryz.call168 rfl rfl) (want_yes rfl) rfl rfl (c_impl_isByte (x := x)  hx1) ?_
 rintro _ w ⟨rfl, hk⟩
 replace hS := hS.after hk; clear hk
 refine oy (rv_not rfl rfl) rfl <| oa rfl rfl <| ops_nil fun a hA => cw_ret ?_
 cases hF
 exact fy Tryz.results167 hA rfl hS

theorem c_impl_BytesOk {w0 : World} {b : List Int} {s1 : Value} {r : Bool} (h1 : Rep.rd (All w0) w0 [s1] (b : List Int)) (hF : impl_BytesOk b = some r) :
    Calls Tryz.prog 156 #[s1] w0 (Ret fun v w' => v = .bool (r) ∧ St (cxAll w0) w' [] []) := by
 have hS : St (cxAll w0) w0 [] [fRd [s1] (b : List Int)] := St.enter (by
   intro f hf
   simp only [List.mem_cons, List.not_mem_nil, or_false] at hf
   subst hf; exact h1)
 refine calls_cw (args := [_]) Tryz.func156 rfl Tryz.ntmps156 rfl ?_
 unfold impl_BytesOk at hF
 intro a hA
 refine cw_seq <| cw_ops hA ?_
 clear hA
 refine oa rfl rfl <| ops_nil fun a hA => cw_seq <| cw_cut (J := fun a' w' => ∃ (x1 : Bool), impl_BytesOk_j1 x1 = some r ∧ AEnv 11 [(2, .bool (x1))] a' ∧ St (cxAll w0) w' [] []) ?_ ?_
 ·skip
  refine cw_ops hA ?_
  clear hA
  refine om rfl rfl <| oy (rv_lenS (hS.rd 0 rfl) Tryz.underlying22 rfl rfl) rfl <| oy (rv_leq rfl rfl rfl) rfl <| om rfl rfl <| ops_case (s := 6) rfl (fun hc1 => ?_) (fun hc1 => ?_)
  ·replace hF := iteT hc1 hF
   refine ops_v (rv_move rfl rfl) (want_if rfl rfl rfl (by rw [hc1]; rfl)) rfl rfl ?_
   obtain ⟨x2, hx2, hF⟩ := bindE hF
   refine ops_c (rc_call Tryz.call115 rfl rfl) (want_if rfl rfl rfl (by rw [hc1]; rfl)) rfl rfl (c_slices_ContainsFunc_int (s := b) (f := (fun y0 => impl_BytesOk_1 y0 )) (cap_f := []) (hS.rd 0 rfl) Tryz.call167 (fun w1 y0  q hk  hq => c_impl_BytesOk_1    hq) hx2) ?_
   rintro _ w ⟨rfl, hk⟩
   replace hS := hS.after hk; clear hk
   refine ops_v (rv_not rfl rfl) (want_if rfl rfl rfl (by rw [hc1]; rfl)) rfl rfl <| oy (rv_pick_t rfl rfl hc1 rfl) rfl <| oa rfl rfl <| ops_nil fun a hA => ?_
   exact ⟨!x2, hF, hA.part ⟨rfl, trivial⟩, ((hS).sel [] rfl).selR [] rfl⟩
  ·replace hF := iteF hc1 hF
   refine ops_off (want_if rfl rfl rfl (by rw [hc1]; rfl)) rfl rfl <| ops_off (want_if rfl rfl rfl (by rw [hc1]; rfl)) rfl rfl <| ops_off (want_if rfl rfl rfl (by rw [hc1]; rfl)) rfl rfl <| oy (rv_pick_f rfl rfl hc1 rfl) rfl <| oa rfl rfl <| ops_nil fun a hA => ?_
   exact ⟨false, hF, hA.part ⟨rfl, trivial⟩, ((hS).sel [] rfl).selR [] rfl⟩
 ·skip
  clear hA hS hF
  rintro a w ⟨x1, hF, hA, hS⟩
  unfold impl_BytesOk_j1 at hF
  refine cw_ret ?_
  cases hF
  exact fy Tryz.results156 hA rfl hS

theorem c_impl_shaped_1 {w0 : World} {c : Int}  {r : Bool}  (hF : impl_shaped_1 c = some r) :
    Calls Tryz.prog 157 #[.int .i64 (c)] w0 (Ret fun v w' => v = .bool (r) ∧ St (cxAll w0) w' [] []) := by
 have hS : St (cxAll w0) w0 [] [] := St.enter (by
   intro f hf; cases hf)
 refine calls_cw (args := [_]) Tryz.func157 rfl Tryz.ntmps157 rfl ?_
 unfold impl_shaped_1 at hF
 intro a hA
 refine cw_seq <| cw_ops hA ?_
 clear hA
 refine oa rfl rfl <| ops_nil fun a hA => cw_seq <| cw_ops hA ?_
 clear hA
 refine om rfl rfl ?_
 obtain ⟨x1, hx1, hF⟩ := bindE hF
 refine ops_c (rc_call Tryz.call75 rfl rfl) (want_yes rfl) rfl rfl (c_impl_within (n := c) (low := (-1)) (high := 2)  hx1) ?_
 rintro _ w ⟨rfl, hk⟩
 replace hS := hS.after hk; clear hk
 refine oy (rv_not rfl rfl) rfl <| oa rfl rfl <| ops_nil fun a hA => cw_ret ?_
 cases hF
 exact fy Tryz.results157 hA rfl hS

theorem c_impl_shaped {w0 : World} {h : Heap} {s1 : Value} {s2 : Value} {r : Bool} (h1 : Rep.rd (All w0) w0 [s1] (h.Bytes : List Int)) (h2 : Rep.rd (All w0) w0 [s2] (h.Class : List Int)) (hF : impl_shaped h = some r) :
    Calls Tryz.prog 137 #[.agg #[s1, s2]] w0 (Ret fun v w' => v = .bool (r) ∧ St (cxAll w0) w' [] []) := by
 have hS : St (cxAll w0) w0 [] [fRd [s1] (h.Bytes : List Int), fRd [s2] (h.Class : List Int)] := St.enter (by
   intro f hf
   simp only [List.mem_cons, List.not_mem_nil, or_false] at hf
   rcases hf with rfl | rfl
   · exact h1
   · exact h2)
 refine calls_cw (args := [_]) Tryz.func137 rfl Tryz.ntmps137 rfl ?_
 unfold impl_shaped at hF
 intro a hA
 refine cw_seq <| cw_ops hA ?_
 clear hA
 refine ops_mv (rv_box (cs := [s1, s2]) hS rfl rfl rfl) (want_yes rfl) rfl rfl ?_
 clear hS
 rintro _ w ⟨b1, rfl, hS⟩
 refine oa rfl rfl <| ops_nil fun a hA => cw_seq <| cw_cut (J := fun a' w' => ∃ (x1 : Bool), impl_shaped_j1 x1 = some r ∧ AEnv 24 [(2, .bool (x1))] a' ∧ St (cxAll w0) w' [] []) ?_ ?_
 ·skip
  refine cw_ops hA ?_
  clear hA
  refine oy (rv_fld (m := 0) Tryz.underlying38 rfl rfl Tryz.sizeOf22 rfl rfl) rfl <| oy (rv_load1 rfl rfl Tryz.isAgg22 (hS.cell 0 rfl rfl)) rfl <| oy (rv_lenS (hS.rd 0 rfl) Tryz.underlying22 rfl rfl) rfl <| oy (rv_eql rfl rfl rfl) rfl <| om rfl rfl <| ops_case (s := 7) rfl (fun hc1 => ?_) (fun hc1 => ?_)
  ·replace hF := iteT hc1 hF
   refine ops_v (rv_fld (m := 0) Tryz.underlying38 rfl rfl Tryz.sizeOf22 rfl rfl) (want_if rfl rfl rfl (by rw [hc1]; rfl)) rfl rfl <| ops_v (rv_load1 rfl rfl Tryz.isAgg22 (hS.cell 0 rfl rfl)) (want_if rfl rfl rfl (by rw [hc1]; rfl)) rfl rfl ?_
   obtain ⟨x2, hx2, hF⟩ := bindE hF
   refine ops_c (rc_call Tryz.call156 rfl rfl) (want_if rfl rfl rfl (by rw [hc1]; rfl)) rfl rfl (c_impl_BytesOk (b := h.Bytes) (hS.rd 0 rfl) hx2) ?_
   rintro _ w ⟨rfl, hk⟩
   replace hS := hS.after hk; clear hk
   refine oy (rv_pick_t rfl rfl hc1 rfl) rfl <| om rfl rfl <| ops_case (s := 12) rfl (fun hc2 => ?_) (fun hc2 => ?_)
   ·replace hF := iteT hc2 hF
    refine ops_v (rv_fld (m := 0) Tryz.underlying38 rfl rfl Tryz.sizeOf22 rfl rfl) (want_if rfl rfl rfl (by rw [hc2]; rfl)) rfl rfl <| ops_v (rv_load1 rfl rfl Tryz.isAgg22 (hS.cell 0 rfl rfl)) (want_if rfl rfl rfl (by rw [hc2]; rfl)) rfl rfl <| ops_v (rv_lenS (hS.rd 1 rfl) Tryz.underlying22 rfl rfl) (want_if rfl rfl rfl (by rw [hc2]; rfl)) rfl rfl <| ops_v (rv_eql rfl rfl rfl) (want_if rfl rfl rfl (by rw [hc2]; rfl)) rfl rfl <| oy (rv_pick_t rfl rfl hc2 rfl) rfl <| om rfl rfl <| ops_case (s := 18) rfl (fun hc3 => ?_) (fun hc3 => ?_)
    ·replace hF := iteT hc3 hF
     refine ops_v (rv_fld (m := 0) Tryz.underlying38 rfl rfl Tryz.sizeOf22 rfl rfl) (want_if rfl rfl rfl (by rw [hc3]; rfl)) rfl rfl <| ops_v (rv_load1 rfl rfl Tryz.isAgg22 (hS.cell 0 rfl rfl)) (want_if rfl rfl rfl (by rw [hc3]; rfl)) rfl rfl ?_
     obtain ⟨x3, hx3, hF⟩ := bindE hF
     refine ops_c (rc_call Tryz.call115 rfl rfl) (want_if rfl rfl rfl (by rw [hc3]; rfl)) rfl rfl (c_slices_ContainsFunc_int (s := h.Class) (f := (fun y0 => impl_shaped_1 y0 )) (cap_f := []) (hS.rd 1 rfl) Tryz.call157 (fun w1 y0  q hk  hq => c_impl_shaped_1    hq) hx3) ?_
     rintro _ w ⟨rfl, hk⟩
     replace hS := hS.after hk; clear hk
     refine ops_v (rv_not rfl rfl) (want_if rfl rfl rfl (by rw [hc3]; rfl)) rfl rfl <| oy (rv_pick_t rfl rfl hc3 rfl) rfl <| oa rfl rfl <| ops_nil fun a hA => ?_
     exact ⟨!x3, hF, hA.part ⟨rfl, trivial⟩, ((hS).sel [] rfl).selR [] rfl⟩
    ·replace hF := iteF hc3 hF
     refine ops_off (want_if rfl rfl rfl (by rw [hc3]; rfl)) rfl rfl <| ops_off (want_if rfl rfl rfl (by rw [hc3]; rfl)) rfl rfl <| ops_off (want_if rfl rfl rfl (by rw [hc3]; rfl)) rfl rfl <| ops_off (want_if rfl rfl rfl (by rw [hc3]; rfl)) rfl rfl <| oy (rv_pick_f rfl rfl hc3 rfl) rfl <| oa rfl rfl <| ops_nil fun a hA => ?_
     exact ⟨false, hF, hA.part ⟨rfl, trivial⟩, ((hS).sel [] rfl).selR [] rfl⟩
   ·replace hF := iteF hc2 hF
    refine ops_off (want_if rfl rfl rfl (by rw [hc2]; rfl)) rfl rfl <| ops_off (want_if rfl rfl rfl (by rw [hc2]; rfl)) rfl rfl <| ops_off (want_if rfl rfl rfl (by rw [hc2]; rfl)) rfl rfl <| ops_off (want_if rfl rfl rfl (by rw [hc2]; rfl)) rfl rfl <| oy (rv_pick_f rfl rfl hc2 rfl) rfl <| om rfl rfl <| ops_off (want_if rfl rfl rfl rfl) rfl rfl <| ops_off (want_if rfl rfl rfl rfl) rfl rfl <| ops_off (want_if rfl rfl rfl rfl) rfl rfl ?_
    refine ops_off (want_if rfl rfl rfl rfl) rfl rfl <| oy (rv_pick_f rfl rfl rfl rfl) rfl <| oa rfl rfl <| ops_nil fun a hA => ?_
    exact ⟨false, hF, hA.part ⟨rfl, trivial⟩, ((hS).sel [] rfl).selR [] rfl⟩
  ·replace hF := iteF hc1 hF
   refine ops_off (want_if rfl rfl rfl (by rw [hc1]; rfl)) rfl rfl <| ops_off (want_if rfl rfl rfl (by rw [hc1]; rfl)) rfl rfl <| ops_off (want_if rfl rfl rfl (by rw [hc1]; rfl)) rfl rfl <| oy (rv_pick_f rfl rfl hc1 rfl) rfl <| om rfl rfl <| ops_off (want_if rfl rfl rfl rfl) rfl rfl <| ops_off (want_if rfl rfl rfl rfl) rfl rfl <| ops_off (want_if rfl rfl rfl rfl) rfl rfl <| ops_off (want_if rfl rfl rfl rfl) rfl rfl ?_
   refine oy (rv_pick_f rfl rfl rfl rfl) rfl <| om rfl rfl <| ops_off (want_if rfl rfl rfl rfl) rfl rfl <| ops_off (want_if rfl rfl rfl rfl) rfl rfl <| ops_off (want_if rfl rfl rfl rfl) rfl rfl <| ops_off (want_if rfl rfl rfl rfl) rfl rfl <| oy (rv_pick_f rfl rfl rfl rfl) rfl <| oa rfl rfl <| ops_nil fun a hA => ?_
   exact ⟨false, hF, hA.part ⟨rfl, trivial⟩, ((hS).sel [] rfl).selR [] rfl⟩
 ·skip
  clear hA hS hF
  rintro a w ⟨x1, hF, hA, hS⟩
  unfold impl_shaped_j1 at hF
  refine cw_ret ?_
  cases hF
  exact fy Tryz.results137 hA rfl hS

theorem c_impl_isZero_1 {w0 : World} {x : Int}  {r : Bool}  (hF : impl_isZero_1 x = some r) :
    Calls Tryz.prog 169 #[.int .i64 (x)] w0 (Ret fun v w' => v = .bool (r) ∧ St (cxAll w0) w' [] []) := by
 have hS : St (cxAll w0) w0 [] [] := St.enter (by
   intro f hf; cases hf)
 refine calls_cw (args := [_]) Tryz.func169 rfl Tryz.ntmps169 rfl ?_
 unfold impl_isZero_1 at hF
 intro a hA
 refine cw_seq <| cw_ops hA ?_
 clear hA
 refine oa rfl rfl <| ops_nil fun a hA => cw_seq <| cw_ops hA ?_
 clear hA
 refine om rfl rfl <| oy (rv_neq rfl rfl rfl) rfl <| oa rfl rfl <| ops_nil fun a hA => cw_ret ?_
 cases hF
 exact fy Tryz.results169 hA rfl hS

theorem c_impl_isZero {w0 : World} {b : List Int} {s1 : Value} {r : Bool} (h1 : Rep.rd (All w0) w0 [s1] (b : List Int)) (hF : impl_isZero b = some r) :
    Calls Tryz.prog 158 #[s1] w0 (Ret fun v w' => v = .bool (r) ∧ St (cxAll w0) w' [] []) := by
 have hS : St (cxAll w0) w0 [] [fRd [s1] (b : List Int)] := St.enter (by
   intro f hf
   simp only [List.mem_cons, List.not_mem_nil, or_false] at hf
   subst hf; exact h1)
 refine calls_cw (args := [_]) Tryz.func158 rfl Tryz.ntmps158 rfl ?_
 unfold impl_isZero at hF
 intro a hA
 refine cw_seq <| cw_ops hA ?_
 clear hA
 refine oa rfl rfl <| ops_nil fun a hA => cw_seq <| cw_ops hA ?_
 clear hA
 refine om rfl rfl ?_
 obtain ⟨x1, hx1, hF⟩ := bindE hF
 refine ops_c (rc_call Tryz.call115 rfl rfl) (want_yes rfl) rfl rfl (c_slices_ContainsFunc_int (s := b) (f := (fun y0 => impl_isZero_1 y0 )) (cap_f := []) (hS.rd 0 rfl) Tryz.call169 (fun w1 y0  q hk  hq => c_impl_isZero_1    hq) hx1) ?_
 rintro _ w ⟨rfl, hk⟩
 replace hS := hS.after hk; clear hk
 refine oy (rv_not rfl rfl) rfl <| oa rfl rfl <| ops_nil fun a hA => cw_ret ?_
 cases hF
 exact fy Tryz.results158 hA rfl hS

theorem c_impl_isClass {w0 : World} {c : Int}  {r : Bool}  (hF : impl_isClass c = some r) :
    Calls Tryz.prog 165 #[.int .i64 (c)] w0 (Ret fun v w' => v = .bool (r) ∧ St (cxAll w0) w' [] []) := by
 have hS : St (cxAll w0) w0 [] [] := St.enter (by
   intro f hf; cases hf)
 refine calls_cw (args := [_]) Tryz.func165 rfl Tryz.ntmps165 rfl ?_
 unfold impl_isClass at hF
 intro a hA
 refine cw_seq <| cw_ops hA ?_
 clear hA
 refine oa rfl rfl <| ops_nil fun a hA => cw_seq <| cw_ops hA ?_
 clear hA
 refine om rfl rfl ?_
 obtain ⟨x1, hx1, hF⟩ := bindE hF
 refine ops_c (rc_call Tryz.call75 rfl rfl) (want_yes rfl) rfl rfl (c_impl_within (n := c) (low := 0) (high := 2)  hx1) ?_
 rintro _ w ⟨rfl, hk⟩
 replace hS := hS.after hk; clear hk
 refine oa rfl rfl <| ops_nil fun a hA => cw_ret ?_
 cases hF
 exact fy Tryz.results165 hA rfl hS

theorem c_impl_SizeOf {w0 : World} {c : Int}  {r : Int}  (hF : impl_SizeOf c = some r) :
    Calls Tryz.prog 170 #[.int .i64 (c)] w0 (Ret fun v w' => v = .int .i64 (r) ∧ St (cxAll w0) w' [] []) := by
 have hS : St (cxAll w0) w0 [] [] := St.enter (by
   intro f hf; cases hf)
 refine calls_cw (args := [_]) Tryz.func170 rfl Tryz.ntmps170 rfl ?_
 unfold impl_SizeOf at hF
 intro a hA
 refine cw_seq <| cw_ops hA ?_
 clear hA
 refine oa rfl rfl <| ops_nil fun a hA => cw_seq <| cw_seq <| cw_ops hA ?_
 clear hA
 refine om rfl rfl ?_
 obtain ⟨x1, hx1, hF⟩ := bindE hF
 refine ops_c (rc_call Tryz.call165 rfl rfl) (want_yes rfl) rfl rfl (c_impl_isClass (c := c)  hx1) ?_
 rintro _ w ⟨rfl, hk⟩
 replace hS := hS.after hk; clear hk
 refine oy (rv_not rfl rfl) rfl <| ops_nil fun a hA => cw_cond hA rfl (fun hc1 => ?_) (fun hc1 => ?_)
 ·replace hF := iteT hc1 hF
  refine cw_seq <| cw_ops hA ?_
  clear hA
  refine oa rfl rfl <| ops_nil fun a hA => cw_ret ?_
  cases hF
  exact fy Tryz.results170 hA rfl hS
 ·replace hF := iteF hc1 hF
  refine cw_skip <| cw_seq <| cw_ops hA ?_
  clear hA
  refine oy (rv_buildA (cells := #[.int .i64 (8), .int .i64 (16), .int .i64 (40)]) rfl Tryz.zeroValue180 Tryz.underlying180 Tryz.sizeOf3 rfl rfl) rfl <| om rfl rfl ?_
  obtain ⟨x2, hx2, hF⟩ := bindE hF
  refine oy (rv_arr (fun q : Int => .int .i64 q) Tryz.underlying180 Tryz.sizeOf3 Tryz.isAgg3 hx2 rfl rfl rfl rfl rfl) rfl <| oa rfl rfl <| ops_nil fun a hA => cw_ret ?_
  cases hF
  exact fy Tryz.results170 hA rfl hS

theorem c_impl_StrideOf {w0 : World} {c : Int}  {r : Int}  (hF : impl_StrideOf c = some r) :
    Calls Tryz.prog 160 #[.int .i64 (c)] w0 (Ret fun v w' => v = .int .i64 (r) ∧ St (cxAll w0) w' [] []) := by
 have hS : St (cxAll w0) w0 [] [] := St.enter (by
   intro f hf; cases hf)
 refine calls_cw (args := [_]) Tryz.func160 rfl Tryz.ntmps160 rfl ?_
 unfold impl_StrideOf at hF
 intro a hA
 refine cw_seq <| cw_ops hA ?_
 clear hA
 refine oa rfl rfl <| ops_nil fun a hA => cw_seq <| cw_seq <| cw_ops hA ?_
 clear hA
 refine om rfl rfl ?_
 obtain ⟨x1, hx1, hF⟩ := bindE hF
 refine ops_c (rc_call Tryz.call165 rfl rfl) (want_yes rfl) rfl rfl (c_impl_isClass (c := c)  hx1) ?_
 rintro _ w ⟨rfl, hk⟩
 replace hS := hS.after hk; clear hk
 refine oy (rv_not rfl rfl) rfl <| ops_nil fun a hA => cw_cond hA rfl (fun hc1 => ?_) (fun hc1 => ?_)
 ·replace hF := iteT hc1 hF
  refine cw_seq <| cw_ops hA ?_
  clear hA
  refine oa rfl rfl <| ops_nil fun a hA => cw_ret ?_
  cases hF
  exact fy Tryz.results160 hA rfl hS
 ·replace hF := iteF hc1 hF
  refine cw_skip <| cw_seq <| cw_ops hA ?_
  clear hA
  refine om rfl rfl ?_
  obtain ⟨x2, hx2, hF⟩ := bindE hF
  refine ops_c (rc_call Tryz.call170 rfl rfl) (want_yes rfl) rfl rfl (c_impl_SizeOf (c := c)  hx2) ?_
  rintro _ w ⟨rfl, hk⟩
  replace hS := hS.after hk; clear hk
  refine oy (rv_add rfl rfl rfl) rfl <| oa rfl rfl <| ops_nil fun a hA => cw_ret ?_
  cases hF
  exact fy Tryz.results160 hA rfl hS

theorem c_impl_PerPage {w0 : World} {c : Int}  {r : Int}  (hF : impl_PerPage c = some r) :
    Calls Tryz.prog 159 #[.int .i64 (c)] w0 (Ret fun v w' => v = .int .i64 (r) ∧ St (cxAll w0) w' [] []) := by
 have hS : St (cxAll w0) w0 [] [] := St.enter (by
   intro f hf; cases hf)
 refine calls_cw (args := [_]) Tryz.func159 rfl Tryz.ntmps159 rfl ?_
 unfold impl_PerPage at hF
 intro a hA
 refine cw_seq <| cw_ops hA ?_
 clear hA
 refine oa rfl rfl <| ops_nil fun a hA => cw_seq <| cw_seq <| cw_ops hA ?_
 clear hA
 refine om rfl rfl ?_
 obtain ⟨x1, hx1, hF⟩ := bindE hF
 refine ops_c (rc_call Tryz.call165 rfl rfl) (want_yes rfl) rfl rfl (c_impl_isClass (c := c)  hx1) ?_
 rintro _ w ⟨rfl, hk⟩
 replace hS := hS.after hk; clear hk
 refine oy (rv_not rfl rfl) rfl <| ops_nil fun a hA => cw_cond hA rfl (fun hc1 => ?_) (fun hc1 => ?_)
 ·replace hF := iteT hc1 hF
  refine cw_seq <| cw_ops hA ?_
  clear hA
  refine oa rfl rfl <| ops_nil fun a hA => cw_ret ?_
  cases hF
  exact fy Tryz.results159 hA rfl hS
 ·replace hF := iteF hc1 hF
  refine cw_skip <| cw_seq <| cw_ops hA ?_
  clear hA
  refine om rfl rfl ?_
  obtain ⟨x2, hx2, hF⟩ := bindE hF
  refine ops_c (rc_call Tryz.call160 rfl rfl) (want_yes rfl) rfl rfl (c_impl_StrideOf (c := c)  hx2) ?_
  rintro _ w ⟨rfl, hk⟩
  replace hS := hS.after hk; clear hk
  obtain ⟨hn1, hF⟩ := needE hF
  refine oy (rv_quo rfl rfl rfl hn1) rfl <| oa rfl rfl <| ops_nil fun a hA => cw_ret ?_
  cases hF
  exact fy Tryz.results159 hA rfl hS

theorem c_impl_loadNum {w0 : World} {b : List Int} {at_ : Int} {width : Int} {s1 : Value} {r : Int} (h1 : Rep.rd (All w0) w0 [s1] (b : List Int)) (hF : impl_loadNum b at_ width = some r) :
    Calls Tryz.prog 146 #[s1, .int .i64 (at_), .int .i64 (width)] w0 (Ret fun v w' => v = .int .i64 (r) ∧ St (cxAll w0) w' [] []) := by
 have hS : St (cxAll w0) w0 [] [fRd [s1] (b : List Int)] := St.enter (by
   intro f hf
   simp only [List.mem_cons, List.not_mem_nil, or_false] at hf
   subst hf; exact h1)
 refine calls_cw (args := [_, _, _]) Tryz.func146 rfl Tryz.ntmps146 rfl ?_
 unfold impl_loadNum at hF
 intro a hA
 refine cw_seq <| cw_ops hA ?_
 clear hA
 refine oa rfl rfl <| ops_nil fun a hA => cw_seq <| cw_ops hA ?_
 clear hA
 refine oa rfl rfl <| ops_nil fun a hA => cw_seq <| cw_seq <| cw_ops hA ?_
 clear hA
 refine om rfl rfl <| om rfl rfl <| om rfl rfl <| om rfl rfl <| oy (rv_add rfl rfl rfl) rfl ?_
 obtain ⟨hn1, hF⟩ := needE hF
 replace hS := hS.subF (n := 1) (a := at_.toNat) (b := (w64 (at_ + width)).toNat) 0 rfl rfl (by omega) (by omega)
 refine oy (rv_sub_lh (n := 1) (hS.rd 0 rfl) rfl Tryz.underlying22 Tryz.sizeOf3 hn1 rfl rfl rfl rfl) rfl <| oy (rv_lenS (hS.rd 1 rfl) Tryz.underlying22 rfl rfl) rfl <| om rfl rfl <| ops_nil fun a hA => ?_
 obtain ⟨o1, hl1, hF⟩ := bindE hF
 refine cw_cut (J := fun a' w' => ∃ (x5 : Int), o1 = x5 ∧ AEnv 27 [(7, .int .i64 (x5))] a' ∧ St (cxAll w0) w' [] []) ?_ ?_
 ·refine cw_block ?_
  refine cw_loop (body := impl_loadNum_l1 b at_ width) (r := o1) (fun sg a' w' => AEnv 27 [(7, .int .i64 (sg.1)), (15, (subV 1 at_.toNat ((w64 (at_ + width)).toNat) s1)), (16, .int .i64 ((((b.take ((w64 (at_ + width)).toNat)).drop at_.toNat).length : Int))), (17, .int .i64 (sg.2))] a' ∧ St (cxAll w0) w' [] [fRd [(subV 1 at_.toNat ((w64 (at_ + width)).toNat) s1)] ((b.take ((w64 (at_ + width)).toNat)).drop at_.toNat : List Int)]) ?_ hl1 ⟨hA.part ⟨rfl, rfl, rfl, rfl, trivial⟩, ((hS).sel [] rfl).selR [1] rfl⟩
  clear hA hS hl1
  rintro ⟨x3, x4⟩ a w q1 ⟨hA, hS⟩ hG1 hr1
  try dsimp only at hA hS
  unfold impl_loadNum_l1 at hG1
  refine cw_seq <| cw_ops hA ?_
  clear hA
  refine oy (rv_lss rfl rfl rfl) rfl <| ops_nil fun a hA => cw_seq <| cw_cond hA rfl (fun hc1 => ?_) (fun hc1 => ?_)
  ·replace hG1 := iteT hc1 hG1
   refine cw_skip <| cw_seq <| cw_block <| cw_seq <| cw_ops hA ?_
   clear hA
   obtain ⟨x6, hx6, hG1⟩ := bindE hG1
   refine oy (rv_idx (m := 1) (hS.rd 0 rfl) rfl hx6 Tryz.underlying22 Tryz.sizeOf3 rfl rfl rfl) rfl <| oy (rv_load1 rfl rfl Tryz.isAgg3 (cell1 (el_Int (hS.rd 0 rfl) (idx_some hx6).2.2))) rfl <| oa rfl rfl <| ops_nil fun a hA => cw_ops hA ?_
   clear hA
   refine om rfl rfl <| oy (rv_mul rfl rfl rfl) rfl <| om rfl rfl <| oy (rv_add rfl rfl rfl) rfl <| oa rfl rfl <| ops_nil fun a hA => cw_ops hA ?_
   clear hA
   refine oy (rv_add rfl rfl rfl) rfl <| om rfl rfl <| ops_nil fun a hA => ?_
   cases hG1
   exact ⟨_, rfl, ⟨hA.part ⟨rfl, rfl, rfl, rfl, trivial⟩, ((hS).sel [] rfl).selR [0] rfl⟩⟩
  ·replace hG1 := iteF hc1 hG1
   refine cw_exit <| xcons_hit ?_
   cases hG1
   have ho := hr1 _ rfl; subst ho
   exact ⟨x3, rfl, hA.part ⟨rfl, trivial⟩, ((hS).sel [] rfl).selR [] rfl⟩
 ·skip
  clear hA hS hl1
  rintro a w ⟨x5, heq, hA, hS⟩
  replace hF : impl_loadNum_j1 x5 = some r := by rw [heq] at hF; exact hF
  clear heq
  unfold impl_loadNum_j1 at hF
  refine cw_seq <| cw_ops hA ?_
  clear hA
  refine om rfl rfl <| oa rfl rfl <| ops_nil fun a hA => cw_ret ?_
  cases hF
  exact fy Tryz.results146 hA rfl hS

theorem c_impl_pageOk {w0 : World} {h : Heap} {page : Int} {s1 : Value} {s2 : Value} {r : Bool} (h1 : Rep.rd (All w0) w0 [s1] (h.Bytes : List Int)) (h2 : Rep.rd (All w0) w0 [s2] (h.Class : List Int)) (hF : impl_pageOk h page = some r) :
    Calls Tryz.prog 138 #[.agg #[s1, s2], .int .i64 (page)] w0 (Ret fun v w' => v = .bool (r) ∧ St (cxAll w0) w' [] []) := by
 have hS : St (cxAll w0) w0 [] [fRd [s1] (h.Bytes : List Int), fRd [s2] (h.Class : List Int)] := St.enter (by
   intro f hf
   simp only [List.mem_cons, List.not_mem_nil, or_false] at hf
   rcases hf with rfl | rfl
   · exact h1
   · exact h2)
 refine calls_cw (args := [_, _]) Tryz.func138 rfl Tryz.ntmps138 rfl ?_
 unfold impl_pageOk at hF
 intro a hA
 refine cw_seq <| cw_ops hA ?_
 clear hA
 refine ops_mv (rv_box (cs := [s1, s2]) hS rfl rfl rfl) (want_yes rfl) rfl rfl ?_
 clear hS
 rintro _ w ⟨b1, rfl, hS⟩
 refine oa rfl rfl <| ops_nil fun a hA => cw_seq <| cw_any (Keeps (cxAll w0) [cBox b1 [s1, s2]] [fRd [s1] (h.Bytes : List Int), fRd [s2] (h.Class : List Int)]) mixed_Tryz hA hS ?_
 clear hA hS; intro w hS
 have hK : Keeps (cxAll w0) [cBox b1 [s1, s2]] [fRd [s1] (h.Bytes : List Int), fRd [s2] (h.Class : List Int)] w := ⟨_, (hS.sel [0] rfl).selR [0, 1] rfl⟩
 refine ey 0 rfl (by kernel_rfl) hK (fun _ _ _ => (rv_fld (m := 0) Tryz.underlying38 rfl rfl Tryz.sizeOf22 rfl rfl)) rfl ?_
 refine ey 1 rfl (by kernel_rfl) hK (fun _ _ hS => (rv_load1 rfl rfl Tryz.isAgg22 (hS.cell 0 rfl rfl))) rfl ?_
 refine ey 2 rfl (by kernel_rfl) hK (fun _ _ _ => (rv_move rfl rfl)) rfl ?_
 obtain ⟨x1, hx1, hF⟩ := bindE hF
 refine ey 3 rfl (by kernel_rfl) hK (fun _ _ hS => (rv_idx (m := 1) (hS.rd 1 rfl) rfl hx1 Tryz.underlying22 Tryz.sizeOf3 rfl rfl rfl)) rfl ?_
 refine ey 4 rfl (by kernel_rfl) hK (fun _ _ hS => (rv_load1 rfl rfl Tryz.isAgg3 (cell1 (el_Int (hS.rd 1 rfl) (idx_some hx1).2.2)))) rfl ?_
 refine ey 5 rfl (by kernel_rfl) hK (fun _ _ _ => (rv_fld (m := 0) Tryz.underlying38 rfl rfl Tryz.sizeOf22 rfl rfl)) rfl ?_
 refine ey 6 rfl (by kernel_rfl) hK (fun _ _ hS => (rv_load1 rfl rfl Tryz.isAgg22 (hS.cell 0 rfl rfl))) rfl ?_
 refine ey 7 rfl (by kernel_rfl) hK (fun _ _ _ => (rv_move rfl rfl)) rfl ?_
 refine ey 8 rfl (by kernel_rfl) hK (fun _ _ _ => (rv_mul rfl rfl rfl)) rfl ?_
 refine ey 9 rfl (by kernel_rfl) hK (fun _ _ _ => (rv_move rfl rfl)) rfl ?_
 refine ey 10 rfl (by kernel_rfl) hK (fun _ _ _ => (rv_add rfl rfl rfl)) rfl ?_
 refine ey 11 rfl (by kernel_rfl) hK (fun _ _ _ => (rv_mul rfl rfl rfl)) rfl ?_
 obtain ⟨hn1, hF⟩ := needE hF
 replace hS := hS.subF (n := 1) (a := (w64 (page * 64)).toNat) (b := (w64 ((w64 (page + 1)) * 64)).toNat) 0 rfl rfl (by omega) (by omega)
 refine ey 12 rfl (by kernel_rfl) hK (fun _ _ hS => (rv_sub_lh (n := 1) (hS.rd 0 rfl) rfl Tryz.underlying22 Tryz.sizeOf3 hn1 rfl rfl rfl rfl)) rfl ?_
 refine ey 13 rfl (by kernel_rfl) hK (fun _ _ _ => (rv_assign rfl rfl)) rfl ?_
 refine ey 14 rfl (by kernel_rfl) hK (fun _ _ _ => (rv_assign rfl rfl)) rfl ?_
 refine any_done (by kernel_rfl) ?_
 intro a hA
 refine cw_seq <| cw_seq <| cw_ops hA ?_
 clear hA
 refine om rfl rfl <| oy (rv_lss rfl rfl rfl) rfl <| ops_nil fun a hA => cw_cond hA rfl (fun hc1 => ?_) (fun hc1 => ?_)
 ·replace hF := iteT hc1 hF
  refine cw_seq <| cw_ops hA ?_
  clear hA
  refine om rfl rfl ?_
  obtain ⟨x2, hx2, hF⟩ := bindE hF
  refine ops_c (rc_call Tryz.call158 rfl rfl) (want_yes rfl) rfl rfl (c_impl_isZero (b := (h.Bytes.take ((w64 ((w64 (page + 1)) * 64)).toNat)).drop ((w64 (page * 64)).toNat)) (hS.rd 2 rfl) hx2) ?_
  rintro _ w ⟨rfl, hk⟩
  replace hS := hS.after hk; clear hk
  refine oa rfl rfl <| ops_nil fun a hA => cw_ret ?_
  cases hF
  exact fy Tryz.results138 hA rfl hS
 ·replace hF := iteF hc1 hF
  refine cw_skip <| cw_seq <| cw_seq <| cw_cut (J := fun a' w' => ∃ (x3 : Bool), impl_pageOk_j1 h page x1 x3 = some r ∧ AEnv 65 [(5, .int .i64 (x1)), (6, (subV 1 ((w64 (page * 64)).toNat) ((w64 ((w64 (page + 1)) * 64)).toNat) s1)), (49, .bool (x3))] a' ∧ St (cxAll w0) w' [] [fRd [(subV 1 ((w64 (page * 64)).toNat) ((w64 ((w64 (page + 1)) * 64)).toNat) s1)] ((h.Bytes.take ((w64 ((w64 (page + 1)) * 64)).toNat)).drop ((w64 (page * 64)).toNat) : List Int)]) ?_ ?_
  ·skip
   refine cw_any (Keeps (cxAll w0) [cBox b1 [s1, s2]] [fRd [s1] (h.Bytes : List Int), fRd [s2] (h.Class : List Int), fRd [(subV 1 ((w64 (page * 64)).toNat) ((w64 ((w64 (page + 1)) * 64)).toNat) s1)] ((h.Bytes.take ((w64 ((w64 (page + 1)) * 64)).toNat)).drop ((w64 (page * 64)).toNat) : List Int)]) mixed_Tryz hA hS ?_
   clear hA hS; intro w hS
   have hK : Keeps (cxAll w0) [cBox b1 [s1, s2]] [fRd [s1] (h.Bytes : List Int), fRd [s2] (h.Class : List Int), fRd [(subV 1 ((w64 (page * 64)).toNat) ((w64 ((w64 (page + 1)) * 64)).toNat) s1)] ((h.Bytes.take ((w64 ((w64 (page + 1)) * 64)).toNat)).drop ((w64 (page * 64)).toNat) : List Int)] w := ⟨_, (hS.sel [0] rfl).selR [0, 1, 2] rfl⟩
   refine ey 0 rfl (by kernel_rfl) hK (fun _ _ _ => (rv_move rfl rfl)) rfl ?_
   obtain ⟨x10, hx10, hF⟩ := bindE hF
   refine ey 1 rfl (by kernel_rfl) hK (fun _ _ hS => (rv_idx (m := 1) (hS.rd 2 rfl) rfl hx10 Tryz.underlying22 Tryz.sizeOf3 rfl rfl rfl)) rfl ?_
   refine ey 2 rfl (by kernel_rfl) hK (fun _ _ hS => (rv_load1 rfl rfl Tryz.isAgg3 (cell1 (el_Int (hS.rd 2 rfl) (idx_some hx10).2.2)))) rfl ?_
   refine ey 3 rfl (by kernel_rfl) hK (fun _ _ _ => (rv_neq rfl rfl rfl)) rfl ?_
   refine ey 4 rfl (by kernel_rfl) hK (fun _ _ _ => (rv_move rfl rfl)) rfl ?_
   refine any_case (s := 29) rfl (fun hc5 => ?_) (fun hc5 => ?_)
   ·replace hF := iteT hc5 hF
    refine any_off 5 (by kernel_rfl) rfl (by kernel_rfl) (by kernel_rfl) hK (want_if rfl rfl rfl (by rw [hc5]; rfl)) rfl rfl ?_
    refine any_off 6 (by kernel_rfl) rfl (by kernel_rfl) (by kernel_rfl) hK (want_if rfl rfl rfl (by rw [hc5]; rfl)) rfl rfl ?_
    refine any_off 7 (by kernel_rfl) rfl (by kernel_rfl) (by kernel_rfl) hK (want_if rfl rfl rfl (by rw [hc5]; rfl)) rfl rfl ?_
    refine any_off 8 (by kernel_rfl) rfl (by kernel_rfl) (by kernel_rfl) hK (want_if rfl rfl rfl (by rw [hc5]; rfl)) rfl rfl ?_
    refine any_off 9 (by kernel_rfl) rfl (by kernel_rfl) (by kernel_rfl) hK (want_if rfl rfl rfl (by rw [hc5]; rfl)) rfl rfl ?_
    refine ey 10 rfl (by kernel_rfl) hK (fun _ _ _ => (rv_pick_t rfl rfl hc5 rfl)) rfl ?_
    refine ey 11 rfl (by kernel_rfl) hK (fun _ _ _ => (rv_move rfl rfl)) rfl ?_
    refine any_off 12 (by kernel_rfl) rfl (by kernel_rfl) (by kernel_rfl) hK (want_if rfl rfl rfl rfl) rfl rfl ?_
    refine any_off 13 (by kernel_rfl) rfl (by kernel_rfl) (by kernel_rfl) hK (want_if rfl rfl rfl rfl) rfl rfl ?_
    refine any_off 14 (by kernel_rfl) rfl (by kernel_rfl) (by kernel_rfl) hK (want_if rfl rfl rfl rfl) rfl rfl ?_
    refine any_off 15 (by kernel_rfl) rfl (by kernel_rfl) (by kernel_rfl) hK (want_if rfl rfl rfl rfl) rfl rfl ?_
    refine any_off 16 (by kernel_rfl) rfl (by kernel_rfl) (by kernel_rfl) hK (want_if rfl rfl rfl rfl) rfl rfl ?_
    refine any_off 17 (by kernel_rfl) rfl (by kernel_rfl) (by kernel_rfl) hK (want_if rfl rfl rfl rfl) rfl rfl ?_
    refine ey 18 rfl (by kernel_rfl) hK (fun _ _ _ => (rv_pick_t rfl rfl rfl rfl)) rfl ?_
    refine ey 19 rfl (by kernel_rfl) hK (fun _ _ _ => (rv_move rfl rfl)) rfl ?_
    refine any_off 20 (by kernel_rfl) rfl (by kernel_rfl) (by kernel_rfl) hK (want_if rfl rfl rfl rfl) rfl rfl ?_
    refine any_off 21 (by kernel_rfl) rfl (by kernel_rfl) (by kernel_rfl) hK (want_if rfl rfl rfl rfl) rfl rfl ?_
    refine any_off 22 (by kernel_rfl) rfl (by kernel_rfl) (by kernel_rfl) hK (want_if rfl rfl rfl rfl) rfl rfl ?_
    refine any_off 23 (by kernel_rfl) rfl (by kernel_rfl) (by kernel_rfl) hK (want_if rfl rfl rfl rfl) rfl rfl ?_
    refine ey 24 rfl (by kernel_rfl) hK (fun _ _ _ => (rv_pick_t rfl rfl rfl rfl)) rfl ?_
    refine any_done (by kernel_rfl) ?_
    intro a hA
    exact ⟨true, hF, hA.part ⟨rfl, rfl, rfl, trivial⟩, ((hS).sel [] rfl).selR [2] rfl⟩
   ·replace hF := iteF hc5 hF
    refine any_v 5 (by kernel_rfl) rfl (by kernel_rfl) (by kernel_rfl) hK (fun _ _ => (rv_move rfl rfl)) (want_if rfl rfl rfl (by rw [hc5]; rfl)) rfl rfl ?_
    obtain ⟨x11, hx11, hF⟩ := bindE hF
    refine any_v 6 (by kernel_rfl) rfl (by kernel_rfl) (by kernel_rfl) hK (fun w hk => by obtain ⟨_, hS⟩ := hk; exact (rv_idx (m := 1) (hS.rd 2 rfl) rfl hx11 Tryz.underlying22 Tryz.sizeOf3 rfl rfl rfl)) (want_if rfl rfl rfl (by rw [hc5]; rfl)) rfl rfl ?_
    refine any_v 7 (by kernel_rfl) rfl (by kernel_rfl) (by kernel_rfl) hK (fun w hk => by obtain ⟨_, hS⟩ := hk; exact (rv_load1 rfl rfl Tryz.isAgg3 (cell1 (el_Int (hS.rd 2 rfl) (idx_some hx11).2.2)))) (want_if rfl rfl rfl (by rw [hc5]; rfl)) rfl rfl ?_
    refine any_v 8 (by kernel_rfl) rfl (by kernel_rfl) (by kernel_rfl) hK (fun _ _ => (rv_move rfl rfl)) (want_if rfl rfl rfl (by rw [hc5]; rfl)) rfl rfl ?_
    refine any_v 9 (by kernel_rfl) rfl (by kernel_rfl) (by kernel_rfl) hK (fun _ _ => (rv_neq rfl rfl rfl)) (want_if rfl rfl rfl (by rw [hc5]; rfl)) rfl rfl ?_
    refine ey 10 rfl (by kernel_rfl) hK (fun _ _ _ => (rv_pick_f rfl rfl hc5 rfl)) rfl ?_
    refine ey 11 rfl (by kernel_rfl) hK (fun _ _ _ => (rv_move rfl rfl)) rfl ?_
    refine any_case (s := 36) rfl (fun hc6 => ?_) (fun hc6 => ?_)
    ·replace hF := iteT hc6 hF
     refine any_off 12 (by kernel_rfl) rfl (by kernel_rfl) (by kernel_rfl) hK (want_if rfl rfl rfl (by rw [hc6]; rfl)) rfl rfl ?_
     refine any_off 13 (by kernel_rfl) rfl (by kernel_rfl) (by kernel_rfl) hK (want_if rfl rfl rfl (by rw [hc6]; rfl)) rfl rfl ?_
     refine any_off 14 (by kernel_rfl) rfl (by kernel_rfl) (by kernel_rfl) hK (want_if rfl rfl rfl (by rw [hc6]; rfl)) rfl rfl ?_
     refine any_off 15 (by kernel_rfl) rfl (by kernel_rfl) (by kernel_rfl) hK (want_if rfl rfl rfl (by rw [hc6]; rfl)) rfl rfl ?_
     refine any_off 16 (by kernel_rfl) rfl (by kernel_rfl) (by kernel_rfl) hK (want_if rfl rfl rfl (by rw [hc6]; rfl)) rfl rfl ?_
     refine any_off 17 (by kernel_rfl) rfl (by kernel_rfl) (by kernel_rfl) hK (want_if rfl rfl rfl (by rw [hc6]; rfl)) rfl rfl ?_
     refine ey 18 rfl (by kernel_rfl) hK (fun _ _ _ => (rv_pick_t rfl rfl hc6 rfl)) rfl ?_
     refine ey 19 rfl (by kernel_rfl) hK (fun _ _ _ => (rv_move rfl rfl)) rfl ?_
     refine any_off 20 (by kernel_rfl) rfl (by kernel_rfl) (by kernel_rfl) hK (want_if rfl rfl rfl rfl) rfl rfl ?_
     refine any_off 21 (by kernel_rfl) rfl (by kernel_rfl) (by kernel_rfl) hK (want_if rfl rfl rfl rfl) rfl rfl ?_
     refine any_off 22 (by kernel_rfl) rfl (by kernel_rfl) (by kernel_rfl) hK (want_if rfl rfl rfl rfl) rfl rfl ?_
     refine any_off 23 (by kernel_rfl) rfl (by kernel_rfl) (by kernel_rfl) hK (want_if rfl rfl rfl rfl) rfl rfl ?_
     refine ey 24 rfl (by kernel_rfl) hK (fun _ _ _ => (rv_pick_t rfl rfl rfl rfl)) rfl ?_
     refine any_done (by kernel_rfl) ?_
     intro a hA
     exact ⟨true, hF, hA.part ⟨rfl, rfl, rfl, trivial⟩, ((hS).sel [] rfl).selR [2] rfl⟩
    ·replace hF := iteF hc6 hF
     refine any_v 12 (by kernel_rfl) rfl (by kernel_rfl) (by kernel_rfl) hK (fun _ _ => (rv_move rfl rfl)) (want_if rfl rfl rfl (by rw [hc6]; rfl)) rfl rfl ?_
     obtain ⟨x12, hx12, hF⟩ := bindE hF
     refine any_v 13 (by kernel_rfl) rfl (by kernel_rfl) (by kernel_rfl) hK (fun w hk => by obtain ⟨_, hS⟩ := hk; exact (rv_idx (m := 1) (hS.rd 2 rfl) rfl hx12 Tryz.underlying22 Tryz.sizeOf3 rfl rfl rfl)) (want_if rfl rfl rfl (by rw [hc6]; rfl)) rfl rfl ?_
     refine any_v 14 (by kernel_rfl) rfl (by kernel_rfl) (by kernel_rfl) hK (fun w hk => by obtain ⟨_, hS⟩ := hk; exact (rv_load1 rfl rfl Tryz.isAgg3 (cell1 (el_Int (hS.rd 2 rfl) (idx_some hx12).2.2)))) (want_if rfl rfl rfl (by rw [hc6]; rfl)) rfl rfl ?_
     refine any_v 15 (by kernel_rfl) rfl (by kernel_rfl) (by kernel_rfl) hK (fun _ _ => (rv_move rfl rfl)) (want_if rfl rfl rfl (by rw [hc6]; rfl)) rfl rfl ?_
     refine any_1 (i := 16) (by kernel_rfl) ?_
     obtain ⟨x13, hx13, hF⟩ := bindE hF
     refine as_c rfl (rc_call Tryz.call159 rfl rfl) (want_if rfl rfl rfl (by rw [hc6]; rfl)) rfl rfl (c_impl_PerPage (c := x1)  hx13) ?_
     clear hK; rintro _ w ⟨rfl, hk⟩
     replace hS := hS.after hk; clear hk
     have hK := keepsI ((hS.sel [0] rfl).selR [0, 1, 2] rfl)
     refine ⟨hK, ?_⟩
     refine any_v 17 (by kernel_rfl) rfl (by kernel_rfl) (by kernel_rfl) hK (fun _ _ => (rv_neq rfl rfl rfl)) (want_if rfl rfl rfl (by rw [hc6]; rfl)) rfl rfl ?_
     refine ey 18 rfl (by kernel_rfl) hK (fun _ _ _ => (rv_pick_f rfl rfl hc6 rfl)) rfl ?_
     refine ey 19 rfl (by kernel_rfl) hK (fun _ _ _ => (rv_move rfl rfl)) rfl ?_
     refine any_case (s := 44) rfl (fun hc7 => ?_) (fun hc7 => ?_)
     ·replace hF := iteT hc7 hF
      refine any_off 20 (by kernel_rfl) rfl (by kernel_rfl) (by kernel_rfl) hK (want_if rfl rfl rfl (by rw [hc7]; rfl)) rfl rfl ?_
      refine any_off 21 (by kernel_rfl) rfl (by kernel_rfl) (by kernel_rfl) hK (want_if rfl rfl rfl (by rw [hc7]; rfl)) rfl rfl ?_
      refine any_off 22 (by kernel_rfl) rfl (by kernel_rfl) (by kernel_rfl) hK (want_if rfl rfl rfl (by rw [hc7]; rfl)) rfl rfl ?_
      refine any_off 23 (by kernel_rfl) rfl (by kernel_rfl) (by kernel_rfl) hK (want_if rfl rfl rfl (by rw [hc7]; rfl)) rfl rfl ?_
      refine ey 24 rfl (by kernel_rfl) hK (fun _ _ _ => (rv_pick_t rfl rfl hc7 rfl)) rfl ?_
      refine any_done (by kernel_rfl) ?_
      intro a hA
      exact ⟨true, hF, hA.part ⟨rfl, rfl, rfl, trivial⟩, ((hS).sel [] rfl).selR [2] rfl⟩
     ·replace hF := iteF hc7 hF
      refine any_v 20 (by kernel_rfl) rfl (by kernel_rfl) (by kernel_rfl) hK (fun _ _ => (rv_move rfl rfl)) (want_if rfl rfl rfl (by rw [hc7]; rfl)) rfl rfl ?_
      obtain ⟨hn2, hF⟩ := needE hF
      replace hS := hS.subF (n := 1) (a := (3 : Int).toNat) (b := (8 : Int).toNat) 2 rfl rfl (by omega) (by omega)
      refine any_v 21 (by kernel_rfl) rfl (by kernel_rfl) (by kernel_rfl) hK (fun w hk => by obtain ⟨_, hS⟩ := hk; exact (rv_sub_lh (n := 1) (hS.rd 2 rfl) rfl Tryz.underlying22 Tryz.sizeOf3 hn2 rfl rfl rfl rfl)) (want_if rfl rfl rfl (by rw [hc7]; rfl)) rfl rfl ?_
      refine any_1 (i := 22) (by kernel_rfl) ?_
      obtain ⟨x14, hx14, hF⟩ := bindE hF
      refine as_c rfl (rc_call Tryz.call158 rfl rfl) (want_if rfl rfl rfl (by rw [hc7]; rfl)) rfl rfl (c_impl_isZero (b := (((h.Bytes.take ((w64 ((w64 (page + 1)) * 64)).toNat)).drop ((w64 (page * 64)).toNat)).take ((8 : Int).toNat)).drop ((3 : Int).toNat)) (hS.rd 3 rfl) hx14) ?_
      clear hK; rintro _ w ⟨rfl, hk⟩
      replace hS := hS.after hk; clear hk
      have hK := keepsI ((hS.sel [0] rfl).selR [0, 1, 2] rfl)
      refine ⟨hK, ?_⟩
      refine any_v 23 (by kernel_rfl) rfl (by kernel_rfl) (by kernel_rfl) hK (fun _ _ => (rv_not rfl rfl)) (want_if rfl rfl rfl (by rw [hc7]; rfl)) rfl rfl ?_
      refine ey 24 rfl (by kernel_rfl) hK (fun _ _ _ => (rv_pick_f rfl rfl hc7 rfl)) rfl ?_
      refine any_done (by kernel_rfl) ?_
      intro a hA
      exact ⟨!x14, hF, hA.part ⟨rfl, rfl, rfl, trivial⟩, ((hS).sel [] rfl).selR [2] rfl⟩
  ·skip
   clear hA hS hF
   rintro a w ⟨x3, hF, hA, hS⟩
   unfold impl_pageOk_j1 at hF
   refine cw_cond hA rfl (fun hc2 => ?_) (fun hc2 => ?_)
   ·replace hF := iteT hc2 hF
    refine cw_seq <| cw_ops hA ?_
    clear hA
    refine oa rfl rfl <| ops_nil fun a hA => cw_ret ?_
    cases hF
    exact fy Tryz.results138 hA rfl hS
   ·replace hF := iteF hc2 hF
    refine cw_skip <| cw_seq <| cw_seq <| cw_ops hA ?_
    clear hA
    refine om rfl rfl ?_
    obtain ⟨x4, hx4, hF⟩ := bindE hF
    refine ops_c (rc_call Tryz.call159 rfl rfl) (want_yes rfl) rfl rfl (c_impl_PerPage (c := x1)  hx4) ?_
    rintro _ w ⟨rfl, hk⟩
    replace hS := hS.after hk; clear hk
    refine om rfl rfl <| ops_nil fun a hA => ?_
    obtain ⟨o1, hl1, hF⟩ := bindE hF
    refine cw_cut (J := fun a' w' => o1 = Out.brk (()) ∧ AEnv 65 [] a' ∧ St (cxAll w0) w' [] []) ?_ ?_
    ·refine cw_block ?_
     refine cw_loop (body := impl_pageOk_l2 h page x1 x4) (r := o1) (fun sg a' w' => AEnv 65 [(5, .int .i64 (x1)), (6, (subV 1 ((w64 (page * 64)).toNat) ((w64 ((w64 (page + 1)) * 64)).toNat) s1)), (51, .int .i64 (x4)), (52, .int .i64 (sg))] a' ∧ St (cxAll w0) w' [] [fRd [(subV 1 ((w64 (page * 64)).toNat) ((w64 ((w64 (page + 1)) * 64)).toNat) s1)] ((h.Bytes.take ((w64 ((w64 (page + 1)) * 64)).toNat)).drop ((w64 (page * 64)).toNat) : List Int)]) ?_ hl1 ⟨hA.part ⟨rfl, rfl, rfl, rfl, trivial⟩, ((hS).sel [] rfl).selR [0] rfl⟩
     clear hA hS hl1
     rintro x6 a w q2 ⟨hA, hS⟩ hG2 hr2
     try dsimp only at hA hS
     unfold impl_pageOk_l2 at hG2
     refine cw_seq <| cw_ops hA ?_
     clear hA
     refine oy (rv_lss rfl rfl rfl) rfl <| ops_nil fun a hA => cw_seq <| cw_cond hA rfl (fun hc3 => ?_) (fun hc3 => ?_)
     ·replace hG2 := iteT hc3 hG2
      refine cw_skip <| cw_seq <| cw_block <| cw_seq <| cw_ops hA ?_
      clear hA
      refine om rfl rfl <| oa rfl rfl <| ops_nil fun a hA => cw_seq <| cw_ops hA ?_
      clear hA
      refine om rfl rfl <| om rfl rfl <| om rfl rfl ?_
      obtain ⟨x7, hx7, hG2⟩ := bindE hG2
      refine ops_c (rc_call Tryz.call160 rfl rfl) (want_yes rfl) rfl rfl (c_impl_StrideOf (c := x1)  hx7) ?_
      rintro _ w ⟨rfl, hk⟩
      replace hS := hS.after hk; clear hk
      refine oy (rv_mul rfl rfl rfl) rfl <| oy (rv_add rfl rfl rfl) rfl ?_
      obtain ⟨x8, hx8, hG2⟩ := bindE hG2
      refine ops_c (rc_call Tryz.call146 rfl rfl) (want_yes rfl) rfl rfl (c_impl_loadNum (b := (h.Bytes.take ((w64 ((w64 (page + 1)) * 64)).toNat)).drop ((w64 (page * 64)).toNat)) (at_ := w64 (8 + (w64 (x6 * x7)))) (width := 4) (hS.rd 0 rfl) hx8) ?_
      rintro _ w ⟨rfl, hk⟩
      replace hS := hS.after hk; clear hk
      obtain ⟨x9, hx9, hG2⟩ := bindE hG2
      refine ops_c (rc_call Tryz.call75 rfl rfl) (want_yes rfl) rfl rfl (c_impl_within (n := x8) (low := 1) (high := 7)  hx9) ?_
      rintro _ w ⟨rfl, hk⟩
      replace hS := hS.after hk; clear hk
      refine oy (rv_not rfl rfl) rfl <| ops_nil fun a hA => cw_cond hA rfl (fun hc4 => ?_) (fun hc4 => ?_)
      ·replace hG2 := iteT hc4 hG2
       refine cw_seq <| cw_ops hA ?_
       clear hA
       refine oa rfl rfl <| ops_nil fun a hA => cw_ret ?_
       cases hG2
       have ho := hr2 _ rfl; subst ho
       replace hF : some false = some r := hF
       cases hF
       exact fy Tryz.results138 hA rfl hS
      ·replace hG2 := iteF hc4 hG2
       refine cw_skip <| cw_ops hA ?_
       clear hA
       refine oy (rv_add rfl rfl rfl) rfl <| om rfl rfl <| ops_nil fun a hA => ?_
       cases hG2
       exact ⟨_, rfl, ⟨hA.part ⟨rfl, rfl, rfl, rfl, trivial⟩, ((hS).sel [] rfl).selR [0] rfl⟩⟩
     ·replace hG2 := iteF hc3 hG2
      refine cw_exit <| xcons_hit ?_
      cases hG2
      have ho := hr2 _ rfl; subst ho
      exact ⟨rfl, hA.part trivial, ((hS).sel [] rfl).selR [] rfl⟩
    ·skip
     clear hA hS hl1
     rintro a w ⟨heq, hA, hS⟩
     replace hF : impl_pageOk_j2 = some r := by rw [heq] at hF; exact hF
     clear heq
     unfold impl_pageOk_j2 at hF
     refine cw_seq <| cw_ops hA ?_
     clear hA
     refine oa rfl rfl <| ops_nil fun a hA => cw_ret ?_
     cases hF
     exact fy Tryz.results138 hA rfl hS

theorem c_impl_HeapOk {w0 : World} {h : Heap} {s1 : Value} {s2 : Value} {r : Bool} (h1 : Rep.rd (All w0) w0 [s1] (h.Bytes : List Int)) (h2 : Rep.rd (All w0) w0 [s2] (h.Class : List Int)) (hF : impl_HeapOk h = some r) :
    Calls Tryz.prog 108 #[.agg #[s1, s2]] w0 (Ret fun v w' => v = .bool (r) ∧ St (cxAll w0) w' [] []) := by
 have hS : St (cxAll w0) w0 [] [fRd [s1] (h.Bytes : List Int), fRd [s2] (h.Class : List Int)] := St.enter (by
   intro f hf
   simp only [List.mem_cons, List.not_mem_nil, or_false] at hf
   rcases hf with rfl | rfl
   · exact h1
   · exact h2)
 refine calls_cw (args := [_]) Tryz.func108 rfl Tryz.ntmps108 rfl ?_
 unfold impl_HeapOk at hF
 intro a hA
 refine cw_seq <| cw_ops hA ?_
 clear hA
 refine ops_mv (rv_box (cs := [s1, s2]) hS rfl rfl rfl) (want_yes rfl) rfl rfl ?_
 clear hS
 rintro _ w ⟨b1, rfl, hS⟩
 refine oa rfl rfl <| ops_nil fun a hA => cw_seq <| cw_seq <| cw_ops hA ?_
 clear hA
 refine oy (rv_loadN rfl rfl Tryz.isAgg38 Tryz.sizeOf38 rfl (hS.cells 0 0 (cs' := [s1, s2]) rfl rfl)) rfl ?_
 obtain ⟨x1, hx1, hF⟩ := bindE hF
 refine ops_c (rc_call Tryz.call137 rfl rfl) (want_yes rfl) rfl rfl (c_impl_shaped (h := h) (hS.rd 0 rfl) (hS.rd 1 rfl) hx1) ?_
 rintro _ w ⟨rfl, hk⟩
 replace hS := hS.after hk; clear hk
 refine oy (rv_not rfl rfl) rfl <| ops_nil fun a hA => cw_cond hA rfl (fun hc1 => ?_) (fun hc1 => ?_)
 ·replace hF := iteT hc1 hF
  refine cw_seq <| cw_ops hA ?_
  clear hA
  refine oa rfl rfl <| ops_nil fun a hA => cw_ret ?_
  cases hF
  exact fy Tryz.results108 hA rfl hS
 ·replace hF := iteF hc1 hF
  refine cw_skip <| cw_seq <| cw_seq <| cw_ops hA ?_
  clear hA
  refine om rfl rfl <| ops_nil fun a hA => ?_
  obtain ⟨o1, hl1, hF⟩ := bindE hF
  refine cw_cut (J := fun a' w' => o1 = Out.brk (()) ∧ AEnv 15 [] a' ∧ St (cxAll w0) w' [] []) ?_ ?_
  ·refine cw_block ?_
   refine cw_loop (body := impl_HeapOk_l1 h) (r := o1) (fun sg a' w' => AEnv 15 [(1, .pointer (some ⟨b1, 0, none⟩)), (7, .int .i64 (sg))] a' ∧ St (cxAll w0) w' [cBox b1 [s1, s2]] [fRd [s1] (h.Bytes : List Int), fRd [s2] (h.Class : List Int)]) ?_ hl1 ⟨hA.part ⟨rfl, rfl, trivial⟩, ((hS).sel [0] rfl).selR [0, 1] rfl⟩
   clear hA hS hl1
   rintro x3 a w q1 ⟨hA, hS⟩ hG1 hr1
   try dsimp only at hA hS
   unfold impl_HeapOk_l1 at hG1
   refine cw_seq <| cw_ops hA ?_
   clear hA
   refine oy (rv_lss rfl rfl rfl) rfl <| ops_nil fun a hA => cw_seq <| cw_cond hA rfl (fun hc2 => ?_) (fun hc2 => ?_)
   ·replace hG1 := iteT hc2 hG1
    refine cw_skip <| cw_seq <| cw_block <| cw_seq <| cw_ops hA ?_
    clear hA
    refine om rfl rfl <| oa rfl rfl <| ops_nil fun a hA => cw_seq <| cw_ops hA ?_
    clear hA
    refine oy (rv_loadN rfl rfl Tryz.isAgg38 Tryz.sizeOf38 rfl (hS.cells 0 0 (cs' := [s1, s2]) rfl rfl)) rfl <| om rfl rfl ?_
    obtain ⟨x4, hx4, hG1⟩ := bindE hG1
    refine ops_c (rc_call Tryz.call138 rfl rfl) (want_yes rfl) rfl rfl (c_impl_pageOk (h := h) (page := x3) (hS.rd 0 rfl) (hS.rd 1 rfl) hx4) ?_
    rintro _ w ⟨rfl, hk⟩
    replace hS := hS.after hk; clear hk
    refine oy (rv_not rfl rfl) rfl <| ops_nil fun a hA => cw_cond hA rfl (fun hc3 => ?_) (fun hc3 => ?_)
    ·replace hG1 := iteT hc3 hG1
     refine cw_seq <| cw_ops hA ?_
     clear hA
     refine oa rfl rfl <| ops_nil fun a hA => cw_ret ?_
     cases hG1
     have ho := hr1 _ rfl; subst ho
     replace hF : some false = some r := hF
     cases hF
     exact fy Tryz.results108 hA rfl hS
    ·replace hG1 := iteF hc3 hG1
     refine cw_skip <| cw_ops hA ?_
     clear hA
     refine oy (rv_add rfl rfl rfl) rfl <| om rfl rfl <| ops_nil fun a hA => ?_
     cases hG1
     exact ⟨_, rfl, ⟨hA.part ⟨rfl, rfl, trivial⟩, ((hS).sel [0] rfl).selR [0, 1] rfl⟩⟩
   ·replace hG1 := iteF hc2 hG1
    refine cw_exit <| xcons_hit ?_
    cases hG1
    have ho := hr1 _ rfl; subst ho
    exact ⟨rfl, hA.part trivial, ((hS).sel [] rfl).selR [] rfl⟩
  ·skip
   clear hA hS hl1
   rintro a w ⟨heq, hA, hS⟩
   replace hF : impl_HeapOk_j1 = some r := by rw [heq] at hF; exact hF
   clear heq
   unfold impl_HeapOk_j1 at hF
   refine cw_seq <| cw_ops hA ?_
   clear hA
   refine oa rfl rfl <| ops_nil fun a hA => cw_ret ?_
   cases hF
   exact fy Tryz.results108 hA rfl hS

set_option maxRecDepth 100000 in
theorem c_slices_Grow_SList_nil {w0 : World} {n : Int} (hn : 0 ≤ n ∧ n ≤ 1073741824) :
    Calls Tryz.prog 161 #[.slice none 0 0, .int .i64 n] w0 (Ret fun v w' => ∃ s0_0 : Value, v = s0_0 ∧ St (cxAll w0) w' [cOwn [s0_0] ([] : List Raw)] []) := by
  have hS : St (cxAll w0) w0 [] [] := St.enter (by intro f hf; cases hf)
  have hw : w64 (n - w64 (0 - 0)) = n := by
    rw [w64_id (x := 0 - 0) (by omega), w64_id (by omega)]; omega
  refine calls_cw (args := [_, _]) Tryz.func161 rfl Tryz.ntmps161 rfl ?_
  intro a hA
  refine cw_seq ?_
  refine cw_ops hA ?_
  clear hA
  refine ops_v (rv_assign rfl rfl) (want_yes rfl) rfl rfl ?_
  refine ops_nil ?_
  intro a hA
  refine cw_seq ?_
  refine cw_seq ?_
  refine cw_ops hA ?_
  clear hA
  refine ops_v (rv_move rfl rfl) (want_yes rfl) rfl rfl ?_
  refine ops_v (rv_lss rfl rfl rfl) (want_yes rfl) rfl rfl ?_
  refine ops_nil ?_
  intro a hA
  refine cw_cond hA rfl (fun hc => ?_) (fun hc => ?_)
  · exfalso; simp at hc; omega
  refine cw_skip ?_
  refine cw_seq ?_
  refine cw_seq ?_
  refine cw_ops hA ?_
  clear hA
  refine ops_v (rv_move rfl rfl) (want_yes rfl) rfl rfl ?_
  refine ops_v (rv_move rfl rfl) (want_yes rfl) rfl rfl ?_
  refine ops_v (rv_capnil Tryz.underlying39 rfl rfl) (want_yes rfl) rfl rfl ?_
  refine ops_v (rv_move rfl rfl) (want_yes rfl) rfl rfl ?_
  refine ops_v (rv_lenS (rd_nil (α := Raw) (S := F0)) Tryz.underlying39 rfl rfl) (want_yes rfl) rfl rfl ?_
  refine ops_v (rv_sub rfl rfl rfl) (want_yes rfl) rfl rfl ?_
  refine ops_v (rv_sub rfl rfl rfl) (want_yes rfl) rfl rfl ?_
  refine ops_v (rv_assign rfl rfl) (want_yes rfl) rfl rfl ?_
  refine ops_nil ?_
  intro a hA
  refine cw_seq ?_
  refine cw_ops hA ?_
  clear hA
  refine ops_v (rv_move rfl rfl) (want_yes rfl) rfl rfl ?_
  refine ops_v (rv_gtr rfl rfl rfl) (want_yes rfl) rfl rfl ?_
  refine ops_nil ?_
  intro a hA
  refine cw_cond hA rfl (fun hc => ?_) (fun hc => ?_)
  · have hn1 : 0 < n := by
      have h2 : decide (0 < w64 (n - w64 (0 - 0))) = true := hc
      rw [hw] at h2; simpa using h2
    refine cw_ops hA ?_
    clear hA
    refine ops_v (rv_move rfl rfl) (want_yes rfl) rfl rfl ?_
    refine ops_v (rv_move rfl rfl) (want_yes rfl) rfl rfl ?_
    refine ops_v (rv_capnil Tryz.underlying39 rfl rfl) (want_yes rfl) rfl rfl ?_
    refine ops_v (rv_sub0 (s := .slice none 0 0) ⟨_, _, _, rfl⟩ Tryz.underlying39 Tryz.sizeOf120 rfl rfl rfl) (want_yes rfl) rfl rfl ?_
    refine ops_v (rv_move rfl rfl) (want_yes rfl) rfl rfl ?_
    refine ops_mv (rv_appZ (i := w64 (n - w64 (0 - 0))) hS Tryz.underlying39 Tryz.underlying3 inf_Tryz120 rfl rfl (by rw [hw]; omega) rfl rfl rfl) (want_yes rfl) rfl rfl ?_
    clear hS
    intro s w hS
    refine ops_v (rv_move rfl rfl) (want_yes rfl) rfl rfl ?_
    refine ops_v (rv_lenS (rd_nil (α := Raw) (S := F0)) Tryz.underlying39 rfl rfl) (want_yes rfl) rfl rfl ?_
    refine ops_v (rv_sub0 (hS.rowShape 0 rfl) Tryz.underlying39 Tryz.sizeOf120 rfl rfl rfl) (want_yes rfl) rfl rfl ?_
    refine ops_v (rv_assign rfl rfl) (want_yes rfl) rfl rfl ?_
    refine ops_nil ?_
    intro a hA
    replace hS := hS.rowNil (α := Raw) 0 rfl rfl
    refine cw_seq ?_
    refine cw_ops hA ?_
    clear hA
    refine ops_v (rv_move rfl rfl) (want_yes rfl) rfl rfl ?_
    refine ops_v (rv_assign rfl rfl) (want_yes rfl) rfl rfl ?_
    refine ops_nil ?_
    intro a hA
    refine cw_ret ?_
    exact fin1 Tryz.results161 hA (res_tmp rfl) ⟨_, rfl, (hS.sel [0] rfl).weaken (R' := []) (fun _ h => nomatch h)⟩
  · refine cw_skip ?_
    replace hS := hS.nilOwn (α := Raw)
    refine cw_seq ?_
    refine cw_ops hA ?_
    clear hA
    refine ops_v (rv_move rfl rfl) (want_yes rfl) rfl rfl ?_
    refine ops_v (rv_assign rfl rfl) (want_yes rfl) rfl rfl ?_
    refine ops_nil ?_
    intro a hA
    refine cw_ret ?_
    exact fin1 Tryz.results161 hA (res_tmp rfl) ⟨_, rfl, (hS.sel [0] rfl).weaken (R' := []) (fun _ h => nomatch h)⟩

theorem c_slices_Concat_SList {w0 : World} {slices : List (List Raw)} {s1 : Value} {r : (List Raw)} (h1 : Rep.rd (All w0) w0 [s1] (slices : List (List Raw))) (hF : slices_Concat_SList slices = some r) :
    Calls Tryz.prog 139 #[s1] w0 (Ret fun v w' => ∃ (s0_0 : Value), v = s0_0 ∧ St (cxAll w0) w' [cOwn [s0_0] (r : List Raw)] []) := by
 have hS : St (cxAll w0) w0 [] [fRd [s1] (slices : List (List Raw))] := St.enter (by
   intro f hf
   simp only [List.mem_cons, List.not_mem_nil, or_false] at hf
   subst hf; exact h1)
 refine calls_cw (args := [_]) Tryz.func139 rfl Tryz.ntmps139 rfl ?_
 unfold slices_Concat_SList at hF
 intro a hA
 refine cw_seq <| cw_ops hA ?_
 clear hA
 refine oa rfl rfl <| ops_nil fun a hA => cw_seq <| cw_ops hA ?_
 clear hA
 refine oa rfl rfl <| ops_nil fun a hA => cw_seq <| cw_seq <| cw_ops hA ?_
 clear hA
 refine om rfl rfl <| oy (rv_lenS (hS.rd 0 rfl) Tryz.underlying175 rfl rfl) rfl <| om rfl rfl <| ops_nil fun a hA => ?_
 obtain ⟨o1, hl1, hF⟩ := bindE hF
 refine cw_cut (J := fun a' w' => ∃ (x5 : Int), o1 = x5 ∧ AEnv 36 [(0, s1), (3, .int .i64 (x5))] a' ∧ St (cxAll w0) w' [] [fRd [s1] (slices : List (List Raw))]) ?_ ?_
 ·refine cw_block ?_
  refine cw_loop (body := slices_Concat_SList_l1 slices) (r := o1) (fun sg a' w' => AEnv 36 [(0, s1), (3, .int .i64 (sg.1)), (9, s1), (10, .int .i64 ((slices.length : Int))), (11, .int .i64 (sg.2))] a' ∧ St (cxAll w0) w' [] [fRd [s1] (slices : List (List Raw))]) ?_ hl1 ⟨hA.part ⟨rfl, rfl, rfl, rfl, rfl, trivial⟩, ((hS).sel [] rfl).selR [0] rfl⟩
  clear hA hS hl1
  rintro ⟨x3, x4⟩ a w q1 ⟨hA, hS⟩ hG1 hr1
  try dsimp only at hA hS
  unfold slices_Concat_SList_l1 at hG1
  refine cw_seq <| cw_ops hA ?_
  clear hA
  refine oy (rv_lss rfl rfl rfl) rfl <| ops_nil fun a hA => cw_seq <| cw_cond hA rfl (fun hc2 => ?_) (fun hc2 => ?_)
  ·replace hG1 := iteT hc2 hG1
   refine cw_skip <| cw_seq <| cw_block <| cw_seq <| cw_ops hA ?_
   clear hA
   obtain ⟨x12, hx12, hG1⟩ := bindE hG1
   refine oy (rv_idx (m := 1) (hS.rd 0 rfl) rfl hx12 Tryz.underlying175 Tryz.sizeOf39 rfl rfl rfl) rfl ?_
   obtain ⟨s8, hel, hS⟩ := hS.el_Slice 0 rfl (idx_some hx12).2.2
   refine oy (rv_load1 rfl rfl Tryz.isAgg39 (cell1 hel)) rfl <| oa rfl rfl <| ops_nil fun a hA => cw_seq <| cw_ops hA ?_
   clear hA
   refine om rfl rfl <| om rfl rfl <| oy (rv_lenS (hS.rd 1 rfl) Tryz.underlying39 rfl rfl) rfl <| oy (rv_add rfl rfl rfl) rfl <| oa rfl rfl <| ops_nil fun a hA => cw_seq <| cw_ops hA ?_
   clear hA
   refine om rfl rfl <| oy (rv_lss rfl rfl rfl) rfl <| ops_nil fun a hA => cw_cond hA rfl (fun hc3 => ?_) (fun hc3 => ?_)
   ·replace hG1 := iteT hc3 hG1
    refine cw_ops hA ?_
    clear hA
    cases hG1
   ·replace hG1 := iteF hc3 hG1
    refine cw_skip <| cw_ops hA ?_
    clear hA
    refine oy (rv_add rfl rfl rfl) rfl <| om rfl rfl <| ops_nil fun a hA => ?_
    cases hG1
    exact ⟨_, rfl, ⟨hA.part ⟨rfl, rfl, rfl, rfl, rfl, trivial⟩, ((hS).sel [] rfl).selR [0] rfl⟩⟩
  ·replace hG1 := iteF hc2 hG1
   refine cw_exit <| xcons_hit ?_
   cases hG1
   have ho := hr1 _ rfl; subst ho
   exact ⟨x3, rfl, hA.part ⟨rfl, rfl, trivial⟩, ((hS).sel [] rfl).selR [0] rfl⟩
 ·skip
  clear hA hS hl1
  rintro a w ⟨x5, heq, hA, hS⟩
  replace hF : slices_Concat_SList_j1 slices x5 = some r := by rw [heq] at hF; exact hF
  clear heq
  unfold slices_Concat_SList_j1 at hF
  refine cw_seq <| cw_ops hA ?_
  clear hA
  refine om rfl rfl ?_
  obtain ⟨hn1, hF⟩ := needE hF
  refine ops_c (rc_call Tryz.call161 rfl rfl) (want_yes rfl) rfl rfl (c_slices_Grow_SList_nil hn1) ?_
  rintro s2 w ⟨_, rfl, hk⟩
  replace hS := hS.after hk; clear hk
  refine oa rfl rfl <| ops_nil fun a hA => cw_seq <| cw_seq <| cw_ops hA ?_
  clear hA
  refine om rfl rfl <| oy (rv_lenS (hS.rd 0 rfl) Tryz.underlying175 rfl rfl) rfl <| om rfl rfl <| ops_nil fun a hA => ?_
  obtain ⟨o2, hl2, hF⟩ := bindE hF
  refine cw_cut (J := fun a' w' => ∃ (x10 : List Raw) (s5 : Value), o2 = x10 ∧ AEnv 36 [(6, s5)] a' ∧ St (cxAll w0) w' [cOwn [s5] (x10 : List Raw)] []) ?_ ?_
  ·refine cw_block ?_
   refine cw_loop (body := slices_Concat_SList_l2 slices) (r := o2) (fun sg a' w' => ∃ (s4 : Value), AEnv 36 [(6, s4), (25, s1), (26, .int .i64 ((slices.length : Int))), (27, .int .i64 (sg.2))] a' ∧ St (cxAll w0) w' [cOwn [s4] (sg.1 : List Raw)] [fRd [s1] (slices : List (List Raw))]) ?_ hl2 ⟨s2, hA.part ⟨rfl, rfl, rfl, rfl, trivial⟩, ((hS).sel [0] rfl).selR [0] rfl⟩
   clear hA hS hl2
   rintro ⟨x8, x9⟩ a w q2 ⟨s4, hA, hS⟩ hG2 hr2
   try dsimp only at hA hS
   unfold slices_Concat_SList_l2 at hG2
   refine cw_seq <| cw_ops hA ?_
   clear hA
   refine oy (rv_lss rfl rfl rfl) rfl <| ops_nil fun a hA => cw_seq <| cw_cond hA rfl (fun hc1 => ?_) (fun hc1 => ?_)
   ·replace hG2 := iteT hc1 hG2
    refine cw_skip <| cw_seq <| cw_block <| cw_seq <| cw_ops hA ?_
    clear hA
    obtain ⟨x11, hx11, hG2⟩ := bindE hG2
    refine oy (rv_idx (m := 1) (hS.rd 0 rfl) rfl hx11 Tryz.underlying175 Tryz.sizeOf39 rfl rfl rfl) rfl ?_
    obtain ⟨s6, hel, hS⟩ := hS.el_Slice 0 rfl (idx_some hx11).2.2
    refine oy (rv_load1 rfl rfl Tryz.isAgg39 (cell1 hel)) rfl <| oa rfl rfl <| ops_nil fun a hA => cw_ops hA ?_
    clear hA
    refine om rfl rfl <| om rfl rfl ?_
    obtain ⟨hn2, hG2⟩ := needE hG2
    refine ops_mv (rv_append (α := Raw) 0 hS rfl (hS.rd 1 rfl) rfl Tryz.underlying39 inf_Tryz120 rfl hn2 rfl rfl rfl) (want_yes rfl) rfl rfl ?_
    clear hS
    rintro s7 w hS
    refine oa rfl rfl <| ops_nil fun a hA => cw_ops hA ?_
    clear hA
    refine oy (rv_add rfl rfl rfl) rfl <| om rfl rfl <| ops_nil fun a hA => ?_
    cases hG2
    exact ⟨_, rfl, ⟨s7, hA.part ⟨rfl, rfl, rfl, rfl, trivial⟩, ((hS).sel [0] rfl).selR [0] rfl⟩⟩
   ·replace hG2 := iteF hc1 hG2
    refine cw_exit <| xcons_hit ?_
    cases hG2
    have ho := hr2 _ rfl; subst ho
    exact ⟨x8, s4, rfl, hA.part ⟨rfl, trivial⟩, ((hS).sel [0] rfl).selR [] rfl⟩
  ·skip
   clear hA hS hl2
   rintro a w ⟨x10, s5, heq, hA, hS⟩
   replace hF : slices_Concat_SList_j2 x10 = some r := by rw [heq] at hF; exact hF
   clear heq
   unfold slices_Concat_SList_j2 at hF
   refine cw_seq <| cw_ops hA ?_
   clear hA
   refine om rfl rfl <| oa rfl rfl <| ops_nil fun a hA => cw_ret ?_
   cases hF
   exact fin1 Tryz.results139 hA (res_tmp rfl) ⟨s5, rfl, (hS.sel [0] rfl).weaken (R' := []) (fun _ h => nomatch h)⟩

theorem c_impl_isSlot {w0 : World} {slot : Int}  {r : Bool}  (hF : impl_isSlot slot = some r) :
    Calls Tryz.prog 140 #[.int .i64 (slot)] w0 (Ret fun v w' => v = .bool (r) ∧ St (cxAll w0) w' [] []) := by
 have hS : St (cxAll w0) w0 [] [] := St.enter (by
   intro f hf; cases hf)
 refine calls_cw (args := [_]) Tryz.func140 rfl Tryz.ntmps140 rfl ?_
 unfold impl_isSlot at hF
 intro a hA
 refine cw_seq <| cw_ops hA ?_
 clear hA
 refine oa rfl rfl <| ops_nil fun a hA => cw_seq <| cw_ops hA ?_
 clear hA
 refine om rfl rfl ?_
 obtain ⟨x1, hx1, hF⟩ := bindE hF
 refine ops_c (rc_call Tryz.call75 rfl rfl) (want_yes rfl) rfl rfl (c_impl_within (n := slot) (low := 0) (high := 23)  hx1) ?_
 rintro _ w ⟨rfl, hk⟩
 replace hS := hS.after hk; clear hk
 refine oa rfl rfl <| ops_nil fun a hA => cw_ret ?_
 cases hF
 exact fy Tryz.results140 hA rfl hS

theorem c_impl_ListsOk {w0 : World} {l : Lists} {s1 : Value} {s2 : Value} {r : Bool} (h1 : Rep.rd (All w0) w0 [s1] (l.Global : List SList)) (h2 : Rep.rd (All w0) w0 [s2] (l.Own : List SList)) (hF : impl_ListsOk l = some r) :
    Calls Tryz.prog 109 #[.agg #[s1, s2]] w0 (Ret fun v w' => v = .bool (r) ∧ St (cxAll w0) w' [] []) := by
 have hS : St (cxAll w0) w0 [] [fRd [s1] (l.Global : List SList), fRd [s2] (l.Own : List SList)] := St.enter (by
   intro f hf
   simp only [List.mem_cons, List.not_mem_nil, or_false] at hf
   rcases hf with rfl | rfl
   · exact h1
   · exact h2)
 refine calls_cw (args := [_]) Tryz.func109 rfl Tryz.ntmps109 rfl ?_
 unfold impl_ListsOk at hF
 intro a hA
 refine cw_seq <| cw_ops hA ?_
 clear hA
 refine ops_mv (rv_box (cs := [s1, s2]) hS rfl rfl rfl) (want_yes rfl) rfl rfl ?_
 clear hS
 rintro _ w ⟨b1, rfl, hS⟩
 refine oa rfl rfl <| ops_nil fun a hA => cw_seq <| cw_seq <| cw_cut (J := fun a' w' => ∃ (x1 : Bool), impl_ListsOk_j1 l x1 = some r ∧ AEnv 61 [(1, .pointer (some ⟨b1, 0, none⟩)), (17, .bool (x1))] a' ∧ St (cxAll w0) w' [cBox b1 [s1, s2]] [fRd [s1] (l.Global : List SList), fRd [s2] (l.Own : List SList)]) ?_ ?_
 ·skip
  refine cw_ops hA ?_
  clear hA
  refine oy (rv_fld (m := 0) Tryz.underlying41 rfl rfl Tryz.sizeOf39 rfl rfl) rfl <| oy (rv_load1 rfl rfl Tryz.isAgg39 (hS.cell 0 rfl rfl)) rfl <| oy (rv_lenS (hS.rd 0 rfl) Tryz.underlying39 rfl rfl) rfl <| oy (rv_neq rfl rfl rfl) rfl <| om rfl rfl <| ops_case (s := 12) rfl (fun hc8 => ?_) (fun hc8 => ?_)
  ·replace hF := iteT hc8 hF
   refine ops_off (want_if rfl rfl rfl (by rw [hc8]; rfl)) rfl rfl <| ops_off (want_if rfl rfl rfl (by rw [hc8]; rfl)) rfl rfl <| ops_off (want_if rfl rfl rfl (by rw [hc8]; rfl)) rfl rfl <| ops_off (want_if rfl rfl rfl (by rw [hc8]; rfl)) rfl rfl <| oy (rv_pick_t rfl rfl hc8 rfl) rfl <| ops_nil fun a hA => ?_
   exact ⟨true, hF, hA.part ⟨rfl, rfl, trivial⟩, ((hS).sel [0] rfl).selR [0, 1] rfl⟩
  ·replace hF := iteF hc8 hF
   refine ops_v (rv_fld (m := 0) Tryz.underlying41 rfl rfl Tryz.sizeOf39 rfl rfl) (want_if rfl rfl rfl (by rw [hc8]; rfl)) rfl rfl <| ops_v (rv_load1 rfl rfl Tryz.isAgg39 (hS.cell 0 rfl rfl)) (want_if rfl rfl rfl (by rw [hc8]; rfl)) rfl rfl <| ops_v (rv_lenS (hS.rd 1 rfl) Tryz.underlying39 rfl rfl) (want_if rfl rfl rfl (by rw [hc8]; rfl)) rfl rfl <| ops_v (rv_neq rfl rfl rfl) (want_if rfl rfl rfl (by rw [hc8]; rfl)) rfl rfl <| oy (rv_pick_f rfl rfl hc8 rfl) rfl <| ops_nil fun a hA => ?_
   exact ⟨((l.Own.length : Int)) != 9, hF, hA.part ⟨rfl, rfl, trivial⟩, ((hS).sel [0] rfl).selR [0, 1] rfl⟩
 ·skip
  clear hA hS hF
  rintro a w ⟨x1, hF, hA, hS⟩
  unfold impl_ListsOk_j1 at hF
  refine cw_cond hA rfl (fun hc1 => ?_) (fun hc1 => ?_)
  ·replace hF := iteT hc1 hF
   refine cw_seq <| cw_ops hA ?_
   clear hA
   refine oa rfl rfl <| ops_nil fun a hA => cw_ret ?_
   cases hF
   exact fy Tryz.results109 hA rfl hS
  ·replace hF := iteF hc1 hF
   refine cw_skip <| cw_seq <| cw_ops hA ?_
   clear hA
   refine oy (rv_buildA (cells := #[.bool (false), .bool (false), .bool (false), .bool (false), .bool (false), .bool (false), .bool (false), .bool (false), .bool (false), .bool (false), .bool (false), .bool (false), .bool (false), .bool (false), .bool (false), .bool (false), .bool (false), .bool (false), .bool (false), .bool (false), .bool (false), .bool (false), .bool (false), .bool (false)]) rfl Tryz.zeroValue152 Tryz.underlying152 Tryz.sizeOf4 rfl rfl) rfl <| ops_mv (rv_alloc (cs := List.map (fun q : Bool => Value.bool q) [false, false, false, false, false, false, false, false, false, false, false, false, false, false, false, false, false, false, false, false, false, false, false, false]) hS rfl Tryz.zeroValue152 rfl) (want_yes rfl) rfl rfl ?_
   clear hS
   rintro _ w ⟨b2, rfl, hS⟩
   refine ops_ms (rs_box (vs := [.bool (false), .bool (false), .bool (false), .bool (false), .bool (false), .bool (false), .bool (false), .bool (false), .bool (false), .bool (false), .bool (false), .bool (false), .bool (false), .bool (false), .bool (false), .bool (false), .bool (false), .bool (false), .bool (false), .bool (false), .bool (false), .bool (false), .bool (false), .bool (false)]) hS (i := 1) rfl rfl rfl rfl rfl Tryz.sizeOf152 rfl rfl rfl) (want_yes rfl) rfl ?_
   clear hS
   intro w hS
   refine ops_nil fun a hA => cw_seq <| cw_seq <| cw_ops hA ?_
   clear hA
   refine oy (rv_fld (m := 0) Tryz.underlying41 rfl rfl Tryz.sizeOf39 rfl rfl) rfl <| oy (rv_load1 rfl rfl Tryz.isAgg39 (hS.cell 0 rfl rfl)) rfl <| oy (rv_fld (m := 0) Tryz.underlying41 rfl rfl Tryz.sizeOf39 rfl rfl) rfl <| oy (rv_load1 rfl rfl Tryz.isAgg39 (hS.cell 0 rfl rfl)) rfl <| ops_mv (rv_litRaw2 hS (hS.rd 1 rfl) (hS.rd 0 rfl) Tryz.underlying175 inf_Tryz39 rfl rfl rfl) (want_yes rfl) rfl rfl ?_
   clear hS
   rintro s3 w hS
   obtain ⟨hn1, hF⟩ := needE hF
   replace hS := hS.leak 2 rfl
   obtain ⟨u1, u2, hu1, hl1, hS⟩ := hS.concat2 rfl 2 1 0 rfl rfl rfl
   refine ops_c (rc_call Tryz.call139 rfl rfl) (want_yes rfl) rfl rfl (c_slices_Concat_SList hu1 (slices_Concat_SList_two hl1 hn1)) ?_
   rintro s4 w ⟨_, rfl, hk⟩
   replace hS := hS.after hk; clear hk
   replace hS := hS.leak 3 rfl
   replace hS := hS.unraw rfl 4 3 rfl rfl
   refine oy (rv_lenS (hS.rd 5 rfl) Tryz.underlying39 rfl rfl) rfl <| om rfl rfl <| ops_nil fun a hA => ?_
   obtain ⟨o1, hl2, hF⟩ := bindE hF
   refine cw_cut (J := fun a' w' => o1 = Out.brk (()) ∧ AEnv 61 [] a' ∧ St (cxAll w0) w' [] []) ?_ ?_
   ·refine cw_block ?_
    refine cw_loop (body := impl_ListsOk_l2 l) (r := o1) (fun sg a' w' => AEnv 61 [(1, .pointer (some ⟨b1, 0, none⟩)), (3, .pointer (some ⟨b2, 0, none⟩)), (24, s4), (25, .int .i64 (((l.Own ++ l.Global).length : Int))), (26, .int .i64 (sg.1))] a' ∧ St (cxAll w0) w' [cBox b1 [s1, s2], cBox b2 (List.map (fun q : Bool => Value.bool q) (sg.2 : List Bool))] [fRd [s4] (l.Own ++ l.Global : List SList), fRd [s1] (l.Global : List SList), fRd [s2] (l.Own : List SList)]) ?_ hl2 ⟨hA.part ⟨rfl, rfl, rfl, rfl, rfl, trivial⟩, ((hS).sel [0, 1] rfl).selR [5, 0, 1] rfl⟩
    clear hA hS hl2
    rintro ⟨x4, x5⟩ a w q2 ⟨hA, hS⟩ hG2 hr2
    try dsimp only at hA hS
    unfold impl_ListsOk_l2 at hG2
    refine cw_seq <| cw_ops hA ?_
    clear hA
    refine oy (rv_lss rfl rfl rfl) rfl <| ops_nil fun a hA => cw_seq <| cw_cond hA rfl (fun hc2 => ?_) (fun hc2 => ?_)
    ·replace hG2 := iteT hc2 hG2
     refine cw_skip <| cw_seq <| cw_block <| cw_seq <| cw_ops hA ?_
     clear hA
     refine om rfl rfl ?_
     obtain ⟨x6, hx6, hG2⟩ := bindE hG2
     refine oy (rv_idx (m := 1) (hS.rd 0 rfl) rfl hx6 Tryz.underlying39 Tryz.sizeOf120 rfl rfl rfl) rfl ?_
     obtain ⟨s5, hel, hS⟩ := hS.el_SList 0 rfl (idx_some hx6).2.2
     refine oy (rv_loadN rfl rfl Tryz.isAgg120 Tryz.sizeOf120 rfl hel) rfl <| ops_mv (rv_alloc (cs := [(.slice none 0 0)]) hS rfl Tryz.zeroValue120 rfl) (want_yes rfl) rfl rfl ?_
     clear hS
     rintro _ w ⟨b3, rfl, hS⟩
     refine oa rfl rfl <| ops_ms (rs_box (vs := [s5]) hS (i := 2) rfl rfl rfl rfl rfl Tryz.sizeOf120 rfl rfl (all1 (one_rd (hS.rd 3 rfl)) rfl)) (want_yes rfl) rfl ?_
     clear hS
     intro w hS
     refine ops_nil fun a hA => cw_seq <| cw_seq <| cw_cut (J := fun a' w' => ∃ (x7 : Bool), impl_ListsOk_j3 x4 x5 x6 x7 = some q2 ∧ AEnv 61 [(1, .pointer (some ⟨b1, 0, none⟩)), (3, .pointer (some ⟨b2, 0, none⟩)), (5, .pointer (some ⟨b3, 0, none⟩)), (24, s4), (25, .int .i64 (((l.Own ++ l.Global).length : Int))), (26, .int .i64 (x4)), (41, .bool (x7))] a' ∧ St (cxAll w0) w' [cBox b1 [s1, s2], cBox b2 (List.map (fun q : Bool => Value.bool q) (x5 : List Bool)), cBox b3 [s5]] [fRd [s4] (l.Own ++ l.Global : List SList), fRd [s1] (l.Global : List SList), fRd [s2] (l.Own : List SList), fRd [s5] (x6.Slots : List Int)]) ?_ ?_
     ·skip
      refine cw_ops hA ?_
      clear hA
      refine om rfl rfl <| oy (rv_fld (m := 0) Tryz.underlying41 rfl rfl Tryz.sizeOf39 rfl rfl) rfl <| oy (rv_load1 rfl rfl Tryz.isAgg39 (hS.cell 0 rfl rfl)) rfl <| oy (rv_lenS (hS.rd 2 rfl) Tryz.underlying39 rfl rfl) rfl <| oy (rv_lss rfl rfl rfl) rfl <| om rfl rfl <| ops_case (s := 36) rfl (fun hc7 => ?_) (fun hc7 => ?_)
      ·replace hG2 := iteT hc7 hG2
       refine ops_v (rv_fld (m := 0) Tryz.underlying120 rfl rfl Tryz.sizeOf22 rfl rfl) (want_if rfl rfl rfl (by rw [hc7]; rfl)) rfl rfl <| ops_v (rv_load1 rfl rfl Tryz.isAgg22 (hS.cell 2 rfl rfl)) (want_if rfl rfl rfl (by rw [hc7]; rfl)) rfl rfl <| ops_v (rv_lenS (hS.rd 3 rfl) Tryz.underlying22 rfl rfl) (want_if rfl rfl rfl (by rw [hc7]; rfl)) rfl rfl <| ops_v (rv_gtr rfl rfl rfl) (want_if rfl rfl rfl (by rw [hc7]; rfl)) rfl rfl <| oy (rv_pick_t rfl rfl hc7 rfl) rfl <| ops_nil fun a hA => ?_
       exact ⟨decide (2 < ((x6.Slots.length : Int))), hG2, hA.part ⟨rfl, rfl, rfl, rfl, rfl, rfl, rfl, trivial⟩, ((hS).sel [0, 1, 2] rfl).selR [0, 1, 2, 3] rfl⟩
      ·replace hG2 := iteF hc7 hG2
       refine ops_off (want_if rfl rfl rfl (by rw [hc7]; rfl)) rfl rfl <| ops_off (want_if rfl rfl rfl (by rw [hc7]; rfl)) rfl rfl <| ops_off (want_if rfl rfl rfl (by rw [hc7]; rfl)) rfl rfl <| ops_off (want_if rfl rfl rfl (by rw [hc7]; rfl)) rfl rfl <| oy (rv_pick_f rfl rfl hc7 rfl) rfl <| ops_nil fun a hA => ?_
       exact ⟨false, hG2, hA.part ⟨rfl, rfl, rfl, rfl, rfl, rfl, rfl, trivial⟩, ((hS).sel [0, 1, 2] rfl).selR [0, 1, 2, 3] rfl⟩
     ·skip
      clear hA hS hG2
      rintro a w ⟨x7, hG2, hA, hS⟩
      unfold impl_ListsOk_j3 at hG2
      refine cw_cond hA rfl (fun hc3 => ?_) (fun hc3 => ?_)
      ·replace hG2 := iteT hc3 hG2
       refine cw_seq <| cw_ops hA ?_
       clear hA
       refine oa rfl rfl <| ops_nil fun a hA => cw_ret ?_
       cases hG2
       have ho := hr2 _ rfl; subst ho
       replace hF : some false = some r := hF
       cases hF
       exact fy Tryz.results109 hA rfl hS
      ·replace hG2 := iteF hc3 hG2
       refine cw_skip <| cw_seq <| cw_ops hA ?_
       clear hA
       refine oy (rv_fld (m := 0) Tryz.underlying120 rfl rfl Tryz.sizeOf22 rfl rfl) rfl <| oy (rv_load1 rfl rfl Tryz.isAgg22 (hS.cell 2 rfl rfl)) rfl <| oy (rv_lenS (hS.rd 3 rfl) Tryz.underlying22 rfl rfl) rfl <| om rfl rfl <| ops_nil fun a hA => ?_
       obtain ⟨o2, hl3, hG2⟩ := bindE hG2
       refine cw_cut (J := fun a' w' => ∃ (x12 : List Bool), o2 = Out.brk x12 ∧ AEnv 61 [(1, .pointer (some ⟨b1, 0, none⟩)), (3, .pointer (some ⟨b2, 0, none⟩)), (24, s4), (25, .int .i64 (((l.Own ++ l.Global).length : Int))), (26, .int .i64 (x4))] a' ∧ St (cxAll w0) w' [cBox b1 [s1, s2], cBox b2 (List.map (fun q : Bool => Value.bool q) (x12 : List Bool))] [fRd [s4] (l.Own ++ l.Global : List SList), fRd [s1] (l.Global : List SList), fRd [s2] (l.Own : List SList)]) ?_ ?_
       ·refine cw_block ?_
        refine cw_loop (body := impl_ListsOk_l4 x6) (r := o2) (fun sg a' w' => AEnv 61 [(1, .pointer (some ⟨b1, 0, none⟩)), (3, .pointer (some ⟨b2, 0, none⟩)), (24, s4), (25, .int .i64 (((l.Own ++ l.Global).length : Int))), (26, .int .i64 (x4)), (43, s5), (44, .int .i64 ((x6.Slots.length : Int))), (45, .int .i64 (sg.1))] a' ∧ St (cxAll w0) w' [cBox b1 [s1, s2], cBox b2 (List.map (fun q : Bool => Value.bool q) (sg.2 : List Bool))] [fRd [s4] (l.Own ++ l.Global : List SList), fRd [s5] (x6.Slots : List Int), fRd [s1] (l.Global : List SList), fRd [s2] (l.Own : List SList)]) ?_ hl3 ⟨hA.part ⟨rfl, rfl, rfl, rfl, rfl, rfl, rfl, rfl, trivial⟩, ((hS).sel [0, 1] rfl).selR [0, 3, 1, 2] rfl⟩
        clear hA hS hl3
        rintro ⟨x10, x11⟩ a w q4 ⟨hA, hS⟩ hG4 hr4
        try dsimp only at hA hS
        unfold impl_ListsOk_l4 at hG4
        refine cw_seq <| cw_ops hA ?_
        clear hA
        refine oy (rv_lss rfl rfl rfl) rfl <| ops_nil fun a hA => cw_seq <| cw_cond hA rfl (fun hc4 => ?_) (fun hc4 => ?_)
        ·replace hG4 := iteT hc4 hG4
         refine cw_skip <| cw_seq <| cw_block <| cw_seq <| cw_ops hA ?_
         clear hA
         obtain ⟨x13, hx13, hG4⟩ := bindE hG4
         refine oy (rv_idx (m := 1) (hS.rd 1 rfl) rfl hx13 Tryz.underlying22 Tryz.sizeOf3 rfl rfl rfl) rfl <| oy (rv_load1 rfl rfl Tryz.isAgg3 (cell1 (el_Int (hS.rd 1 rfl) (idx_some hx13).2.2))) rfl <| oa rfl rfl <| ops_nil fun a hA => cw_seq <| cw_seq <| cw_cut (J := fun a' w' => ∃ (x14 : Bool), impl_ListsOk_j5 x10 x11 x13 x14 = some q4 ∧ AEnv 61 [(1, .pointer (some ⟨b1, 0, none⟩)), (3, .pointer (some ⟨b2, 0, none⟩)), (7, .int .i64 (x13)), (24, s4), (25, .int .i64 (((l.Own ++ l.Global).length : Int))), (26, .int .i64 (x4)), (43, s5), (44, .int .i64 ((x6.Slots.length : Int))), (45, .int .i64 (x10)), (56, .bool (x14))] a' ∧ St (cxAll w0) w' [cBox b1 [s1, s2], cBox b2 (List.map (fun q : Bool => Value.bool q) (x11 : List Bool))] [fRd [s4] (l.Own ++ l.Global : List SList), fRd [s5] (x6.Slots : List Int), fRd [s1] (l.Global : List SList), fRd [s2] (l.Own : List SList)]) ?_ ?_
         ·skip
          refine cw_ops hA ?_
          clear hA
          refine om rfl rfl ?_
          obtain ⟨x16, hx16, hG4⟩ := bindE hG4
          refine ops_c (rc_call Tryz.call140 rfl rfl) (want_yes rfl) rfl rfl (c_impl_isSlot (slot := x13)  hx16) ?_
          rintro _ w ⟨rfl, hk⟩
          replace hS := hS.after hk; clear hk
          refine oy (rv_not rfl rfl) rfl <| om rfl rfl <| ops_case (s := 52) rfl (fun hc6 => ?_) (fun hc6 => ?_)
          ·replace hG4 := iteT hc6 hG4
           refine ops_off (want_if rfl rfl rfl (by rw [hc6]; rfl)) rfl rfl <| ops_off (want_if rfl rfl rfl (by rw [hc6]; rfl)) rfl rfl <| ops_off (want_if rfl rfl rfl (by rw [hc6]; rfl)) rfl rfl <| oy (rv_pick_t rfl rfl hc6 rfl) rfl <| ops_nil fun a hA => ?_
           exact ⟨true, hG4, hA.part ⟨rfl, rfl, rfl, rfl, rfl, rfl, rfl, rfl, rfl, rfl, trivial⟩, ((hS).sel [0, 1] rfl).selR [0, 1, 2, 3] rfl⟩
          ·replace hG4 := iteF hc6 hG4
           refine ops_v (rv_move rfl rfl) (want_if rfl rfl rfl (by rw [hc6]; rfl)) rfl rfl ?_
           obtain ⟨hn3, hG4⟩ := needE hG4
           refine ops_v (rv_idxA Tryz.underlying152 Tryz.sizeOf4 hn3 rfl rfl rfl) (want_if rfl rfl rfl (by rw [hc6]; rfl)) rfl rfl ?_
           obtain ⟨x17, hx17, hG4⟩ := bindE hG4
           refine ops_v (rv_load1 rfl rfl Tryz.isAgg4 (hS.arrcell 1 rfl hx17)) (want_if rfl rfl rfl (by rw [hc6]; rfl)) rfl rfl <| oy (rv_pick_f rfl rfl hc6 rfl) rfl <| ops_nil fun a hA => ?_
           exact ⟨x17, hG4, hA.part ⟨rfl, rfl, rfl, rfl, rfl, rfl, rfl, rfl, rfl, rfl, trivial⟩, ((hS).sel [0, 1] rfl).selR [0, 1, 2, 3] rfl⟩
         ·skip
          clear hA hS hG4
          rintro a w ⟨x14, hG4, hA, hS⟩
          unfold impl_ListsOk_j5 at hG4
          refine cw_cond hA rfl (fun hc5 => ?_) (fun hc5 => ?_)
          ·replace hG4 := iteT hc5 hG4
           refine cw_seq <| cw_ops hA ?_
           clear hA
           refine oa rfl rfl <| ops_nil fun a hA => cw_ret ?_
           cases hG4
           have ho := hr4 _ rfl; subst ho
           replace hG2 : some (.stop (Out.ret false)) = some q2 := hG2
           cases hG2
           have ho := hr2 _ rfl; subst ho
           replace hF : some false = some r := hF
           cases hF
           exact fy Tryz.results109 hA rfl hS
          ·replace hG4 := iteF hc5 hG4
           refine cw_skip <| cw_ops hA ?_
           clear hA
           refine om rfl rfl ?_
           obtain ⟨hn2, hG4⟩ := needE hG4
           refine oy (rv_idxA Tryz.underlying152 Tryz.sizeOf4 hn2 rfl rfl rfl) rfl ?_
           obtain ⟨x15, hx15, hG4⟩ := bindE hG4
           refine ops_ms (rs_arr (xd := true) hS (m := 1) rfl hx15 Tryz.sizeOf4 rfl rfl rfl rfl rfl rfl) (want_yes rfl) rfl ?_
           clear hS
           intro w hS
           refine ops_nil fun a hA => cw_ops hA ?_
           clear hA
           refine oy (rv_add rfl rfl rfl) rfl <| om rfl rfl <| ops_nil fun a hA => ?_
           cases hG4
           exact ⟨_, rfl, ⟨hA.part ⟨rfl, rfl, rfl, rfl, rfl, rfl, rfl, rfl, trivial⟩, ((hS).sel [0, 1] rfl).selR [0, 1, 2, 3] rfl⟩⟩
        ·replace hG4 := iteF hc4 hG4
         refine cw_exit <| xcons_hit ?_
         cases hG4
         have ho := hr4 _ rfl; subst ho
         exact ⟨x11, rfl, hA.part ⟨rfl, rfl, rfl, rfl, rfl, trivial⟩, ((hS).sel [0, 1] rfl).selR [0, 2, 3] rfl⟩
       ·skip
        clear hA hS hl3
        rintro a w ⟨x12, heq, hA, hS⟩
        replace hG2 : impl_ListsOk_j4 x4 x12 = some q2 := by rw [heq] at hG2; exact hG2
        clear heq
        unfold impl_ListsOk_j4 at hG2
        refine cw_ops hA ?_
        clear hA
        refine oy (rv_add rfl rfl rfl) rfl <| om rfl rfl <| ops_nil fun a hA => ?_
        cases hG2
        exact ⟨_, rfl, ⟨hA.part ⟨rfl, rfl, rfl, rfl, rfl, trivial⟩, ((hS).sel [0, 1] rfl).selR [0, 1, 2] rfl⟩⟩
    ·replace hG2 := iteF hc2 hG2
     refine cw_exit <| xcons_hit ?_
     cases hG2
     have ho := hr2 _ rfl; subst ho
     exact ⟨rfl, hA.part trivial, ((hS).sel [] rfl).selR [] rfl⟩
   ·skip
    clear hA hS hl2
    rintro a w ⟨heq, hA, hS⟩
    replace hF : impl_ListsOk_j2 = some r := by rw [heq] at hF; exact hF
    clear heq
    unfold impl_ListsOk_j2 at hF
    refine cw_seq <| cw_ops hA ?_
    clear hA
    refine oa rfl rfl <| ops_nil fun a hA => cw_ret ?_
    cases hF
    exact fy Tryz.results109 hA rfl hS

theorem c_impl_GenAt {w0 : World} {slot : Int} {c : Int}  {r : Int}  (hF : impl_GenAt slot c = some r) :
    Calls Tryz.prog 147 #[.int .i64 (slot), .int .i64 (c)] w0 (Ret fun v w' => v = .int .i64 (r) ∧ St (cxAll w0) w' [] []) := by
 have hS : St (cxAll w0) w0 [] [] := St.enter (by
   intro f hf; cases hf)
 refine calls_cw (args := [_, _]) Tryz.func147 rfl Tryz.ntmps147 rfl ?_
 unfold impl_GenAt at hF
 intro a hA
 refine cw_seq <| cw_ops hA ?_
 clear hA
 refine oa rfl rfl <| ops_nil fun a hA => cw_seq <| cw_seq <| cw_cut (J := fun a' w' => ∃ (x1 : Bool), impl_GenAt_j1 slot c x1 = some r ∧ AEnv 30 [(0, .int .i64 (slot)), (1, .int .i64 (c)), (19, .bool (x1))] a' ∧ St (cxAll w0) w' [] []) ?_ ?_
 ·skip
  refine cw_ops hA ?_
  clear hA
  refine om rfl rfl ?_
  obtain ⟨x3, hx3, hF⟩ := bindE hF
  refine ops_c (rc_call Tryz.call140 rfl rfl) (want_yes rfl) rfl rfl (c_impl_isSlot (slot := slot)  hx3) ?_
  rintro _ w ⟨rfl, hk⟩
  replace hS := hS.after hk; clear hk
  refine oy (rv_not rfl rfl) rfl <| om rfl rfl <| ops_case (s := 8) rfl (fun hc2 => ?_) (fun hc2 => ?_)
  ·replace hF := iteT hc2 hF
   refine ops_off (want_if rfl rfl rfl (by rw [hc2]; rfl)) rfl rfl <| ops_off (want_if rfl rfl rfl (by rw [hc2]; rfl)) rfl rfl <| ops_off (want_if rfl rfl rfl (by rw [hc2]; rfl)) rfl rfl <| oy (rv_pick_t rfl rfl hc2 rfl) rfl <| om rfl rfl <| ops_off (want_if rfl rfl rfl rfl) rfl rfl <| ops_off (want_if rfl rfl rfl rfl) rfl rfl <| ops_off (want_if rfl rfl rfl rfl) rfl rfl <| ops_off (want_if rfl rfl rfl rfl) rfl rfl ?_
   refine ops_off (want_if rfl rfl rfl rfl) rfl rfl <| oy (rv_pick_t rfl rfl rfl rfl) rfl <| ops_nil fun a hA => ?_
   exact ⟨true, hF, hA.part ⟨rfl, rfl, rfl, trivial⟩, ((hS).sel [] rfl).selR [] rfl⟩
  ·replace hF := iteF hc2 hF
   refine ops_v (rv_move rfl rfl) (want_if rfl rfl rfl (by rw [hc2]; rfl)) rfl rfl ?_
   obtain ⟨x4, hx4, hF⟩ := bindE hF
   refine ops_c (rc_call Tryz.call165 rfl rfl) (want_if rfl rfl rfl (by rw [hc2]; rfl)) rfl rfl (c_impl_isClass (c := c)  hx4) ?_
   rintro _ w ⟨rfl, hk⟩
   replace hS := hS.after hk; clear hk
   refine ops_v (rv_not rfl rfl) (want_if rfl rfl rfl (by rw [hc2]; rfl)) rfl rfl <| oy (rv_pick_f rfl rfl hc2 rfl) rfl <| om rfl rfl <| ops_case (s := 13) rfl (fun hc3 => ?_) (fun hc3 => ?_)
   ·replace hF := iteT hc3 hF
    refine ops_off (want_if rfl rfl rfl (by rw [hc3]; rfl)) rfl rfl <| ops_off (want_if rfl rfl rfl (by rw [hc3]; rfl)) rfl rfl <| ops_off (want_if rfl rfl rfl (by rw [hc3]; rfl)) rfl rfl <| ops_off (want_if rfl rfl rfl (by rw [hc3]; rfl)) rfl rfl <| ops_off (want_if rfl rfl rfl (by rw [hc3]; rfl)) rfl rfl <| oy (rv_pick_t rfl rfl hc3 rfl) rfl <| ops_nil fun a hA => ?_
    exact ⟨true, hF, hA.part ⟨rfl, rfl, rfl, trivial⟩, ((hS).sel [] rfl).selR [] rfl⟩
   ·replace hF := iteF hc3 hF
    refine ops_v (rv_move rfl rfl) (want_if rfl rfl rfl (by rw [hc3]; rfl)) rfl rfl <| ops_v (rv_rem rfl rfl rfl (by decide)) (want_if rfl rfl rfl (by rw [hc3]; rfl)) rfl rfl <| ops_v (rv_move rfl rfl) (want_if rfl rfl rfl (by rw [hc3]; rfl)) rfl rfl ?_
    obtain ⟨x5, hx5, hF⟩ := bindE hF
    refine ops_c (rc_call Tryz.call159 rfl rfl) (want_if rfl rfl rfl (by rw [hc3]; rfl)) rfl rfl (c_impl_PerPage (c := c)  hx5) ?_
    rintro _ w ⟨rfl, hk⟩
    replace hS := hS.after hk; clear hk
    refine ops_v (rv_geq rfl rfl rfl) (want_if rfl rfl rfl (by rw [hc3]; rfl)) rfl rfl <| oy (rv_pick_f rfl rfl hc3 rfl) rfl <| ops_nil fun a hA => ?_
    exact ⟨decide (x5 ≤ (Int.tmod slot 4)), hF, hA.part ⟨rfl, rfl, rfl, trivial⟩, ((hS).sel [] rfl).selR [] rfl⟩
 ·skip
  clear hA hS hF
  rintro a w ⟨x1, hF, hA, hS⟩
  unfold impl_GenAt_j1 at hF
  refine cw_cond hA rfl (fun hc1 => ?_) (fun hc1 => ?_)
  ·replace hF := iteT hc1 hF
   refine cw_seq <| cw_ops hA ?_
   clear hA
   refine oa rfl rfl <| ops_nil fun a hA => cw_ret ?_
   cases hF
   exact fy Tryz.results147 hA rfl hS
  ·replace hF := iteF hc1 hF
   refine cw_skip <| cw_seq <| cw_ops hA ?_
   clear hA
   refine om rfl rfl <| oy (rv_quo rfl rfl rfl (by decide)) rfl <| oy (rv_mul rfl rfl rfl) rfl <| oy (rv_add rfl rfl rfl) rfl <| om rfl rfl <| oy (rv_rem rfl rfl rfl (by decide)) rfl <| om rfl rfl ?_
   obtain ⟨x2, hx2, hF⟩ := bindE hF
   refine ops_c (rc_call Tryz.call160 rfl rfl) (want_yes rfl) rfl rfl (c_impl_StrideOf (c := c)  hx2) ?_
   rintro _ w ⟨rfl, hk⟩
   replace hS := hS.after hk; clear hk
   refine oy (rv_mul rfl rfl rfl) rfl <| oy (rv_add rfl rfl rfl) rfl <| oa rfl rfl <| ops_nil fun a hA => cw_ret ?_
   cases hF
   exact fy Tryz.results147 hA rfl hS

theorem c_impl_classIn {w0 : World} {h : Heap} {slot : Int} {s1 : Value} {s2 : Value} {r : Int} (h1 : Rep.rd (All w0) w0 [s1] (h.Bytes : List Int)) (h2 : Rep.rd (All w0) w0 [s2] (h.Class : List Int)) (hF : impl_classIn h slot = some r) :
    Calls Tryz.prog 141 #[.agg #[s1, s2], .int .i64 (slot)] w0 (Ret fun v w' => v = .int .i64 (r) ∧ St (cxAll w0) w' [] []) := by
 have hS : St (cxAll w0) w0 [] [fRd [s1] (h.Bytes : List Int), fRd [s2] (h.Class : List Int)] := St.enter (by
   intro f hf
   simp only [List.mem_cons, List.not_mem_nil, or_false] at hf
   rcases hf with rfl | rfl
   · exact h1
   · exact h2)
 refine calls_cw (args := [_, _]) Tryz.func141 rfl Tryz.ntmps141 rfl ?_
 unfold impl_classIn at hF
 intro a hA
 refine cw_seq <| cw_ops hA ?_
 clear hA
 refine ops_mv (rv_box (cs := [s1, s2]) hS rfl rfl rfl) (want_yes rfl) rfl rfl ?_
 clear hS
 rintro _ w ⟨b1, rfl, hS⟩
 refine oa rfl rfl <| ops_nil fun a hA => cw_seq <| cw_seq <| cw_cut (J := fun a' w' => ∃ (x1 : Bool), impl_classIn_j1 h slot x1 = some r ∧ AEnv 25 [(1, .int .i64 (slot)), (2, .pointer (some ⟨b1, 0, none⟩)), (18, .bool (x1))] a' ∧ St (cxAll w0) w' [cBox b1 [s1, s2]] [fRd [s1] (h.Bytes : List Int), fRd [s2] (h.Class : List Int)]) ?_ ?_
 ·skip
  refine cw_ops hA ?_
  clear hA
  refine om rfl rfl ?_
  obtain ⟨x3, hx3, hF⟩ := bindE hF
  refine ops_c (rc_call Tryz.call140 rfl rfl) (want_yes rfl) rfl rfl (c_impl_isSlot (slot := slot)  hx3) ?_
  rintro _ w ⟨rfl, hk⟩
  replace hS := hS.after hk; clear hk
  refine oy (rv_not rfl rfl) rfl <| om rfl rfl <| ops_case (s := 8) rfl (fun hc2 => ?_) (fun hc2 => ?_)
  ·replace hF := iteT hc2 hF
   refine ops_off (want_if rfl rfl rfl (by rw [hc2]; rfl)) rfl rfl <| ops_off (want_if rfl rfl rfl (by rw [hc2]; rfl)) rfl rfl <| ops_off (want_if rfl rfl rfl (by rw [hc2]; rfl)) rfl rfl <| ops_off (want_if rfl rfl rfl (by rw [hc2]; rfl)) rfl rfl <| ops_off (want_if rfl rfl rfl (by rw [hc2]; rfl)) rfl rfl <| ops_off (want_if rfl rfl rfl (by rw [hc2]; rfl)) rfl rfl <| ops_off (want_if rfl rfl rfl (by rw [hc2]; rfl)) rfl rfl <| ops_off (want_if rfl rfl rfl (by rw [hc2]; rfl)) rfl rfl <| ops_off (want_if rfl rfl rfl (by rw [hc2]; rfl)) rfl rfl ?_
   refine oy (rv_pick_t rfl rfl hc2 rfl) rfl <| ops_nil fun a hA => ?_
   exact ⟨true, hF, hA.part ⟨rfl, rfl, rfl, trivial⟩, ((hS).sel [0] rfl).selR [0, 1] rfl⟩
  ·replace hF := iteF hc2 hF
   refine ops_v (rv_move rfl rfl) (want_if rfl rfl rfl (by rw [hc2]; rfl)) rfl rfl <| ops_v (rv_fld (m := 0) Tryz.underlying38 rfl rfl Tryz.sizeOf22 rfl rfl) (want_if rfl rfl rfl (by rw [hc2]; rfl)) rfl rfl <| ops_v (rv_load1 rfl rfl Tryz.isAgg22 (hS.cell 0 rfl rfl)) (want_if rfl rfl rfl (by rw [hc2]; rfl)) rfl rfl <| ops_v (rv_move rfl rfl) (want_if rfl rfl rfl (by rw [hc2]; rfl)) rfl rfl <| ops_v (rv_quo rfl rfl rfl (by decide)) (want_if rfl rfl rfl (by rw [hc2]; rfl)) rfl rfl ?_
   obtain ⟨x4, hx4, hF⟩ := bindE hF
   refine ops_v (rv_idx (m := 1) (hS.rd 1 rfl) rfl hx4 Tryz.underlying22 Tryz.sizeOf3 rfl rfl rfl) (want_if rfl rfl rfl (by rw [hc2]; rfl)) rfl rfl <| ops_v (rv_load1 rfl rfl Tryz.isAgg3 (cell1 (el_Int (hS.rd 1 rfl) (idx_some hx4).2.2))) (want_if rfl rfl rfl (by rw [hc2]; rfl)) rfl rfl ?_
   obtain ⟨x5, hx5, hF⟩ := bindE hF
   refine ops_c (rc_call Tryz.call147 rfl rfl) (want_if rfl rfl rfl (by rw [hc2]; rfl)) rfl rfl (c_impl_GenAt (slot := slot) (c := x4)  hx5) ?_
   rintro _ w ⟨rfl, hk⟩
   replace hS := hS.after hk; clear hk
   refine ops_v (rv_lss rfl rfl rfl) (want_if rfl rfl rfl (by rw [hc2]; rfl)) rfl rfl <| oy (rv_pick_f rfl rfl hc2 rfl) rfl <| ops_nil fun a hA => ?_
   exact ⟨decide (x5 < 0), hF, hA.part ⟨rfl, rfl, rfl, trivial⟩, ((hS).sel [0] rfl).selR [0, 1] rfl⟩
 ·skip
  clear hA hS hF
  rintro a w ⟨x1, hF, hA, hS⟩
  unfold impl_classIn_j1 at hF
  refine cw_cond hA rfl (fun hc1 => ?_) (fun hc1 => ?_)
  ·replace hF := iteT hc1 hF
   refine cw_seq <| cw_ops hA ?_
   clear hA
   refine oa rfl rfl <| ops_nil fun a hA => cw_ret ?_
   cases hF
   exact fy Tryz.results141 hA rfl hS
  ·replace hF := iteF hc1 hF
   refine cw_skip <| cw_seq <| cw_ops hA ?_
   clear hA
   refine oy (rv_fld (m := 0) Tryz.underlying38 rfl rfl Tryz.sizeOf22 rfl rfl) rfl <| oy (rv_load1 rfl rfl Tryz.isAgg22 (hS.cell 0 rfl rfl)) rfl <| om rfl rfl <| oy (rv_quo rfl rfl rfl (by decide)) rfl ?_
   obtain ⟨x2, hx2, hF⟩ := bindE hF
   refine oy (rv_idx (m := 1) (hS.rd 1 rfl) rfl hx2 Tryz.underlying22 Tryz.sizeOf3 rfl rfl rfl) rfl <| oy (rv_load1 rfl rfl Tryz.isAgg3 (cell1 (el_Int (hS.rd 1 rfl) (idx_some hx2).2.2))) rfl <| oa rfl rfl <| ops_nil fun a hA => cw_ret ?_
   cases hF
   exact fy Tryz.results141 hA rfl hS

theorem c_impl_ClassAt {w0 : World} {h : Heap} {slot : Int} {s1 : Value} {s2 : Value} {r : Int} (h1 : Rep.rd (All w0) w0 [s1] (h.Bytes : List Int)) (h2 : Rep.rd (All w0) w0 [s2] (h.Class : List Int)) (hF : impl_ClassAt h slot = some r) :
    Calls Tryz.prog 145 #[.agg #[s1, s2], .int .i64 (slot)] w0 (Ret fun v w' => v = .int .i64 (r) ∧ St (cxAll w0) w' [] []) := by
 have hS : St (cxAll w0) w0 [] [fRd [s1] (h.Bytes : List Int), fRd [s2] (h.Class : List Int)] := St.enter (by
   intro f hf
   simp only [List.mem_cons, List.not_mem_nil, or_false] at hf
   rcases hf with rfl | rfl
   · exact h1
   · exact h2)
 refine calls_cw (args := [_, _]) Tryz.func145 rfl Tryz.ntmps145 rfl ?_
 unfold impl_ClassAt at hF
 intro a hA
 refine cw_seq <| cw_ops hA ?_
 clear hA
 refine ops_mv (rv_box (cs := [s1, s2]) hS rfl rfl rfl) (want_yes rfl) rfl rfl ?_
 clear hS
 rintro _ w ⟨b1, rfl, hS⟩
 refine oa rfl rfl <| ops_nil fun a hA => cw_seq <| cw_seq <| cw_ops hA ?_
 clear hA
 refine oy (rv_loadN rfl rfl Tryz.isAgg38 Tryz.sizeOf38 rfl (hS.cells 0 0 (cs' := [s1, s2]) rfl rfl)) rfl ?_
 obtain ⟨x1, hx1, hF⟩ := bindE hF
 refine ops_c (rc_call Tryz.call137 rfl rfl) (want_yes rfl) rfl rfl (c_impl_shaped (h := h) (hS.rd 0 rfl) (hS.rd 1 rfl) hx1) ?_
 rintro _ w ⟨rfl, hk⟩
 replace hS := hS.after hk; clear hk
 refine oy (rv_not rfl rfl) rfl <| ops_nil fun a hA => cw_cond hA rfl (fun hc1 => ?_) (fun hc1 => ?_)
 ·replace hF := iteT hc1 hF
  refine cw_seq <| cw_ops hA ?_
  clear hA
  refine oa rfl rfl <| ops_nil fun a hA => cw_ret ?_
  cases hF
  exact fy Tryz.results145 hA rfl hS
 ·replace hF := iteF hc1 hF
  refine cw_skip <| cw_seq <| cw_ops hA ?_
  clear hA
  refine oy (rv_loadN rfl rfl Tryz.isAgg38 Tryz.sizeOf38 rfl (hS.cells 0 0 (cs' := [s1, s2]) rfl rfl)) rfl <| om rfl rfl ?_
  obtain ⟨x2, hx2, hF⟩ := bindE hF
  refine ops_c (rc_call Tryz.call141 rfl rfl) (want_yes rfl) rfl rfl (c_impl_classIn (h := h) (slot := slot) (hS.rd 0 rfl) (hS.rd 1 rfl) hx2) ?_
  rintro _ w ⟨rfl, hk⟩
  replace hS := hS.after hk; clear hk
  refine oa rfl rfl <| ops_nil fun a hA => cw_ret ?_
  cases hF
  exact fy Tryz.results145 hA rfl hS

theorem c_impl_GenIn {w0 : World} {h : Heap} {slot : Int} {s1 : Value} {s2 : Value} {r : Int} (h1 : Rep.rd (All w0) w0 [s1] (h.Bytes : List Int)) (h2 : Rep.rd (All w0) w0 [s2] (h.Class : List Int)) (hF : impl_GenIn h slot = some r) :
    Calls Tryz.prog 121 #[.agg #[s1, s2], .int .i64 (slot)] w0 (Ret fun v w' => v = .int .i64 (r) ∧ St (cxAll w0) w' [] []) := by
 have hS : St (cxAll w0) w0 [] [fRd [s1] (h.Bytes : List Int), fRd [s2] (h.Class : List Int)] := St.enter (by
   intro f hf
   simp only [List.mem_cons, List.not_mem_nil, or_false] at hf
   rcases hf with rfl | rfl
   · exact h1
   · exact h2)
 refine calls_cw (args := [_, _]) Tryz.func121 rfl Tryz.ntmps121 rfl ?_
 unfold impl_GenIn at hF
 intro a hA
 refine cw_seq <| cw_ops hA ?_
 clear hA
 refine ops_mv (rv_box (cs := [s1, s2]) hS rfl rfl rfl) (want_yes rfl) rfl rfl ?_
 clear hS
 rintro _ w ⟨b1, rfl, hS⟩
 refine oa rfl rfl <| ops_nil fun a hA => cw_seq <| cw_ops hA ?_
 clear hA
 refine oy (rv_loadN rfl rfl Tryz.isAgg38 Tryz.sizeOf38 rfl (hS.cells 0 0 (cs' := [s1, s2]) rfl rfl)) rfl <| om rfl rfl ?_
 obtain ⟨x1, hx1, hF⟩ := bindE hF
 refine ops_c (rc_call Tryz.call145 rfl rfl) (want_yes rfl) rfl rfl (c_impl_ClassAt (h := h) (slot := slot) (hS.rd 0 rfl) (hS.rd 1 rfl) hx1) ?_
 rintro _ w ⟨rfl, hk⟩
 replace hS := hS.after hk; clear hk
 refine oa rfl rfl <| ops_nil fun a hA => cw_seq <| cw_seq <| cw_ops hA ?_
 clear hA
 refine om rfl rfl <| oy (rv_lss rfl rfl rfl) rfl <| ops_nil fun a hA => cw_cond hA rfl (fun hc1 => ?_) (fun hc1 => ?_)
 ·replace hF := iteT hc1 hF
  refine cw_seq <| cw_ops hA ?_
  clear hA
  refine oa rfl rfl <| ops_nil fun a hA => cw_ret ?_
  cases hF
  exact fy Tryz.results121 hA rfl hS
 ·replace hF := iteF hc1 hF
  refine cw_skip <| cw_seq <| cw_any (Keeps (cxAll w0) [cBox b1 [s1, s2]] [fRd [s1] (h.Bytes : List Int), fRd [s2] (h.Class : List Int)]) mixed_Tryz hA hS ?_
  clear hA hS; intro w hS
  have hK : Keeps (cxAll w0) [cBox b1 [s1, s2]] [fRd [s1] (h.Bytes : List Int), fRd [s2] (h.Class : List Int)] w := ⟨_, (hS.sel [0] rfl).selR [0, 1] rfl⟩
  refine ey 0 rfl (by kernel_rfl) hK (fun _ _ _ => (rv_fld (m := 0) Tryz.underlying38 rfl rfl Tryz.sizeOf22 rfl rfl)) rfl ?_
  refine ey 1 rfl (by kernel_rfl) hK (fun _ _ hS => (rv_load1 rfl rfl Tryz.isAgg22 (hS.cell 0 rfl rfl))) rfl ?_
  refine ey 2 rfl (by kernel_rfl) hK (fun _ _ _ => (rv_move rfl rfl)) rfl ?_
  refine ey 3 rfl (by kernel_rfl) hK (fun _ _ _ => (rv_move rfl rfl)) rfl ?_
  refine any_1 (i := 4) (by kernel_rfl) ?_
  obtain ⟨x2, hx2, hF⟩ := bindE hF
  refine as_c rfl (rc_call Tryz.call147 rfl rfl) (want_yes rfl) rfl rfl (c_impl_GenAt (slot := slot) (c := x1)  hx2) ?_
  clear hK; rintro _ w ⟨rfl, hk⟩
  replace hS := hS.after hk; clear hk
  have hK := keepsI ((hS.sel [0] rfl).selR [0, 1] rfl)
  refine ⟨hK, ?_⟩
  refine any_1 (i := 5) (by kernel_rfl) ?_
  obtain ⟨x3, hx3, hF⟩ := bindE hF
  refine as_c rfl (rc_call Tryz.call146 rfl rfl) (want_yes rfl) rfl rfl (c_impl_loadNum (b := h.Bytes) (at_ := x2) (width := 4) (hS.rd 0 rfl) hx3) ?_
  clear hK; rintro _ w ⟨rfl, hk⟩
  replace hS := hS.after hk; clear hk
  have hK := keepsI ((hS.sel [0] rfl).selR [0, 1] rfl)
  refine ⟨hK, ?_⟩
  refine ey 6 rfl (by kernel_rfl) hK (fun _ _ _ => (rv_assign rfl rfl)) rfl ?_
  refine any_done (by kernel_rfl) ?_
  intro a hA
  refine cw_ret ?_
  cases hF
  exact fy Tryz.results121 hA rfl hS

theorem c_impl_listFits {w0 : World} {h : Heap} {s : SList} {c : Int} {s1 : Value} {s2 : Value} {s3 : Value} {r : Bool} (h1 : Rep.rd (All w0) w0 [s1] (h.Bytes : List Int)) (h2 : Rep.rd (All w0) w0 [s2] (h.Class : List Int)) (h3 : Rep.rd (All w0) w0 [s3] (s.Slots : List Int)) (hF : impl_listFits h s c = some r) :
    Calls Tryz.prog 110 #[.agg #[s1, s2], .agg #[s3], .int .i64 (c)] w0 (Ret fun v w' => v = .bool (r) ∧ St (cxAll w0) w' [] []) := by
 have hS : St (cxAll w0) w0 [] [fRd [s1] (h.Bytes : List Int), fRd [s2] (h.Class : List Int), fRd [s3] (s.Slots : List Int)] := St.enter (by
   intro f hf
   simp only [List.mem_cons, List.not_mem_nil, or_false] at hf
   rcases hf with rfl | rfl | rfl
   · exact h1
   · exact h2
   · exact h3)
 refine calls_cw (args := [_, _, _]) Tryz.func110 rfl Tryz.ntmps110 rfl ?_
 unfold impl_listFits at hF
 intro a hA
 refine cw_seq <| cw_ops hA ?_
 clear hA
 refine ops_mv (rv_box (cs := [s1, s2]) hS rfl rfl rfl) (want_yes rfl) rfl rfl ?_
 clear hS
 rintro _ w ⟨b1, rfl, hS⟩
 refine ops_mv (rv_box (cs := [s3]) hS rfl rfl rfl) (want_yes rfl) rfl rfl ?_
 clear hS
 rintro _ w ⟨b2, rfl, hS⟩
 refine oa rfl rfl <| ops_nil fun a hA => cw_seq <| cw_seq <| cw_ops hA ?_
 clear hA
 refine oy (rv_fld (m := 0) Tryz.underlying120 rfl rfl Tryz.sizeOf22 rfl rfl) rfl <| oy (rv_load1 rfl rfl Tryz.isAgg22 (hS.cell 1 rfl rfl)) rfl <| oy (rv_lenS (hS.rd 2 rfl) Tryz.underlying22 rfl rfl) rfl <| om rfl rfl <| ops_nil fun a hA => ?_
 obtain ⟨o1, hl1, hF⟩ := bindE hF
 refine cw_cut (J := fun a' w' => o1 = Out.brk (()) ∧ AEnv 28 [] a' ∧ St (cxAll w0) w' [] []) ?_ ?_
 ·refine cw_block ?_
  refine cw_loop (body := impl_listFits_l1 h s c) (r := o1) (fun sg a' w' => AEnv 28 [(2, .int .i64 (c)), (3, .pointer (some ⟨b1, 0, none⟩)), (10, s3), (11, .int .i64 ((s.Slots.length : Int))), (12, .int .i64 (sg))] a' ∧ St (cxAll w0) w' [cBox b1 [s1, s2]] [fRd [s3] (s.Slots : List Int), fRd [s1] (h.Bytes : List Int), fRd [s2] (h.Class : List Int)]) ?_ hl1 ⟨hA.part ⟨rfl, rfl, rfl, rfl, rfl, trivial⟩, ((hS).sel [0] rfl).selR [2, 0, 1] rfl⟩
  clear hA hS hl1
  rintro x2 a w q1 ⟨hA, hS⟩ hG1 hr1
  try dsimp only at hA hS
  unfold impl_listFits_l1 at hG1
  refine cw_seq <| cw_ops hA ?_
  clear hA
  refine oy (rv_lss rfl rfl rfl) rfl <| ops_nil fun a hA => cw_seq <| cw_cond hA rfl (fun hc1 => ?_) (fun hc1 => ?_)
  ·replace hG1 := iteT hc1 hG1
   refine cw_skip <| cw_seq <| cw_block <| cw_seq <| cw_ops hA ?_
   clear hA
   obtain ⟨x3, hx3, hG1⟩ := bindE hG1
   refine oy (rv_idx (m := 1) (hS.rd 0 rfl) rfl hx3 Tryz.underlying22 Tryz.sizeOf3 rfl rfl rfl) rfl <| oy (rv_load1 rfl rfl Tryz.isAgg3 (cell1 (el_Int (hS.rd 0 rfl) (idx_some hx3).2.2))) rfl <| oa rfl rfl <| ops_nil fun a hA => cw_seq <| cw_cut (J := fun a' w' => ∃ (x4 : Bool), impl_listFits_j2 x2 x4 = some q1 ∧ AEnv 28 [(2, .int .i64 (c)), (3, .pointer (some ⟨b1, 0, none⟩)), (10, s3), (11, .int .i64 ((s.Slots.length : Int))), (12, .int .i64 (x2)), (26, .bool (x4))] a' ∧ St (cxAll w0) w' [cBox b1 [s1, s2]] [fRd [s3] (s.Slots : List Int), fRd [s1] (h.Bytes : List Int), fRd [s2] (h.Class : List Int)]) ?_ ?_
   ·skip
    refine cw_ops hA ?_
    clear hA
    refine oy (rv_loadN rfl rfl Tryz.isAgg38 Tryz.sizeOf38 rfl (hS.cells 0 0 (cs' := [s1, s2]) rfl rfl)) rfl <| om rfl rfl ?_
    obtain ⟨x5, hx5, hG1⟩ := bindE hG1
    refine ops_c (rc_call Tryz.call141 rfl rfl) (want_yes rfl) rfl rfl (c_impl_classIn (h := h) (slot := x3) (hS.rd 1 rfl) (hS.rd 2 rfl) hx5) ?_
    rintro _ w ⟨rfl, hk⟩
    replace hS := hS.after hk; clear hk
    refine om rfl rfl <| oy (rv_neq rfl rfl rfl) rfl <| om rfl rfl <| ops_case (s := 21) rfl (fun hc3 => ?_) (fun hc3 => ?_)
    ·replace hG1 := iteT hc3 hG1
     refine ops_off (want_if rfl rfl rfl (by rw [hc3]; rfl)) rfl rfl <| ops_off (want_if rfl rfl rfl (by rw [hc3]; rfl)) rfl rfl <| ops_off (want_if rfl rfl rfl (by rw [hc3]; rfl)) rfl rfl <| ops_off (want_if rfl rfl rfl (by rw [hc3]; rfl)) rfl rfl <| oy (rv_pick_t rfl rfl hc3 rfl) rfl <| ops_nil fun a hA => ?_
     exact ⟨true, hG1, hA.part ⟨rfl, rfl, rfl, rfl, rfl, rfl, trivial⟩, ((hS).sel [0] rfl).selR [0, 1, 2] rfl⟩
    ·replace hG1 := iteF hc3 hG1
     refine ops_v (rv_loadN rfl rfl Tryz.isAgg38 Tryz.sizeOf38 rfl (hS.cells 0 0 (cs' := [s1, s2]) rfl rfl)) (want_if rfl rfl rfl (by rw [hc3]; rfl)) rfl rfl <| ops_v (rv_move rfl rfl) (want_if rfl rfl rfl (by rw [hc3]; rfl)) rfl rfl ?_
     obtain ⟨x6, hx6, hG1⟩ := bindE hG1
     refine ops_c (rc_call Tryz.call121 rfl rfl) (want_if rfl rfl rfl (by rw [hc3]; rfl)) rfl rfl (c_impl_GenIn (h := h) (slot := x3) (hS.rd 1 rfl) (hS.rd 2 rfl) hx6) ?_
     rintro _ w ⟨rfl, hk⟩
     replace hS := hS.after hk; clear hk
     refine ops_v (rv_gtr rfl rfl rfl) (want_if rfl rfl rfl (by rw [hc3]; rfl)) rfl rfl <| oy (rv_pick_f rfl rfl hc3 rfl) rfl <| ops_nil fun a hA => ?_
     exact ⟨decide (6 < x6), hG1, hA.part ⟨rfl, rfl, rfl, rfl, rfl, rfl, trivial⟩, ((hS).sel [0] rfl).selR [0, 1, 2] rfl⟩
   ·skip
    clear hA hS hG1
    rintro a w ⟨x4, hG1, hA, hS⟩
    unfold impl_listFits_j2 at hG1
    refine cw_cond hA rfl (fun hc2 => ?_) (fun hc2 => ?_)
    ·replace hG1 := iteT hc2 hG1
     refine cw_seq <| cw_ops hA ?_
     clear hA
     refine oa rfl rfl <| ops_nil fun a hA => cw_ret ?_
     cases hG1
     have ho := hr1 _ rfl; subst ho
     replace hF : some false = some r := hF
     cases hF
     exact fy Tryz.results110 hA rfl hS
    ·replace hG1 := iteF hc2 hG1
     refine cw_skip <| cw_ops hA ?_
     clear hA
     refine oy (rv_add rfl rfl rfl) rfl <| om rfl rfl <| ops_nil fun a hA => ?_
     cases hG1
     exact ⟨_, rfl, ⟨hA.part ⟨rfl, rfl, rfl, rfl, rfl, trivial⟩, ((hS).sel [0] rfl).selR [0, 1, 2] rfl⟩⟩
  ·replace hG1 := iteF hc1 hG1
   refine cw_exit <| xcons_hit ?_
   cases hG1
   have ho := hr1 _ rfl; subst ho
   exact ⟨rfl, hA.part trivial, ((hS).sel [] rfl).selR [] rfl⟩
 ·skip
  clear hA hS hl1
  rintro a w ⟨heq, hA, hS⟩
  replace hF : impl_listFits_j1 = some r := by rw [heq] at hF; exact hF
  clear heq
  unfold impl_listFits_j1 at hF
  refine cw_seq <| cw_ops hA ?_
  clear hA
  refine oa rfl rfl <| ops_nil fun a hA => cw_ret ?_
  cases hF
  exact fy Tryz.results110 hA rfl hS

theorem c_impl_MemOk {w0 : World} {m : Mem} {s1 : Value} {s2 : Value} {s3 : Value} {s4 : Value} {r : Bool} (h1 : Rep.rd (All w0) w0 [s1] (m.Heap.Bytes : List Int)) (h2 : Rep.rd (All w0) w0 [s2] (m.Heap.Class : List Int)) (h3 : Rep.rd (All w0) w0 [s3] (m.Lists.Global : List SList)) (h4 : Rep.rd (All w0) w0 [s4] (m.Lists.Own : List SList)) (hF : impl_MemOk m = some r) :
    Calls Tryz.prog 65 #[.agg #[s1, s2, s3, s4]] w0 (Ret fun v w' => v = .bool (r) ∧ St (cxAll w0) w' [] []) := by
 have hS : St (cxAll w0) w0 [] [fRd [s1] (m.Heap.Bytes : List Int), fRd [s2] (m.Heap.Class : List Int), fRd [s3] (m.Lists.Global : List SList), fRd [s4] (m.Lists.Own : List SList)] := St.enter (by
   intro f hf
   simp only [List.mem_cons, List.not_mem_nil, or_false] at hf
   rcases hf with rfl | rfl | rfl | rfl
   · exact h1
   · exact h2
   · exact h3
   · exact h4)
 refine calls_cw (args := [_]) Tryz.func65 rfl Tryz.ntmps65 rfl ?_
 unfold impl_MemOk at hF
 intro a hA
 refine cw_seq <| cw_ops hA ?_
 clear hA
 refine ops_mv (rv_box (cs := [s1, s2, s3, s4]) hS rfl rfl rfl) (want_yes rfl) rfl rfl ?_
 clear hS
 rintro _ w ⟨b1, rfl, hS⟩
 refine oa rfl rfl <| ops_nil fun a hA => cw_seq <| cw_seq <| cw_cut (J := fun a' w' => ∃ (x1 : Bool), impl_MemOk_j1 m x1 = some r ∧ AEnv 50 [(1, .pointer (some ⟨b1, 0, none⟩)), (16, .bool (x1))] a' ∧ St (cxAll w0) w' [cBox b1 [s1, s2, s3, s4]] [fRd [s1] (m.Heap.Bytes : List Int), fRd [s2] (m.Heap.Class : List Int), fRd [s3] (m.Lists.Global : List SList), fRd [s4] (m.Lists.Own : List SList)]) ?_ ?_
 ·skip
  refine cw_ops hA ?_
  clear hA
  refine oy (rv_fld (m := 1) Tryz.underlying43 rfl rfl Tryz.sizeOf38 rfl rfl) rfl <| oy (rv_loadN rfl rfl Tryz.isAgg38 Tryz.sizeOf38 rfl (hS.cells 0 0 (cs' := [s1, s2]) rfl rfl)) rfl ?_
  obtain ⟨x10, hx10, hF⟩ := bindE hF
  refine ops_c (rc_call Tryz.call108 rfl rfl) (want_yes rfl) rfl rfl (c_impl_HeapOk (h := m.Heap) (hS.rd 0 rfl) (hS.rd 1 rfl) hx10) ?_
  rintro _ w ⟨rfl, hk⟩
  replace hS := hS.after hk; clear hk
  refine oy (rv_not rfl rfl) rfl <| om rfl rfl <| ops_case (s := 11) rfl (fun hc6 => ?_) (fun hc6 => ?_)
  ·replace hF := iteT hc6 hF
   refine ops_off (want_if rfl rfl rfl (by rw [hc6]; rfl)) rfl rfl <| ops_off (want_if rfl rfl rfl (by rw [hc6]; rfl)) rfl rfl <| ops_off (want_if rfl rfl rfl (by rw [hc6]; rfl)) rfl rfl <| ops_off (want_if rfl rfl rfl (by rw [hc6]; rfl)) rfl rfl <| oy (rv_pick_t rfl rfl hc6 rfl) rfl <| ops_nil fun a hA => ?_
   exact ⟨true, hF, hA.part ⟨rfl, rfl, trivial⟩, ((hS).sel [0] rfl).selR [0, 1, 2, 3] rfl⟩
  ·replace hF := iteF hc6 hF
   refine ops_v (rv_fld (m := 1) Tryz.underlying43 rfl rfl Tryz.sizeOf41 rfl rfl) (want_if rfl rfl rfl (by rw [hc6]; rfl)) rfl rfl <| ops_v (rv_loadN rfl rfl Tryz.isAgg41 Tryz.sizeOf41 rfl (hS.cells 0 2 (cs' := [s3, s4]) rfl rfl)) (want_if rfl rfl rfl (by rw [hc6]; rfl)) rfl rfl ?_
   obtain ⟨x11, hx11, hF⟩ := bindE hF
   refine ops_c (rc_call Tryz.call109 rfl rfl) (want_if rfl rfl rfl (by rw [hc6]; rfl)) rfl rfl (c_impl_ListsOk (l := m.Lists) (hS.rd 2 rfl) (hS.rd 3 rfl) hx11) ?_
   rintro _ w ⟨rfl, hk⟩
   replace hS := hS.after hk; clear hk
   refine ops_v (rv_not rfl rfl) (want_if rfl rfl rfl (by rw [hc6]; rfl)) rfl rfl <| oy (rv_pick_f rfl rfl hc6 rfl) rfl <| ops_nil fun a hA => ?_
   exact ⟨!x11, hF, hA.part ⟨rfl, rfl, trivial⟩, ((hS).sel [0] rfl).selR [0, 1, 2, 3] rfl⟩
 ·skip
  clear hA hS hF
  rintro a w ⟨x1, hF, hA, hS⟩
  unfold impl_MemOk_j1 at hF
  refine cw_cond hA rfl (fun hc1 => ?_) (fun hc1 => ?_)
  ·replace hF := iteT hc1 hF
   refine cw_seq <| cw_ops hA ?_
   clear hA
   refine oa rfl rfl <| ops_nil fun a hA => cw_ret ?_
   cases hF
   exact fy Tryz.results65 hA rfl hS
  ·replace hF := iteF hc1 hF
   refine cw_skip <| cw_seq <| cw_seq <| cw_ops hA ?_
   clear hA
   refine oy (rv_fld (m := 1) Tryz.underlying43 rfl rfl Tryz.sizeOf41 rfl rfl) rfl <| oy (rv_fld (m := 0) Tryz.underlying41 rfl rfl Tryz.sizeOf39 rfl rfl) rfl <| oy (rv_load1 rfl rfl Tryz.isAgg39 (hS.cell 0 rfl rfl)) rfl <| oy (rv_lenS (hS.rd 2 rfl) Tryz.underlying39 rfl rfl) rfl <| om rfl rfl <| ops_nil fun a hA => ?_
   obtain ⟨o1, hl1, hF⟩ := bindE hF
   refine cw_cut (J := fun a' w' => o1 = Out.brk (()) ∧ AEnv 50 [(1, .pointer (some ⟨b1, 0, none⟩))] a' ∧ St (cxAll w0) w' [cBox b1 [s1, s2, s3, s4]] [fRd [s1] (m.Heap.Bytes : List Int), fRd [s2] (m.Heap.Class : List Int), fRd [s3] (m.Lists.Global : List SList), fRd [s4] (m.Lists.Own : List SList)]) ?_ ?_
   ·refine cw_block ?_
    refine cw_loop (body := impl_MemOk_l2 m) (r := o1) (fun sg a' w' => AEnv 50 [(1, .pointer (some ⟨b1, 0, none⟩)), (19, s3), (20, .int .i64 ((m.Lists.Global.length : Int))), (21, .int .i64 (sg))] a' ∧ St (cxAll w0) w' [cBox b1 [s1, s2, s3, s4]] [fRd [s3] (m.Lists.Global : List SList), fRd [s1] (m.Heap.Bytes : List Int), fRd [s2] (m.Heap.Class : List Int), fRd [s4] (m.Lists.Own : List SList)]) ?_ hl1 ⟨hA.part ⟨rfl, rfl, rfl, rfl, trivial⟩, ((hS).sel [0] rfl).selR [2, 0, 1, 3] rfl⟩
    clear hA hS hl1
    rintro x3 a w q2 ⟨hA, hS⟩ hG2 hr2
    try dsimp only at hA hS
    unfold impl_MemOk_l2 at hG2
    refine cw_seq <| cw_ops hA ?_
    clear hA
    refine oy (rv_lss rfl rfl rfl) rfl <| ops_nil fun a hA => cw_seq <| cw_cond hA rfl (fun hc4 => ?_) (fun hc4 => ?_)
    ·replace hG2 := iteT hc4 hG2
     refine cw_skip <| cw_seq <| cw_block <| cw_seq <| cw_ops hA ?_
     clear hA
     refine om rfl rfl ?_
     obtain ⟨x8, hx8, hG2⟩ := bindE hG2
     refine oy (rv_idx (m := 1) (hS.rd 0 rfl) rfl hx8 Tryz.underlying39 Tryz.sizeOf120 rfl rfl rfl) rfl ?_
     obtain ⟨s6, hel, hS⟩ := hS.el_SList 0 rfl (idx_some hx8).2.2
     refine oy (rv_loadN rfl rfl Tryz.isAgg120 Tryz.sizeOf120 rfl hel) rfl <| ops_mv (rv_alloc (cs := [(.slice none 0 0)]) hS rfl Tryz.zeroValue120 rfl) (want_yes rfl) rfl rfl ?_
     clear hS
     rintro _ w ⟨b3, rfl, hS⟩
     refine oa rfl rfl <| ops_ms (rs_box (vs := [s6]) hS (i := 1) rfl rfl rfl rfl rfl Tryz.sizeOf120 rfl rfl (all1 (one_rd (hS.rd 4 rfl)) rfl)) (want_yes rfl) rfl ?_
     clear hS
     intro w hS
     refine ops_nil fun a hA => cw_seq <| cw_ops hA ?_
     clear hA
     refine oy (rv_fld (m := 1) Tryz.underlying43 rfl rfl Tryz.sizeOf38 rfl rfl) rfl <| oy (rv_loadN rfl rfl Tryz.isAgg38 Tryz.sizeOf38 rfl (hS.cells 0 0 (cs' := [s1, s2]) rfl rfl)) rfl <| oy (rv_loadN rfl rfl Tryz.isAgg120 Tryz.sizeOf120 rfl (hS.cells 1 0 (cs' := [s6]) rfl rfl)) rfl <| om rfl rfl ?_
     obtain ⟨x9, hx9, hG2⟩ := bindE hG2
     refine ops_c (rc_call Tryz.call110 rfl rfl) (want_yes rfl) rfl rfl (c_impl_listFits (h := m.Heap) (s := x8) (c := x3) (hS.rd 1 rfl) (hS.rd 2 rfl) (hS.rd 4 rfl) hx9) ?_
     rintro _ w ⟨rfl, hk⟩
     replace hS := hS.after hk; clear hk
     refine oy (rv_not rfl rfl) rfl <| ops_nil fun a hA => cw_cond hA rfl (fun hc5 => ?_) (fun hc5 => ?_)
     ·replace hG2 := iteT hc5 hG2
      refine cw_seq <| cw_ops hA ?_
      clear hA
      refine oa rfl rfl <| ops_nil fun a hA => cw_ret ?_
      cases hG2
      have ho := hr2 _ rfl; subst ho
      replace hF : some false = some r := hF
      cases hF
      exact fy Tryz.results65 hA rfl hS
     ·replace hG2 := iteF hc5 hG2
      refine cw_skip <| cw_ops hA ?_
      clear hA
      refine oy (rv_add rfl rfl rfl) rfl <| om rfl rfl <| ops_nil fun a hA => ?_
      cases hG2
      exact ⟨_, rfl, ⟨hA.part ⟨rfl, rfl, rfl, rfl, trivial⟩, ((hS).sel [0] rfl).selR [0, 1, 2, 3] rfl⟩⟩
    ·replace hG2 := iteF hc4 hG2
     refine cw_exit <| xcons_hit ?_
     cases hG2
     have ho := hr2 _ rfl; subst ho
     exact ⟨rfl, hA.part ⟨rfl, trivial⟩, ((hS).sel [0] rfl).selR [1, 2, 0, 3] rfl⟩
   ·skip
    clear hA hS hl1
    rintro a w ⟨heq, hA, hS⟩
    replace hF : impl_MemOk_j2 m = some r := by rw [heq] at hF; exact hF
    clear heq
    unfold impl_MemOk_j2 at hF
    refine cw_seq <| cw_seq <| cw_ops hA ?_
    clear hA
    refine oy (rv_fld (m := 1) Tryz.underlying43 rfl rfl Tryz.sizeOf41 rfl rfl) rfl <| oy (rv_fld (m := 0) Tryz.underlying41 rfl rfl Tryz.sizeOf39 rfl rfl) rfl <| oy (rv_load1 rfl rfl Tryz.isAgg39 (hS.cell 0 rfl rfl)) rfl <| oy (rv_lenS (hS.rd 3 rfl) Tryz.underlying39 rfl rfl) rfl <| om rfl rfl <| ops_nil fun a hA => ?_
    obtain ⟨o2, hl2, hF⟩ := bindE hF
    refine cw_cut (J := fun a' w' => o2 = Out.brk (()) ∧ AEnv 50 [] a' ∧ St (cxAll w0) w' [] []) ?_ ?_
    ·refine cw_block ?_
     refine cw_loop (body := impl_MemOk_l3 m) (r := o2) (fun sg a' w' => AEnv 50 [(1, .pointer (some ⟨b1, 0, none⟩)), (35, s4), (36, .int .i64 ((m.Lists.Own.length : Int))), (37, .int .i64 (sg))] a' ∧ St (cxAll w0) w' [cBox b1 [s1, s2, s3, s4]] [fRd [s4] (m.Lists.Own : List SList), fRd [s1] (m.Heap.Bytes : List Int), fRd [s2] (m.Heap.Class : List Int), fRd [s3] (m.Lists.Global : List SList)]) ?_ hl2 ⟨hA.part ⟨rfl, rfl, rfl, rfl, trivial⟩, ((hS).sel [0] rfl).selR [3, 0, 1, 2] rfl⟩
     clear hA hS hl2
     rintro x5 a w q3 ⟨hA, hS⟩ hG3 hr3
     try dsimp only at hA hS
     unfold impl_MemOk_l3 at hG3
     refine cw_seq <| cw_ops hA ?_
     clear hA
     refine oy (rv_lss rfl rfl rfl) rfl <| ops_nil fun a hA => cw_seq <| cw_cond hA rfl (fun hc2 => ?_) (fun hc2 => ?_)
     ·replace hG3 := iteT hc2 hG3
      refine cw_skip <| cw_seq <| cw_block <| cw_seq <| cw_ops hA ?_
      clear hA
      refine om rfl rfl ?_
      obtain ⟨x6, hx6, hG3⟩ := bindE hG3
      refine oy (rv_idx (m := 1) (hS.rd 0 rfl) rfl hx6 Tryz.underlying39 Tryz.sizeOf120 rfl rfl rfl) rfl ?_
      obtain ⟨s5, hel, hS⟩ := hS.el_SList 0 rfl (idx_some hx6).2.2
      refine oy (rv_loadN rfl rfl Tryz.isAgg120 Tryz.sizeOf120 rfl hel) rfl <| ops_mv (rv_alloc (cs := [(.slice none 0 0)]) hS rfl Tryz.zeroValue120 rfl) (want_yes rfl) rfl rfl ?_
      clear hS
      rintro _ w ⟨b2, rfl, hS⟩
      refine oa rfl rfl <| ops_ms (rs_box (vs := [s5]) hS (i := 1) rfl rfl rfl rfl rfl Tryz.sizeOf120 rfl rfl (all1 (one_rd (hS.rd 4 rfl)) rfl)) (want_yes rfl) rfl ?_
      clear hS
      intro w hS
      refine ops_nil fun a hA => cw_seq <| cw_ops hA ?_
      clear hA
      refine oy (rv_fld (m := 1) Tryz.underlying43 rfl rfl Tryz.sizeOf38 rfl rfl) rfl <| oy (rv_loadN rfl rfl Tryz.isAgg38 Tryz.sizeOf38 rfl (hS.cells 0 0 (cs' := [s1, s2]) rfl rfl)) rfl <| oy (rv_loadN rfl rfl Tryz.isAgg120 Tryz.sizeOf120 rfl (hS.cells 1 0 (cs' := [s5]) rfl rfl)) rfl <| om rfl rfl <| oy (rv_rem rfl rfl rfl (by decide)) rfl ?_
      obtain ⟨x7, hx7, hG3⟩ := bindE hG3
      refine ops_c (rc_call Tryz.call110 rfl rfl) (want_yes rfl) rfl rfl (c_impl_listFits (h := m.Heap) (s := x6) (c := Int.tmod x5 3) (hS.rd 1 rfl) (hS.rd 2 rfl) (hS.rd 4 rfl) hx7) ?_
      rintro _ w ⟨rfl, hk⟩
      replace hS := hS.after hk; clear hk
      refine oy (rv_not rfl rfl) rfl <| ops_nil fun a hA => cw_cond hA rfl (fun hc3 => ?_) (fun hc3 => ?_)
      ·replace hG3 := iteT hc3 hG3
       refine cw_seq <| cw_ops hA ?_
       clear hA
       refine oa rfl rfl <| ops_nil fun a hA => cw_ret ?_
       cases hG3
       have ho := hr3 _ rfl; subst ho
       replace hF : some false = some r := hF
       cases hF
       exact fy Tryz.results65 hA rfl hS
      ·replace hG3 := iteF hc3 hG3
       refine cw_skip <| cw_ops hA ?_
       clear hA
       refine oy (rv_add rfl rfl rfl) rfl <| om rfl rfl <| ops_nil fun a hA => ?_
       cases hG3
       exact ⟨_, rfl, ⟨hA.part ⟨rfl, rfl, rfl, rfl, trivial⟩, ((hS).sel [0] rfl).selR [0, 1, 2, 3] rfl⟩⟩
     ·replace hG3 := iteF hc2 hG3
      refine cw_exit <| xcons_hit ?_
      cases hG3
      have ho := hr3 _ rfl; subst ho
      exact ⟨rfl, hA.part trivial, ((hS).sel [] rfl).selR [] rfl⟩
    ·skip
     clear hA hS hl2
     rintro a w ⟨heq, hA, hS⟩
     replace hF : impl_MemOk_j3 = some r := by rw [heq] at hF; exact hF
     clear heq
     unfold impl_MemOk_j3 at hF
     refine cw_seq <| cw_ops hA ?_
     clear hA
     refine oa rfl rfl <| ops_nil fun a hA => cw_ret ?_
     cases hF
     exact fy Tryz.results65 hA rfl hS

theorem c_slices_IndexFunc_Pin {w0 : World} {s : List Pin} {f : (Pin → Option Bool)} {s1 : Value} {g_f : FuncId} {cap_f : List Value} {r : Int} (h1 : Rep.rd (All w0) w0 [s1] (s : List Pin)) (hg_f : ∀ args w, (callFunc g_f args).run Tryz.prog w = .ok (.enter g_f args) w) (hp_f : ∀ (w' : World) (x0 : Pin)  (q : Bool), Keep F0 w0 w' → f x0 = some q → Calls Tryz.prog g_f (([.agg #[.bool (x0.On), .int .i64 (x0.Epoch), .bool (x0.Marked), .int .i64 (x0.Seen)]] : List Value) ++ cap_f).toArray w' (Ret fun v w'' => v = .bool (q) ∧ St (cxAll w') w'' [] [])) (hF : slices_IndexFunc_Pin s f = some r) :
    Calls Tryz.prog 142 #[s1, .func (.func g_f) #[] cap_f.toArray] w0 (Ret fun v w' => v = .int .i64 (r) ∧ St (cxAll w0) w' [] []) := by
 have hS : St (cxAll w0) w0 [] [fRd [s1] (s : List Pin)] := St.enter (by
   intro f hf
   simp only [List.mem_cons, List.not_mem_nil, or_false] at hf
   subst hf; exact h1)
 refine calls_cw (args := [_, _]) Tryz.func142 rfl Tryz.ntmps142 rfl ?_
 unfold slices_IndexFunc_Pin at hF
 intro a hA
 refine cw_seq <| cw_ops hA ?_
 clear hA
 refine oa rfl rfl <| ops_nil fun a hA => cw_seq <| cw_seq <| cw_ops hA ?_
 clear hA
 refine om rfl rfl <| oy (rv_lenS (hS.rd 0 rfl) Tryz.underlying44 rfl rfl) rfl <| om rfl rfl <| ops_nil fun a hA => ?_
 obtain ⟨o1, hl1, hF⟩ := bindE hF
 refine cw_cut (J := fun a' w' => o1 = Out.brk (()) ∧ AEnv 19 [] a' ∧ St (cxAll w0) w' [] []) ?_ ?_
 ·refine cw_block ?_
  refine cw_loop (body := slices_IndexFunc_Pin_l1 s f) (r := o1) (fun sg a' w' => AEnv 19 [(0, s1), (1, .func (.func g_f) #[] cap_f.toArray), (7, .int .i64 ((s.length : Int))), (8, .int .i64 (sg))] a' ∧ St (cxAll w0) w' [] [fRd [s1] (s : List Pin)]) ?_ hl1 ⟨hA.part ⟨rfl, rfl, rfl, rfl, trivial⟩, ((hS).sel [] rfl).selR [0] rfl⟩
  clear hA hS hl1
  rintro x2 a w q1 ⟨hA, hS⟩ hG1 hr1
  try dsimp only at hA hS
  unfold slices_IndexFunc_Pin_l1 at hG1
  refine cw_seq <| cw_ops hA ?_
  clear hA
  refine oy (rv_lss rfl rfl rfl) rfl <| ops_nil fun a hA => cw_seq <| cw_cond hA rfl (fun hc1 => ?_) (fun hc1 => ?_)
  ·replace hG1 := iteT hc1 hG1
   refine cw_skip <| cw_seq <| cw_block <| cw_seq <| cw_ops hA ?_
   clear hA
   refine om rfl rfl <| oa rfl rfl <| ops_nil fun a hA => cw_seq <| cw_ops hA ?_
   clear hA
   refine om rfl rfl <| om rfl rfl <| om rfl rfl ?_
   obtain ⟨x3, hx3, hG1⟩ := bindE hG1
   refine oy (rv_idx (m := 4) (hS.rd 0 rfl) rfl hx3 Tryz.underlying44 Tryz.sizeOf65 rfl rfl rfl) rfl <| oy (rv_loadN rfl rfl Tryz.isAgg65 Tryz.sizeOf65 rfl (el_Pin (hS.rd 0 rfl) (idx_some hx3).2.2)) rfl ?_
   obtain ⟨x4, hx4, hG1⟩ := bindE hG1
   refine ops_c (rc_callv hg_f rfl rfl rfl) (want_yes rfl) rfl rfl (hp_f _ x3  _ hS.keep  hx4) ?_
   rintro _ w ⟨rfl, hk⟩
   replace hS := hS.after hk; clear hk
   refine ops_nil fun a hA => cw_cond hA rfl (fun hc2 => ?_) (fun hc2 => ?_)
   ·replace hG1 := iteT hc2 hG1
    refine cw_seq <| cw_ops hA ?_
    clear hA
    refine om rfl rfl <| oa rfl rfl <| ops_nil fun a hA => cw_ret ?_
    cases hG1
    have ho := hr1 _ rfl; subst ho
    replace hF : some x2 = some r := hF
    cases hF
    exact fy Tryz.results142 hA rfl hS
   ·replace hG1 := iteF hc2 hG1
    refine cw_skip <| cw_ops hA ?_
    clear hA
    refine oy (rv_add rfl rfl rfl) rfl <| om rfl rfl <| ops_nil fun a hA => ?_
    cases hG1
    exact ⟨_, rfl, ⟨hA.part ⟨rfl, rfl, rfl, rfl, trivial⟩, ((hS).sel [] rfl).selR [0] rfl⟩⟩
  ·replace hG1 := iteF hc1 hG1
   refine cw_exit <| xcons_hit ?_
   cases hG1
   have ho := hr1 _ rfl; subst ho
   exact ⟨rfl, hA.part trivial, ((hS).sel [] rfl).selR [] rfl⟩
 ·skip
  clear hA hS hl1
  rintro a w ⟨heq, hA, hS⟩
  replace hF : slices_IndexFunc_Pin_j1 = some r := by rw [heq] at hF; exact hF
  clear heq
  unfold slices_IndexFunc_Pin_j1 at hF
  refine cw_seq <| cw_ops hA ?_
  clear hA
  refine oa rfl rfl <| ops_nil fun a hA => cw_ret ?_
  cases hF
  exact fy Tryz.results142 hA rfl hS

theorem c_slices_ContainsFunc_Pin {w0 : World} {s : List Pin} {f : (Pin → Option Bool)} {s1 : Value} {g_f : FuncId} {cap_f : List Value} {r : Bool} (h1 : Rep.rd (All w0) w0 [s1] (s : List Pin)) (hg_f : ∀ args w, (callFunc g_f args).run Tryz.prog w = .ok (.enter g_f args) w) (hp_f : ∀ (w' : World) (x0 : Pin)  (q : Bool), Keep F0 w0 w' → f x0 = some q → Calls Tryz.prog g_f (([.agg #[.bool (x0.On), .int .i64 (x0.Epoch), .bool (x0.Marked), .int .i64 (x0.Seen)]] : List Value) ++ cap_f).toArray w' (Ret fun v w'' => v = .bool (q) ∧ St (cxAll w') w'' [] [])) (hF : slices_ContainsFunc_Pin s f = some r) :
    Calls Tryz.prog 111 #[s1, .func (.func g_f) #[] cap_f.toArray] w0 (Ret fun v w' => v = .bool (r) ∧ St (cxAll w0) w' [] []) := by
 have hS : St (cxAll w0) w0 [] [fRd [s1] (s : List Pin)] := St.enter (by
   intro f hf
   simp only [List.mem_cons, List.not_mem_nil, or_false] at hf
   subst hf; exact h1)
 refine calls_cw (args := [_, _]) Tryz.func111 rfl Tryz.ntmps111 rfl ?_
 unfold slices_ContainsFunc_Pin at hF
 intro a hA
 refine cw_seq <| cw_ops hA ?_
 clear hA
 refine oa rfl rfl <| ops_nil fun a hA => cw_seq <| cw_ops hA ?_
 clear hA
 refine om rfl rfl <| om rfl rfl ?_
 obtain ⟨x1, hx1, hF⟩ := bindE hF
 refine ops_c (rc_call Tryz.call142 rfl rfl) (want_yes rfl) rfl rfl (c_slices_IndexFunc_Pin (s := s) (f := f) (hS.rd 0 rfl) hg_f (fun w1 y0 q hk => hp_f w1 y0 q (hS.keep.trans hk fun _ _ _ h => h)) hx1) ?_
 rintro _ w ⟨rfl, hk⟩
 replace hS := hS.after hk; clear hk
 refine oy (rv_geq rfl rfl rfl) rfl <| oa rfl rfl <| ops_nil fun a hA => cw_ret ?_
 cases hF
 exact fy Tryz.results111 hA rfl hS

theorem c_impl_ClockOk_1 {w0 : World} {p : Pin} {k0 : Clock} {s1 : Value} {b1 : Nat} {r : Bool} (h1 : Rep.rd (All w0) w0 [s1] (k0.Pins : List Pin)) (h2 : (fCells b1 [.int .i64 (k0.Epoch), s1]).P (All w0) w0) (hF : impl_ClockOk_1 p k0 = some r) :
    Calls Tryz.prog 112 #[.agg #[.bool (p.On), .int .i64 (p.Epoch), .bool (p.Marked), .int .i64 (p.Seen)], .pointer (some ⟨b1, 0, none⟩)] w0 (Ret fun v w' => v = .bool (r) ∧ St (cxAll w0) w' [] []) := by
 have hS : St (cxAll w0) w0 [] [fRd [s1] (k0.Pins : List Pin), fCells b1 [.int .i64 (k0.Epoch), s1]] := St.enter (by
   intro f hf
   simp only [List.mem_cons, List.not_mem_nil, or_false] at hf
   rcases hf with rfl | rfl
   · exact h1
   · exact h2)
 refine calls_cw (args := [_, _]) Tryz.func112 rfl Tryz.ntmps112 rfl ?_
 unfold impl_ClockOk_1 at hF
 intro a hA
 refine cw_seq <| cw_ops hA ?_
 clear hA
 refine ops_mv (rv_box (cs := [.bool (p.On), .int .i64 (p.Epoch), .bool (p.Marked), .int .i64 (p.Seen)]) hS rfl rfl rfl) (want_yes rfl) rfl rfl ?_
 clear hS
 rintro _ w ⟨b2, rfl, hS⟩
 refine oa rfl rfl <| ops_nil fun a hA => cw_seq <| cw_cut (J := fun a' w' => ∃ (x1 : Bool), impl_ClockOk_1_j1 x1 = some r ∧ AEnv 26 [(3, .bool (x1))] a' ∧ St (cxAll w0) w' [] []) ?_ ?_
 ·skip
  refine cw_ops hA ?_
  clear hA
  refine oy (rv_fld (m := 0) Tryz.underlying65 rfl rfl Tryz.sizeOf3 rfl rfl) rfl <| oy (rv_load1 rfl rfl Tryz.isAgg3 (hS.cell 0 rfl rfl)) rfl <| oy (rv_fld (m := 0) Tryz.underlying46 rfl rfl Tryz.sizeOf3 rfl rfl) rfl <| oy (rv_load1 rfl rfl Tryz.isAgg3 (hS.fcell 1 rfl rfl)) rfl ?_
  obtain ⟨x2, hx2, hF⟩ := bindE hF
  refine ops_c (rc_call Tryz.call75 rfl rfl) (want_yes rfl) rfl rfl (c_impl_within (n := p.Epoch) (low := 0) (high := k0.Epoch)  hx2) ?_
  rintro _ w ⟨rfl, hk⟩
  replace hS := hS.after hk; clear hk
  refine oy (rv_not rfl rfl) rfl <| om rfl rfl <| ops_case (s := 10) rfl (fun hc1 => ?_) (fun hc1 => ?_)
  ·replace hF := iteT hc1 hF
   refine ops_off (want_if rfl rfl rfl (by rw [hc1]; rfl)) rfl rfl <| ops_off (want_if rfl rfl rfl (by rw [hc1]; rfl)) rfl rfl <| ops_off (want_if rfl rfl rfl (by rw [hc1]; rfl)) rfl rfl <| ops_off (want_if rfl rfl rfl (by rw [hc1]; rfl)) rfl rfl <| oy (rv_pick_t rfl rfl hc1 rfl) rfl <| om rfl rfl <| ops_off (want_if rfl rfl rfl rfl) rfl rfl <| ops_off (want_if rfl rfl rfl rfl) rfl rfl <| ops_off (want_if rfl rfl rfl rfl) rfl rfl ?_
   refine ops_off (want_if rfl rfl rfl rfl) rfl rfl <| ops_off (want_no rfl rfl rfl) rfl rfl <| ops_off (want_no rfl rfl rfl) rfl rfl <| ops_off (want_no rfl rfl rfl) rfl rfl <| ops_off (want_if rfl rfl rfl rfl) rfl rfl <| oy (rv_pick_t rfl rfl rfl rfl) rfl <| oa rfl rfl <| ops_nil fun a hA => ?_
   exact ⟨true, hF, hA.part ⟨rfl, trivial⟩, ((hS).sel [] rfl).selR [] rfl⟩
  ·replace hF := iteF hc1 hF
   refine ops_v (rv_fld (m := 0) Tryz.underlying65 rfl rfl Tryz.sizeOf3 rfl rfl) (want_if rfl rfl rfl (by rw [hc1]; rfl)) rfl rfl <| ops_v (rv_load1 rfl rfl Tryz.isAgg3 (hS.cell 0 rfl rfl)) (want_if rfl rfl rfl (by rw [hc1]; rfl)) rfl rfl ?_
   obtain ⟨x3, hx3, hF⟩ := bindE hF
   refine ops_c (rc_call Tryz.call75 rfl rfl) (want_if rfl rfl rfl (by rw [hc1]; rfl)) rfl rfl (c_impl_within (n := p.Seen) (low := 0) (high := 2)  hx3) ?_
   rintro _ w ⟨rfl, hk⟩
   replace hS := hS.after hk; clear hk
   refine ops_v (rv_not rfl rfl) (want_if rfl rfl rfl (by rw [hc1]; rfl)) rfl rfl <| oy (rv_pick_f rfl rfl hc1 rfl) rfl <| om rfl rfl <| ops_case (s := 16) rfl (fun hc2 => ?_) (fun hc2 => ?_)
   ·replace hF := iteT hc2 hF
    refine ops_off (want_if rfl rfl rfl (by rw [hc2]; rfl)) rfl rfl <| ops_off (want_if rfl rfl rfl (by rw [hc2]; rfl)) rfl rfl <| ops_off (want_if rfl rfl rfl (by rw [hc2]; rfl)) rfl rfl <| ops_off (want_if rfl rfl rfl (by rw [hc2]; rfl)) rfl rfl <| ops_off (want_no rfl rfl rfl) rfl rfl <| ops_off (want_no rfl rfl rfl) rfl rfl <| ops_off (want_no rfl rfl rfl) rfl rfl <| ops_off (want_if rfl rfl rfl (by rw [hc2]; rfl)) rfl rfl <| oy (rv_pick_t rfl rfl hc2 rfl) rfl ?_
    refine oa rfl rfl <| ops_nil fun a hA => ?_
    exact ⟨true, hF, hA.part ⟨rfl, trivial⟩, ((hS).sel [] rfl).selR [] rfl⟩
   ·replace hF := iteF hc2 hF
    refine ops_v (rv_fld (m := 0) Tryz.underlying65 rfl rfl Tryz.sizeOf4 rfl rfl) (want_if rfl rfl rfl (by rw [hc2]; rfl)) rfl rfl <| ops_v (rv_load1 rfl rfl Tryz.isAgg4 (hS.cell 0 rfl rfl)) (want_if rfl rfl rfl (by rw [hc2]; rfl)) rfl rfl <| ops_v (rv_not rfl rfl) (want_if rfl rfl rfl (by rw [hc2]; rfl)) rfl rfl <| ops_v (rv_move rfl rfl) (want_if rfl rfl rfl (by rw [hc2]; rfl)) rfl rfl <| ops_case (s := 20) rfl (fun hc3 => ?_) (fun hc3 => ?_)
    ·replace hF := iteT hc3 hF
     refine ops_v (rv_loadN rfl rfl Tryz.isAgg65 Tryz.sizeOf65 rfl (hS.cells 0 0 (cs' := [.bool (p.On), .int .i64 (p.Epoch), .bool (p.Marked), .int .i64 (p.Seen)]) rfl rfl)) (want_if rfl rfl rfl (by rw [hc3]; rfl)) rfl rfl <| ops_v (rv_build (cells := #[.bool (false), .int .i64 (0), .bool (false), .int .i64 (0)]) rfl Tryz.zeroValue65 Tryz.underlying65 (by have h := places_Tryz65; rw [Tryz.underlying65] at h; exact h) rfl rfl) (want_if rfl rfl rfl (by rw [hc3]; rfl)) rfl rfl <| ops_v (rv_neqS Tryz.eqGuardType65 Tryz.stoodInHeld65 Tryz.underlying65 (eqf_Tryz65 9997 p (⟨false, 0, false, 0⟩ : Pin)) rfl rfl rfl) (want_if rfl rfl rfl (by rw [hc3]; rfl)) rfl rfl <| ops_v (rv_pick_t rfl rfl hc3 rfl) (want_if rfl rfl rfl (by rw [hc2]; rfl)) rfl rfl <| oy (rv_pick_f rfl rfl hc2 rfl) rfl <| oa rfl rfl <| ops_nil fun a hA => ?_
     exact ⟨!(decide (p = (⟨false, 0, false, 0⟩ : Pin))), hF, hA.part ⟨rfl, trivial⟩, ((hS).sel [] rfl).selR [] rfl⟩
    ·replace hF := iteF hc3 hF
     refine ops_off (want_if rfl rfl rfl (by rw [hc3]; rfl)) rfl rfl <| ops_off (want_if rfl rfl rfl (by rw [hc3]; rfl)) rfl rfl <| ops_off (want_if rfl rfl rfl (by rw [hc3]; rfl)) rfl rfl <| ops_v (rv_pick_f rfl rfl hc3 rfl) (want_if rfl rfl rfl (by rw [hc2]; rfl)) rfl rfl <| oy (rv_pick_f rfl rfl hc2 rfl) rfl <| oa rfl rfl <| ops_nil fun a hA => ?_
     exact ⟨false, hF, hA.part ⟨rfl, trivial⟩, ((hS).sel [] rfl).selR [] rfl⟩
 ·skip
  clear hA hS hF
  rintro a w ⟨x1, hF, hA, hS⟩
  unfold impl_ClockOk_1_j1 at hF
  refine cw_ret ?_
  cases hF
  exact fy Tryz.results112 hA rfl hS

theorem c_impl_ClockOk {w0 : World} {c : Clock} {s1 : Value} {r : Bool} (h1 : Rep.rd (All w0) w0 [s1] (c.Pins : List Pin)) (hF : impl_ClockOk c = some r) :
    Calls Tryz.prog 66 #[.agg #[.int .i64 (c.Epoch), s1]] w0 (Ret fun v w' => v = .bool (r) ∧ St (cxAll w0) w' [] []) := by
 have hS : St (cxAll w0) w0 [] [fRd [s1] (c.Pins : List Pin)] := St.enter (by
   intro f hf
   simp only [List.mem_cons, List.not_mem_nil, or_false] at hf
   subst hf; exact h1)
 refine calls_cw (args := [_]) Tryz.func66 rfl Tryz.ntmps66 rfl ?_
 unfold impl_ClockOk at hF
 intro a hA
 refine cw_seq <| cw_ops hA ?_
 clear hA
 refine ops_mv (rv_box (cs := [.int .i64 (c.Epoch), s1]) hS rfl rfl rfl) (want_yes rfl) rfl rfl ?_
 clear hS
 rintro _ w ⟨b1, rfl, hS⟩
 refine oa rfl rfl <| ops_nil fun a hA => cw_seq <| cw_cut (J := fun a' w' => ∃ (x1 : Bool), impl_ClockOk_j1 x1 = some r ∧ AEnv 19 [(2, .bool (x1))] a' ∧ St (cxAll w0) w' [] []) ?_ ?_
 ·skip
  refine cw_ops hA ?_
  clear hA
  refine oy (rv_fld (m := 0) Tryz.underlying46 rfl rfl Tryz.sizeOf3 rfl rfl) rfl <| oy (rv_load1 rfl rfl Tryz.isAgg3 (hS.cell 0 rfl rfl)) rfl ?_
  obtain ⟨x2, hx2, hF⟩ := bindE hF
  refine ops_c (rc_call Tryz.call75 rfl rfl) (want_yes rfl) rfl rfl (c_impl_within (n := c.Epoch) (low := 0) (high := 100000)  hx2) ?_
  rintro _ w ⟨rfl, hk⟩
  replace hS := hS.after hk; clear hk
  refine om rfl rfl <| ops_case (s := 6) rfl (fun hc1 => ?_) (fun hc1 => ?_)
  ·replace hF := iteT hc1 hF
   refine ops_v (rv_fld (m := 0) Tryz.underlying46 rfl rfl Tryz.sizeOf44 rfl rfl) (want_if rfl rfl rfl (by rw [hc1]; rfl)) rfl rfl <| ops_v (rv_load1 rfl rfl Tryz.isAgg44 (hS.cell 0 rfl rfl)) (want_if rfl rfl rfl (by rw [hc1]; rfl)) rfl rfl <| ops_v (rv_lenS (hS.rd 0 rfl) Tryz.underlying44 rfl rfl) (want_if rfl rfl rfl (by rw [hc1]; rfl)) rfl rfl <| ops_v (rv_eql rfl rfl rfl) (want_if rfl rfl rfl (by rw [hc1]; rfl)) rfl rfl <| oy (rv_pick_t rfl rfl hc1 rfl) rfl <| om rfl rfl <| ops_case (s := 12) rfl (fun hc2 => ?_) (fun hc2 => ?_)
   ·replace hF := iteT hc2 hF
    refine ops_v (rv_fld (m := 0) Tryz.underlying46 rfl rfl Tryz.sizeOf44 rfl rfl) (want_if rfl rfl rfl (by rw [hc2]; rfl)) rfl rfl <| ops_v (rv_load1 rfl rfl Tryz.isAgg44 (hS.cell 0 rfl rfl)) (want_if rfl rfl rfl (by rw [hc2]; rfl)) rfl rfl ?_
    replace hS := hS.leakBox 0 rfl
    refine ops_v (rv_func (vf := []) (vc := [.pointer (some ⟨b1, 0, none⟩)]) rfl rfl rfl) (want_if rfl rfl rfl (by rw [hc2]; rfl)) rfl rfl ?_
    obtain ⟨x3, hx3, hF⟩ := bindE hF
    refine ops_c (rc_call Tryz.call111 rfl rfl) (want_if rfl rfl rfl (by rw [hc2]; rfl)) rfl rfl (c_slices_ContainsFunc_Pin (s := c.Pins) (f := (fun y0 => impl_ClockOk_1 y0 c)) (cap_f := [.pointer (some ⟨b1, 0, none⟩)]) (hS.rd 0 rfl) Tryz.call112 (fun w1 y0  q hk  hq => c_impl_ClockOk_1 (k0 := c)  (keepP (hS.fact 0 rfl) hk) (keepP (hS.fact 1 rfl) hk) hq) hx3) ?_
    rintro _ w ⟨rfl, hk⟩
    replace hS := hS.after hk; clear hk
    refine ops_v (rv_not rfl rfl) (want_if rfl rfl rfl (by rw [hc2]; rfl)) rfl rfl <| oy (rv_pick_t rfl rfl hc2 rfl) rfl <| oa rfl rfl <| ops_nil fun a hA => ?_
    exact ⟨!x3, hF, hA.part ⟨rfl, trivial⟩, ((hS).sel [] rfl).selR [] rfl⟩
   ·replace hF := iteF hc2 hF
    refine ops_off (want_if rfl rfl rfl (by rw [hc2]; rfl)) rfl rfl <| ops_off (want_if rfl rfl rfl (by rw [hc2]; rfl)) rfl rfl <| ops_off (want_if rfl rfl rfl (by rw [hc2]; rfl)) rfl rfl <| ops_off (want_if rfl rfl rfl (by rw [hc2]; rfl)) rfl rfl <| ops_off (want_if rfl rfl rfl (by rw [hc2]; rfl)) rfl rfl <| oy (rv_pick_f rfl rfl hc2 rfl) rfl <| oa rfl rfl <| ops_nil fun a hA => ?_
    exact ⟨false, hF, hA.part ⟨rfl, trivial⟩, ((hS).sel [] rfl).selR [] rfl⟩
  ·replace hF := iteF hc1 hF
   refine ops_off (want_if rfl rfl rfl (by rw [hc1]; rfl)) rfl rfl <| ops_off (want_if rfl rfl rfl (by rw [hc1]; rfl)) rfl rfl <| ops_off (want_if rfl rfl rfl (by rw [hc1]; rfl)) rfl rfl <| ops_off (want_if rfl rfl rfl (by rw [hc1]; rfl)) rfl rfl <| oy (rv_pick_f rfl rfl hc1 rfl) rfl <| om rfl rfl <| ops_off (want_if rfl rfl rfl rfl) rfl rfl <| ops_off (want_if rfl rfl rfl rfl) rfl rfl <| ops_off (want_if rfl rfl rfl rfl) rfl rfl ?_
   refine ops_off (want_if rfl rfl rfl rfl) rfl rfl <| ops_off (want_if rfl rfl rfl rfl) rfl rfl <| oy (rv_pick_f rfl rfl rfl rfl) rfl <| oa rfl rfl <| ops_nil fun a hA => ?_
   exact ⟨false, hF, hA.part ⟨rfl, trivial⟩, ((hS).sel [] rfl).selR [] rfl⟩
 ·skip
  clear hA hS hF
  rintro a w ⟨x1, hF, hA, hS⟩
  unfold impl_ClockOk_j1 at hF
  refine cw_ret ?_
  cases hF
  exact fy Tryz.results66 hA rfl hS

theorem c_impl_HandleOk {w0 : World} {h : Int}  {r : Bool}  (hF : impl_HandleOk h = some r) :
    Calls Tryz.prog 113 #[.int .i64 (h)] w0 (Ret fun v w' => v = .bool (r) ∧ St (cxAll w0) w' [] []) := by
 have hS : St (cxAll w0) w0 [] [] := St.enter (by
   intro f hf; cases hf)
 refine calls_cw (args := [_]) Tryz.func113 rfl Tryz.ntmps113 rfl ?_
 unfold impl_HandleOk at hF
 intro a hA
 refine cw_seq <| cw_ops hA ?_
 clear hA
 refine oa rfl rfl <| ops_nil fun a hA => cw_seq <| cw_cut (J := fun a' w' => ∃ (x1 : Bool), impl_HandleOk_j1 x1 = some r ∧ AEnv 10 [(2, .bool (x1))] a' ∧ St (cxAll w0) w' [] []) ?_ ?_
 ·skip
  refine cw_ops hA ?_
  clear hA
  refine om rfl rfl ?_
  obtain ⟨x2, hx2, hF⟩ := bindE hF
  refine ops_c (rc_call Tryz.call75 rfl rfl) (want_yes rfl) rfl rfl (c_impl_within (n := h) (low := 32) (high := 223)  hx2) ?_
  rintro _ w ⟨rfl, hk⟩
  replace hS := hS.after hk; clear hk
  refine om rfl rfl <| ops_case (s := 5) rfl (fun hc1 => ?_) (fun hc1 => ?_)
  ·replace hF := iteT hc1 hF
   refine ops_v (rv_move rfl rfl) (want_if rfl rfl rfl (by rw [hc1]; rfl)) rfl rfl <| ops_v (rv_rem rfl rfl rfl (by decide)) (want_if rfl rfl rfl (by rw [hc1]; rfl)) rfl rfl <| ops_v (rv_lss rfl rfl rfl) (want_if rfl rfl rfl (by rw [hc1]; rfl)) rfl rfl <| oy (rv_pick_t rfl rfl hc1 rfl) rfl <| oa rfl rfl <| ops_nil fun a hA => ?_
   exact ⟨decide ((Int.tmod h 32) < 24), hF, hA.part ⟨rfl, trivial⟩, ((hS).sel [] rfl).selR [] rfl⟩
  ·replace hF := iteF hc1 hF
   refine ops_off (want_if rfl rfl rfl (by rw [hc1]; rfl)) rfl rfl <| ops_off (want_if rfl rfl rfl (by rw [hc1]; rfl)) rfl rfl <| ops_off (want_if rfl rfl rfl (by rw [hc1]; rfl)) rfl rfl <| oy (rv_pick_f rfl rfl hc1 rfl) rfl <| oa rfl rfl <| ops_nil fun a hA => ?_
   exact ⟨false, hF, hA.part ⟨rfl, trivial⟩, ((hS).sel [] rfl).selR [] rfl⟩
 ·skip
  clear hA hS hF
  rintro a w ⟨x1, hF, hA, hS⟩
  unfold impl_HandleOk_j1 at hF
  refine cw_ret ?_
  cases hF
  exact fy Tryz.results113 hA rfl hS

theorem c_impl_LimboSize {w0 : World} {l : List LList} {s1 : Value} {r : Int} (h1 : Rep.rd (All w0) w0 [s1] (l : List LList)) (hF : impl_LimboSize l = some r) :
    Calls Tryz.prog 114 #[s1] w0 (Ret fun v w' => v = .int .i64 (r) ∧ St (cxAll w0) w' [] []) := by
 have hS : St (cxAll w0) w0 [] [fRd [s1] (l : List LList)] := St.enter (by
   intro f hf
   simp only [List.mem_cons, List.not_mem_nil, or_false] at hf
   subst hf; exact h1)
 refine calls_cw (args := [_]) Tryz.func114 rfl Tryz.ntmps114 rfl ?_
 unfold impl_LimboSize at hF
 intro a hA
 refine cw_seq <| cw_ops hA ?_
 clear hA
 refine oa rfl rfl <| ops_nil fun a hA => cw_seq <| cw_ops hA ?_
 clear hA
 refine oa rfl rfl <| ops_nil fun a hA => cw_seq <| cw_seq <| cw_ops hA ?_
 clear hA
 refine om rfl rfl <| oy (rv_lenS (hS.rd 0 rfl) Tryz.underlying47 rfl rfl) rfl <| om rfl rfl <| ops_nil fun a hA => ?_
 obtain ⟨o1, hl1, hF⟩ := bindE hF
 refine cw_cut (J := fun a' w' => ∃ (x5 : Int), o1 = x5 ∧ AEnv 19 [(3, .int .i64 (x5))] a' ∧ St (cxAll w0) w' [] []) ?_ ?_
 ·refine cw_block ?_
  refine cw_loop (body := impl_LimboSize_l1 l) (r := o1) (fun sg a' w' => AEnv 19 [(3, .int .i64 (sg.1)), (6, s1), (7, .int .i64 ((l.length : Int))), (8, .int .i64 (sg.2))] a' ∧ St (cxAll w0) w' [] [fRd [s1] (l : List LList)]) ?_ hl1 ⟨hA.part ⟨rfl, rfl, rfl, rfl, trivial⟩, ((hS).sel [] rfl).selR [0] rfl⟩
  clear hA hS hl1
  rintro ⟨x3, x4⟩ a w q1 ⟨hA, hS⟩ hG1 hr1
  try dsimp only at hA hS
  unfold impl_LimboSize_l1 at hG1
  refine cw_seq <| cw_ops hA ?_
  clear hA
  refine oy (rv_lss rfl rfl rfl) rfl <| ops_nil fun a hA => cw_seq <| cw_cond hA rfl (fun hc1 => ?_) (fun hc1 => ?_)
  ·replace hG1 := iteT hc1 hG1
   refine cw_skip <| cw_seq <| cw_block <| cw_seq <| cw_ops hA ?_
   clear hA
   obtain ⟨x6, hx6, hG1⟩ := bindE hG1
   refine oy (rv_idx (m := 1) (hS.rd 0 rfl) rfl hx6 Tryz.underlying47 Tryz.sizeOf69 rfl rfl rfl) rfl ?_
   obtain ⟨s2, hel, hS⟩ := hS.el_LList 0 rfl (idx_some hx6).2.2
   refine oy (rv_loadN rfl rfl Tryz.isAgg69 Tryz.sizeOf69 rfl hel) rfl <| ops_mv (rv_alloc (cs := [(.slice none 0 0)]) hS rfl Tryz.zeroValue69 rfl) (want_yes rfl) rfl rfl ?_
   clear hS
   rintro _ w ⟨b1, rfl, hS⟩
   refine ops_ms (rs_box (vs := [s2]) hS (i := 0) rfl rfl rfl rfl rfl Tryz.sizeOf69 rfl rfl (all1 (one_rd (hS.rd 1 rfl)) rfl)) (want_yes rfl) rfl ?_
   clear hS
   intro w hS
   refine ops_nil fun a hA => cw_ops hA ?_
   clear hA
   refine om rfl rfl <| oy (rv_fld (m := 0) Tryz.underlying69 rfl rfl Tryz.sizeOf67 rfl rfl) rfl <| oy (rv_load1 rfl rfl Tryz.isAgg67 (hS.cell 0 rfl rfl)) rfl <| oy (rv_lenS (hS.rd 1 rfl) Tryz.underlying67 rfl rfl) rfl <| oy (rv_add rfl rfl rfl) rfl <| oa rfl rfl <| ops_nil fun a hA => cw_ops hA ?_
   clear hA
   refine oy (rv_add rfl rfl rfl) rfl <| om rfl rfl <| ops_nil fun a hA => ?_
   cases hG1
   exact ⟨_, rfl, ⟨hA.part ⟨rfl, rfl, rfl, rfl, trivial⟩, ((hS).sel [] rfl).selR [0] rfl⟩⟩
  ·replace hG1 := iteF hc1 hG1
   refine cw_exit <| xcons_hit ?_
   cases hG1
   have ho := hr1 _ rfl; subst ho
   exact ⟨x3, rfl, hA.part ⟨rfl, trivial⟩, ((hS).sel [] rfl).selR [] rfl⟩
 ·skip
  clear hA hS hl1
  rintro a w ⟨x5, heq, hA, hS⟩
  replace hF : impl_LimboSize_j1 x5 = some r := by rw [heq] at hF; exact hF
  clear heq
  unfold impl_LimboSize_j1 at hF
  refine cw_seq <| cw_ops hA ?_
  clear hA
  refine om rfl rfl <| oa rfl rfl <| ops_nil fun a hA => cw_ret ?_
  cases hF
  exact fy Tryz.results114 hA rfl hS
end Go.Proofs.YtpndngnohcffnaaGreat
