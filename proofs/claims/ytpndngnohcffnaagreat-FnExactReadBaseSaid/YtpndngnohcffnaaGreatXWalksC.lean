import Derived.Test.YtpndngnohcffnaaGreatXWalksB
set_option maxHeartbeats 4000000
set_option maxRecDepth 100000
namespace Go.Proofs.YtpndngnohcffnaaGreat
open Go.Gv
theorem c_impl_LimboOk {w0 : World} {l : List LList} {s1 : Value} {r : Bool} (h1 : Rep.rd (All w0) w0 [s1] (l : List LList)) (hF : impl_LimboOk l = some r) :
    Calls Tryz.prog 67 #[s1] w0 (Ret fun v w' => v = .bool (r) ∧ St (cxAll w0) w' [] []) := by
 have hS : St (cxAll w0) w0 [] [fRd [s1] (l : List LList)] := St.enter (by
   intro f hf
   simp only [List.mem_cons, List.not_mem_nil, or_false] at hf
   subst hf; exact h1)
 refine calls_cw (args := [_]) Tryz.func67 rfl Tryz.ntmps67 rfl ?_
 unfold impl_LimboOk at hF
 intro a hA
 refine cw_seq <| cw_ops hA ?_
 clear hA
 refine oa rfl rfl <| ops_nil fun a hA => cw_seq <| cw_seq <| cw_ops hA ?_
 clear hA
 refine om rfl rfl <| oy (rv_lenS (hS.rd 0 rfl) Tryz.underlying47 rfl rfl) rfl <| oy (rv_neq rfl rfl rfl) rfl <| ops_nil fun a hA => cw_cond hA rfl (fun hc1 => ?_) (fun hc1 => ?_)
 ·replace hF := iteT hc1 hF
  refine cw_seq <| cw_ops hA ?_
  clear hA
  refine oa rfl rfl <| ops_nil fun a hA => cw_ret ?_
  cases hF
  exact fy Tryz.results67 hA rfl hS
 ·replace hF := iteF hc1 hF
  refine cw_skip <| cw_seq <| cw_ops hA ?_
  clear hA
  refine oy (rv_buildA (cells := #[.bool (false), .bool (false), .bool (false), .bool (false), .bool (false), .bool (false), .bool (false), .bool (false), .bool (false), .bool (false), .bool (false), .bool (false), .bool (false), .bool (false), .bool (false), .bool (false), .bool (false), .bool (false), .bool (false), .bool (false), .bool (false), .bool (false), .bool (false), .bool (false)]) rfl Tryz.zeroValue152 Tryz.underlying152 Tryz.sizeOf4 rfl rfl) rfl <| ops_mv (rv_alloc (cs := List.map (fun q : Bool => Value.bool q) [false, false, false, false, false, false, false, false, false, false, false, false, false, false, false, false, false, false, false, false, false, false, false, false]) hS rfl Tryz.zeroValue152 rfl) (want_yes rfl) rfl rfl ?_
  clear hS
  rintro _ w ⟨b1, rfl, hS⟩
  refine ops_ms (rs_box (vs := [.bool (false), .bool (false), .bool (false), .bool (false), .bool (false), .bool (false), .bool (false), .bool (false), .bool (false), .bool (false), .bool (false), .bool (false), .bool (false), .bool (false), .bool (false), .bool (false), .bool (false), .bool (false), .bool (false), .bool (false), .bool (false), .bool (false), .bool (false), .bool (false)]) hS (i := 0) rfl rfl rfl rfl rfl Tryz.sizeOf152 rfl rfl rfl) (want_yes rfl) rfl ?_
  clear hS
  intro w hS
  refine ops_nil fun a hA => cw_seq <| cw_seq <| cw_ops hA ?_
  clear hA
  refine om rfl rfl <| oy (rv_lenS (hS.rd 0 rfl) Tryz.underlying47 rfl rfl) rfl <| om rfl rfl <| ops_nil fun a hA => ?_
  obtain ⟨o1, hl1, hF⟩ := bindE hF
  refine cw_cut (J := fun a' w' => o1 = Out.brk (()) ∧ AEnv 51 [(0, s1)] a' ∧ St (cxAll w0) w' [] [fRd [s1] (l : List LList)]) ?_ ?_
  ·refine cw_block ?_
   refine cw_loop (body := impl_LimboOk_l1 l) (r := o1) (fun sg a' w' => AEnv 51 [(0, s1), (3, .pointer (some ⟨b1, 0, none⟩)), (12, s1), (13, .int .i64 ((l.length : Int))), (14, .int .i64 (sg.1))] a' ∧ St (cxAll w0) w' [cBox b1 (List.map (fun q : Bool => Value.bool q) (sg.2 : List Bool))] [fRd [s1] (l : List LList)]) ?_ hl1 ⟨hA.part ⟨rfl, rfl, rfl, rfl, rfl, trivial⟩, ((hS).sel [0] rfl).selR [0] rfl⟩
   clear hA hS hl1
   rintro ⟨x3, x4⟩ a w q1 ⟨hA, hS⟩ hG1 hr1
   try dsimp only at hA hS
   unfold impl_LimboOk_l1 at hG1
   refine cw_seq <| cw_ops hA ?_
   clear hA
   refine oy (rv_lss rfl rfl rfl) rfl <| ops_nil fun a hA => cw_seq <| cw_cond hA rfl (fun hc2 => ?_) (fun hc2 => ?_)
   ·replace hG1 := iteT hc2 hG1
    refine cw_skip <| cw_seq <| cw_block <| cw_seq <| cw_ops hA ?_
    clear hA
    obtain ⟨x6, hx6, hG1⟩ := bindE hG1
    refine oy (rv_idx (m := 1) (hS.rd 0 rfl) rfl hx6 Tryz.underlying47 Tryz.sizeOf69 rfl rfl rfl) rfl ?_
    obtain ⟨s2, hel, hS⟩ := hS.el_LList 0 rfl (idx_some hx6).2.2
    refine oy (rv_loadN rfl rfl Tryz.isAgg69 Tryz.sizeOf69 rfl hel) rfl <| ops_mv (rv_alloc (cs := [(.slice none 0 0)]) hS rfl Tryz.zeroValue69 rfl) (want_yes rfl) rfl rfl ?_
    clear hS
    rintro _ w ⟨b2, rfl, hS⟩
    refine ops_ms (rs_box (vs := [s2]) hS (i := 1) rfl rfl rfl rfl rfl Tryz.sizeOf69 rfl rfl (all1 (one_rd (hS.rd 1 rfl)) rfl)) (want_yes rfl) rfl ?_
    clear hS
    intro w hS
    refine ops_nil fun a hA => cw_seq <| cw_ops hA ?_
    clear hA
    refine oy (rv_fld (m := 0) Tryz.underlying69 rfl rfl Tryz.sizeOf67 rfl rfl) rfl <| oy (rv_load1 rfl rfl Tryz.isAgg67 (hS.cell 1 rfl rfl)) rfl <| oy (rv_lenS (hS.rd 1 rfl) Tryz.underlying67 rfl rfl) rfl <| om rfl rfl <| ops_nil fun a hA => ?_
    obtain ⟨o2, hl2, hG1⟩ := bindE hG1
    refine cw_cut (J := fun a' w' => ∃ (x11 : List Bool), o2 = Out.brk x11 ∧ AEnv 51 [(0, s1), (3, .pointer (some ⟨b1, 0, none⟩)), (12, s1), (13, .int .i64 ((l.length : Int))), (14, .int .i64 (x3))] a' ∧ St (cxAll w0) w' [cBox b1 (List.map (fun q : Bool => Value.bool q) (x11 : List Bool))] [fRd [s1] (l : List LList)]) ?_ ?_
    ·refine cw_block ?_
     refine cw_loop (body := impl_LimboOk_l2 x6) (r := o2) (fun sg a' w' => AEnv 51 [(0, s1), (3, .pointer (some ⟨b1, 0, none⟩)), (12, s1), (13, .int .i64 ((l.length : Int))), (14, .int .i64 (x3)), (19, s2), (20, .int .i64 ((x6.Rows.length : Int))), (21, .int .i64 (sg.1))] a' ∧ St (cxAll w0) w' [cBox b1 (List.map (fun q : Bool => Value.bool q) (sg.2 : List Bool))] [fRd [s1] (l : List LList), fRd [s2] (x6.Rows : List LRow)]) ?_ hl2 ⟨hA.part ⟨rfl, rfl, rfl, rfl, rfl, rfl, rfl, rfl, trivial⟩, ((hS).sel [0] rfl).selR [0, 1] rfl⟩
     clear hA hS hl2
     rintro ⟨x9, x10⟩ a w q2 ⟨hA, hS⟩ hG2 hr2
     try dsimp only at hA hS
     unfold impl_LimboOk_l2 at hG2
     refine cw_seq <| cw_ops hA ?_
     clear hA
     refine oy (rv_lss rfl rfl rfl) rfl <| ops_nil fun a hA => cw_seq <| cw_cond hA rfl (fun hc3 => ?_) (fun hc3 => ?_)
     ·replace hG2 := iteT hc3 hG2
      refine cw_skip <| cw_seq <| cw_block <| cw_seq <| cw_ops hA ?_
      clear hA
      obtain ⟨x12, hx12, hG2⟩ := bindE hG2
      refine oy (rv_idx (m := 2) (hS.rd 1 rfl) rfl hx12 Tryz.underlying67 Tryz.sizeOf71 rfl rfl rfl) rfl <| oy (rv_loadN rfl rfl Tryz.isAgg71 Tryz.sizeOf71 rfl (el_LRow (hS.rd 1 rfl) (idx_some hx12).2.2)) rfl <| ops_mv (rv_alloc (cs := [.int .i64 (0), .int .i64 (0)]) hS rfl Tryz.zeroValue71 rfl) (want_yes rfl) rfl rfl ?_
      clear hS
      rintro _ w ⟨b3, rfl, hS⟩
      refine ops_ms (rs_box (vs := [.int .i64 (x12.Handle), .int .i64 (x12.Epoch)]) hS (i := 1) rfl rfl rfl rfl rfl Tryz.sizeOf71 rfl rfl rfl) (want_yes rfl) rfl ?_
      clear hS
      intro w hS
      refine ops_nil fun a hA => cw_seq <| cw_seq <| cw_cut (J := fun a' w' => ∃ (x13 : Bool), impl_LimboOk_j3 x9 x10 x12 x13 = some q2 ∧ AEnv 51 [(0, s1), (3, .pointer (some ⟨b1, 0, none⟩)), (7, .pointer (some ⟨b3, 0, none⟩)), (12, s1), (13, .int .i64 ((l.length : Int))), (14, .int .i64 (x3)), (19, s2), (20, .int .i64 ((x6.Rows.length : Int))), (21, .int .i64 (x9)), (41, .bool (x13))] a' ∧ St (cxAll w0) w' [cBox b1 (List.map (fun q : Bool => Value.bool q) (x10 : List Bool)), cBox b3 [.int .i64 (x12.Handle), .int .i64 (x12.Epoch)]] [fRd [s1] (l : List LList), fRd [s2] (x6.Rows : List LRow)]) ?_ ?_
      ·skip
       refine cw_ops hA ?_
       clear hA
       refine oy (rv_fld (m := 0) Tryz.underlying71 rfl rfl Tryz.sizeOf3 rfl rfl) rfl <| oy (rv_load1 rfl rfl Tryz.isAgg3 (hS.cell 1 rfl rfl)) rfl ?_
       obtain ⟨x15, hx15, hG2⟩ := bindE hG2
       refine ops_c (rc_call Tryz.call113 rfl rfl) (want_yes rfl) rfl rfl (c_impl_HandleOk (h := x12.Handle)  hx15) ?_
       rintro _ w ⟨rfl, hk⟩
       replace hS := hS.after hk; clear hk
       refine oy (rv_not rfl rfl) rfl <| om rfl rfl <| ops_case (s := 29) rfl (fun hc5 => ?_) (fun hc5 => ?_)
       ·replace hG2 := iteT hc5 hG2
        refine ops_off (want_if rfl rfl rfl (by rw [hc5]; rfl)) rfl rfl <| ops_off (want_if rfl rfl rfl (by rw [hc5]; rfl)) rfl rfl <| ops_off (want_if rfl rfl rfl (by rw [hc5]; rfl)) rfl rfl <| ops_off (want_if rfl rfl rfl (by rw [hc5]; rfl)) rfl rfl <| oy (rv_pick_t rfl rfl hc5 rfl) rfl <| om rfl rfl <| ops_off (want_if rfl rfl rfl rfl) rfl rfl <| ops_off (want_if rfl rfl rfl rfl) rfl rfl <| ops_off (want_if rfl rfl rfl rfl) rfl rfl ?_
        refine ops_off (want_if rfl rfl rfl rfl) rfl rfl <| ops_off (want_if rfl rfl rfl rfl) rfl rfl <| oy (rv_pick_t rfl rfl rfl rfl) rfl <| ops_nil fun a hA => ?_
        exact ⟨true, hG2, hA.part ⟨rfl, rfl, rfl, rfl, rfl, rfl, rfl, rfl, rfl, rfl, trivial⟩, ((hS).sel [0, 1] rfl).selR [0, 1] rfl⟩
       ·replace hG2 := iteF hc5 hG2
        refine ops_v (rv_fld (m := 0) Tryz.underlying71 rfl rfl Tryz.sizeOf3 rfl rfl) (want_if rfl rfl rfl (by rw [hc5]; rfl)) rfl rfl <| ops_v (rv_load1 rfl rfl Tryz.isAgg3 (hS.cell 1 rfl rfl)) (want_if rfl rfl rfl (by rw [hc5]; rfl)) rfl rfl ?_
        obtain ⟨x16, hx16, hG2⟩ := bindE hG2
        refine ops_c (rc_call Tryz.call75 rfl rfl) (want_if rfl rfl rfl (by rw [hc5]; rfl)) rfl rfl (c_impl_within (n := x12.Epoch) (low := 0) (high := 100000)  hx16) ?_
        rintro _ w ⟨rfl, hk⟩
        replace hS := hS.after hk; clear hk
        refine ops_v (rv_not rfl rfl) (want_if rfl rfl rfl (by rw [hc5]; rfl)) rfl rfl <| oy (rv_pick_f rfl rfl hc5 rfl) rfl <| om rfl rfl <| ops_case (s := 35) rfl (fun hc6 => ?_) (fun hc6 => ?_)
        ·replace hG2 := iteT hc6 hG2
         refine ops_off (want_if rfl rfl rfl (by rw [hc6]; rfl)) rfl rfl <| ops_off (want_if rfl rfl rfl (by rw [hc6]; rfl)) rfl rfl <| ops_off (want_if rfl rfl rfl (by rw [hc6]; rfl)) rfl rfl <| ops_off (want_if rfl rfl rfl (by rw [hc6]; rfl)) rfl rfl <| ops_off (want_if rfl rfl rfl (by rw [hc6]; rfl)) rfl rfl <| oy (rv_pick_t rfl rfl hc6 rfl) rfl <| ops_nil fun a hA => ?_
         exact ⟨true, hG2, hA.part ⟨rfl, rfl, rfl, rfl, rfl, rfl, rfl, rfl, rfl, rfl, trivial⟩, ((hS).sel [0, 1] rfl).selR [0, 1] rfl⟩
        ·replace hG2 := iteF hc6 hG2
         refine ops_v (rv_fld (m := 0) Tryz.underlying71 rfl rfl Tryz.sizeOf3 rfl rfl) (want_if rfl rfl rfl (by rw [hc6]; rfl)) rfl rfl <| ops_v (rv_load1 rfl rfl Tryz.isAgg3 (hS.cell 1 rfl rfl)) (want_if rfl rfl rfl (by rw [hc6]; rfl)) rfl rfl <| ops_v (rv_rem rfl rfl rfl (by decide)) (want_if rfl rfl rfl (by rw [hc6]; rfl)) rfl rfl ?_
         obtain ⟨hn2, hG2⟩ := needE hG2
         refine ops_v (rv_idxA Tryz.underlying152 Tryz.sizeOf4 hn2 rfl rfl rfl) (want_if rfl rfl rfl (by rw [hc6]; rfl)) rfl rfl ?_
         obtain ⟨x17, hx17, hG2⟩ := bindE hG2
         refine ops_v (rv_load1 rfl rfl Tryz.isAgg4 (hS.arrcell 0 rfl hx17)) (want_if rfl rfl rfl (by rw [hc6]; rfl)) rfl rfl <| oy (rv_pick_f rfl rfl hc6 rfl) rfl <| ops_nil fun a hA => ?_
         exact ⟨x17, hG2, hA.part ⟨rfl, rfl, rfl, rfl, rfl, rfl, rfl, rfl, rfl, rfl, trivial⟩, ((hS).sel [0, 1] rfl).selR [0, 1] rfl⟩
      ·skip
       clear hA hS hG2
       rintro a w ⟨x13, hG2, hA, hS⟩
       unfold impl_LimboOk_j3 at hG2
       refine cw_cond hA rfl (fun hc4 => ?_) (fun hc4 => ?_)
       ·replace hG2 := iteT hc4 hG2
        refine cw_seq <| cw_ops hA ?_
        clear hA
        refine oa rfl rfl <| ops_nil fun a hA => cw_ret ?_
        cases hG2
        have ho := hr2 _ rfl; subst ho
        replace hG1 : some (.stop (Out.ret false)) = some q1 := hG1
        cases hG1
        have ho := hr1 _ rfl; subst ho
        replace hF : some false = some r := hF
        cases hF
        exact fy Tryz.results67 hA rfl hS
       ·replace hG2 := iteF hc4 hG2
        refine cw_skip <| cw_ops hA ?_
        clear hA
        refine oy (rv_fld (m := 0) Tryz.underlying71 rfl rfl Tryz.sizeOf3 rfl rfl) rfl <| oy (rv_load1 rfl rfl Tryz.isAgg3 (hS.cell 1 rfl rfl)) rfl <| oy (rv_rem rfl rfl rfl (by decide)) rfl ?_
        obtain ⟨hn1, hG2⟩ := needE hG2
        refine oy (rv_idxA Tryz.underlying152 Tryz.sizeOf4 hn1 rfl rfl rfl) rfl ?_
        obtain ⟨x14, hx14, hG2⟩ := bindE hG2
        refine ops_ms (rs_arr (xd := true) hS (m := 0) rfl hx14 Tryz.sizeOf4 rfl rfl rfl rfl rfl rfl) (want_yes rfl) rfl ?_
        clear hS
        intro w hS
        refine ops_nil fun a hA => cw_ops hA ?_
        clear hA
        refine oy (rv_add rfl rfl rfl) rfl <| om rfl rfl <| ops_nil fun a hA => ?_
        cases hG2
        exact ⟨_, rfl, ⟨hA.part ⟨rfl, rfl, rfl, rfl, rfl, rfl, rfl, rfl, trivial⟩, ((hS).sel [0] rfl).selR [0, 1] rfl⟩⟩
     ·replace hG2 := iteF hc3 hG2
      refine cw_exit <| xcons_hit ?_
      cases hG2
      have ho := hr2 _ rfl; subst ho
      exact ⟨x10, rfl, hA.part ⟨rfl, rfl, rfl, rfl, rfl, trivial⟩, ((hS).sel [0] rfl).selR [0] rfl⟩
    ·skip
     clear hA hS hl2
     rintro a w ⟨x11, heq, hA, hS⟩
     replace hG1 : impl_LimboOk_j2 x3 x11 = some q1 := by rw [heq] at hG1; exact hG1
     clear heq
     unfold impl_LimboOk_j2 at hG1
     refine cw_ops hA ?_
     clear hA
     refine oy (rv_add rfl rfl rfl) rfl <| om rfl rfl <| ops_nil fun a hA => ?_
     cases hG1
     exact ⟨_, rfl, ⟨hA.part ⟨rfl, rfl, rfl, rfl, rfl, trivial⟩, ((hS).sel [0] rfl).selR [0] rfl⟩⟩
   ·replace hG1 := iteF hc2 hG1
    refine cw_exit <| xcons_hit ?_
    cases hG1
    have ho := hr1 _ rfl; subst ho
    exact ⟨rfl, hA.part ⟨rfl, trivial⟩, ((hS).sel [] rfl).selR [0] rfl⟩
  ·skip
   clear hA hS hl1
   rintro a w ⟨heq, hA, hS⟩
   replace hF : impl_LimboOk_j1 l = some r := by rw [heq] at hF; exact hF
   clear heq
   unfold impl_LimboOk_j1 at hF
   refine cw_seq <| cw_ops hA ?_
   clear hA
   refine om rfl rfl ?_
   obtain ⟨x5, hx5, hF⟩ := bindE hF
   refine ops_c (rc_call Tryz.call114 rfl rfl) (want_yes rfl) rfl rfl (c_impl_LimboSize (l := l) (hS.rd 0 rfl) hx5) ?_
   rintro _ w ⟨rfl, hk⟩
   replace hS := hS.after hk; clear hk
   refine oy (rv_leq rfl rfl rfl) rfl <| oa rfl rfl <| ops_nil fun a hA => cw_ret ?_
   cases hF
   exact fy Tryz.results67 hA rfl hS

theorem c_impl_isLink {w0 : World} {h : Int}  {r : Bool}  (hF : impl_isLink h = some r) :
    Calls Tryz.prog 117 #[.int .i64 (h)] w0 (Ret fun v w' => v = .bool (r) ∧ St (cxAll w0) w' [] []) := by
 have hS : St (cxAll w0) w0 [] [] := St.enter (by
   intro f hf; cases hf)
 refine calls_cw (args := [_]) Tryz.func117 rfl Tryz.ntmps117 rfl ?_
 unfold impl_isLink at hF
 intro a hA
 refine cw_seq <| cw_ops hA ?_
 clear hA
 refine oa rfl rfl <| ops_nil fun a hA => cw_seq <| cw_cut (J := fun a' w' => ∃ (x1 : Bool), impl_isLink_j1 x1 = some r ∧ AEnv 9 [(2, .bool (x1))] a' ∧ St (cxAll w0) w' [] []) ?_ ?_
 ·skip
  refine cw_ops hA ?_
  clear hA
  refine om rfl rfl <| oy (rv_eql rfl rfl rfl) rfl <| om rfl rfl <| ops_case (s := 5) rfl (fun hc1 => ?_) (fun hc1 => ?_)
  ·replace hF := iteT hc1 hF
   refine ops_off (want_if rfl rfl rfl (by rw [hc1]; rfl)) rfl rfl <| ops_off (want_if rfl rfl rfl (by rw [hc1]; rfl)) rfl rfl <| oy (rv_pick_t rfl rfl hc1 rfl) rfl <| oa rfl rfl <| ops_nil fun a hA => ?_
   exact ⟨true, hF, hA.part ⟨rfl, trivial⟩, ((hS).sel [] rfl).selR [] rfl⟩
  ·replace hF := iteF hc1 hF
   refine ops_v (rv_move rfl rfl) (want_if rfl rfl rfl (by rw [hc1]; rfl)) rfl rfl ?_
   obtain ⟨x2, hx2, hF⟩ := bindE hF
   refine ops_c (rc_call Tryz.call113 rfl rfl) (want_if rfl rfl rfl (by rw [hc1]; rfl)) rfl rfl (c_impl_HandleOk (h := h)  hx2) ?_
   rintro _ w ⟨rfl, hk⟩
   replace hS := hS.after hk; clear hk
   refine oy (rv_pick_f rfl rfl hc1 rfl) rfl <| oa rfl rfl <| ops_nil fun a hA => ?_
   exact ⟨x2, hF, hA.part ⟨rfl, trivial⟩, ((hS).sel [] rfl).selR [] rfl⟩
 ·skip
  clear hA hS hF
  rintro a w ⟨x1, hF, hA, hS⟩
  unfold impl_isLink_j1 at hF
  refine cw_ret ?_
  cases hF
  exact fy Tryz.results117 hA rfl hS

theorem c_impl_HazOk_1 {w0 : World} {h : Int}  {r : Bool}  (hF : impl_HazOk_1 h = some r) :
    Calls Tryz.prog 116 #[.int .i64 (h)] w0 (Ret fun v w' => v = .bool (r) ∧ St (cxAll w0) w' [] []) := by
 have hS : St (cxAll w0) w0 [] [] := St.enter (by
   intro f hf; cases hf)
 refine calls_cw (args := [_]) Tryz.func116 rfl Tryz.ntmps116 rfl ?_
 unfold impl_HazOk_1 at hF
 intro a hA
 refine cw_seq <| cw_ops hA ?_
 clear hA
 refine oa rfl rfl <| ops_nil fun a hA => cw_seq <| cw_ops hA ?_
 clear hA
 refine om rfl rfl ?_
 obtain ⟨x1, hx1, hF⟩ := bindE hF
 refine ops_c (rc_call Tryz.call117 rfl rfl) (want_yes rfl) rfl rfl (c_impl_isLink (h := h)  hx1) ?_
 rintro _ w ⟨rfl, hk⟩
 replace hS := hS.after hk; clear hk
 refine oy (rv_not rfl rfl) rfl <| oa rfl rfl <| ops_nil fun a hA => cw_ret ?_
 cases hF
 exact fy Tryz.results116 hA rfl hS

theorem c_impl_HazOk {w0 : World} {z : List Int} {s1 : Value} {r : Bool} (h1 : Rep.rd (All w0) w0 [s1] (z : List Int)) (hF : impl_HazOk z = some r) :
    Calls Tryz.prog 68 #[s1] w0 (Ret fun v w' => v = .bool (r) ∧ St (cxAll w0) w' [] []) := by
 have hS : St (cxAll w0) w0 [] [fRd [s1] (z : List Int)] := St.enter (by
   intro f hf
   simp only [List.mem_cons, List.not_mem_nil, or_false] at hf
   subst hf; exact h1)
 refine calls_cw (args := [_]) Tryz.func68 rfl Tryz.ntmps68 rfl ?_
 unfold impl_HazOk at hF
 intro a hA
 refine cw_seq <| cw_ops hA ?_
 clear hA
 refine oa rfl rfl <| ops_nil fun a hA => cw_seq <| cw_cut (J := fun a' w' => ∃ (x1 : Bool), impl_HazOk_j1 x1 = some r ∧ AEnv 11 [(2, .bool (x1))] a' ∧ St (cxAll w0) w' [] []) ?_ ?_
 ·skip
  refine cw_ops hA ?_
  clear hA
  refine om rfl rfl <| oy (rv_lenS (hS.rd 0 rfl) Tryz.underlying22 rfl rfl) rfl <| oy (rv_eql rfl rfl rfl) rfl <| om rfl rfl <| ops_case (s := 6) rfl (fun hc1 => ?_) (fun hc1 => ?_)
  ·replace hF := iteT hc1 hF
   refine ops_v (rv_move rfl rfl) (want_if rfl rfl rfl (by rw [hc1]; rfl)) rfl rfl ?_
   obtain ⟨x2, hx2, hF⟩ := bindE hF
   refine ops_c (rc_call Tryz.call115 rfl rfl) (want_if rfl rfl rfl (by rw [hc1]; rfl)) rfl rfl (c_slices_ContainsFunc_int (s := z) (f := (fun y0 => impl_HazOk_1 y0 )) (cap_f := []) (hS.rd 0 rfl) Tryz.call116 (fun w1 y0  q hk  hq => c_impl_HazOk_1    hq) hx2) ?_
   rintro _ w ⟨rfl, hk⟩
   replace hS := hS.after hk; clear hk
   refine ops_v (rv_not rfl rfl) (want_if rfl rfl rfl (by rw [hc1]; rfl)) rfl rfl <| oy (rv_pick_t rfl rfl hc1 rfl) rfl <| oa rfl rfl <| ops_nil fun a hA => ?_
   exact ⟨!x2, hF, hA.part ⟨rfl, trivial⟩, ((hS).sel [] rfl).selR [] rfl⟩
  ·replace hF := iteF hc1 hF
   refine ops_off (want_if rfl rfl rfl (by rw [hc1]; rfl)) rfl rfl <| ops_off (want_if rfl rfl rfl (by rw [hc1]; rfl)) rfl rfl <| ops_off (want_if rfl rfl rfl (by rw [hc1]; rfl)) rfl rfl <| oy (rv_pick_f rfl rfl hc1 rfl) rfl <| oa rfl rfl <| ops_nil fun a hA => ?_
   exact ⟨false, hF, hA.part ⟨rfl, trivial⟩, ((hS).sel [] rfl).selR [] rfl⟩
 ·skip
  clear hA hS hF
  rintro a w ⟨x1, hF, hA, hS⟩
  unfold impl_HazOk_j1 at hF
  refine cw_ret ?_
  cases hF
  exact fy Tryz.results68 hA rfl hS

theorem c_slices_IndexFunc_LList {w0 : World} {s : List LList} {f : (LList → Option Bool)} {s1 : Value} {g_f : FuncId} {cap_f : List Value} {r : Int} (h1 : Rep.rd (All w0) w0 [s1] (s : List LList)) (hg_f : ∀ args w, (callFunc g_f args).run Tryz.prog w = .ok (.enter g_f args) w) (hp_f : ∀ (w' : World) (x0 : LList) (v0_0 : Value) (q : Bool), Keep F0 w0 w' → Rep.rd (All w') w' [v0_0] (x0.Rows : List LRow) → f x0 = some q → Calls Tryz.prog g_f (([.agg #[v0_0]] : List Value) ++ cap_f).toArray w' (Ret fun v w'' => v = .bool (q) ∧ St (cxAll w') w'' [] [])) (hF : slices_IndexFunc_LList s f = some r) :
    Calls Tryz.prog 118 #[s1, .func (.func g_f) #[] cap_f.toArray] w0 (Ret fun v w' => v = .int .i64 (r) ∧ St (cxAll w0) w' [] []) := by
 have hS : St (cxAll w0) w0 [] [fRd [s1] (s : List LList)] := St.enter (by
   intro f hf
   simp only [List.mem_cons, List.not_mem_nil, or_false] at hf
   subst hf; exact h1)
 refine calls_cw (args := [_, _]) Tryz.func118 rfl Tryz.ntmps118 rfl ?_
 unfold slices_IndexFunc_LList at hF
 intro a hA
 refine cw_seq <| cw_ops hA ?_
 clear hA
 refine oa rfl rfl <| ops_nil fun a hA => cw_seq <| cw_seq <| cw_ops hA ?_
 clear hA
 refine om rfl rfl <| oy (rv_lenS (hS.rd 0 rfl) Tryz.underlying47 rfl rfl) rfl <| om rfl rfl <| ops_nil fun a hA => ?_
 obtain ⟨o1, hl1, hF⟩ := bindE hF
 refine cw_cut (J := fun a' w' => o1 = Out.brk (()) ∧ AEnv 19 [] a' ∧ St (cxAll w0) w' [] []) ?_ ?_
 ·refine cw_block ?_
  refine cw_loop (body := slices_IndexFunc_LList_l1 s f) (r := o1) (fun sg a' w' => AEnv 19 [(0, s1), (1, .func (.func g_f) #[] cap_f.toArray), (7, .int .i64 ((s.length : Int))), (8, .int .i64 (sg))] a' ∧ St (cxAll w0) w' [] [fRd [s1] (s : List LList)]) ?_ hl1 ⟨hA.part ⟨rfl, rfl, rfl, rfl, trivial⟩, ((hS).sel [] rfl).selR [0] rfl⟩
  clear hA hS hl1
  rintro x2 a w q1 ⟨hA, hS⟩ hG1 hr1
  try dsimp only at hA hS
  unfold slices_IndexFunc_LList_l1 at hG1
  refine cw_seq <| cw_ops hA ?_
  clear hA
  refine oy (rv_lss rfl rfl rfl) rfl <| ops_nil fun a hA => cw_seq <| cw_cond hA rfl (fun hc1 => ?_) (fun hc1 => ?_)
  ·replace hG1 := iteT hc1 hG1
   refine cw_skip <| cw_seq <| cw_block <| cw_seq <| cw_ops hA ?_
   clear hA
   refine om rfl rfl <| oa rfl rfl <| ops_nil fun a hA => cw_seq <| cw_ops hA ?_
   clear hA
   refine om rfl rfl <| om rfl rfl <| om rfl rfl ?_
   obtain ⟨x3, hx3, hG1⟩ := bindE hG1
   refine oy (rv_idx (m := 1) (hS.rd 0 rfl) rfl hx3 Tryz.underlying47 Tryz.sizeOf69 rfl rfl rfl) rfl ?_
   obtain ⟨s2, hel, hS⟩ := hS.el_LList 0 rfl (idx_some hx3).2.2
   refine oy (rv_loadN rfl rfl Tryz.isAgg69 Tryz.sizeOf69 rfl hel) rfl ?_
   obtain ⟨x4, hx4, hG1⟩ := bindE hG1
   refine ops_c (rc_callv hg_f rfl rfl rfl) (want_yes rfl) rfl rfl (hp_f _ x3 s2 _ hS.keep (hS.rd 1 rfl) hx4) ?_
   rintro _ w ⟨rfl, hk⟩
   replace hS := hS.after hk; clear hk
   refine ops_nil fun a hA => cw_cond hA rfl (fun hc2 => ?_) (fun hc2 => ?_)
   ·replace hG1 := iteT hc2 hG1
    refine cw_seq <| cw_ops hA ?_
    clear hA
    refine om rfl rfl <| oa rfl rfl <| ops_nil fun a hA => cw_ret ?_
    cases hG1
    have ho := hr1 _ rfl; subst ho
    replace hF : some x2 = some r := hF
    cases hF
    exact fy Tryz.results118 hA rfl hS
   ·replace hG1 := iteF hc2 hG1
    refine cw_skip <| cw_ops hA ?_
    clear hA
    refine oy (rv_add rfl rfl rfl) rfl <| om rfl rfl <| ops_nil fun a hA => ?_
    cases hG1
    exact ⟨_, rfl, ⟨hA.part ⟨rfl, rfl, rfl, rfl, trivial⟩, ((hS).sel [] rfl).selR [0] rfl⟩⟩
  ·replace hG1 := iteF hc1 hG1
   refine cw_exit <| xcons_hit ?_
   cases hG1
   have ho := hr1 _ rfl; subst ho
   exact ⟨rfl, hA.part trivial, ((hS).sel [] rfl).selR [] rfl⟩
 ·skip
  clear hA hS hl1
  rintro a w ⟨heq, hA, hS⟩
  replace hF : slices_IndexFunc_LList_j1 = some r := by rw [heq] at hF; exact hF
  clear heq
  unfold slices_IndexFunc_LList_j1 at hF
  refine cw_seq <| cw_ops hA ?_
  clear hA
  refine oa rfl rfl <| ops_nil fun a hA => cw_ret ?_
  cases hF
  exact fy Tryz.results118 hA rfl hS

theorem c_slices_ContainsFunc_LList {w0 : World} {s : List LList} {f : (LList → Option Bool)} {s1 : Value} {g_f : FuncId} {cap_f : List Value} {r : Bool} (h1 : Rep.rd (All w0) w0 [s1] (s : List LList)) (hg_f : ∀ args w, (callFunc g_f args).run Tryz.prog w = .ok (.enter g_f args) w) (hp_f : ∀ (w' : World) (x0 : LList) (v0_0 : Value) (q : Bool), Keep F0 w0 w' → Rep.rd (All w') w' [v0_0] (x0.Rows : List LRow) → f x0 = some q → Calls Tryz.prog g_f (([.agg #[v0_0]] : List Value) ++ cap_f).toArray w' (Ret fun v w'' => v = .bool (q) ∧ St (cxAll w') w'' [] [])) (hF : slices_ContainsFunc_LList s f = some r) :
    Calls Tryz.prog 69 #[s1, .func (.func g_f) #[] cap_f.toArray] w0 (Ret fun v w' => v = .bool (r) ∧ St (cxAll w0) w' [] []) := by
 have hS : St (cxAll w0) w0 [] [fRd [s1] (s : List LList)] := St.enter (by
   intro f hf
   simp only [List.mem_cons, List.not_mem_nil, or_false] at hf
   subst hf; exact h1)
 refine calls_cw (args := [_, _]) Tryz.func69 rfl Tryz.ntmps69 rfl ?_
 unfold slices_ContainsFunc_LList at hF
 intro a hA
 refine cw_seq <| cw_ops hA ?_
 clear hA
 refine oa rfl rfl <| ops_nil fun a hA => cw_seq <| cw_ops hA ?_
 clear hA
 refine om rfl rfl <| om rfl rfl ?_
 obtain ⟨x1, hx1, hF⟩ := bindE hF
 refine ops_c (rc_call Tryz.call118 rfl rfl) (want_yes rfl) rfl rfl (c_slices_IndexFunc_LList (s := s) (f := f) (hS.rd 0 rfl) hg_f (fun w1 y0 y1 q hk => hp_f w1 y0 y1 q (hS.keep.trans hk fun _ _ _ h => h)) hx1) ?_
 rintro _ w ⟨rfl, hk⟩
 replace hS := hS.after hk; clear hk
 refine oy (rv_geq rfl rfl rfl) rfl <| oa rfl rfl <| ops_nil fun a hA => cw_ret ?_
 cases hF
 exact fy Tryz.results69 hA rfl hS

theorem c_slices_IndexFunc_LRow {w0 : World} {s : List LRow} {f : (LRow → Option Bool)} {s1 : Value} {g_f : FuncId} {cap_f : List Value} {r : Int} (h1 : Rep.rd (All w0) w0 [s1] (s : List LRow)) (hg_f : ∀ args w, (callFunc g_f args).run Tryz.prog w = .ok (.enter g_f args) w) (hp_f : ∀ (w' : World) (x0 : LRow)  (q : Bool), Keep F0 w0 w' → f x0 = some q → Calls Tryz.prog g_f (([.agg #[.int .i64 (x0.Handle), .int .i64 (x0.Epoch)]] : List Value) ++ cap_f).toArray w' (Ret fun v w'' => v = .bool (q) ∧ St (cxAll w') w'' [] [])) (hF : slices_IndexFunc_LRow s f = some r) :
    Calls Tryz.prog 119 #[s1, .func (.func g_f) #[] cap_f.toArray] w0 (Ret fun v w' => v = .int .i64 (r) ∧ St (cxAll w0) w' [] []) := by
 have hS : St (cxAll w0) w0 [] [fRd [s1] (s : List LRow)] := St.enter (by
   intro f hf
   simp only [List.mem_cons, List.not_mem_nil, or_false] at hf
   subst hf; exact h1)
 refine calls_cw (args := [_, _]) Tryz.func119 rfl Tryz.ntmps119 rfl ?_
 unfold slices_IndexFunc_LRow at hF
 intro a hA
 refine cw_seq <| cw_ops hA ?_
 clear hA
 refine oa rfl rfl <| ops_nil fun a hA => cw_seq <| cw_seq <| cw_ops hA ?_
 clear hA
 refine om rfl rfl <| oy (rv_lenS (hS.rd 0 rfl) Tryz.underlying67 rfl rfl) rfl <| om rfl rfl <| ops_nil fun a hA => ?_
 obtain ⟨o1, hl1, hF⟩ := bindE hF
 refine cw_cut (J := fun a' w' => o1 = Out.brk (()) ∧ AEnv 19 [] a' ∧ St (cxAll w0) w' [] []) ?_ ?_
 ·refine cw_block ?_
  refine cw_loop (body := slices_IndexFunc_LRow_l1 s f) (r := o1) (fun sg a' w' => AEnv 19 [(0, s1), (1, .func (.func g_f) #[] cap_f.toArray), (7, .int .i64 ((s.length : Int))), (8, .int .i64 (sg))] a' ∧ St (cxAll w0) w' [] [fRd [s1] (s : List LRow)]) ?_ hl1 ⟨hA.part ⟨rfl, rfl, rfl, rfl, trivial⟩, ((hS).sel [] rfl).selR [0] rfl⟩
  clear hA hS hl1
  rintro x2 a w q1 ⟨hA, hS⟩ hG1 hr1
  try dsimp only at hA hS
  unfold slices_IndexFunc_LRow_l1 at hG1
  refine cw_seq <| cw_ops hA ?_
  clear hA
  refine oy (rv_lss rfl rfl rfl) rfl <| ops_nil fun a hA => cw_seq <| cw_cond hA rfl (fun hc1 => ?_) (fun hc1 => ?_)
  ·replace hG1 := iteT hc1 hG1
   refine cw_skip <| cw_seq <| cw_block <| cw_seq <| cw_ops hA ?_
   clear hA
   refine om rfl rfl <| oa rfl rfl <| ops_nil fun a hA => cw_seq <| cw_ops hA ?_
   clear hA
   refine om rfl rfl <| om rfl rfl <| om rfl rfl ?_
   obtain ⟨x3, hx3, hG1⟩ := bindE hG1
   refine oy (rv_idx (m := 2) (hS.rd 0 rfl) rfl hx3 Tryz.underlying67 Tryz.sizeOf71 rfl rfl rfl) rfl <| oy (rv_loadN rfl rfl Tryz.isAgg71 Tryz.sizeOf71 rfl (el_LRow (hS.rd 0 rfl) (idx_some hx3).2.2)) rfl ?_
   obtain ⟨x4, hx4, hG1⟩ := bindE hG1
   refine ops_c (rc_callv hg_f rfl rfl rfl) (want_yes rfl) rfl rfl (hp_f _ x3  _ hS.keep  hx4) ?_
   rintro _ w ⟨rfl, hk⟩
   replace hS := hS.after hk; clear hk
   refine ops_nil fun a hA => cw_cond hA rfl (fun hc2 => ?_) (fun hc2 => ?_)
   ·replace hG1 := iteT hc2 hG1
    refine cw_seq <| cw_ops hA ?_
    clear hA
    refine om rfl rfl <| oa rfl rfl <| ops_nil fun a hA => cw_ret ?_
    cases hG1
    have ho := hr1 _ rfl; subst ho
    replace hF : some x2 = some r := hF
    cases hF
    exact fy Tryz.results119 hA rfl hS
   ·replace hG1 := iteF hc2 hG1
    refine cw_skip <| cw_ops hA ?_
    clear hA
    refine oy (rv_add rfl rfl rfl) rfl <| om rfl rfl <| ops_nil fun a hA => ?_
    cases hG1
    exact ⟨_, rfl, ⟨hA.part ⟨rfl, rfl, rfl, rfl, trivial⟩, ((hS).sel [] rfl).selR [0] rfl⟩⟩
  ·replace hG1 := iteF hc1 hG1
   refine cw_exit <| xcons_hit ?_
   cases hG1
   have ho := hr1 _ rfl; subst ho
   exact ⟨rfl, hA.part trivial, ((hS).sel [] rfl).selR [] rfl⟩
 ·skip
  clear hA hS hl1
  rintro a w ⟨heq, hA, hS⟩
  replace hF : slices_IndexFunc_LRow_j1 = some r := by rw [heq] at hF; exact hF
  clear heq
  unfold slices_IndexFunc_LRow_j1 at hF
  refine cw_seq <| cw_ops hA ?_
  clear hA
  refine oa rfl rfl <| ops_nil fun a hA => cw_ret ?_
  cases hF
  exact fy Tryz.results119 hA rfl hS

theorem c_slices_ContainsFunc_LRow {w0 : World} {s : List LRow} {f : (LRow → Option Bool)} {s1 : Value} {g_f : FuncId} {cap_f : List Value} {r : Bool} (h1 : Rep.rd (All w0) w0 [s1] (s : List LRow)) (hg_f : ∀ args w, (callFunc g_f args).run Tryz.prog w = .ok (.enter g_f args) w) (hp_f : ∀ (w' : World) (x0 : LRow)  (q : Bool), Keep F0 w0 w' → f x0 = some q → Calls Tryz.prog g_f (([.agg #[.int .i64 (x0.Handle), .int .i64 (x0.Epoch)]] : List Value) ++ cap_f).toArray w' (Ret fun v w'' => v = .bool (q) ∧ St (cxAll w') w'' [] [])) (hF : slices_ContainsFunc_LRow s f = some r) :
    Calls Tryz.prog 71 #[s1, .func (.func g_f) #[] cap_f.toArray] w0 (Ret fun v w' => v = .bool (r) ∧ St (cxAll w0) w' [] []) := by
 have hS : St (cxAll w0) w0 [] [fRd [s1] (s : List LRow)] := St.enter (by
   intro f hf
   simp only [List.mem_cons, List.not_mem_nil, or_false] at hf
   subst hf; exact h1)
 refine calls_cw (args := [_, _]) Tryz.func71 rfl Tryz.ntmps71 rfl ?_
 unfold slices_ContainsFunc_LRow at hF
 intro a hA
 refine cw_seq <| cw_ops hA ?_
 clear hA
 refine oa rfl rfl <| ops_nil fun a hA => cw_seq <| cw_ops hA ?_
 clear hA
 refine om rfl rfl <| om rfl rfl ?_
 obtain ⟨x1, hx1, hF⟩ := bindE hF
 refine ops_c (rc_call Tryz.call119 rfl rfl) (want_yes rfl) rfl rfl (c_slices_IndexFunc_LRow (s := s) (f := f) (hS.rd 0 rfl) hg_f (fun w1 y0 q hk => hp_f w1 y0 q (hS.keep.trans hk fun _ _ _ h => h)) hx1) ?_
 rintro _ w ⟨rfl, hk⟩
 replace hS := hS.after hk; clear hk
 refine oy (rv_geq rfl rfl rfl) rfl <| oa rfl rfl <| ops_nil fun a hA => cw_ret ?_
 cases hF
 exact fy Tryz.results71 hA rfl hS

theorem c_slices_IndexFunc_SList {w0 : World} {s : List SList} {f : (SList → Option Bool)} {s1 : Value} {g_f : FuncId} {cap_f : List Value} {r : Int} (h1 : Rep.rd (All w0) w0 [s1] (s : List SList)) (hg_f : ∀ args w, (callFunc g_f args).run Tryz.prog w = .ok (.enter g_f args) w) (hp_f : ∀ (w' : World) (x0 : SList) (v0_0 : Value) (q : Bool), Keep F0 w0 w' → Rep.rd (All w') w' [v0_0] (x0.Slots : List Int) → f x0 = some q → Calls Tryz.prog g_f (([.agg #[v0_0]] : List Value) ++ cap_f).toArray w' (Ret fun v w'' => v = .bool (q) ∧ St (cxAll w') w'' [] [])) (hF : slices_IndexFunc_SList s f = some r) :
    Calls Tryz.prog 172 #[s1, .func (.func g_f) #[] cap_f.toArray] w0 (Ret fun v w' => v = .int .i64 (r) ∧ St (cxAll w0) w' [] []) := by
 have hS : St (cxAll w0) w0 [] [fRd [s1] (s : List SList)] := St.enter (by
   intro f hf
   simp only [List.mem_cons, List.not_mem_nil, or_false] at hf
   subst hf; exact h1)
 refine calls_cw (args := [_, _]) Tryz.func172 rfl Tryz.ntmps172 rfl ?_
 unfold slices_IndexFunc_SList at hF
 intro a hA
 refine cw_seq <| cw_ops hA ?_
 clear hA
 refine oa rfl rfl <| ops_nil fun a hA => cw_seq <| cw_seq <| cw_ops hA ?_
 clear hA
 refine om rfl rfl <| oy (rv_lenS (hS.rd 0 rfl) Tryz.underlying39 rfl rfl) rfl <| om rfl rfl <| ops_nil fun a hA => ?_
 obtain ⟨o1, hl1, hF⟩ := bindE hF
 refine cw_cut (J := fun a' w' => o1 = Out.brk (()) ∧ AEnv 19 [] a' ∧ St (cxAll w0) w' [] []) ?_ ?_
 ·refine cw_block ?_
  refine cw_loop (body := slices_IndexFunc_SList_l1 s f) (r := o1) (fun sg a' w' => AEnv 19 [(0, s1), (1, .func (.func g_f) #[] cap_f.toArray), (7, .int .i64 ((s.length : Int))), (8, .int .i64 (sg))] a' ∧ St (cxAll w0) w' [] [fRd [s1] (s : List SList)]) ?_ hl1 ⟨hA.part ⟨rfl, rfl, rfl, rfl, trivial⟩, ((hS).sel [] rfl).selR [0] rfl⟩
  clear hA hS hl1
  rintro x2 a w q1 ⟨hA, hS⟩ hG1 hr1
  try dsimp only at hA hS
  unfold slices_IndexFunc_SList_l1 at hG1
  refine cw_seq <| cw_ops hA ?_
  clear hA
  refine oy (rv_lss rfl rfl rfl) rfl <| ops_nil fun a hA => cw_seq <| cw_cond hA rfl (fun hc1 => ?_) (fun hc1 => ?_)
  ·replace hG1 := iteT hc1 hG1
   refine cw_skip <| cw_seq <| cw_block <| cw_seq <| cw_ops hA ?_
   clear hA
   refine om rfl rfl <| oa rfl rfl <| ops_nil fun a hA => cw_seq <| cw_ops hA ?_
   clear hA
   refine om rfl rfl <| om rfl rfl <| om rfl rfl ?_
   obtain ⟨x3, hx3, hG1⟩ := bindE hG1
   refine oy (rv_idx (m := 1) (hS.rd 0 rfl) rfl hx3 Tryz.underlying39 Tryz.sizeOf120 rfl rfl rfl) rfl ?_
   obtain ⟨s2, hel, hS⟩ := hS.el_SList 0 rfl (idx_some hx3).2.2
   refine oy (rv_loadN rfl rfl Tryz.isAgg120 Tryz.sizeOf120 rfl hel) rfl ?_
   obtain ⟨x4, hx4, hG1⟩ := bindE hG1
   refine ops_c (rc_callv hg_f rfl rfl rfl) (want_yes rfl) rfl rfl (hp_f _ x3 s2 _ hS.keep (hS.rd 1 rfl) hx4) ?_
   rintro _ w ⟨rfl, hk⟩
   replace hS := hS.after hk; clear hk
   refine ops_nil fun a hA => cw_cond hA rfl (fun hc2 => ?_) (fun hc2 => ?_)
   ·replace hG1 := iteT hc2 hG1
    refine cw_seq <| cw_ops hA ?_
    clear hA
    refine om rfl rfl <| oa rfl rfl <| ops_nil fun a hA => cw_ret ?_
    cases hG1
    have ho := hr1 _ rfl; subst ho
    replace hF : some x2 = some r := hF
    cases hF
    exact fy Tryz.results172 hA rfl hS
   ·replace hG1 := iteF hc2 hG1
    refine cw_skip <| cw_ops hA ?_
    clear hA
    refine oy (rv_add rfl rfl rfl) rfl <| om rfl rfl <| ops_nil fun a hA => ?_
    cases hG1
    exact ⟨_, rfl, ⟨hA.part ⟨rfl, rfl, rfl, rfl, trivial⟩, ((hS).sel [] rfl).selR [0] rfl⟩⟩
  ·replace hG1 := iteF hc1 hG1
   refine cw_exit <| xcons_hit ?_
   cases hG1
   have ho := hr1 _ rfl; subst ho
   exact ⟨rfl, hA.part trivial, ((hS).sel [] rfl).selR [] rfl⟩
 ·skip
  clear hA hS hl1
  rintro a w ⟨heq, hA, hS⟩
  replace hF : slices_IndexFunc_SList_j1 = some r := by rw [heq] at hF; exact hF
  clear heq
  unfold slices_IndexFunc_SList_j1 at hF
  refine cw_seq <| cw_ops hA ?_
  clear hA
  refine oa rfl rfl <| ops_nil fun a hA => cw_ret ?_
  cases hF
  exact fy Tryz.results172 hA rfl hS

theorem c_slices_ContainsFunc_SList {w0 : World} {s : List SList} {f : (SList → Option Bool)} {s1 : Value} {g_f : FuncId} {cap_f : List Value} {r : Bool} (h1 : Rep.rd (All w0) w0 [s1] (s : List SList)) (hg_f : ∀ args w, (callFunc g_f args).run Tryz.prog w = .ok (.enter g_f args) w) (hp_f : ∀ (w' : World) (x0 : SList) (v0_0 : Value) (q : Bool), Keep F0 w0 w' → Rep.rd (All w') w' [v0_0] (x0.Slots : List Int) → f x0 = some q → Calls Tryz.prog g_f (([.agg #[v0_0]] : List Value) ++ cap_f).toArray w' (Ret fun v w'' => v = .bool (q) ∧ St (cxAll w') w'' [] [])) (hF : slices_ContainsFunc_SList s f = some r) :
    Calls Tryz.prog 164 #[s1, .func (.func g_f) #[] cap_f.toArray] w0 (Ret fun v w' => v = .bool (r) ∧ St (cxAll w0) w' [] []) := by
 have hS : St (cxAll w0) w0 [] [fRd [s1] (s : List SList)] := St.enter (by
   intro f hf
   simp only [List.mem_cons, List.not_mem_nil, or_false] at hf
   subst hf; exact h1)
 refine calls_cw (args := [_, _]) Tryz.func164 rfl Tryz.ntmps164 rfl ?_
 unfold slices_ContainsFunc_SList at hF
 intro a hA
 refine cw_seq <| cw_ops hA ?_
 clear hA
 refine oa rfl rfl <| ops_nil fun a hA => cw_seq <| cw_ops hA ?_
 clear hA
 refine om rfl rfl <| om rfl rfl ?_
 obtain ⟨x1, hx1, hF⟩ := bindE hF
 refine ops_c (rc_call Tryz.call172 rfl rfl) (want_yes rfl) rfl rfl (c_slices_IndexFunc_SList (s := s) (f := f) (hS.rd 0 rfl) hg_f (fun w1 y0 y1 q hk => hp_f w1 y0 y1 q (hS.keep.trans hk fun _ _ _ h => h)) hx1) ?_
 rintro _ w ⟨rfl, hk⟩
 replace hS := hS.after hk; clear hk
 refine oy (rv_geq rfl rfl rfl) rfl <| oa rfl rfl <| ops_nil fun a hA => cw_ret ?_
 cases hF
 exact fy Tryz.results164 hA rfl hS

theorem c_slices_Index_int {w0 : World} {s : List Int} {v : Int} {s1 : Value} {r : Int} (h1 : Rep.rd (All w0) w0 [s1] (s : List Int)) (hF : slices_Index_int s v = some r) :
    Calls Tryz.prog 171 #[s1, .int .i64 (v)] w0 (Ret fun v w' => v = .int .i64 (r) ∧ St (cxAll w0) w' [] []) := by
 have hS : St (cxAll w0) w0 [] [fRd [s1] (s : List Int)] := St.enter (by
   intro f hf
   simp only [List.mem_cons, List.not_mem_nil, or_false] at hf
   subst hf; exact h1)
 refine calls_cw (args := [_, _]) Tryz.func171 rfl Tryz.ntmps171 rfl ?_
 unfold slices_Index_int at hF
 intro a hA
 refine cw_seq <| cw_ops hA ?_
 clear hA
 refine oa rfl rfl <| ops_nil fun a hA => cw_seq <| cw_seq <| cw_ops hA ?_
 clear hA
 refine om rfl rfl <| oy (rv_lenS (hS.rd 0 rfl) Tryz.underlying22 rfl rfl) rfl <| om rfl rfl <| ops_nil fun a hA => ?_
 obtain ⟨o1, hl1, hF⟩ := bindE hF
 refine cw_cut (J := fun a' w' => o1 = Out.brk (()) ∧ AEnv 19 [] a' ∧ St (cxAll w0) w' [] []) ?_ ?_
 ·refine cw_block ?_
  refine cw_loop (body := slices_Index_int_l1 s v) (r := o1) (fun sg a' w' => AEnv 19 [(0, s1), (1, .int .i64 (v)), (7, .int .i64 ((s.length : Int))), (8, .int .i64 (sg))] a' ∧ St (cxAll w0) w' [] [fRd [s1] (s : List Int)]) ?_ hl1 ⟨hA.part ⟨rfl, rfl, rfl, rfl, trivial⟩, ((hS).sel [] rfl).selR [0] rfl⟩
  clear hA hS hl1
  rintro x2 a w q1 ⟨hA, hS⟩ hG1 hr1
  try dsimp only at hA hS
  unfold slices_Index_int_l1 at hG1
  refine cw_seq <| cw_ops hA ?_
  clear hA
  refine oy (rv_lss rfl rfl rfl) rfl <| ops_nil fun a hA => cw_seq <| cw_cond hA rfl (fun hc1 => ?_) (fun hc1 => ?_)
  ·replace hG1 := iteT hc1 hG1
   refine cw_skip <| cw_seq <| cw_block <| cw_seq <| cw_ops hA ?_
   clear hA
   refine om rfl rfl <| oa rfl rfl <| ops_nil fun a hA => cw_seq <| cw_ops hA ?_
   clear hA
   refine om rfl rfl <| om rfl rfl <| om rfl rfl ?_
   obtain ⟨x3, hx3, hG1⟩ := bindE hG1
   refine oy (rv_idx (m := 1) (hS.rd 0 rfl) rfl hx3 Tryz.underlying22 Tryz.sizeOf3 rfl rfl rfl) rfl <| oy (rv_load1 rfl rfl Tryz.isAgg3 (cell1 (el_Int (hS.rd 0 rfl) (idx_some hx3).2.2))) rfl <| oy (rv_eql rfl rfl rfl) rfl <| ops_nil fun a hA => cw_cond hA rfl (fun hc2 => ?_) (fun hc2 => ?_)
   ·replace hG1 := iteT hc2 hG1
    refine cw_seq <| cw_ops hA ?_
    clear hA
    refine om rfl rfl <| oa rfl rfl <| ops_nil fun a hA => cw_ret ?_
    cases hG1
    have ho := hr1 _ rfl; subst ho
    replace hF : some x2 = some r := hF
    cases hF
    exact fy Tryz.results171 hA rfl hS
   ·replace hG1 := iteF hc2 hG1
    refine cw_skip <| cw_ops hA ?_
    clear hA
    refine oy (rv_add rfl rfl rfl) rfl <| om rfl rfl <| ops_nil fun a hA => ?_
    cases hG1
    exact ⟨_, rfl, ⟨hA.part ⟨rfl, rfl, rfl, rfl, trivial⟩, ((hS).sel [] rfl).selR [0] rfl⟩⟩
  ·replace hG1 := iteF hc1 hG1
   refine cw_exit <| xcons_hit ?_
   cases hG1
   have ho := hr1 _ rfl; subst ho
   exact ⟨rfl, hA.part trivial, ((hS).sel [] rfl).selR [] rfl⟩
 ·skip
  clear hA hS hl1
  rintro a w ⟨heq, hA, hS⟩
  replace hF : slices_Index_int_j1 = some r := by rw [heq] at hF; exact hF
  clear heq
  unfold slices_Index_int_j1 at hF
  refine cw_seq <| cw_ops hA ?_
  clear hA
  refine oa rfl rfl <| ops_nil fun a hA => cw_ret ?_
  cases hF
  exact fy Tryz.results171 hA rfl hS

theorem c_slices_Contains_int {w0 : World} {s : List Int} {v : Int} {s1 : Value} {r : Bool} (h1 : Rep.rd (All w0) w0 [s1] (s : List Int)) (hF : slices_Contains_int s v = some r) :
    Calls Tryz.prog 163 #[s1, .int .i64 (v)] w0 (Ret fun v w' => v = .bool (r) ∧ St (cxAll w0) w' [] []) := by
 have hS : St (cxAll w0) w0 [] [fRd [s1] (s : List Int)] := St.enter (by
   intro f hf
   simp only [List.mem_cons, List.not_mem_nil, or_false] at hf
   subst hf; exact h1)
 refine calls_cw (args := [_, _]) Tryz.func163 rfl Tryz.ntmps163 rfl ?_
 unfold slices_Contains_int at hF
 intro a hA
 refine cw_seq <| cw_ops hA ?_
 clear hA
 refine oa rfl rfl <| ops_nil fun a hA => cw_seq <| cw_ops hA ?_
 clear hA
 refine om rfl rfl <| om rfl rfl ?_
 obtain ⟨x1, hx1, hF⟩ := bindE hF
 refine ops_c (rc_call Tryz.call171 rfl rfl) (want_yes rfl) rfl rfl (c_slices_Index_int (s := s) (v := v) (hS.rd 0 rfl) hx1) ?_
 rintro _ w ⟨rfl, hk⟩
 replace hS := hS.after hk; clear hk
 refine oy (rv_geq rfl rfl rfl) rfl <| oa rfl rfl <| ops_nil fun a hA => cw_ret ?_
 cases hF
 exact fy Tryz.results163 hA rfl hS

theorem c_impl_OnList_1 {w0 : World} {s : SList} {k0 : Int} {s1 : Value} {b1 : Nat} {r : Bool} (h1 : Rep.rd (All w0) w0 [s1] (s.Slots : List Int)) (h2 : (fCells b1 [.int .i64 (k0)]).P (All w0) w0) (hF : impl_OnList_1 s k0 = some r) :
    Calls Tryz.prog 162 #[.agg #[s1], .pointer (some ⟨b1, 0, none⟩)] w0 (Ret fun v w' => v = .bool (r) ∧ St (cxAll w0) w' [] []) := by
 have hS : St (cxAll w0) w0 [] [fRd [s1] (s.Slots : List Int), fCells b1 [.int .i64 (k0)]] := St.enter (by
   intro f hf
   simp only [List.mem_cons, List.not_mem_nil, or_false] at hf
   rcases hf with rfl | rfl
   · exact h1
   · exact h2)
 refine calls_cw (args := [_, _]) Tryz.func162 rfl Tryz.ntmps162 rfl ?_
 unfold impl_OnList_1 at hF
 intro a hA
 refine cw_seq <| cw_ops hA ?_
 clear hA
 refine ops_mv (rv_box (cs := [s1]) hS rfl rfl rfl) (want_yes rfl) rfl rfl ?_
 clear hS
 rintro _ w ⟨b2, rfl, hS⟩
 refine oa rfl rfl <| ops_nil fun a hA => cw_seq <| cw_ops hA ?_
 clear hA
 refine oy (rv_fld (m := 0) Tryz.underlying120 rfl rfl Tryz.sizeOf22 rfl rfl) rfl <| oy (rv_load1 rfl rfl Tryz.isAgg22 (hS.cell 0 rfl rfl)) rfl <| oy (rv_load1 rfl rfl Tryz.isAgg3 (hS.fcell 1 rfl rfl)) rfl ?_
 obtain ⟨x1, hx1, hF⟩ := bindE hF
 refine ops_c (rc_call Tryz.call163 rfl rfl) (want_yes rfl) rfl rfl (c_slices_Contains_int (s := s.Slots) (v := k0) (hS.rd 0 rfl) hx1) ?_
 rintro _ w ⟨rfl, hk⟩
 replace hS := hS.after hk; clear hk
 refine oa rfl rfl <| ops_nil fun a hA => cw_ret ?_
 cases hF
 exact fy Tryz.results162 hA rfl hS

theorem c_impl_OnList {w0 : World} {l : Lists} {slot : Int} {s1 : Value} {s2 : Value} {r : Bool} (h1 : Rep.rd (All w0) w0 [s1] (l.Global : List SList)) (h2 : Rep.rd (All w0) w0 [s2] (l.Own : List SList)) (hF : impl_OnList l slot = some r) :
    Calls Tryz.prog 144 #[.agg #[s1, s2], .int .i64 (slot)] w0 (Ret fun v w' => v = .bool (r) ∧ St (cxAll w0) w' [] []) := by
 have hS : St (cxAll w0) w0 [] [fRd [s1] (l.Global : List SList), fRd [s2] (l.Own : List SList)] := St.enter (by
   intro f hf
   simp only [List.mem_cons, List.not_mem_nil, or_false] at hf
   rcases hf with rfl | rfl
   · exact h1
   · exact h2)
 refine calls_cw (args := [_, _]) Tryz.func144 rfl Tryz.ntmps144 rfl ?_
 unfold impl_OnList at hF
 intro a hA
 refine cw_seq <| cw_ops hA ?_
 clear hA
 refine ops_mv (rv_box (cs := [s1, s2]) hS rfl rfl rfl) (want_yes rfl) rfl rfl ?_
 clear hS
 rintro _ w ⟨b1, rfl, hS⟩
 refine ops_mv (rv_box (cs := [.int .i64 (slot)]) hS rfl rfl rfl) (want_yes rfl) rfl rfl ?_
 clear hS
 rintro _ w ⟨b2, rfl, hS⟩
 refine oa rfl rfl <| ops_nil fun a hA => cw_seq <| cw_ops hA ?_
 clear hA
 replace hS := hS.leakBox 1 rfl
 refine oy (rv_func (vf := []) (vc := [.pointer (some ⟨b2, 0, none⟩)]) rfl rfl rfl) rfl <| oa rfl rfl <| ops_nil fun a hA => cw_seq <| cw_cut (J := fun a' w' => ∃ (x1 : Bool), impl_OnList_j1 x1 = some r ∧ AEnv 17 [(4, .bool (x1))] a' ∧ St (cxAll w0) w' [] []) ?_ ?_
 ·skip
  refine cw_ops hA ?_
  clear hA
  refine oy (rv_fld (m := 0) Tryz.underlying41 rfl rfl Tryz.sizeOf39 rfl rfl) rfl <| oy (rv_load1 rfl rfl Tryz.isAgg39 (hS.cell 0 rfl rfl)) rfl <| om rfl rfl ?_
  obtain ⟨x2, hx2, hF⟩ := bindE hF
  refine ops_c (rc_call Tryz.call164 rfl rfl) (want_yes rfl) rfl rfl (c_slices_ContainsFunc_SList (s := l.Global) (f := (fun y0 => impl_OnList_1 y0 slot)) (cap_f := [.pointer (some ⟨b2, 0, none⟩)]) (hS.rd 0 rfl) Tryz.call162 (fun w1 y0 u0_0 q hk hu0_0 hq => c_impl_OnList_1 (k0 := slot) hu0_0 (keepP (hS.fact 2 rfl) hk) hq) hx2) ?_
  rintro _ w ⟨rfl, hk⟩
  replace hS := hS.after hk; clear hk
  refine om rfl rfl <| ops_case (s := 11) rfl (fun hc1 => ?_) (fun hc1 => ?_)
  ·replace hF := iteT hc1 hF
   refine ops_off (want_if rfl rfl rfl (by rw [hc1]; rfl)) rfl rfl <| ops_off (want_if rfl rfl rfl (by rw [hc1]; rfl)) rfl rfl <| ops_off (want_if rfl rfl rfl (by rw [hc1]; rfl)) rfl rfl <| ops_off (want_if rfl rfl rfl (by rw [hc1]; rfl)) rfl rfl <| oy (rv_pick_t rfl rfl hc1 rfl) rfl <| oa rfl rfl <| ops_nil fun a hA => ?_
   exact ⟨true, hF, hA.part ⟨rfl, trivial⟩, ((hS).sel [] rfl).selR [] rfl⟩
  ·replace hF := iteF hc1 hF
   refine ops_v (rv_fld (m := 0) Tryz.underlying41 rfl rfl Tryz.sizeOf39 rfl rfl) (want_if rfl rfl rfl (by rw [hc1]; rfl)) rfl rfl <| ops_v (rv_load1 rfl rfl Tryz.isAgg39 (hS.cell 0 rfl rfl)) (want_if rfl rfl rfl (by rw [hc1]; rfl)) rfl rfl <| ops_v (rv_move rfl rfl) (want_if rfl rfl rfl (by rw [hc1]; rfl)) rfl rfl ?_
   obtain ⟨x3, hx3, hF⟩ := bindE hF
   refine ops_c (rc_call Tryz.call164 rfl rfl) (want_if rfl rfl rfl (by rw [hc1]; rfl)) rfl rfl (c_slices_ContainsFunc_SList (s := l.Own) (f := (fun y0 => impl_OnList_1 y0 slot)) (cap_f := [.pointer (some ⟨b2, 0, none⟩)]) (hS.rd 1 rfl) Tryz.call162 (fun w1 y0 u0_0 q hk hu0_0 hq => c_impl_OnList_1 (k0 := slot) hu0_0 (keepP (hS.fact 2 rfl) hk) hq) hx3) ?_
   rintro _ w ⟨rfl, hk⟩
   replace hS := hS.after hk; clear hk
   refine oy (rv_pick_f rfl rfl hc1 rfl) rfl <| oa rfl rfl <| ops_nil fun a hA => ?_
   exact ⟨x3, hF, hA.part ⟨rfl, trivial⟩, ((hS).sel [] rfl).selR [] rfl⟩
 ·skip
  clear hA hS hF
  rintro a w ⟨x1, hF, hA, hS⟩
  unfold impl_OnList_j1 at hF
  refine cw_ret ?_
  cases hF
  exact fy Tryz.results144 hA rfl hS

theorem c_impl_stateOf {w0 : World} {m : Mem} {slot : Int} {s1 : Value} {s2 : Value} {s3 : Value} {s4 : Value} {r : Int} (h1 : Rep.rd (All w0) w0 [s1] (m.Heap.Bytes : List Int)) (h2 : Rep.rd (All w0) w0 [s2] (m.Heap.Class : List Int)) (h3 : Rep.rd (All w0) w0 [s3] (m.Lists.Global : List SList)) (h4 : Rep.rd (All w0) w0 [s4] (m.Lists.Own : List SList)) (hF : impl_stateOf m slot = some r) :
    Calls Tryz.prog 120 #[.agg #[s1, s2, s3, s4], .int .i64 (slot)] w0 (Ret fun v w' => v = .int .i64 (r) ∧ St (cxAll w0) w' [] []) := by
 have hS : St (cxAll w0) w0 [] [fRd [s1] (m.Heap.Bytes : List Int), fRd [s2] (m.Heap.Class : List Int), fRd [s3] (m.Lists.Global : List SList), fRd [s4] (m.Lists.Own : List SList)] := St.enter (by
   intro f hf
   simp only [List.mem_cons, List.not_mem_nil, or_false] at hf
   rcases hf with rfl | rfl | rfl | rfl
   · exact h1
   · exact h2
   · exact h3
   · exact h4)
 refine calls_cw (args := [_, _]) Tryz.func120 rfl Tryz.ntmps120 rfl ?_
 unfold impl_stateOf at hF
 intro a hA
 refine cw_seq <| cw_ops hA ?_
 clear hA
 refine ops_mv (rv_box (cs := [s1, s2, s3, s4]) hS rfl rfl rfl) (want_yes rfl) rfl rfl ?_
 clear hS
 rintro _ w ⟨b1, rfl, hS⟩
 refine oa rfl rfl <| ops_nil fun a hA => cw_seq <| cw_block <| cw_seq <| cw_ops hA ?_
 clear hA
 refine oy (rv_fld (m := 1) Tryz.underlying43 rfl rfl Tryz.sizeOf38 rfl rfl) rfl <| oy (rv_loadN rfl rfl Tryz.isAgg38 Tryz.sizeOf38 rfl (hS.cells 0 0 (cs' := [s1, s2]) rfl rfl)) rfl <| om rfl rfl ?_
 obtain ⟨x1, hx1, hF⟩ := bindE hF
 refine ops_c (rc_call Tryz.call141 rfl rfl) (want_yes rfl) rfl rfl (c_impl_classIn (h := m.Heap) (slot := slot) (hS.rd 0 rfl) (hS.rd 1 rfl) hx1) ?_
 rintro _ w ⟨rfl, hk⟩
 replace hS := hS.after hk; clear hk
 refine oy (rv_lss rfl rfl rfl) rfl <| oa rfl rfl <| ops_nil fun a hA => cw_cond hA rfl (fun hc1 => ?_) (fun hc1 => ?_)
 ·replace hF := iteT hc1 hF
  refine cw_seq <| cw_ops hA ?_
  clear hA
  refine oa rfl rfl <| ops_nil fun a hA => cw_ret ?_
  cases hF
  exact fy Tryz.results120 hA rfl hS
 ·replace hF := iteF hc1 hF
  refine cw_seq <| cw_ops hA ?_
  clear hA
  refine oy (rv_fld (m := 1) Tryz.underlying43 rfl rfl Tryz.sizeOf41 rfl rfl) rfl <| oy (rv_loadN rfl rfl Tryz.isAgg41 Tryz.sizeOf41 rfl (hS.cells 0 2 (cs' := [s3, s4]) rfl rfl)) rfl <| om rfl rfl ?_
  obtain ⟨x2, hx2, hF⟩ := bindE hF
  refine ops_c (rc_call Tryz.call144 rfl rfl) (want_yes rfl) rfl rfl (c_impl_OnList (l := m.Lists) (slot := slot) (hS.rd 2 rfl) (hS.rd 3 rfl) hx2) ?_
  rintro _ w ⟨rfl, hk⟩
  replace hS := hS.after hk; clear hk
  refine oa rfl rfl <| ops_nil fun a hA => cw_cond hA rfl (fun hc2 => ?_) (fun hc2 => ?_)
  ·replace hF := iteT hc2 hF
   refine cw_seq <| cw_ops hA ?_
   clear hA
   refine oa rfl rfl <| ops_nil fun a hA => cw_ret ?_
   cases hF
   exact fy Tryz.results120 hA rfl hS
  ·replace hF := iteF hc2 hF
   refine cw_seq <| cw_ops hA ?_
   clear hA
   refine oy (rv_fld (m := 1) Tryz.underlying43 rfl rfl Tryz.sizeOf38 rfl rfl) rfl <| oy (rv_loadN rfl rfl Tryz.isAgg38 Tryz.sizeOf38 rfl (hS.cells 0 0 (cs' := [s1, s2]) rfl rfl)) rfl <| om rfl rfl ?_
   obtain ⟨x3, hx3, hF⟩ := bindE hF
   refine ops_c (rc_call Tryz.call121 rfl rfl) (want_yes rfl) rfl rfl (c_impl_GenIn (h := m.Heap) (slot := slot) (hS.rd 0 rfl) (hS.rd 1 rfl) hx3) ?_
   rintro _ w ⟨rfl, hk⟩
   replace hS := hS.after hk; clear hk
   refine oy (rv_gtr rfl rfl rfl) rfl <| oa rfl rfl <| ops_nil fun a hA => cw_cond hA rfl (fun hc3 => ?_) (fun hc3 => ?_)
   ·replace hF := iteT hc3 hF
    refine cw_seq <| cw_ops hA ?_
    clear hA
    refine oa rfl rfl <| ops_nil fun a hA => cw_ret ?_
    cases hF
    exact fy Tryz.results120 hA rfl hS
   ·replace hF := iteF hc3 hF
    refine cw_skip <| cw_seq <| cw_ops hA ?_
    clear hA
    refine oa rfl rfl <| ops_nil fun a hA => cw_ret ?_
    cases hF
    exact fy Tryz.results120 hA rfl hS

theorem c_impl_isLive {w0 : World} {m : Mem} {h : Int} {s1 : Value} {s2 : Value} {s3 : Value} {s4 : Value} {r : Bool} (h1 : Rep.rd (All w0) w0 [s1] (m.Heap.Bytes : List Int)) (h2 : Rep.rd (All w0) w0 [s2] (m.Heap.Class : List Int)) (h3 : Rep.rd (All w0) w0 [s3] (m.Lists.Global : List SList)) (h4 : Rep.rd (All w0) w0 [s4] (m.Lists.Own : List SList)) (hF : impl_isLive m h = some r) :
    Calls Tryz.prog 73 #[.agg #[s1, s2, s3, s4], .int .i64 (h)] w0 (Ret fun v w' => v = .bool (r) ∧ St (cxAll w0) w' [] []) := by
 have hS : St (cxAll w0) w0 [] [fRd [s1] (m.Heap.Bytes : List Int), fRd [s2] (m.Heap.Class : List Int), fRd [s3] (m.Lists.Global : List SList), fRd [s4] (m.Lists.Own : List SList)] := St.enter (by
   intro f hf
   simp only [List.mem_cons, List.not_mem_nil, or_false] at hf
   rcases hf with rfl | rfl | rfl | rfl
   · exact h1
   · exact h2
   · exact h3
   · exact h4)
 refine calls_cw (args := [_, _]) Tryz.func73 rfl Tryz.ntmps73 rfl ?_
 unfold impl_isLive at hF
 intro a hA
 refine cw_seq <| cw_ops hA ?_
 clear hA
 refine ops_mv (rv_box (cs := [s1, s2, s3, s4]) hS rfl rfl rfl) (want_yes rfl) rfl rfl ?_
 clear hS
 rintro _ w ⟨b1, rfl, hS⟩
 refine oa rfl rfl <| ops_nil fun a hA => cw_seq <| cw_cut (J := fun a' w' => ∃ (x1 : Bool), impl_isLive_j1 x1 = some r ∧ AEnv 24 [(4, .bool (x1))] a' ∧ St (cxAll w0) w' [] []) ?_ ?_
 ·skip
  refine cw_ops hA ?_
  clear hA
  refine om rfl rfl ?_
  obtain ⟨x2, hx2, hF⟩ := bindE hF
  refine ops_c (rc_call Tryz.call113 rfl rfl) (want_yes rfl) rfl rfl (c_impl_HandleOk (h := h)  hx2) ?_
  rintro _ w ⟨rfl, hk⟩
  replace hS := hS.after hk; clear hk
  refine om rfl rfl <| ops_case (s := 7) rfl (fun hc1 => ?_) (fun hc1 => ?_)
  ·replace hF := iteT hc1 hF
   refine ops_v (rv_loadN rfl rfl Tryz.isAgg43 Tryz.sizeOf43 rfl (hS.cells 0 0 (cs' := [s1, s2, s3, s4]) rfl rfl)) (want_if rfl rfl rfl (by rw [hc1]; rfl)) rfl rfl <| ops_v (rv_move rfl rfl) (want_if rfl rfl rfl (by rw [hc1]; rfl)) rfl rfl <| ops_v (rv_rem rfl rfl rfl (by decide)) (want_if rfl rfl rfl (by rw [hc1]; rfl)) rfl rfl ?_
   obtain ⟨x3, hx3, hF⟩ := bindE hF
   refine ops_c (rc_call Tryz.call120 rfl rfl) (want_if rfl rfl rfl (by rw [hc1]; rfl)) rfl rfl (c_impl_stateOf (m := m) (slot := Int.tmod h 32) (hS.rd 0 rfl) (hS.rd 1 rfl) (hS.rd 2 rfl) (hS.rd 3 rfl) hx3) ?_
   rintro _ w ⟨rfl, hk⟩
   replace hS := hS.after hk; clear hk
   refine ops_v (rv_eql rfl rfl rfl) (want_if rfl rfl rfl (by rw [hc1]; rfl)) rfl rfl <| oy (rv_pick_t rfl rfl hc1 rfl) rfl <| om rfl rfl <| ops_case (s := 14) rfl (fun hc2 => ?_) (fun hc2 => ?_)
   ·replace hF := iteT hc2 hF
    refine ops_v (rv_fld (m := 1) Tryz.underlying43 rfl rfl Tryz.sizeOf38 rfl rfl) (want_if rfl rfl rfl (by rw [hc2]; rfl)) rfl rfl <| ops_v (rv_loadN rfl rfl Tryz.isAgg38 Tryz.sizeOf38 rfl (hS.cells 0 0 (cs' := [s1, s2]) rfl rfl)) (want_if rfl rfl rfl (by rw [hc2]; rfl)) rfl rfl <| ops_v (rv_move rfl rfl) (want_if rfl rfl rfl (by rw [hc2]; rfl)) rfl rfl <| ops_v (rv_rem rfl rfl rfl (by decide)) (want_if rfl rfl rfl (by rw [hc2]; rfl)) rfl rfl ?_
    obtain ⟨x4, hx4, hF⟩ := bindE hF
    refine ops_c (rc_call Tryz.call121 rfl rfl) (want_if rfl rfl rfl (by rw [hc2]; rfl)) rfl rfl (c_impl_GenIn (h := m.Heap) (slot := Int.tmod h 32) (hS.rd 0 rfl) (hS.rd 1 rfl) hx4) ?_
    rintro _ w ⟨rfl, hk⟩
    replace hS := hS.after hk; clear hk
    refine ops_v (rv_move rfl rfl) (want_if rfl rfl rfl (by rw [hc2]; rfl)) rfl rfl <| ops_v (rv_quo rfl rfl rfl (by decide)) (want_if rfl rfl rfl (by rw [hc2]; rfl)) rfl rfl <| ops_v (rv_eql rfl rfl rfl) (want_if rfl rfl rfl (by rw [hc2]; rfl)) rfl rfl <| oy (rv_pick_t rfl rfl hc2 rfl) rfl <| oa rfl rfl <| ops_nil fun a hA => ?_
    exact ⟨x4 == (w64 (Int.tdiv h 32)), hF, hA.part ⟨rfl, trivial⟩, ((hS).sel [] rfl).selR [] rfl⟩
   ·replace hF := iteF hc2 hF
    refine ops_off (want_if rfl rfl rfl (by rw [hc2]; rfl)) rfl rfl <| ops_off (want_if rfl rfl rfl (by rw [hc2]; rfl)) rfl rfl <| ops_off (want_if rfl rfl rfl (by rw [hc2]; rfl)) rfl rfl <| ops_off (want_if rfl rfl rfl (by rw [hc2]; rfl)) rfl rfl <| ops_off (want_if rfl rfl rfl (by rw [hc2]; rfl)) rfl rfl <| ops_off (want_if rfl rfl rfl (by rw [hc2]; rfl)) rfl rfl <| ops_off (want_if rfl rfl rfl (by rw [hc2]; rfl)) rfl rfl <| ops_off (want_if rfl rfl rfl (by rw [hc2]; rfl)) rfl rfl <| oy (rv_pick_f rfl rfl hc2 rfl) rfl ?_
    refine oa rfl rfl <| ops_nil fun a hA => ?_
    exact ⟨false, hF, hA.part ⟨rfl, trivial⟩, ((hS).sel [] rfl).selR [] rfl⟩
  ·replace hF := iteF hc1 hF
   refine ops_off (want_if rfl rfl rfl (by rw [hc1]; rfl)) rfl rfl <| ops_off (want_if rfl rfl rfl (by rw [hc1]; rfl)) rfl rfl <| ops_off (want_if rfl rfl rfl (by rw [hc1]; rfl)) rfl rfl <| ops_off (want_if rfl rfl rfl (by rw [hc1]; rfl)) rfl rfl <| ops_off (want_if rfl rfl rfl (by rw [hc1]; rfl)) rfl rfl <| oy (rv_pick_f rfl rfl hc1 rfl) rfl <| om rfl rfl <| ops_off (want_if rfl rfl rfl rfl) rfl rfl <| ops_off (want_if rfl rfl rfl rfl) rfl rfl ?_
   refine ops_off (want_if rfl rfl rfl rfl) rfl rfl <| ops_off (want_if rfl rfl rfl rfl) rfl rfl <| ops_off (want_if rfl rfl rfl rfl) rfl rfl <| ops_off (want_if rfl rfl rfl rfl) rfl rfl <| ops_off (want_if rfl rfl rfl rfl) rfl rfl <| ops_off (want_if rfl rfl rfl rfl) rfl rfl <| oy (rv_pick_f rfl rfl rfl rfl) rfl <| oa rfl rfl <| ops_nil fun a hA => ?_
   exact ⟨false, hF, hA.part ⟨rfl, trivial⟩, ((hS).sel [] rfl).selR [] rfl⟩
 ·skip
  clear hA hS hF
  rintro a w ⟨x1, hF, hA, hS⟩
  unfold impl_isLive_j1 at hF
  refine cw_ret ?_
  cases hF
  exact fy Tryz.results73 hA rfl hS

theorem c_impl_BaseOk_1_1 {w0 : World} {r_ : LRow} {k0 : Base} {s1 : Value} {s2 : Value} {s3 : Value} {s4 : Value} {s5 : Value} {s6 : Value} {s7 : Value} {b1 : Nat} {r : Bool} (h1 : Rep.rd (All w0) w0 [s1] (k0.Mem.Heap.Bytes : List Int)) (h2 : Rep.rd (All w0) w0 [s2] (k0.Mem.Heap.Class : List Int)) (h3 : Rep.rd (All w0) w0 [s3] (k0.Mem.Lists.Global : List SList)) (h4 : Rep.rd (All w0) w0 [s4] (k0.Mem.Lists.Own : List SList)) (h5 : Rep.rd (All w0) w0 [s5] (k0.Clock.Pins : List Pin)) (h6 : Rep.rd (All w0) w0 [s6] (k0.Limbo : List LList)) (h7 : Rep.rd (All w0) w0 [s7] (k0.Haz : List Int)) (h8 : (fCells b1 [s1, s2, s3, s4, .int .i64 (k0.Clock.Epoch), s5, s6, s7]).P (All w0) w0) (hF : impl_BaseOk_1_1 r_ k0 = some r) :
    Calls Tryz.prog 72 #[.agg #[.int .i64 (r_.Handle), .int .i64 (r_.Epoch)], .pointer (some ⟨b1, 0, none⟩)] w0 (Ret fun v w' => v = .bool (r) ∧ St (cxAll w0) w' [] []) := by
 have hS : St (cxAll w0) w0 [] [fRd [s1] (k0.Mem.Heap.Bytes : List Int), fRd [s2] (k0.Mem.Heap.Class : List Int), fRd [s3] (k0.Mem.Lists.Global : List SList), fRd [s4] (k0.Mem.Lists.Own : List SList), fRd [s5] (k0.Clock.Pins : List Pin), fRd [s6] (k0.Limbo : List LList), fRd [s7] (k0.Haz : List Int), fCells b1 [s1, s2, s3, s4, .int .i64 (k0.Clock.Epoch), s5, s6, s7]] := St.enter (by
   intro f hf
   simp only [List.mem_cons, List.not_mem_nil, or_false] at hf
   rcases hf with rfl | rfl | rfl | rfl | rfl | rfl | rfl | rfl
   · exact h1
   · exact h2
   · exact h3
   · exact h4
   · exact h5
   · exact h6
   · exact h7
   · exact h8)
 refine calls_cw (args := [_, _]) Tryz.func72 rfl Tryz.ntmps72 rfl ?_
 unfold impl_BaseOk_1_1 at hF
 intro a hA
 refine cw_seq <| cw_ops hA ?_
 clear hA
 refine ops_mv (rv_box (cs := [.int .i64 (r_.Handle), .int .i64 (r_.Epoch)]) hS rfl rfl rfl) (want_yes rfl) rfl rfl ?_
 clear hS
 rintro _ w ⟨b2, rfl, hS⟩
 refine oa rfl rfl <| ops_nil fun a hA => cw_seq <| cw_cut (J := fun a' w' => ∃ (x1 : Bool), impl_BaseOk_1_1_j1 x1 = some r ∧ AEnv 18 [(3, .bool (x1))] a' ∧ St (cxAll w0) w' [] []) ?_ ?_
 ·skip
  refine cw_ops hA ?_
  clear hA
  refine oy (rv_fld (m := 3) Tryz.underlying49 rfl rfl Tryz.sizeOf43 rfl rfl) rfl <| oy (rv_loadN rfl rfl Tryz.isAgg43 Tryz.sizeOf43 rfl (hS.fcells 7 0 (cs' := [s1, s2, s3, s4]) rfl rfl)) rfl <| oy (rv_fld (m := 0) Tryz.underlying71 rfl rfl Tryz.sizeOf3 rfl rfl) rfl <| oy (rv_load1 rfl rfl Tryz.isAgg3 (hS.cell 0 rfl rfl)) rfl ?_
  obtain ⟨x2, hx2, hF⟩ := bindE hF
  refine ops_c (rc_call Tryz.call73 rfl rfl) (want_yes rfl) rfl rfl (c_impl_isLive (m := k0.Mem) (h := r_.Handle) (hS.rd 0 rfl) (hS.rd 1 rfl) (hS.rd 2 rfl) (hS.rd 3 rfl) hx2) ?_
  rintro _ w ⟨rfl, hk⟩
  replace hS := hS.after hk; clear hk
  refine oy (rv_not rfl rfl) rfl <| om rfl rfl <| ops_case (s := 10) rfl (fun hc1 => ?_) (fun hc1 => ?_)
  ·replace hF := iteT hc1 hF
   refine ops_off (want_if rfl rfl rfl (by rw [hc1]; rfl)) rfl rfl <| ops_off (want_if rfl rfl rfl (by rw [hc1]; rfl)) rfl rfl <| ops_off (want_if rfl rfl rfl (by rw [hc1]; rfl)) rfl rfl <| ops_off (want_if rfl rfl rfl (by rw [hc1]; rfl)) rfl rfl <| ops_off (want_if rfl rfl rfl (by rw [hc1]; rfl)) rfl rfl <| ops_off (want_if rfl rfl rfl (by rw [hc1]; rfl)) rfl rfl <| oy (rv_pick_t rfl rfl hc1 rfl) rfl <| oa rfl rfl <| ops_nil fun a hA => ?_
   exact ⟨true, hF, hA.part ⟨rfl, trivial⟩, ((hS).sel [] rfl).selR [] rfl⟩
  ·replace hF := iteF hc1 hF
   refine ops_v (rv_fld (m := 0) Tryz.underlying71 rfl rfl Tryz.sizeOf3 rfl rfl) (want_if rfl rfl rfl (by rw [hc1]; rfl)) rfl rfl <| ops_v (rv_load1 rfl rfl Tryz.isAgg3 (hS.cell 0 rfl rfl)) (want_if rfl rfl rfl (by rw [hc1]; rfl)) rfl rfl <| ops_v (rv_fld (m := 1) Tryz.underlying49 rfl rfl Tryz.sizeOf46 rfl rfl) (want_if rfl rfl rfl (by rw [hc1]; rfl)) rfl rfl <| ops_v (rv_fld (m := 0) Tryz.underlying46 rfl rfl Tryz.sizeOf3 rfl rfl) (want_if rfl rfl rfl (by rw [hc1]; rfl)) rfl rfl <| ops_v (rv_load1 rfl rfl Tryz.isAgg3 (hS.fcell 7 rfl rfl)) (want_if rfl rfl rfl (by rw [hc1]; rfl)) rfl rfl <| ops_v (rv_gtr rfl rfl rfl) (want_if rfl rfl rfl (by rw [hc1]; rfl)) rfl rfl <| oy (rv_pick_f rfl rfl hc1 rfl) rfl <| oa rfl rfl <| ops_nil fun a hA => ?_
   exact ⟨decide (k0.Clock.Epoch < r_.Epoch), hF, hA.part ⟨rfl, trivial⟩, ((hS).sel [] rfl).selR [] rfl⟩
 ·skip
  clear hA hS hF
  rintro a w ⟨x1, hF, hA, hS⟩
  unfold impl_BaseOk_1_1_j1 at hF
  refine cw_ret ?_
  cases hF
  exact fy Tryz.results72 hA rfl hS

theorem c_impl_BaseOk_1 {w0 : World} {l : LList} {k0 : Base} {s1 : Value} {s2 : Value} {s3 : Value} {s4 : Value} {s5 : Value} {s6 : Value} {s7 : Value} {s8 : Value} {b1 : Nat} {r : Bool} (h1 : Rep.rd (All w0) w0 [s1] (l.Rows : List LRow)) (h2 : Rep.rd (All w0) w0 [s2] (k0.Mem.Heap.Bytes : List Int)) (h3 : Rep.rd (All w0) w0 [s3] (k0.Mem.Heap.Class : List Int)) (h4 : Rep.rd (All w0) w0 [s4] (k0.Mem.Lists.Global : List SList)) (h5 : Rep.rd (All w0) w0 [s5] (k0.Mem.Lists.Own : List SList)) (h6 : Rep.rd (All w0) w0 [s6] (k0.Clock.Pins : List Pin)) (h7 : Rep.rd (All w0) w0 [s7] (k0.Limbo : List LList)) (h8 : Rep.rd (All w0) w0 [s8] (k0.Haz : List Int)) (h9 : (fCells b1 [s2, s3, s4, s5, .int .i64 (k0.Clock.Epoch), s6, s7, s8]).P (All w0) w0) (hF : impl_BaseOk_1 l k0 = some r) :
    Calls Tryz.prog 70 #[.agg #[s1], .pointer (some ⟨b1, 0, none⟩)] w0 (Ret fun v w' => v = .bool (r) ∧ St (cxAll w0) w' [] []) := by
 have hS : St (cxAll w0) w0 [] [fRd [s1] (l.Rows : List LRow), fRd [s2] (k0.Mem.Heap.Bytes : List Int), fRd [s3] (k0.Mem.Heap.Class : List Int), fRd [s4] (k0.Mem.Lists.Global : List SList), fRd [s5] (k0.Mem.Lists.Own : List SList), fRd [s6] (k0.Clock.Pins : List Pin), fRd [s7] (k0.Limbo : List LList), fRd [s8] (k0.Haz : List Int), fCells b1 [s2, s3, s4, s5, .int .i64 (k0.Clock.Epoch), s6, s7, s8]] := St.enter (by
   intro f hf
   simp only [List.mem_cons, List.not_mem_nil, or_false] at hf
   rcases hf with rfl | rfl | rfl | rfl | rfl | rfl | rfl | rfl | rfl
   · exact h1
   · exact h2
   · exact h3
   · exact h4
   · exact h5
   · exact h6
   · exact h7
   · exact h8
   · exact h9)
 refine calls_cw (args := [_, _]) Tryz.func70 rfl Tryz.ntmps70 rfl ?_
 unfold impl_BaseOk_1 at hF
 intro a hA
 refine cw_seq <| cw_ops hA ?_
 clear hA
 refine ops_mv (rv_box (cs := [s1]) hS rfl rfl rfl) (want_yes rfl) rfl rfl ?_
 clear hS
 rintro _ w ⟨b2, rfl, hS⟩
 refine oa rfl rfl <| ops_nil fun a hA => cw_seq <| cw_ops hA ?_
 clear hA
 refine oy (rv_fld (m := 0) Tryz.underlying69 rfl rfl Tryz.sizeOf67 rfl rfl) rfl <| oy (rv_load1 rfl rfl Tryz.isAgg67 (hS.cell 0 rfl rfl)) rfl <| oy (rv_func (vf := []) (vc := [.pointer (some ⟨b1, 0, none⟩)]) rfl rfl rfl) rfl ?_
 obtain ⟨x1, hx1, hF⟩ := bindE hF
 refine ops_c (rc_call Tryz.call71 rfl rfl) (want_yes rfl) rfl rfl (c_slices_ContainsFunc_LRow (s := l.Rows) (f := (fun y0 => impl_BaseOk_1_1 y0 k0)) (cap_f := [.pointer (some ⟨b1, 0, none⟩)]) (hS.rd 0 rfl) Tryz.call72 (fun w1 y0  q hk  hq => c_impl_BaseOk_1_1 (k0 := k0)  (keepP (hS.fact 1 rfl) hk) (keepP (hS.fact 2 rfl) hk) (keepP (hS.fact 3 rfl) hk) (keepP (hS.fact 4 rfl) hk) (keepP (hS.fact 5 rfl) hk) (keepP (hS.fact 6 rfl) hk) (keepP (hS.fact 7 rfl) hk) (keepP (hS.fact 8 rfl) hk) hq) hx1) ?_
 rintro _ w ⟨rfl, hk⟩
 replace hS := hS.after hk; clear hk
 refine oa rfl rfl <| ops_nil fun a hA => cw_ret ?_
 cases hF
 exact fy Tryz.results70 hA rfl hS

theorem c_impl_BaseOk {w0 : World} {b : Base} {s1 : Value} {s2 : Value} {s3 : Value} {s4 : Value} {s5 : Value} {s6 : Value} {s7 : Value} {r : Bool} (h1 : Rep.rd (All w0) w0 [s1] (b.Mem.Heap.Bytes : List Int)) (h2 : Rep.rd (All w0) w0 [s2] (b.Mem.Heap.Class : List Int)) (h3 : Rep.rd (All w0) w0 [s3] (b.Mem.Lists.Global : List SList)) (h4 : Rep.rd (All w0) w0 [s4] (b.Mem.Lists.Own : List SList)) (h5 : Rep.rd (All w0) w0 [s5] (b.Clock.Pins : List Pin)) (h6 : Rep.rd (All w0) w0 [s6] (b.Limbo : List LList)) (h7 : Rep.rd (All w0) w0 [s7] (b.Haz : List Int)) (hF : impl_BaseOk b = some r) :
    Calls Tryz.prog 26 #[.agg #[s1, s2, s3, s4, .int .i64 (b.Clock.Epoch), s5, s6, s7]] w0 (Ret fun v w' => v = .bool (r) ∧ St (cxAll w0) w' [] []) := by
 have hS : St (cxAll w0) w0 [] [fRd [s1] (b.Mem.Heap.Bytes : List Int), fRd [s2] (b.Mem.Heap.Class : List Int), fRd [s3] (b.Mem.Lists.Global : List SList), fRd [s4] (b.Mem.Lists.Own : List SList), fRd [s5] (b.Clock.Pins : List Pin), fRd [s6] (b.Limbo : List LList), fRd [s7] (b.Haz : List Int)] := St.enter (by
   intro f hf
   simp only [List.mem_cons, List.not_mem_nil, or_false] at hf
   rcases hf with rfl | rfl | rfl | rfl | rfl | rfl | rfl
   · exact h1
   · exact h2
   · exact h3
   · exact h4
   · exact h5
   · exact h6
   · exact h7)
 refine calls_cw (args := [_]) Tryz.func26 rfl Tryz.ntmps26 rfl ?_
 unfold impl_BaseOk at hF
 intro a hA
 refine cw_seq <| cw_ops hA ?_
 clear hA
 refine ops_mv (rv_box (cs := [s1, s2, s3, s4, .int .i64 (b.Clock.Epoch), s5, s6, s7]) hS rfl rfl rfl) (want_yes rfl) rfl rfl ?_
 clear hS
 rintro _ w ⟨b1, rfl, hS⟩
 refine oa rfl rfl <| ops_nil fun a hA => cw_seq <| cw_seq <| cw_cut (J := fun a' w' => ∃ (x1 : Bool), impl_BaseOk_j1 b x1 = some r ∧ AEnv 30 [(1, .pointer (some ⟨b1, 0, none⟩)), (24, .bool (x1))] a' ∧ St (cxAll w0) w' [cBox b1 [s1, s2, s3, s4, .int .i64 (b.Clock.Epoch), s5, s6, s7]] [fRd [s1] (b.Mem.Heap.Bytes : List Int), fRd [s2] (b.Mem.Heap.Class : List Int), fRd [s3] (b.Mem.Lists.Global : List SList), fRd [s4] (b.Mem.Lists.Own : List SList), fRd [s5] (b.Clock.Pins : List Pin), fRd [s6] (b.Limbo : List LList), fRd [s7] (b.Haz : List Int)]) ?_ ?_
 ·skip
  refine cw_ops hA ?_
  clear hA
  refine oy (rv_fld (m := 3) Tryz.underlying49 rfl rfl Tryz.sizeOf43 rfl rfl) rfl <| oy (rv_loadN rfl rfl Tryz.isAgg43 Tryz.sizeOf43 rfl (hS.cells 0 0 (cs' := [s1, s2, s3, s4]) rfl rfl)) rfl ?_
  obtain ⟨x3, hx3, hF⟩ := bindE hF
  refine ops_c (rc_call Tryz.call65 rfl rfl) (want_yes rfl) rfl rfl (c_impl_MemOk (m := b.Mem) (hS.rd 0 rfl) (hS.rd 1 rfl) (hS.rd 2 rfl) (hS.rd 3 rfl) hx3) ?_
  rintro _ w ⟨rfl, hk⟩
  replace hS := hS.after hk; clear hk
  refine oy (rv_not rfl rfl) rfl <| om rfl rfl <| ops_case (s := 7) rfl (fun hc2 => ?_) (fun hc2 => ?_)
  ·replace hF := iteT hc2 hF
   refine ops_off (want_if rfl rfl rfl (by rw [hc2]; rfl)) rfl rfl <| ops_off (want_if rfl rfl rfl (by rw [hc2]; rfl)) rfl rfl <| ops_off (want_if rfl rfl rfl (by rw [hc2]; rfl)) rfl rfl <| ops_off (want_if rfl rfl rfl (by rw [hc2]; rfl)) rfl rfl <| oy (rv_pick_t rfl rfl hc2 rfl) rfl <| om rfl rfl <| ops_off (want_if rfl rfl rfl rfl) rfl rfl <| ops_off (want_if rfl rfl rfl rfl) rfl rfl <| ops_off (want_if rfl rfl rfl rfl) rfl rfl ?_
   refine ops_off (want_if rfl rfl rfl rfl) rfl rfl <| oy (rv_pick_t rfl rfl rfl rfl) rfl <| om rfl rfl <| ops_off (want_if rfl rfl rfl rfl) rfl rfl <| ops_off (want_if rfl rfl rfl rfl) rfl rfl <| ops_off (want_if rfl rfl rfl rfl) rfl rfl <| ops_off (want_if rfl rfl rfl rfl) rfl rfl <| oy (rv_pick_t rfl rfl rfl rfl) rfl <| ops_nil fun a hA => ?_
   exact ⟨true, hF, hA.part ⟨rfl, rfl, trivial⟩, ((hS).sel [0] rfl).selR [0, 1, 2, 3, 4, 5, 6] rfl⟩
  ·replace hF := iteF hc2 hF
   refine ops_v (rv_fld (m := 1) Tryz.underlying49 rfl rfl Tryz.sizeOf46 rfl rfl) (want_if rfl rfl rfl (by rw [hc2]; rfl)) rfl rfl <| ops_v (rv_loadN rfl rfl Tryz.isAgg46 Tryz.sizeOf46 rfl (hS.cells 0 4 (cs' := [.int .i64 (b.Clock.Epoch), s5]) rfl rfl)) (want_if rfl rfl rfl (by rw [hc2]; rfl)) rfl rfl ?_
   obtain ⟨x4, hx4, hF⟩ := bindE hF
   refine ops_c (rc_call Tryz.call66 rfl rfl) (want_if rfl rfl rfl (by rw [hc2]; rfl)) rfl rfl (c_impl_ClockOk (c := b.Clock) (hS.rd 4 rfl) hx4) ?_
   rintro _ w ⟨rfl, hk⟩
   replace hS := hS.after hk; clear hk
   refine ops_v (rv_not rfl rfl) (want_if rfl rfl rfl (by rw [hc2]; rfl)) rfl rfl <| oy (rv_pick_f rfl rfl hc2 rfl) rfl <| om rfl rfl <| ops_case (s := 13) rfl (fun hc3 => ?_) (fun hc3 => ?_)
   ·replace hF := iteT hc3 hF
    refine ops_off (want_if rfl rfl rfl (by rw [hc3]; rfl)) rfl rfl <| ops_off (want_if rfl rfl rfl (by rw [hc3]; rfl)) rfl rfl <| ops_off (want_if rfl rfl rfl (by rw [hc3]; rfl)) rfl rfl <| ops_off (want_if rfl rfl rfl (by rw [hc3]; rfl)) rfl rfl <| oy (rv_pick_t rfl rfl hc3 rfl) rfl <| om rfl rfl <| ops_off (want_if rfl rfl rfl rfl) rfl rfl <| ops_off (want_if rfl rfl rfl rfl) rfl rfl <| ops_off (want_if rfl rfl rfl rfl) rfl rfl ?_
    refine ops_off (want_if rfl rfl rfl rfl) rfl rfl <| oy (rv_pick_t rfl rfl rfl rfl) rfl <| ops_nil fun a hA => ?_
    exact ⟨true, hF, hA.part ⟨rfl, rfl, trivial⟩, ((hS).sel [0] rfl).selR [0, 1, 2, 3, 4, 5, 6] rfl⟩
   ·replace hF := iteF hc3 hF
    refine ops_v (rv_fld (m := 0) Tryz.underlying49 rfl rfl Tryz.sizeOf47 rfl rfl) (want_if rfl rfl rfl (by rw [hc3]; rfl)) rfl rfl <| ops_v (rv_load1 rfl rfl Tryz.isAgg47 (hS.cell 0 rfl rfl)) (want_if rfl rfl rfl (by rw [hc3]; rfl)) rfl rfl ?_
    obtain ⟨x5, hx5, hF⟩ := bindE hF
    refine ops_c (rc_call Tryz.call67 rfl rfl) (want_if rfl rfl rfl (by rw [hc3]; rfl)) rfl rfl (c_impl_LimboOk (l := b.Limbo) (hS.rd 5 rfl) hx5) ?_
    rintro _ w ⟨rfl, hk⟩
    replace hS := hS.after hk; clear hk
    refine ops_v (rv_not rfl rfl) (want_if rfl rfl rfl (by rw [hc3]; rfl)) rfl rfl <| oy (rv_pick_f rfl rfl hc3 rfl) rfl <| om rfl rfl <| ops_case (s := 19) rfl (fun hc4 => ?_) (fun hc4 => ?_)
    ·replace hF := iteT hc4 hF
     refine ops_off (want_if rfl rfl rfl (by rw [hc4]; rfl)) rfl rfl <| ops_off (want_if rfl rfl rfl (by rw [hc4]; rfl)) rfl rfl <| ops_off (want_if rfl rfl rfl (by rw [hc4]; rfl)) rfl rfl <| ops_off (want_if rfl rfl rfl (by rw [hc4]; rfl)) rfl rfl <| oy (rv_pick_t rfl rfl hc4 rfl) rfl <| ops_nil fun a hA => ?_
     exact ⟨true, hF, hA.part ⟨rfl, rfl, trivial⟩, ((hS).sel [0] rfl).selR [0, 1, 2, 3, 4, 5, 6] rfl⟩
    ·replace hF := iteF hc4 hF
     refine ops_v (rv_fld (m := 0) Tryz.underlying49 rfl rfl Tryz.sizeOf22 rfl rfl) (want_if rfl rfl rfl (by rw [hc4]; rfl)) rfl rfl <| ops_v (rv_load1 rfl rfl Tryz.isAgg22 (hS.cell 0 rfl rfl)) (want_if rfl rfl rfl (by rw [hc4]; rfl)) rfl rfl ?_
     obtain ⟨x6, hx6, hF⟩ := bindE hF
     refine ops_c (rc_call Tryz.call68 rfl rfl) (want_if rfl rfl rfl (by rw [hc4]; rfl)) rfl rfl (c_impl_HazOk (z := b.Haz) (hS.rd 6 rfl) hx6) ?_
     rintro _ w ⟨rfl, hk⟩
     replace hS := hS.after hk; clear hk
     refine ops_v (rv_not rfl rfl) (want_if rfl rfl rfl (by rw [hc4]; rfl)) rfl rfl <| oy (rv_pick_f rfl rfl hc4 rfl) rfl <| ops_nil fun a hA => ?_
     exact ⟨!x6, hF, hA.part ⟨rfl, rfl, trivial⟩, ((hS).sel [0] rfl).selR [0, 1, 2, 3, 4, 5, 6] rfl⟩
 ·skip
  clear hA hS hF
  rintro a w ⟨x1, hF, hA, hS⟩
  unfold impl_BaseOk_j1 at hF
  refine cw_cond hA rfl (fun hc1 => ?_) (fun hc1 => ?_)
  ·replace hF := iteT hc1 hF
   refine cw_seq <| cw_ops hA ?_
   clear hA
   refine oa rfl rfl <| ops_nil fun a hA => cw_ret ?_
   cases hF
   exact fy Tryz.results26 hA rfl hS
  ·replace hF := iteF hc1 hF
   refine cw_skip <| cw_seq <| cw_ops hA ?_
   clear hA
   refine oy (rv_fld (m := 0) Tryz.underlying49 rfl rfl Tryz.sizeOf47 rfl rfl) rfl <| oy (rv_load1 rfl rfl Tryz.isAgg47 (hS.cell 0 rfl rfl)) rfl ?_
   replace hS := hS.leakBox 0 rfl
   refine oy (rv_func (vf := []) (vc := [.pointer (some ⟨b1, 0, none⟩)]) rfl rfl rfl) rfl ?_
   obtain ⟨x2, hx2, hF⟩ := bindE hF
   refine ops_c (rc_call Tryz.call69 rfl rfl) (want_yes rfl) rfl rfl (c_slices_ContainsFunc_LList (s := b.Limbo) (f := (fun y0 => impl_BaseOk_1 y0 b)) (cap_f := [.pointer (some ⟨b1, 0, none⟩)]) (hS.rd 5 rfl) Tryz.call70 (fun w1 y0 u0_0 q hk hu0_0 hq => c_impl_BaseOk_1 (k0 := b) hu0_0 (keepP (hS.fact 0 rfl) hk) (keepP (hS.fact 1 rfl) hk) (keepP (hS.fact 2 rfl) hk) (keepP (hS.fact 3 rfl) hk) (keepP (hS.fact 4 rfl) hk) (keepP (hS.fact 5 rfl) hk) (keepP (hS.fact 6 rfl) hk) (keepP (hS.fact 7 rfl) hk) hq) hx2) ?_
   rintro _ w ⟨rfl, hk⟩
   replace hS := hS.after hk; clear hk
   refine oy (rv_not rfl rfl) rfl <| oa rfl rfl <| ops_nil fun a hA => cw_ret ?_
   cases hF
   exact fy Tryz.results26 hA rfl hS

theorem c_impl_Var {w0 : World} {n : Int}  {r : (List UInt8)}  (hF : impl_Var n = some r) :
    Calls Tryz.prog 28 #[.int .i64 (n)] w0 (Ret fun v w' => v = sv (r) ∧ St (cxAll w0) w' [] []) := by
 have hS : St (cxAll w0) w0 [] [] := St.enter (by
   intro f hf; cases hf)
 refine calls_cw (args := [_]) Tryz.func28 rfl Tryz.ntmps28 rfl ?_
 unfold impl_Var at hF
 intro a hA
 refine cw_seq <| cw_ops hA ?_
 clear hA
 refine oa rfl rfl <| ops_nil fun a hA => cw_seq <| cw_seq <| cw_ops hA ?_
 clear hA
 refine om rfl rfl ?_
 obtain ⟨x1, hx1, hF⟩ := bindE hF
 refine ops_c (rc_call Tryz.call75 rfl rfl) (want_yes rfl) rfl rfl (c_impl_within (n := n) (low := 0) (high := 562949953421311)  hx1) ?_
 rintro _ w ⟨rfl, hk⟩
 replace hS := hS.after hk; clear hk
 refine oy (rv_not rfl rfl) rfl <| ops_nil fun a hA => cw_cond hA rfl (fun hc1 => ?_) (fun hc1 => ?_)
 ·replace hF := iteT hc1 hF
  refine cw_seq <| cw_ops hA ?_
  clear hA
  refine oa rfl rfl <| ops_nil fun a hA => cw_ret ?_
  cases hF
  exact fy Tryz.results28 hA rfl hS
 ·replace hF := iteF hc1 hF
  refine cw_skip <| cw_seq <| cw_ops hA ?_
  clear hA
  refine ops_mv (rv_lit0 (α := UInt8) hS rfl Tryz.underlying108 inf_Tryz5 rfl) (want_yes rfl) rfl rfl ?_
  clear hS
  rintro s1 w hS
  refine oa rfl rfl <| ops_nil fun a hA => cw_seq ?_
  obtain ⟨o1, hl1, hF⟩ := bindE hF
  refine cw_cut (J := fun a' w' => ∃ (x6 : Int) (x7 : List UInt8) (s4 : Value), o1 = (x6, x7) ∧ AEnv 25 [(0, .int .i64 (x6)), (3, s4)] a' ∧ St (cxAll w0) w' [cOwn [s4] (x7 : List UInt8)] []) ?_ ?_
  ·refine cw_block ?_
   refine cw_loop (body := impl_Var_l1) (r := o1) (fun sg a' w' => ∃ (s3 : Value), AEnv 25 [(0, .int .i64 (sg.1)), (3, s3)] a' ∧ St (cxAll w0) w' [cOwn [s3] (sg.2 : List UInt8)] []) ?_ hl1 ⟨s1, hA.part ⟨rfl, rfl, trivial⟩, ((hS).sel [0] rfl).selR [] rfl⟩
   clear hA hS hl1
   rintro ⟨x4, x5⟩ a w q1 ⟨s3, hA, hS⟩ hG1 hr1
   try dsimp only at hA hS
   unfold impl_Var_l1 at hG1
   refine cw_seq <| cw_seq <| cw_ops hA ?_
   clear hA
   refine om rfl rfl <| oy (rv_gtr rfl rfl rfl) rfl <| ops_nil fun a hA => cw_cond hA rfl (fun hc2 => ?_) (fun hc2 => ?_)
   ·replace hG1 := iteT hc2 hG1
    refine cw_skip <| cw_block <| cw_seq <| cw_ops hA ?_
    clear hA
    refine om rfl rfl <| om rfl rfl <| oy (rv_and rfl rfl rfl) rfl <| oy (rv_or rfl rfl rfl) rfl <| oy (rv_conv8 Tryz.underlying3 Tryz.underlying5 rfl rfl) rfl <| ops_mv (rv_lit1 (u8 (bitsOp .or .i64 (bitsOp .and .i64 x4 127) 128) : UInt8) hS rfl Tryz.underlying108 inf_Tryz5 rfl rfl rfl rfl) (want_yes rfl) rfl rfl ?_
    clear hS
    rintro s7 w hS
    obtain ⟨hn2, hG1⟩ := needE hG1
    refine ops_mv (rv_append (α := UInt8) 0 hS rfl (hS.rdOwn 1 rfl) rfl Tryz.underlying108 inf_Tryz5 rfl hn2 rfl rfl rfl) (want_yes rfl) rfl rfl ?_
    clear hS
    rintro s8 w hS
    refine oa rfl rfl <| ops_nil fun a hA => cw_ops hA ?_
    clear hA
    refine om rfl rfl <| oy (rv_shr rfl rfl rfl (by decide)) rfl <| oa rfl rfl <| ops_nil fun a hA => ?_
    cases hG1
    exact ⟨_, rfl, ⟨s8, hA.part ⟨rfl, rfl, trivial⟩, ((hS).sel [0] rfl).selR [] rfl⟩⟩
   ·replace hG1 := iteF hc2 hG1
    refine cw_exit <| xcons_hit ?_
    cases hG1
    have ho := hr1 _ rfl; subst ho
    exact ⟨x4, x5, s3, rfl, hA.part ⟨rfl, rfl, trivial⟩, ((hS).sel [0] rfl).selR [] rfl⟩
  ·skip
   clear hA hS hl1
   rintro a w ⟨x6, x7, s4, heq, hA, hS⟩
   replace hF : impl_Var_j1 x6 x7 = some r := by rw [heq] at hF; exact hF
   clear heq
   unfold impl_Var_j1 at hF
   refine cw_seq <| cw_ops hA ?_
   clear hA
   refine om rfl rfl <| om rfl rfl <| oy (rv_conv8 Tryz.underlying3 Tryz.underlying5 rfl rfl) rfl <| ops_mv (rv_lit1 (u8 x6 : UInt8) hS rfl Tryz.underlying108 inf_Tryz5 rfl rfl rfl rfl) (want_yes rfl) rfl rfl ?_
   clear hS
   rintro s5 w hS
   obtain ⟨hn1, hF⟩ := needE hF
   refine ops_mv (rv_append (α := UInt8) 0 hS rfl (hS.rdOwn 1 rfl) rfl Tryz.underlying108 inf_Tryz5 rfl hn1 rfl rfl rfl) (want_yes rfl) rfl rfl ?_
   clear hS
   rintro s6 w hS
   refine oy (rv_b2s (hS.rdOwn 0 rfl) Tryz.underlying108 Tryz.underlying5 Tryz.underlying9 rfl rfl) rfl <| oa rfl rfl <| ops_nil fun a hA => cw_ret ?_
   cases hF
   exact fy Tryz.results28 hA rfl hS

theorem c_impl_showList {w0 : World} {s : SList} {s1 : Value} {r : (List UInt8)} (h1 : Rep.rd (All w0) w0 [s1] (s.Slots : List Int)) (hF : impl_showList s = some r) :
    Calls Tryz.prog 74 #[.agg #[s1]] w0 (Ret fun v w' => v = sv (r) ∧ St (cxAll w0) w' [] []) := by
 have hS : St (cxAll w0) w0 [] [fRd [s1] (s.Slots : List Int)] := St.enter (by
   intro f hf
   simp only [List.mem_cons, List.not_mem_nil, or_false] at hf
   subst hf; exact h1)
 refine calls_cw (args := [_]) Tryz.func74 rfl Tryz.ntmps74 rfl ?_
 unfold impl_showList at hF
 intro a hA
 refine cw_seq <| cw_ops hA ?_
 clear hA
 refine ops_mv (rv_box (cs := [s1]) hS rfl rfl rfl) (want_yes rfl) rfl rfl ?_
 clear hS
 rintro _ w ⟨b1, rfl, hS⟩
 refine oa rfl rfl <| ops_nil fun a hA => cw_seq <| cw_ops hA ?_
 clear hA
 refine oy (rv_fld (m := 0) Tryz.underlying120 rfl rfl Tryz.sizeOf22 rfl rfl) rfl <| oy (rv_load1 rfl rfl Tryz.isAgg22 (hS.cell 0 rfl rfl)) rfl <| oy (rv_lenS (hS.rd 0 rfl) Tryz.underlying22 rfl rfl) rfl ?_
 obtain ⟨x1, hx1, hF⟩ := bindE hF
 refine ops_c (rc_call Tryz.call28 rfl rfl) (want_yes rfl) rfl rfl (c_impl_Var (n := (s.Slots.length : Int))  hx1) ?_
 rintro _ w ⟨rfl, hk⟩
 replace hS := hS.after hk; clear hk
 refine oa rfl rfl <| ops_nil fun a hA => cw_seq <| cw_seq <| cw_ops hA ?_
 clear hA
 refine oy (rv_fld (m := 0) Tryz.underlying120 rfl rfl Tryz.sizeOf22 rfl rfl) rfl <| oy (rv_load1 rfl rfl Tryz.isAgg22 (hS.cell 0 rfl rfl)) rfl <| oy (rv_lenS (hS.rd 0 rfl) Tryz.underlying22 rfl rfl) rfl <| om rfl rfl <| ops_nil fun a hA => ?_
 obtain ⟨o1, hl1, hF⟩ := bindE hF
 refine cw_cut (J := fun a' w' => ∃ (x6 : List UInt8), o1 = x6 ∧ AEnv 23 [(3, sv (x6))] a' ∧ St (cxAll w0) w' [] []) ?_ ?_
 ·refine cw_block ?_
  refine cw_loop (body := impl_showList_l1 s) (r := o1) (fun sg a' w' => AEnv 23 [(3, sv (sg.1)), (11, s1), (12, .int .i64 ((s.Slots.length : Int))), (13, .int .i64 (sg.2))] a' ∧ St (cxAll w0) w' [] [fRd [s1] (s.Slots : List Int)]) ?_ hl1 ⟨hA.part ⟨rfl, rfl, rfl, rfl, trivial⟩, ((hS).sel [] rfl).selR [0] rfl⟩
  clear hA hS hl1
  rintro ⟨x4, x5⟩ a w q1 ⟨hA, hS⟩ hG1 hr1
  try dsimp only at hA hS
  unfold impl_showList_l1 at hG1
  refine cw_seq <| cw_ops hA ?_
  clear hA
  refine oy (rv_lss rfl rfl rfl) rfl <| ops_nil fun a hA => cw_seq <| cw_cond hA rfl (fun hc1 => ?_) (fun hc1 => ?_)
  ·replace hG1 := iteT hc1 hG1
   refine cw_skip <| cw_seq <| cw_block <| cw_seq <| cw_ops hA ?_
   clear hA
   obtain ⟨x7, hx7, hG1⟩ := bindE hG1
   refine oy (rv_idx (m := 1) (hS.rd 0 rfl) rfl hx7 Tryz.underlying22 Tryz.sizeOf3 rfl rfl rfl) rfl <| oy (rv_load1 rfl rfl Tryz.isAgg3 (cell1 (el_Int (hS.rd 0 rfl) (idx_some hx7).2.2))) rfl <| oa rfl rfl <| ops_nil fun a hA => cw_ops hA ?_
   clear hA
   refine om rfl rfl <| om rfl rfl ?_
   obtain ⟨x8, hx8, hG1⟩ := bindE hG1
   refine ops_c (rc_call Tryz.call28 rfl rfl) (want_yes rfl) rfl rfl (c_impl_Var (n := x7)  hx8) ?_
   rintro _ w ⟨rfl, hk⟩
   replace hS := hS.after hk; clear hk
   obtain ⟨hn1, hG1⟩ := needE hG1
   refine oy (rv_cat rfl rfl rfl hn1) rfl <| oa rfl rfl <| ops_nil fun a hA => cw_ops hA ?_
   clear hA
   refine oy (rv_add rfl rfl rfl) rfl <| om rfl rfl <| ops_nil fun a hA => ?_
   cases hG1
   exact ⟨_, rfl, ⟨hA.part ⟨rfl, rfl, rfl, rfl, trivial⟩, ((hS).sel [] rfl).selR [0] rfl⟩⟩
  ·replace hG1 := iteF hc1 hG1
   refine cw_exit <| xcons_hit ?_
   cases hG1
   have ho := hr1 _ rfl; subst ho
   exact ⟨x4, rfl, hA.part ⟨rfl, trivial⟩, ((hS).sel [] rfl).selR [] rfl⟩
 ·skip
  clear hA hS hl1
  rintro a w ⟨x6, heq, hA, hS⟩
  replace hF : impl_showList_j1 x6 = some r := by rw [heq] at hF; exact hF
  clear heq
  unfold impl_showList_j1 at hF
  refine cw_seq <| cw_ops hA ?_
  clear hA
  refine om rfl rfl <| oa rfl rfl <| ops_nil fun a hA => cw_ret ?_
  cases hF
  exact fy Tryz.results74 hA rfl hS

theorem c_impl_ShowMem {w0 : World} {m : Mem} {s1 : Value} {s2 : Value} {s3 : Value} {s4 : Value} {r : (List UInt8)} (h1 : Rep.rd (All w0) w0 [s1] (m.Heap.Bytes : List Int)) (h2 : Rep.rd (All w0) w0 [s2] (m.Heap.Class : List Int)) (h3 : Rep.rd (All w0) w0 [s3] (m.Lists.Global : List SList)) (h4 : Rep.rd (All w0) w0 [s4] (m.Lists.Own : List SList)) (hF : impl_ShowMem m = some r) :
    Calls Tryz.prog 27 #[.agg #[s1, s2, s3, s4]] w0 (Ret fun v w' => v = sv (r) ∧ St (cxAll w0) w' [] []) := by
 have hS : St (cxAll w0) w0 [] [fRd [s1] (m.Heap.Bytes : List Int), fRd [s2] (m.Heap.Class : List Int), fRd [s3] (m.Lists.Global : List SList), fRd [s4] (m.Lists.Own : List SList)] := St.enter (by
   intro f hf
   simp only [List.mem_cons, List.not_mem_nil, or_false] at hf
   rcases hf with rfl | rfl | rfl | rfl
   · exact h1
   · exact h2
   · exact h3
   · exact h4)
 refine calls_cw (args := [_]) Tryz.func27 rfl Tryz.ntmps27 rfl ?_
 unfold impl_ShowMem at hF
 intro a hA
 refine cw_seq <| cw_ops hA ?_
 clear hA
 refine ops_mv (rv_box (cs := [s1, s2, s3, s4]) hS rfl rfl rfl) (want_yes rfl) rfl rfl ?_
 clear hS
 rintro _ w ⟨b1, rfl, hS⟩
 refine oa rfl rfl <| ops_nil fun a hA => cw_seq <| cw_seq <| cw_ops hA ?_
 clear hA
 refine oy (rv_loadN rfl rfl Tryz.isAgg43 Tryz.sizeOf43 rfl (hS.cells 0 0 (cs' := [s1, s2, s3, s4]) rfl rfl)) rfl ?_
 obtain ⟨x1, hx1, hF⟩ := bindE hF
 refine ops_c (rc_call Tryz.call65 rfl rfl) (want_yes rfl) rfl rfl (c_impl_MemOk (m := m) (hS.rd 0 rfl) (hS.rd 1 rfl) (hS.rd 2 rfl) (hS.rd 3 rfl) hx1) ?_
 rintro _ w ⟨rfl, hk⟩
 replace hS := hS.after hk; clear hk
 refine oy (rv_not rfl rfl) rfl <| ops_nil fun a hA => cw_cond hA rfl (fun hc1 => ?_) (fun hc1 => ?_)
 ·replace hF := iteT hc1 hF
  refine cw_seq <| cw_ops hA ?_
  clear hA
  refine oa rfl rfl <| ops_nil fun a hA => cw_ret ?_
  cases hF
  exact fy Tryz.results27 hA rfl hS
 ·replace hF := iteF hc1 hF
  refine cw_skip <| cw_seq <| cw_ops hA ?_
  clear hA
  refine ops_mv (rv_lit0 (α := UInt8) hS rfl Tryz.underlying108 inf_Tryz5 rfl) (want_yes rfl) rfl rfl ?_
  clear hS
  rintro s5 w hS
  refine oa rfl rfl <| ops_nil fun a hA => cw_seq <| cw_seq <| cw_ops hA ?_
  clear hA
  refine oy (rv_fld (m := 1) Tryz.underlying43 rfl rfl Tryz.sizeOf38 rfl rfl) rfl <| oy (rv_fld (m := 0) Tryz.underlying38 rfl rfl Tryz.sizeOf22 rfl rfl) rfl <| oy (rv_load1 rfl rfl Tryz.isAgg22 (hS.cell 0 rfl rfl)) rfl <| oy (rv_lenS (hS.rd 0 rfl) Tryz.underlying22 rfl rfl) rfl <| om rfl rfl <| ops_nil fun a hA => ?_
  obtain ⟨o1, hl1, hF⟩ := bindE hF
  refine cw_cut (J := fun a' w' => ∃ (x6 : List UInt8) (s8 : Value), o1 = x6 ∧ AEnv 75 [(1, .pointer (some ⟨b1, 0, none⟩)), (3, s8)] a' ∧ St (cxAll w0) w' [cOwn [s8] (x6 : List UInt8), cBox b1 [s1, s2, s3, s4]] [fRd [s1] (m.Heap.Bytes : List Int), fRd [s2] (m.Heap.Class : List Int), fRd [s3] (m.Lists.Global : List SList), fRd [s4] (m.Lists.Own : List SList)]) ?_ ?_
  ·refine cw_block ?_
   refine cw_loop (body := impl_ShowMem_l1 m) (r := o1) (fun sg a' w' => ∃ (s7 : Value), AEnv 75 [(1, .pointer (some ⟨b1, 0, none⟩)), (3, s7), (19, s1), (20, .int .i64 ((m.Heap.Bytes.length : Int))), (21, .int .i64 (sg.2))] a' ∧ St (cxAll w0) w' [cOwn [s7] (sg.1 : List UInt8), cBox b1 [s1, s2, s3, s4]] [fRd [s1] (m.Heap.Bytes : List Int), fRd [s2] (m.Heap.Class : List Int), fRd [s3] (m.Lists.Global : List SList), fRd [s4] (m.Lists.Own : List SList)]) ?_ hl1 ⟨s5, hA.part ⟨rfl, rfl, rfl, rfl, rfl, trivial⟩, ((hS).sel [1, 0] rfl).selR [0, 1, 2, 3] rfl⟩
   clear hA hS hl1
   rintro ⟨x4, x5⟩ a w q1 ⟨s7, hA, hS⟩ hG1 hr1
   try dsimp only at hA hS
   unfold impl_ShowMem_l1 at hG1
   refine cw_seq <| cw_ops hA ?_
   clear hA
   refine oy (rv_lss rfl rfl rfl) rfl <| ops_nil fun a hA => cw_seq <| cw_cond hA rfl (fun hc5 => ?_) (fun hc5 => ?_)
   ·replace hG1 := iteT hc5 hG1
    refine cw_skip <| cw_seq <| cw_block <| cw_seq <| cw_ops hA ?_
    clear hA
    obtain ⟨x27, hx27, hG1⟩ := bindE hG1
    refine oy (rv_idx (m := 1) (hS.rd 0 rfl) rfl hx27 Tryz.underlying22 Tryz.sizeOf3 rfl rfl rfl) rfl <| oy (rv_load1 rfl rfl Tryz.isAgg3 (cell1 (el_Int (hS.rd 0 rfl) (idx_some hx27).2.2))) rfl <| oa rfl rfl <| ops_nil fun a hA => cw_ops hA ?_
    clear hA
    refine om rfl rfl <| om rfl rfl <| oy (rv_conv8 Tryz.underlying3 Tryz.underlying5 rfl rfl) rfl <| ops_mv (rv_lit1 (u8 x27 : UInt8) hS rfl Tryz.underlying108 inf_Tryz5 rfl rfl rfl rfl) (want_yes rfl) rfl rfl ?_
    clear hS
    rintro s16 w hS
    obtain ⟨hn4, hG1⟩ := needE hG1
    refine ops_mv (rv_append (α := UInt8) 0 hS rfl (hS.rdOwn 2 rfl) rfl Tryz.underlying108 inf_Tryz5 rfl hn4 rfl rfl rfl) (want_yes rfl) rfl rfl ?_
    clear hS
    rintro s17 w hS
    refine oa rfl rfl <| ops_nil fun a hA => cw_ops hA ?_
    clear hA
    refine oy (rv_add rfl rfl rfl) rfl <| om rfl rfl <| ops_nil fun a hA => ?_
    cases hG1
    exact ⟨_, rfl, ⟨s17, hA.part ⟨rfl, rfl, rfl, rfl, rfl, trivial⟩, ((hS).sel [0, 1] rfl).selR [0, 1, 2, 3] rfl⟩⟩
   ·replace hG1 := iteF hc5 hG1
    refine cw_exit <| xcons_hit ?_
    cases hG1
    have ho := hr1 _ rfl; subst ho
    exact ⟨x4, s7, rfl, hA.part ⟨rfl, rfl, trivial⟩, ((hS).sel [0, 1] rfl).selR [0, 1, 2, 3] rfl⟩
  ·skip
   clear hA hS hl1
   rintro a w ⟨x6, s8, heq, hA, hS⟩
   replace hF : impl_ShowMem_j1 m x6 = some r := by rw [heq] at hF; exact hF
   clear heq
   unfold impl_ShowMem_j1 at hF
   refine cw_seq <| cw_seq <| cw_ops hA ?_
   clear hA
   refine oy (rv_fld (m := 1) Tryz.underlying43 rfl rfl Tryz.sizeOf38 rfl rfl) rfl <| oy (rv_fld (m := 0) Tryz.underlying38 rfl rfl Tryz.sizeOf22 rfl rfl) rfl <| oy (rv_load1 rfl rfl Tryz.isAgg22 (hS.cell 1 rfl rfl)) rfl <| oy (rv_lenS (hS.rd 1 rfl) Tryz.underlying22 rfl rfl) rfl <| om rfl rfl <| ops_nil fun a hA => ?_
   obtain ⟨o2, hl2, hF⟩ := bindE hF
   refine cw_cut (J := fun a' w' => ∃ (x11 : List UInt8) (s11 : Value), o2 = x11 ∧ AEnv 75 [(1, .pointer (some ⟨b1, 0, none⟩)), (3, s11)] a' ∧ St (cxAll w0) w' [cOwn [s11] (x11 : List UInt8), cBox b1 [s1, s2, s3, s4]] [fRd [s1] (m.Heap.Bytes : List Int), fRd [s2] (m.Heap.Class : List Int), fRd [s3] (m.Lists.Global : List SList), fRd [s4] (m.Lists.Own : List SList)]) ?_ ?_
   ·refine cw_block ?_
    refine cw_loop (body := impl_ShowMem_l2 m) (r := o2) (fun sg a' w' => ∃ (s10 : Value), AEnv 75 [(1, .pointer (some ⟨b1, 0, none⟩)), (3, s10), (33, s2), (34, .int .i64 ((m.Heap.Class.length : Int))), (35, .int .i64 (sg.2))] a' ∧ St (cxAll w0) w' [cOwn [s10] (sg.1 : List UInt8), cBox b1 [s1, s2, s3, s4]] [fRd [s2] (m.Heap.Class : List Int), fRd [s1] (m.Heap.Bytes : List Int), fRd [s3] (m.Lists.Global : List SList), fRd [s4] (m.Lists.Own : List SList)]) ?_ hl2 ⟨s8, hA.part ⟨rfl, rfl, rfl, rfl, rfl, trivial⟩, ((hS).sel [0, 1] rfl).selR [1, 0, 2, 3] rfl⟩
    clear hA hS hl2
    rintro ⟨x9, x10⟩ a w q2 ⟨s10, hA, hS⟩ hG2 hr2
    try dsimp only at hA hS
    unfold impl_ShowMem_l2 at hG2
    refine cw_seq <| cw_ops hA ?_
    clear hA
    refine oy (rv_lss rfl rfl rfl) rfl <| ops_nil fun a hA => cw_seq <| cw_cond hA rfl (fun hc4 => ?_) (fun hc4 => ?_)
    ·replace hG2 := iteT hc4 hG2
     refine cw_skip <| cw_seq <| cw_block <| cw_seq <| cw_ops hA ?_
     clear hA
     obtain ⟨x26, hx26, hG2⟩ := bindE hG2
     refine oy (rv_idx (m := 1) (hS.rd 0 rfl) rfl hx26 Tryz.underlying22 Tryz.sizeOf3 rfl rfl rfl) rfl <| oy (rv_load1 rfl rfl Tryz.isAgg3 (cell1 (el_Int (hS.rd 0 rfl) (idx_some hx26).2.2))) rfl <| oa rfl rfl <| ops_nil fun a hA => cw_ops hA ?_
     clear hA
     refine om rfl rfl <| om rfl rfl <| oy (rv_add rfl rfl rfl) rfl <| oy (rv_conv8 Tryz.underlying3 Tryz.underlying5 rfl rfl) rfl <| ops_mv (rv_lit1 (u8 (w64 (x26 + 1)) : UInt8) hS rfl Tryz.underlying108 inf_Tryz5 rfl rfl rfl rfl) (want_yes rfl) rfl rfl ?_
     clear hS
     rintro s14 w hS
     obtain ⟨hn3, hG2⟩ := needE hG2
     refine ops_mv (rv_append (α := UInt8) 0 hS rfl (hS.rdOwn 2 rfl) rfl Tryz.underlying108 inf_Tryz5 rfl hn3 rfl rfl rfl) (want_yes rfl) rfl rfl ?_
     clear hS
     rintro s15 w hS
     refine oa rfl rfl <| ops_nil fun a hA => cw_ops hA ?_
     clear hA
     refine oy (rv_add rfl rfl rfl) rfl <| om rfl rfl <| ops_nil fun a hA => ?_
     cases hG2
     exact ⟨_, rfl, ⟨s15, hA.part ⟨rfl, rfl, rfl, rfl, rfl, trivial⟩, ((hS).sel [0, 1] rfl).selR [0, 1, 2, 3] rfl⟩⟩
    ·replace hG2 := iteF hc4 hG2
     refine cw_exit <| xcons_hit ?_
     cases hG2
     have ho := hr2 _ rfl; subst ho
     exact ⟨x9, s10, rfl, hA.part ⟨rfl, rfl, trivial⟩, ((hS).sel [0, 1] rfl).selR [1, 0, 2, 3] rfl⟩
   ·skip
    clear hA hS hl2
    rintro a w ⟨x11, s11, heq, hA, hS⟩
    replace hF : impl_ShowMem_j2 m x11 = some r := by rw [heq] at hF; exact hF
    clear heq
    unfold impl_ShowMem_j2 at hF
    refine cw_seq <| cw_ops hA ?_
    clear hA
    refine om rfl rfl <| oy (rv_b2s (hS.rdOwn 0 rfl) Tryz.underlying108 Tryz.underlying5 Tryz.underlying9 rfl rfl) rfl <| oa rfl rfl <| ops_nil fun a hA => cw_seq <| cw_seq <| cw_ops hA ?_
    clear hA
    refine oy (rv_fld (m := 1) Tryz.underlying43 rfl rfl Tryz.sizeOf41 rfl rfl) rfl <| oy (rv_fld (m := 0) Tryz.underlying41 rfl rfl Tryz.sizeOf39 rfl rfl) rfl <| oy (rv_load1 rfl rfl Tryz.isAgg39 (hS.cell 1 rfl rfl)) rfl <| oy (rv_lenS (hS.rd 2 rfl) Tryz.underlying39 rfl rfl) rfl <| om rfl rfl <| ops_nil fun a hA => ?_
    obtain ⟨o3, hl3, hF⟩ := bindE hF
    refine cw_cut (J := fun a' w' => ∃ (x16 : List UInt8), o3 = x16 ∧ AEnv 75 [(1, .pointer (some ⟨b1, 0, none⟩)), (8, sv (x16))] a' ∧ St (cxAll w0) w' [cBox b1 [s1, s2, s3, s4]] [fRd [s1] (m.Heap.Bytes : List Int), fRd [s2] (m.Heap.Class : List Int), fRd [s3] (m.Lists.Global : List SList), fRd [s4] (m.Lists.Own : List SList)]) ?_ ?_
    ·refine cw_block ?_
     refine cw_loop (body := impl_ShowMem_l3 m) (r := o3) (fun sg a' w' => AEnv 75 [(1, .pointer (some ⟨b1, 0, none⟩)), (8, sv (sg.1)), (50, s3), (51, .int .i64 ((m.Lists.Global.length : Int))), (52, .int .i64 (sg.2))] a' ∧ St (cxAll w0) w' [cBox b1 [s1, s2, s3, s4]] [fRd [s3] (m.Lists.Global : List SList), fRd [s1] (m.Heap.Bytes : List Int), fRd [s2] (m.Heap.Class : List Int), fRd [s4] (m.Lists.Own : List SList)]) ?_ hl3 ⟨hA.part ⟨rfl, rfl, rfl, rfl, rfl, trivial⟩, ((hS).sel [1] rfl).selR [2, 0, 1, 3] rfl⟩
     clear hA hS hl3
     rintro ⟨x14, x15⟩ a w q3 ⟨hA, hS⟩ hG3 hr3
     try dsimp only at hA hS
     unfold impl_ShowMem_l3 at hG3
     refine cw_seq <| cw_ops hA ?_
     clear hA
     refine oy (rv_lss rfl rfl rfl) rfl <| ops_nil fun a hA => cw_seq <| cw_cond hA rfl (fun hc3 => ?_) (fun hc3 => ?_)
     ·replace hG3 := iteT hc3 hG3
      refine cw_skip <| cw_seq <| cw_block <| cw_seq <| cw_ops hA ?_
      clear hA
      obtain ⟨x24, hx24, hG3⟩ := bindE hG3
      refine oy (rv_idx (m := 1) (hS.rd 0 rfl) rfl hx24 Tryz.underlying39 Tryz.sizeOf120 rfl rfl rfl) rfl ?_
      obtain ⟨s13, hel, hS⟩ := hS.el_SList 0 rfl (idx_some hx24).2.2
      refine oy (rv_loadN rfl rfl Tryz.isAgg120 Tryz.sizeOf120 rfl hel) rfl <| ops_mv (rv_alloc (cs := [(.slice none 0 0)]) hS rfl Tryz.zeroValue120 rfl) (want_yes rfl) rfl rfl ?_
      clear hS
      rintro _ w ⟨b3, rfl, hS⟩
      refine ops_ms (rs_box (vs := [s13]) hS (i := 1) rfl rfl rfl rfl rfl Tryz.sizeOf120 rfl rfl (all1 (one_rd (hS.rd 4 rfl)) rfl)) (want_yes rfl) rfl ?_
      clear hS
      intro w hS
      refine ops_nil fun a hA => cw_ops hA ?_
      clear hA
      refine om rfl rfl <| oy (rv_loadN rfl rfl Tryz.isAgg120 Tryz.sizeOf120 rfl (hS.cells 1 0 (cs' := [s13]) rfl rfl)) rfl ?_
      obtain ⟨x25, hx25, hG3⟩ := bindE hG3
      refine ops_c (rc_call Tryz.call74 rfl rfl) (want_yes rfl) rfl rfl (c_impl_showList (s := x24) (hS.rd 4 rfl) hx25) ?_
      rintro _ w ⟨rfl, hk⟩
      replace hS := hS.after hk; clear hk
      obtain ⟨hn2, hG3⟩ := needE hG3
      refine oy (rv_cat rfl rfl rfl hn2) rfl <| oa rfl rfl <| ops_nil fun a hA => cw_ops hA ?_
      clear hA
      refine oy (rv_add rfl rfl rfl) rfl <| om rfl rfl <| ops_nil fun a hA => ?_
      cases hG3
      exact ⟨_, rfl, ⟨hA.part ⟨rfl, rfl, rfl, rfl, rfl, trivial⟩, ((hS).sel [0] rfl).selR [0, 1, 2, 3] rfl⟩⟩
     ·replace hG3 := iteF hc3 hG3
      refine cw_exit <| xcons_hit ?_
      cases hG3
      have ho := hr3 _ rfl; subst ho
      exact ⟨x14, rfl, hA.part ⟨rfl, rfl, trivial⟩, ((hS).sel [0] rfl).selR [1, 2, 0, 3] rfl⟩
    ·skip
     clear hA hS hl3
     rintro a w ⟨x16, heq, hA, hS⟩
     replace hF : impl_ShowMem_j3 m x16 = some r := by rw [heq] at hF; exact hF
     clear heq
     unfold impl_ShowMem_j3 at hF
     refine cw_seq <| cw_seq <| cw_ops hA ?_
     clear hA
     refine oy (rv_fld (m := 1) Tryz.underlying43 rfl rfl Tryz.sizeOf41 rfl rfl) rfl <| oy (rv_fld (m := 0) Tryz.underlying41 rfl rfl Tryz.sizeOf39 rfl rfl) rfl <| oy (rv_load1 rfl rfl Tryz.isAgg39 (hS.cell 0 rfl rfl)) rfl <| oy (rv_lenS (hS.rd 3 rfl) Tryz.underlying39 rfl rfl) rfl <| om rfl rfl <| ops_nil fun a hA => ?_
     obtain ⟨o4, hl4, hF⟩ := bindE hF
     refine cw_cut (J := fun a' w' => ∃ (x21 : List UInt8), o4 = x21 ∧ AEnv 75 [(8, sv (x21))] a' ∧ St (cxAll w0) w' [] []) ?_ ?_
     ·refine cw_block ?_
      refine cw_loop (body := impl_ShowMem_l4 m) (r := o4) (fun sg a' w' => AEnv 75 [(8, sv (sg.1)), (63, s4), (64, .int .i64 ((m.Lists.Own.length : Int))), (65, .int .i64 (sg.2))] a' ∧ St (cxAll w0) w' [] [fRd [s4] (m.Lists.Own : List SList)]) ?_ hl4 ⟨hA.part ⟨rfl, rfl, rfl, rfl, trivial⟩, ((hS).sel [] rfl).selR [3] rfl⟩
      clear hA hS hl4
      rintro ⟨x19, x20⟩ a w q4 ⟨hA, hS⟩ hG4 hr4
      try dsimp only at hA hS
      unfold impl_ShowMem_l4 at hG4
      refine cw_seq <| cw_ops hA ?_
      clear hA
      refine oy (rv_lss rfl rfl rfl) rfl <| ops_nil fun a hA => cw_seq <| cw_cond hA rfl (fun hc2 => ?_) (fun hc2 => ?_)
      ·replace hG4 := iteT hc2 hG4
       refine cw_skip <| cw_seq <| cw_block <| cw_seq <| cw_ops hA ?_
       clear hA
       obtain ⟨x22, hx22, hG4⟩ := bindE hG4
       refine oy (rv_idx (m := 1) (hS.rd 0 rfl) rfl hx22 Tryz.underlying39 Tryz.sizeOf120 rfl rfl rfl) rfl ?_
       obtain ⟨s12, hel, hS⟩ := hS.el_SList 0 rfl (idx_some hx22).2.2
       refine oy (rv_loadN rfl rfl Tryz.isAgg120 Tryz.sizeOf120 rfl hel) rfl <| ops_mv (rv_alloc (cs := [(.slice none 0 0)]) hS rfl Tryz.zeroValue120 rfl) (want_yes rfl) rfl rfl ?_
       clear hS
       rintro _ w ⟨b2, rfl, hS⟩
       refine ops_ms (rs_box (vs := [s12]) hS (i := 0) rfl rfl rfl rfl rfl Tryz.sizeOf120 rfl rfl (all1 (one_rd (hS.rd 1 rfl)) rfl)) (want_yes rfl) rfl ?_
       clear hS
       intro w hS
       refine ops_nil fun a hA => cw_ops hA ?_
       clear hA
       refine om rfl rfl <| oy (rv_loadN rfl rfl Tryz.isAgg120 Tryz.sizeOf120 rfl (hS.cells 0 0 (cs' := [s12]) rfl rfl)) rfl ?_
       obtain ⟨x23, hx23, hG4⟩ := bindE hG4
       refine ops_c (rc_call Tryz.call74 rfl rfl) (want_yes rfl) rfl rfl (c_impl_showList (s := x22) (hS.rd 1 rfl) hx23) ?_
       rintro _ w ⟨rfl, hk⟩
       replace hS := hS.after hk; clear hk
       obtain ⟨hn1, hG4⟩ := needE hG4
       refine oy (rv_cat rfl rfl rfl hn1) rfl <| oa rfl rfl <| ops_nil fun a hA => cw_ops hA ?_
       clear hA
       refine oy (rv_add rfl rfl rfl) rfl <| om rfl rfl <| ops_nil fun a hA => ?_
       cases hG4
       exact ⟨_, rfl, ⟨hA.part ⟨rfl, rfl, rfl, rfl, trivial⟩, ((hS).sel [] rfl).selR [0] rfl⟩⟩
      ·replace hG4 := iteF hc2 hG4
       refine cw_exit <| xcons_hit ?_
       cases hG4
       have ho := hr4 _ rfl; subst ho
       exact ⟨x19, rfl, hA.part ⟨rfl, trivial⟩, ((hS).sel [] rfl).selR [] rfl⟩
     ·skip
      clear hA hS hl4
      rintro a w ⟨x21, heq, hA, hS⟩
      replace hF : impl_ShowMem_j4 x21 = some r := by rw [heq] at hF; exact hF
      clear heq
      unfold impl_ShowMem_j4 at hF
      refine cw_seq <| cw_ops hA ?_
      clear hA
      refine om rfl rfl <| oa rfl rfl <| ops_nil fun a hA => cw_ret ?_
      cases hF
      exact fy Tryz.results27 hA rfl hS

theorem c_impl_flag {w0 : World} {is : Bool}  {r : Int}  (hF : impl_flag is = some r) :
    Calls Tryz.prog 29 #[.bool (is)] w0 (Ret fun v w' => v = .int .i64 (r) ∧ St (cxAll w0) w' [] []) := by
 have hS : St (cxAll w0) w0 [] [] := St.enter (by
   intro f hf; cases hf)
 refine calls_cw (args := [_]) Tryz.func29 rfl Tryz.ntmps29 rfl ?_
 unfold impl_flag at hF
 intro a hA
 refine cw_seq <| cw_ops hA ?_
 clear hA
 refine oa rfl rfl <| ops_nil fun a hA => cw_seq <| cw_seq <| cw_ops hA ?_
 clear hA
 refine om rfl rfl <| ops_nil fun a hA => cw_cond hA rfl (fun hc1 => ?_) (fun hc1 => ?_)
 ·replace hF := iteT hc1 hF
  refine cw_seq <| cw_ops hA ?_
  clear hA
  refine oa rfl rfl <| ops_nil fun a hA => cw_ret ?_
  cases hF
  exact fy Tryz.results29 hA rfl hS
 ·replace hF := iteF hc1 hF
  refine cw_skip <| cw_seq <| cw_ops hA ?_
  clear hA
  refine oa rfl rfl <| ops_nil fun a hA => cw_ret ?_
  cases hF
  exact fy Tryz.results29 hA rfl hS

theorem c_impl_ShowBase {w0 : World} {b : Base} {s1 : Value} {s2 : Value} {s3 : Value} {s4 : Value} {s5 : Value} {s6 : Value} {s7 : Value} {r : (List UInt8)} (h1 : Rep.rd (All w0) w0 [s1] (b.Mem.Heap.Bytes : List Int)) (h2 : Rep.rd (All w0) w0 [s2] (b.Mem.Heap.Class : List Int)) (h3 : Rep.rd (All w0) w0 [s3] (b.Mem.Lists.Global : List SList)) (h4 : Rep.rd (All w0) w0 [s4] (b.Mem.Lists.Own : List SList)) (h5 : Rep.rd (All w0) w0 [s5] (b.Clock.Pins : List Pin)) (h6 : Rep.rd (All w0) w0 [s6] (b.Limbo : List LList)) (h7 : Rep.rd (All w0) w0 [s7] (b.Haz : List Int)) (hF : impl_ShowBase b = some r) :
    Calls Tryz.prog 8 #[.agg #[s1, s2, s3, s4, .int .i64 (b.Clock.Epoch), s5, s6, s7]] w0 (Ret fun v w' => v = sv (r) ∧ St (cxAll w0) w' [] []) := by
 have hS : St (cxAll w0) w0 [] [fRd [s1] (b.Mem.Heap.Bytes : List Int), fRd [s2] (b.Mem.Heap.Class : List Int), fRd [s3] (b.Mem.Lists.Global : List SList), fRd [s4] (b.Mem.Lists.Own : List SList), fRd [s5] (b.Clock.Pins : List Pin), fRd [s6] (b.Limbo : List LList), fRd [s7] (b.Haz : List Int)] := St.enter (by
   intro f hf
   simp only [List.mem_cons, List.not_mem_nil, or_false] at hf
   rcases hf with rfl | rfl | rfl | rfl | rfl | rfl | rfl
   · exact h1
   · exact h2
   · exact h3
   · exact h4
   · exact h5
   · exact h6
   · exact h7)
 refine calls_cw (args := [_]) Tryz.func8 rfl Tryz.ntmps8 rfl ?_
 unfold impl_ShowBase at hF
 intro a hA
 refine cw_seq <| cw_ops hA ?_
 clear hA
 refine ops_mv (rv_box (cs := [s1, s2, s3, s4, .int .i64 (b.Clock.Epoch), s5, s6, s7]) hS rfl rfl rfl) (want_yes rfl) rfl rfl ?_
 clear hS
 rintro _ w ⟨b1, rfl, hS⟩
 refine oa rfl rfl <| ops_nil fun a hA => cw_seq <| cw_seq <| cw_ops hA ?_
 clear hA
 refine oy (rv_loadN rfl rfl Tryz.isAgg49 Tryz.sizeOf49 rfl (hS.cells 0 0 (cs' := [s1, s2, s3, s4, .int .i64 (b.Clock.Epoch), s5, s6, s7]) rfl rfl)) rfl ?_
 obtain ⟨x1, hx1, hF⟩ := bindE hF
 refine ops_c (rc_call Tryz.call26 rfl rfl) (want_yes rfl) rfl rfl (c_impl_BaseOk (b := b) (hS.rd 0 rfl) (hS.rd 1 rfl) (hS.rd 2 rfl) (hS.rd 3 rfl) (hS.rd 4 rfl) (hS.rd 5 rfl) (hS.rd 6 rfl) hx1) ?_
 rintro _ w ⟨rfl, hk⟩
 replace hS := hS.after hk; clear hk
 refine oy (rv_not rfl rfl) rfl <| ops_nil fun a hA => cw_cond hA rfl (fun hc1 => ?_) (fun hc1 => ?_)
 ·replace hF := iteT hc1 hF
  refine cw_seq <| cw_ops hA ?_
  clear hA
  refine oa rfl rfl <| ops_nil fun a hA => cw_ret ?_
  cases hF
  exact fy Tryz.results8 hA rfl hS
 ·replace hF := iteF hc1 hF
  refine cw_skip <| cw_seq <| cw_any (Keeps (cxAll w0) [cBox b1 [s1, s2, s3, s4, .int .i64 (b.Clock.Epoch), s5, s6, s7]] [fRd [s1] (b.Mem.Heap.Bytes : List Int), fRd [s2] (b.Mem.Heap.Class : List Int), fRd [s3] (b.Mem.Lists.Global : List SList), fRd [s4] (b.Mem.Lists.Own : List SList), fRd [s5] (b.Clock.Pins : List Pin), fRd [s6] (b.Limbo : List LList), fRd [s7] (b.Haz : List Int)]) mixed_Tryz hA hS ?_
  clear hA hS; intro w hS
  have hK : Keeps (cxAll w0) [cBox b1 [s1, s2, s3, s4, .int .i64 (b.Clock.Epoch), s5, s6, s7]] [fRd [s1] (b.Mem.Heap.Bytes : List Int), fRd [s2] (b.Mem.Heap.Class : List Int), fRd [s3] (b.Mem.Lists.Global : List SList), fRd [s4] (b.Mem.Lists.Own : List SList), fRd [s5] (b.Clock.Pins : List Pin), fRd [s6] (b.Limbo : List LList), fRd [s7] (b.Haz : List Int)] w := ⟨_, (hS.sel [0] rfl).selR [0, 1, 2, 3, 4, 5, 6] rfl⟩
  refine ey 0 rfl (by kernel_rfl) hK (fun _ _ _ => (rv_fld (m := 3) Tryz.underlying49 rfl rfl Tryz.sizeOf43 rfl rfl)) rfl ?_
  refine ey 1 rfl (by kernel_rfl) hK (fun _ _ hS => (rv_loadN rfl rfl Tryz.isAgg43 Tryz.sizeOf43 rfl (hS.cells 0 0 (cs' := [s1, s2, s3, s4]) rfl rfl))) rfl ?_
  refine ey 3 rfl (by kernel_rfl) hK (fun _ _ _ => (rv_fld (m := 1) Tryz.underlying49 rfl rfl Tryz.sizeOf46 rfl rfl)) rfl ?_
  refine ey 4 rfl (by kernel_rfl) hK (fun _ _ _ => (rv_fld (m := 0) Tryz.underlying46 rfl rfl Tryz.sizeOf3 rfl rfl)) rfl ?_
  refine ey 5 rfl (by kernel_rfl) hK (fun _ _ hS => (rv_load1 rfl rfl Tryz.isAgg3 (hS.cell 0 rfl rfl))) rfl ?_
  refine any_1 (i := 2) (by kernel_rfl) ?_
  obtain ⟨x2, hx2, hF⟩ := bindE hF
  refine as_c rfl (rc_call Tryz.call27 rfl rfl) (want_yes rfl) rfl rfl (c_impl_ShowMem (m := b.Mem) (hS.rd 0 rfl) (hS.rd 1 rfl) (hS.rd 2 rfl) (hS.rd 3 rfl) hx2) ?_
  clear hK; rintro _ w ⟨rfl, hk⟩
  replace hS := hS.after hk; clear hk
  have hK := keepsI ((hS.sel [0] rfl).selR [0, 1, 2, 3, 4, 5, 6] rfl)
  refine ⟨hK, ?_⟩
  refine any_1 (i := 6) (by kernel_rfl) ?_
  obtain ⟨x3, hx3, hF⟩ := bindE hF
  refine as_c rfl (rc_call Tryz.call28 rfl rfl) (want_yes rfl) rfl rfl (c_impl_Var (n := b.Clock.Epoch)  hx3) ?_
  clear hK; rintro _ w ⟨rfl, hk⟩
  replace hS := hS.after hk; clear hk
  have hK := keepsI ((hS.sel [0] rfl).selR [0, 1, 2, 3, 4, 5, 6] rfl)
  refine ⟨hK, ?_⟩
  obtain ⟨hn1, hF⟩ := needE hF
  refine ey 7 rfl (by kernel_rfl) hK (fun _ _ _ => (rv_cat rfl rfl rfl hn1)) rfl ?_
  refine ey 8 rfl (by kernel_rfl) hK (fun _ _ _ => (rv_assign rfl rfl)) rfl ?_
  refine any_done (by kernel_rfl) ?_
  intro a hA
  refine cw_seq <| cw_seq <| cw_ops hA ?_
  clear hA
  refine oy (rv_fld (m := 1) Tryz.underlying49 rfl rfl Tryz.sizeOf46 rfl rfl) rfl <| oy (rv_fld (m := 0) Tryz.underlying46 rfl rfl Tryz.sizeOf44 rfl rfl) rfl <| oy (rv_load1 rfl rfl Tryz.isAgg44 (hS.cell 0 rfl rfl)) rfl <| oy (rv_lenS (hS.rd 4 rfl) Tryz.underlying44 rfl rfl) rfl <| om rfl rfl <| ops_nil fun a hA => ?_
  obtain ⟨o1, hl1, hF⟩ := bindE hF
  refine cw_cut (J := fun a' w' => ∃ (x8 : List UInt8), o1 = x8 ∧ AEnv 95 [(1, .pointer (some ⟨b1, 0, none⟩)), (3, sv (x8))] a' ∧ St (cxAll w0) w' [cBox b1 [s1, s2, s3, s4, .int .i64 (b.Clock.Epoch), s5, s6, s7]] [fRd [s1] (b.Mem.Heap.Bytes : List Int), fRd [s2] (b.Mem.Heap.Class : List Int), fRd [s3] (b.Mem.Lists.Global : List SList), fRd [s4] (b.Mem.Lists.Own : List SList), fRd [s5] (b.Clock.Pins : List Pin), fRd [s6] (b.Limbo : List LList), fRd [s7] (b.Haz : List Int)]) ?_ ?_
  ·refine cw_block ?_
   refine cw_loop (body := impl_ShowBase_l1 b) (r := o1) (fun sg a' w' => AEnv 95 [(1, .pointer (some ⟨b1, 0, none⟩)), (3, sv (sg.1)), (25, s5), (26, .int .i64 ((b.Clock.Pins.length : Int))), (27, .int .i64 (sg.2))] a' ∧ St (cxAll w0) w' [cBox b1 [s1, s2, s3, s4, .int .i64 (b.Clock.Epoch), s5, s6, s7]] [fRd [s5] (b.Clock.Pins : List Pin), fRd [s1] (b.Mem.Heap.Bytes : List Int), fRd [s2] (b.Mem.Heap.Class : List Int), fRd [s3] (b.Mem.Lists.Global : List SList), fRd [s4] (b.Mem.Lists.Own : List SList), fRd [s6] (b.Limbo : List LList), fRd [s7] (b.Haz : List Int)]) ?_ hl1 ⟨hA.part ⟨rfl, rfl, rfl, rfl, rfl, trivial⟩, ((hS).sel [0] rfl).selR [4, 0, 1, 2, 3, 5, 6] rfl⟩
   clear hA hS hl1
   rintro ⟨x6, x7⟩ a w q1 ⟨hA, hS⟩ hG1 hr1
   try dsimp only at hA hS
   unfold impl_ShowBase_l1 at hG1
   refine cw_seq <| cw_ops hA ?_
   clear hA
   refine oy (rv_lss rfl rfl rfl) rfl <| ops_nil fun a hA => cw_seq <| cw_cond hA rfl (fun hc5 => ?_) (fun hc5 => ?_)
   ·replace hG1 := iteT hc5 hG1
    refine cw_skip <| cw_seq <| cw_block <| cw_seq <| cw_ops hA ?_
    clear hA
    obtain ⟨x31, hx31, hG1⟩ := bindE hG1
    refine oy (rv_idx (m := 4) (hS.rd 0 rfl) rfl hx31 Tryz.underlying44 Tryz.sizeOf65 rfl rfl rfl) rfl <| oy (rv_loadN rfl rfl Tryz.isAgg65 Tryz.sizeOf65 rfl (el_Pin (hS.rd 0 rfl) (idx_some hx31).2.2)) rfl <| ops_mv (rv_alloc (cs := [.bool (false), .int .i64 (0), .bool (false), .int .i64 (0)]) hS rfl Tryz.zeroValue65 rfl) (want_yes rfl) rfl rfl ?_
    clear hS
    rintro _ w ⟨b4, rfl, hS⟩
    refine ops_ms (rs_box (vs := [.bool (x31.On), .int .i64 (x31.Epoch), .bool (x31.Marked), .int .i64 (x31.Seen)]) hS (i := 1) rfl rfl rfl rfl rfl Tryz.sizeOf65 rfl rfl rfl) (want_yes rfl) rfl ?_
    clear hS
    intro w hS
    refine ops_nil fun a hA => cw_any (Keeps (cxAll w0) [cBox b1 [s1, s2, s3, s4, .int .i64 (b.Clock.Epoch), s5, s6, s7], cBox b4 [.bool (x31.On), .int .i64 (x31.Epoch), .bool (x31.Marked), .int .i64 (x31.Seen)]] [fRd [s5] (b.Clock.Pins : List Pin), fRd [s1] (b.Mem.Heap.Bytes : List Int), fRd [s2] (b.Mem.Heap.Class : List Int), fRd [s3] (b.Mem.Lists.Global : List SList), fRd [s4] (b.Mem.Lists.Own : List SList), fRd [s6] (b.Limbo : List LList), fRd [s7] (b.Haz : List Int)]) mixed_Tryz hA hS ?_
    clear hA hS; intro w hS
    have hK : Keeps (cxAll w0) [cBox b1 [s1, s2, s3, s4, .int .i64 (b.Clock.Epoch), s5, s6, s7], cBox b4 [.bool (x31.On), .int .i64 (x31.Epoch), .bool (x31.Marked), .int .i64 (x31.Seen)]] [fRd [s5] (b.Clock.Pins : List Pin), fRd [s1] (b.Mem.Heap.Bytes : List Int), fRd [s2] (b.Mem.Heap.Class : List Int), fRd [s3] (b.Mem.Lists.Global : List SList), fRd [s4] (b.Mem.Lists.Own : List SList), fRd [s6] (b.Limbo : List LList), fRd [s7] (b.Haz : List Int)] w := ⟨_, (hS.sel [0, 1] rfl).selR [0, 1, 2, 3, 4, 5, 6] rfl⟩
    refine ey 0 rfl (by kernel_rfl) hK (fun _ _ _ => (rv_move rfl rfl)) rfl ?_
    refine ey 1 rfl (by kernel_rfl) hK (fun _ _ _ => (rv_fld (m := 0) Tryz.underlying65 rfl rfl Tryz.sizeOf4 rfl rfl)) rfl ?_
    refine ey 2 rfl (by kernel_rfl) hK (fun _ _ hS => (rv_load1 rfl rfl Tryz.isAgg4 (hS.cell 1 rfl rfl))) rfl ?_
    refine ey 5 rfl (by kernel_rfl) hK (fun _ _ _ => (rv_fld (m := 0) Tryz.underlying65 rfl rfl Tryz.sizeOf3 rfl rfl)) rfl ?_
    refine ey 6 rfl (by kernel_rfl) hK (fun _ _ hS => (rv_load1 rfl rfl Tryz.isAgg3 (hS.cell 1 rfl rfl))) rfl ?_
    refine ey 9 rfl (by kernel_rfl) hK (fun _ _ _ => (rv_fld (m := 0) Tryz.underlying65 rfl rfl Tryz.sizeOf4 rfl rfl)) rfl ?_
    refine ey 10 rfl (by kernel_rfl) hK (fun _ _ hS => (rv_load1 rfl rfl Tryz.isAgg4 (hS.cell 1 rfl rfl))) rfl ?_
    refine ey 14 rfl (by kernel_rfl) hK (fun _ _ _ => (rv_fld (m := 0) Tryz.underlying65 rfl rfl Tryz.sizeOf3 rfl rfl)) rfl ?_
    refine ey 15 rfl (by kernel_rfl) hK (fun _ _ hS => (rv_load1 rfl rfl Tryz.isAgg3 (hS.cell 1 rfl rfl))) rfl ?_
    refine any_1 (i := 3) (by kernel_rfl) ?_
    obtain ⟨x32, hx32, hG1⟩ := bindE hG1
    refine as_c rfl (rc_call Tryz.call29 rfl rfl) (want_yes rfl) rfl rfl (c_impl_flag (is := x31.On)  hx32) ?_
    clear hK; rintro _ w ⟨rfl, hk⟩
    replace hS := hS.after hk; clear hk
    have hK := keepsI ((hS.sel [0, 1] rfl).selR [0, 1, 2, 3, 4, 5, 6] rfl)
    refine ⟨hK, ?_⟩
    refine any_1 (i := 4) (by kernel_rfl) ?_
    obtain ⟨x33, hx33, hG1⟩ := bindE hG1
    refine as_c rfl (rc_call Tryz.call28 rfl rfl) (want_yes rfl) rfl rfl (c_impl_Var (n := x32)  hx33) ?_
    clear hK; rintro _ w ⟨rfl, hk⟩
    replace hS := hS.after hk; clear hk
    have hK := keepsI ((hS.sel [0, 1] rfl).selR [0, 1, 2, 3, 4, 5, 6] rfl)
    refine ⟨hK, ?_⟩
    refine any_1 (i := 7) (by kernel_rfl) ?_
    obtain ⟨x34, hx34, hG1⟩ := bindE hG1
    refine as_c rfl (rc_call Tryz.call28 rfl rfl) (want_yes rfl) rfl rfl (c_impl_Var (n := x31.Epoch)  hx34) ?_
    clear hK; rintro _ w ⟨rfl, hk⟩
    replace hS := hS.after hk; clear hk
    have hK := keepsI ((hS.sel [0, 1] rfl).selR [0, 1, 2, 3, 4, 5, 6] rfl)
    refine ⟨hK, ?_⟩
    obtain ⟨hn6, hG1⟩ := needE hG1
    refine ey 8 rfl (by kernel_rfl) hK (fun _ _ _ => (rv_cat rfl rfl rfl hn6)) rfl ?_
    refine any_1 (i := 11) (by kernel_rfl) ?_
    obtain ⟨x35, hx35, hG1⟩ := bindE hG1
    refine as_c rfl (rc_call Tryz.call29 rfl rfl) (want_yes rfl) rfl rfl (c_impl_flag (is := x31.Marked)  hx35) ?_
    clear hK; rintro _ w ⟨rfl, hk⟩
    replace hS := hS.after hk; clear hk
    have hK := keepsI ((hS.sel [0, 1] rfl).selR [0, 1, 2, 3, 4, 5, 6] rfl)
    refine ⟨hK, ?_⟩
    refine any_1 (i := 12) (by kernel_rfl) ?_
    obtain ⟨x36, hx36, hG1⟩ := bindE hG1
    refine as_c rfl (rc_call Tryz.call28 rfl rfl) (want_yes rfl) rfl rfl (c_impl_Var (n := x35)  hx36) ?_
    clear hK; rintro _ w ⟨rfl, hk⟩
    replace hS := hS.after hk; clear hk
    have hK := keepsI ((hS.sel [0, 1] rfl).selR [0, 1, 2, 3, 4, 5, 6] rfl)
    refine ⟨hK, ?_⟩
    obtain ⟨hn7, hG1⟩ := needE hG1
    refine ey 13 rfl (by kernel_rfl) hK (fun _ _ _ => (rv_cat rfl rfl rfl hn7)) rfl ?_
    refine any_1 (i := 16) (by kernel_rfl) ?_
    obtain ⟨x37, hx37, hG1⟩ := bindE hG1
    refine as_c rfl (rc_call Tryz.call28 rfl rfl) (want_yes rfl) rfl rfl (c_impl_Var (n := x31.Seen)  hx37) ?_
    clear hK; rintro _ w ⟨rfl, hk⟩
    replace hS := hS.after hk; clear hk
    have hK := keepsI ((hS.sel [0, 1] rfl).selR [0, 1, 2, 3, 4, 5, 6] rfl)
    refine ⟨hK, ?_⟩
    obtain ⟨hn8, hG1⟩ := needE hG1
    refine ey 17 rfl (by kernel_rfl) hK (fun _ _ _ => (rv_cat rfl rfl rfl hn8)) rfl ?_
    obtain ⟨hn9, hG1⟩ := needE hG1
    refine ey 18 rfl (by kernel_rfl) hK (fun _ _ _ => (rv_cat rfl rfl rfl hn9)) rfl ?_
    refine ey 19 rfl (by kernel_rfl) hK (fun _ _ _ => (rv_assign rfl rfl)) rfl ?_
    refine any_done (by kernel_rfl) ?_
    intro a hA
    refine cw_ops hA ?_
    clear hA
    refine oy (rv_add rfl rfl rfl) rfl <| om rfl rfl <| ops_nil fun a hA => ?_
    cases hG1
    exact ⟨_, rfl, ⟨hA.part ⟨rfl, rfl, rfl, rfl, rfl, trivial⟩, ((hS).sel [0] rfl).selR [0, 1, 2, 3, 4, 5, 6] rfl⟩⟩
   ·replace hG1 := iteF hc5 hG1
    refine cw_exit <| xcons_hit ?_
    cases hG1
    have ho := hr1 _ rfl; subst ho
    exact ⟨x6, rfl, hA.part ⟨rfl, rfl, trivial⟩, ((hS).sel [0] rfl).selR [1, 2, 3, 4, 0, 5, 6] rfl⟩
  ·skip
   clear hA hS hl1
   rintro a w ⟨x8, heq, hA, hS⟩
   replace hF : impl_ShowBase_j1 b x8 = some r := by rw [heq] at hF; exact hF
   clear heq
   unfold impl_ShowBase_j1 at hF
   refine cw_seq <| cw_seq <| cw_ops hA ?_
   clear hA
   refine oy (rv_fld (m := 0) Tryz.underlying49 rfl rfl Tryz.sizeOf47 rfl rfl) rfl <| oy (rv_load1 rfl rfl Tryz.isAgg47 (hS.cell 0 rfl rfl)) rfl <| oy (rv_lenS (hS.rd 5 rfl) Tryz.underlying47 rfl rfl) rfl <| om rfl rfl <| ops_nil fun a hA => ?_
   obtain ⟨o2, hl2, hF⟩ := bindE hF
   refine cw_cut (J := fun a' w' => ∃ (x13 : List UInt8), o2 = x13 ∧ AEnv 95 [(1, .pointer (some ⟨b1, 0, none⟩)), (3, sv (x13))] a' ∧ St (cxAll w0) w' [cBox b1 [s1, s2, s3, s4, .int .i64 (b.Clock.Epoch), s5, s6, s7]] [fRd [s1] (b.Mem.Heap.Bytes : List Int), fRd [s2] (b.Mem.Heap.Class : List Int), fRd [s3] (b.Mem.Lists.Global : List SList), fRd [s4] (b.Mem.Lists.Own : List SList), fRd [s5] (b.Clock.Pins : List Pin), fRd [s6] (b.Limbo : List LList), fRd [s7] (b.Haz : List Int)]) ?_ ?_
   ·refine cw_block ?_
    refine cw_loop (body := impl_ShowBase_l2 b) (r := o2) (fun sg a' w' => AEnv 95 [(1, .pointer (some ⟨b1, 0, none⟩)), (3, sv (sg.1)), (52, s6), (53, .int .i64 ((b.Limbo.length : Int))), (54, .int .i64 (sg.2))] a' ∧ St (cxAll w0) w' [cBox b1 [s1, s2, s3, s4, .int .i64 (b.Clock.Epoch), s5, s6, s7]] [fRd [s6] (b.Limbo : List LList), fRd [s1] (b.Mem.Heap.Bytes : List Int), fRd [s2] (b.Mem.Heap.Class : List Int), fRd [s3] (b.Mem.Lists.Global : List SList), fRd [s4] (b.Mem.Lists.Own : List SList), fRd [s5] (b.Clock.Pins : List Pin), fRd [s7] (b.Haz : List Int)]) ?_ hl2 ⟨hA.part ⟨rfl, rfl, rfl, rfl, rfl, trivial⟩, ((hS).sel [0] rfl).selR [5, 0, 1, 2, 3, 4, 6] rfl⟩
    clear hA hS hl2
    rintro ⟨x11, x12⟩ a w q2 ⟨hA, hS⟩ hG2 hr2
    try dsimp only at hA hS
    unfold impl_ShowBase_l2 at hG2
    refine cw_seq <| cw_ops hA ?_
    clear hA
    refine oy (rv_lss rfl rfl rfl) rfl <| ops_nil fun a hA => cw_seq <| cw_cond hA rfl (fun hc3 => ?_) (fun hc3 => ?_)
    ·replace hG2 := iteT hc3 hG2
     refine cw_skip <| cw_seq <| cw_block <| cw_seq <| cw_ops hA ?_
     clear hA
     obtain ⟨x21, hx21, hG2⟩ := bindE hG2
     refine oy (rv_idx (m := 1) (hS.rd 0 rfl) rfl hx21 Tryz.underlying47 Tryz.sizeOf69 rfl rfl rfl) rfl ?_
     obtain ⟨s8, hel, hS⟩ := hS.el_LList 0 rfl (idx_some hx21).2.2
     refine oy (rv_loadN rfl rfl Tryz.isAgg69 Tryz.sizeOf69 rfl hel) rfl <| ops_mv (rv_alloc (cs := [(.slice none 0 0)]) hS rfl Tryz.zeroValue69 rfl) (want_yes rfl) rfl rfl ?_
     clear hS
     rintro _ w ⟨b2, rfl, hS⟩
     refine ops_ms (rs_box (vs := [s8]) hS (i := 1) rfl rfl rfl rfl rfl Tryz.sizeOf69 rfl rfl (all1 (one_rd (hS.rd 7 rfl)) rfl)) (want_yes rfl) rfl ?_
     clear hS
     intro w hS
     refine ops_nil fun a hA => cw_seq <| cw_ops hA ?_
     clear hA
     refine om rfl rfl <| oy (rv_fld (m := 0) Tryz.underlying69 rfl rfl Tryz.sizeOf67 rfl rfl) rfl <| oy (rv_load1 rfl rfl Tryz.isAgg67 (hS.cell 1 rfl rfl)) rfl <| oy (rv_lenS (hS.rd 7 rfl) Tryz.underlying67 rfl rfl) rfl ?_
     obtain ⟨x22, hx22, hG2⟩ := bindE hG2
     refine ops_c (rc_call Tryz.call28 rfl rfl) (want_yes rfl) rfl rfl (c_impl_Var (n := (x21.Rows.length : Int))  hx22) ?_
     rintro _ w ⟨rfl, hk⟩
     replace hS := hS.after hk; clear hk
     obtain ⟨hn3, hG2⟩ := needE hG2
     refine oy (rv_cat rfl rfl rfl hn3) rfl <| oa rfl rfl <| ops_nil fun a hA => cw_seq <| cw_ops hA ?_
     clear hA
     refine oy (rv_fld (m := 0) Tryz.underlying69 rfl rfl Tryz.sizeOf67 rfl rfl) rfl <| oy (rv_load1 rfl rfl Tryz.isAgg67 (hS.cell 1 rfl rfl)) rfl <| oy (rv_lenS (hS.rd 7 rfl) Tryz.underlying67 rfl rfl) rfl <| om rfl rfl <| ops_nil fun a hA => ?_
     obtain ⟨o4, hl4, hG2⟩ := bindE hG2
     refine cw_cut (J := fun a' w' => ∃ (x27 : List UInt8), o4 = x27 ∧ AEnv 95 [(1, .pointer (some ⟨b1, 0, none⟩)), (3, sv (x27)), (52, s6), (53, .int .i64 ((b.Limbo.length : Int))), (54, .int .i64 (x12))] a' ∧ St (cxAll w0) w' [cBox b1 [s1, s2, s3, s4, .int .i64 (b.Clock.Epoch), s5, s6, s7]] [fRd [s6] (b.Limbo : List LList), fRd [s1] (b.Mem.Heap.Bytes : List Int), fRd [s2] (b.Mem.Heap.Class : List Int), fRd [s3] (b.Mem.Lists.Global : List SList), fRd [s4] (b.Mem.Lists.Own : List SList), fRd [s5] (b.Clock.Pins : List Pin), fRd [s7] (b.Haz : List Int)]) ?_ ?_
     ·refine cw_block ?_
      refine cw_loop (body := impl_ShowBase_l4 x21) (r := o4) (fun sg a' w' => AEnv 95 [(1, .pointer (some ⟨b1, 0, none⟩)), (3, sv (sg.1)), (52, s6), (53, .int .i64 ((b.Limbo.length : Int))), (54, .int .i64 (x12)), (65, s8), (66, .int .i64 ((x21.Rows.length : Int))), (67, .int .i64 (sg.2))] a' ∧ St (cxAll w0) w' [cBox b1 [s1, s2, s3, s4, .int .i64 (b.Clock.Epoch), s5, s6, s7]] [fRd [s6] (b.Limbo : List LList), fRd [s8] (x21.Rows : List LRow), fRd [s1] (b.Mem.Heap.Bytes : List Int), fRd [s2] (b.Mem.Heap.Class : List Int), fRd [s3] (b.Mem.Lists.Global : List SList), fRd [s4] (b.Mem.Lists.Own : List SList), fRd [s5] (b.Clock.Pins : List Pin), fRd [s7] (b.Haz : List Int)]) ?_ hl4 ⟨hA.part ⟨rfl, rfl, rfl, rfl, rfl, rfl, rfl, rfl, trivial⟩, ((hS).sel [0] rfl).selR [0, 7, 1, 2, 3, 4, 5, 6] rfl⟩
      clear hA hS hl4
      rintro ⟨x25, x26⟩ a w q4 ⟨hA, hS⟩ hG4 hr4
      try dsimp only at hA hS
      unfold impl_ShowBase_l4 at hG4
      refine cw_seq <| cw_ops hA ?_
      clear hA
      refine oy (rv_lss rfl rfl rfl) rfl <| ops_nil fun a hA => cw_seq <| cw_cond hA rfl (fun hc4 => ?_) (fun hc4 => ?_)
      ·replace hG4 := iteT hc4 hG4
       refine cw_skip <| cw_seq <| cw_block <| cw_seq <| cw_ops hA ?_
       clear hA
       obtain ⟨x28, hx28, hG4⟩ := bindE hG4
       refine oy (rv_idx (m := 2) (hS.rd 1 rfl) rfl hx28 Tryz.underlying67 Tryz.sizeOf71 rfl rfl rfl) rfl <| oy (rv_loadN rfl rfl Tryz.isAgg71 Tryz.sizeOf71 rfl (el_LRow (hS.rd 1 rfl) (idx_some hx28).2.2)) rfl <| ops_mv (rv_alloc (cs := [.int .i64 (0), .int .i64 (0)]) hS rfl Tryz.zeroValue71 rfl) (want_yes rfl) rfl rfl ?_
       clear hS
       rintro _ w ⟨b3, rfl, hS⟩
       refine ops_ms (rs_box (vs := [.int .i64 (x28.Handle), .int .i64 (x28.Epoch)]) hS (i := 1) rfl rfl rfl rfl rfl Tryz.sizeOf71 rfl rfl rfl) (want_yes rfl) rfl ?_
       clear hS
       intro w hS
       refine ops_nil fun a hA => cw_any (Keeps (cxAll w0) [cBox b1 [s1, s2, s3, s4, .int .i64 (b.Clock.Epoch), s5, s6, s7], cBox b3 [.int .i64 (x28.Handle), .int .i64 (x28.Epoch)]] [fRd [s6] (b.Limbo : List LList), fRd [s8] (x21.Rows : List LRow), fRd [s1] (b.Mem.Heap.Bytes : List Int), fRd [s2] (b.Mem.Heap.Class : List Int), fRd [s3] (b.Mem.Lists.Global : List SList), fRd [s4] (b.Mem.Lists.Own : List SList), fRd [s5] (b.Clock.Pins : List Pin), fRd [s7] (b.Haz : List Int)]) mixed_Tryz hA hS ?_
       clear hA hS; intro w hS
       have hK : Keeps (cxAll w0) [cBox b1 [s1, s2, s3, s4, .int .i64 (b.Clock.Epoch), s5, s6, s7], cBox b3 [.int .i64 (x28.Handle), .int .i64 (x28.Epoch)]] [fRd [s6] (b.Limbo : List LList), fRd [s8] (x21.Rows : List LRow), fRd [s1] (b.Mem.Heap.Bytes : List Int), fRd [s2] (b.Mem.Heap.Class : List Int), fRd [s3] (b.Mem.Lists.Global : List SList), fRd [s4] (b.Mem.Lists.Own : List SList), fRd [s5] (b.Clock.Pins : List Pin), fRd [s7] (b.Haz : List Int)] w := ⟨_, (hS.sel [0, 1] rfl).selR [0, 1, 2, 3, 4, 5, 6, 7] rfl⟩
       refine ey 0 rfl (by kernel_rfl) hK (fun _ _ _ => (rv_move rfl rfl)) rfl ?_
       refine ey 1 rfl (by kernel_rfl) hK (fun _ _ _ => (rv_fld (m := 0) Tryz.underlying71 rfl rfl Tryz.sizeOf3 rfl rfl)) rfl ?_
       refine ey 2 rfl (by kernel_rfl) hK (fun _ _ hS => (rv_load1 rfl rfl Tryz.isAgg3 (hS.cell 1 rfl rfl))) rfl ?_
       refine ey 4 rfl (by kernel_rfl) hK (fun _ _ _ => (rv_fld (m := 0) Tryz.underlying71 rfl rfl Tryz.sizeOf3 rfl rfl)) rfl ?_
       refine ey 5 rfl (by kernel_rfl) hK (fun _ _ hS => (rv_load1 rfl rfl Tryz.isAgg3 (hS.cell 1 rfl rfl))) rfl ?_
       refine any_1 (i := 3) (by kernel_rfl) ?_
       obtain ⟨x29, hx29, hG4⟩ := bindE hG4
       refine as_c rfl (rc_call Tryz.call28 rfl rfl) (want_yes rfl) rfl rfl (c_impl_Var (n := x28.Handle)  hx29) ?_
       clear hK; rintro _ w ⟨rfl, hk⟩
       replace hS := hS.after hk; clear hk
       have hK := keepsI ((hS.sel [0, 1] rfl).selR [0, 1, 2, 3, 4, 5, 6, 7] rfl)
       refine ⟨hK, ?_⟩
       refine any_1 (i := 6) (by kernel_rfl) ?_
       obtain ⟨x30, hx30, hG4⟩ := bindE hG4
       refine as_c rfl (rc_call Tryz.call28 rfl rfl) (want_yes rfl) rfl rfl (c_impl_Var (n := x28.Epoch)  hx30) ?_
       clear hK; rintro _ w ⟨rfl, hk⟩
       replace hS := hS.after hk; clear hk
       have hK := keepsI ((hS.sel [0, 1] rfl).selR [0, 1, 2, 3, 4, 5, 6, 7] rfl)
       refine ⟨hK, ?_⟩
       obtain ⟨hn4, hG4⟩ := needE hG4
       refine ey 7 rfl (by kernel_rfl) hK (fun _ _ _ => (rv_cat rfl rfl rfl hn4)) rfl ?_
       obtain ⟨hn5, hG4⟩ := needE hG4
       refine ey 8 rfl (by kernel_rfl) hK (fun _ _ _ => (rv_cat rfl rfl rfl hn5)) rfl ?_
       refine ey 9 rfl (by kernel_rfl) hK (fun _ _ _ => (rv_assign rfl rfl)) rfl ?_
       refine any_done (by kernel_rfl) ?_
       intro a hA
       refine cw_ops hA ?_
       clear hA
       refine oy (rv_add rfl rfl rfl) rfl <| om rfl rfl <| ops_nil fun a hA => ?_
       cases hG4
       exact ⟨_, rfl, ⟨hA.part ⟨rfl, rfl, rfl, rfl, rfl, rfl, rfl, rfl, trivial⟩, ((hS).sel [0] rfl).selR [0, 1, 2, 3, 4, 5, 6, 7] rfl⟩⟩
      ·replace hG4 := iteF hc4 hG4
       refine cw_exit <| xcons_hit ?_
       cases hG4
       have ho := hr4 _ rfl; subst ho
       exact ⟨x25, rfl, hA.part ⟨rfl, rfl, rfl, rfl, rfl, trivial⟩, ((hS).sel [0] rfl).selR [0, 2, 3, 4, 5, 6, 7] rfl⟩
     ·skip
      clear hA hS hl4
      rintro a w ⟨x27, heq, hA, hS⟩
      replace hG2 : impl_ShowBase_j4 x12 x27 = some q2 := by rw [heq] at hG2; exact hG2
      clear heq
      unfold impl_ShowBase_j4 at hG2
      refine cw_ops hA ?_
      clear hA
      refine oy (rv_add rfl rfl rfl) rfl <| om rfl rfl <| ops_nil fun a hA => ?_
      cases hG2
      exact ⟨_, rfl, ⟨hA.part ⟨rfl, rfl, rfl, rfl, rfl, trivial⟩, ((hS).sel [0] rfl).selR [0, 1, 2, 3, 4, 5, 6] rfl⟩⟩
    ·replace hG2 := iteF hc3 hG2
     refine cw_exit <| xcons_hit ?_
     cases hG2
     have ho := hr2 _ rfl; subst ho
     exact ⟨x11, rfl, hA.part ⟨rfl, rfl, trivial⟩, ((hS).sel [0] rfl).selR [1, 2, 3, 4, 5, 0, 6] rfl⟩
   ·skip
    clear hA hS hl2
    rintro a w ⟨x13, heq, hA, hS⟩
    replace hF : impl_ShowBase_j2 b x13 = some r := by rw [heq] at hF; exact hF
    clear heq
    unfold impl_ShowBase_j2 at hF
    refine cw_seq <| cw_seq <| cw_ops hA ?_
    clear hA
    refine oy (rv_fld (m := 0) Tryz.underlying49 rfl rfl Tryz.sizeOf22 rfl rfl) rfl <| oy (rv_load1 rfl rfl Tryz.isAgg22 (hS.cell 0 rfl rfl)) rfl <| oy (rv_lenS (hS.rd 6 rfl) Tryz.underlying22 rfl rfl) rfl <| om rfl rfl <| ops_nil fun a hA => ?_
    obtain ⟨o3, hl3, hF⟩ := bindE hF
    refine cw_cut (J := fun a' w' => ∃ (x18 : List UInt8), o3 = x18 ∧ AEnv 95 [(3, sv (x18))] a' ∧ St (cxAll w0) w' [] []) ?_ ?_
    ·refine cw_block ?_
     refine cw_loop (body := impl_ShowBase_l3 b) (r := o3) (fun sg a' w' => AEnv 95 [(3, sv (sg.1)), (83, s7), (84, .int .i64 ((b.Haz.length : Int))), (85, .int .i64 (sg.2))] a' ∧ St (cxAll w0) w' [] [fRd [s7] (b.Haz : List Int)]) ?_ hl3 ⟨hA.part ⟨rfl, rfl, rfl, rfl, trivial⟩, ((hS).sel [] rfl).selR [6] rfl⟩
     clear hA hS hl3
     rintro ⟨x16, x17⟩ a w q3 ⟨hA, hS⟩ hG3 hr3
     try dsimp only at hA hS
     unfold impl_ShowBase_l3 at hG3
     refine cw_seq <| cw_ops hA ?_
     clear hA
     refine oy (rv_lss rfl rfl rfl) rfl <| ops_nil fun a hA => cw_seq <| cw_cond hA rfl (fun hc2 => ?_) (fun hc2 => ?_)
     ·replace hG3 := iteT hc2 hG3
      refine cw_skip <| cw_seq <| cw_block <| cw_seq <| cw_ops hA ?_
      clear hA
      obtain ⟨x19, hx19, hG3⟩ := bindE hG3
      refine oy (rv_idx (m := 1) (hS.rd 0 rfl) rfl hx19 Tryz.underlying22 Tryz.sizeOf3 rfl rfl rfl) rfl <| oy (rv_load1 rfl rfl Tryz.isAgg3 (cell1 (el_Int (hS.rd 0 rfl) (idx_some hx19).2.2))) rfl <| oa rfl rfl <| ops_nil fun a hA => cw_ops hA ?_
      clear hA
      refine om rfl rfl <| om rfl rfl ?_
      obtain ⟨x20, hx20, hG3⟩ := bindE hG3
      refine ops_c (rc_call Tryz.call28 rfl rfl) (want_yes rfl) rfl rfl (c_impl_Var (n := x19)  hx20) ?_
      rintro _ w ⟨rfl, hk⟩
      replace hS := hS.after hk; clear hk
      obtain ⟨hn2, hG3⟩ := needE hG3
      refine oy (rv_cat rfl rfl rfl hn2) rfl <| oa rfl rfl <| ops_nil fun a hA => cw_ops hA ?_
      clear hA
      refine oy (rv_add rfl rfl rfl) rfl <| om rfl rfl <| ops_nil fun a hA => ?_
      cases hG3
      exact ⟨_, rfl, ⟨hA.part ⟨rfl, rfl, rfl, rfl, trivial⟩, ((hS).sel [] rfl).selR [0] rfl⟩⟩
     ·replace hG3 := iteF hc2 hG3
      refine cw_exit <| xcons_hit ?_
      cases hG3
      have ho := hr3 _ rfl; subst ho
      exact ⟨x16, rfl, hA.part ⟨rfl, trivial⟩, ((hS).sel [] rfl).selR [] rfl⟩
    ·skip
     clear hA hS hl3
     rintro a w ⟨x18, heq, hA, hS⟩
     replace hF : impl_ShowBase_j3 x18 = some r := by rw [heq] at hF; exact hF
     clear heq
     unfold impl_ShowBase_j3 at hF
     refine cw_seq <| cw_ops hA ?_
     clear hA
     refine om rfl rfl <| oa rfl rfl <| ops_nil fun a hA => cw_ret ?_
     cases hF
     exact fy Tryz.results8 hA rfl hS

theorem c_impl_ReadBase {w0 : World} {s : List UInt8}  {r : Base × Bool}  (hF : impl_ReadBase s = some r) :
    Calls Tryz.prog 11 #[sv (s)] w0 (Ret fun v w' => ∃ (s0_0 : Value) (s0_1 : Value) (s0_2 : Value) (s0_3 : Value) (s0_4 : Value) (s0_5 : Value) (s0_6 : Value), v = .tuple #[.agg #[s0_0, s0_1, s0_2, s0_3, .int .i64 (r.1.Clock.Epoch), s0_4, s0_5, s0_6], .bool (r.2)] ∧ St (cxAll w0) w' [cOwn [s0_0] (r.1.Mem.Heap.Bytes : List Int), cOwn [s0_1] (r.1.Mem.Heap.Class : List Int), cOwn [s0_2] (r.1.Mem.Lists.Global : List SList), cOwn [s0_3] (r.1.Mem.Lists.Own : List SList), cOwn [s0_4] (r.1.Clock.Pins : List Pin), cOwn [s0_5] (r.1.Limbo : List LList), cOwn [s0_6] (r.1.Haz : List Int)] []) := by
 have hS : St (cxAll w0) w0 [] [] := St.enter (by
   intro f hf; cases hf)
 refine calls_cw (args := [_]) Tryz.func11 rfl Tryz.ntmps11 rfl ?_
 unfold impl_ReadBase at hF
 intro a hA
 refine cw_seq <| cw_ops hA ?_
 clear hA
 refine ops_mv (rv_alloc (cs := [(.slice none 0 0), (.slice none 0 0), (.slice none 0 0), (.slice none 0 0), .int .i64 (0), (.slice none 0 0), (.slice none 0 0), (.slice none 0 0)]) hS rfl Tryz.zeroValue49 rfl) (want_yes rfl) rfl rfl ?_
 clear hS
 rintro _ w ⟨b1, rfl, hS⟩
 refine oa rfl rfl <| ops_nil fun a hA => cw_seq <| cw_ops hA ?_
 clear hA
 refine om rfl rfl <| oy (rv_build (cells := #[sv (s), .bool (false)]) rfl Tryz.zeroValue89 Tryz.underlying89 (by have h := places_Tryz89; rw [Tryz.underlying89] at h; exact h) rfl rfl) rfl <| ops_mv (rv_alloc (cs := [sv ([]), .bool (false)]) hS rfl Tryz.zeroValue89 rfl) (want_yes rfl) rfl rfl ?_
 clear hS
 rintro _ w ⟨b2, rfl, hS⟩
 refine ops_ms (rs_box (vs := [sv (s), .bool (false)]) hS (i := 1) rfl rfl rfl rfl rfl Tryz.sizeOf89 rfl rfl rfl) (want_yes rfl) rfl ?_
 clear hS
 intro w hS
 refine ops_nil fun a hA => cw_seq <| cw_ops hA ?_
 clear hA
 obtain ⟨c1, hg, hb⟩ := hS.give [1] rfl rfl
 obtain ⟨x1, hx1, hF⟩ := bindE hF
 refine ops_c (rc_call Tryz.call38 rfl rfl) (want_yes rfl) rfl rfl (c_impl_reader_mem (c := c1) (r_ := (⟨(⟨s⟩ : GStr), false⟩ : Reader)) (b1 := b2) (z1 := 0) (hg _ all_nil) hx1) ?_
 rintro _ w ⟨s1, s2, s3, s4, rfl, hk⟩
 replace hS := hb _ _ _ hk; clear hk hg hb
 refine oy (rv_build (cells := #[s1, s2, s3, s4, .int .i64 (0), (.slice none 0 0), (.slice none 0 0), (.slice none 0 0)]) rfl Tryz.zeroValue49 Tryz.underlying49 (by have h := places_Tryz49; rw [Tryz.underlying49] at h; exact h) rfl rfl) rfl <| ops_mv (rv_alloc (cs := [(.slice none 0 0), (.slice none 0 0), (.slice none 0 0), (.slice none 0 0), .int .i64 (0), (.slice none 0 0), (.slice none 0 0), (.slice none 0 0)]) hS rfl Tryz.zeroValue49 rfl) (want_yes rfl) rfl rfl ?_
 clear hS
 rintro _ w ⟨b3, rfl, hS⟩
 refine ops_ms (rs_box (vs := [s1, s2, s3, s4, .int .i64 (0), (.slice none 0 0), (.slice none 0 0), (.slice none 0 0)]) hS (i := 7) rfl rfl rfl rfl rfl Tryz.sizeOf49 rfl rfl (all1 (one_rd (hS.rdOwn 2 rfl)) (all1 (one_rd (hS.rdOwn 3 rfl)) (all1 (one_rd (hS.rdOwn 4 rfl)) (all1 (one_rd (hS.rdOwn 5 rfl)) (all1 rfl (all1 rfl (all1 rfl (all1 rfl rfl))))))))) (want_yes rfl) rfl ?_
 clear hS
 intro w hS
 refine ops_nil fun a hA => cw_seq <| cw_ops hA ?_
 clear hA
 obtain ⟨c2, hg, hb⟩ := hS.give [6] rfl rfl
 obtain ⟨x2, hx2, hF⟩ := bindE hF
 refine ops_c (rc_call Tryz.call39 rfl rfl) (want_yes rfl) rfl rfl (c_impl_reader_number (c := c2) (r_ := x1.2) (b1 := b2) (z1 := 0) (hg _ all_nil) hx2) ?_
 rintro _ w ⟨rfl, hk⟩
 replace hS := hb _ _ _ hk; clear hk hg hb
 refine oy (rv_fld (m := 1) Tryz.underlying49 rfl rfl Tryz.sizeOf46 rfl rfl) rfl <| oy (rv_fld (m := 0) Tryz.underlying46 rfl rfl Tryz.sizeOf3 rfl rfl) rfl <| ops_ms (rs_box (vs := [.int .i64 (x2.1)]) hS (i := 7) rfl rfl rfl rfl rfl Tryz.sizeOf3 rfl rfl rfl) (want_yes rfl) rfl ?_
 clear hS
 intro w hS
 refine ops_nil fun a hA => cw_seq <| cw_seq <| cw_ops hA ?_
 clear hA
 refine om rfl rfl <| ops_nil fun a hA => ?_
 obtain ⟨o1, hl1, hF⟩ := bindE hF
 refine cw_cut (J := fun a' w' => ∃ (x11 : List UInt8) (x12 : Bool) (x13 : List Pin) (s7 : Value), o1 = (x11, x12, x13) ∧ AEnv 89 [(0, sv (s)), (2, .pointer (some ⟨b1, 0, none⟩)), (4, .pointer (some ⟨b2, 0, none⟩)), (5, .pointer (some ⟨b3, 0, none⟩))] a' ∧ St (cxAll w0) w' [cBox b1 [(.slice none 0 0), (.slice none 0 0), (.slice none 0 0), (.slice none 0 0), .int .i64 (0), (.slice none 0 0), (.slice none 0 0), (.slice none 0 0)], cBox b2 [sv (x11), .bool (x12)], cOwn [s1] (x1.1.Heap.Bytes : List Int), cOwn [s2] (x1.1.Heap.Class : List Int), cOwn [s3] (x1.1.Lists.Global : List SList), cOwn [s4] (x1.1.Lists.Own : List SList), cOwn [s7] (x13 : List Pin), cBox b3 [s1, s2, s3, s4, .int .i64 (x2.1), s7, (.slice none 0 0), (.slice none 0 0)]] []) ?_ ?_
 ·refine cw_block ?_
  refine cw_loop (body := impl_ReadBase_l1) (r := o1) (fun sg a' w' => ∃ (s6 : Value), AEnv 89 [(0, sv (s)), (2, .pointer (some ⟨b1, 0, none⟩)), (4, .pointer (some ⟨b2, 0, none⟩)), (5, .pointer (some ⟨b3, 0, none⟩)), (20, .int .i64 (sg.1))] a' ∧ St (cxAll w0) w' [cBox b1 [(.slice none 0 0), (.slice none 0 0), (.slice none 0 0), (.slice none 0 0), .int .i64 (0), (.slice none 0 0), (.slice none 0 0), (.slice none 0 0)], cBox b2 [sv (sg.2.1), .bool (sg.2.2.1)], cOwn [s1] (x1.1.Heap.Bytes : List Int), cOwn [s2] (x1.1.Heap.Class : List Int), cOwn [s3] (x1.1.Lists.Global : List SList), cOwn [s4] (x1.1.Lists.Own : List SList), cOwn [s6] (sg.2.2.2 : List Pin), cBox b3 [s1, s2, s3, s4, .int .i64 (x2.1), s6, (.slice none 0 0), (.slice none 0 0)]] []) ?_ hl1 ⟨(.slice none 0 0), hA.part ⟨rfl, rfl, rfl, rfl, rfl, trivial⟩, (((hS).nilOwn (α := Pin)).sel [0, 8, 2, 3, 4, 5, 9, 7] rfl).selR [] rfl⟩
  clear hA hS hl1
  rintro ⟨x7, x8, x9, x10⟩ a w q1 ⟨s6, hA, hS⟩ hG1 hr1
  try dsimp only at hA hS
  unfold impl_ReadBase_l1 at hG1
  refine cw_seq <| cw_ops hA ?_
  clear hA
  refine oy (rv_lss rfl rfl rfl) rfl <| ops_nil fun a hA => cw_seq <| cw_cond hA rfl (fun hc7 => ?_) (fun hc7 => ?_)
  ·replace hG1 := iteT hc7 hG1
   refine cw_skip <| cw_seq <| cw_block <| cw_seq <| cw_ops hA ?_
   clear hA
   obtain ⟨c7, hg, hb⟩ := hS.give [1] rfl rfl
   obtain ⟨x57, hx57, hG1⟩ := bindE hG1
   refine ops_c (rc_call Tryz.call39 rfl rfl) (want_yes rfl) rfl rfl (c_impl_reader_number (c := c7) (r_ := (⟨(⟨x8⟩ : GStr), x9⟩ : Reader)) (b1 := b2) (z1 := 0) (hg _ all_nil) hx57) ?_
   rintro _ w ⟨rfl, hk⟩
   replace hS := hb _ _ _ hk; clear hk hg hb
   obtain ⟨c8, hg, hb⟩ := hS.give [8] rfl rfl
   obtain ⟨x58, hx58, hG1⟩ := bindE hG1
   refine ops_c (rc_call Tryz.call39 rfl rfl) (want_yes rfl) rfl rfl (c_impl_reader_number (c := c8) (r_ := x57.2) (b1 := b2) (z1 := 0) (hg _ all_nil) hx58) ?_
   rintro _ w ⟨rfl, hk⟩
   replace hS := hb _ _ _ hk; clear hk hg hb
   refine oa rfl rfl <| oa rfl rfl <| ops_nil fun a hA => cw_seq <| cw_ops hA ?_
   clear hA
   obtain ⟨c9, hg, hb⟩ := hS.give [9] rfl rfl
   obtain ⟨x59, hx59, hG1⟩ := bindE hG1
   refine ops_c (rc_call Tryz.call39 rfl rfl) (want_yes rfl) rfl rfl (c_impl_reader_number (c := c9) (r_ := x58.2) (b1 := b2) (z1 := 0) (hg _ all_nil) hx59) ?_
   rintro _ w ⟨rfl, hk⟩
   replace hS := hb _ _ _ hk; clear hk hg hb
   obtain ⟨c10, hg, hb⟩ := hS.give [10] rfl rfl
   obtain ⟨x60, hx60, hG1⟩ := bindE hG1
   refine ops_c (rc_call Tryz.call39 rfl rfl) (want_yes rfl) rfl rfl (c_impl_reader_number (c := c10) (r_ := x59.2) (b1 := b2) (z1 := 0) (hg _ all_nil) hx60) ?_
   rintro _ w ⟨rfl, hk⟩
   replace hS := hb _ _ _ hk; clear hk hg hb
   refine oa rfl rfl <| oa rfl rfl <| ops_nil fun a hA => cw_ops hA ?_
   clear hA
   refine oy (rv_fld (m := 1) Tryz.underlying49 rfl rfl Tryz.sizeOf46 rfl rfl) rfl <| oy (rv_fld (m := 0) Tryz.underlying46 rfl rfl Tryz.sizeOf44 rfl rfl) rfl <| oy (rv_load1 rfl rfl Tryz.isAgg44 (hS.cell 7 rfl rfl)) rfl <| om rfl rfl <| oy (rv_eql rfl rfl rfl) rfl <| om rfl rfl <| om rfl rfl <| oy (rv_eql rfl rfl rfl) rfl <| om rfl rfl ?_
   refine oy (rv_build (cells := #[.bool (x57.1 == 1), .int .i64 (x58.1), .bool (x59.1 == 1), .int .i64 (x60.1)]) rfl Tryz.zeroValue65 Tryz.underlying65 (by have h := places_Tryz65; rw [Tryz.underlying65] at h; exact h) rfl rfl) rfl <| ops_mv (rv_lit (m := 4) (len := 1) (cells := [.bool (x57.1 == 1), .int .i64 (x58.1), .bool (x59.1 == 1), .int .i64 (x60.1)]) ([(⟨x57.1 == 1, x58.1, x59.1 == 1, x60.1⟩ : Pin)] : List Pin) hS rfl Tryz.underlying44 inf_Tryz65 rfl rfl rfl ⟨(mk_Pin ((⟨x57.1 == 1, x58.1, x59.1 == 1, x60.1⟩ : Pin))), rfl⟩ rfl rfl (lit_fill rfl rfl rfl rfl)) (want_yes rfl) rfl rfl ?_
   clear hS
   rintro s24 w hS
   obtain ⟨hn4, hG1⟩ := needE hG1
   refine ops_mv (rv_append (α := Pin) 6 hS rfl (hS.rdOwn 12 rfl) rfl Tryz.underlying44 inf_Tryz65 rfl hn4 rfl rfl rfl) (want_yes rfl) rfl rfl ?_
   clear hS
   rintro s25 w hS
   refine oy (rv_fld (m := 1) Tryz.underlying49 rfl rfl Tryz.sizeOf46 rfl rfl) rfl <| oy (rv_fld (m := 0) Tryz.underlying46 rfl rfl Tryz.sizeOf44 rfl rfl) rfl <| ops_ms (rs_box (vs := [s25]) hS (i := 7) rfl rfl rfl rfl (cells_rd (hS.rdOwn 6 rfl)) Tryz.sizeOf44 rfl rfl (all1 (one_rd (hS.rdOwn 6 rfl)) rfl)) (want_yes rfl) rfl ?_
   clear hS
   intro w hS
   refine ops_nil fun a hA => cw_ops hA ?_
   clear hA
   refine oy (rv_add rfl rfl rfl) rfl <| om rfl rfl <| ops_nil fun a hA => ?_
   cases hG1
   exact ⟨_, rfl, ⟨s25, hA.part ⟨rfl, rfl, rfl, rfl, rfl, trivial⟩, ((hS).sel [0, 11, 2, 3, 4, 5, 6, 7] rfl).selR [] rfl⟩⟩
  ·replace hG1 := iteF hc7 hG1
   refine cw_exit <| xcons_hit ?_
   cases hG1
   have ho := hr1 _ rfl; subst ho
   exact ⟨x8, x9, x10, s6, rfl, hA.part ⟨rfl, rfl, rfl, rfl, trivial⟩, ((hS).sel [0, 1, 2, 3, 4, 5, 6, 7] rfl).selR [] rfl⟩
 ·skip
  clear hA hS hl1
  rintro a w ⟨x11, x12, x13, s7, heq, hA, hS⟩
  replace hF : impl_ReadBase_j1 s x1 x2 x11 x12 x13 = some r := by rw [heq] at hF; exact hF
  clear heq
  unfold impl_ReadBase_j1 at hF
  refine cw_seq <| cw_seq <| cw_ops hA ?_
  clear hA
  refine om rfl rfl <| ops_nil fun a hA => ?_
  obtain ⟨o2, hl2, hF⟩ := bindE hF
  refine cw_cut (J := fun a' w' => ∃ (x22 : List UInt8) (x23 : Bool) (x24 : List LList) (s10 : Value), o2 = (x22, x23, x24) ∧ AEnv 89 [(0, sv (s)), (2, .pointer (some ⟨b1, 0, none⟩)), (4, .pointer (some ⟨b2, 0, none⟩)), (5, .pointer (some ⟨b3, 0, none⟩))] a' ∧ St (cxAll w0) w' [cBox b1 [(.slice none 0 0), (.slice none 0 0), (.slice none 0 0), (.slice none 0 0), .int .i64 (0), (.slice none 0 0), (.slice none 0 0), (.slice none 0 0)], cBox b2 [sv (x22), .bool (x23)], cOwn [s1] (x1.1.Heap.Bytes : List Int), cOwn [s2] (x1.1.Heap.Class : List Int), cOwn [s3] (x1.1.Lists.Global : List SList), cOwn [s4] (x1.1.Lists.Own : List SList), cOwn [s7] (x13 : List Pin), cOwn [s10] (x24 : List LList), cBox b3 [s1, s2, s3, s4, .int .i64 (x2.1), s7, s10, (.slice none 0 0)]] []) ?_ ?_
  ·refine cw_block ?_
   refine cw_loop (body := impl_ReadBase_l2) (r := o2) (fun sg a' w' => ∃ (s9 : Value), AEnv 89 [(0, sv (s)), (2, .pointer (some ⟨b1, 0, none⟩)), (4, .pointer (some ⟨b2, 0, none⟩)), (5, .pointer (some ⟨b3, 0, none⟩)), (41, .int .i64 (sg.1))] a' ∧ St (cxAll w0) w' [cBox b1 [(.slice none 0 0), (.slice none 0 0), (.slice none 0 0), (.slice none 0 0), .int .i64 (0), (.slice none 0 0), (.slice none 0 0), (.slice none 0 0)], cBox b2 [sv (sg.2.1), .bool (sg.2.2.1)], cOwn [s1] (x1.1.Heap.Bytes : List Int), cOwn [s2] (x1.1.Heap.Class : List Int), cOwn [s3] (x1.1.Lists.Global : List SList), cOwn [s4] (x1.1.Lists.Own : List SList), cOwn [s7] (x13 : List Pin), cOwn [s9] (sg.2.2.2 : List LList), cBox b3 [s1, s2, s3, s4, .int .i64 (x2.1), s7, s9, (.slice none 0 0)]] []) ?_ hl2 ⟨(.slice none 0 0), hA.part ⟨rfl, rfl, rfl, rfl, rfl, trivial⟩, (((hS).nilOwn (α := LList)).sel [0, 1, 2, 3, 4, 5, 6, 8, 7] rfl).selR [] rfl⟩
   clear hA hS hl2
   rintro ⟨x18, x19, x20, x21⟩ a w q2 ⟨s9, hA, hS⟩ hG2 hr2
   try dsimp only at hA hS
   unfold impl_ReadBase_l2 at hG2
   refine cw_seq <| cw_ops hA ?_
   clear hA
   refine oy (rv_lss rfl rfl rfl) rfl <| ops_nil fun a hA => cw_seq <| cw_cond hA rfl (fun hc5 => ?_) (fun hc5 => ?_)
   ·replace hG2 := iteT hc5 hG2
    refine cw_skip <| cw_seq <| cw_block <| cw_seq <| cw_ops hA ?_
    clear hA
    refine oy (rv_build (cells := #[(.slice none 0 0)]) rfl Tryz.zeroValue69 Tryz.underlying69 (by have h := places_Tryz69; rw [Tryz.underlying69] at h; exact h) rfl rfl) rfl <| ops_mv (rv_alloc (cs := [(.slice none 0 0)]) hS rfl Tryz.zeroValue69 rfl) (want_yes rfl) rfl rfl ?_
    clear hS
    rintro _ w ⟨b4, rfl, hS⟩
    refine ops_ms (rs_box (vs := [(.slice none 0 0)]) hS (i := 9) rfl rfl rfl rfl rfl Tryz.sizeOf69 rfl rfl rfl) (want_yes rfl) rfl ?_
    clear hS
    intro w hS
    refine ops_nil fun a hA => cw_seq <| cw_seq <| cw_ops hA ?_
    clear hA
    obtain ⟨c4, hg, hb⟩ := hS.give [1] rfl rfl
    obtain ⟨x43, hx43, hG2⟩ := bindE hG2
    refine ops_c (rc_call Tryz.call40 rfl rfl) (want_yes rfl) rfl rfl (c_impl_reader_count (c := c4) (r_ := (⟨(⟨x19⟩ : GStr), x20⟩ : Reader)) (b1 := b2) (z1 := 0) (hg _ all_nil) hx43) ?_
    rintro _ w ⟨rfl, hk⟩
    replace hS := hb _ _ _ hk; clear hk hg hb
    refine om rfl rfl <| ops_nil fun a hA => ?_
    obtain ⟨o4, hl4, hG2⟩ := bindE hG2
    refine cw_cut (J := fun a' w' => ∃ (x52 : List UInt8) (x53 : Bool) (x54 : List LRow) (s19 : Value), o4 = (x52, x53, x54) ∧ AEnv 89 [(0, sv (s)), (2, .pointer (some ⟨b1, 0, none⟩)), (4, .pointer (some ⟨b2, 0, none⟩)), (5, .pointer (some ⟨b3, 0, none⟩)), (10, .pointer (some ⟨b4, 0, none⟩)), (41, .int .i64 (x18))] a' ∧ St (cxAll w0) w' [cBox b1 [(.slice none 0 0), (.slice none 0 0), (.slice none 0 0), (.slice none 0 0), .int .i64 (0), (.slice none 0 0), (.slice none 0 0), (.slice none 0 0)], cBox b2 [sv (x52), .bool (x53)], cOwn [s1] (x1.1.Heap.Bytes : List Int), cOwn [s2] (x1.1.Heap.Class : List Int), cOwn [s3] (x1.1.Lists.Global : List SList), cOwn [s4] (x1.1.Lists.Own : List SList), cOwn [s7] (x13 : List Pin), cOwn [s9] (x21 : List LList), cBox b3 [s1, s2, s3, s4, .int .i64 (x2.1), s7, s9, (.slice none 0 0)], cOwn [s19] (x54 : List LRow), cBox b4 [s19]] []) ?_ ?_
    ·refine cw_block ?_
     refine cw_loop (body := impl_ReadBase_l6 x43) (r := o4) (fun sg a' w' => ∃ (s18 : Value), AEnv 89 [(0, sv (s)), (2, .pointer (some ⟨b1, 0, none⟩)), (4, .pointer (some ⟨b2, 0, none⟩)), (5, .pointer (some ⟨b3, 0, none⟩)), (10, .pointer (some ⟨b4, 0, none⟩)), (41, .int .i64 (x18)), (44, .int .i64 (x43.1)), (45, .int .i64 (sg.1))] a' ∧ St (cxAll w0) w' [cBox b1 [(.slice none 0 0), (.slice none 0 0), (.slice none 0 0), (.slice none 0 0), .int .i64 (0), (.slice none 0 0), (.slice none 0 0), (.slice none 0 0)], cBox b2 [sv (sg.2.1), .bool (sg.2.2.1)], cOwn [s1] (x1.1.Heap.Bytes : List Int), cOwn [s2] (x1.1.Heap.Class : List Int), cOwn [s3] (x1.1.Lists.Global : List SList), cOwn [s4] (x1.1.Lists.Own : List SList), cOwn [s7] (x13 : List Pin), cOwn [s9] (x21 : List LList), cBox b3 [s1, s2, s3, s4, .int .i64 (x2.1), s7, s9, (.slice none 0 0)], cOwn [s18] (sg.2.2.2 : List LRow), cBox b4 [s18]] []) ?_ hl4 ⟨(.slice none 0 0), hA.part ⟨rfl, rfl, rfl, rfl, rfl, rfl, rfl, rfl, trivial⟩, (((hS).nilOwn (α := LRow)).sel [0, 10, 2, 3, 4, 5, 6, 7, 8, 11, 9] rfl).selR [] rfl⟩
     clear hA hS hl4
     rintro ⟨x48, x49, x50, x51⟩ a w q6 ⟨s18, hA, hS⟩ hG6 hr6
     try dsimp only at hA hS
     unfold impl_ReadBase_l6 at hG6
     refine cw_seq <| cw_ops hA ?_
     clear hA
     refine oy (rv_lss rfl rfl rfl) rfl <| ops_nil fun a hA => cw_seq <| cw_cond hA rfl (fun hc6 => ?_) (fun hc6 => ?_)
     ·replace hG6 := iteT hc6 hG6
      refine cw_skip <| cw_seq <| cw_block <| cw_seq <| cw_ops hA ?_
      clear hA
      obtain ⟨c5, hg, hb⟩ := hS.give [1] rfl rfl
      obtain ⟨x55, hx55, hG6⟩ := bindE hG6
      refine ops_c (rc_call Tryz.call39 rfl rfl) (want_yes rfl) rfl rfl (c_impl_reader_number (c := c5) (r_ := (⟨(⟨x49⟩ : GStr), x50⟩ : Reader)) (b1 := b2) (z1 := 0) (hg _ all_nil) hx55) ?_
      rintro _ w ⟨rfl, hk⟩
      replace hS := hb _ _ _ hk; clear hk hg hb
      obtain ⟨c6, hg, hb⟩ := hS.give [11] rfl rfl
      obtain ⟨x56, hx56, hG6⟩ := bindE hG6
      refine ops_c (rc_call Tryz.call39 rfl rfl) (want_yes rfl) rfl rfl (c_impl_reader_number (c := c6) (r_ := x55.2) (b1 := b2) (z1 := 0) (hg _ all_nil) hx56) ?_
      rintro _ w ⟨rfl, hk⟩
      replace hS := hb _ _ _ hk; clear hk hg hb
      refine oa rfl rfl <| oa rfl rfl <| ops_nil fun a hA => cw_ops hA ?_
      clear hA
      refine oy (rv_fld (m := 0) Tryz.underlying69 rfl rfl Tryz.sizeOf67 rfl rfl) rfl <| oy (rv_load1 rfl rfl Tryz.isAgg67 (hS.cell 10 rfl rfl)) rfl <| om rfl rfl <| om rfl rfl <| oy (rv_build (cells := #[.int .i64 (x55.1), .int .i64 (x56.1)]) rfl Tryz.zeroValue71 Tryz.underlying71 (by have h := places_Tryz71; rw [Tryz.underlying71] at h; exact h) rfl rfl) rfl <| ops_mv (rv_lit (m := 2) (len := 1) (cells := [.int .i64 (x55.1), .int .i64 (x56.1)]) ([(⟨x55.1, x56.1⟩ : LRow)] : List LRow) hS rfl Tryz.underlying67 inf_Tryz71 rfl rfl rfl ⟨(mk_LRow ((⟨x55.1, x56.1⟩ : LRow))), rfl⟩ rfl rfl (lit_fill rfl rfl rfl rfl)) (want_yes rfl) rfl rfl ?_
      clear hS
      rintro s22 w hS
      obtain ⟨hn3, hG6⟩ := needE hG6
      refine ops_mv (rv_append (α := LRow) 9 hS rfl (hS.rdOwn 13 rfl) rfl Tryz.underlying67 inf_Tryz71 rfl hn3 rfl rfl rfl) (want_yes rfl) rfl rfl ?_
      clear hS
      rintro s23 w hS
      refine oy (rv_fld (m := 0) Tryz.underlying69 rfl rfl Tryz.sizeOf67 rfl rfl) rfl <| ops_ms (rs_box (vs := [s23]) hS (i := 10) rfl rfl rfl rfl (cells_rd (hS.rdOwn 9 rfl)) Tryz.sizeOf67 rfl rfl (all1 (one_rd (hS.rdOwn 9 rfl)) rfl)) (want_yes rfl) rfl ?_
      clear hS
      intro w hS
      refine ops_nil fun a hA => cw_ops hA ?_
      clear hA
      refine oy (rv_add rfl rfl rfl) rfl <| om rfl rfl <| ops_nil fun a hA => ?_
      cases hG6
      exact ⟨_, rfl, ⟨s23, hA.part ⟨rfl, rfl, rfl, rfl, rfl, rfl, rfl, rfl, trivial⟩, ((hS).sel [0, 12, 2, 3, 4, 5, 6, 7, 8, 9, 10] rfl).selR [] rfl⟩⟩
     ·replace hG6 := iteF hc6 hG6
      refine cw_exit <| xcons_hit ?_
      cases hG6
      have ho := hr6 _ rfl; subst ho
      exact ⟨x49, x50, x51, s18, rfl, hA.part ⟨rfl, rfl, rfl, rfl, rfl, rfl, trivial⟩, ((hS).sel [0, 1, 2, 3, 4, 5, 6, 7, 8, 9, 10] rfl).selR [] rfl⟩
    ·skip
     clear hA hS hl4
     rintro a w ⟨x52, x53, x54, s19, heq, hA, hS⟩
     replace hG2 : impl_ReadBase_j6 x18 x21 x52 x53 x54 = some q2 := by rw [heq] at hG2; exact hG2
     clear heq
     unfold impl_ReadBase_j6 at hG2
     refine cw_ops hA ?_
     clear hA
     refine oy (rv_fld (m := 0) Tryz.underlying49 rfl rfl Tryz.sizeOf47 rfl rfl) rfl <| oy (rv_load1 rfl rfl Tryz.isAgg47 (hS.cell 8 rfl rfl)) rfl <| oy (rv_loadN rfl rfl Tryz.isAgg69 Tryz.sizeOf69 rfl (hS.cells 10 0 (cs' := [s19]) rfl rfl)) rfl ?_
     replace hS := hS.pack [9] rfl rfl (op_LList ((⟨x54⟩ : LList)))
     refine ops_mv (rv_litN1 ((⟨x54⟩ : LList) : LList) hS [11] rfl ⟨_, rfl, rfl, ⟨rfl, rfl⟩⟩ rfl Tryz.underlying47 inf_Tryz69 rfl rfl rfl) (want_yes rfl) rfl rfl ?_
     clear hS
     rintro s20 w hS
     obtain ⟨hn2, hG2⟩ := needE hG2
     refine ops_mv (rv_appN (α := LList) [7, 12] hS rfl rfl rfl Tryz.underlying47 inf_Tryz69 rfl hn2 rfl rfl rfl) (want_yes rfl) rfl rfl ?_
     clear hS
     rintro s21 w hS
     refine oy (rv_fld (m := 0) Tryz.underlying49 rfl rfl Tryz.sizeOf47 rfl rfl) rfl <| ops_ms (rs_box (vs := [s21]) hS (i := 8) rfl rfl rfl rfl (cells_rd (hS.rdOwn 13 rfl)) Tryz.sizeOf47 rfl rfl (all1 (one_rd (hS.rdOwn 13 rfl)) rfl)) (want_yes rfl) rfl ?_
     clear hS
     intro w hS
     refine ops_nil fun a hA => cw_ops hA ?_
     clear hA
     refine oy (rv_add rfl rfl rfl) rfl <| om rfl rfl <| ops_nil fun a hA => ?_
     cases hG2
     exact ⟨_, rfl, ⟨s21, hA.part ⟨rfl, rfl, rfl, rfl, rfl, trivial⟩, ((hS).sel [0, 1, 2, 3, 4, 5, 6, 13, 8] rfl).selR [] rfl⟩⟩
   ·replace hG2 := iteF hc5 hG2
    refine cw_exit <| xcons_hit ?_
    cases hG2
    have ho := hr2 _ rfl; subst ho
    exact ⟨x19, x20, x21, s9, rfl, hA.part ⟨rfl, rfl, rfl, rfl, trivial⟩, ((hS).sel [0, 1, 2, 3, 4, 5, 6, 7, 8] rfl).selR [] rfl⟩
  ·skip
   clear hA hS hl2
   rintro a w ⟨x22, x23, x24, s10, heq, hA, hS⟩
   replace hF : impl_ReadBase_j2 s x1 x2 x13 x22 x23 x24 = some r := by rw [heq] at hF; exact hF
   clear heq
   unfold impl_ReadBase_j2 at hF
   refine cw_seq <| cw_seq <| cw_ops hA ?_
   clear hA
   refine om rfl rfl <| ops_nil fun a hA => ?_
   obtain ⟨o3, hl3, hF⟩ := bindE hF
   refine cw_cut (J := fun a' w' => ∃ (x33 : List UInt8) (x34 : Bool) (x35 : List Int) (s13 : Value), o3 = (x33, x34, x35) ∧ AEnv 89 [(0, sv (s)), (2, .pointer (some ⟨b1, 0, none⟩)), (4, .pointer (some ⟨b2, 0, none⟩)), (5, .pointer (some ⟨b3, 0, none⟩))] a' ∧ St (cxAll w0) w' [cBox b1 [(.slice none 0 0), (.slice none 0 0), (.slice none 0 0), (.slice none 0 0), .int .i64 (0), (.slice none 0 0), (.slice none 0 0), (.slice none 0 0)], cBox b2 [sv (x33), .bool (x34)], cOwn [s1] (x1.1.Heap.Bytes : List Int), cOwn [s2] (x1.1.Heap.Class : List Int), cOwn [s3] (x1.1.Lists.Global : List SList), cOwn [s4] (x1.1.Lists.Own : List SList), cOwn [s7] (x13 : List Pin), cOwn [s10] (x24 : List LList), cOwn [s13] (x35 : List Int), cBox b3 [s1, s2, s3, s4, .int .i64 (x2.1), s7, s10, s13]] []) ?_ ?_
   ·refine cw_block ?_
    refine cw_loop (body := impl_ReadBase_l3) (r := o3) (fun sg a' w' => ∃ (s12 : Value), AEnv 89 [(0, sv (s)), (2, .pointer (some ⟨b1, 0, none⟩)), (4, .pointer (some ⟨b2, 0, none⟩)), (5, .pointer (some ⟨b3, 0, none⟩)), (65, .int .i64 (sg.1))] a' ∧ St (cxAll w0) w' [cBox b1 [(.slice none 0 0), (.slice none 0 0), (.slice none 0 0), (.slice none 0 0), .int .i64 (0), (.slice none 0 0), (.slice none 0 0), (.slice none 0 0)], cBox b2 [sv (sg.2.1), .bool (sg.2.2.1)], cOwn [s1] (x1.1.Heap.Bytes : List Int), cOwn [s2] (x1.1.Heap.Class : List Int), cOwn [s3] (x1.1.Lists.Global : List SList), cOwn [s4] (x1.1.Lists.Own : List SList), cOwn [s7] (x13 : List Pin), cOwn [s10] (x24 : List LList), cOwn [s12] (sg.2.2.2 : List Int), cBox b3 [s1, s2, s3, s4, .int .i64 (x2.1), s7, s10, s12]] []) ?_ hl3 ⟨(.slice none 0 0), hA.part ⟨rfl, rfl, rfl, rfl, rfl, trivial⟩, (((hS).nilOwn (α := Int)).sel [0, 1, 2, 3, 4, 5, 6, 7, 9, 8] rfl).selR [] rfl⟩
    clear hA hS hl3
    rintro ⟨x29, x30, x31, x32⟩ a w q3 ⟨s12, hA, hS⟩ hG3 hr3
    try dsimp only at hA hS
    unfold impl_ReadBase_l3 at hG3
    refine cw_seq <| cw_ops hA ?_
    clear hA
    refine oy (rv_lss rfl rfl rfl) rfl <| ops_nil fun a hA => cw_seq <| cw_cond hA rfl (fun hc4 => ?_) (fun hc4 => ?_)
    ·replace hG3 := iteT hc4 hG3
     refine cw_skip <| cw_seq <| cw_cut (J := fun a' w' => ∃ (x39 : List UInt8) (x40 : Bool) (x41 : List Int) (s14 : Value), impl_ReadBase_j5 x29 x39 x40 x41 = some q3 ∧ AEnv 89 [(0, sv (s)), (2, .pointer (some ⟨b1, 0, none⟩)), (4, .pointer (some ⟨b2, 0, none⟩)), (5, .pointer (some ⟨b3, 0, none⟩)), (65, .int .i64 (x29))] a' ∧ St (cxAll w0) w' [cBox b1 [(.slice none 0 0), (.slice none 0 0), (.slice none 0 0), (.slice none 0 0), .int .i64 (0), (.slice none 0 0), (.slice none 0 0), (.slice none 0 0)], cBox b2 [sv (x39), .bool (x40)], cOwn [s1] (x1.1.Heap.Bytes : List Int), cOwn [s2] (x1.1.Heap.Class : List Int), cOwn [s3] (x1.1.Lists.Global : List SList), cOwn [s4] (x1.1.Lists.Own : List SList), cOwn [s7] (x13 : List Pin), cOwn [s10] (x24 : List LList), cOwn [s14] (x41 : List Int), cBox b3 [s1, s2, s3, s4, .int .i64 (x2.1), s7, s10, s14]] []) ?_ ?_
     ·skip
      refine cw_block <| cw_any (Keeps (cxAll w0) [cBox b1 [(.slice none 0 0), (.slice none 0 0), (.slice none 0 0), (.slice none 0 0), .int .i64 (0), (.slice none 0 0), (.slice none 0 0), (.slice none 0 0)], cNo, cOwn [s1] (x1.1.Heap.Bytes : List Int), cOwn [s2] (x1.1.Heap.Class : List Int), cOwn [s3] (x1.1.Lists.Global : List SList), cOwn [s4] (x1.1.Lists.Own : List SList), cOwn [s7] (x13 : List Pin), cOwn [s10] (x24 : List LList), cNo, cNo] []) mixed_Tryz hA hS ?_
      clear hA hS; intro w hS
      have hK : Keeps (cxAll w0) [cBox b1 [(.slice none 0 0), (.slice none 0 0), (.slice none 0 0), (.slice none 0 0), .int .i64 (0), (.slice none 0 0), (.slice none 0 0), (.slice none 0 0)], cNo, cOwn [s1] (x1.1.Heap.Bytes : List Int), cOwn [s2] (x1.1.Heap.Class : List Int), cOwn [s3] (x1.1.Lists.Global : List SList), cOwn [s4] (x1.1.Lists.Own : List SList), cOwn [s7] (x13 : List Pin), cOwn [s10] (x24 : List LList), cNo, cNo] [] w := ⟨_, (hS.sel [0, 900001, 2, 3, 4, 5, 6, 7, 900008, 900009] rfl).selR [] rfl⟩
      refine ey 0 rfl (by kernel_rfl) hK (fun _ _ _ => (rv_fld (m := 0) Tryz.underlying49 rfl rfl Tryz.sizeOf22 rfl rfl)) rfl ?_
      obtain ⟨x42, hx42, hG3⟩ := bindE hG3
      obtain ⟨hn1, hG3⟩ := needE hG3
      refine any_2 (i := 1) (j := 2) (by kernel_rfl) ?_ ?_
      ·skip
       refine as_v rfl (rv_load1 rfl rfl Tryz.isAgg22 (hS.cell 9 rfl rfl)) (want_yes rfl) rfl rfl hK ?_
       refine any_1 (i := 2) (by kernel_rfl) ?_
       obtain ⟨c3, hg, hb⟩ := hS.give [1] rfl rfl
       refine as_c rfl (rc_call Tryz.call39 rfl rfl) (want_yes rfl) rfl rfl (c_impl_reader_number (c := c3) (r_ := (⟨(⟨x30⟩ : GStr), x31⟩ : Reader)) (b1 := b2) (z1 := 0) (hg _ all_nil) hx42) ?_
       clear hK; rintro _ w ⟨rfl, hk⟩
       replace hS := hb _ _ _ hk; clear hk hg hb
       have hK := keepsI ((hS.sel [0, 900001, 2, 3, 4, 5, 6, 7, 900008, 900009] rfl).selR [] rfl)
       refine ⟨hK, ?_⟩
       refine any_1 (i := 3) (by kernel_rfl) ?_
       refine as_mv rfl (rv_lit1 (x42.1 : Int) hS rfl Tryz.underlying22 inf_Tryz3 rfl rfl rfl rfl) (want_yes rfl) rfl rfl ?_
       clear hS
       clear hK; rintro s15 w hS
       have hK := keepsI ((hS.sel [0, 900001, 2, 3, 4, 5, 6, 7, 900008, 900009] rfl).selR [] rfl)
       refine ⟨hK, ?_⟩
       refine any_1 (i := 4) (by kernel_rfl) ?_
       refine as_mv rfl (rv_append (α := Int) 8 hS rfl (hS.rdOwn 11 rfl) rfl Tryz.underlying22 inf_Tryz3 rfl hn1 rfl rfl rfl) (want_yes rfl) rfl rfl ?_
       clear hS
       clear hK; rintro s16 w hS
       have hK := keepsI ((hS.sel [0, 900001, 2, 3, 4, 5, 6, 7, 900008, 900009] rfl).selR [] rfl)
       refine ⟨hK, ?_⟩
       refine ey 5 rfl (by kernel_rfl) hK (fun _ _ _ => (rv_fld (m := 0) Tryz.underlying49 rfl rfl Tryz.sizeOf22 rfl rfl)) rfl ?_
       refine any_1 (i := 6) (by kernel_rfl) ?_
       refine as_ms rfl (rs_box (vs := [s16]) hS (i := 9) rfl rfl rfl rfl (cells_rd (hS.rdOwn 8 rfl)) Tryz.sizeOf22 rfl rfl (all1 (one_rd (hS.rdOwn 8 rfl)) rfl)) (want_yes rfl) rfl ?_
       clear hS
       clear hK; intro w hS
       have hK := keepsI ((hS.sel [0, 900001, 2, 3, 4, 5, 6, 7, 900008, 900009] rfl).selR [] rfl)
       refine ⟨hK, ?_⟩
       refine any_done (by kernel_rfl) ?_
       intro a hA
       exact ⟨x42.2.left.b, x42.2.bad, x32 ++ ([x42.1]), s16, hG3, hA.part ⟨rfl, rfl, rfl, rfl, rfl, trivial⟩, ((hS).sel [0, 10, 2, 3, 4, 5, 6, 7, 8, 9] rfl).selR [] rfl⟩
      ·skip
       obtain ⟨c3, hg, hb⟩ := hS.give [1] rfl rfl
       refine as_c rfl (rc_call Tryz.call39 rfl rfl) (want_yes rfl) rfl rfl (c_impl_reader_number (c := c3) (r_ := (⟨(⟨x30⟩ : GStr), x31⟩ : Reader)) (b1 := b2) (z1 := 0) (hg _ all_nil) hx42) ?_
       clear hK; rintro _ w ⟨rfl, hk⟩
       replace hS := hb _ _ _ hk; clear hk hg hb
       have hK := keepsI ((hS.sel [0, 900001, 2, 3, 4, 5, 6, 7, 900008, 900009] rfl).selR [] rfl)
       refine ⟨hK, ?_⟩
       refine any_2 (i := 1) (j := 3) (by kernel_rfl) ?_ ?_
       ·skip
        refine as_v rfl (rv_load1 rfl rfl Tryz.isAgg22 (hS.cell 9 rfl rfl)) (want_yes rfl) rfl rfl hK ?_
        refine any_1 (i := 3) (by kernel_rfl) ?_
        refine as_mv rfl (rv_lit1 (x42.1 : Int) hS rfl Tryz.underlying22 inf_Tryz3 rfl rfl rfl rfl) (want_yes rfl) rfl rfl ?_
        clear hS
        clear hK; rintro s15 w hS
        have hK := keepsI ((hS.sel [0, 900001, 2, 3, 4, 5, 6, 7, 900008, 900009] rfl).selR [] rfl)
        refine ⟨hK, ?_⟩
        refine any_1 (i := 4) (by kernel_rfl) ?_
        refine as_mv rfl (rv_append (α := Int) 8 hS rfl (hS.rdOwn 11 rfl) rfl Tryz.underlying22 inf_Tryz3 rfl hn1 rfl rfl rfl) (want_yes rfl) rfl rfl ?_
        clear hS
        clear hK; rintro s16 w hS
        have hK := keepsI ((hS.sel [0, 900001, 2, 3, 4, 5, 6, 7, 900008, 900009] rfl).selR [] rfl)
        refine ⟨hK, ?_⟩
        refine ey 5 rfl (by kernel_rfl) hK (fun _ _ _ => (rv_fld (m := 0) Tryz.underlying49 rfl rfl Tryz.sizeOf22 rfl rfl)) rfl ?_
        refine any_1 (i := 6) (by kernel_rfl) ?_
        refine as_ms rfl (rs_box (vs := [s16]) hS (i := 9) rfl rfl rfl rfl (cells_rd (hS.rdOwn 8 rfl)) Tryz.sizeOf22 rfl rfl (all1 (one_rd (hS.rdOwn 8 rfl)) rfl)) (want_yes rfl) rfl ?_
        clear hS
        clear hK; intro w hS
        have hK := keepsI ((hS.sel [0, 900001, 2, 3, 4, 5, 6, 7, 900008, 900009] rfl).selR [] rfl)
        refine ⟨hK, ?_⟩
        refine any_done (by kernel_rfl) ?_
        intro a hA
        exact ⟨x42.2.left.b, x42.2.bad, x32 ++ ([x42.1]), s16, hG3, hA.part ⟨rfl, rfl, rfl, rfl, rfl, trivial⟩, ((hS).sel [0, 10, 2, 3, 4, 5, 6, 7, 8, 9] rfl).selR [] rfl⟩
       ·skip
        refine as_mv rfl (rv_lit1 (x42.1 : Int) hS rfl Tryz.underlying22 inf_Tryz3 rfl rfl rfl rfl) (want_yes rfl) rfl rfl ?_
        clear hS
        clear hK; rintro s15 w hS
        have hK := keepsI ((hS.sel [0, 900001, 2, 3, 4, 5, 6, 7, 900008, 900009] rfl).selR [] rfl)
        refine ⟨hK, ?_⟩
        refine any_1 (i := 1) (by kernel_rfl) ?_
        refine as_v rfl (rv_load1 rfl rfl Tryz.isAgg22 (hS.cell 9 rfl rfl)) (want_yes rfl) rfl rfl hK ?_
        refine any_1 (i := 4) (by kernel_rfl) ?_
        refine as_mv rfl (rv_append (α := Int) 8 hS rfl (hS.rdOwn 11 rfl) rfl Tryz.underlying22 inf_Tryz3 rfl hn1 rfl rfl rfl) (want_yes rfl) rfl rfl ?_
        clear hS
        clear hK; rintro s16 w hS
        have hK := keepsI ((hS.sel [0, 900001, 2, 3, 4, 5, 6, 7, 900008, 900009] rfl).selR [] rfl)
        refine ⟨hK, ?_⟩
        refine ey 5 rfl (by kernel_rfl) hK (fun _ _ _ => (rv_fld (m := 0) Tryz.underlying49 rfl rfl Tryz.sizeOf22 rfl rfl)) rfl ?_
        refine any_1 (i := 6) (by kernel_rfl) ?_
        refine as_ms rfl (rs_box (vs := [s16]) hS (i := 9) rfl rfl rfl rfl (cells_rd (hS.rdOwn 8 rfl)) Tryz.sizeOf22 rfl rfl (all1 (one_rd (hS.rdOwn 8 rfl)) rfl)) (want_yes rfl) rfl ?_
        clear hS
        clear hK; intro w hS
        have hK := keepsI ((hS.sel [0, 900001, 2, 3, 4, 5, 6, 7, 900008, 900009] rfl).selR [] rfl)
        refine ⟨hK, ?_⟩
        refine any_done (by kernel_rfl) ?_
        intro a hA
        exact ⟨x42.2.left.b, x42.2.bad, x32 ++ ([x42.1]), s16, hG3, hA.part ⟨rfl, rfl, rfl, rfl, rfl, trivial⟩, ((hS).sel [0, 10, 2, 3, 4, 5, 6, 7, 8, 9] rfl).selR [] rfl⟩
     ·skip
      clear hA hS hG3
      rintro a w ⟨x39, x40, x41, s14, hG3, hA, hS⟩
      unfold impl_ReadBase_j5 at hG3
      refine cw_ops hA ?_
      clear hA
      refine oy (rv_add rfl rfl rfl) rfl <| om rfl rfl <| ops_nil fun a hA => ?_
      cases hG3
      exact ⟨_, rfl, ⟨s14, hA.part ⟨rfl, rfl, rfl, rfl, rfl, trivial⟩, ((hS).sel [0, 1, 2, 3, 4, 5, 6, 7, 8, 9] rfl).selR [] rfl⟩⟩
    ·replace hG3 := iteF hc4 hG3
     refine cw_exit <| xcons_hit ?_
     cases hG3
     have ho := hr3 _ rfl; subst ho
     exact ⟨x30, x31, x32, s12, rfl, hA.part ⟨rfl, rfl, rfl, rfl, trivial⟩, ((hS).sel [0, 1, 2, 3, 4, 5, 6, 7, 8, 9] rfl).selR [] rfl⟩
   ·skip
    clear hA hS hl3
    rintro a w ⟨x33, x34, x35, s13, heq, hA, hS⟩
    replace hF : impl_ReadBase_j3 s x1 x2 x13 x24 x33 x34 x35 = some r := by rw [heq] at hF; exact hF
    clear heq
    unfold impl_ReadBase_j3 at hF
    refine cw_seq <| cw_seq <| cw_cut (J := fun a' w' => ∃ (x36 : Bool), impl_ReadBase_j4 x1 x2 x13 x24 x35 x36 = some r ∧ AEnv 89 [(2, .pointer (some ⟨b1, 0, none⟩)), (5, .pointer (some ⟨b3, 0, none⟩)), (86, .bool (x36))] a' ∧ St (cxAll w0) w' [cBox b1 [(.slice none 0 0), (.slice none 0 0), (.slice none 0 0), (.slice none 0 0), .int .i64 (0), (.slice none 0 0), (.slice none 0 0), (.slice none 0 0)], cOwn [s1] (x1.1.Heap.Bytes : List Int), cOwn [s2] (x1.1.Heap.Class : List Int), cOwn [s3] (x1.1.Lists.Global : List SList), cOwn [s4] (x1.1.Lists.Own : List SList), cOwn [s7] (x13 : List Pin), cOwn [s10] (x24 : List LList), cOwn [s13] (x35 : List Int), cBox b3 [s1, s2, s3, s4, .int .i64 (x2.1), s7, s10, s13]] []) ?_ ?_
    ·skip
     refine cw_ops hA ?_
     clear hA
     refine oy (rv_fld (m := 0) Tryz.underlying89 rfl rfl Tryz.sizeOf4 rfl rfl) rfl <| oy (rv_load1 rfl rfl Tryz.isAgg4 (hS.cell 1 rfl rfl)) rfl <| om rfl rfl <| ops_case (s := 76) rfl (fun hc2 => ?_) (fun hc2 => ?_)
     ·replace hF := iteT hc2 hF
      refine ops_off (want_if rfl rfl rfl (by rw [hc2]; rfl)) rfl rfl <| ops_off (want_if rfl rfl rfl (by rw [hc2]; rfl)) rfl rfl <| ops_off (want_if rfl rfl rfl (by rw [hc2]; rfl)) rfl rfl <| oy (rv_pick_t rfl rfl hc2 rfl) rfl <| om rfl rfl <| ops_off (want_if rfl rfl rfl rfl) rfl rfl <| ops_off (want_if rfl rfl rfl rfl) rfl rfl <| ops_off (want_if rfl rfl rfl rfl) rfl rfl <| ops_off (want_if rfl rfl rfl rfl) rfl rfl ?_
      refine oy (rv_pick_t rfl rfl rfl rfl) rfl <| ops_nil fun a hA => ?_
      exact ⟨true, hF, hA.part ⟨rfl, rfl, rfl, trivial⟩, ((hS).sel [0, 2, 3, 4, 5, 6, 7, 8, 9] rfl).selR [] rfl⟩
     ·replace hF := iteF hc2 hF
      refine ops_v (rv_loadN rfl rfl Tryz.isAgg49 Tryz.sizeOf49 rfl (hS.cells 9 0 (cs' := [s1, s2, s3, s4, .int .i64 (x2.1), s7, s10, s13]) rfl rfl)) (want_if rfl rfl rfl (by rw [hc2]; rfl)) rfl rfl ?_
      obtain ⟨x37, hx37, hF⟩ := bindE hF
      refine ops_c (rc_call Tryz.call26 rfl rfl) (want_if rfl rfl rfl (by rw [hc2]; rfl)) rfl rfl (c_impl_BaseOk (b := (⟨x1.1, (⟨x2.1, x13⟩ : Clock), x24, x35⟩ : Base)) (hS.rdOwn 2 rfl) (hS.rdOwn 3 rfl) (hS.rdOwn 4 rfl) (hS.rdOwn 5 rfl) (hS.rdOwn 6 rfl) (hS.rdOwn 7 rfl) (hS.rdOwn 8 rfl) hx37) ?_
      rintro _ w ⟨rfl, hk⟩
      replace hS := hS.after hk; clear hk
      refine ops_v (rv_not rfl rfl) (want_if rfl rfl rfl (by rw [hc2]; rfl)) rfl rfl <| oy (rv_pick_f rfl rfl hc2 rfl) rfl <| om rfl rfl <| ops_case (s := 81) rfl (fun hc3 => ?_) (fun hc3 => ?_)
      ·replace hF := iteT hc3 hF
       refine ops_off (want_if rfl rfl rfl (by rw [hc3]; rfl)) rfl rfl <| ops_off (want_if rfl rfl rfl (by rw [hc3]; rfl)) rfl rfl <| ops_off (want_if rfl rfl rfl (by rw [hc3]; rfl)) rfl rfl <| ops_off (want_if rfl rfl rfl (by rw [hc3]; rfl)) rfl rfl <| oy (rv_pick_t rfl rfl hc3 rfl) rfl <| ops_nil fun a hA => ?_
       exact ⟨true, hF, hA.part ⟨rfl, rfl, rfl, trivial⟩, ((hS).sel [0, 2, 3, 4, 5, 6, 7, 8, 9] rfl).selR [] rfl⟩
      ·replace hF := iteF hc3 hF
       refine ops_v (rv_loadN rfl rfl Tryz.isAgg49 Tryz.sizeOf49 rfl (hS.cells 9 0 (cs' := [s1, s2, s3, s4, .int .i64 (x2.1), s7, s10, s13]) rfl rfl)) (want_if rfl rfl rfl (by rw [hc3]; rfl)) rfl rfl ?_
       obtain ⟨x38, hx38, hF⟩ := bindE hF
       refine ops_c (rc_call Tryz.call8 rfl rfl) (want_if rfl rfl rfl (by rw [hc3]; rfl)) rfl rfl (c_impl_ShowBase (b := (⟨x1.1, (⟨x2.1, x13⟩ : Clock), x24, x35⟩ : Base)) (hS.rdOwn 2 rfl) (hS.rdOwn 3 rfl) (hS.rdOwn 4 rfl) (hS.rdOwn 5 rfl) (hS.rdOwn 6 rfl) (hS.rdOwn 7 rfl) (hS.rdOwn 8 rfl) hx38) ?_
       rintro _ w ⟨rfl, hk⟩
       replace hS := hS.after hk; clear hk
       refine ops_v (rv_move rfl rfl) (want_if rfl rfl rfl (by rw [hc3]; rfl)) rfl rfl <| ops_v (rv_neqs rfl rfl rfl) (want_if rfl rfl rfl (by rw [hc3]; rfl)) rfl rfl <| oy (rv_pick_f rfl rfl hc3 rfl) rfl <| ops_nil fun a hA => ?_
       exact ⟨!(x38 == s), hF, hA.part ⟨rfl, rfl, rfl, trivial⟩, ((hS).sel [0, 2, 3, 4, 5, 6, 7, 8, 9] rfl).selR [] rfl⟩
    ·skip
     clear hA hS hF
     rintro a w ⟨x36, hF, hA, hS⟩
     unfold impl_ReadBase_j4 at hF
     refine cw_cond hA rfl (fun hc1 => ?_) (fun hc1 => ?_)
     ·replace hF := iteT hc1 hF
      refine cw_seq <| cw_ops hA ?_
      clear hA
      refine oy (rv_build (cells := #[(.slice none 0 0), (.slice none 0 0), (.slice none 0 0), (.slice none 0 0), .int .i64 (0), (.slice none 0 0), (.slice none 0 0), (.slice none 0 0)]) rfl Tryz.zeroValue49 Tryz.underlying49 (by have h := places_Tryz49; rw [Tryz.underlying49] at h; exact h) rfl rfl) rfl <| ops_ms (rs_box (vs := [(.slice none 0 0), (.slice none 0 0), (.slice none 0 0), (.slice none 0 0), .int .i64 (0), (.slice none 0 0), (.slice none 0 0), (.slice none 0 0)]) hS (i := 0) rfl rfl rfl rfl rfl Tryz.sizeOf49 rfl rfl rfl) (want_yes rfl) rfl ?_
      clear hS
      intro w hS
      refine oa rfl rfl <| ops_nil fun a hA => cw_ret ?_
      replace hS := hS.nilOwn (α := Int)
      replace hS := hS.nilOwn (α := Int)
      replace hS := hS.nilOwn (α := SList)
      replace hS := hS.nilOwn (α := SList)
      replace hS := hS.nilOwn (α := Pin)
      replace hS := hS.nilOwn (α := LList)
      replace hS := hS.nilOwn (α := Int)
      cases hF
      exact fin2 Tryz.results11 hA (res_cell rfl Tryz.isAgg49 Tryz.sizeOf49 rfl (hS.cells 0 0 (cs' := [(.slice none 0 0), (.slice none 0 0), (.slice none 0 0), (.slice none 0 0), .int .i64 (0), (.slice none 0 0), (.slice none 0 0), (.slice none 0 0)]) rfl rfl)) (res_tmp rfl) ⟨(.slice none 0 0), (.slice none 0 0), (.slice none 0 0), (.slice none 0 0), (.slice none 0 0), (.slice none 0 0), (.slice none 0 0), rfl, (hS.sel [9, 10, 11, 12, 13, 14, 15] rfl).weaken (R' := []) (fun _ h => nomatch h)⟩
     ·replace hF := iteF hc1 hF
      refine cw_skip <| cw_seq <| cw_ops hA ?_
      clear hA
      refine oy (rv_loadN rfl rfl Tryz.isAgg49 Tryz.sizeOf49 rfl (hS.cells 8 0 (cs' := [s1, s2, s3, s4, .int .i64 (x2.1), s7, s10, s13]) rfl rfl)) rfl <| ops_ms (rs_box (vs := [s1, s2, s3, s4, .int .i64 (x2.1), s7, s10, s13]) hS (i := 0) rfl rfl rfl rfl rfl Tryz.sizeOf49 rfl rfl (all1 (one_rd (hS.rdOwn 1 rfl)) (all1 (one_rd (hS.rdOwn 2 rfl)) (all1 (one_rd (hS.rdOwn 3 rfl)) (all1 (one_rd (hS.rdOwn 4 rfl)) (all1 rfl (all1 (one_rd (hS.rdOwn 5 rfl)) (all1 (one_rd (hS.rdOwn 6 rfl)) (all1 (one_rd (hS.rdOwn 7 rfl)) rfl))))))))) (want_yes rfl) rfl ?_
      clear hS
      intro w hS
      refine oa rfl rfl <| ops_nil fun a hA => cw_ret ?_
      cases hF
      exact fin2 Tryz.results11 hA (res_cell rfl Tryz.isAgg49 Tryz.sizeOf49 rfl (hS.cells 0 0 (cs' := [s1, s2, s3, s4, .int .i64 (x2.1), s7, s10, s13]) rfl rfl)) (res_tmp rfl) ⟨s1, s2, s3, s4, s7, s10, s13, rfl, (hS.sel [1, 2, 3, 4, 5, 6, 7] rfl).weaken (R' := []) (fun _ h => nomatch h)⟩

theorem c_laws_eqIntS {w0 : World} {a_ : List Int} {b : List Int} {s1 : Value} {s2 : Value} {r : Bool} (h1 : Rep.rd (All w0) w0 [s1] (a_ : List Int)) (h2 : Rep.rd (All w0) w0 [s2] (b : List Int)) (hF : laws_eqIntS a_ b = some r) :
    Calls Tryz.prog 33 #[s1, s2] w0 (Ret fun v w' => v = .bool (r) ∧ St (cxAll w0) w' [] []) := by
 have hS : St (cxAll w0) w0 [] [fRd [s1] (a_ : List Int), fRd [s2] (b : List Int)] := St.enter (by
   intro f hf
   simp only [List.mem_cons, List.not_mem_nil, or_false] at hf
   rcases hf with rfl | rfl
   · exact h1
   · exact h2)
 refine calls_cw (args := [_, _]) Tryz.func33 rfl Tryz.ntmps33 rfl ?_
 unfold laws_eqIntS at hF
 intro a hA
 refine cw_seq <| cw_ops hA ?_
 clear hA
 refine oa rfl rfl <| ops_nil fun a hA => cw_seq <| cw_seq <| cw_ops hA ?_
 clear hA
 refine om rfl rfl <| oy (rv_lenS (hS.rd 0 rfl) Tryz.underlying22 rfl rfl) rfl <| om rfl rfl <| oy (rv_lenS (hS.rd 1 rfl) Tryz.underlying22 rfl rfl) rfl <| oy (rv_neq rfl rfl rfl) rfl <| ops_nil fun a hA => cw_cond hA rfl (fun hc1 => ?_) (fun hc1 => ?_)
 ·replace hF := iteT hc1 hF
  refine cw_seq <| cw_ops hA ?_
  clear hA
  refine oa rfl rfl <| ops_nil fun a hA => cw_ret ?_
  cases hF
  exact fy Tryz.results33 hA rfl hS
 ·replace hF := iteF hc1 hF
  refine cw_skip <| cw_seq <| cw_seq <| cw_ops hA ?_
  clear hA
  refine oa rfl rfl <| ops_nil fun a hA => ?_
  obtain ⟨o1, hl1, hF⟩ := bindE hF
  refine cw_cut (J := fun a' w' => o1 = Out.brk (()) ∧ AEnv 26 [] a' ∧ St (cxAll w0) w' [] []) ?_ ?_
  ·refine cw_block ?_
   refine cw_loop (body := laws_eqIntS_l1 a_ b) (r := o1) (fun sg a' w' => AEnv 26 [(0, s1), (1, s2), (5, .int .i64 (sg))] a' ∧ St (cxAll w0) w' [] [fRd [s1] (a_ : List Int), fRd [s2] (b : List Int)]) ?_ hl1 ⟨hA.part ⟨rfl, rfl, rfl, trivial⟩, ((hS).sel [] rfl).selR [0, 1] rfl⟩
   clear hA hS hl1
   rintro x2 a w q1 ⟨hA, hS⟩ hG1 hr1
   try dsimp only at hA hS
   unfold laws_eqIntS_l1 at hG1
   refine cw_seq <| cw_seq <| cw_ops hA ?_
   clear hA
   refine om rfl rfl <| om rfl rfl <| oy (rv_lenS (hS.rd 0 rfl) Tryz.underlying22 rfl rfl) rfl <| oy (rv_lss rfl rfl rfl) rfl <| ops_nil fun a hA => cw_cond hA rfl (fun hc2 => ?_) (fun hc2 => ?_)
   ·replace hG1 := iteT hc2 hG1
    refine cw_skip <| cw_seq <| cw_block <| cw_seq <| cw_any (Keeps (cxAll w0) [] [fRd [s1] (a_ : List Int), fRd [s2] (b : List Int)]) mixed_Tryz hA hS ?_
    clear hA hS; intro w hS
    have hK : Keeps (cxAll w0) [] [fRd [s1] (a_ : List Int), fRd [s2] (b : List Int)] w := ⟨_, (hS.sel [] rfl).selR [0, 1] rfl⟩
    refine ey 0 rfl (by kernel_rfl) hK (fun _ _ _ => (rv_move rfl rfl)) rfl ?_
    refine ey 1 rfl (by kernel_rfl) hK (fun _ _ _ => (rv_move rfl rfl)) rfl ?_
    obtain ⟨x3, hx3, hG1⟩ := bindE hG1
    refine ey 2 rfl (by kernel_rfl) hK (fun _ _ hS => (rv_idx (m := 1) (hS.rd 0 rfl) rfl hx3 Tryz.underlying22 Tryz.sizeOf3 rfl rfl rfl)) rfl ?_
    refine ey 3 rfl (by kernel_rfl) hK (fun _ _ hS => (rv_load1 rfl rfl Tryz.isAgg3 (cell1 (el_Int (hS.rd 0 rfl) (idx_some hx3).2.2)))) rfl ?_
    refine ey 4 rfl (by kernel_rfl) hK (fun _ _ _ => (rv_move rfl rfl)) rfl ?_
    refine ey 5 rfl (by kernel_rfl) hK (fun _ _ _ => (rv_move rfl rfl)) rfl ?_
    obtain ⟨x4, hx4, hG1⟩ := bindE hG1
    refine ey 6 rfl (by kernel_rfl) hK (fun _ _ hS => (rv_idx (m := 1) (hS.rd 1 rfl) rfl hx4 Tryz.underlying22 Tryz.sizeOf3 rfl rfl rfl)) rfl ?_
    refine ey 7 rfl (by kernel_rfl) hK (fun _ _ hS => (rv_load1 rfl rfl Tryz.isAgg3 (cell1 (el_Int (hS.rd 1 rfl) (idx_some hx4).2.2)))) rfl ?_
    refine ey 8 rfl (by kernel_rfl) hK (fun _ _ _ => (rv_neq rfl rfl rfl)) rfl ?_
    refine any_done (by kernel_rfl) ?_
    intro a hA
    refine cw_cond hA rfl (fun hc3 => ?_) (fun hc3 => ?_)
    ·replace hG1 := iteT hc3 hG1
     refine cw_seq <| cw_ops hA ?_
     clear hA
     refine oa rfl rfl <| ops_nil fun a hA => cw_ret ?_
     cases hG1
     have ho := hr1 _ rfl; subst ho
     replace hF : some false = some r := hF
     cases hF
     exact fy Tryz.results33 hA rfl hS
    ·replace hG1 := iteF hc3 hG1
     refine cw_skip <| cw_ops hA ?_
     clear hA
     refine om rfl rfl <| oy (rv_add rfl rfl rfl) rfl <| oa rfl rfl <| ops_nil fun a hA => ?_
     cases hG1
     exact ⟨_, rfl, ⟨hA.part ⟨rfl, rfl, rfl, trivial⟩, ((hS).sel [] rfl).selR [0, 1] rfl⟩⟩
   ·replace hG1 := iteF hc2 hG1
    refine cw_exit <| xcons_hit ?_
    cases hG1
    have ho := hr1 _ rfl; subst ho
    exact ⟨rfl, hA.part trivial, ((hS).sel [] rfl).selR [] rfl⟩
  ·skip
   clear hA hS hl1
   rintro a w ⟨heq, hA, hS⟩
   replace hF : laws_eqIntS_j1 = some r := by rw [heq] at hF; exact hF
   clear heq
   unfold laws_eqIntS_j1 at hF
   refine cw_seq <| cw_ops hA ?_
   clear hA
   refine oa rfl rfl <| ops_nil fun a hA => cw_ret ?_
   cases hF
   exact fy Tryz.results33 hA rfl hS

theorem c_laws_eqHeap {w0 : World} {a_ : Heap} {b : Heap} {s1 : Value} {s2 : Value} {s3 : Value} {s4 : Value} {r : Bool} (h1 : Rep.rd (All w0) w0 [s1] (a_.Bytes : List Int)) (h2 : Rep.rd (All w0) w0 [s2] (a_.Class : List Int)) (h3 : Rep.rd (All w0) w0 [s3] (b.Bytes : List Int)) (h4 : Rep.rd (All w0) w0 [s4] (b.Class : List Int)) (hF : laws_eqHeap a_ b = some r) :
    Calls Tryz.prog 76 #[.agg #[s1, s2], .agg #[s3, s4]] w0 (Ret fun v w' => v = .bool (r) ∧ St (cxAll w0) w' [] []) := by
 have hS : St (cxAll w0) w0 [] [fRd [s1] (a_.Bytes : List Int), fRd [s2] (a_.Class : List Int), fRd [s3] (b.Bytes : List Int), fRd [s4] (b.Class : List Int)] := St.enter (by
   intro f hf
   simp only [List.mem_cons, List.not_mem_nil, or_false] at hf
   rcases hf with rfl | rfl | rfl | rfl
   · exact h1
   · exact h2
   · exact h3
   · exact h4)
 refine calls_cw (args := [_, _]) Tryz.func76 rfl Tryz.ntmps76 rfl ?_
 unfold laws_eqHeap at hF
 intro a hA
 refine cw_seq <| cw_ops hA ?_
 clear hA
 refine ops_mv (rv_box (cs := [s1, s2]) hS rfl rfl rfl) (want_yes rfl) rfl rfl ?_
 clear hS
 rintro _ w ⟨b1, rfl, hS⟩
 refine ops_mv (rv_box (cs := [s3, s4]) hS rfl rfl rfl) (want_yes rfl) rfl rfl ?_
 clear hS
 rintro _ w ⟨b2, rfl, hS⟩
 refine oa rfl rfl <| ops_nil fun a hA => cw_seq <| cw_seq <| cw_ops hA ?_
 clear hA
 refine oy (rv_fld (m := 0) Tryz.underlying38 rfl rfl Tryz.sizeOf22 rfl rfl) rfl <| oy (rv_load1 rfl rfl Tryz.isAgg22 (hS.cell 0 rfl rfl)) rfl <| oy (rv_fld (m := 0) Tryz.underlying38 rfl rfl Tryz.sizeOf22 rfl rfl) rfl <| oy (rv_load1 rfl rfl Tryz.isAgg22 (hS.cell 1 rfl rfl)) rfl ?_
 obtain ⟨x1, hx1, hF⟩ := bindE hF
 refine ops_c (rc_call Tryz.call33 rfl rfl) (want_yes rfl) rfl rfl (c_laws_eqIntS (a_ := a_.Bytes) (b := b.Bytes) (hS.rd 0 rfl) (hS.rd 2 rfl) hx1) ?_
 rintro _ w ⟨rfl, hk⟩
 replace hS := hS.after hk; clear hk
 refine oy (rv_not rfl rfl) rfl <| ops_nil fun a hA => cw_cond hA rfl (fun hc1 => ?_) (fun hc1 => ?_)
 ·replace hF := iteT hc1 hF
  refine cw_seq <| cw_ops hA ?_
  clear hA
  refine oa rfl rfl <| ops_nil fun a hA => cw_ret ?_
  cases hF
  exact fy Tryz.results76 hA rfl hS
 ·replace hF := iteF hc1 hF
  refine cw_skip <| cw_seq <| cw_seq <| cw_ops hA ?_
  clear hA
  refine oy (rv_fld (m := 0) Tryz.underlying38 rfl rfl Tryz.sizeOf22 rfl rfl) rfl <| oy (rv_load1 rfl rfl Tryz.isAgg22 (hS.cell 0 rfl rfl)) rfl <| oy (rv_fld (m := 0) Tryz.underlying38 rfl rfl Tryz.sizeOf22 rfl rfl) rfl <| oy (rv_load1 rfl rfl Tryz.isAgg22 (hS.cell 1 rfl rfl)) rfl ?_
  obtain ⟨x2, hx2, hF⟩ := bindE hF
  refine ops_c (rc_call Tryz.call33 rfl rfl) (want_yes rfl) rfl rfl (c_laws_eqIntS (a_ := a_.Class) (b := b.Class) (hS.rd 1 rfl) (hS.rd 3 rfl) hx2) ?_
  rintro _ w ⟨rfl, hk⟩
  replace hS := hS.after hk; clear hk
  refine oy (rv_not rfl rfl) rfl <| ops_nil fun a hA => cw_cond hA rfl (fun hc2 => ?_) (fun hc2 => ?_)
  ·replace hF := iteT hc2 hF
   refine cw_seq <| cw_ops hA ?_
   clear hA
   refine oa rfl rfl <| ops_nil fun a hA => cw_ret ?_
   cases hF
   exact fy Tryz.results76 hA rfl hS
  ·replace hF := iteF hc2 hF
   refine cw_skip <| cw_seq <| cw_ops hA ?_
   clear hA
   refine oa rfl rfl <| ops_nil fun a hA => cw_ret ?_
   cases hF
   exact fy Tryz.results76 hA rfl hS

theorem c_laws_eqSList {w0 : World} {a_ : SList} {b : SList} {s1 : Value} {s2 : Value} {r : Bool} (h1 : Rep.rd (All w0) w0 [s1] (a_.Slots : List Int)) (h2 : Rep.rd (All w0) w0 [s2] (b.Slots : List Int)) (hF : laws_eqSList a_ b = some r) :
    Calls Tryz.prog 148 #[.agg #[s1], .agg #[s2]] w0 (Ret fun v w' => v = .bool (r) ∧ St (cxAll w0) w' [] []) := by
 have hS : St (cxAll w0) w0 [] [fRd [s1] (a_.Slots : List Int), fRd [s2] (b.Slots : List Int)] := St.enter (by
   intro f hf
   simp only [List.mem_cons, List.not_mem_nil, or_false] at hf
   rcases hf with rfl | rfl
   · exact h1
   · exact h2)
 refine calls_cw (args := [_, _]) Tryz.func148 rfl Tryz.ntmps148 rfl ?_
 unfold laws_eqSList at hF
 intro a hA
 refine cw_seq <| cw_ops hA ?_
 clear hA
 refine ops_mv (rv_box (cs := [s1]) hS rfl rfl rfl) (want_yes rfl) rfl rfl ?_
 clear hS
 rintro _ w ⟨b1, rfl, hS⟩
 refine ops_mv (rv_box (cs := [s2]) hS rfl rfl rfl) (want_yes rfl) rfl rfl ?_
 clear hS
 rintro _ w ⟨b2, rfl, hS⟩
 refine oa rfl rfl <| ops_nil fun a hA => cw_seq <| cw_seq <| cw_ops hA ?_
 clear hA
 refine oy (rv_fld (m := 0) Tryz.underlying120 rfl rfl Tryz.sizeOf22 rfl rfl) rfl <| oy (rv_load1 rfl rfl Tryz.isAgg22 (hS.cell 0 rfl rfl)) rfl <| oy (rv_fld (m := 0) Tryz.underlying120 rfl rfl Tryz.sizeOf22 rfl rfl) rfl <| oy (rv_load1 rfl rfl Tryz.isAgg22 (hS.cell 1 rfl rfl)) rfl ?_
 obtain ⟨x1, hx1, hF⟩ := bindE hF
 refine ops_c (rc_call Tryz.call33 rfl rfl) (want_yes rfl) rfl rfl (c_laws_eqIntS (a_ := a_.Slots) (b := b.Slots) (hS.rd 0 rfl) (hS.rd 1 rfl) hx1) ?_
 rintro _ w ⟨rfl, hk⟩
 replace hS := hS.after hk; clear hk
 refine oy (rv_not rfl rfl) rfl <| ops_nil fun a hA => cw_cond hA rfl (fun hc1 => ?_) (fun hc1 => ?_)
 ·replace hF := iteT hc1 hF
  refine cw_seq <| cw_ops hA ?_
  clear hA
  refine oa rfl rfl <| ops_nil fun a hA => cw_ret ?_
  cases hF
  exact fy Tryz.results148 hA rfl hS
 ·replace hF := iteF hc1 hF
  refine cw_skip <| cw_seq <| cw_ops hA ?_
  clear hA
  refine oa rfl rfl <| ops_nil fun a hA => cw_ret ?_
  cases hF
  exact fy Tryz.results148 hA rfl hS

theorem c_laws_eqSListS {w0 : World} {a_ : List SList} {b : List SList} {s1 : Value} {s2 : Value} {r : Bool} (h1 : Rep.rd (All w0) w0 [s1] (a_ : List SList)) (h2 : Rep.rd (All w0) w0 [s2] (b : List SList)) (hF : laws_eqSListS a_ b = some r) :
    Calls Tryz.prog 122 #[s1, s2] w0 (Ret fun v w' => v = .bool (r) ∧ St (cxAll w0) w' [] []) := by
 have hS : St (cxAll w0) w0 [] [fRd [s1] (a_ : List SList), fRd [s2] (b : List SList)] := St.enter (by
   intro f hf
   simp only [List.mem_cons, List.not_mem_nil, or_false] at hf
   rcases hf with rfl | rfl
   · exact h1
   · exact h2)
 refine calls_cw (args := [_, _]) Tryz.func122 rfl Tryz.ntmps122 rfl ?_
 unfold laws_eqSListS at hF
 intro a hA
 refine cw_seq <| cw_ops hA ?_
 clear hA
 refine oa rfl rfl <| ops_nil fun a hA => cw_seq <| cw_seq <| cw_ops hA ?_
 clear hA
 refine om rfl rfl <| oy (rv_lenS (hS.rd 0 rfl) Tryz.underlying39 rfl rfl) rfl <| om rfl rfl <| oy (rv_lenS (hS.rd 1 rfl) Tryz.underlying39 rfl rfl) rfl <| oy (rv_neq rfl rfl rfl) rfl <| ops_nil fun a hA => cw_cond hA rfl (fun hc1 => ?_) (fun hc1 => ?_)
 ·replace hF := iteT hc1 hF
  refine cw_seq <| cw_ops hA ?_
  clear hA
  refine oa rfl rfl <| ops_nil fun a hA => cw_ret ?_
  cases hF
  exact fy Tryz.results122 hA rfl hS
 ·replace hF := iteF hc1 hF
  refine cw_skip <| cw_seq <| cw_seq <| cw_ops hA ?_
  clear hA
  refine oa rfl rfl <| ops_nil fun a hA => ?_
  obtain ⟨o1, hl1, hF⟩ := bindE hF
  refine cw_cut (J := fun a' w' => o1 = Out.brk (()) ∧ AEnv 27 [] a' ∧ St (cxAll w0) w' [] []) ?_ ?_
  ·refine cw_block ?_
   refine cw_loop (body := laws_eqSListS_l1 a_ b) (r := o1) (fun sg a' w' => AEnv 27 [(0, s1), (1, s2), (5, .int .i64 (sg))] a' ∧ St (cxAll w0) w' [] [fRd [s1] (a_ : List SList), fRd [s2] (b : List SList)]) ?_ hl1 ⟨hA.part ⟨rfl, rfl, rfl, trivial⟩, ((hS).sel [] rfl).selR [0, 1] rfl⟩
   clear hA hS hl1
   rintro x2 a w q1 ⟨hA, hS⟩ hG1 hr1
   try dsimp only at hA hS
   unfold laws_eqSListS_l1 at hG1
   refine cw_seq <| cw_seq <| cw_ops hA ?_
   clear hA
   refine om rfl rfl <| om rfl rfl <| oy (rv_lenS (hS.rd 0 rfl) Tryz.underlying39 rfl rfl) rfl <| oy (rv_lss rfl rfl rfl) rfl <| ops_nil fun a hA => cw_cond hA rfl (fun hc2 => ?_) (fun hc2 => ?_)
   ·replace hG1 := iteT hc2 hG1
    refine cw_skip <| cw_seq <| cw_block <| cw_seq ?_
    obtain ⟨x3, hx3, hG1⟩ := bindE hG1
    obtain ⟨s3, hS⟩ := hS.elF_SList 0 rfl (idx_some hx3).2.2
    obtain ⟨x4, hx4, hG1⟩ := bindE hG1
    obtain ⟨s4, hS⟩ := hS.elF_SList 1 rfl (idx_some hx4).2.2
    refine cw_any (Keeps (cxAll w0) [] [fRd [s1] (a_ : List SList), fRd [s2] (b : List SList), fAt (elB s1) (elO 1 (x2.toNat) s1) [s3], fRd [s3] (x3.Slots : List Int), fAt (elB s2) (elO 1 (x2.toNat) s2) [s4], fRd [s4] (x4.Slots : List Int)]) mixed_Tryz hA hS ?_
    clear hA hS; intro w hS
    have hK : Keeps (cxAll w0) [] [fRd [s1] (a_ : List SList), fRd [s2] (b : List SList), fAt (elB s1) (elO 1 (x2.toNat) s1) [s3], fRd [s3] (x3.Slots : List Int), fAt (elB s2) (elO 1 (x2.toNat) s2) [s4], fRd [s4] (x4.Slots : List Int)] w := ⟨_, (hS.sel [] rfl).selR [0, 1, 2, 3, 4, 5] rfl⟩
    refine ey 0 rfl (by kernel_rfl) hK (fun _ _ _ => (rv_move rfl rfl)) rfl ?_
    refine ey 1 rfl (by kernel_rfl) hK (fun _ _ _ => (rv_move rfl rfl)) rfl ?_
    refine ey 2 rfl (by kernel_rfl) hK (fun _ _ hS => (rv_idx (m := 1) (hS.rd 0 rfl) rfl hx3 Tryz.underlying39 Tryz.sizeOf120 rfl rfl rfl)) rfl ?_
    refine ey 3 rfl (by kernel_rfl) hK (fun _ _ hS => (rv_loadN rfl rfl Tryz.isAgg120 Tryz.sizeOf120 rfl (hS.fat 2 rfl))) rfl ?_
    refine ey 4 rfl (by kernel_rfl) hK (fun _ _ _ => (rv_move rfl rfl)) rfl ?_
    refine ey 5 rfl (by kernel_rfl) hK (fun _ _ _ => (rv_move rfl rfl)) rfl ?_
    refine ey 6 rfl (by kernel_rfl) hK (fun _ _ hS => (rv_idx (m := 1) (hS.rd 1 rfl) rfl hx4 Tryz.underlying39 Tryz.sizeOf120 rfl rfl rfl)) rfl ?_
    refine ey 7 rfl (by kernel_rfl) hK (fun _ _ hS => (rv_loadN rfl rfl Tryz.isAgg120 Tryz.sizeOf120 rfl (hS.fat 4 rfl))) rfl ?_
    refine any_1 (i := 8) (by kernel_rfl) ?_
    obtain ⟨x5, hx5, hG1⟩ := bindE hG1
    refine as_c rfl (rc_call Tryz.call148 rfl rfl) (want_yes rfl) rfl rfl (c_laws_eqSList (a_ := x3) (b := x4) (hS.rd 3 rfl) (hS.rd 5 rfl) hx5) ?_
    clear hK; rintro _ w ⟨rfl, hk⟩
    replace hS := hS.after hk; clear hk
    have hK := keepsI ((hS.sel [] rfl).selR [0, 1, 2, 3, 4, 5] rfl)
    refine ⟨hK, ?_⟩
    refine ey 9 rfl (by kernel_rfl) hK (fun _ _ _ => (rv_not rfl rfl)) rfl ?_
    refine any_done (by kernel_rfl) ?_
    intro a hA
    refine cw_cond hA rfl (fun hc3 => ?_) (fun hc3 => ?_)
    ·replace hG1 := iteT hc3 hG1
     refine cw_seq <| cw_ops hA ?_
     clear hA
     refine oa rfl rfl <| ops_nil fun a hA => cw_ret ?_
     cases hG1
     have ho := hr1 _ rfl; subst ho
     replace hF : some false = some r := hF
     cases hF
     exact fy Tryz.results122 hA rfl hS
    ·replace hG1 := iteF hc3 hG1
     refine cw_skip <| cw_ops hA ?_
     clear hA
     refine om rfl rfl <| oy (rv_add rfl rfl rfl) rfl <| oa rfl rfl <| ops_nil fun a hA => ?_
     cases hG1
     exact ⟨_, rfl, ⟨hA.part ⟨rfl, rfl, rfl, trivial⟩, ((hS).sel [] rfl).selR [0, 1] rfl⟩⟩
   ·replace hG1 := iteF hc2 hG1
    refine cw_exit <| xcons_hit ?_
    cases hG1
    have ho := hr1 _ rfl; subst ho
    exact ⟨rfl, hA.part trivial, ((hS).sel [] rfl).selR [] rfl⟩
  ·skip
   clear hA hS hl1
   rintro a w ⟨heq, hA, hS⟩
   replace hF : laws_eqSListS_j1 = some r := by rw [heq] at hF; exact hF
   clear heq
   unfold laws_eqSListS_j1 at hF
   refine cw_seq <| cw_ops hA ?_
   clear hA
   refine oa rfl rfl <| ops_nil fun a hA => cw_ret ?_
   cases hF
   exact fy Tryz.results122 hA rfl hS

theorem c_laws_eqLists {w0 : World} {a_ : Lists} {b : Lists} {s1 : Value} {s2 : Value} {s3 : Value} {s4 : Value} {r : Bool} (h1 : Rep.rd (All w0) w0 [s1] (a_.Global : List SList)) (h2 : Rep.rd (All w0) w0 [s2] (a_.Own : List SList)) (h3 : Rep.rd (All w0) w0 [s3] (b.Global : List SList)) (h4 : Rep.rd (All w0) w0 [s4] (b.Own : List SList)) (hF : laws_eqLists a_ b = some r) :
    Calls Tryz.prog 77 #[.agg #[s1, s2], .agg #[s3, s4]] w0 (Ret fun v w' => v = .bool (r) ∧ St (cxAll w0) w' [] []) := by
 have hS : St (cxAll w0) w0 [] [fRd [s1] (a_.Global : List SList), fRd [s2] (a_.Own : List SList), fRd [s3] (b.Global : List SList), fRd [s4] (b.Own : List SList)] := St.enter (by
   intro f hf
   simp only [List.mem_cons, List.not_mem_nil, or_false] at hf
   rcases hf with rfl | rfl | rfl | rfl
   · exact h1
   · exact h2
   · exact h3
   · exact h4)
 refine calls_cw (args := [_, _]) Tryz.func77 rfl Tryz.ntmps77 rfl ?_
 unfold laws_eqLists at hF
 intro a hA
 refine cw_seq <| cw_ops hA ?_
 clear hA
 refine ops_mv (rv_box (cs := [s1, s2]) hS rfl rfl rfl) (want_yes rfl) rfl rfl ?_
 clear hS
 rintro _ w ⟨b1, rfl, hS⟩
 refine ops_mv (rv_box (cs := [s3, s4]) hS rfl rfl rfl) (want_yes rfl) rfl rfl ?_
 clear hS
 rintro _ w ⟨b2, rfl, hS⟩
 refine oa rfl rfl <| ops_nil fun a hA => cw_seq <| cw_seq <| cw_ops hA ?_
 clear hA
 refine oy (rv_fld (m := 0) Tryz.underlying41 rfl rfl Tryz.sizeOf39 rfl rfl) rfl <| oy (rv_load1 rfl rfl Tryz.isAgg39 (hS.cell 0 rfl rfl)) rfl <| oy (rv_fld (m := 0) Tryz.underlying41 rfl rfl Tryz.sizeOf39 rfl rfl) rfl <| oy (rv_load1 rfl rfl Tryz.isAgg39 (hS.cell 1 rfl rfl)) rfl ?_
 obtain ⟨x1, hx1, hF⟩ := bindE hF
 refine ops_c (rc_call Tryz.call122 rfl rfl) (want_yes rfl) rfl rfl (c_laws_eqSListS (a_ := a_.Global) (b := b.Global) (hS.rd 0 rfl) (hS.rd 2 rfl) hx1) ?_
 rintro _ w ⟨rfl, hk⟩
 replace hS := hS.after hk; clear hk
 refine oy (rv_not rfl rfl) rfl <| ops_nil fun a hA => cw_cond hA rfl (fun hc1 => ?_) (fun hc1 => ?_)
 ·replace hF := iteT hc1 hF
  refine cw_seq <| cw_ops hA ?_
  clear hA
  refine oa rfl rfl <| ops_nil fun a hA => cw_ret ?_
  cases hF
  exact fy Tryz.results77 hA rfl hS
 ·replace hF := iteF hc1 hF
  refine cw_skip <| cw_seq <| cw_seq <| cw_ops hA ?_
  clear hA
  refine oy (rv_fld (m := 0) Tryz.underlying41 rfl rfl Tryz.sizeOf39 rfl rfl) rfl <| oy (rv_load1 rfl rfl Tryz.isAgg39 (hS.cell 0 rfl rfl)) rfl <| oy (rv_fld (m := 0) Tryz.underlying41 rfl rfl Tryz.sizeOf39 rfl rfl) rfl <| oy (rv_load1 rfl rfl Tryz.isAgg39 (hS.cell 1 rfl rfl)) rfl ?_
  obtain ⟨x2, hx2, hF⟩ := bindE hF
  refine ops_c (rc_call Tryz.call122 rfl rfl) (want_yes rfl) rfl rfl (c_laws_eqSListS (a_ := a_.Own) (b := b.Own) (hS.rd 1 rfl) (hS.rd 3 rfl) hx2) ?_
  rintro _ w ⟨rfl, hk⟩
  replace hS := hS.after hk; clear hk
  refine oy (rv_not rfl rfl) rfl <| ops_nil fun a hA => cw_cond hA rfl (fun hc2 => ?_) (fun hc2 => ?_)
  ·replace hF := iteT hc2 hF
   refine cw_seq <| cw_ops hA ?_
   clear hA
   refine oa rfl rfl <| ops_nil fun a hA => cw_ret ?_
   cases hF
   exact fy Tryz.results77 hA rfl hS
  ·replace hF := iteF hc2 hF
   refine cw_skip <| cw_seq <| cw_ops hA ?_
   clear hA
   refine oa rfl rfl <| ops_nil fun a hA => cw_ret ?_
   cases hF
   exact fy Tryz.results77 hA rfl hS

theorem c_laws_eqMem {w0 : World} {a_ : Mem} {b : Mem} {s1 : Value} {s2 : Value} {s3 : Value} {s4 : Value} {s5 : Value} {s6 : Value} {s7 : Value} {s8 : Value} {r : Bool} (h1 : Rep.rd (All w0) w0 [s1] (a_.Heap.Bytes : List Int)) (h2 : Rep.rd (All w0) w0 [s2] (a_.Heap.Class : List Int)) (h3 : Rep.rd (All w0) w0 [s3] (a_.Lists.Global : List SList)) (h4 : Rep.rd (All w0) w0 [s4] (a_.Lists.Own : List SList)) (h5 : Rep.rd (All w0) w0 [s5] (b.Heap.Bytes : List Int)) (h6 : Rep.rd (All w0) w0 [s6] (b.Heap.Class : List Int)) (h7 : Rep.rd (All w0) w0 [s7] (b.Lists.Global : List SList)) (h8 : Rep.rd (All w0) w0 [s8] (b.Lists.Own : List SList)) (hF : laws_eqMem a_ b = some r) :
    Calls Tryz.prog 30 #[.agg #[s1, s2, s3, s4], .agg #[s5, s6, s7, s8]] w0 (Ret fun v w' => v = .bool (r) ∧ St (cxAll w0) w' [] []) := by
 have hS : St (cxAll w0) w0 [] [fRd [s1] (a_.Heap.Bytes : List Int), fRd [s2] (a_.Heap.Class : List Int), fRd [s3] (a_.Lists.Global : List SList), fRd [s4] (a_.Lists.Own : List SList), fRd [s5] (b.Heap.Bytes : List Int), fRd [s6] (b.Heap.Class : List Int), fRd [s7] (b.Lists.Global : List SList), fRd [s8] (b.Lists.Own : List SList)] := St.enter (by
   intro f hf
   simp only [List.mem_cons, List.not_mem_nil, or_false] at hf
   rcases hf with rfl | rfl | rfl | rfl | rfl | rfl | rfl | rfl
   · exact h1
   · exact h2
   · exact h3
   · exact h4
   · exact h5
   · exact h6
   · exact h7
   · exact h8)
 refine calls_cw (args := [_, _]) Tryz.func30 rfl Tryz.ntmps30 rfl ?_
 unfold laws_eqMem at hF
 intro a hA
 refine cw_seq <| cw_ops hA ?_
 clear hA
 refine ops_mv (rv_box (cs := [s1, s2, s3, s4]) hS rfl rfl rfl) (want_yes rfl) rfl rfl ?_
 clear hS
 rintro _ w ⟨b1, rfl, hS⟩
 refine ops_mv (rv_box (cs := [s5, s6, s7, s8]) hS rfl rfl rfl) (want_yes rfl) rfl rfl ?_
 clear hS
 rintro _ w ⟨b2, rfl, hS⟩
 refine oa rfl rfl <| ops_nil fun a hA => cw_seq <| cw_seq <| cw_ops hA ?_
 clear hA
 refine oy (rv_fld (m := 1) Tryz.underlying43 rfl rfl Tryz.sizeOf38 rfl rfl) rfl <| oy (rv_loadN rfl rfl Tryz.isAgg38 Tryz.sizeOf38 rfl (hS.cells 0 0 (cs' := [s1, s2]) rfl rfl)) rfl <| oy (rv_fld (m := 1) Tryz.underlying43 rfl rfl Tryz.sizeOf38 rfl rfl) rfl <| oy (rv_loadN rfl rfl Tryz.isAgg38 Tryz.sizeOf38 rfl (hS.cells 1 0 (cs' := [s5, s6]) rfl rfl)) rfl ?_
 obtain ⟨x1, hx1, hF⟩ := bindE hF
 refine ops_c (rc_call Tryz.call76 rfl rfl) (want_yes rfl) rfl rfl (c_laws_eqHeap (a_ := a_.Heap) (b := b.Heap) (hS.rd 0 rfl) (hS.rd 1 rfl) (hS.rd 4 rfl) (hS.rd 5 rfl) hx1) ?_
 rintro _ w ⟨rfl, hk⟩
 replace hS := hS.after hk; clear hk
 refine oy (rv_not rfl rfl) rfl <| ops_nil fun a hA => cw_cond hA rfl (fun hc1 => ?_) (fun hc1 => ?_)
 ·replace hF := iteT hc1 hF
  refine cw_seq <| cw_ops hA ?_
  clear hA
  refine oa rfl rfl <| ops_nil fun a hA => cw_ret ?_
  cases hF
  exact fy Tryz.results30 hA rfl hS
 ·replace hF := iteF hc1 hF
  refine cw_skip <| cw_seq <| cw_seq <| cw_ops hA ?_
  clear hA
  refine oy (rv_fld (m := 1) Tryz.underlying43 rfl rfl Tryz.sizeOf41 rfl rfl) rfl <| oy (rv_loadN rfl rfl Tryz.isAgg41 Tryz.sizeOf41 rfl (hS.cells 0 2 (cs' := [s3, s4]) rfl rfl)) rfl <| oy (rv_fld (m := 1) Tryz.underlying43 rfl rfl Tryz.sizeOf41 rfl rfl) rfl <| oy (rv_loadN rfl rfl Tryz.isAgg41 Tryz.sizeOf41 rfl (hS.cells 1 2 (cs' := [s7, s8]) rfl rfl)) rfl ?_
  obtain ⟨x2, hx2, hF⟩ := bindE hF
  refine ops_c (rc_call Tryz.call77 rfl rfl) (want_yes rfl) rfl rfl (c_laws_eqLists (a_ := a_.Lists) (b := b.Lists) (hS.rd 2 rfl) (hS.rd 3 rfl) (hS.rd 6 rfl) (hS.rd 7 rfl) hx2) ?_
  rintro _ w ⟨rfl, hk⟩
  replace hS := hS.after hk; clear hk
  refine oy (rv_not rfl rfl) rfl <| ops_nil fun a hA => cw_cond hA rfl (fun hc2 => ?_) (fun hc2 => ?_)
  ·replace hF := iteT hc2 hF
   refine cw_seq <| cw_ops hA ?_
   clear hA
   refine oa rfl rfl <| ops_nil fun a hA => cw_ret ?_
   cases hF
   exact fy Tryz.results30 hA rfl hS
  ·replace hF := iteF hc2 hF
   refine cw_skip <| cw_seq <| cw_ops hA ?_
   clear hA
   refine oa rfl rfl <| ops_nil fun a hA => cw_ret ?_
   cases hF
   exact fy Tryz.results30 hA rfl hS

theorem c_laws_eqPin {w0 : World} {a_ : Pin} {b : Pin}  {r : Bool}  (hF : laws_eqPin a_ b = some r) :
    Calls Tryz.prog 123 #[.agg #[.bool (a_.On), .int .i64 (a_.Epoch), .bool (a_.Marked), .int .i64 (a_.Seen)], .agg #[.bool (b.On), .int .i64 (b.Epoch), .bool (b.Marked), .int .i64 (b.Seen)]] w0 (Ret fun v w' => v = .bool (r) ∧ St (cxAll w0) w' [] []) := by
 have hS : St (cxAll w0) w0 [] [] := St.enter (by
   intro f hf; cases hf)
 refine calls_cw (args := [_, _]) Tryz.func123 rfl Tryz.ntmps123 rfl ?_
 unfold laws_eqPin at hF
 intro a hA
 refine cw_seq <| cw_ops hA ?_
 clear hA
 refine ops_mv (rv_box (cs := [.bool (a_.On), .int .i64 (a_.Epoch), .bool (a_.Marked), .int .i64 (a_.Seen)]) hS rfl rfl rfl) (want_yes rfl) rfl rfl ?_
 clear hS
 rintro _ w ⟨b1, rfl, hS⟩
 refine ops_mv (rv_box (cs := [.bool (b.On), .int .i64 (b.Epoch), .bool (b.Marked), .int .i64 (b.Seen)]) hS rfl rfl rfl) (want_yes rfl) rfl rfl ?_
 clear hS
 rintro _ w ⟨b2, rfl, hS⟩
 refine oa rfl rfl <| ops_nil fun a hA => cw_seq <| cw_seq <| cw_ops hA ?_
 clear hA
 refine oy (rv_fld (m := 0) Tryz.underlying65 rfl rfl Tryz.sizeOf4 rfl rfl) rfl <| oy (rv_load1 rfl rfl Tryz.isAgg4 (hS.cell 0 rfl rfl)) rfl <| oy (rv_fld (m := 0) Tryz.underlying65 rfl rfl Tryz.sizeOf4 rfl rfl) rfl <| oy (rv_load1 rfl rfl Tryz.isAgg4 (hS.cell 1 rfl rfl)) rfl <| oy (rv_neqb Tryz.underlying4 rfl rfl rfl) rfl <| ops_nil fun a hA => cw_cond hA rfl (fun hc1 => ?_) (fun hc1 => ?_)
 ·replace hF := iteT hc1 hF
  refine cw_seq <| cw_ops hA ?_
  clear hA
  refine oa rfl rfl <| ops_nil fun a hA => cw_ret ?_
  cases hF
  exact fy Tryz.results123 hA rfl hS
 ·replace hF := iteF hc1 hF
  refine cw_skip <| cw_seq <| cw_seq <| cw_ops hA ?_
  clear hA
  refine oy (rv_fld (m := 0) Tryz.underlying65 rfl rfl Tryz.sizeOf3 rfl rfl) rfl <| oy (rv_load1 rfl rfl Tryz.isAgg3 (hS.cell 0 rfl rfl)) rfl <| oy (rv_fld (m := 0) Tryz.underlying65 rfl rfl Tryz.sizeOf3 rfl rfl) rfl <| oy (rv_load1 rfl rfl Tryz.isAgg3 (hS.cell 1 rfl rfl)) rfl <| oy (rv_neq rfl rfl rfl) rfl <| ops_nil fun a hA => cw_cond hA rfl (fun hc2 => ?_) (fun hc2 => ?_)
  ·replace hF := iteT hc2 hF
   refine cw_seq <| cw_ops hA ?_
   clear hA
   refine oa rfl rfl <| ops_nil fun a hA => cw_ret ?_
   cases hF
   exact fy Tryz.results123 hA rfl hS
  ·replace hF := iteF hc2 hF
   refine cw_skip <| cw_seq <| cw_seq <| cw_ops hA ?_
   clear hA
   refine oy (rv_fld (m := 0) Tryz.underlying65 rfl rfl Tryz.sizeOf4 rfl rfl) rfl <| oy (rv_load1 rfl rfl Tryz.isAgg4 (hS.cell 0 rfl rfl)) rfl <| oy (rv_fld (m := 0) Tryz.underlying65 rfl rfl Tryz.sizeOf4 rfl rfl) rfl <| oy (rv_load1 rfl rfl Tryz.isAgg4 (hS.cell 1 rfl rfl)) rfl <| oy (rv_neqb Tryz.underlying4 rfl rfl rfl) rfl <| ops_nil fun a hA => cw_cond hA rfl (fun hc3 => ?_) (fun hc3 => ?_)
   ·replace hF := iteT hc3 hF
    refine cw_seq <| cw_ops hA ?_
    clear hA
    refine oa rfl rfl <| ops_nil fun a hA => cw_ret ?_
    cases hF
    exact fy Tryz.results123 hA rfl hS
   ·replace hF := iteF hc3 hF
    refine cw_skip <| cw_seq <| cw_seq <| cw_ops hA ?_
    clear hA
    refine oy (rv_fld (m := 0) Tryz.underlying65 rfl rfl Tryz.sizeOf3 rfl rfl) rfl <| oy (rv_load1 rfl rfl Tryz.isAgg3 (hS.cell 0 rfl rfl)) rfl <| oy (rv_fld (m := 0) Tryz.underlying65 rfl rfl Tryz.sizeOf3 rfl rfl) rfl <| oy (rv_load1 rfl rfl Tryz.isAgg3 (hS.cell 1 rfl rfl)) rfl <| oy (rv_neq rfl rfl rfl) rfl <| ops_nil fun a hA => cw_cond hA rfl (fun hc4 => ?_) (fun hc4 => ?_)
    ·replace hF := iteT hc4 hF
     refine cw_seq <| cw_ops hA ?_
     clear hA
     refine oa rfl rfl <| ops_nil fun a hA => cw_ret ?_
     cases hF
     exact fy Tryz.results123 hA rfl hS
    ·replace hF := iteF hc4 hF
     refine cw_skip <| cw_seq <| cw_ops hA ?_
     clear hA
     refine oa rfl rfl <| ops_nil fun a hA => cw_ret ?_
     cases hF
     exact fy Tryz.results123 hA rfl hS

theorem c_laws_eqPinS {w0 : World} {a_ : List Pin} {b : List Pin} {s1 : Value} {s2 : Value} {r : Bool} (h1 : Rep.rd (All w0) w0 [s1] (a_ : List Pin)) (h2 : Rep.rd (All w0) w0 [s2] (b : List Pin)) (hF : laws_eqPinS a_ b = some r) :
    Calls Tryz.prog 78 #[s1, s2] w0 (Ret fun v w' => v = .bool (r) ∧ St (cxAll w0) w' [] []) := by
 have hS : St (cxAll w0) w0 [] [fRd [s1] (a_ : List Pin), fRd [s2] (b : List Pin)] := St.enter (by
   intro f hf
   simp only [List.mem_cons, List.not_mem_nil, or_false] at hf
   rcases hf with rfl | rfl
   · exact h1
   · exact h2)
 refine calls_cw (args := [_, _]) Tryz.func78 rfl Tryz.ntmps78 rfl ?_
 unfold laws_eqPinS at hF
 intro a hA
 refine cw_seq <| cw_ops hA ?_
 clear hA
 refine oa rfl rfl <| ops_nil fun a hA => cw_seq <| cw_seq <| cw_ops hA ?_
 clear hA
 refine om rfl rfl <| oy (rv_lenS (hS.rd 0 rfl) Tryz.underlying44 rfl rfl) rfl <| om rfl rfl <| oy (rv_lenS (hS.rd 1 rfl) Tryz.underlying44 rfl rfl) rfl <| oy (rv_neq rfl rfl rfl) rfl <| ops_nil fun a hA => cw_cond hA rfl (fun hc1 => ?_) (fun hc1 => ?_)
 ·replace hF := iteT hc1 hF
  refine cw_seq <| cw_ops hA ?_
  clear hA
  refine oa rfl rfl <| ops_nil fun a hA => cw_ret ?_
  cases hF
  exact fy Tryz.results78 hA rfl hS
 ·replace hF := iteF hc1 hF
  refine cw_skip <| cw_seq <| cw_seq <| cw_ops hA ?_
  clear hA
  refine oa rfl rfl <| ops_nil fun a hA => ?_
  obtain ⟨o1, hl1, hF⟩ := bindE hF
  refine cw_cut (J := fun a' w' => o1 = Out.brk (()) ∧ AEnv 27 [] a' ∧ St (cxAll w0) w' [] []) ?_ ?_
  ·refine cw_block ?_
   refine cw_loop (body := laws_eqPinS_l1 a_ b) (r := o1) (fun sg a' w' => AEnv 27 [(0, s1), (1, s2), (5, .int .i64 (sg))] a' ∧ St (cxAll w0) w' [] [fRd [s1] (a_ : List Pin), fRd [s2] (b : List Pin)]) ?_ hl1 ⟨hA.part ⟨rfl, rfl, rfl, trivial⟩, ((hS).sel [] rfl).selR [0, 1] rfl⟩
   clear hA hS hl1
   rintro x2 a w q1 ⟨hA, hS⟩ hG1 hr1
   try dsimp only at hA hS
   unfold laws_eqPinS_l1 at hG1
   refine cw_seq <| cw_seq <| cw_ops hA ?_
   clear hA
   refine om rfl rfl <| om rfl rfl <| oy (rv_lenS (hS.rd 0 rfl) Tryz.underlying44 rfl rfl) rfl <| oy (rv_lss rfl rfl rfl) rfl <| ops_nil fun a hA => cw_cond hA rfl (fun hc2 => ?_) (fun hc2 => ?_)
   ·replace hG1 := iteT hc2 hG1
    refine cw_skip <| cw_seq <| cw_block <| cw_seq <| cw_any (Keeps (cxAll w0) [] [fRd [s1] (a_ : List Pin), fRd [s2] (b : List Pin)]) mixed_Tryz hA hS ?_
    clear hA hS; intro w hS
    have hK : Keeps (cxAll w0) [] [fRd [s1] (a_ : List Pin), fRd [s2] (b : List Pin)] w := ⟨_, (hS.sel [] rfl).selR [0, 1] rfl⟩
    refine ey 0 rfl (by kernel_rfl) hK (fun _ _ _ => (rv_move rfl rfl)) rfl ?_
    refine ey 1 rfl (by kernel_rfl) hK (fun _ _ _ => (rv_move rfl rfl)) rfl ?_
    obtain ⟨x3, hx3, hG1⟩ := bindE hG1
    refine ey 2 rfl (by kernel_rfl) hK (fun _ _ hS => (rv_idx (m := 4) (hS.rd 0 rfl) rfl hx3 Tryz.underlying44 Tryz.sizeOf65 rfl rfl rfl)) rfl ?_
    refine ey 3 rfl (by kernel_rfl) hK (fun _ _ hS => (rv_loadN rfl rfl Tryz.isAgg65 Tryz.sizeOf65 rfl (el_Pin (hS.rd 0 rfl) (idx_some hx3).2.2))) rfl ?_
    refine ey 4 rfl (by kernel_rfl) hK (fun _ _ _ => (rv_move rfl rfl)) rfl ?_
    refine ey 5 rfl (by kernel_rfl) hK (fun _ _ _ => (rv_move rfl rfl)) rfl ?_
    obtain ⟨x4, hx4, hG1⟩ := bindE hG1
    refine ey 6 rfl (by kernel_rfl) hK (fun _ _ hS => (rv_idx (m := 4) (hS.rd 1 rfl) rfl hx4 Tryz.underlying44 Tryz.sizeOf65 rfl rfl rfl)) rfl ?_
    refine ey 7 rfl (by kernel_rfl) hK (fun _ _ hS => (rv_loadN rfl rfl Tryz.isAgg65 Tryz.sizeOf65 rfl (el_Pin (hS.rd 1 rfl) (idx_some hx4).2.2))) rfl ?_
    refine any_1 (i := 8) (by kernel_rfl) ?_
    obtain ⟨x5, hx5, hG1⟩ := bindE hG1
    refine as_c rfl (rc_call Tryz.call123 rfl rfl) (want_yes rfl) rfl rfl (c_laws_eqPin (a_ := x3) (b := x4)  hx5) ?_
    clear hK; rintro _ w ⟨rfl, hk⟩
    replace hS := hS.after hk; clear hk
    have hK := keepsI ((hS.sel [] rfl).selR [0, 1] rfl)
    refine ⟨hK, ?_⟩
    refine ey 9 rfl (by kernel_rfl) hK (fun _ _ _ => (rv_not rfl rfl)) rfl ?_
    refine any_done (by kernel_rfl) ?_
    intro a hA
    refine cw_cond hA rfl (fun hc3 => ?_) (fun hc3 => ?_)
    ·replace hG1 := iteT hc3 hG1
     refine cw_seq <| cw_ops hA ?_
     clear hA
     refine oa rfl rfl <| ops_nil fun a hA => cw_ret ?_
     cases hG1
     have ho := hr1 _ rfl; subst ho
     replace hF : some false = some r := hF
     cases hF
     exact fy Tryz.results78 hA rfl hS
    ·replace hG1 := iteF hc3 hG1
     refine cw_skip <| cw_ops hA ?_
     clear hA
     refine om rfl rfl <| oy (rv_add rfl rfl rfl) rfl <| oa rfl rfl <| ops_nil fun a hA => ?_
     cases hG1
     exact ⟨_, rfl, ⟨hA.part ⟨rfl, rfl, rfl, trivial⟩, ((hS).sel [] rfl).selR [0, 1] rfl⟩⟩
   ·replace hG1 := iteF hc2 hG1
    refine cw_exit <| xcons_hit ?_
    cases hG1
    have ho := hr1 _ rfl; subst ho
    exact ⟨rfl, hA.part trivial, ((hS).sel [] rfl).selR [] rfl⟩
  ·skip
   clear hA hS hl1
   rintro a w ⟨heq, hA, hS⟩
   replace hF : laws_eqPinS_j1 = some r := by rw [heq] at hF; exact hF
   clear heq
   unfold laws_eqPinS_j1 at hF
   refine cw_seq <| cw_ops hA ?_
   clear hA
   refine oa rfl rfl <| ops_nil fun a hA => cw_ret ?_
   cases hF
   exact fy Tryz.results78 hA rfl hS

theorem c_laws_eqClock {w0 : World} {a_ : Clock} {b : Clock} {s1 : Value} {s2 : Value} {r : Bool} (h1 : Rep.rd (All w0) w0 [s1] (a_.Pins : List Pin)) (h2 : Rep.rd (All w0) w0 [s2] (b.Pins : List Pin)) (hF : laws_eqClock a_ b = some r) :
    Calls Tryz.prog 31 #[.agg #[.int .i64 (a_.Epoch), s1], .agg #[.int .i64 (b.Epoch), s2]] w0 (Ret fun v w' => v = .bool (r) ∧ St (cxAll w0) w' [] []) := by
 have hS : St (cxAll w0) w0 [] [fRd [s1] (a_.Pins : List Pin), fRd [s2] (b.Pins : List Pin)] := St.enter (by
   intro f hf
   simp only [List.mem_cons, List.not_mem_nil, or_false] at hf
   rcases hf with rfl | rfl
   · exact h1
   · exact h2)
 refine calls_cw (args := [_, _]) Tryz.func31 rfl Tryz.ntmps31 rfl ?_
 unfold laws_eqClock at hF
 intro a hA
 refine cw_seq <| cw_ops hA ?_
 clear hA
 refine ops_mv (rv_box (cs := [.int .i64 (a_.Epoch), s1]) hS rfl rfl rfl) (want_yes rfl) rfl rfl ?_
 clear hS
 rintro _ w ⟨b1, rfl, hS⟩
 refine ops_mv (rv_box (cs := [.int .i64 (b.Epoch), s2]) hS rfl rfl rfl) (want_yes rfl) rfl rfl ?_
 clear hS
 rintro _ w ⟨b2, rfl, hS⟩
 refine oa rfl rfl <| ops_nil fun a hA => cw_seq <| cw_seq <| cw_ops hA ?_
 clear hA
 refine oy (rv_fld (m := 0) Tryz.underlying46 rfl rfl Tryz.sizeOf3 rfl rfl) rfl <| oy (rv_load1 rfl rfl Tryz.isAgg3 (hS.cell 0 rfl rfl)) rfl <| oy (rv_fld (m := 0) Tryz.underlying46 rfl rfl Tryz.sizeOf3 rfl rfl) rfl <| oy (rv_load1 rfl rfl Tryz.isAgg3 (hS.cell 1 rfl rfl)) rfl <| oy (rv_neq rfl rfl rfl) rfl <| ops_nil fun a hA => cw_cond hA rfl (fun hc1 => ?_) (fun hc1 => ?_)
 ·replace hF := iteT hc1 hF
  refine cw_seq <| cw_ops hA ?_
  clear hA
  refine oa rfl rfl <| ops_nil fun a hA => cw_ret ?_
  cases hF
  exact fy Tryz.results31 hA rfl hS
 ·replace hF := iteF hc1 hF
  refine cw_skip <| cw_seq <| cw_seq <| cw_ops hA ?_
  clear hA
  refine oy (rv_fld (m := 0) Tryz.underlying46 rfl rfl Tryz.sizeOf44 rfl rfl) rfl <| oy (rv_load1 rfl rfl Tryz.isAgg44 (hS.cell 0 rfl rfl)) rfl <| oy (rv_fld (m := 0) Tryz.underlying46 rfl rfl Tryz.sizeOf44 rfl rfl) rfl <| oy (rv_load1 rfl rfl Tryz.isAgg44 (hS.cell 1 rfl rfl)) rfl ?_
  obtain ⟨x1, hx1, hF⟩ := bindE hF
  refine ops_c (rc_call Tryz.call78 rfl rfl) (want_yes rfl) rfl rfl (c_laws_eqPinS (a_ := a_.Pins) (b := b.Pins) (hS.rd 0 rfl) (hS.rd 1 rfl) hx1) ?_
  rintro _ w ⟨rfl, hk⟩
  replace hS := hS.after hk; clear hk
  refine oy (rv_not rfl rfl) rfl <| ops_nil fun a hA => cw_cond hA rfl (fun hc2 => ?_) (fun hc2 => ?_)
  ·replace hF := iteT hc2 hF
   refine cw_seq <| cw_ops hA ?_
   clear hA
   refine oa rfl rfl <| ops_nil fun a hA => cw_ret ?_
   cases hF
   exact fy Tryz.results31 hA rfl hS
  ·replace hF := iteF hc2 hF
   refine cw_skip <| cw_seq <| cw_ops hA ?_
   clear hA
   refine oa rfl rfl <| ops_nil fun a hA => cw_ret ?_
   cases hF
   exact fy Tryz.results31 hA rfl hS

theorem c_laws_eqLRow {w0 : World} {a_ : LRow} {b : LRow}  {r : Bool}  (hF : laws_eqLRow a_ b = some r) :
    Calls Tryz.prog 149 #[.agg #[.int .i64 (a_.Handle), .int .i64 (a_.Epoch)], .agg #[.int .i64 (b.Handle), .int .i64 (b.Epoch)]] w0 (Ret fun v w' => v = .bool (r) ∧ St (cxAll w0) w' [] []) := by
 have hS : St (cxAll w0) w0 [] [] := St.enter (by
   intro f hf; cases hf)
 refine calls_cw (args := [_, _]) Tryz.func149 rfl Tryz.ntmps149 rfl ?_
 unfold laws_eqLRow at hF
 intro a hA
 refine cw_seq <| cw_ops hA ?_
 clear hA
 refine ops_mv (rv_box (cs := [.int .i64 (a_.Handle), .int .i64 (a_.Epoch)]) hS rfl rfl rfl) (want_yes rfl) rfl rfl ?_
 clear hS
 rintro _ w ⟨b1, rfl, hS⟩
 refine ops_mv (rv_box (cs := [.int .i64 (b.Handle), .int .i64 (b.Epoch)]) hS rfl rfl rfl) (want_yes rfl) rfl rfl ?_
 clear hS
 rintro _ w ⟨b2, rfl, hS⟩
 refine oa rfl rfl <| ops_nil fun a hA => cw_seq <| cw_seq <| cw_ops hA ?_
 clear hA
 refine oy (rv_fld (m := 0) Tryz.underlying71 rfl rfl Tryz.sizeOf3 rfl rfl) rfl <| oy (rv_load1 rfl rfl Tryz.isAgg3 (hS.cell 0 rfl rfl)) rfl <| oy (rv_fld (m := 0) Tryz.underlying71 rfl rfl Tryz.sizeOf3 rfl rfl) rfl <| oy (rv_load1 rfl rfl Tryz.isAgg3 (hS.cell 1 rfl rfl)) rfl <| oy (rv_neq rfl rfl rfl) rfl <| ops_nil fun a hA => cw_cond hA rfl (fun hc1 => ?_) (fun hc1 => ?_)
 ·replace hF := iteT hc1 hF
  refine cw_seq <| cw_ops hA ?_
  clear hA
  refine oa rfl rfl <| ops_nil fun a hA => cw_ret ?_
  cases hF
  exact fy Tryz.results149 hA rfl hS
 ·replace hF := iteF hc1 hF
  refine cw_skip <| cw_seq <| cw_seq <| cw_ops hA ?_
  clear hA
  refine oy (rv_fld (m := 0) Tryz.underlying71 rfl rfl Tryz.sizeOf3 rfl rfl) rfl <| oy (rv_load1 rfl rfl Tryz.isAgg3 (hS.cell 0 rfl rfl)) rfl <| oy (rv_fld (m := 0) Tryz.underlying71 rfl rfl Tryz.sizeOf3 rfl rfl) rfl <| oy (rv_load1 rfl rfl Tryz.isAgg3 (hS.cell 1 rfl rfl)) rfl <| oy (rv_neq rfl rfl rfl) rfl <| ops_nil fun a hA => cw_cond hA rfl (fun hc2 => ?_) (fun hc2 => ?_)
  ·replace hF := iteT hc2 hF
   refine cw_seq <| cw_ops hA ?_
   clear hA
   refine oa rfl rfl <| ops_nil fun a hA => cw_ret ?_
   cases hF
   exact fy Tryz.results149 hA rfl hS
  ·replace hF := iteF hc2 hF
   refine cw_skip <| cw_seq <| cw_ops hA ?_
   clear hA
   refine oa rfl rfl <| ops_nil fun a hA => cw_ret ?_
   cases hF
   exact fy Tryz.results149 hA rfl hS

theorem c_laws_eqLRowS {w0 : World} {a_ : List LRow} {b : List LRow} {s1 : Value} {s2 : Value} {r : Bool} (h1 : Rep.rd (All w0) w0 [s1] (a_ : List LRow)) (h2 : Rep.rd (All w0) w0 [s2] (b : List LRow)) (hF : laws_eqLRowS a_ b = some r) :
    Calls Tryz.prog 124 #[s1, s2] w0 (Ret fun v w' => v = .bool (r) ∧ St (cxAll w0) w' [] []) := by
 have hS : St (cxAll w0) w0 [] [fRd [s1] (a_ : List LRow), fRd [s2] (b : List LRow)] := St.enter (by
   intro f hf
   simp only [List.mem_cons, List.not_mem_nil, or_false] at hf
   rcases hf with rfl | rfl
   · exact h1
   · exact h2)
 refine calls_cw (args := [_, _]) Tryz.func124 rfl Tryz.ntmps124 rfl ?_
 unfold laws_eqLRowS at hF
 intro a hA
 refine cw_seq <| cw_ops hA ?_
 clear hA
 refine oa rfl rfl <| ops_nil fun a hA => cw_seq <| cw_seq <| cw_ops hA ?_
 clear hA
 refine om rfl rfl <| oy (rv_lenS (hS.rd 0 rfl) Tryz.underlying67 rfl rfl) rfl <| om rfl rfl <| oy (rv_lenS (hS.rd 1 rfl) Tryz.underlying67 rfl rfl) rfl <| oy (rv_neq rfl rfl rfl) rfl <| ops_nil fun a hA => cw_cond hA rfl (fun hc1 => ?_) (fun hc1 => ?_)
 ·replace hF := iteT hc1 hF
  refine cw_seq <| cw_ops hA ?_
  clear hA
  refine oa rfl rfl <| ops_nil fun a hA => cw_ret ?_
  cases hF
  exact fy Tryz.results124 hA rfl hS
 ·replace hF := iteF hc1 hF
  refine cw_skip <| cw_seq <| cw_seq <| cw_ops hA ?_
  clear hA
  refine oa rfl rfl <| ops_nil fun a hA => ?_
  obtain ⟨o1, hl1, hF⟩ := bindE hF
  refine cw_cut (J := fun a' w' => o1 = Out.brk (()) ∧ AEnv 27 [] a' ∧ St (cxAll w0) w' [] []) ?_ ?_
  ·refine cw_block ?_
   refine cw_loop (body := laws_eqLRowS_l1 a_ b) (r := o1) (fun sg a' w' => AEnv 27 [(0, s1), (1, s2), (5, .int .i64 (sg))] a' ∧ St (cxAll w0) w' [] [fRd [s1] (a_ : List LRow), fRd [s2] (b : List LRow)]) ?_ hl1 ⟨hA.part ⟨rfl, rfl, rfl, trivial⟩, ((hS).sel [] rfl).selR [0, 1] rfl⟩
   clear hA hS hl1
   rintro x2 a w q1 ⟨hA, hS⟩ hG1 hr1
   try dsimp only at hA hS
   unfold laws_eqLRowS_l1 at hG1
   refine cw_seq <| cw_seq <| cw_ops hA ?_
   clear hA
   refine om rfl rfl <| om rfl rfl <| oy (rv_lenS (hS.rd 0 rfl) Tryz.underlying67 rfl rfl) rfl <| oy (rv_lss rfl rfl rfl) rfl <| ops_nil fun a hA => cw_cond hA rfl (fun hc2 => ?_) (fun hc2 => ?_)
   ·replace hG1 := iteT hc2 hG1
    refine cw_skip <| cw_seq <| cw_block <| cw_seq <| cw_any (Keeps (cxAll w0) [] [fRd [s1] (a_ : List LRow), fRd [s2] (b : List LRow)]) mixed_Tryz hA hS ?_
    clear hA hS; intro w hS
    have hK : Keeps (cxAll w0) [] [fRd [s1] (a_ : List LRow), fRd [s2] (b : List LRow)] w := ⟨_, (hS.sel [] rfl).selR [0, 1] rfl⟩
    refine ey 0 rfl (by kernel_rfl) hK (fun _ _ _ => (rv_move rfl rfl)) rfl ?_
    refine ey 1 rfl (by kernel_rfl) hK (fun _ _ _ => (rv_move rfl rfl)) rfl ?_
    obtain ⟨x3, hx3, hG1⟩ := bindE hG1
    refine ey 2 rfl (by kernel_rfl) hK (fun _ _ hS => (rv_idx (m := 2) (hS.rd 0 rfl) rfl hx3 Tryz.underlying67 Tryz.sizeOf71 rfl rfl rfl)) rfl ?_
    refine ey 3 rfl (by kernel_rfl) hK (fun _ _ hS => (rv_loadN rfl rfl Tryz.isAgg71 Tryz.sizeOf71 rfl (el_LRow (hS.rd 0 rfl) (idx_some hx3).2.2))) rfl ?_
    refine ey 4 rfl (by kernel_rfl) hK (fun _ _ _ => (rv_move rfl rfl)) rfl ?_
    refine ey 5 rfl (by kernel_rfl) hK (fun _ _ _ => (rv_move rfl rfl)) rfl ?_
    obtain ⟨x4, hx4, hG1⟩ := bindE hG1
    refine ey 6 rfl (by kernel_rfl) hK (fun _ _ hS => (rv_idx (m := 2) (hS.rd 1 rfl) rfl hx4 Tryz.underlying67 Tryz.sizeOf71 rfl rfl rfl)) rfl ?_
    refine ey 7 rfl (by kernel_rfl) hK (fun _ _ hS => (rv_loadN rfl rfl Tryz.isAgg71 Tryz.sizeOf71 rfl (el_LRow (hS.rd 1 rfl) (idx_some hx4).2.2))) rfl ?_
    refine any_1 (i := 8) (by kernel_rfl) ?_
    obtain ⟨x5, hx5, hG1⟩ := bindE hG1
    refine as_c rfl (rc_call Tryz.call149 rfl rfl) (want_yes rfl) rfl rfl (c_laws_eqLRow (a_ := x3) (b := x4)  hx5) ?_
    clear hK; rintro _ w ⟨rfl, hk⟩
    replace hS := hS.after hk; clear hk
    have hK := keepsI ((hS.sel [] rfl).selR [0, 1] rfl)
    refine ⟨hK, ?_⟩
    refine ey 9 rfl (by kernel_rfl) hK (fun _ _ _ => (rv_not rfl rfl)) rfl ?_
    refine any_done (by kernel_rfl) ?_
    intro a hA
    refine cw_cond hA rfl (fun hc3 => ?_) (fun hc3 => ?_)
    ·replace hG1 := iteT hc3 hG1
     refine cw_seq <| cw_ops hA ?_
     clear hA
     refine oa rfl rfl <| ops_nil fun a hA => cw_ret ?_
     cases hG1
     have ho := hr1 _ rfl; subst ho
     replace hF : some false = some r := hF
     cases hF
     exact fy Tryz.results124 hA rfl hS
    ·replace hG1 := iteF hc3 hG1
     refine cw_skip <| cw_ops hA ?_
     clear hA
     refine om rfl rfl <| oy (rv_add rfl rfl rfl) rfl <| oa rfl rfl <| ops_nil fun a hA => ?_
     cases hG1
     exact ⟨_, rfl, ⟨hA.part ⟨rfl, rfl, rfl, trivial⟩, ((hS).sel [] rfl).selR [0, 1] rfl⟩⟩
   ·replace hG1 := iteF hc2 hG1
    refine cw_exit <| xcons_hit ?_
    cases hG1
    have ho := hr1 _ rfl; subst ho
    exact ⟨rfl, hA.part trivial, ((hS).sel [] rfl).selR [] rfl⟩
  ·skip
   clear hA hS hl1
   rintro a w ⟨heq, hA, hS⟩
   replace hF : laws_eqLRowS_j1 = some r := by rw [heq] at hF; exact hF
   clear heq
   unfold laws_eqLRowS_j1 at hF
   refine cw_seq <| cw_ops hA ?_
   clear hA
   refine oa rfl rfl <| ops_nil fun a hA => cw_ret ?_
   cases hF
   exact fy Tryz.results124 hA rfl hS

theorem c_laws_eqLList {w0 : World} {a_ : LList} {b : LList} {s1 : Value} {s2 : Value} {r : Bool} (h1 : Rep.rd (All w0) w0 [s1] (a_.Rows : List LRow)) (h2 : Rep.rd (All w0) w0 [s2] (b.Rows : List LRow)) (hF : laws_eqLList a_ b = some r) :
    Calls Tryz.prog 79 #[.agg #[s1], .agg #[s2]] w0 (Ret fun v w' => v = .bool (r) ∧ St (cxAll w0) w' [] []) := by
 have hS : St (cxAll w0) w0 [] [fRd [s1] (a_.Rows : List LRow), fRd [s2] (b.Rows : List LRow)] := St.enter (by
   intro f hf
   simp only [List.mem_cons, List.not_mem_nil, or_false] at hf
   rcases hf with rfl | rfl
   · exact h1
   · exact h2)
 refine calls_cw (args := [_, _]) Tryz.func79 rfl Tryz.ntmps79 rfl ?_
 unfold laws_eqLList at hF
 intro a hA
 refine cw_seq <| cw_ops hA ?_
 clear hA
 refine ops_mv (rv_box (cs := [s1]) hS rfl rfl rfl) (want_yes rfl) rfl rfl ?_
 clear hS
 rintro _ w ⟨b1, rfl, hS⟩
 refine ops_mv (rv_box (cs := [s2]) hS rfl rfl rfl) (want_yes rfl) rfl rfl ?_
 clear hS
 rintro _ w ⟨b2, rfl, hS⟩
 refine oa rfl rfl <| ops_nil fun a hA => cw_seq <| cw_seq <| cw_ops hA ?_
 clear hA
 refine oy (rv_fld (m := 0) Tryz.underlying69 rfl rfl Tryz.sizeOf67 rfl rfl) rfl <| oy (rv_load1 rfl rfl Tryz.isAgg67 (hS.cell 0 rfl rfl)) rfl <| oy (rv_fld (m := 0) Tryz.underlying69 rfl rfl Tryz.sizeOf67 rfl rfl) rfl <| oy (rv_load1 rfl rfl Tryz.isAgg67 (hS.cell 1 rfl rfl)) rfl ?_
 obtain ⟨x1, hx1, hF⟩ := bindE hF
 refine ops_c (rc_call Tryz.call124 rfl rfl) (want_yes rfl) rfl rfl (c_laws_eqLRowS (a_ := a_.Rows) (b := b.Rows) (hS.rd 0 rfl) (hS.rd 1 rfl) hx1) ?_
 rintro _ w ⟨rfl, hk⟩
 replace hS := hS.after hk; clear hk
 refine oy (rv_not rfl rfl) rfl <| ops_nil fun a hA => cw_cond hA rfl (fun hc1 => ?_) (fun hc1 => ?_)
 ·replace hF := iteT hc1 hF
  refine cw_seq <| cw_ops hA ?_
  clear hA
  refine oa rfl rfl <| ops_nil fun a hA => cw_ret ?_
  cases hF
  exact fy Tryz.results79 hA rfl hS
 ·replace hF := iteF hc1 hF
  refine cw_skip <| cw_seq <| cw_ops hA ?_
  clear hA
  refine oa rfl rfl <| ops_nil fun a hA => cw_ret ?_
  cases hF
  exact fy Tryz.results79 hA rfl hS

theorem c_laws_eqLListS {w0 : World} {a_ : List LList} {b : List LList} {s1 : Value} {s2 : Value} {r : Bool} (h1 : Rep.rd (All w0) w0 [s1] (a_ : List LList)) (h2 : Rep.rd (All w0) w0 [s2] (b : List LList)) (hF : laws_eqLListS a_ b = some r) :
    Calls Tryz.prog 32 #[s1, s2] w0 (Ret fun v w' => v = .bool (r) ∧ St (cxAll w0) w' [] []) := by
 have hS : St (cxAll w0) w0 [] [fRd [s1] (a_ : List LList), fRd [s2] (b : List LList)] := St.enter (by
   intro f hf
   simp only [List.mem_cons, List.not_mem_nil, or_false] at hf
   rcases hf with rfl | rfl
   · exact h1
   · exact h2)
 refine calls_cw (args := [_, _]) Tryz.func32 rfl Tryz.ntmps32 rfl ?_
 unfold laws_eqLListS at hF
 intro a hA
 refine cw_seq <| cw_ops hA ?_
 clear hA
 refine oa rfl rfl <| ops_nil fun a hA => cw_seq <| cw_seq <| cw_ops hA ?_
 clear hA
 refine om rfl rfl <| oy (rv_lenS (hS.rd 0 rfl) Tryz.underlying47 rfl rfl) rfl <| om rfl rfl <| oy (rv_lenS (hS.rd 1 rfl) Tryz.underlying47 rfl rfl) rfl <| oy (rv_neq rfl rfl rfl) rfl <| ops_nil fun a hA => cw_cond hA rfl (fun hc1 => ?_) (fun hc1 => ?_)
 ·replace hF := iteT hc1 hF
  refine cw_seq <| cw_ops hA ?_
  clear hA
  refine oa rfl rfl <| ops_nil fun a hA => cw_ret ?_
  cases hF
  exact fy Tryz.results32 hA rfl hS
 ·replace hF := iteF hc1 hF
  refine cw_skip <| cw_seq <| cw_seq <| cw_ops hA ?_
  clear hA
  refine oa rfl rfl <| ops_nil fun a hA => ?_
  obtain ⟨o1, hl1, hF⟩ := bindE hF
  refine cw_cut (J := fun a' w' => o1 = Out.brk (()) ∧ AEnv 27 [] a' ∧ St (cxAll w0) w' [] []) ?_ ?_
  ·refine cw_block ?_
   refine cw_loop (body := laws_eqLListS_l1 a_ b) (r := o1) (fun sg a' w' => AEnv 27 [(0, s1), (1, s2), (5, .int .i64 (sg))] a' ∧ St (cxAll w0) w' [] [fRd [s1] (a_ : List LList), fRd [s2] (b : List LList)]) ?_ hl1 ⟨hA.part ⟨rfl, rfl, rfl, trivial⟩, ((hS).sel [] rfl).selR [0, 1] rfl⟩
   clear hA hS hl1
   rintro x2 a w q1 ⟨hA, hS⟩ hG1 hr1
   try dsimp only at hA hS
   unfold laws_eqLListS_l1 at hG1
   refine cw_seq <| cw_seq <| cw_ops hA ?_
   clear hA
   refine om rfl rfl <| om rfl rfl <| oy (rv_lenS (hS.rd 0 rfl) Tryz.underlying47 rfl rfl) rfl <| oy (rv_lss rfl rfl rfl) rfl <| ops_nil fun a hA => cw_cond hA rfl (fun hc2 => ?_) (fun hc2 => ?_)
   ·replace hG1 := iteT hc2 hG1
    refine cw_skip <| cw_seq <| cw_block <| cw_seq ?_
    obtain ⟨x3, hx3, hG1⟩ := bindE hG1
    obtain ⟨s3, hS⟩ := hS.elF_LList 0 rfl (idx_some hx3).2.2
    obtain ⟨x4, hx4, hG1⟩ := bindE hG1
    obtain ⟨s4, hS⟩ := hS.elF_LList 1 rfl (idx_some hx4).2.2
    refine cw_any (Keeps (cxAll w0) [] [fRd [s1] (a_ : List LList), fRd [s2] (b : List LList), fAt (elB s1) (elO 1 (x2.toNat) s1) [s3], fRd [s3] (x3.Rows : List LRow), fAt (elB s2) (elO 1 (x2.toNat) s2) [s4], fRd [s4] (x4.Rows : List LRow)]) mixed_Tryz hA hS ?_
    clear hA hS; intro w hS
    have hK : Keeps (cxAll w0) [] [fRd [s1] (a_ : List LList), fRd [s2] (b : List LList), fAt (elB s1) (elO 1 (x2.toNat) s1) [s3], fRd [s3] (x3.Rows : List LRow), fAt (elB s2) (elO 1 (x2.toNat) s2) [s4], fRd [s4] (x4.Rows : List LRow)] w := ⟨_, (hS.sel [] rfl).selR [0, 1, 2, 3, 4, 5] rfl⟩
    refine ey 0 rfl (by kernel_rfl) hK (fun _ _ _ => (rv_move rfl rfl)) rfl ?_
    refine ey 1 rfl (by kernel_rfl) hK (fun _ _ _ => (rv_move rfl rfl)) rfl ?_
    refine ey 2 rfl (by kernel_rfl) hK (fun _ _ hS => (rv_idx (m := 1) (hS.rd 0 rfl) rfl hx3 Tryz.underlying47 Tryz.sizeOf69 rfl rfl rfl)) rfl ?_
    refine ey 3 rfl (by kernel_rfl) hK (fun _ _ hS => (rv_loadN rfl rfl Tryz.isAgg69 Tryz.sizeOf69 rfl (hS.fat 2 rfl))) rfl ?_
    refine ey 4 rfl (by kernel_rfl) hK (fun _ _ _ => (rv_move rfl rfl)) rfl ?_
    refine ey 5 rfl (by kernel_rfl) hK (fun _ _ _ => (rv_move rfl rfl)) rfl ?_
    refine ey 6 rfl (by kernel_rfl) hK (fun _ _ hS => (rv_idx (m := 1) (hS.rd 1 rfl) rfl hx4 Tryz.underlying47 Tryz.sizeOf69 rfl rfl rfl)) rfl ?_
    refine ey 7 rfl (by kernel_rfl) hK (fun _ _ hS => (rv_loadN rfl rfl Tryz.isAgg69 Tryz.sizeOf69 rfl (hS.fat 4 rfl))) rfl ?_
    refine any_1 (i := 8) (by kernel_rfl) ?_
    obtain ⟨x5, hx5, hG1⟩ := bindE hG1
    refine as_c rfl (rc_call Tryz.call79 rfl rfl) (want_yes rfl) rfl rfl (c_laws_eqLList (a_ := x3) (b := x4) (hS.rd 3 rfl) (hS.rd 5 rfl) hx5) ?_
    clear hK; rintro _ w ⟨rfl, hk⟩
    replace hS := hS.after hk; clear hk
    have hK := keepsI ((hS.sel [] rfl).selR [0, 1, 2, 3, 4, 5] rfl)
    refine ⟨hK, ?_⟩
    refine ey 9 rfl (by kernel_rfl) hK (fun _ _ _ => (rv_not rfl rfl)) rfl ?_
    refine any_done (by kernel_rfl) ?_
    intro a hA
    refine cw_cond hA rfl (fun hc3 => ?_) (fun hc3 => ?_)
    ·replace hG1 := iteT hc3 hG1
     refine cw_seq <| cw_ops hA ?_
     clear hA
     refine oa rfl rfl <| ops_nil fun a hA => cw_ret ?_
     cases hG1
     have ho := hr1 _ rfl; subst ho
     replace hF : some false = some r := hF
     cases hF
     exact fy Tryz.results32 hA rfl hS
    ·replace hG1 := iteF hc3 hG1
     refine cw_skip <| cw_ops hA ?_
     clear hA
     refine om rfl rfl <| oy (rv_add rfl rfl rfl) rfl <| oa rfl rfl <| ops_nil fun a hA => ?_
     cases hG1
     exact ⟨_, rfl, ⟨hA.part ⟨rfl, rfl, rfl, trivial⟩, ((hS).sel [] rfl).selR [0, 1] rfl⟩⟩
   ·replace hG1 := iteF hc2 hG1
    refine cw_exit <| xcons_hit ?_
    cases hG1
    have ho := hr1 _ rfl; subst ho
    exact ⟨rfl, hA.part trivial, ((hS).sel [] rfl).selR [] rfl⟩
  ·skip
   clear hA hS hl1
   rintro a w ⟨heq, hA, hS⟩
   replace hF : laws_eqLListS_j1 = some r := by rw [heq] at hF; exact hF
   clear heq
   unfold laws_eqLListS_j1 at hF
   refine cw_seq <| cw_ops hA ?_
   clear hA
   refine oa rfl rfl <| ops_nil fun a hA => cw_ret ?_
   cases hF
   exact fy Tryz.results32 hA rfl hS

theorem c_laws_eqBase {w0 : World} {a_ : Base} {b : Base} {s1 : Value} {s2 : Value} {s3 : Value} {s4 : Value} {s5 : Value} {s6 : Value} {s7 : Value} {s8 : Value} {s9 : Value} {s10 : Value} {s11 : Value} {s12 : Value} {s13 : Value} {s14 : Value} {r : Bool} (h1 : Rep.rd (All w0) w0 [s1] (a_.Mem.Heap.Bytes : List Int)) (h2 : Rep.rd (All w0) w0 [s2] (a_.Mem.Heap.Class : List Int)) (h3 : Rep.rd (All w0) w0 [s3] (a_.Mem.Lists.Global : List SList)) (h4 : Rep.rd (All w0) w0 [s4] (a_.Mem.Lists.Own : List SList)) (h5 : Rep.rd (All w0) w0 [s5] (a_.Clock.Pins : List Pin)) (h6 : Rep.rd (All w0) w0 [s6] (a_.Limbo : List LList)) (h7 : Rep.rd (All w0) w0 [s7] (a_.Haz : List Int)) (h8 : Rep.rd (All w0) w0 [s8] (b.Mem.Heap.Bytes : List Int)) (h9 : Rep.rd (All w0) w0 [s9] (b.Mem.Heap.Class : List Int)) (h10 : Rep.rd (All w0) w0 [s10] (b.Mem.Lists.Global : List SList)) (h11 : Rep.rd (All w0) w0 [s11] (b.Mem.Lists.Own : List SList)) (h12 : Rep.rd (All w0) w0 [s12] (b.Clock.Pins : List Pin)) (h13 : Rep.rd (All w0) w0 [s13] (b.Limbo : List LList)) (h14 : Rep.rd (All w0) w0 [s14] (b.Haz : List Int)) (hF : laws_eqBase a_ b = some r) :
    Calls Tryz.prog 9 #[.agg #[s1, s2, s3, s4, .int .i64 (a_.Clock.Epoch), s5, s6, s7], .agg #[s8, s9, s10, s11, .int .i64 (b.Clock.Epoch), s12, s13, s14]] w0 (Ret fun v w' => v = .bool (r) ∧ St (cxAll w0) w' [] []) := by
 have hS : St (cxAll w0) w0 [] [fRd [s1] (a_.Mem.Heap.Bytes : List Int), fRd [s2] (a_.Mem.Heap.Class : List Int), fRd [s3] (a_.Mem.Lists.Global : List SList), fRd [s4] (a_.Mem.Lists.Own : List SList), fRd [s5] (a_.Clock.Pins : List Pin), fRd [s6] (a_.Limbo : List LList), fRd [s7] (a_.Haz : List Int), fRd [s8] (b.Mem.Heap.Bytes : List Int), fRd [s9] (b.Mem.Heap.Class : List Int), fRd [s10] (b.Mem.Lists.Global : List SList), fRd [s11] (b.Mem.Lists.Own : List SList), fRd [s12] (b.Clock.Pins : List Pin), fRd [s13] (b.Limbo : List LList), fRd [s14] (b.Haz : List Int)] := St.enter (by
   intro f hf
   simp only [List.mem_cons, List.not_mem_nil, or_false] at hf
   rcases hf with rfl | rfl | rfl | rfl | rfl | rfl | rfl | rfl | rfl | rfl | rfl | rfl | rfl | rfl
   · exact h1
   · exact h2
   · exact h3
   · exact h4
   · exact h5
   · exact h6
   · exact h7
   · exact h8
   · exact h9
   · exact h10
   · exact h11
   · exact h12
   · exact h13
   · exact h14)
 refine calls_cw (args := [_, _]) Tryz.func9 rfl Tryz.ntmps9 rfl ?_
 unfold laws_eqBase at hF
 intro a hA
 refine cw_seq <| cw_ops hA ?_
 clear hA
 refine ops_mv (rv_box (cs := [s1, s2, s3, s4, .int .i64 (a_.Clock.Epoch), s5, s6, s7]) hS rfl rfl rfl) (want_yes rfl) rfl rfl ?_
 clear hS
 rintro _ w ⟨b1, rfl, hS⟩
 refine ops_mv (rv_box (cs := [s8, s9, s10, s11, .int .i64 (b.Clock.Epoch), s12, s13, s14]) hS rfl rfl rfl) (want_yes rfl) rfl rfl ?_
 clear hS
 rintro _ w ⟨b2, rfl, hS⟩
 refine oa rfl rfl <| ops_nil fun a hA => cw_seq <| cw_seq <| cw_ops hA ?_
 clear hA
 refine oy (rv_fld (m := 3) Tryz.underlying49 rfl rfl Tryz.sizeOf43 rfl rfl) rfl <| oy (rv_loadN rfl rfl Tryz.isAgg43 Tryz.sizeOf43 rfl (hS.cells 0 0 (cs' := [s1, s2, s3, s4]) rfl rfl)) rfl <| oy (rv_fld (m := 3) Tryz.underlying49 rfl rfl Tryz.sizeOf43 rfl rfl) rfl <| oy (rv_loadN rfl rfl Tryz.isAgg43 Tryz.sizeOf43 rfl (hS.cells 1 0 (cs' := [s8, s9, s10, s11]) rfl rfl)) rfl ?_
 obtain ⟨x1, hx1, hF⟩ := bindE hF
 refine ops_c (rc_call Tryz.call30 rfl rfl) (want_yes rfl) rfl rfl (c_laws_eqMem (a_ := a_.Mem) (b := b.Mem) (hS.rd 0 rfl) (hS.rd 1 rfl) (hS.rd 2 rfl) (hS.rd 3 rfl) (hS.rd 7 rfl) (hS.rd 8 rfl) (hS.rd 9 rfl) (hS.rd 10 rfl) hx1) ?_
 rintro _ w ⟨rfl, hk⟩
 replace hS := hS.after hk; clear hk
 refine oy (rv_not rfl rfl) rfl <| ops_nil fun a hA => cw_cond hA rfl (fun hc1 => ?_) (fun hc1 => ?_)
 ·replace hF := iteT hc1 hF
  refine cw_seq <| cw_ops hA ?_
  clear hA
  refine oa rfl rfl <| ops_nil fun a hA => cw_ret ?_
  cases hF
  exact fy Tryz.results9 hA rfl hS
 ·replace hF := iteF hc1 hF
  refine cw_skip <| cw_seq <| cw_seq <| cw_ops hA ?_
  clear hA
  refine oy (rv_fld (m := 1) Tryz.underlying49 rfl rfl Tryz.sizeOf46 rfl rfl) rfl <| oy (rv_loadN rfl rfl Tryz.isAgg46 Tryz.sizeOf46 rfl (hS.cells 0 4 (cs' := [.int .i64 (a_.Clock.Epoch), s5]) rfl rfl)) rfl <| oy (rv_fld (m := 1) Tryz.underlying49 rfl rfl Tryz.sizeOf46 rfl rfl) rfl <| oy (rv_loadN rfl rfl Tryz.isAgg46 Tryz.sizeOf46 rfl (hS.cells 1 4 (cs' := [.int .i64 (b.Clock.Epoch), s12]) rfl rfl)) rfl ?_
  obtain ⟨x2, hx2, hF⟩ := bindE hF
  refine ops_c (rc_call Tryz.call31 rfl rfl) (want_yes rfl) rfl rfl (c_laws_eqClock (a_ := a_.Clock) (b := b.Clock) (hS.rd 4 rfl) (hS.rd 11 rfl) hx2) ?_
  rintro _ w ⟨rfl, hk⟩
  replace hS := hS.after hk; clear hk
  refine oy (rv_not rfl rfl) rfl <| ops_nil fun a hA => cw_cond hA rfl (fun hc2 => ?_) (fun hc2 => ?_)
  ·replace hF := iteT hc2 hF
   refine cw_seq <| cw_ops hA ?_
   clear hA
   refine oa rfl rfl <| ops_nil fun a hA => cw_ret ?_
   cases hF
   exact fy Tryz.results9 hA rfl hS
  ·replace hF := iteF hc2 hF
   refine cw_skip <| cw_seq <| cw_seq <| cw_ops hA ?_
   clear hA
   refine oy (rv_fld (m := 0) Tryz.underlying49 rfl rfl Tryz.sizeOf47 rfl rfl) rfl <| oy (rv_load1 rfl rfl Tryz.isAgg47 (hS.cell 0 rfl rfl)) rfl <| oy (rv_fld (m := 0) Tryz.underlying49 rfl rfl Tryz.sizeOf47 rfl rfl) rfl <| oy (rv_load1 rfl rfl Tryz.isAgg47 (hS.cell 1 rfl rfl)) rfl ?_
   obtain ⟨x3, hx3, hF⟩ := bindE hF
   refine ops_c (rc_call Tryz.call32 rfl rfl) (want_yes rfl) rfl rfl (c_laws_eqLListS (a_ := a_.Limbo) (b := b.Limbo) (hS.rd 5 rfl) (hS.rd 12 rfl) hx3) ?_
   rintro _ w ⟨rfl, hk⟩
   replace hS := hS.after hk; clear hk
   refine oy (rv_not rfl rfl) rfl <| ops_nil fun a hA => cw_cond hA rfl (fun hc3 => ?_) (fun hc3 => ?_)
   ·replace hF := iteT hc3 hF
    refine cw_seq <| cw_ops hA ?_
    clear hA
    refine oa rfl rfl <| ops_nil fun a hA => cw_ret ?_
    cases hF
    exact fy Tryz.results9 hA rfl hS
   ·replace hF := iteF hc3 hF
    refine cw_skip <| cw_seq <| cw_seq <| cw_ops hA ?_
    clear hA
    refine oy (rv_fld (m := 0) Tryz.underlying49 rfl rfl Tryz.sizeOf22 rfl rfl) rfl <| oy (rv_load1 rfl rfl Tryz.isAgg22 (hS.cell 0 rfl rfl)) rfl <| oy (rv_fld (m := 0) Tryz.underlying49 rfl rfl Tryz.sizeOf22 rfl rfl) rfl <| oy (rv_load1 rfl rfl Tryz.isAgg22 (hS.cell 1 rfl rfl)) rfl ?_
    obtain ⟨x4, hx4, hF⟩ := bindE hF
    refine ops_c (rc_call Tryz.call33 rfl rfl) (want_yes rfl) rfl rfl (c_laws_eqIntS (a_ := a_.Haz) (b := b.Haz) (hS.rd 6 rfl) (hS.rd 13 rfl) hx4) ?_
    rintro _ w ⟨rfl, hk⟩
    replace hS := hS.after hk; clear hk
    refine oy (rv_not rfl rfl) rfl <| ops_nil fun a hA => cw_cond hA rfl (fun hc4 => ?_) (fun hc4 => ?_)
    ·replace hF := iteT hc4 hF
     refine cw_seq <| cw_ops hA ?_
     clear hA
     refine oa rfl rfl <| ops_nil fun a hA => cw_ret ?_
     cases hF
     exact fy Tryz.results9 hA rfl hS
    ·replace hF := iteF hc4 hF
     refine cw_skip <| cw_seq <| cw_ops hA ?_
     clear hA
     refine oa rfl rfl <| ops_nil fun a hA => cw_ret ?_
     cases hF
     exact fy Tryz.results9 hA rfl hS

theorem c_laws_markIntS {c : Ctx} {w0 : World} {a_ : List Int} {k : Int} {s1 : Value} {r : Int × (List Int)} (hS : St c w0 [cOwn [s1] (a_ : List Int)] []) (hF : laws_markIntS a_ k = some r) :
    Calls Tryz.prog 44 #[s1, .int .i64 (k)] w0 (Ret fun v w' => v = .int .i64 (r.1) ∧ St (c) w' [cOwn [s1] (r.2 : List Int)] []) := by
 refine calls_cw (args := [_, _]) Tryz.func44 rfl Tryz.ntmps44 rfl ?_
 unfold laws_markIntS at hF
 intro a hA
 refine cw_seq <| cw_ops hA ?_
 clear hA
 refine oa rfl rfl <| ops_nil fun a hA => cw_seq <| cw_seq <| cw_ops hA ?_
 clear hA
 refine oa rfl rfl <| ops_nil fun a hA => ?_
 obtain ⟨o1, hl1, hF⟩ := bindE hF
 refine cw_cut (J := fun a' w' => ∃ (x7 : List Int) (x8 : Int), o1 = (x7, x8) ∧ AEnv 19 [(0, s1), (1, .int .i64 (x8))] a' ∧ St (c) w' [cOwn [s1] (x7 : List Int)] []) ?_ ?_
 ·refine cw_block ?_
  refine cw_loop (body := laws_markIntS_l1) (r := o1) (fun sg a' w' => AEnv 19 [(0, s1), (1, .int .i64 (sg.2.1)), (5, .int .i64 (sg.2.2))] a' ∧ St (c) w' [cOwn [s1] (sg.1 : List Int)] []) ?_ hl1 ⟨hA.part ⟨rfl, rfl, rfl, trivial⟩, ((hS).sel [0] rfl).selR [] rfl⟩
  clear hA hS hl1
  rintro ⟨x4, x5, x6⟩ a w q1 ⟨hA, hS⟩ hG1 hr1
  try dsimp only at hA hS
  unfold laws_markIntS_l1 at hG1
  refine cw_seq <| cw_seq <| cw_ops hA ?_
  clear hA
  refine om rfl rfl <| om rfl rfl <| oy (rv_lenS (hS.rdOwn 0 rfl) Tryz.underlying22 rfl rfl) rfl <| oy (rv_lss rfl rfl rfl) rfl <| ops_nil fun a hA => cw_cond hA rfl (fun hc1 => ?_) (fun hc1 => ?_)
  ·replace hG1 := iteT hc1 hG1
   refine cw_skip <| cw_seq <| cw_block <| cw_seq <| cw_ops hA ?_
   clear hA
   refine om rfl rfl <| om rfl rfl <| om rfl rfl ?_
   obtain ⟨x9, hx9, hG1⟩ := bindE hG1
   refine oy (rv_idx (m := 1) (hS.rdOwn 0 rfl) rfl hx9 Tryz.underlying22 Tryz.sizeOf3 rfl rfl rfl) rfl <| ops_ms (rs_elem (vs := [.int .i64 (x5)]) (f := 0) (xd := x5) hS (i := 0) rfl hx9 rfl (el_Int (hS.rdOwn 0 rfl) (idx_some hx9).2.2) rfl rfl Tryz.sizeOf3 rfl rfl rfl rfl rfl rfl rfl) (want_yes rfl) rfl ?_
   clear hS
   intro w hS
   refine ops_nil fun a hA => cw_ops hA ?_
   clear hA
   refine om rfl rfl <| oy (rv_add rfl rfl rfl) rfl <| oa rfl rfl <| ops_nil fun a hA => cw_ops hA ?_
   clear hA
   refine om rfl rfl <| oy (rv_add rfl rfl rfl) rfl <| oa rfl rfl <| ops_nil fun a hA => ?_
   cases hG1
   exact ⟨_, rfl, ⟨hA.part ⟨rfl, rfl, rfl, trivial⟩, ((hS).sel [0] rfl).selR [] rfl⟩⟩
  ·replace hG1 := iteF hc1 hG1
   refine cw_exit <| xcons_hit ?_
   cases hG1
   have ho := hr1 _ rfl; subst ho
   exact ⟨x4, x5, rfl, hA.part ⟨rfl, rfl, trivial⟩, ((hS).sel [0] rfl).selR [] rfl⟩
 ·skip
  clear hA hS hl1
  rintro a w ⟨x7, x8, heq, hA, hS⟩
  replace hF : laws_markIntS_j1 x7 x8 = some r := by rw [heq] at hF; exact hF
  clear heq
  unfold laws_markIntS_j1 at hF
  refine cw_seq <| cw_ops hA ?_
  clear hA
  refine om rfl rfl <| oa rfl rfl <| ops_nil fun a hA => cw_ret ?_
  cases hF
  exact fin1 Tryz.results44 hA (res_tmp rfl) ⟨rfl, (hS.sel [0] rfl).weaken (R' := []) (fun _ h => nomatch h)⟩

theorem c_laws_markHeap {c : Ctx} {w0 : World} {a_ : Heap} {k : Int} {s1 : Value} {s2 : Value} {r : Int × (List Int) × (List Int)} (hS : St c w0 [cOwn [s1] (a_.Bytes : List Int), cOwn [s2] (a_.Class : List Int)] []) (hF : laws_markHeap a_ k = some r) :
    Calls Tryz.prog 85 #[.agg #[s1, s2], .int .i64 (k)] w0 (Ret fun v w' => v = .int .i64 (r.1) ∧ St (c) w' [cOwn [s1] (r.2.1 : List Int), cOwn [s2] (r.2.2 : List Int)] []) := by
 refine calls_cw (args := [_, _]) Tryz.func85 rfl Tryz.ntmps85 rfl ?_
 unfold laws_markHeap at hF
 intro a hA
 refine cw_seq <| cw_ops hA ?_
 clear hA
 refine ops_mv (rv_box (cs := [s1, s2]) hS rfl rfl rfl) (want_yes rfl) rfl rfl ?_
 clear hS
 rintro _ w ⟨b1, rfl, hS⟩
 refine oa rfl rfl <| ops_nil fun a hA => cw_seq <| cw_ops hA ?_
 clear hA
 refine oy (rv_fld (m := 0) Tryz.underlying38 rfl rfl Tryz.sizeOf22 rfl rfl) rfl <| oy (rv_load1 rfl rfl Tryz.isAgg22 (hS.cell 2 rfl rfl)) rfl <| om rfl rfl ?_
 obtain ⟨c1, hg, hb⟩ := hS.give [0] rfl rfl
 obtain ⟨x1, hx1, hF⟩ := bindE hF
 refine ops_c (rc_call Tryz.call44 rfl rfl) (want_yes rfl) rfl rfl (c_laws_markIntS (c := c1) (a_ := a_.Bytes) (s1 := s1) (k := k) (hg _ all_nil) hx1) ?_
 rintro _ w ⟨rfl, hk⟩
 replace hS := hb _ _ _ hk; clear hk hg hb
 refine oa rfl rfl <| ops_nil fun a hA => cw_seq <| cw_ops hA ?_
 clear hA
 refine oy (rv_fld (m := 0) Tryz.underlying38 rfl rfl Tryz.sizeOf22 rfl rfl) rfl <| oy (rv_load1 rfl rfl Tryz.isAgg22 (hS.cell 2 rfl rfl)) rfl <| om rfl rfl ?_
 obtain ⟨c2, hg, hb⟩ := hS.give [1] rfl rfl
 obtain ⟨x2, hx2, hF⟩ := bindE hF
 refine ops_c (rc_call Tryz.call44 rfl rfl) (want_yes rfl) rfl rfl (c_laws_markIntS (c := c2) (a_ := a_.Class) (s1 := s2) (k := x1.1) (hg _ all_nil) hx2) ?_
 rintro _ w ⟨rfl, hk⟩
 replace hS := hb _ _ _ hk; clear hk hg hb
 refine oa rfl rfl <| ops_nil fun a hA => cw_seq <| cw_ops hA ?_
 clear hA
 refine om rfl rfl <| oa rfl rfl <| ops_nil fun a hA => cw_ret ?_
 cases hF
 exact fin1 Tryz.results85 hA (res_tmp rfl) ⟨rfl, (hS.sel [3, 4] rfl).weaken (R' := []) (fun _ h => nomatch h)⟩

theorem c_laws_markSListS {c : Ctx} {w0 : World} {a_ : List SList} {k : Int} {s1 : Value} {r : Int × (List SList)} (hS : St c w0 [cOwn [s1] (a_ : List SList)] []) (hF : laws_markSListS a_ k = some r) :
    Calls Tryz.prog 125 #[s1, .int .i64 (k)] w0 (Ret fun v w' => v = .int .i64 (r.1) ∧ St (c) w' [cOwn [s1] (r.2 : List SList)] []) := by
 refine calls_cw (args := [_, _]) Tryz.func125 rfl Tryz.ntmps125 rfl ?_
 unfold laws_markSListS at hF
 intro a hA
 refine cw_seq <| cw_ops hA ?_
 clear hA
 refine oa rfl rfl <| ops_nil fun a hA => cw_seq <| cw_seq <| cw_ops hA ?_
 clear hA
 refine oa rfl rfl <| ops_nil fun a hA => ?_
 obtain ⟨o1, hl1, hF⟩ := bindE hF
 refine cw_cut (J := fun a' w' => ∃ (x7 : List SList) (x8 : Int), o1 = (x7, x8) ∧ AEnv 20 [(0, s1), (1, .int .i64 (x8))] a' ∧ St (c) w' [cOwn [s1] (x7 : List SList)] []) ?_ ?_
 ·refine cw_block ?_
  refine cw_loop (body := laws_markSListS_l1) (r := o1) (fun sg a' w' => AEnv 20 [(0, s1), (1, .int .i64 (sg.2.1)), (5, .int .i64 (sg.2.2))] a' ∧ St (c) w' [cOwn [s1] (sg.1 : List SList)] []) ?_ hl1 ⟨hA.part ⟨rfl, rfl, rfl, trivial⟩, ((hS).sel [0] rfl).selR [] rfl⟩
  clear hA hS hl1
  rintro ⟨x4, x5, x6⟩ a w q1 ⟨hA, hS⟩ hG1 hr1
  try dsimp only at hA hS
  unfold laws_markSListS_l1 at hG1
  refine cw_seq <| cw_seq <| cw_ops hA ?_
  clear hA
  refine om rfl rfl <| om rfl rfl <| oy (rv_lenS (hS.rdOwn 0 rfl) Tryz.underlying39 rfl rfl) rfl <| oy (rv_lss rfl rfl rfl) rfl <| ops_nil fun a hA => cw_cond hA rfl (fun hc1 => ?_) (fun hc1 => ?_)
  ·replace hG1 := iteT hc1 hG1
   refine cw_skip <| cw_seq <| cw_block <| cw_ops hA ?_
   clear hA
   refine om rfl rfl <| om rfl rfl ?_
   obtain ⟨x9, hx9, hG1⟩ := bindE hG1
   refine oy (rv_idx (m := 1) (hS.rdOwn 0 rfl) rfl hx9 Tryz.underlying39 Tryz.sizeOf120 rfl rfl rfl) rfl <| oy (rv_fld (m := 0) Tryz.underlying120 rfl rfl Tryz.sizeOf22 rfl rfl) rfl ?_
   obtain ⟨ec, hS⟩ := hS.open 0 rfl (idx_some hx9).2.2
   obtain ⟨s2, he, _⟩ := rd_SList (hS.rdOwn 3 rfl)
   subst he
   replace hS := hS.unpack 3 rfl (op_SList x9)
   refine oy (rv_load1 rfl rfl Tryz.isAgg22 (hS.acell (q := elO 1 (x6.toNat) s1) (j := 0) 2 rfl rfl)) rfl <| om rfl rfl ?_
   obtain ⟨c1, hg, hb⟩ := hS.give [4] rfl rfl
   obtain ⟨x10, hx10, hG1⟩ := bindE hG1
   refine ops_c (rc_call Tryz.call44 rfl rfl) (want_yes rfl) rfl rfl (c_laws_markIntS (c := c1) (a_ := x9.Slots) (s1 := s2) (k := x5) (hg _ all_nil) hx10) ?_
   rintro _ w ⟨rfl, hk⟩
   replace hS := hb _ _ _ hk; clear hk hg hb
   refine oa rfl rfl <| ops_nil fun a hA => cw_ops hA ?_
   clear hA
   refine om rfl rfl <| oy (rv_add rfl rfl rfl) rfl <| oa rfl rfl <| ops_nil fun a hA => ?_
   replace hS := hS.pack [5] rfl rfl (op_SList ((⟨x10.2⟩ : SList)))
   replace hS := hS.close [1, 2, 6] rfl rfl
   cases hG1
   exact ⟨_, rfl, ⟨hA.part ⟨rfl, rfl, rfl, trivial⟩, ((hS).sel [7] rfl).selR [] rfl⟩⟩
  ·replace hG1 := iteF hc1 hG1
   refine cw_exit <| xcons_hit ?_
   cases hG1
   have ho := hr1 _ rfl; subst ho
   exact ⟨x4, x5, rfl, hA.part ⟨rfl, rfl, trivial⟩, ((hS).sel [0] rfl).selR [] rfl⟩
 ·skip
  clear hA hS hl1
  rintro a w ⟨x7, x8, heq, hA, hS⟩
  replace hF : laws_markSListS_j1 x7 x8 = some r := by rw [heq] at hF; exact hF
  clear heq
  unfold laws_markSListS_j1 at hF
  refine cw_seq <| cw_ops hA ?_
  clear hA
  refine om rfl rfl <| oa rfl rfl <| ops_nil fun a hA => cw_ret ?_
  cases hF
  exact fin1 Tryz.results125 hA (res_tmp rfl) ⟨rfl, (hS.sel [0] rfl).weaken (R' := []) (fun _ h => nomatch h)⟩

theorem c_laws_markLists {c : Ctx} {w0 : World} {a_ : Lists} {k : Int} {s1 : Value} {s2 : Value} {r : Int × (List SList) × (List SList)} (hS : St c w0 [cOwn [s1] (a_.Global : List SList), cOwn [s2] (a_.Own : List SList)] []) (hF : laws_markLists a_ k = some r) :
    Calls Tryz.prog 86 #[.agg #[s1, s2], .int .i64 (k)] w0 (Ret fun v w' => v = .int .i64 (r.1) ∧ St (c) w' [cOwn [s1] (r.2.1 : List SList), cOwn [s2] (r.2.2 : List SList)] []) := by
 refine calls_cw (args := [_, _]) Tryz.func86 rfl Tryz.ntmps86 rfl ?_
 unfold laws_markLists at hF
 intro a hA
 refine cw_seq <| cw_ops hA ?_
 clear hA
 refine ops_mv (rv_box (cs := [s1, s2]) hS rfl rfl rfl) (want_yes rfl) rfl rfl ?_
 clear hS
 rintro _ w ⟨b1, rfl, hS⟩
 refine oa rfl rfl <| ops_nil fun a hA => cw_seq <| cw_ops hA ?_
 clear hA
 refine oy (rv_fld (m := 0) Tryz.underlying41 rfl rfl Tryz.sizeOf39 rfl rfl) rfl <| oy (rv_load1 rfl rfl Tryz.isAgg39 (hS.cell 2 rfl rfl)) rfl <| om rfl rfl ?_
 obtain ⟨c1, hg, hb⟩ := hS.give [0] rfl rfl
 obtain ⟨x1, hx1, hF⟩ := bindE hF
 refine ops_c (rc_call Tryz.call125 rfl rfl) (want_yes rfl) rfl rfl (c_laws_markSListS (c := c1) (a_ := a_.Global) (s1 := s1) (k := k) (hg _ all_nil) hx1) ?_
 rintro _ w ⟨rfl, hk⟩
 replace hS := hb _ _ _ hk; clear hk hg hb
 refine oa rfl rfl <| ops_nil fun a hA => cw_seq <| cw_ops hA ?_
 clear hA
 refine oy (rv_fld (m := 0) Tryz.underlying41 rfl rfl Tryz.sizeOf39 rfl rfl) rfl <| oy (rv_load1 rfl rfl Tryz.isAgg39 (hS.cell 2 rfl rfl)) rfl <| om rfl rfl ?_
 obtain ⟨c2, hg, hb⟩ := hS.give [1] rfl rfl
 obtain ⟨x2, hx2, hF⟩ := bindE hF
 refine ops_c (rc_call Tryz.call125 rfl rfl) (want_yes rfl) rfl rfl (c_laws_markSListS (c := c2) (a_ := a_.Own) (s1 := s2) (k := x1.1) (hg _ all_nil) hx2) ?_
 rintro _ w ⟨rfl, hk⟩
 replace hS := hb _ _ _ hk; clear hk hg hb
 refine oa rfl rfl <| ops_nil fun a hA => cw_seq <| cw_ops hA ?_
 clear hA
 refine om rfl rfl <| oa rfl rfl <| ops_nil fun a hA => cw_ret ?_
 cases hF
 exact fin1 Tryz.results86 hA (res_tmp rfl) ⟨rfl, (hS.sel [3, 4] rfl).weaken (R' := []) (fun _ h => nomatch h)⟩

theorem c_laws_markMem {c : Ctx} {w0 : World} {a_ : Mem} {k : Int} {s1 : Value} {s2 : Value} {s3 : Value} {s4 : Value} {r : Int × (List Int) × (List Int) × (List SList) × (List SList)} (hS : St c w0 [cOwn [s1] (a_.Heap.Bytes : List Int), cOwn [s2] (a_.Heap.Class : List Int), cOwn [s3] (a_.Lists.Global : List SList), cOwn [s4] (a_.Lists.Own : List SList)] []) (hF : laws_markMem a_ k = some r) :
    Calls Tryz.prog 41 #[.agg #[s1, s2, s3, s4], .int .i64 (k)] w0 (Ret fun v w' => v = .int .i64 (r.1) ∧ St (c) w' [cOwn [s1] (r.2.1 : List Int), cOwn [s2] (r.2.2.1 : List Int), cOwn [s3] (r.2.2.2.1 : List SList), cOwn [s4] (r.2.2.2.2 : List SList)] []) := by
 refine calls_cw (args := [_, _]) Tryz.func41 rfl Tryz.ntmps41 rfl ?_
 unfold laws_markMem at hF
 intro a hA
 refine cw_seq <| cw_ops hA ?_
 clear hA
 refine ops_mv (rv_box (cs := [s1, s2, s3, s4]) hS rfl rfl rfl) (want_yes rfl) rfl rfl ?_
 clear hS
 rintro _ w ⟨b1, rfl, hS⟩
 refine oa rfl rfl <| ops_nil fun a hA => cw_seq <| cw_ops hA ?_
 clear hA
 refine oy (rv_fld (m := 1) Tryz.underlying43 rfl rfl Tryz.sizeOf38 rfl rfl) rfl <| oy (rv_loadN rfl rfl Tryz.isAgg38 Tryz.sizeOf38 rfl (hS.cells 4 0 (cs' := [s1, s2]) rfl rfl)) rfl <| om rfl rfl ?_
 obtain ⟨c1, hg, hb⟩ := hS.give [0, 1] rfl rfl
 obtain ⟨x1, hx1, hF⟩ := bindE hF
 refine ops_c (rc_call Tryz.call85 rfl rfl) (want_yes rfl) rfl rfl (c_laws_markHeap (c := c1) (a_ := a_.Heap) (s1 := s1) (s2 := s2) (k := k) (hg _ all_nil) hx1) ?_
 rintro _ w ⟨rfl, hk⟩
 replace hS := hb _ _ _ hk; clear hk hg hb
 refine oa rfl rfl <| ops_nil fun a hA => cw_seq <| cw_ops hA ?_
 clear hA
 refine oy (rv_fld (m := 1) Tryz.underlying43 rfl rfl Tryz.sizeOf41 rfl rfl) rfl <| oy (rv_loadN rfl rfl Tryz.isAgg41 Tryz.sizeOf41 rfl (hS.cells 4 2 (cs' := [s3, s4]) rfl rfl)) rfl <| om rfl rfl ?_
 obtain ⟨c2, hg, hb⟩ := hS.give [2, 3] rfl rfl
 obtain ⟨x2, hx2, hF⟩ := bindE hF
 refine ops_c (rc_call Tryz.call86 rfl rfl) (want_yes rfl) rfl rfl (c_laws_markLists (c := c2) (a_ := a_.Lists) (s1 := s3) (s2 := s4) (k := x1.1) (hg _ all_nil) hx2) ?_
 rintro _ w ⟨rfl, hk⟩
 replace hS := hb _ _ _ hk; clear hk hg hb
 refine oa rfl rfl <| ops_nil fun a hA => cw_seq <| cw_ops hA ?_
 clear hA
 refine om rfl rfl <| oa rfl rfl <| ops_nil fun a hA => cw_ret ?_
 cases hF
 exact fin1 Tryz.results41 hA (res_tmp rfl) ⟨rfl, (hS.sel [5, 6, 7, 8] rfl).weaken (R' := []) (fun _ h => nomatch h)⟩

theorem c_laws_markPinS {c : Ctx} {w0 : World} {a_ : List Pin} {k : Int} {s1 : Value} {r : Int × (List Pin)} (hS : St c w0 [cOwn [s1] (a_ : List Pin)] []) (hF : laws_markPinS a_ k = some r) :
    Calls Tryz.prog 87 #[s1, .int .i64 (k)] w0 (Ret fun v w' => v = .int .i64 (r.1) ∧ St (c) w' [cOwn [s1] (r.2 : List Pin)] []) := by
 refine calls_cw (args := [_, _]) Tryz.func87 rfl Tryz.ntmps87 rfl ?_
 unfold laws_markPinS at hF
 intro a hA
 refine cw_seq <| cw_ops hA ?_
 clear hA
 refine oa rfl rfl <| ops_nil fun a hA => cw_seq <| cw_seq <| cw_ops hA ?_
 clear hA
 refine oa rfl rfl <| ops_nil fun a hA => ?_
 obtain ⟨o1, hl1, hF⟩ := bindE hF
 refine cw_cut (J := fun a' w' => ∃ (x7 : List Pin) (x8 : Int), o1 = (x7, x8) ∧ AEnv 45 [(0, s1), (1, .int .i64 (x8))] a' ∧ St (c) w' [cOwn [s1] (x7 : List Pin)] []) ?_ ?_
 ·refine cw_block ?_
  refine cw_loop (body := laws_markPinS_l1) (r := o1) (fun sg a' w' => AEnv 45 [(0, s1), (1, .int .i64 (sg.2.1)), (5, .int .i64 (sg.2.2))] a' ∧ St (c) w' [cOwn [s1] (sg.1 : List Pin)] []) ?_ hl1 ⟨hA.part ⟨rfl, rfl, rfl, trivial⟩, ((hS).sel [0] rfl).selR [] rfl⟩
  clear hA hS hl1
  rintro ⟨x4, x5, x6⟩ a w q1 ⟨hA, hS⟩ hG1 hr1
  try dsimp only at hA hS
  unfold laws_markPinS_l1 at hG1
  refine cw_seq <| cw_seq <| cw_ops hA ?_
  clear hA
  refine om rfl rfl <| om rfl rfl <| oy (rv_lenS (hS.rdOwn 0 rfl) Tryz.underlying44 rfl rfl) rfl <| oy (rv_lss rfl rfl rfl) rfl <| ops_nil fun a hA => cw_cond hA rfl (fun hc1 => ?_) (fun hc1 => ?_)
  ·replace hG1 := iteT hc1 hG1
   refine cw_skip <| cw_seq <| cw_block <| cw_seq <| cw_ops hA ?_
   clear hA
   refine om rfl rfl <| om rfl rfl <| om rfl rfl <| oy (rv_rem rfl rfl rfl (by decide)) rfl <| oy (rv_eql rfl rfl rfl) rfl ?_
   obtain ⟨x9, hx9, hG1⟩ := bindE hG1
   refine oy (rv_idx (m := 4) (hS.rdOwn 0 rfl) rfl hx9 Tryz.underlying44 Tryz.sizeOf65 rfl rfl rfl) rfl <| oy (rv_fld (m := 0) Tryz.underlying65 rfl rfl Tryz.sizeOf4 rfl rfl) rfl <| ops_ms (rs_elem (vs := [.bool ((Int.tmod x5 3) == 0)]) (f := 0) (xd := (⟨(Int.tmod x5 3) == 0, x9.Epoch, x9.Marked, x9.Seen⟩ : Pin)) hS (i := 0) rfl hx9 rfl (el_Pin (hS.rdOwn 0 rfl) (idx_some hx9).2.2) rfl (mk_Pin ((⟨(Int.tmod x5 3) == 0, x9.Epoch, x9.Marked, x9.Seen⟩ : Pin))) Tryz.sizeOf4 rfl rfl rfl rfl rfl rfl rfl) (want_yes rfl) rfl ?_
   clear hS
   intro w hS
   refine ops_nil fun a hA => cw_seq <| cw_ops hA ?_
   clear hA
   refine om rfl rfl <| oy (rv_add rfl rfl rfl) rfl <| oa rfl rfl <| ops_nil fun a hA => cw_seq <| cw_ops hA ?_
   clear hA
   refine om rfl rfl <| om rfl rfl <| om rfl rfl ?_
   obtain ⟨x10, hx10, hG1⟩ := bindE hG1
   refine oy (rv_idx (m := 4) (hS.rdOwn 0 rfl) rfl hx10 Tryz.underlying44 Tryz.sizeOf65 rfl rfl rfl) rfl <| oy (rv_fld (m := 0) Tryz.underlying65 rfl rfl Tryz.sizeOf3 rfl rfl) rfl <| ops_ms (rs_elem (vs := [.int .i64 (w64 (x5 + 1))]) (f := 1) (xd := (⟨x10.On, w64 (x5 + 1), x10.Marked, x10.Seen⟩ : Pin)) hS (i := 0) rfl hx10 rfl (el_Pin (hS.rdOwn 0 rfl) (idx_some hx10).2.2) rfl (mk_Pin ((⟨x10.On, w64 (x5 + 1), x10.Marked, x10.Seen⟩ : Pin))) Tryz.sizeOf3 rfl rfl rfl rfl rfl rfl rfl) (want_yes rfl) rfl ?_
   clear hS
   intro w hS
   refine ops_nil fun a hA => cw_seq <| cw_ops hA ?_
   clear hA
   refine om rfl rfl <| oy (rv_add rfl rfl rfl) rfl <| oa rfl rfl <| ops_nil fun a hA => cw_seq <| cw_ops hA ?_
   clear hA
   refine om rfl rfl <| om rfl rfl <| om rfl rfl <| oy (rv_rem rfl rfl rfl (by decide)) rfl <| oy (rv_eql rfl rfl rfl) rfl ?_
   obtain ⟨x11, hx11, hG1⟩ := bindE hG1
   refine oy (rv_idx (m := 4) (hS.rdOwn 0 rfl) rfl hx11 Tryz.underlying44 Tryz.sizeOf65 rfl rfl rfl) rfl <| oy (rv_fld (m := 0) Tryz.underlying65 rfl rfl Tryz.sizeOf4 rfl rfl) rfl <| ops_ms (rs_elem (vs := [.bool ((Int.tmod (w64 ((w64 (x5 + 1)) + 1)) 3) == 0)]) (f := 2) (xd := (⟨x11.On, x11.Epoch, (Int.tmod (w64 ((w64 (x5 + 1)) + 1)) 3) == 0, x11.Seen⟩ : Pin)) hS (i := 0) rfl hx11 rfl (el_Pin (hS.rdOwn 0 rfl) (idx_some hx11).2.2) rfl (mk_Pin ((⟨x11.On, x11.Epoch, (Int.tmod (w64 ((w64 (x5 + 1)) + 1)) 3) == 0, x11.Seen⟩ : Pin))) Tryz.sizeOf4 rfl rfl rfl rfl rfl rfl rfl) (want_yes rfl) rfl ?_
   clear hS
   intro w hS
   refine ops_nil fun a hA => cw_seq <| cw_ops hA ?_
   clear hA
   refine om rfl rfl <| oy (rv_add rfl rfl rfl) rfl <| oa rfl rfl <| ops_nil fun a hA => cw_seq <| cw_ops hA ?_
   clear hA
   refine om rfl rfl <| om rfl rfl <| om rfl rfl ?_
   obtain ⟨x12, hx12, hG1⟩ := bindE hG1
   refine oy (rv_idx (m := 4) (hS.rdOwn 0 rfl) rfl hx12 Tryz.underlying44 Tryz.sizeOf65 rfl rfl rfl) rfl <| oy (rv_fld (m := 0) Tryz.underlying65 rfl rfl Tryz.sizeOf3 rfl rfl) rfl <| ops_ms (rs_elem (vs := [.int .i64 (w64 ((w64 ((w64 (x5 + 1)) + 1)) + 1))]) (f := 3) (xd := (⟨x12.On, x12.Epoch, x12.Marked, w64 ((w64 ((w64 (x5 + 1)) + 1)) + 1)⟩ : Pin)) hS (i := 0) rfl hx12 rfl (el_Pin (hS.rdOwn 0 rfl) (idx_some hx12).2.2) rfl (mk_Pin ((⟨x12.On, x12.Epoch, x12.Marked, w64 ((w64 ((w64 (x5 + 1)) + 1)) + 1)⟩ : Pin))) Tryz.sizeOf3 rfl rfl rfl rfl rfl rfl rfl) (want_yes rfl) rfl ?_
   clear hS
   intro w hS
   refine ops_nil fun a hA => cw_ops hA ?_
   clear hA
   refine om rfl rfl <| oy (rv_add rfl rfl rfl) rfl <| oa rfl rfl <| ops_nil fun a hA => cw_ops hA ?_
   clear hA
   refine om rfl rfl <| oy (rv_add rfl rfl rfl) rfl <| oa rfl rfl <| ops_nil fun a hA => ?_
   cases hG1
   exact ⟨_, rfl, ⟨hA.part ⟨rfl, rfl, rfl, trivial⟩, ((hS).sel [0] rfl).selR [] rfl⟩⟩
  ·replace hG1 := iteF hc1 hG1
   refine cw_exit <| xcons_hit ?_
   cases hG1
   have ho := hr1 _ rfl; subst ho
   exact ⟨x4, x5, rfl, hA.part ⟨rfl, rfl, trivial⟩, ((hS).sel [0] rfl).selR [] rfl⟩
 ·skip
  clear hA hS hl1
  rintro a w ⟨x7, x8, heq, hA, hS⟩
  replace hF : laws_markPinS_j1 x7 x8 = some r := by rw [heq] at hF; exact hF
  clear heq
  unfold laws_markPinS_j1 at hF
  refine cw_seq <| cw_ops hA ?_
  clear hA
  refine om rfl rfl <| oa rfl rfl <| ops_nil fun a hA => cw_ret ?_
  cases hF
  exact fin1 Tryz.results87 hA (res_tmp rfl) ⟨rfl, (hS.sel [0] rfl).weaken (R' := []) (fun _ h => nomatch h)⟩

theorem c_laws_markClock {c : Ctx} {w0 : World} {a_ : Clock} {k : Int} {s1 : Value} {r : Int × (List Pin)} (hS : St c w0 [cOwn [s1] (a_.Pins : List Pin)] []) (hF : laws_markClock a_ k = some r) :
    Calls Tryz.prog 42 #[.agg #[.int .i64 (a_.Epoch), s1], .int .i64 (k)] w0 (Ret fun v w' => v = .int .i64 (r.1) ∧ St (c) w' [cOwn [s1] (r.2 : List Pin)] []) := by
 refine calls_cw (args := [_, _]) Tryz.func42 rfl Tryz.ntmps42 rfl ?_
 unfold laws_markClock at hF
 intro a hA
 refine cw_seq <| cw_ops hA ?_
 clear hA
 refine ops_mv (rv_box (cs := [.int .i64 (a_.Epoch), s1]) hS rfl rfl rfl) (want_yes rfl) rfl rfl ?_
 clear hS
 rintro _ w ⟨b1, rfl, hS⟩
 refine oa rfl rfl <| ops_nil fun a hA => cw_seq <| cw_ops hA ?_
 clear hA
 refine oy (rv_fld (m := 0) Tryz.underlying46 rfl rfl Tryz.sizeOf44 rfl rfl) rfl <| oy (rv_load1 rfl rfl Tryz.isAgg44 (hS.cell 1 rfl rfl)) rfl <| om rfl rfl ?_
 obtain ⟨c1, hg, hb⟩ := hS.give [0] rfl rfl
 obtain ⟨x1, hx1, hF⟩ := bindE hF
 refine ops_c (rc_call Tryz.call87 rfl rfl) (want_yes rfl) rfl rfl (c_laws_markPinS (c := c1) (a_ := a_.Pins) (s1 := s1) (k := k) (hg _ all_nil) hx1) ?_
 rintro _ w ⟨rfl, hk⟩
 replace hS := hb _ _ _ hk; clear hk hg hb
 refine oa rfl rfl <| ops_nil fun a hA => cw_seq <| cw_ops hA ?_
 clear hA
 refine om rfl rfl <| oa rfl rfl <| ops_nil fun a hA => cw_ret ?_
 cases hF
 exact fin1 Tryz.results42 hA (res_tmp rfl) ⟨rfl, (hS.sel [2] rfl).weaken (R' := []) (fun _ h => nomatch h)⟩

theorem c_laws_markLRowS {c : Ctx} {w0 : World} {a_ : List LRow} {k : Int} {s1 : Value} {r : Int × (List LRow)} (hS : St c w0 [cOwn [s1] (a_ : List LRow)] []) (hF : laws_markLRowS a_ k = some r) :
    Calls Tryz.prog 88 #[s1, .int .i64 (k)] w0 (Ret fun v w' => v = .int .i64 (r.1) ∧ St (c) w' [cOwn [s1] (r.2 : List LRow)] []) := by
 refine calls_cw (args := [_, _]) Tryz.func88 rfl Tryz.ntmps88 rfl ?_
 unfold laws_markLRowS at hF
 intro a hA
 refine cw_seq <| cw_ops hA ?_
 clear hA
 refine oa rfl rfl <| ops_nil fun a hA => cw_seq <| cw_seq <| cw_ops hA ?_
 clear hA
 refine oa rfl rfl <| ops_nil fun a hA => ?_
 obtain ⟨o1, hl1, hF⟩ := bindE hF
 refine cw_cut (J := fun a' w' => ∃ (x7 : List LRow) (x8 : Int), o1 = (x7, x8) ∧ AEnv 27 [(0, s1), (1, .int .i64 (x8))] a' ∧ St (c) w' [cOwn [s1] (x7 : List LRow)] []) ?_ ?_
 ·refine cw_block ?_
  refine cw_loop (body := laws_markLRowS_l1) (r := o1) (fun sg a' w' => AEnv 27 [(0, s1), (1, .int .i64 (sg.2.1)), (5, .int .i64 (sg.2.2))] a' ∧ St (c) w' [cOwn [s1] (sg.1 : List LRow)] []) ?_ hl1 ⟨hA.part ⟨rfl, rfl, rfl, trivial⟩, ((hS).sel [0] rfl).selR [] rfl⟩
  clear hA hS hl1
  rintro ⟨x4, x5, x6⟩ a w q1 ⟨hA, hS⟩ hG1 hr1
  try dsimp only at hA hS
  unfold laws_markLRowS_l1 at hG1
  refine cw_seq <| cw_seq <| cw_ops hA ?_
  clear hA
  refine om rfl rfl <| om rfl rfl <| oy (rv_lenS (hS.rdOwn 0 rfl) Tryz.underlying67 rfl rfl) rfl <| oy (rv_lss rfl rfl rfl) rfl <| ops_nil fun a hA => cw_cond hA rfl (fun hc1 => ?_) (fun hc1 => ?_)
  ·replace hG1 := iteT hc1 hG1
   refine cw_skip <| cw_seq <| cw_block <| cw_seq <| cw_ops hA ?_
   clear hA
   refine om rfl rfl <| om rfl rfl <| om rfl rfl ?_
   obtain ⟨x9, hx9, hG1⟩ := bindE hG1
   refine oy (rv_idx (m := 2) (hS.rdOwn 0 rfl) rfl hx9 Tryz.underlying67 Tryz.sizeOf71 rfl rfl rfl) rfl <| oy (rv_fld (m := 0) Tryz.underlying71 rfl rfl Tryz.sizeOf3 rfl rfl) rfl <| ops_ms (rs_elem (vs := [.int .i64 (x5)]) (f := 0) (xd := (⟨x5, x9.Epoch⟩ : LRow)) hS (i := 0) rfl hx9 rfl (el_LRow (hS.rdOwn 0 rfl) (idx_some hx9).2.2) rfl (mk_LRow ((⟨x5, x9.Epoch⟩ : LRow))) Tryz.sizeOf3 rfl rfl rfl rfl rfl rfl rfl) (want_yes rfl) rfl ?_
   clear hS
   intro w hS
   refine ops_nil fun a hA => cw_seq <| cw_ops hA ?_
   clear hA
   refine om rfl rfl <| oy (rv_add rfl rfl rfl) rfl <| oa rfl rfl <| ops_nil fun a hA => cw_seq <| cw_ops hA ?_
   clear hA
   refine om rfl rfl <| om rfl rfl <| om rfl rfl ?_
   obtain ⟨x10, hx10, hG1⟩ := bindE hG1
   refine oy (rv_idx (m := 2) (hS.rdOwn 0 rfl) rfl hx10 Tryz.underlying67 Tryz.sizeOf71 rfl rfl rfl) rfl <| oy (rv_fld (m := 0) Tryz.underlying71 rfl rfl Tryz.sizeOf3 rfl rfl) rfl <| ops_ms (rs_elem (vs := [.int .i64 (w64 (x5 + 1))]) (f := 1) (xd := (⟨x10.Handle, w64 (x5 + 1)⟩ : LRow)) hS (i := 0) rfl hx10 rfl (el_LRow (hS.rdOwn 0 rfl) (idx_some hx10).2.2) rfl (mk_LRow ((⟨x10.Handle, w64 (x5 + 1)⟩ : LRow))) Tryz.sizeOf3 rfl rfl rfl rfl rfl rfl rfl) (want_yes rfl) rfl ?_
   clear hS
   intro w hS
   refine ops_nil fun a hA => cw_ops hA ?_
   clear hA
   refine om rfl rfl <| oy (rv_add rfl rfl rfl) rfl <| oa rfl rfl <| ops_nil fun a hA => cw_ops hA ?_
   clear hA
   refine om rfl rfl <| oy (rv_add rfl rfl rfl) rfl <| oa rfl rfl <| ops_nil fun a hA => ?_
   cases hG1
   exact ⟨_, rfl, ⟨hA.part ⟨rfl, rfl, rfl, trivial⟩, ((hS).sel [0] rfl).selR [] rfl⟩⟩
  ·replace hG1 := iteF hc1 hG1
   refine cw_exit <| xcons_hit ?_
   cases hG1
   have ho := hr1 _ rfl; subst ho
   exact ⟨x4, x5, rfl, hA.part ⟨rfl, rfl, trivial⟩, ((hS).sel [0] rfl).selR [] rfl⟩
 ·skip
  clear hA hS hl1
  rintro a w ⟨x7, x8, heq, hA, hS⟩
  replace hF : laws_markLRowS_j1 x7 x8 = some r := by rw [heq] at hF; exact hF
  clear heq
  unfold laws_markLRowS_j1 at hF
  refine cw_seq <| cw_ops hA ?_
  clear hA
  refine om rfl rfl <| oa rfl rfl <| ops_nil fun a hA => cw_ret ?_
  cases hF
  exact fin1 Tryz.results88 hA (res_tmp rfl) ⟨rfl, (hS.sel [0] rfl).weaken (R' := []) (fun _ h => nomatch h)⟩

theorem c_laws_markLListS {c : Ctx} {w0 : World} {a_ : List LList} {k : Int} {s1 : Value} {r : Int × (List LList)} (hS : St c w0 [cOwn [s1] (a_ : List LList)] []) (hF : laws_markLListS a_ k = some r) :
    Calls Tryz.prog 43 #[s1, .int .i64 (k)] w0 (Ret fun v w' => v = .int .i64 (r.1) ∧ St (c) w' [cOwn [s1] (r.2 : List LList)] []) := by
 refine calls_cw (args := [_, _]) Tryz.func43 rfl Tryz.ntmps43 rfl ?_
 unfold laws_markLListS at hF
 intro a hA
 refine cw_seq <| cw_ops hA ?_
 clear hA
 refine oa rfl rfl <| ops_nil fun a hA => cw_seq <| cw_seq <| cw_ops hA ?_
 clear hA
 refine oa rfl rfl <| ops_nil fun a hA => ?_
 obtain ⟨o1, hl1, hF⟩ := bindE hF
 refine cw_cut (J := fun a' w' => ∃ (x7 : List LList) (x8 : Int), o1 = (x7, x8) ∧ AEnv 20 [(0, s1), (1, .int .i64 (x8))] a' ∧ St (c) w' [cOwn [s1] (x7 : List LList)] []) ?_ ?_
 ·refine cw_block ?_
  refine cw_loop (body := laws_markLListS_l1) (r := o1) (fun sg a' w' => AEnv 20 [(0, s1), (1, .int .i64 (sg.2.1)), (5, .int .i64 (sg.2.2))] a' ∧ St (c) w' [cOwn [s1] (sg.1 : List LList)] []) ?_ hl1 ⟨hA.part ⟨rfl, rfl, rfl, trivial⟩, ((hS).sel [0] rfl).selR [] rfl⟩
  clear hA hS hl1
  rintro ⟨x4, x5, x6⟩ a w q1 ⟨hA, hS⟩ hG1 hr1
  try dsimp only at hA hS
  unfold laws_markLListS_l1 at hG1
  refine cw_seq <| cw_seq <| cw_ops hA ?_
  clear hA
  refine om rfl rfl <| om rfl rfl <| oy (rv_lenS (hS.rdOwn 0 rfl) Tryz.underlying47 rfl rfl) rfl <| oy (rv_lss rfl rfl rfl) rfl <| ops_nil fun a hA => cw_cond hA rfl (fun hc1 => ?_) (fun hc1 => ?_)
  ·replace hG1 := iteT hc1 hG1
   refine cw_skip <| cw_seq <| cw_block <| cw_ops hA ?_
   clear hA
   refine om rfl rfl <| om rfl rfl ?_
   obtain ⟨x9, hx9, hG1⟩ := bindE hG1
   refine oy (rv_idx (m := 1) (hS.rdOwn 0 rfl) rfl hx9 Tryz.underlying47 Tryz.sizeOf69 rfl rfl rfl) rfl <| oy (rv_fld (m := 0) Tryz.underlying69 rfl rfl Tryz.sizeOf67 rfl rfl) rfl ?_
   obtain ⟨ec, hS⟩ := hS.open 0 rfl (idx_some hx9).2.2
   obtain ⟨s2, he, _⟩ := rd_LList (hS.rdOwn 3 rfl)
   subst he
   replace hS := hS.unpack 3 rfl (op_LList x9)
   refine oy (rv_load1 rfl rfl Tryz.isAgg67 (hS.acell (q := elO 1 (x6.toNat) s1) (j := 0) 2 rfl rfl)) rfl <| om rfl rfl ?_
   obtain ⟨c1, hg, hb⟩ := hS.give [4] rfl rfl
   obtain ⟨x10, hx10, hG1⟩ := bindE hG1
   refine ops_c (rc_call Tryz.call88 rfl rfl) (want_yes rfl) rfl rfl (c_laws_markLRowS (c := c1) (a_ := x9.Rows) (s1 := s2) (k := x5) (hg _ all_nil) hx10) ?_
   rintro _ w ⟨rfl, hk⟩
   replace hS := hb _ _ _ hk; clear hk hg hb
   refine oa rfl rfl <| ops_nil fun a hA => cw_ops hA ?_
   clear hA
   refine om rfl rfl <| oy (rv_add rfl rfl rfl) rfl <| oa rfl rfl <| ops_nil fun a hA => ?_
   replace hS := hS.pack [5] rfl rfl (op_LList ((⟨x10.2⟩ : LList)))
   replace hS := hS.close [1, 2, 6] rfl rfl
   cases hG1
   exact ⟨_, rfl, ⟨hA.part ⟨rfl, rfl, rfl, trivial⟩, ((hS).sel [7] rfl).selR [] rfl⟩⟩
  ·replace hG1 := iteF hc1 hG1
   refine cw_exit <| xcons_hit ?_
   cases hG1
   have ho := hr1 _ rfl; subst ho
   exact ⟨x4, x5, rfl, hA.part ⟨rfl, rfl, trivial⟩, ((hS).sel [0] rfl).selR [] rfl⟩
 ·skip
  clear hA hS hl1
  rintro a w ⟨x7, x8, heq, hA, hS⟩
  replace hF : laws_markLListS_j1 x7 x8 = some r := by rw [heq] at hF; exact hF
  clear heq
  unfold laws_markLListS_j1 at hF
  refine cw_seq <| cw_ops hA ?_
  clear hA
  refine om rfl rfl <| oa rfl rfl <| ops_nil fun a hA => cw_ret ?_
  cases hF
  exact fin1 Tryz.results43 hA (res_tmp rfl) ⟨rfl, (hS.sel [0] rfl).weaken (R' := []) (fun _ h => nomatch h)⟩

theorem c_laws_markBase {c : Ctx} {w0 : World} {a_ : Base} {k : Int} {s1 : Value} {s2 : Value} {s3 : Value} {s4 : Value} {s5 : Value} {s6 : Value} {s7 : Value} {r : Int × (List Int) × (List Int) × (List SList) × (List SList) × (List Pin) × (List LList) × (List Int)} (hS : St c w0 [cOwn [s1] (a_.Mem.Heap.Bytes : List Int), cOwn [s2] (a_.Mem.Heap.Class : List Int), cOwn [s3] (a_.Mem.Lists.Global : List SList), cOwn [s4] (a_.Mem.Lists.Own : List SList), cOwn [s5] (a_.Clock.Pins : List Pin), cOwn [s6] (a_.Limbo : List LList), cOwn [s7] (a_.Haz : List Int)] []) (hF : laws_markBase a_ k = some r) :
    Calls Tryz.prog 12 #[.agg #[s1, s2, s3, s4, .int .i64 (a_.Clock.Epoch), s5, s6, s7], .int .i64 (k)] w0 (Ret fun v w' => v = .int .i64 (r.1) ∧ St (c) w' [cOwn [s1] (r.2.1 : List Int), cOwn [s2] (r.2.2.1 : List Int), cOwn [s3] (r.2.2.2.1 : List SList), cOwn [s4] (r.2.2.2.2.1 : List SList), cOwn [s5] (r.2.2.2.2.2.1 : List Pin), cOwn [s6] (r.2.2.2.2.2.2.1 : List LList), cOwn [s7] (r.2.2.2.2.2.2.2 : List Int)] []) := by
 refine calls_cw (args := [_, _]) Tryz.func12 rfl Tryz.ntmps12 rfl ?_
 unfold laws_markBase at hF
 intro a hA
 refine cw_seq <| cw_ops hA ?_
 clear hA
 refine ops_mv (rv_box (cs := [s1, s2, s3, s4, .int .i64 (a_.Clock.Epoch), s5, s6, s7]) hS rfl rfl rfl) (want_yes rfl) rfl rfl ?_
 clear hS
 rintro _ w ⟨b1, rfl, hS⟩
 refine oa rfl rfl <| ops_nil fun a hA => cw_seq <| cw_ops hA ?_
 clear hA
 refine oy (rv_fld (m := 3) Tryz.underlying49 rfl rfl Tryz.sizeOf43 rfl rfl) rfl <| oy (rv_loadN rfl rfl Tryz.isAgg43 Tryz.sizeOf43 rfl (hS.cells 7 0 (cs' := [s1, s2, s3, s4]) rfl rfl)) rfl <| om rfl rfl ?_
 obtain ⟨c1, hg, hb⟩ := hS.give [0, 1, 2, 3] rfl rfl
 obtain ⟨x1, hx1, hF⟩ := bindE hF
 refine ops_c (rc_call Tryz.call41 rfl rfl) (want_yes rfl) rfl rfl (c_laws_markMem (c := c1) (a_ := a_.Mem) (s1 := s1) (s2 := s2) (s3 := s3) (s4 := s4) (k := k) (hg _ all_nil) hx1) ?_
 rintro _ w ⟨rfl, hk⟩
 replace hS := hb _ _ _ hk; clear hk hg hb
 refine oa rfl rfl <| ops_nil fun a hA => cw_seq <| cw_ops hA ?_
 clear hA
 refine oy (rv_fld (m := 1) Tryz.underlying49 rfl rfl Tryz.sizeOf46 rfl rfl) rfl <| oy (rv_loadN rfl rfl Tryz.isAgg46 Tryz.sizeOf46 rfl (hS.cells 7 4 (cs' := [.int .i64 (a_.Clock.Epoch), s5]) rfl rfl)) rfl <| om rfl rfl ?_
 obtain ⟨c2, hg, hb⟩ := hS.give [4] rfl rfl
 obtain ⟨x2, hx2, hF⟩ := bindE hF
 refine ops_c (rc_call Tryz.call42 rfl rfl) (want_yes rfl) rfl rfl (c_laws_markClock (c := c2) (a_ := a_.Clock) (s1 := s5) (k := x1.1) (hg _ all_nil) hx2) ?_
 rintro _ w ⟨rfl, hk⟩
 replace hS := hb _ _ _ hk; clear hk hg hb
 refine oa rfl rfl <| ops_nil fun a hA => cw_seq <| cw_ops hA ?_
 clear hA
 refine oy (rv_fld (m := 0) Tryz.underlying49 rfl rfl Tryz.sizeOf47 rfl rfl) rfl <| oy (rv_load1 rfl rfl Tryz.isAgg47 (hS.cell 7 rfl rfl)) rfl <| om rfl rfl ?_
 obtain ⟨c3, hg, hb⟩ := hS.give [5] rfl rfl
 obtain ⟨x3, hx3, hF⟩ := bindE hF
 refine ops_c (rc_call Tryz.call43 rfl rfl) (want_yes rfl) rfl rfl (c_laws_markLListS (c := c3) (a_ := a_.Limbo) (s1 := s6) (k := x2.1) (hg _ all_nil) hx3) ?_
 rintro _ w ⟨rfl, hk⟩
 replace hS := hb _ _ _ hk; clear hk hg hb
 refine oa rfl rfl <| ops_nil fun a hA => cw_seq <| cw_ops hA ?_
 clear hA
 refine oy (rv_fld (m := 0) Tryz.underlying49 rfl rfl Tryz.sizeOf22 rfl rfl) rfl <| oy (rv_load1 rfl rfl Tryz.isAgg22 (hS.cell 7 rfl rfl)) rfl <| om rfl rfl ?_
 obtain ⟨c4, hg, hb⟩ := hS.give [6] rfl rfl
 obtain ⟨x4, hx4, hF⟩ := bindE hF
 refine ops_c (rc_call Tryz.call44 rfl rfl) (want_yes rfl) rfl rfl (c_laws_markIntS (c := c4) (a_ := a_.Haz) (s1 := s7) (k := x3.1) (hg _ all_nil) hx4) ?_
 rintro _ w ⟨rfl, hk⟩
 replace hS := hb _ _ _ hk; clear hk hg hb
 refine oa rfl rfl <| ops_nil fun a hA => cw_seq <| cw_ops hA ?_
 clear hA
 refine om rfl rfl <| oa rfl rfl <| ops_nil fun a hA => cw_ret ?_
 cases hF
 exact fin1 Tryz.results12 hA (res_tmp rfl) ⟨rfl, (hS.sel [8, 9, 10, 11, 12, 13, 14] rfl).weaken (R' := []) (fun _ h => nomatch h)⟩

theorem c_laws_heldIntS {w0 : World} {a_ : List Int} {k : Int} {s1 : Value} {r : Int} (h1 : Rep.rd (All w0) w0 [s1] (a_ : List Int)) (hF : laws_heldIntS a_ k = some r) :
    Calls Tryz.prog 48 #[s1, .int .i64 (k)] w0 (Ret fun v w' => v = .int .i64 (r) ∧ St (cxAll w0) w' [] []) := by
 have hS : St (cxAll w0) w0 [] [fRd [s1] (a_ : List Int)] := St.enter (by
   intro f hf
   simp only [List.mem_cons, List.not_mem_nil, or_false] at hf
   subst hf; exact h1)
 refine calls_cw (args := [_, _]) Tryz.func48 rfl Tryz.ntmps48 rfl ?_
 unfold laws_heldIntS at hF
 intro a hA
 refine cw_seq <| cw_ops hA ?_
 clear hA
 refine oa rfl rfl <| ops_nil fun a hA => cw_seq <| cw_seq <| cw_ops hA ?_
 clear hA
 refine oa rfl rfl <| ops_nil fun a hA => ?_
 obtain ⟨o1, hl1, hF⟩ := bindE hF
 refine cw_cut (J := fun a' w' => ∃ (x5 : Int), o1 = Out.brk x5 ∧ AEnv 21 [(1, .int .i64 (x5))] a' ∧ St (cxAll w0) w' [] []) ?_ ?_
 ·refine cw_block ?_
  refine cw_loop (body := laws_heldIntS_l1 a_) (r := o1) (fun sg a' w' => AEnv 21 [(0, s1), (1, .int .i64 (sg.1)), (5, .int .i64 (sg.2))] a' ∧ St (cxAll w0) w' [] [fRd [s1] (a_ : List Int)]) ?_ hl1 ⟨hA.part ⟨rfl, rfl, rfl, trivial⟩, ((hS).sel [] rfl).selR [0] rfl⟩
  clear hA hS hl1
  rintro ⟨x3, x4⟩ a w q1 ⟨hA, hS⟩ hG1 hr1
  try dsimp only at hA hS
  unfold laws_heldIntS_l1 at hG1
  refine cw_seq <| cw_seq <| cw_ops hA ?_
  clear hA
  refine om rfl rfl <| om rfl rfl <| oy (rv_lenS (hS.rd 0 rfl) Tryz.underlying22 rfl rfl) rfl <| oy (rv_lss rfl rfl rfl) rfl <| ops_nil fun a hA => cw_cond hA rfl (fun hc1 => ?_) (fun hc1 => ?_)
  ·replace hG1 := iteT hc1 hG1
   refine cw_skip <| cw_seq <| cw_block <| cw_seq <| cw_seq <| cw_ops hA ?_
   clear hA
   refine om rfl rfl <| om rfl rfl ?_
   obtain ⟨x6, hx6, hG1⟩ := bindE hG1
   refine oy (rv_idx (m := 1) (hS.rd 0 rfl) rfl hx6 Tryz.underlying22 Tryz.sizeOf3 rfl rfl rfl) rfl <| oy (rv_load1 rfl rfl Tryz.isAgg3 (cell1 (el_Int (hS.rd 0 rfl) (idx_some hx6).2.2))) rfl <| om rfl rfl <| oy (rv_neq rfl rfl rfl) rfl <| ops_nil fun a hA => cw_cond hA rfl (fun hc2 => ?_) (fun hc2 => ?_)
   ·replace hG1 := iteT hc2 hG1
    refine cw_seq <| cw_ops hA ?_
    clear hA
    refine oa rfl rfl <| ops_nil fun a hA => cw_ret ?_
    cases hG1
    have ho := hr1 _ rfl; subst ho
    replace hF : some ((-1)) = some r := hF
    cases hF
    exact fy Tryz.results48 hA rfl hS
   ·replace hG1 := iteF hc2 hG1
    refine cw_skip <| cw_ops hA ?_
    clear hA
    refine om rfl rfl <| oy (rv_add rfl rfl rfl) rfl <| oa rfl rfl <| ops_nil fun a hA => cw_ops hA ?_
    clear hA
    refine om rfl rfl <| oy (rv_add rfl rfl rfl) rfl <| oa rfl rfl <| ops_nil fun a hA => ?_
    cases hG1
    exact ⟨_, rfl, ⟨hA.part ⟨rfl, rfl, rfl, trivial⟩, ((hS).sel [] rfl).selR [0] rfl⟩⟩
  ·replace hG1 := iteF hc1 hG1
   refine cw_exit <| xcons_hit ?_
   cases hG1
   have ho := hr1 _ rfl; subst ho
   exact ⟨x3, rfl, hA.part ⟨rfl, trivial⟩, ((hS).sel [] rfl).selR [] rfl⟩
 ·skip
  clear hA hS hl1
  rintro a w ⟨x5, heq, hA, hS⟩
  replace hF : laws_heldIntS_j1 x5 = some r := by rw [heq] at hF; exact hF
  clear heq
  unfold laws_heldIntS_j1 at hF
  refine cw_seq <| cw_ops hA ?_
  clear hA
  refine om rfl rfl <| oa rfl rfl <| ops_nil fun a hA => cw_ret ?_
  cases hF
  exact fy Tryz.results48 hA rfl hS

theorem c_laws_heldHeap {w0 : World} {a_ : Heap} {k : Int} {s1 : Value} {s2 : Value} {r : Int} (h1 : Rep.rd (All w0) w0 [s1] (a_.Bytes : List Int)) (h2 : Rep.rd (All w0) w0 [s2] (a_.Class : List Int)) (hF : laws_heldHeap a_ k = some r) :
    Calls Tryz.prog 89 #[.agg #[s1, s2], .int .i64 (k)] w0 (Ret fun v w' => v = .int .i64 (r) ∧ St (cxAll w0) w' [] []) := by
 have hS : St (cxAll w0) w0 [] [fRd [s1] (a_.Bytes : List Int), fRd [s2] (a_.Class : List Int)] := St.enter (by
   intro f hf
   simp only [List.mem_cons, List.not_mem_nil, or_false] at hf
   rcases hf with rfl | rfl
   · exact h1
   · exact h2)
 refine calls_cw (args := [_, _]) Tryz.func89 rfl Tryz.ntmps89 rfl ?_
 unfold laws_heldHeap at hF
 intro a hA
 refine cw_seq <| cw_ops hA ?_
 clear hA
 refine ops_mv (rv_box (cs := [s1, s2]) hS rfl rfl rfl) (want_yes rfl) rfl rfl ?_
 clear hS
 rintro _ w ⟨b1, rfl, hS⟩
 refine oa rfl rfl <| ops_nil fun a hA => cw_seq <| cw_ops hA ?_
 clear hA
 refine oy (rv_fld (m := 0) Tryz.underlying38 rfl rfl Tryz.sizeOf22 rfl rfl) rfl <| oy (rv_load1 rfl rfl Tryz.isAgg22 (hS.cell 0 rfl rfl)) rfl <| om rfl rfl ?_
 obtain ⟨x1, hx1, hF⟩ := bindE hF
 refine ops_c (rc_call Tryz.call48 rfl rfl) (want_yes rfl) rfl rfl (c_laws_heldIntS (a_ := a_.Bytes) (k := k) (hS.rd 0 rfl) hx1) ?_
 rintro _ w ⟨rfl, hk⟩
 replace hS := hS.after hk; clear hk
 refine oa rfl rfl <| ops_nil fun a hA => cw_seq <| cw_seq <| cw_ops hA ?_
 clear hA
 refine om rfl rfl <| oy (rv_lss rfl rfl rfl) rfl <| ops_nil fun a hA => cw_cond hA rfl (fun hc1 => ?_) (fun hc1 => ?_)
 ·replace hF := iteT hc1 hF
  refine cw_seq <| cw_ops hA ?_
  clear hA
  refine oa rfl rfl <| ops_nil fun a hA => cw_ret ?_
  cases hF
  exact fy Tryz.results89 hA rfl hS
 ·replace hF := iteF hc1 hF
  refine cw_skip <| cw_seq <| cw_ops hA ?_
  clear hA
  refine oy (rv_fld (m := 0) Tryz.underlying38 rfl rfl Tryz.sizeOf22 rfl rfl) rfl <| oy (rv_load1 rfl rfl Tryz.isAgg22 (hS.cell 0 rfl rfl)) rfl <| om rfl rfl ?_
  obtain ⟨x2, hx2, hF⟩ := bindE hF
  refine ops_c (rc_call Tryz.call48 rfl rfl) (want_yes rfl) rfl rfl (c_laws_heldIntS (a_ := a_.Class) (k := x1) (hS.rd 1 rfl) hx2) ?_
  rintro _ w ⟨rfl, hk⟩
  replace hS := hS.after hk; clear hk
  refine oa rfl rfl <| ops_nil fun a hA => cw_seq <| cw_seq <| cw_ops hA ?_
  clear hA
  refine om rfl rfl <| oy (rv_lss rfl rfl rfl) rfl <| ops_nil fun a hA => cw_cond hA rfl (fun hc2 => ?_) (fun hc2 => ?_)
  ·replace hF := iteT hc2 hF
   refine cw_seq <| cw_ops hA ?_
   clear hA
   refine oa rfl rfl <| ops_nil fun a hA => cw_ret ?_
   cases hF
   exact fy Tryz.results89 hA rfl hS
  ·replace hF := iteF hc2 hF
   refine cw_skip <| cw_seq <| cw_ops hA ?_
   clear hA
   refine om rfl rfl <| oa rfl rfl <| ops_nil fun a hA => cw_ret ?_
   cases hF
   exact fy Tryz.results89 hA rfl hS

theorem c_laws_heldSListS {w0 : World} {a_ : List SList} {k : Int} {s1 : Value} {r : Int} (h1 : Rep.rd (All w0) w0 [s1] (a_ : List SList)) (hF : laws_heldSListS a_ k = some r) :
    Calls Tryz.prog 126 #[s1, .int .i64 (k)] w0 (Ret fun v w' => v = .int .i64 (r) ∧ St (cxAll w0) w' [] []) := by
 have hS : St (cxAll w0) w0 [] [fRd [s1] (a_ : List SList)] := St.enter (by
   intro f hf
   simp only [List.mem_cons, List.not_mem_nil, or_false] at hf
   subst hf; exact h1)
 refine calls_cw (args := [_, _]) Tryz.func126 rfl Tryz.ntmps126 rfl ?_
 unfold laws_heldSListS at hF
 intro a hA
 refine cw_seq <| cw_ops hA ?_
 clear hA
 refine oa rfl rfl <| ops_nil fun a hA => cw_seq <| cw_seq <| cw_ops hA ?_
 clear hA
 refine oa rfl rfl <| ops_nil fun a hA => ?_
 obtain ⟨o1, hl1, hF⟩ := bindE hF
 refine cw_cut (J := fun a' w' => ∃ (x5 : Int), o1 = Out.brk x5 ∧ AEnv 22 [(1, .int .i64 (x5))] a' ∧ St (cxAll w0) w' [] []) ?_ ?_
 ·refine cw_block ?_
  refine cw_loop (body := laws_heldSListS_l1 a_) (r := o1) (fun sg a' w' => AEnv 22 [(0, s1), (1, .int .i64 (sg.1)), (5, .int .i64 (sg.2))] a' ∧ St (cxAll w0) w' [] [fRd [s1] (a_ : List SList)]) ?_ hl1 ⟨hA.part ⟨rfl, rfl, rfl, trivial⟩, ((hS).sel [] rfl).selR [0] rfl⟩
  clear hA hS hl1
  rintro ⟨x3, x4⟩ a w q1 ⟨hA, hS⟩ hG1 hr1
  try dsimp only at hA hS
  unfold laws_heldSListS_l1 at hG1
  refine cw_seq <| cw_seq <| cw_ops hA ?_
  clear hA
  refine om rfl rfl <| om rfl rfl <| oy (rv_lenS (hS.rd 0 rfl) Tryz.underlying39 rfl rfl) rfl <| oy (rv_lss rfl rfl rfl) rfl <| ops_nil fun a hA => cw_cond hA rfl (fun hc1 => ?_) (fun hc1 => ?_)
  ·replace hG1 := iteT hc1 hG1
   refine cw_skip <| cw_seq <| cw_block <| cw_seq <| cw_ops hA ?_
   clear hA
   refine om rfl rfl <| om rfl rfl ?_
   obtain ⟨x6, hx6, hG1⟩ := bindE hG1
   refine oy (rv_idx (m := 1) (hS.rd 0 rfl) rfl hx6 Tryz.underlying39 Tryz.sizeOf120 rfl rfl rfl) rfl <| oy (rv_fld (m := 0) Tryz.underlying120 rfl rfl Tryz.sizeOf22 rfl rfl) rfl ?_
   obtain ⟨s2, hel, hS⟩ := hS.el_SList 0 rfl (idx_some hx6).2.2
   refine oy (rv_load1 rfl rfl Tryz.isAgg22 (cell1 (CellsAt.sub (cs' := [s2]) hel 0 rfl rfl))) rfl <| om rfl rfl ?_
   obtain ⟨x7, hx7, hG1⟩ := bindE hG1
   refine ops_c (rc_call Tryz.call48 rfl rfl) (want_yes rfl) rfl rfl (c_laws_heldIntS (a_ := x6.Slots) (k := x3) (hS.rd 1 rfl) hx7) ?_
   rintro _ w ⟨rfl, hk⟩
   replace hS := hS.after hk; clear hk
   refine oa rfl rfl <| ops_nil fun a hA => cw_seq <| cw_ops hA ?_
   clear hA
   refine om rfl rfl <| oy (rv_lss rfl rfl rfl) rfl <| ops_nil fun a hA => cw_cond hA rfl (fun hc2 => ?_) (fun hc2 => ?_)
   ·replace hG1 := iteT hc2 hG1
    refine cw_seq <| cw_ops hA ?_
    clear hA
    refine oa rfl rfl <| ops_nil fun a hA => cw_ret ?_
    cases hG1
    have ho := hr1 _ rfl; subst ho
    replace hF : some ((-1)) = some r := hF
    cases hF
    exact fy Tryz.results126 hA rfl hS
   ·replace hG1 := iteF hc2 hG1
    refine cw_skip <| cw_ops hA ?_
    clear hA
    refine om rfl rfl <| oy (rv_add rfl rfl rfl) rfl <| oa rfl rfl <| ops_nil fun a hA => ?_
    cases hG1
    exact ⟨_, rfl, ⟨hA.part ⟨rfl, rfl, rfl, trivial⟩, ((hS).sel [] rfl).selR [0] rfl⟩⟩
  ·replace hG1 := iteF hc1 hG1
   refine cw_exit <| xcons_hit ?_
   cases hG1
   have ho := hr1 _ rfl; subst ho
   exact ⟨x3, rfl, hA.part ⟨rfl, trivial⟩, ((hS).sel [] rfl).selR [] rfl⟩
 ·skip
  clear hA hS hl1
  rintro a w ⟨x5, heq, hA, hS⟩
  replace hF : laws_heldSListS_j1 x5 = some r := by rw [heq] at hF; exact hF
  clear heq
  unfold laws_heldSListS_j1 at hF
  refine cw_seq <| cw_ops hA ?_
  clear hA
  refine om rfl rfl <| oa rfl rfl <| ops_nil fun a hA => cw_ret ?_
  cases hF
  exact fy Tryz.results126 hA rfl hS

theorem c_laws_heldLists {w0 : World} {a_ : Lists} {k : Int} {s1 : Value} {s2 : Value} {r : Int} (h1 : Rep.rd (All w0) w0 [s1] (a_.Global : List SList)) (h2 : Rep.rd (All w0) w0 [s2] (a_.Own : List SList)) (hF : laws_heldLists a_ k = some r) :
    Calls Tryz.prog 90 #[.agg #[s1, s2], .int .i64 (k)] w0 (Ret fun v w' => v = .int .i64 (r) ∧ St (cxAll w0) w' [] []) := by
 have hS : St (cxAll w0) w0 [] [fRd [s1] (a_.Global : List SList), fRd [s2] (a_.Own : List SList)] := St.enter (by
   intro f hf
   simp only [List.mem_cons, List.not_mem_nil, or_false] at hf
   rcases hf with rfl | rfl
   · exact h1
   · exact h2)
 refine calls_cw (args := [_, _]) Tryz.func90 rfl Tryz.ntmps90 rfl ?_
 unfold laws_heldLists at hF
 intro a hA
 refine cw_seq <| cw_ops hA ?_
 clear hA
 refine ops_mv (rv_box (cs := [s1, s2]) hS rfl rfl rfl) (want_yes rfl) rfl rfl ?_
 clear hS
 rintro _ w ⟨b1, rfl, hS⟩
 refine oa rfl rfl <| ops_nil fun a hA => cw_seq <| cw_ops hA ?_
 clear hA
 refine oy (rv_fld (m := 0) Tryz.underlying41 rfl rfl Tryz.sizeOf39 rfl rfl) rfl <| oy (rv_load1 rfl rfl Tryz.isAgg39 (hS.cell 0 rfl rfl)) rfl <| om rfl rfl ?_
 obtain ⟨x1, hx1, hF⟩ := bindE hF
 refine ops_c (rc_call Tryz.call126 rfl rfl) (want_yes rfl) rfl rfl (c_laws_heldSListS (a_ := a_.Global) (k := k) (hS.rd 0 rfl) hx1) ?_
 rintro _ w ⟨rfl, hk⟩
 replace hS := hS.after hk; clear hk
 refine oa rfl rfl <| ops_nil fun a hA => cw_seq <| cw_seq <| cw_ops hA ?_
 clear hA
 refine om rfl rfl <| oy (rv_lss rfl rfl rfl) rfl <| ops_nil fun a hA => cw_cond hA rfl (fun hc1 => ?_) (fun hc1 => ?_)
 ·replace hF := iteT hc1 hF
  refine cw_seq <| cw_ops hA ?_
  clear hA
  refine oa rfl rfl <| ops_nil fun a hA => cw_ret ?_
  cases hF
  exact fy Tryz.results90 hA rfl hS
 ·replace hF := iteF hc1 hF
  refine cw_skip <| cw_seq <| cw_ops hA ?_
  clear hA
  refine oy (rv_fld (m := 0) Tryz.underlying41 rfl rfl Tryz.sizeOf39 rfl rfl) rfl <| oy (rv_load1 rfl rfl Tryz.isAgg39 (hS.cell 0 rfl rfl)) rfl <| om rfl rfl ?_
  obtain ⟨x2, hx2, hF⟩ := bindE hF
  refine ops_c (rc_call Tryz.call126 rfl rfl) (want_yes rfl) rfl rfl (c_laws_heldSListS (a_ := a_.Own) (k := x1) (hS.rd 1 rfl) hx2) ?_
  rintro _ w ⟨rfl, hk⟩
  replace hS := hS.after hk; clear hk
  refine oa rfl rfl <| ops_nil fun a hA => cw_seq <| cw_seq <| cw_ops hA ?_
  clear hA
  refine om rfl rfl <| oy (rv_lss rfl rfl rfl) rfl <| ops_nil fun a hA => cw_cond hA rfl (fun hc2 => ?_) (fun hc2 => ?_)
  ·replace hF := iteT hc2 hF
   refine cw_seq <| cw_ops hA ?_
   clear hA
   refine oa rfl rfl <| ops_nil fun a hA => cw_ret ?_
   cases hF
   exact fy Tryz.results90 hA rfl hS
  ·replace hF := iteF hc2 hF
   refine cw_skip <| cw_seq <| cw_ops hA ?_
   clear hA
   refine om rfl rfl <| oa rfl rfl <| ops_nil fun a hA => cw_ret ?_
   cases hF
   exact fy Tryz.results90 hA rfl hS

theorem c_laws_heldMem {w0 : World} {a_ : Mem} {k : Int} {s1 : Value} {s2 : Value} {s3 : Value} {s4 : Value} {r : Int} (h1 : Rep.rd (All w0) w0 [s1] (a_.Heap.Bytes : List Int)) (h2 : Rep.rd (All w0) w0 [s2] (a_.Heap.Class : List Int)) (h3 : Rep.rd (All w0) w0 [s3] (a_.Lists.Global : List SList)) (h4 : Rep.rd (All w0) w0 [s4] (a_.Lists.Own : List SList)) (hF : laws_heldMem a_ k = some r) :
    Calls Tryz.prog 45 #[.agg #[s1, s2, s3, s4], .int .i64 (k)] w0 (Ret fun v w' => v = .int .i64 (r) ∧ St (cxAll w0) w' [] []) := by
 have hS : St (cxAll w0) w0 [] [fRd [s1] (a_.Heap.Bytes : List Int), fRd [s2] (a_.Heap.Class : List Int), fRd [s3] (a_.Lists.Global : List SList), fRd [s4] (a_.Lists.Own : List SList)] := St.enter (by
   intro f hf
   simp only [List.mem_cons, List.not_mem_nil, or_false] at hf
   rcases hf with rfl | rfl | rfl | rfl
   · exact h1
   · exact h2
   · exact h3
   · exact h4)
 refine calls_cw (args := [_, _]) Tryz.func45 rfl Tryz.ntmps45 rfl ?_
 unfold laws_heldMem at hF
 intro a hA
 refine cw_seq <| cw_ops hA ?_
 clear hA
 refine ops_mv (rv_box (cs := [s1, s2, s3, s4]) hS rfl rfl rfl) (want_yes rfl) rfl rfl ?_
 clear hS
 rintro _ w ⟨b1, rfl, hS⟩
 refine oa rfl rfl <| ops_nil fun a hA => cw_seq <| cw_ops hA ?_
 clear hA
 refine oy (rv_fld (m := 1) Tryz.underlying43 rfl rfl Tryz.sizeOf38 rfl rfl) rfl <| oy (rv_loadN rfl rfl Tryz.isAgg38 Tryz.sizeOf38 rfl (hS.cells 0 0 (cs' := [s1, s2]) rfl rfl)) rfl <| om rfl rfl ?_
 obtain ⟨x1, hx1, hF⟩ := bindE hF
 refine ops_c (rc_call Tryz.call89 rfl rfl) (want_yes rfl) rfl rfl (c_laws_heldHeap (a_ := a_.Heap) (k := k) (hS.rd 0 rfl) (hS.rd 1 rfl) hx1) ?_
 rintro _ w ⟨rfl, hk⟩
 replace hS := hS.after hk; clear hk
 refine oa rfl rfl <| ops_nil fun a hA => cw_seq <| cw_seq <| cw_ops hA ?_
 clear hA
 refine om rfl rfl <| oy (rv_lss rfl rfl rfl) rfl <| ops_nil fun a hA => cw_cond hA rfl (fun hc1 => ?_) (fun hc1 => ?_)
 ·replace hF := iteT hc1 hF
  refine cw_seq <| cw_ops hA ?_
  clear hA
  refine oa rfl rfl <| ops_nil fun a hA => cw_ret ?_
  cases hF
  exact fy Tryz.results45 hA rfl hS
 ·replace hF := iteF hc1 hF
  refine cw_skip <| cw_seq <| cw_ops hA ?_
  clear hA
  refine oy (rv_fld (m := 1) Tryz.underlying43 rfl rfl Tryz.sizeOf41 rfl rfl) rfl <| oy (rv_loadN rfl rfl Tryz.isAgg41 Tryz.sizeOf41 rfl (hS.cells 0 2 (cs' := [s3, s4]) rfl rfl)) rfl <| om rfl rfl ?_
  obtain ⟨x2, hx2, hF⟩ := bindE hF
  refine ops_c (rc_call Tryz.call90 rfl rfl) (want_yes rfl) rfl rfl (c_laws_heldLists (a_ := a_.Lists) (k := x1) (hS.rd 2 rfl) (hS.rd 3 rfl) hx2) ?_
  rintro _ w ⟨rfl, hk⟩
  replace hS := hS.after hk; clear hk
  refine oa rfl rfl <| ops_nil fun a hA => cw_seq <| cw_seq <| cw_ops hA ?_
  clear hA
  refine om rfl rfl <| oy (rv_lss rfl rfl rfl) rfl <| ops_nil fun a hA => cw_cond hA rfl (fun hc2 => ?_) (fun hc2 => ?_)
  ·replace hF := iteT hc2 hF
   refine cw_seq <| cw_ops hA ?_
   clear hA
   refine oa rfl rfl <| ops_nil fun a hA => cw_ret ?_
   cases hF
   exact fy Tryz.results45 hA rfl hS
  ·replace hF := iteF hc2 hF
   refine cw_skip <| cw_seq <| cw_ops hA ?_
   clear hA
   refine om rfl rfl <| oa rfl rfl <| ops_nil fun a hA => cw_ret ?_
   cases hF
   exact fy Tryz.results45 hA rfl hS
end Go.Proofs.YtpndngnohcffnaaGreat
