import Derived.Test.YtpndngnohcffnaaGreatXWalksC
set_option maxHeartbeats 4000000
set_option maxRecDepth 100000
namespace Go.Proofs.YtpndngnohcffnaaGreat
open Go.Gv
theorem c_laws_heldPinS {w0 : World} {a_ : List Pin} {k : Int} {s1 : Value} {r : Int} (h1 : Rep.rd (All w0) w0 [s1] (a_ : List Pin)) (hF : laws_heldPinS a_ k = some r) :
    Calls Tryz.prog 91 #[s1, .int .i64 (k)] w0 (Ret fun v w' => v = .int .i64 (r) ∧ St (cxAll w0) w' [] []) := by
 have hS : St (cxAll w0) w0 [] [fRd [s1] (a_ : List Pin)] := St.enter (by
   intro f hf
   simp only [List.mem_cons, List.not_mem_nil, or_false] at hf
   subst hf; exact h1)
 refine calls_cw (args := [_, _]) Tryz.func91 rfl Tryz.ntmps91 rfl ?_
 unfold laws_heldPinS at hF
 intro a hA
 refine cw_seq <| cw_ops hA ?_
 clear hA
 refine oa rfl rfl <| ops_nil fun a hA => cw_seq <| cw_seq <| cw_ops hA ?_
 clear hA
 refine oa rfl rfl <| ops_nil fun a hA => ?_
 obtain ⟨o1, hl1, hF⟩ := bindE hF
 refine cw_cut (J := fun a' w' => ∃ (x5 : Int), o1 = Out.brk x5 ∧ AEnv 53 [(1, .int .i64 (x5))] a' ∧ St (cxAll w0) w' [] []) ?_ ?_
 ·refine cw_block ?_
  refine cw_loop (body := laws_heldPinS_l1 a_) (r := o1) (fun sg a' w' => AEnv 53 [(0, s1), (1, .int .i64 (sg.1)), (5, .int .i64 (sg.2))] a' ∧ St (cxAll w0) w' [] [fRd [s1] (a_ : List Pin)]) ?_ hl1 ⟨hA.part ⟨rfl, rfl, rfl, trivial⟩, ((hS).sel [] rfl).selR [0] rfl⟩
  clear hA hS hl1
  rintro ⟨x3, x4⟩ a w q1 ⟨hA, hS⟩ hG1 hr1
  try dsimp only at hA hS
  unfold laws_heldPinS_l1 at hG1
  refine cw_seq <| cw_seq <| cw_ops hA ?_
  clear hA
  refine om rfl rfl <| om rfl rfl <| oy (rv_lenS (hS.rd 0 rfl) Tryz.underlying44 rfl rfl) rfl <| oy (rv_lss rfl rfl rfl) rfl <| ops_nil fun a hA => cw_cond hA rfl (fun hc1 => ?_) (fun hc1 => ?_)
  ·replace hG1 := iteT hc1 hG1
   refine cw_skip <| cw_seq <| cw_block <| cw_seq <| cw_seq <| cw_ops hA ?_
   clear hA
   refine om rfl rfl <| om rfl rfl ?_
   obtain ⟨x6, hx6, hG1⟩ := bindE hG1
   refine oy (rv_idx (m := 4) (hS.rd 0 rfl) rfl hx6 Tryz.underlying44 Tryz.sizeOf65 rfl rfl rfl) rfl <| oy (rv_fld (m := 0) Tryz.underlying65 rfl rfl Tryz.sizeOf4 rfl rfl) rfl <| oy (rv_load1 rfl rfl Tryz.isAgg4 (cell1 (CellsAt.sub (cs' := [.bool (x6.On)]) (el_Pin (hS.rd 0 rfl) (idx_some hx6).2.2) 0 rfl rfl))) rfl <| om rfl rfl <| oy (rv_rem rfl rfl rfl (by decide)) rfl ?_
   refine oy (rv_eql rfl rfl rfl) rfl <| oy (rv_neqb Tryz.underlying4 rfl rfl rfl) rfl <| ops_nil fun a hA => cw_cond hA rfl (fun hc2 => ?_) (fun hc2 => ?_)
   ·replace hG1 := iteT hc2 hG1
    refine cw_seq <| cw_ops hA ?_
    clear hA
    refine oa rfl rfl <| ops_nil fun a hA => cw_ret ?_
    cases hG1
    have ho := hr1 _ rfl; subst ho
    replace hF : some ((-1)) = some r := hF
    cases hF
    exact fy Tryz.results91 hA rfl hS
   ·replace hG1 := iteF hc2 hG1
    refine cw_skip <| cw_seq <| cw_ops hA ?_
    clear hA
    refine om rfl rfl <| oy (rv_add rfl rfl rfl) rfl <| oa rfl rfl <| ops_nil fun a hA => cw_seq <| cw_seq <| cw_ops hA ?_
    clear hA
    refine om rfl rfl <| om rfl rfl ?_
    obtain ⟨x7, hx7, hG1⟩ := bindE hG1
    refine oy (rv_idx (m := 4) (hS.rd 0 rfl) rfl hx7 Tryz.underlying44 Tryz.sizeOf65 rfl rfl rfl) rfl <| oy (rv_fld (m := 0) Tryz.underlying65 rfl rfl Tryz.sizeOf3 rfl rfl) rfl <| oy (rv_load1 rfl rfl Tryz.isAgg3 (cell1 (CellsAt.sub (cs' := [.int .i64 (x7.Epoch)]) (el_Pin (hS.rd 0 rfl) (idx_some hx7).2.2) 1 rfl rfl))) rfl <| om rfl rfl <| oy (rv_neq rfl rfl rfl) rfl <| ops_nil fun a hA => cw_cond hA rfl (fun hc3 => ?_) (fun hc3 => ?_)
    ·replace hG1 := iteT hc3 hG1
     refine cw_seq <| cw_ops hA ?_
     clear hA
     refine oa rfl rfl <| ops_nil fun a hA => cw_ret ?_
     cases hG1
     have ho := hr1 _ rfl; subst ho
     replace hF : some ((-1)) = some r := hF
     cases hF
     exact fy Tryz.results91 hA rfl hS
    ·replace hG1 := iteF hc3 hG1
     refine cw_skip <| cw_seq <| cw_ops hA ?_
     clear hA
     refine om rfl rfl <| oy (rv_add rfl rfl rfl) rfl <| oa rfl rfl <| ops_nil fun a hA => cw_seq <| cw_seq <| cw_ops hA ?_
     clear hA
     refine om rfl rfl <| om rfl rfl ?_
     obtain ⟨x8, hx8, hG1⟩ := bindE hG1
     refine oy (rv_idx (m := 4) (hS.rd 0 rfl) rfl hx8 Tryz.underlying44 Tryz.sizeOf65 rfl rfl rfl) rfl <| oy (rv_fld (m := 0) Tryz.underlying65 rfl rfl Tryz.sizeOf4 rfl rfl) rfl <| oy (rv_load1 rfl rfl Tryz.isAgg4 (cell1 (CellsAt.sub (cs' := [.bool (x8.Marked)]) (el_Pin (hS.rd 0 rfl) (idx_some hx8).2.2) 2 rfl rfl))) rfl <| om rfl rfl <| oy (rv_rem rfl rfl rfl (by decide)) rfl ?_
     refine oy (rv_eql rfl rfl rfl) rfl <| oy (rv_neqb Tryz.underlying4 rfl rfl rfl) rfl <| ops_nil fun a hA => cw_cond hA rfl (fun hc4 => ?_) (fun hc4 => ?_)
     ·replace hG1 := iteT hc4 hG1
      refine cw_seq <| cw_ops hA ?_
      clear hA
      refine oa rfl rfl <| ops_nil fun a hA => cw_ret ?_
      cases hG1
      have ho := hr1 _ rfl; subst ho
      replace hF : some ((-1)) = some r := hF
      cases hF
      exact fy Tryz.results91 hA rfl hS
     ·replace hG1 := iteF hc4 hG1
      refine cw_skip <| cw_seq <| cw_ops hA ?_
      clear hA
      refine om rfl rfl <| oy (rv_add rfl rfl rfl) rfl <| oa rfl rfl <| ops_nil fun a hA => cw_seq <| cw_seq <| cw_ops hA ?_
      clear hA
      refine om rfl rfl <| om rfl rfl ?_
      obtain ⟨x9, hx9, hG1⟩ := bindE hG1
      refine oy (rv_idx (m := 4) (hS.rd 0 rfl) rfl hx9 Tryz.underlying44 Tryz.sizeOf65 rfl rfl rfl) rfl <| oy (rv_fld (m := 0) Tryz.underlying65 rfl rfl Tryz.sizeOf3 rfl rfl) rfl <| oy (rv_load1 rfl rfl Tryz.isAgg3 (cell1 (CellsAt.sub (cs' := [.int .i64 (x9.Seen)]) (el_Pin (hS.rd 0 rfl) (idx_some hx9).2.2) 3 rfl rfl))) rfl <| om rfl rfl <| oy (rv_neq rfl rfl rfl) rfl <| ops_nil fun a hA => cw_cond hA rfl (fun hc5 => ?_) (fun hc5 => ?_)
      ·replace hG1 := iteT hc5 hG1
       refine cw_seq <| cw_ops hA ?_
       clear hA
       refine oa rfl rfl <| ops_nil fun a hA => cw_ret ?_
       cases hG1
       have ho := hr1 _ rfl; subst ho
       replace hF : some ((-1)) = some r := hF
       cases hF
       exact fy Tryz.results91 hA rfl hS
      ·replace hG1 := iteF hc5 hG1
       refine cw_skip <| cw_ops hA ?_
       clear hA
       refine om rfl rfl <| oy (rv_add rfl rfl rfl) rfl <| oa rfl rfl <| ops_nil fun a hA => cw_ops hA ?_
       clear hA
       refine om rfl rfl <| oy (rv_add rfl rfl rfl) rfl <| oa rfl rfl <| ops_nil fun a hA => ?_
       cases hG1
       exact ⟨_, rfl, ⟨hA.part ⟨rfl, rfl, rfl, trivial⟩, ((hS).sel [] rfl).selR [0] rfl⟩⟩
  ·replace hG1 := iteF hc1 hG1
   refine cw_exit <| xcons_hit ?_
   cases hG1
   have ho := hr1 _ rfl; subst ho
   exact ⟨x3, rfl, hA.part ⟨rfl, trivial⟩, ((hS).sel [] rfl).selR [] rfl⟩
 ·skip
  clear hA hS hl1
  rintro a w ⟨x5, heq, hA, hS⟩
  replace hF : laws_heldPinS_j1 x5 = some r := by rw [heq] at hF; exact hF
  clear heq
  unfold laws_heldPinS_j1 at hF
  refine cw_seq <| cw_ops hA ?_
  clear hA
  refine om rfl rfl <| oa rfl rfl <| ops_nil fun a hA => cw_ret ?_
  cases hF
  exact fy Tryz.results91 hA rfl hS

theorem c_laws_heldClock {w0 : World} {a_ : Clock} {k : Int} {s1 : Value} {r : Int} (h1 : Rep.rd (All w0) w0 [s1] (a_.Pins : List Pin)) (hF : laws_heldClock a_ k = some r) :
    Calls Tryz.prog 46 #[.agg #[.int .i64 (a_.Epoch), s1], .int .i64 (k)] w0 (Ret fun v w' => v = .int .i64 (r) ∧ St (cxAll w0) w' [] []) := by
 have hS : St (cxAll w0) w0 [] [fRd [s1] (a_.Pins : List Pin)] := St.enter (by
   intro f hf
   simp only [List.mem_cons, List.not_mem_nil, or_false] at hf
   subst hf; exact h1)
 refine calls_cw (args := [_, _]) Tryz.func46 rfl Tryz.ntmps46 rfl ?_
 unfold laws_heldClock at hF
 intro a hA
 refine cw_seq <| cw_ops hA ?_
 clear hA
 refine ops_mv (rv_box (cs := [.int .i64 (a_.Epoch), s1]) hS rfl rfl rfl) (want_yes rfl) rfl rfl ?_
 clear hS
 rintro _ w ⟨b1, rfl, hS⟩
 refine oa rfl rfl <| ops_nil fun a hA => cw_seq <| cw_ops hA ?_
 clear hA
 refine oy (rv_fld (m := 0) Tryz.underlying46 rfl rfl Tryz.sizeOf44 rfl rfl) rfl <| oy (rv_load1 rfl rfl Tryz.isAgg44 (hS.cell 0 rfl rfl)) rfl <| om rfl rfl ?_
 obtain ⟨x1, hx1, hF⟩ := bindE hF
 refine ops_c (rc_call Tryz.call91 rfl rfl) (want_yes rfl) rfl rfl (c_laws_heldPinS (a_ := a_.Pins) (k := k) (hS.rd 0 rfl) hx1) ?_
 rintro _ w ⟨rfl, hk⟩
 replace hS := hS.after hk; clear hk
 refine oa rfl rfl <| ops_nil fun a hA => cw_seq <| cw_seq <| cw_ops hA ?_
 clear hA
 refine om rfl rfl <| oy (rv_lss rfl rfl rfl) rfl <| ops_nil fun a hA => cw_cond hA rfl (fun hc1 => ?_) (fun hc1 => ?_)
 ·replace hF := iteT hc1 hF
  refine cw_seq <| cw_ops hA ?_
  clear hA
  refine oa rfl rfl <| ops_nil fun a hA => cw_ret ?_
  cases hF
  exact fy Tryz.results46 hA rfl hS
 ·replace hF := iteF hc1 hF
  refine cw_skip <| cw_seq <| cw_ops hA ?_
  clear hA
  refine om rfl rfl <| oa rfl rfl <| ops_nil fun a hA => cw_ret ?_
  cases hF
  exact fy Tryz.results46 hA rfl hS

theorem c_laws_heldLRowS {w0 : World} {a_ : List LRow} {k : Int} {s1 : Value} {r : Int} (h1 : Rep.rd (All w0) w0 [s1] (a_ : List LRow)) (hF : laws_heldLRowS a_ k = some r) :
    Calls Tryz.prog 92 #[s1, .int .i64 (k)] w0 (Ret fun v w' => v = .int .i64 (r) ∧ St (cxAll w0) w' [] []) := by
 have hS : St (cxAll w0) w0 [] [fRd [s1] (a_ : List LRow)] := St.enter (by
   intro f hf
   simp only [List.mem_cons, List.not_mem_nil, or_false] at hf
   subst hf; exact h1)
 refine calls_cw (args := [_, _]) Tryz.func92 rfl Tryz.ntmps92 rfl ?_
 unfold laws_heldLRowS at hF
 intro a hA
 refine cw_seq <| cw_ops hA ?_
 clear hA
 refine oa rfl rfl <| ops_nil fun a hA => cw_seq <| cw_seq <| cw_ops hA ?_
 clear hA
 refine oa rfl rfl <| ops_nil fun a hA => ?_
 obtain ⟨o1, hl1, hF⟩ := bindE hF
 refine cw_cut (J := fun a' w' => ∃ (x5 : Int), o1 = Out.brk x5 ∧ AEnv 31 [(1, .int .i64 (x5))] a' ∧ St (cxAll w0) w' [] []) ?_ ?_
 ·refine cw_block ?_
  refine cw_loop (body := laws_heldLRowS_l1 a_) (r := o1) (fun sg a' w' => AEnv 31 [(0, s1), (1, .int .i64 (sg.1)), (5, .int .i64 (sg.2))] a' ∧ St (cxAll w0) w' [] [fRd [s1] (a_ : List LRow)]) ?_ hl1 ⟨hA.part ⟨rfl, rfl, rfl, trivial⟩, ((hS).sel [] rfl).selR [0] rfl⟩
  clear hA hS hl1
  rintro ⟨x3, x4⟩ a w q1 ⟨hA, hS⟩ hG1 hr1
  try dsimp only at hA hS
  unfold laws_heldLRowS_l1 at hG1
  refine cw_seq <| cw_seq <| cw_ops hA ?_
  clear hA
  refine om rfl rfl <| om rfl rfl <| oy (rv_lenS (hS.rd 0 rfl) Tryz.underlying67 rfl rfl) rfl <| oy (rv_lss rfl rfl rfl) rfl <| ops_nil fun a hA => cw_cond hA rfl (fun hc1 => ?_) (fun hc1 => ?_)
  ·replace hG1 := iteT hc1 hG1
   refine cw_skip <| cw_seq <| cw_block <| cw_seq <| cw_seq <| cw_ops hA ?_
   clear hA
   refine om rfl rfl <| om rfl rfl ?_
   obtain ⟨x6, hx6, hG1⟩ := bindE hG1
   refine oy (rv_idx (m := 2) (hS.rd 0 rfl) rfl hx6 Tryz.underlying67 Tryz.sizeOf71 rfl rfl rfl) rfl <| oy (rv_fld (m := 0) Tryz.underlying71 rfl rfl Tryz.sizeOf3 rfl rfl) rfl <| oy (rv_load1 rfl rfl Tryz.isAgg3 (cell1 (CellsAt.sub (cs' := [.int .i64 (x6.Handle)]) (el_LRow (hS.rd 0 rfl) (idx_some hx6).2.2) 0 rfl rfl))) rfl <| om rfl rfl <| oy (rv_neq rfl rfl rfl) rfl <| ops_nil fun a hA => cw_cond hA rfl (fun hc2 => ?_) (fun hc2 => ?_)
   ·replace hG1 := iteT hc2 hG1
    refine cw_seq <| cw_ops hA ?_
    clear hA
    refine oa rfl rfl <| ops_nil fun a hA => cw_ret ?_
    cases hG1
    have ho := hr1 _ rfl; subst ho
    replace hF : some ((-1)) = some r := hF
    cases hF
    exact fy Tryz.results92 hA rfl hS
   ·replace hG1 := iteF hc2 hG1
    refine cw_skip <| cw_seq <| cw_ops hA ?_
    clear hA
    refine om rfl rfl <| oy (rv_add rfl rfl rfl) rfl <| oa rfl rfl <| ops_nil fun a hA => cw_seq <| cw_seq <| cw_ops hA ?_
    clear hA
    refine om rfl rfl <| om rfl rfl ?_
    obtain ⟨x7, hx7, hG1⟩ := bindE hG1
    refine oy (rv_idx (m := 2) (hS.rd 0 rfl) rfl hx7 Tryz.underlying67 Tryz.sizeOf71 rfl rfl rfl) rfl <| oy (rv_fld (m := 0) Tryz.underlying71 rfl rfl Tryz.sizeOf3 rfl rfl) rfl <| oy (rv_load1 rfl rfl Tryz.isAgg3 (cell1 (CellsAt.sub (cs' := [.int .i64 (x7.Epoch)]) (el_LRow (hS.rd 0 rfl) (idx_some hx7).2.2) 1 rfl rfl))) rfl <| om rfl rfl <| oy (rv_neq rfl rfl rfl) rfl <| ops_nil fun a hA => cw_cond hA rfl (fun hc3 => ?_) (fun hc3 => ?_)
    ·replace hG1 := iteT hc3 hG1
     refine cw_seq <| cw_ops hA ?_
     clear hA
     refine oa rfl rfl <| ops_nil fun a hA => cw_ret ?_
     cases hG1
     have ho := hr1 _ rfl; subst ho
     replace hF : some ((-1)) = some r := hF
     cases hF
     exact fy Tryz.results92 hA rfl hS
    ·replace hG1 := iteF hc3 hG1
     refine cw_skip <| cw_ops hA ?_
     clear hA
     refine om rfl rfl <| oy (rv_add rfl rfl rfl) rfl <| oa rfl rfl <| ops_nil fun a hA => cw_ops hA ?_
     clear hA
     refine om rfl rfl <| oy (rv_add rfl rfl rfl) rfl <| oa rfl rfl <| ops_nil fun a hA => ?_
     cases hG1
     exact ⟨_, rfl, ⟨hA.part ⟨rfl, rfl, rfl, trivial⟩, ((hS).sel [] rfl).selR [0] rfl⟩⟩
  ·replace hG1 := iteF hc1 hG1
   refine cw_exit <| xcons_hit ?_
   cases hG1
   have ho := hr1 _ rfl; subst ho
   exact ⟨x3, rfl, hA.part ⟨rfl, trivial⟩, ((hS).sel [] rfl).selR [] rfl⟩
 ·skip
  clear hA hS hl1
  rintro a w ⟨x5, heq, hA, hS⟩
  replace hF : laws_heldLRowS_j1 x5 = some r := by rw [heq] at hF; exact hF
  clear heq
  unfold laws_heldLRowS_j1 at hF
  refine cw_seq <| cw_ops hA ?_
  clear hA
  refine om rfl rfl <| oa rfl rfl <| ops_nil fun a hA => cw_ret ?_
  cases hF
  exact fy Tryz.results92 hA rfl hS

theorem c_laws_heldLListS {w0 : World} {a_ : List LList} {k : Int} {s1 : Value} {r : Int} (h1 : Rep.rd (All w0) w0 [s1] (a_ : List LList)) (hF : laws_heldLListS a_ k = some r) :
    Calls Tryz.prog 47 #[s1, .int .i64 (k)] w0 (Ret fun v w' => v = .int .i64 (r) ∧ St (cxAll w0) w' [] []) := by
 have hS : St (cxAll w0) w0 [] [fRd [s1] (a_ : List LList)] := St.enter (by
   intro f hf
   simp only [List.mem_cons, List.not_mem_nil, or_false] at hf
   subst hf; exact h1)
 refine calls_cw (args := [_, _]) Tryz.func47 rfl Tryz.ntmps47 rfl ?_
 unfold laws_heldLListS at hF
 intro a hA
 refine cw_seq <| cw_ops hA ?_
 clear hA
 refine oa rfl rfl <| ops_nil fun a hA => cw_seq <| cw_seq <| cw_ops hA ?_
 clear hA
 refine oa rfl rfl <| ops_nil fun a hA => ?_
 obtain ⟨o1, hl1, hF⟩ := bindE hF
 refine cw_cut (J := fun a' w' => ∃ (x5 : Int), o1 = Out.brk x5 ∧ AEnv 22 [(1, .int .i64 (x5))] a' ∧ St (cxAll w0) w' [] []) ?_ ?_
 ·refine cw_block ?_
  refine cw_loop (body := laws_heldLListS_l1 a_) (r := o1) (fun sg a' w' => AEnv 22 [(0, s1), (1, .int .i64 (sg.1)), (5, .int .i64 (sg.2))] a' ∧ St (cxAll w0) w' [] [fRd [s1] (a_ : List LList)]) ?_ hl1 ⟨hA.part ⟨rfl, rfl, rfl, trivial⟩, ((hS).sel [] rfl).selR [0] rfl⟩
  clear hA hS hl1
  rintro ⟨x3, x4⟩ a w q1 ⟨hA, hS⟩ hG1 hr1
  try dsimp only at hA hS
  unfold laws_heldLListS_l1 at hG1
  refine cw_seq <| cw_seq <| cw_ops hA ?_
  clear hA
  refine om rfl rfl <| om rfl rfl <| oy (rv_lenS (hS.rd 0 rfl) Tryz.underlying47 rfl rfl) rfl <| oy (rv_lss rfl rfl rfl) rfl <| ops_nil fun a hA => cw_cond hA rfl (fun hc1 => ?_) (fun hc1 => ?_)
  ·replace hG1 := iteT hc1 hG1
   refine cw_skip <| cw_seq <| cw_block <| cw_seq <| cw_ops hA ?_
   clear hA
   refine om rfl rfl <| om rfl rfl ?_
   obtain ⟨x6, hx6, hG1⟩ := bindE hG1
   refine oy (rv_idx (m := 1) (hS.rd 0 rfl) rfl hx6 Tryz.underlying47 Tryz.sizeOf69 rfl rfl rfl) rfl <| oy (rv_fld (m := 0) Tryz.underlying69 rfl rfl Tryz.sizeOf67 rfl rfl) rfl ?_
   obtain ⟨s2, hel, hS⟩ := hS.el_LList 0 rfl (idx_some hx6).2.2
   refine oy (rv_load1 rfl rfl Tryz.isAgg67 (cell1 (CellsAt.sub (cs' := [s2]) hel 0 rfl rfl))) rfl <| om rfl rfl ?_
   obtain ⟨x7, hx7, hG1⟩ := bindE hG1
   refine ops_c (rc_call Tryz.call92 rfl rfl) (want_yes rfl) rfl rfl (c_laws_heldLRowS (a_ := x6.Rows) (k := x3) (hS.rd 1 rfl) hx7) ?_
   rintro _ w ⟨rfl, hk⟩
   replace hS := hS.after hk; clear hk
   refine oa rfl rfl <| ops_nil fun a hA => cw_seq <| cw_ops hA ?_
   clear hA
   refine om rfl rfl <| oy (rv_lss rfl rfl rfl) rfl <| ops_nil fun a hA => cw_cond hA rfl (fun hc2 => ?_) (fun hc2 => ?_)
   ·replace hG1 := iteT hc2 hG1
    refine cw_seq <| cw_ops hA ?_
    clear hA
    refine oa rfl rfl <| ops_nil fun a hA => cw_ret ?_
    cases hG1
    have ho := hr1 _ rfl; subst ho
    replace hF : some ((-1)) = some r := hF
    cases hF
    exact fy Tryz.results47 hA rfl hS
   ·replace hG1 := iteF hc2 hG1
    refine cw_skip <| cw_ops hA ?_
    clear hA
    refine om rfl rfl <| oy (rv_add rfl rfl rfl) rfl <| oa rfl rfl <| ops_nil fun a hA => ?_
    cases hG1
    exact ⟨_, rfl, ⟨hA.part ⟨rfl, rfl, rfl, trivial⟩, ((hS).sel [] rfl).selR [0] rfl⟩⟩
  ·replace hG1 := iteF hc1 hG1
   refine cw_exit <| xcons_hit ?_
   cases hG1
   have ho := hr1 _ rfl; subst ho
   exact ⟨x3, rfl, hA.part ⟨rfl, trivial⟩, ((hS).sel [] rfl).selR [] rfl⟩
 ·skip
  clear hA hS hl1
  rintro a w ⟨x5, heq, hA, hS⟩
  replace hF : laws_heldLListS_j1 x5 = some r := by rw [heq] at hF; exact hF
  clear heq
  unfold laws_heldLListS_j1 at hF
  refine cw_seq <| cw_ops hA ?_
  clear hA
  refine om rfl rfl <| oa rfl rfl <| ops_nil fun a hA => cw_ret ?_
  cases hF
  exact fy Tryz.results47 hA rfl hS

theorem c_laws_heldBase {w0 : World} {a_ : Base} {k : Int} {s1 : Value} {s2 : Value} {s3 : Value} {s4 : Value} {s5 : Value} {s6 : Value} {s7 : Value} {r : Int} (h1 : Rep.rd (All w0) w0 [s1] (a_.Mem.Heap.Bytes : List Int)) (h2 : Rep.rd (All w0) w0 [s2] (a_.Mem.Heap.Class : List Int)) (h3 : Rep.rd (All w0) w0 [s3] (a_.Mem.Lists.Global : List SList)) (h4 : Rep.rd (All w0) w0 [s4] (a_.Mem.Lists.Own : List SList)) (h5 : Rep.rd (All w0) w0 [s5] (a_.Clock.Pins : List Pin)) (h6 : Rep.rd (All w0) w0 [s6] (a_.Limbo : List LList)) (h7 : Rep.rd (All w0) w0 [s7] (a_.Haz : List Int)) (hF : laws_heldBase a_ k = some r) :
    Calls Tryz.prog 13 #[.agg #[s1, s2, s3, s4, .int .i64 (a_.Clock.Epoch), s5, s6, s7], .int .i64 (k)] w0 (Ret fun v w' => v = .int .i64 (r) ∧ St (cxAll w0) w' [] []) := by
 have hS : St (cxAll w0) w0 [] [fRd [s1] (a_.Mem.Heap.Bytes : List Int), fRd [s2] (a_.Mem.Heap.Class : List Int), fRd [s3] (a_.Mem.Lists.Global : List SList), fRd [s4] (a_.Mem.Lists.Own : List SList), fRd [s5] (a_.Clock.Pins : List Pin), fRd [s6] (a_.Limbo : List LList), fRd [s7] (a_.Haz : List Int)] := St.enter (by
   intro f hf
   simp only [List.mem_cons, List.not_mem_nil, or_false] at hf
   rcases hf with rfl | rfl | rfl | rfl | rfl | rfl | rfl
   · exact h1
   · exact h2
   · exact h3
   · exact h4
   · exact h5
   · exact h6
   · exact h7)
 refine calls_cw (args := [_, _]) Tryz.func13 rfl Tryz.ntmps13 rfl ?_
 unfold laws_heldBase at hF
 intro a hA
 refine cw_seq <| cw_ops hA ?_
 clear hA
 refine ops_mv (rv_box (cs := [s1, s2, s3, s4, .int .i64 (a_.Clock.Epoch), s5, s6, s7]) hS rfl rfl rfl) (want_yes rfl) rfl rfl ?_
 clear hS
 rintro _ w ⟨b1, rfl, hS⟩
 refine oa rfl rfl <| ops_nil fun a hA => cw_seq <| cw_ops hA ?_
 clear hA
 refine oy (rv_fld (m := 3) Tryz.underlying49 rfl rfl Tryz.sizeOf43 rfl rfl) rfl <| oy (rv_loadN rfl rfl Tryz.isAgg43 Tryz.sizeOf43 rfl (hS.cells 0 0 (cs' := [s1, s2, s3, s4]) rfl rfl)) rfl <| om rfl rfl ?_
 obtain ⟨x1, hx1, hF⟩ := bindE hF
 refine ops_c (rc_call Tryz.call45 rfl rfl) (want_yes rfl) rfl rfl (c_laws_heldMem (a_ := a_.Mem) (k := k) (hS.rd 0 rfl) (hS.rd 1 rfl) (hS.rd 2 rfl) (hS.rd 3 rfl) hx1) ?_
 rintro _ w ⟨rfl, hk⟩
 replace hS := hS.after hk; clear hk
 refine oa rfl rfl <| ops_nil fun a hA => cw_seq <| cw_seq <| cw_ops hA ?_
 clear hA
 refine om rfl rfl <| oy (rv_lss rfl rfl rfl) rfl <| ops_nil fun a hA => cw_cond hA rfl (fun hc1 => ?_) (fun hc1 => ?_)
 ·replace hF := iteT hc1 hF
  refine cw_seq <| cw_ops hA ?_
  clear hA
  refine oa rfl rfl <| ops_nil fun a hA => cw_ret ?_
  cases hF
  exact fy Tryz.results13 hA rfl hS
 ·replace hF := iteF hc1 hF
  refine cw_skip <| cw_seq <| cw_ops hA ?_
  clear hA
  refine oy (rv_fld (m := 1) Tryz.underlying49 rfl rfl Tryz.sizeOf46 rfl rfl) rfl <| oy (rv_loadN rfl rfl Tryz.isAgg46 Tryz.sizeOf46 rfl (hS.cells 0 4 (cs' := [.int .i64 (a_.Clock.Epoch), s5]) rfl rfl)) rfl <| om rfl rfl ?_
  obtain ⟨x2, hx2, hF⟩ := bindE hF
  refine ops_c (rc_call Tryz.call46 rfl rfl) (want_yes rfl) rfl rfl (c_laws_heldClock (a_ := a_.Clock) (k := x1) (hS.rd 4 rfl) hx2) ?_
  rintro _ w ⟨rfl, hk⟩
  replace hS := hS.after hk; clear hk
  refine oa rfl rfl <| ops_nil fun a hA => cw_seq <| cw_seq <| cw_ops hA ?_
  clear hA
  refine om rfl rfl <| oy (rv_lss rfl rfl rfl) rfl <| ops_nil fun a hA => cw_cond hA rfl (fun hc2 => ?_) (fun hc2 => ?_)
  ·replace hF := iteT hc2 hF
   refine cw_seq <| cw_ops hA ?_
   clear hA
   refine oa rfl rfl <| ops_nil fun a hA => cw_ret ?_
   cases hF
   exact fy Tryz.results13 hA rfl hS
  ·replace hF := iteF hc2 hF
   refine cw_skip <| cw_seq <| cw_ops hA ?_
   clear hA
   refine oy (rv_fld (m := 0) Tryz.underlying49 rfl rfl Tryz.sizeOf47 rfl rfl) rfl <| oy (rv_load1 rfl rfl Tryz.isAgg47 (hS.cell 0 rfl rfl)) rfl <| om rfl rfl ?_
   obtain ⟨x3, hx3, hF⟩ := bindE hF
   refine ops_c (rc_call Tryz.call47 rfl rfl) (want_yes rfl) rfl rfl (c_laws_heldLListS (a_ := a_.Limbo) (k := x2) (hS.rd 5 rfl) hx3) ?_
   rintro _ w ⟨rfl, hk⟩
   replace hS := hS.after hk; clear hk
   refine oa rfl rfl <| ops_nil fun a hA => cw_seq <| cw_seq <| cw_ops hA ?_
   clear hA
   refine om rfl rfl <| oy (rv_lss rfl rfl rfl) rfl <| ops_nil fun a hA => cw_cond hA rfl (fun hc3 => ?_) (fun hc3 => ?_)
   ·replace hF := iteT hc3 hF
    refine cw_seq <| cw_ops hA ?_
    clear hA
    refine oa rfl rfl <| ops_nil fun a hA => cw_ret ?_
    cases hF
    exact fy Tryz.results13 hA rfl hS
   ·replace hF := iteF hc3 hF
    refine cw_skip <| cw_seq <| cw_ops hA ?_
    clear hA
    refine oy (rv_fld (m := 0) Tryz.underlying49 rfl rfl Tryz.sizeOf22 rfl rfl) rfl <| oy (rv_load1 rfl rfl Tryz.isAgg22 (hS.cell 0 rfl rfl)) rfl <| om rfl rfl ?_
    obtain ⟨x4, hx4, hF⟩ := bindE hF
    refine ops_c (rc_call Tryz.call48 rfl rfl) (want_yes rfl) rfl rfl (c_laws_heldIntS (a_ := a_.Haz) (k := x3) (hS.rd 6 rfl) hx4) ?_
    rintro _ w ⟨rfl, hk⟩
    replace hS := hS.after hk; clear hk
    refine oa rfl rfl <| ops_nil fun a hA => cw_seq <| cw_seq <| cw_ops hA ?_
    clear hA
    refine om rfl rfl <| oy (rv_lss rfl rfl rfl) rfl <| ops_nil fun a hA => cw_cond hA rfl (fun hc4 => ?_) (fun hc4 => ?_)
    ·replace hF := iteT hc4 hF
     refine cw_seq <| cw_ops hA ?_
     clear hA
     refine oa rfl rfl <| ops_nil fun a hA => cw_ret ?_
     cases hF
     exact fy Tryz.results13 hA rfl hS
    ·replace hF := iteF hc4 hF
     refine cw_skip <| cw_seq <| cw_ops hA ?_
     clear hA
     refine om rfl rfl <| oa rfl rfl <| ops_nil fun a hA => cw_ret ?_
     cases hF
     exact fy Tryz.results13 hA rfl hS

theorem c_laws_FnExactReadBase {w0 : World} {aS : List UInt8}  {r : Bool}  (hF : laws_FnExactReadBase aS = some r) :
    Calls Tryz.prog 4 #[sv (aS)] w0 (Ret fun v w' => v = .bool (r) ∧ St (cxAll w0) w' [] []) := by
 have hS : St (cxAll w0) w0 [] [] := St.enter (by
   intro f hf; cases hf)
 refine calls_cw (args := [_]) Tryz.func4 rfl Tryz.ntmps4 rfl ?_
 unfold laws_FnExactReadBase at hF
 intro a hA
 refine cw_seq <| cw_ops hA ?_
 clear hA
 refine oa rfl rfl <| ops_nil fun a hA => cw_seq <| cw_seq <| cw_ops hA ?_
 clear hA
 refine om rfl rfl <| oy (rv_lens Tryz.underlying9 rfl rfl) rfl <| oy (rv_gtr rfl rfl rfl) rfl <| ops_nil fun a hA => cw_cond hA rfl (fun hc1 => ?_) (fun hc1 => ?_)
 ·replace hF := iteT hc1 hF
  refine cw_seq <| cw_ops hA ?_
  clear hA
  refine oa rfl rfl <| ops_nil fun a hA => cw_ret ?_
  cases hF
  exact fy Tryz.results4 hA rfl hS
 ·replace hF := iteF hc1 hF
  refine cw_skip <| cw_seq <| cw_ops hA ?_
  clear hA
  refine om rfl rfl ?_
  obtain ⟨x1, hx1, hF⟩ := bindE hF
  refine ops_c (rc_call Tryz.call10 rfl rfl) (want_yes rfl) rfl rfl (c_spec_ReadBase (s := aS)  hx1) ?_
  rintro _ w ⟨s1, s2, s3, s4, s5, s6, s7, rfl, hk⟩
  replace hS := hS.after hk; clear hk
  refine om rfl rfl <| oy (rv_extract rfl rfl rfl) rfl <| oy (rv_extract rfl rfl rfl) rfl <| ops_mv (rv_alloc (cs := [(.slice none 0 0), (.slice none 0 0), (.slice none 0 0), (.slice none 0 0), .int .i64 (0), (.slice none 0 0), (.slice none 0 0), (.slice none 0 0)]) hS rfl Tryz.zeroValue49 rfl) (want_yes rfl) rfl rfl ?_
  clear hS
  rintro _ w ⟨b1, rfl, hS⟩
  refine ops_ms (rs_box (vs := [s1, s2, s3, s4, .int .i64 (x1.1.Clock.Epoch), s5, s6, s7]) hS (i := 7) rfl rfl rfl rfl rfl Tryz.sizeOf49 rfl rfl (all1 (one_rd (hS.rdOwn 0 rfl)) (all1 (one_rd (hS.rdOwn 1 rfl)) (all1 (one_rd (hS.rdOwn 2 rfl)) (all1 (one_rd (hS.rdOwn 3 rfl)) (all1 rfl (all1 (one_rd (hS.rdOwn 4 rfl)) (all1 (one_rd (hS.rdOwn 5 rfl)) (all1 (one_rd (hS.rdOwn 6 rfl)) rfl))))))))) (want_yes rfl) rfl ?_
  clear hS
  intro w hS
  refine oa rfl rfl <| ops_nil fun a hA => cw_seq <| cw_ops hA ?_
  clear hA
  refine om rfl rfl ?_
  obtain ⟨x2, hx2, hF⟩ := bindE hF
  refine ops_c (rc_call Tryz.call11 rfl rfl) (want_yes rfl) rfl rfl (c_impl_ReadBase (s := aS)  hx2) ?_
  rintro _ w ⟨s8, s9, s10, s11, s12, s13, s14, rfl, hk⟩
  replace hS := hS.after hk; clear hk
  replace hS : St (cxAll w0) w [cOwn [s1] (x1.1.Mem.Heap.Bytes : List Int), cOwn [s2] (x1.1.Mem.Heap.Class : List Int), cOwn [s3] (x1.1.Mem.Lists.Global : List SList), cOwn [s4] (x1.1.Mem.Lists.Own : List SList), cOwn [s5] (x1.1.Clock.Pins : List Pin), cOwn [s6] (x1.1.Limbo : List LList), cOwn [s7] (x1.1.Haz : List Int), cBox b1 [s1, s2, s3, s4, .int .i64 (x1.1.Clock.Epoch), s5, s6, s7], cOwn [s8] (x2.1.Mem.Heap.Bytes : List Int), cOwn [s9] (x2.1.Mem.Heap.Class : List Int), cOwn [s10] (x2.1.Mem.Lists.Global : List SList), cOwn [s11] (x2.1.Mem.Lists.Own : List SList), cOwn [s12] (x2.1.Clock.Pins : List Pin), cOwn [s13] (x2.1.Limbo : List LList), cOwn [s14] (x2.1.Haz : List Int)] [] := (hS.sel [0, 1, 2, 3, 4, 5, 6, 7, 8, 9, 10, 11, 12, 13, 14] rfl).selR [] rfl
  refine om rfl rfl <| oy (rv_extract rfl rfl rfl) rfl <| oy (rv_extract rfl rfl rfl) rfl <| ops_mv (rv_alloc (cs := [(.slice none 0 0), (.slice none 0 0), (.slice none 0 0), (.slice none 0 0), .int .i64 (0), (.slice none 0 0), (.slice none 0 0), (.slice none 0 0)]) hS rfl Tryz.zeroValue49 rfl) (want_yes rfl) rfl rfl ?_
  clear hS
  rintro _ w ⟨b2, rfl, hS⟩
  refine ops_ms (rs_box (vs := [s8, s9, s10, s11, .int .i64 (x2.1.Clock.Epoch), s12, s13, s14]) hS (i := 15) rfl rfl rfl rfl rfl Tryz.sizeOf49 rfl rfl (all1 (one_rd (hS.rdOwn 8 rfl)) (all1 (one_rd (hS.rdOwn 9 rfl)) (all1 (one_rd (hS.rdOwn 10 rfl)) (all1 (one_rd (hS.rdOwn 11 rfl)) (all1 rfl (all1 (one_rd (hS.rdOwn 12 rfl)) (all1 (one_rd (hS.rdOwn 13 rfl)) (all1 (one_rd (hS.rdOwn 14 rfl)) rfl))))))))) (want_yes rfl) rfl ?_
  clear hS
  intro w hS
  refine oa rfl rfl <| ops_nil fun a hA => cw_seq <| cw_seq <| cw_cut (J := fun a' w' => ∃ (x3 : Bool), laws_FnExactReadBase_j1 aS x1 x2 x3 = some r ∧ AEnv 66 [(0, sv (aS)), (3, .pointer (some ⟨b1, 0, none⟩)), (4, .bool (x1.2)), (5, .pointer (some ⟨b2, 0, none⟩)), (32, .bool (x3))] a' ∧ St (cxAll w0) w' [cOwn [s1] (x1.1.Mem.Heap.Bytes : List Int), cOwn [s2] (x1.1.Mem.Heap.Class : List Int), cOwn [s3] (x1.1.Mem.Lists.Global : List SList), cOwn [s4] (x1.1.Mem.Lists.Own : List SList), cOwn [s5] (x1.1.Clock.Pins : List Pin), cOwn [s6] (x1.1.Limbo : List LList), cOwn [s7] (x1.1.Haz : List Int), cBox b1 [s1, s2, s3, s4, .int .i64 (x1.1.Clock.Epoch), s5, s6, s7], cOwn [s8] (x2.1.Mem.Heap.Bytes : List Int), cOwn [s9] (x2.1.Mem.Heap.Class : List Int), cOwn [s10] (x2.1.Mem.Lists.Global : List SList), cOwn [s11] (x2.1.Mem.Lists.Own : List SList), cOwn [s12] (x2.1.Clock.Pins : List Pin), cOwn [s13] (x2.1.Limbo : List LList), cOwn [s14] (x2.1.Haz : List Int), cBox b2 [s8, s9, s10, s11, .int .i64 (x2.1.Clock.Epoch), s12, s13, s14]] []) ?_ ?_
  ·skip
   refine cw_ops hA ?_
   clear hA
   refine oy (rv_loadN rfl rfl Tryz.isAgg49 Tryz.sizeOf49 rfl (hS.cells 15 0 (cs' := [s8, s9, s10, s11, .int .i64 (x2.1.Clock.Epoch), s12, s13, s14]) rfl rfl)) rfl <| oy (rv_loadN rfl rfl Tryz.isAgg49 Tryz.sizeOf49 rfl (hS.cells 7 0 (cs' := [s1, s2, s3, s4, .int .i64 (x1.1.Clock.Epoch), s5, s6, s7]) rfl rfl)) rfl ?_
   obtain ⟨x10, hx10, hF⟩ := bindE hF
   refine ops_c (rc_call Tryz.call9 rfl rfl) (want_yes rfl) rfl rfl (c_laws_eqBase (a_ := x2.1) (b := x1.1) (hS.rdOwn 8 rfl) (hS.rdOwn 9 rfl) (hS.rdOwn 10 rfl) (hS.rdOwn 11 rfl) (hS.rdOwn 12 rfl) (hS.rdOwn 13 rfl) (hS.rdOwn 14 rfl) (hS.rdOwn 0 rfl) (hS.rdOwn 1 rfl) (hS.rdOwn 2 rfl) (hS.rdOwn 3 rfl) (hS.rdOwn 4 rfl) (hS.rdOwn 5 rfl) (hS.rdOwn 6 rfl) hx10) ?_
   rintro _ w ⟨rfl, hk⟩
   replace hS := hS.after hk; clear hk
   refine oy (rv_not rfl rfl) rfl <| om rfl rfl <| ops_case (s := 28) rfl (fun hc9 => ?_) (fun hc9 => ?_)
   ·replace hF := iteT hc9 hF
    refine ops_off (want_if rfl rfl rfl (by rw [hc9]; rfl)) rfl rfl ?_
    refine ops_off (want_if rfl rfl rfl (by rw [hc9]; rfl)) rfl rfl ?_
    refine ops_off (want_if rfl rfl rfl (by rw [hc9]; rfl)) rfl rfl ?_
    refine oy (rv_pick_t rfl rfl hc9 rfl) rfl <| ops_nil fun a hA => ?_
    exact ⟨true, hF, hA.part ⟨rfl, rfl, rfl, rfl, rfl, trivial⟩, ((hS).sel [0, 1, 2, 3, 4, 5, 6, 7, 8, 9, 10, 11, 12, 13, 14, 15] rfl).selR [] rfl⟩
   ·replace hF := iteF hc9 hF
    refine ops_v (rv_move rfl rfl) (want_if rfl rfl rfl (by rw [hc9]; rfl)) rfl rfl ?_
    refine ops_v (rv_move rfl rfl) (want_if rfl rfl rfl (by rw [hc9]; rfl)) rfl rfl ?_
    refine ops_v (rv_neqb Tryz.underlying4 rfl rfl rfl) (want_if rfl rfl rfl (by rw [hc9]; rfl)) rfl rfl ?_
    refine oy (rv_pick_f rfl rfl hc9 rfl) rfl <| ops_nil fun a hA => ?_
    exact ⟨!(x2.2 == x1.2), hF, hA.part ⟨rfl, rfl, rfl, rfl, rfl, trivial⟩, ((hS).sel [0, 1, 2, 3, 4, 5, 6, 7, 8, 9, 10, 11, 12, 13, 14, 15] rfl).selR [] rfl⟩
  ·skip
   clear hA hS hF
   rintro a w ⟨x3, hF, hA, hS⟩
   unfold laws_FnExactReadBase_j1 at hF
   refine cw_cond hA rfl (fun hc2 => ?_) (fun hc2 => ?_)
   ·replace hF := iteT hc2 hF
    refine cw_seq <| cw_ops hA ?_
    clear hA
    refine oa rfl rfl <| ops_nil fun a hA => cw_ret ?_
    cases hF
    exact fy Tryz.results4 hA rfl hS
   ·replace hF := iteF hc2 hF
    refine cw_skip <| cw_seq <| cw_ops hA ?_
    clear hA
    refine oa rfl rfl <| ops_nil fun a hA => cw_seq <| cw_ops hA ?_
    clear hA
    refine oy (rv_loadN rfl rfl Tryz.isAgg49 Tryz.sizeOf49 rfl (hS.cells 15 0 (cs' := [s8, s9, s10, s11, .int .i64 (x2.1.Clock.Epoch), s12, s13, s14]) rfl rfl)) rfl <| om rfl rfl ?_
    obtain ⟨c1, hg, hb⟩ := hS.give [8, 9, 10, 11, 12, 13, 14] rfl rfl
    obtain ⟨x4, hx4, hF⟩ := bindE hF
    refine ops_c (rc_call Tryz.call12 rfl rfl) (want_yes rfl) rfl rfl (c_laws_markBase (c := c1) (a_ := x2.1) (s1 := s8) (s2 := s9) (s3 := s10) (s4 := s11) (s5 := s12) (s6 := s13) (s7 := s14) (k := 1) (hg _ all_nil) hx4) ?_
    rintro _ w ⟨rfl, hk⟩
    replace hS := hb _ _ _ hk; clear hk hg hb
    replace hS : St (cxAll w0) w [cOwn [s1] (x1.1.Mem.Heap.Bytes : List Int), cOwn [s2] (x1.1.Mem.Heap.Class : List Int), cOwn [s3] (x1.1.Mem.Lists.Global : List SList), cOwn [s4] (x1.1.Mem.Lists.Own : List SList), cOwn [s5] (x1.1.Clock.Pins : List Pin), cOwn [s6] (x1.1.Limbo : List LList), cOwn [s7] (x1.1.Haz : List Int), cBox b1 [s1, s2, s3, s4, .int .i64 (x1.1.Clock.Epoch), s5, s6, s7], cBox b2 [s8, s9, s10, s11, .int .i64 (x2.1.Clock.Epoch), s12, s13, s14], cOwn [s8] (x4.2.1 : List Int), cOwn [s9] (x4.2.2.1 : List Int), cOwn [s10] (x4.2.2.2.1 : List SList), cOwn [s11] (x4.2.2.2.2.1 : List SList), cOwn [s12] (x4.2.2.2.2.2.1 : List Pin), cOwn [s13] (x4.2.2.2.2.2.2.1 : List LList), cOwn [s14] (x4.2.2.2.2.2.2.2 : List Int)] [] := (hS.sel [0, 1, 2, 3, 4, 5, 6, 7, 15, 16, 17, 18, 19, 20, 21, 22] rfl).selR [] rfl
    refine oa rfl rfl <| ops_nil fun a hA => cw_seq <| cw_ops hA ?_
    clear hA
    refine oa rfl rfl <| ops_nil fun a hA => cw_seq <| cw_ops hA ?_
    clear hA
    refine oy (rv_loadN rfl rfl Tryz.isAgg49 Tryz.sizeOf49 rfl (hS.cells 8 0 (cs' := [s8, s9, s10, s11, .int .i64 (x2.1.Clock.Epoch), s12, s13, s14]) rfl rfl)) rfl <| om rfl rfl ?_
    obtain ⟨x5, hx5, hF⟩ := bindE hF
    refine ops_c (rc_call Tryz.call13 rfl rfl) (want_yes rfl) rfl rfl (c_laws_heldBase (a_ := (⟨(⟨(⟨x4.2.1, x4.2.2.1⟩ : Heap), (⟨x4.2.2.2.1, x4.2.2.2.2.1⟩ : Lists)⟩ : Mem), (⟨x2.1.Clock.Epoch, x4.2.2.2.2.2.1⟩ : Clock), x4.2.2.2.2.2.2.1, x4.2.2.2.2.2.2.2⟩ : Base)) (k := 1) (hS.rdOwn 9 rfl) (hS.rdOwn 10 rfl) (hS.rdOwn 11 rfl) (hS.rdOwn 12 rfl) (hS.rdOwn 13 rfl) (hS.rdOwn 14 rfl) (hS.rdOwn 15 rfl) hx5) ?_
    rintro _ w ⟨rfl, hk⟩
    replace hS := hS.after hk; clear hk
    refine oa rfl rfl <| ops_nil fun a hA => cw_seq <| cw_seq <| cw_ops hA ?_
    clear hA
    refine om rfl rfl <| oy (rv_lss rfl rfl rfl) rfl <| ops_nil fun a hA => cw_cond hA rfl (fun hc3 => ?_) (fun hc3 => ?_)
    ·replace hF := iteT hc3 hF
     refine cw_seq <| cw_ops hA ?_
     clear hA
     refine oa rfl rfl <| ops_nil fun a hA => cw_ret ?_
     cases hF
     exact fy Tryz.results4 hA rfl hS
    ·replace hF := iteF hc3 hF
     refine cw_skip <| cw_seq <| cw_seq <| cw_ops hA ?_
     clear hA
     refine om rfl rfl <| om rfl rfl <| oy (rv_neq rfl rfl rfl) rfl <| ops_nil fun a hA => cw_cond hA rfl (fun hc4 => ?_) (fun hc4 => ?_)
     ·replace hF := iteT hc4 hF
      refine cw_seq <| cw_ops hA ?_
      clear hA
      refine oa rfl rfl <| ops_nil fun a hA => cw_ret ?_
      cases hF
      exact fy Tryz.results4 hA rfl hS
     ·replace hF := iteF hc4 hF
      refine cw_skip <| cw_seq <| cw_ops hA ?_
      clear hA
      refine om rfl rfl ?_
      obtain ⟨x6, hx6, hF⟩ := bindE hF
      refine ops_c (rc_call Tryz.call11 rfl rfl) (want_yes rfl) rfl rfl (c_impl_ReadBase (s := aS)  hx6) ?_
      rintro _ w ⟨s15, s16, s17, s18, s19, s20, s21, rfl, hk⟩
      replace hS := hS.after hk; clear hk
      replace hS : St (cxAll w0) w [cOwn [s1] (x1.1.Mem.Heap.Bytes : List Int), cOwn [s2] (x1.1.Mem.Heap.Class : List Int), cOwn [s3] (x1.1.Mem.Lists.Global : List SList), cOwn [s4] (x1.1.Mem.Lists.Own : List SList), cOwn [s5] (x1.1.Clock.Pins : List Pin), cOwn [s6] (x1.1.Limbo : List LList), cOwn [s7] (x1.1.Haz : List Int), cBox b1 [s1, s2, s3, s4, .int .i64 (x1.1.Clock.Epoch), s5, s6, s7], cBox b2 [s8, s9, s10, s11, .int .i64 (x2.1.Clock.Epoch), s12, s13, s14], cOwn [s8] (x4.2.1 : List Int), cOwn [s9] (x4.2.2.1 : List Int), cOwn [s10] (x4.2.2.2.1 : List SList), cOwn [s11] (x4.2.2.2.2.1 : List SList), cOwn [s12] (x4.2.2.2.2.2.1 : List Pin), cOwn [s13] (x4.2.2.2.2.2.2.1 : List LList), cOwn [s14] (x4.2.2.2.2.2.2.2 : List Int), cOwn [s15] (x6.1.Mem.Heap.Bytes : List Int), cOwn [s16] (x6.1.Mem.Heap.Class : List Int), cOwn [s17] (x6.1.Mem.Lists.Global : List SList), cOwn [s18] (x6.1.Mem.Lists.Own : List SList), cOwn [s19] (x6.1.Clock.Pins : List Pin), cOwn [s20] (x6.1.Limbo : List LList), cOwn [s21] (x6.1.Haz : List Int)] [] := (hS.sel [0, 1, 2, 3, 4, 5, 6, 7, 8, 9, 10, 11, 12, 13, 14, 15, 16, 17, 18, 19, 20, 21, 22] rfl).selR [] rfl
      refine om rfl rfl <| oy (rv_extract rfl rfl rfl) rfl <| oy (rv_extract rfl rfl rfl) rfl <| ops_mv (rv_alloc (cs := [(.slice none 0 0), (.slice none 0 0), (.slice none 0 0), (.slice none 0 0), .int .i64 (0), (.slice none 0 0), (.slice none 0 0), (.slice none 0 0)]) hS rfl Tryz.zeroValue49 rfl) (want_yes rfl) rfl rfl ?_
      clear hS
      rintro _ w ⟨b3, rfl, hS⟩
      refine ops_ms (rs_box (vs := [s15, s16, s17, s18, .int .i64 (x6.1.Clock.Epoch), s19, s20, s21]) hS (i := 23) rfl rfl rfl rfl rfl Tryz.sizeOf49 rfl rfl (all1 (one_rd (hS.rdOwn 16 rfl)) (all1 (one_rd (hS.rdOwn 17 rfl)) (all1 (one_rd (hS.rdOwn 18 rfl)) (all1 (one_rd (hS.rdOwn 19 rfl)) (all1 rfl (all1 (one_rd (hS.rdOwn 20 rfl)) (all1 (one_rd (hS.rdOwn 21 rfl)) (all1 (one_rd (hS.rdOwn 22 rfl)) rfl))))))))) (want_yes rfl) rfl ?_
      clear hS
      intro w hS
      refine oa rfl rfl <| ops_nil fun a hA => cw_seq <| cw_seq <| cw_cut (J := fun a' w' => ∃ (x7 : Bool), laws_FnExactReadBase_j2 x2 x4 x7 = some r ∧ AEnv 66 [(5, .pointer (some ⟨b2, 0, none⟩)), (7, .int .i64 (x4.1)), (57, .bool (x7))] a' ∧ St (cxAll w0) w' [cOwn [s8] (x4.2.1 : List Int), cOwn [s9] (x4.2.2.1 : List Int), cOwn [s10] (x4.2.2.2.1 : List SList), cOwn [s11] (x4.2.2.2.2.1 : List SList), cOwn [s12] (x4.2.2.2.2.2.1 : List Pin), cOwn [s13] (x4.2.2.2.2.2.2.1 : List LList), cOwn [s14] (x4.2.2.2.2.2.2.2 : List Int), cBox b2 [s8, s9, s10, s11, .int .i64 (x2.1.Clock.Epoch), s12, s13, s14]] []) ?_ ?_
      ·skip
       refine cw_ops hA ?_
       clear hA
       refine oy (rv_loadN rfl rfl Tryz.isAgg49 Tryz.sizeOf49 rfl (hS.cells 23 0 (cs' := [s15, s16, s17, s18, .int .i64 (x6.1.Clock.Epoch), s19, s20, s21]) rfl rfl)) rfl <| oy (rv_loadN rfl rfl Tryz.isAgg49 Tryz.sizeOf49 rfl (hS.cells 7 0 (cs' := [s1, s2, s3, s4, .int .i64 (x1.1.Clock.Epoch), s5, s6, s7]) rfl rfl)) rfl ?_
       obtain ⟨x9, hx9, hF⟩ := bindE hF
       refine ops_c (rc_call Tryz.call9 rfl rfl) (want_yes rfl) rfl rfl (c_laws_eqBase (a_ := x6.1) (b := x1.1) (hS.rdOwn 16 rfl) (hS.rdOwn 17 rfl) (hS.rdOwn 18 rfl) (hS.rdOwn 19 rfl) (hS.rdOwn 20 rfl) (hS.rdOwn 21 rfl) (hS.rdOwn 22 rfl) (hS.rdOwn 0 rfl) (hS.rdOwn 1 rfl) (hS.rdOwn 2 rfl) (hS.rdOwn 3 rfl) (hS.rdOwn 4 rfl) (hS.rdOwn 5 rfl) (hS.rdOwn 6 rfl) hx9) ?_
       rintro _ w ⟨rfl, hk⟩
       replace hS := hS.after hk; clear hk
       refine oy (rv_not rfl rfl) rfl <| om rfl rfl <| ops_case (s := 53) rfl (fun hc8 => ?_) (fun hc8 => ?_)
       ·replace hF := iteT hc8 hF
        refine ops_off (want_if rfl rfl rfl (by rw [hc8]; rfl)) rfl rfl ?_
        refine ops_off (want_if rfl rfl rfl (by rw [hc8]; rfl)) rfl rfl ?_
        refine ops_off (want_if rfl rfl rfl (by rw [hc8]; rfl)) rfl rfl ?_
        refine oy (rv_pick_t rfl rfl hc8 rfl) rfl <| ops_nil fun a hA => ?_
        exact ⟨true, hF, hA.part ⟨rfl, rfl, rfl, trivial⟩, ((hS).sel [9, 10, 11, 12, 13, 14, 15, 8] rfl).selR [] rfl⟩
       ·replace hF := iteF hc8 hF
        refine ops_v (rv_move rfl rfl) (want_if rfl rfl rfl (by rw [hc8]; rfl)) rfl rfl ?_
        refine ops_v (rv_move rfl rfl) (want_if rfl rfl rfl (by rw [hc8]; rfl)) rfl rfl ?_
        refine ops_v (rv_neqb Tryz.underlying4 rfl rfl rfl) (want_if rfl rfl rfl (by rw [hc8]; rfl)) rfl rfl ?_
        refine oy (rv_pick_f rfl rfl hc8 rfl) rfl <| ops_nil fun a hA => ?_
        exact ⟨!(x6.2 == x1.2), hF, hA.part ⟨rfl, rfl, rfl, trivial⟩, ((hS).sel [9, 10, 11, 12, 13, 14, 15, 8] rfl).selR [] rfl⟩
      ·skip
       clear hA hS hF
       rintro a w ⟨x7, hF, hA, hS⟩
       unfold laws_FnExactReadBase_j2 at hF
       refine cw_cond hA rfl (fun hc5 => ?_) (fun hc5 => ?_)
       ·replace hF := iteT hc5 hF
        refine cw_seq <| cw_ops hA ?_
        clear hA
        refine oa rfl rfl <| ops_nil fun a hA => cw_ret ?_
        cases hF
        exact fy Tryz.results4 hA rfl hS
       ·replace hF := iteF hc5 hF
        refine cw_skip <| cw_seq <| cw_ops hA ?_
        clear hA
        refine oa rfl rfl <| ops_nil fun a hA => cw_seq <| cw_ops hA ?_
        clear hA
        refine oy (rv_loadN rfl rfl Tryz.isAgg49 Tryz.sizeOf49 rfl (hS.cells 7 0 (cs' := [s8, s9, s10, s11, .int .i64 (x2.1.Clock.Epoch), s12, s13, s14]) rfl rfl)) rfl <| om rfl rfl ?_
        obtain ⟨x8, hx8, hF⟩ := bindE hF
        refine ops_c (rc_call Tryz.call13 rfl rfl) (want_yes rfl) rfl rfl (c_laws_heldBase (a_ := (⟨(⟨(⟨x4.2.1, x4.2.2.1⟩ : Heap), (⟨x4.2.2.2.1, x4.2.2.2.2.1⟩ : Lists)⟩ : Mem), (⟨x2.1.Clock.Epoch, x4.2.2.2.2.2.1⟩ : Clock), x4.2.2.2.2.2.2.1, x4.2.2.2.2.2.2.2⟩ : Base)) (k := 1) (hS.rdOwn 0 rfl) (hS.rdOwn 1 rfl) (hS.rdOwn 2 rfl) (hS.rdOwn 3 rfl) (hS.rdOwn 4 rfl) (hS.rdOwn 5 rfl) (hS.rdOwn 6 rfl) hx8) ?_
        rintro _ w ⟨rfl, hk⟩
        replace hS := hS.after hk; clear hk
        refine oa rfl rfl <| ops_nil fun a hA => cw_seq <| cw_seq <| cw_ops hA ?_
        clear hA
        refine om rfl rfl <| oy (rv_lss rfl rfl rfl) rfl <| ops_nil fun a hA => cw_cond hA rfl (fun hc6 => ?_) (fun hc6 => ?_)
        ·replace hF := iteT hc6 hF
         refine cw_seq <| cw_ops hA ?_
         clear hA
         refine oa rfl rfl <| ops_nil fun a hA => cw_ret ?_
         cases hF
         exact fy Tryz.results4 hA rfl hS
        ·replace hF := iteF hc6 hF
         refine cw_skip <| cw_seq <| cw_seq <| cw_ops hA ?_
         clear hA
         refine om rfl rfl <| om rfl rfl <| oy (rv_neq rfl rfl rfl) rfl <| ops_nil fun a hA => cw_cond hA rfl (fun hc7 => ?_) (fun hc7 => ?_)
         ·replace hF := iteT hc7 hF
          refine cw_seq <| cw_ops hA ?_
          clear hA
          refine oa rfl rfl <| ops_nil fun a hA => cw_ret ?_
          cases hF
          exact fy Tryz.results4 hA rfl hS
         ·replace hF := iteF hc7 hF
          refine cw_skip <| cw_seq <| cw_ops hA ?_
          clear hA
          refine oa rfl rfl <| ops_nil fun a hA => cw_ret ?_
          cases hF
          exact fy Tryz.results4 hA rfl hS
end Go.Proofs.YtpndngnohcffnaaGreat
