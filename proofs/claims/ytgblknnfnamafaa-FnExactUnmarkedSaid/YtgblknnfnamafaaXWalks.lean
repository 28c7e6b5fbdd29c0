import Derived.Test.YtgblknnfnamafaaXFns
import Derived.Test.YtgblknnfnamafaaProg
namespace Go.Proofs.Ytgblknnfnamafaa
open Go.Gv
theorem places_Try59 (w : World) : ((match Try.prog.underlying 59 with | some (.struct fs) => fs | _ => #[]).mapM fun (f : Field) => (do pure (f.offset, ← sizeOf f.type) : Sem (Nat × Nat))).run Try.prog w = .ok #[(0, 1), (1, 1), (2, 1), (3, 1)] w := by
  simp [Try.underlying59, Try.sizeOf3, Try.sizeOf4]

theorem inf_Try59 : Inf Try.prog 59 4 (.agg #[.bool false, .int .i64 0, .bool false, .int .i64 0]) := inf_of (b := 32) (by kernel_rfl) rfl

theorem mixed_Try : Try.prog.follows .mixedOrders = true := by kernel_rfl

theorem eqf_Try59 (D : Nat) (d d' : Pin) (w : World) : (Op.eqFields (D + 2) #[.bool (d.On), .int .i64 (d.Epoch), .bool (d.Marked), .int .i64 (d.Seen)] #[.bool (d'.On), .int .i64 (d'.Epoch), .bool (d'.Marked), .int .i64 (d'.Seen)] (match Try.prog.underlying 59 with | some (.struct fs) => fs | _ => #[]).toList).run Try.prog w = .ok (decide (d = d')) w := by
  rw [Try.underlying59]
  have h : (d.On == d'.On && (d.Epoch == d'.Epoch && (d.Marked == d'.Marked && (d.Seen == d'.Seen && true)))) = decide (d = d') := by
    cases d; cases d'; rw [Bool.eq_iff_iff]; simp
  rw [← h]
  exact eqf_cons _ _ _ _ _ rfl (part1 Try.isAgg4 rfl) (part1 Try.isAgg4 rfl) (ei_bool Try.underlying4) <|
    eqf_cons _ _ _ _ _ rfl (part1 Try.isAgg3 rfl) (part1 Try.isAgg3 rfl) (ei_int Try.underlying3) <|
    eqf_cons _ _ _ _ _ rfl (part1 Try.isAgg4 rfl) (part1 Try.isAgg4 rfl) (ei_bool Try.underlying4) <|
    eqf_cons _ _ _ _ _ rfl (part1 Try.isAgg3 rfl) (part1 Try.isAgg3 rfl) (ei_int Try.underlying3) <|
    eqf_nil _ _ _
set_option maxRecDepth 100000 in
theorem c_laws_szPinS {w0 : World} {a_ : List Pin} {left : Int} {s1 : Value} {r : Int} (h1 : Rep.rd (All w0) w0 [s1] (a_ : List Pin)) (hF : laws_szPinS a_ left = some r) :
    Calls Try.prog 20 #[s1, .int .i64 (left)] w0 (Ret fun v w' => v = .int .i64 (r) ∧ St (cxAll w0) w' [] []) := by
  have hS : St (cxAll w0) w0 [] [fRd [s1] (a_ : List Pin)] := St.enter (by
    intro f hf
    simp only [List.mem_cons, List.not_mem_nil, or_false] at hf
    subst hf; exact h1)
  refine calls_cw (args := [_, _]) Try.func20 rfl Try.ntmps20 rfl ?_
  unfold laws_szPinS at hF
  intro a hA
  refine cw_seq ?_
  refine cw_ops hA ?_
  clear hA
  refine ops_v (rv_assign rfl rfl) (want_yes rfl) rfl rfl ?_
  refine ops_nil ?_
  intro a hA
  refine cw_seq ?_
  refine cw_ops hA ?_
  clear hA
  refine ops_v (rv_move rfl rfl) (want_yes rfl) rfl rfl ?_
  refine ops_v (rv_move rfl rfl) (want_yes rfl) rfl rfl ?_
  refine ops_v (rv_lenS (hS.rd 0 rfl) Try.underlying22 rfl rfl) (want_yes rfl) rfl rfl ?_
  refine ops_v (rv_sub rfl rfl rfl) (want_yes rfl) rfl rfl ?_
  refine ops_v (rv_assign rfl rfl) (want_yes rfl) rfl rfl ?_
  refine ops_nil ?_
  intro a hA
  refine cw_seq ?_
  refine cw_seq ?_
  refine cw_ops hA ?_
  clear hA
  refine ops_v (rv_move rfl rfl) (want_yes rfl) rfl rfl ?_
  refine ops_v (rv_lss rfl rfl rfl) (want_yes rfl) rfl rfl ?_
  refine ops_nil ?_
  intro a hA
  refine cw_cond hA rfl (fun hc1 => ?_) (fun hc1 => ?_)
  · replace hF := iteT hc1 hF
    refine cw_seq ?_
    refine cw_ops hA ?_
    clear hA
    refine ops_v (rv_assign rfl rfl) (want_yes rfl) rfl rfl ?_
    refine ops_nil ?_
    intro a hA
    refine cw_ret ?_
    cases hF
    exact fin1 Try.results20 hA (res_tmp rfl) ⟨rfl, (hS.sel [] rfl).weaken (R' := []) (fun _ h => nomatch h)⟩
  · replace hF := iteF hc1 hF
    refine cw_skip ?_
    refine cw_seq ?_
    refine cw_ops hA ?_
    clear hA
    refine ops_v (rv_move rfl rfl) (want_yes rfl) rfl rfl ?_
    refine ops_v (rv_assign rfl rfl) (want_yes rfl) rfl rfl ?_
    refine ops_nil ?_
    intro a hA
    refine cw_ret ?_
    cases hF
    exact fin1 Try.results20 hA (res_tmp rfl) ⟨rfl, (hS.sel [] rfl).weaken (R' := []) (fun _ h => nomatch h)⟩

set_option maxRecDepth 100000 in
theorem c_laws_szClock {w0 : World} {a_ : Clock} {left : Int} {s1 : Value} {r : Int} (h1 : Rep.rd (All w0) w0 [s1] (a_.Pins : List Pin)) (hF : laws_szClock a_ left = some r) :
    Calls Try.prog 6 #[.agg #[.int .i64 (a_.Epoch), s1], .int .i64 (left)] w0 (Ret fun v w' => v = .int .i64 (r) ∧ St (cxAll w0) w' [] []) := by
  have hS : St (cxAll w0) w0 [] [fRd [s1] (a_.Pins : List Pin)] := St.enter (by
    intro f hf
    simp only [List.mem_cons, List.not_mem_nil, or_false] at hf
    subst hf; exact h1)
  refine calls_cw (args := [_, _]) Try.func6 rfl Try.ntmps6 rfl ?_
  unfold laws_szClock at hF
  intro a hA
  refine cw_seq ?_
  refine cw_ops hA ?_
  clear hA
  refine ops_mv (rv_box (cs := [.int .i64 (a_.Epoch), s1]) hS rfl rfl rfl) (want_yes rfl) rfl rfl ?_
  clear hS
  rintro _ w ⟨b1, rfl, hS⟩
  refine ops_v (rv_assign rfl rfl) (want_yes rfl) rfl rfl ?_
  refine ops_nil ?_
  intro a hA
  refine cw_seq ?_
  refine cw_ops hA ?_
  clear hA
  refine ops_v (rv_fld (m := 0) Try.underlying24 rfl rfl Try.sizeOf22 rfl rfl) (want_yes rfl) rfl rfl ?_
  refine ops_v (rv_load1 rfl rfl Try.isAgg22 (hS.cell 0 rfl rfl)) (want_yes rfl) rfl rfl ?_
  refine ops_v (rv_move rfl rfl) (want_yes rfl) rfl rfl ?_
  obtain ⟨x1, hx1, hF⟩ := bindE hF
  refine ops_c (rc_call Try.call20 rfl rfl) (want_yes rfl) rfl rfl (c_laws_szPinS (a_ := a_.Pins) (left := left) (hS.rd 0 rfl) hx1) ?_
  rintro _ w ⟨rfl, hk⟩
  replace hS := hS.after hk; clear hk
  refine ops_v (rv_assign rfl rfl) (want_yes rfl) rfl rfl ?_
  refine ops_nil ?_
  intro a hA
  refine cw_seq ?_
  refine cw_seq ?_
  refine cw_ops hA ?_
  clear hA
  refine ops_v (rv_move rfl rfl) (want_yes rfl) rfl rfl ?_
  refine ops_v (rv_lss rfl rfl rfl) (want_yes rfl) rfl rfl ?_
  refine ops_nil ?_
  intro a hA
  refine cw_cond hA rfl (fun hc1 => ?_) (fun hc1 => ?_)
  · replace hF := iteT hc1 hF
    refine cw_seq ?_
    refine cw_ops hA ?_
    clear hA
    refine ops_v (rv_assign rfl rfl) (want_yes rfl) rfl rfl ?_
    refine ops_nil ?_
    intro a hA
    refine cw_ret ?_
    cases hF
    exact fin1 Try.results6 hA (res_tmp rfl) ⟨rfl, (hS.sel [] rfl).weaken (R' := []) (fun _ h => nomatch h)⟩
  · replace hF := iteF hc1 hF
    refine cw_skip ?_
    refine cw_seq ?_
    refine cw_ops hA ?_
    clear hA
    refine ops_v (rv_move rfl rfl) (want_yes rfl) rfl rfl ?_
    refine ops_v (rv_assign rfl rfl) (want_yes rfl) rfl rfl ?_
    refine ops_nil ?_
    intro a hA
    refine cw_ret ?_
    cases hF
    exact fin1 Try.results6 hA (res_tmp rfl) ⟨rfl, (hS.sel [] rfl).weaken (R' := []) (fun _ h => nomatch h)⟩

set_option maxRecDepth 100000 in
theorem c_laws_toPin {w0 : World} {a_ : Pin}  {r : Pin}  (hF : laws_toPin a_ = some r) :
    Calls Try.prog 44 #[.agg #[.bool (a_.On), .int .i64 (a_.Epoch), .bool (a_.Marked), .int .i64 (a_.Seen)]] w0 (Ret fun v w' => v = .agg #[.bool (r.On), .int .i64 (r.Epoch), .bool (r.Marked), .int .i64 (r.Seen)] ∧ St (cxAll w0) w' [] []) := by
  have hS : St (cxAll w0) w0 [] [] := St.enter (by
    intro f hf; cases hf)
  refine calls_cw (args := [_]) Try.func44 rfl Try.ntmps44 rfl ?_
  unfold laws_toPin at hF
  intro a hA
  refine cw_seq ?_
  refine cw_ops hA ?_
  clear hA
  refine ops_mv (rv_box (cs := [.bool (a_.On), .int .i64 (a_.Epoch), .bool (a_.Marked), .int .i64 (a_.Seen)]) hS rfl rfl rfl) (want_yes rfl) rfl rfl ?_
  clear hS
  rintro _ w ⟨b1, rfl, hS⟩
  refine ops_mv (rv_alloc (cs := [.bool (false), .int .i64 (0), .bool (false), .int .i64 (0)]) hS rfl Try.zeroValue59 rfl) (want_yes rfl) rfl rfl ?_
  clear hS
  rintro _ w ⟨b2, rfl, hS⟩
  refine ops_nil ?_
  intro a hA
  refine cw_seq ?_
  refine cw_ops hA ?_
  clear hA
  refine ops_mv (rv_alloc (cs := [.bool (false), .int .i64 (0), .bool (false), .int .i64 (0)]) hS rfl Try.zeroValue59 rfl) (want_yes rfl) rfl rfl ?_
  clear hS
  rintro _ w ⟨b3, rfl, hS⟩
  refine ops_nil ?_
  intro a hA
  refine cw_seq ?_
  refine cw_ops hA ?_
  clear hA
  refine ops_v (rv_fld (m := 0) Try.underlying85 rfl rfl Try.sizeOf4 rfl rfl) (want_yes rfl) rfl rfl ?_
  refine ops_v (rv_load1 rfl rfl Try.isAgg4 (hS.cell 0 rfl rfl)) (want_yes rfl) rfl rfl ?_
  refine ops_v (rv_fld (m := 0) Try.underlying59 rfl rfl Try.sizeOf4 rfl rfl) (want_yes rfl) rfl rfl ?_
  refine ops_ms (rs_box (vs := [.bool (a_.On)]) hS (i := 2) rfl rfl rfl rfl rfl Try.sizeOf4 rfl rfl rfl) (want_yes rfl) rfl ?_
  clear hS
  intro w hS
  refine ops_nil ?_
  intro a hA
  refine cw_seq ?_
  refine cw_ops hA ?_
  clear hA
  refine ops_v (rv_fld (m := 0) Try.underlying85 rfl rfl Try.sizeOf3 rfl rfl) (want_yes rfl) rfl rfl ?_
  refine ops_v (rv_load1 rfl rfl Try.isAgg3 (hS.cell 0 rfl rfl)) (want_yes rfl) rfl rfl ?_
  refine ops_v (rv_fld (m := 0) Try.underlying59 rfl rfl Try.sizeOf3 rfl rfl) (want_yes rfl) rfl rfl ?_
  refine ops_ms (rs_box (vs := [.int .i64 (a_.Epoch)]) hS (i := 2) rfl rfl rfl rfl rfl Try.sizeOf3 rfl rfl rfl) (want_yes rfl) rfl ?_
  clear hS
  intro w hS
  refine ops_nil ?_
  intro a hA
  refine cw_seq ?_
  refine cw_ops hA ?_
  clear hA
  refine ops_v (rv_fld (m := 0) Try.underlying85 rfl rfl Try.sizeOf4 rfl rfl) (want_yes rfl) rfl rfl ?_
  refine ops_v (rv_load1 rfl rfl Try.isAgg4 (hS.cell 0 rfl rfl)) (want_yes rfl) rfl rfl ?_
  refine ops_v (rv_fld (m := 0) Try.underlying59 rfl rfl Try.sizeOf4 rfl rfl) (want_yes rfl) rfl rfl ?_
  refine ops_ms (rs_box (vs := [.bool (a_.Marked)]) hS (i := 2) rfl rfl rfl rfl rfl Try.sizeOf4 rfl rfl rfl) (want_yes rfl) rfl ?_
  clear hS
  intro w hS
  refine ops_nil ?_
  intro a hA
  refine cw_seq ?_
  refine cw_ops hA ?_
  clear hA
  refine ops_v (rv_fld (m := 0) Try.underlying85 rfl rfl Try.sizeOf3 rfl rfl) (want_yes rfl) rfl rfl ?_
  refine ops_v (rv_load1 rfl rfl Try.isAgg3 (hS.cell 0 rfl rfl)) (want_yes rfl) rfl rfl ?_
  refine ops_v (rv_fld (m := 0) Try.underlying59 rfl rfl Try.sizeOf3 rfl rfl) (want_yes rfl) rfl rfl ?_
  refine ops_ms (rs_box (vs := [.int .i64 (a_.Seen)]) hS (i := 2) rfl rfl rfl rfl rfl Try.sizeOf3 rfl rfl rfl) (want_yes rfl) rfl ?_
  clear hS
  intro w hS
  refine ops_nil ?_
  intro a hA
  refine cw_seq ?_
  refine cw_ops hA ?_
  clear hA
  refine ops_v (rv_loadN rfl rfl Try.isAgg59 Try.sizeOf59 rfl (hS.cells 2 0 (cs' := [.bool (a_.On), .int .i64 (a_.Epoch), .bool (a_.Marked), .int .i64 (a_.Seen)]) rfl rfl)) (want_yes rfl) rfl rfl ?_
  refine ops_ms (rs_box (vs := [.bool (a_.On), .int .i64 (a_.Epoch), .bool (a_.Marked), .int .i64 (a_.Seen)]) hS (i := 1) rfl rfl rfl rfl rfl Try.sizeOf59 rfl rfl rfl) (want_yes rfl) rfl ?_
  clear hS
  intro w hS
  refine ops_nil ?_
  intro a hA
  refine cw_ret ?_
  cases hF
  exact fin1 Try.results44 hA (res_cell rfl Try.isAgg59 Try.sizeOf59 rfl (hS.cells 1 0 (cs' := [.bool (a_.On), .int .i64 (a_.Epoch), .bool (a_.Marked), .int .i64 (a_.Seen)]) rfl rfl)) ⟨rfl, (hS.sel [] rfl).weaken (R' := []) (fun _ h => nomatch h)⟩

set_option maxRecDepth 100000 in
theorem c_laws_toPinS {w0 : World} {a_ : List Pin} {s1 : Value} {r : (List Pin)} (h1 : Rep.rd (All w0) w0 [s1] (a_ : List Pin)) (hF : laws_toPinS a_ = some r) :
    Calls Try.prog 22 #[s1] w0 (Ret fun v w' => ∃ s0_0 : Value, v = s0_0 ∧ St (cxAll w0) w' [cOwn [s0_0] (r : List Pin)] []) := by
  have hS : St (cxAll w0) w0 [] [fRd [s1] (a_ : List Pin)] := St.enter (by
    intro f hf
    simp only [List.mem_cons, List.not_mem_nil, or_false] at hf
    subst hf; exact h1)
  refine calls_cw (args := [_]) Try.func22 rfl Try.ntmps22 rfl ?_
  unfold laws_toPinS at hF
  intro a hA
  refine cw_seq ?_
  refine cw_ops hA ?_
  clear hA
  refine ops_v (rv_assign rfl rfl) (want_yes rfl) rfl rfl ?_
  refine ops_nil ?_
  intro a hA
  refine cw_seq ?_
  refine cw_ops hA ?_
  clear hA
  refine ops_v (rv_move rfl rfl) (want_yes rfl) rfl rfl ?_
  refine ops_v (rv_lenS (hS.rd 0 rfl) Try.underlying22 rfl rfl) (want_yes rfl) rfl rfl ?_
  obtain ⟨hn1, hF⟩ := needE hF
  refine ops_mv (rv_make ((⟨false, 0, false, 0⟩ : Pin) : Pin) hS rfl Try.underlying27 inf_Try59 rfl (fun _ => (mk_Pin ((⟨false, 0, false, 0⟩ : Pin)))) hn1 rfl rfl rfl) (want_yes rfl) rfl rfl ?_
  clear hS
  rintro s2 w hS
  refine ops_v (rv_assign rfl rfl) (want_yes rfl) rfl rfl ?_
  refine ops_nil ?_
  intro a hA
  refine cw_seq ?_
  refine cw_seq ?_
  refine cw_ops hA ?_
  clear hA
  refine ops_v (rv_assign rfl rfl) (want_yes rfl) rfl rfl ?_
  refine ops_nil ?_
  intro a hA
  obtain ⟨o1, hl1, hF⟩ := bindE hF
  refine cw_cut (J := fun a' w' => ∃ (x5 : List Pin) (s5 : Value), o1 = x5 ∧ AEnv 23 [(3, s5)] a' ∧ St (cxAll w0) w' [cOwn [s5] (x5 : List Pin)] []) ?_ ?_
  · refine cw_block ?_
    refine cw_loop (body := laws_toPinS_l1 a_) (r := o1) (fun sg a' w' => ∃ (s4 : Value), AEnv 23 [(0, s1), (3, s4), (4, .int .i64 (sg.2))] a' ∧ St (cxAll w0) w' [cOwn [s4] (sg.1 : List Pin)] [fRd [s1] (a_ : List Pin)]) ?_ hl1 ⟨s2, hA.part ⟨rfl, rfl, rfl, trivial⟩, ((hS).sel [0] rfl).selR [0] rfl⟩
    clear hA hS hl1
    rintro ⟨x3, x4⟩ a w q1 ⟨s4, hA, hS⟩ hG1 hr1
    try dsimp only at hA hS
    unfold laws_toPinS_l1 at hG1
    refine cw_seq ?_
    refine cw_seq ?_
    refine cw_ops hA ?_
    clear hA
    refine ops_v (rv_move rfl rfl) (want_yes rfl) rfl rfl ?_
    refine ops_v (rv_move rfl rfl) (want_yes rfl) rfl rfl ?_
    refine ops_v (rv_lenS (hS.rd 0 rfl) Try.underlying22 rfl rfl) (want_yes rfl) rfl rfl ?_
    refine ops_v (rv_lss rfl rfl rfl) (want_yes rfl) rfl rfl ?_
    refine ops_nil ?_
    intro a hA
    refine cw_cond hA rfl (fun hc1 => ?_) (fun hc1 => ?_)
    · replace hG1 := iteT hc1 hG1
      refine cw_skip ?_
      refine cw_seq ?_
      refine cw_block ?_
      refine cw_ops hA ?_
      clear hA
      refine ops_v (rv_move rfl rfl) (want_yes rfl) rfl rfl ?_
      refine ops_v (rv_move rfl rfl) (want_yes rfl) rfl rfl ?_
      refine ops_v (rv_move rfl rfl) (want_yes rfl) rfl rfl ?_
      refine ops_v (rv_move rfl rfl) (want_yes rfl) rfl rfl ?_
      obtain ⟨x6, hx6, hG1⟩ := bindE hG1
      refine ops_v (rv_idx (m := 4) (hS.rd 0 rfl) rfl hx6 Try.underlying22 Try.sizeOf85 rfl rfl rfl) (want_yes rfl) rfl rfl ?_
      refine ops_v (rv_loadN rfl rfl Try.isAgg85 Try.sizeOf85 rfl (el_Pin (hS.rd 0 rfl) (idx_some hx6).2.2)) (want_yes rfl) rfl rfl ?_
      obtain ⟨x7, hx7, hG1⟩ := bindE hG1
      refine ops_c (rc_call Try.call44 rfl rfl) (want_yes rfl) rfl rfl (c_laws_toPin (a_ := x6)  hx7) ?_
      rintro _ w ⟨rfl, hk⟩
      replace hS := hS.after hk; clear hk
      obtain ⟨x8, hx8, hG1⟩ := bindE hG1
      refine ops_v (rv_idx (m := 4) (hS.rdOwn 0 rfl) rfl hx8 Try.underlying27 Try.sizeOf59 rfl rfl rfl) (want_yes rfl) rfl rfl ?_
      refine ops_ms (rs_elem (vs := [.bool (x7.On), .int .i64 (x7.Epoch), .bool (x7.Marked), .int .i64 (x7.Seen)]) (f := 0) (xd := x7) hS (i := 0) rfl hx8 rfl (el_Pin (hS.rdOwn 0 rfl) (idx_some hx8).2.2) rfl (mk_Pin x7) Try.sizeOf59 rfl rfl rfl rfl rfl rfl rfl) (want_yes rfl) rfl ?_
      clear hS
      intro w hS
      refine ops_nil ?_
      intro a hA
      refine cw_ops hA ?_
      clear hA
      refine ops_v (rv_move rfl rfl) (want_yes rfl) rfl rfl ?_
      refine ops_v (rv_add rfl rfl rfl) (want_yes rfl) rfl rfl ?_
      refine ops_v (rv_assign rfl rfl) (want_yes rfl) rfl rfl ?_
      refine ops_nil ?_
      intro a hA
      cases hG1
      exact ⟨_, rfl, ⟨s4, hA.part ⟨rfl, rfl, rfl, trivial⟩, ((hS).sel [0] rfl).selR [0] rfl⟩⟩
    · replace hG1 := iteF hc1 hG1
      refine cw_exit ?_
      refine xcons_hit ?_
      cases hG1
      have ho := hr1 _ rfl; subst ho
      exact ⟨x3, s4, rfl, hA.part ⟨rfl, trivial⟩, ((hS).sel [0] rfl).selR [] rfl⟩
  · skip
    clear hA hS hl1
    rintro a w ⟨x5, s5, heq, hA, hS⟩
    replace hF : laws_toPinS_j1 x5 = some r := by rw [heq] at hF; exact hF
    clear heq
    unfold laws_toPinS_j1 at hF
    refine cw_seq ?_
    refine cw_ops hA ?_
    clear hA
    refine ops_v (rv_move rfl rfl) (want_yes rfl) rfl rfl ?_
    refine ops_v (rv_assign rfl rfl) (want_yes rfl) rfl rfl ?_
    refine ops_nil ?_
    intro a hA
    refine cw_ret ?_
    cases hF
    exact fin1 Try.results22 hA (res_tmp rfl) ⟨s5, rfl, (hS.sel [0] rfl).weaken (R' := []) (fun _ h => nomatch h)⟩

set_option maxRecDepth 100000 in
theorem c_laws_toClock {w0 : World} {a_ : Clock} {s1 : Value} {r : Clock} (h1 : Rep.rd (All w0) w0 [s1] (a_.Pins : List Pin)) (hF : laws_toClock a_ = some r) :
    Calls Try.prog 8 #[.agg #[.int .i64 (a_.Epoch), s1]] w0 (Ret fun v w' => ∃ s0_0 : Value, v = .agg #[.int .i64 (r.Epoch), s0_0] ∧ St (cxAll w0) w' [cOwn [s0_0] (r.Pins : List Pin)] []) := by
  have hS : St (cxAll w0) w0 [] [fRd [s1] (a_.Pins : List Pin)] := St.enter (by
    intro f hf
    simp only [List.mem_cons, List.not_mem_nil, or_false] at hf
    subst hf; exact h1)
  refine calls_cw (args := [_]) Try.func8 rfl Try.ntmps8 rfl ?_
  unfold laws_toClock at hF
  intro a hA
  refine cw_seq ?_
  refine cw_ops hA ?_
  clear hA
  refine ops_mv (rv_box (cs := [.int .i64 (a_.Epoch), s1]) hS rfl rfl rfl) (want_yes rfl) rfl rfl ?_
  clear hS
  rintro _ w ⟨b1, rfl, hS⟩
  refine ops_mv (rv_alloc (cs := [.int .i64 (0), (.slice none 0 0)]) hS rfl Try.zeroValue29 rfl) (want_yes rfl) rfl rfl ?_
  clear hS
  rintro _ w ⟨b2, rfl, hS⟩
  refine ops_nil ?_
  intro a hA
  refine cw_seq ?_
  refine cw_ops hA ?_
  clear hA
  refine ops_mv (rv_alloc (cs := [.int .i64 (0), (.slice none 0 0)]) hS rfl Try.zeroValue29 rfl) (want_yes rfl) rfl rfl ?_
  clear hS
  rintro _ w ⟨b3, rfl, hS⟩
  refine ops_nil ?_
  intro a hA
  refine cw_seq ?_
  refine cw_ops hA ?_
  clear hA
  refine ops_v (rv_fld (m := 0) Try.underlying24 rfl rfl Try.sizeOf3 rfl rfl) (want_yes rfl) rfl rfl ?_
  refine ops_v (rv_load1 rfl rfl Try.isAgg3 (hS.cell 0 rfl rfl)) (want_yes rfl) rfl rfl ?_
  refine ops_v (rv_fld (m := 0) Try.underlying29 rfl rfl Try.sizeOf3 rfl rfl) (want_yes rfl) rfl rfl ?_
  refine ops_ms (rs_box (vs := [.int .i64 (a_.Epoch)]) hS (i := 2) rfl rfl rfl rfl rfl Try.sizeOf3 rfl rfl rfl) (want_yes rfl) rfl ?_
  clear hS
  intro w hS
  refine ops_nil ?_
  intro a hA
  refine cw_seq ?_
  refine cw_ops hA ?_
  clear hA
  refine ops_v (rv_fld (m := 0) Try.underlying24 rfl rfl Try.sizeOf22 rfl rfl) (want_yes rfl) rfl rfl ?_
  refine ops_v (rv_load1 rfl rfl Try.isAgg22 (hS.cell 0 rfl rfl)) (want_yes rfl) rfl rfl ?_
  obtain ⟨x1, hx1, hF⟩ := bindE hF
  refine ops_c (rc_call Try.call22 rfl rfl) (want_yes rfl) rfl rfl (c_laws_toPinS (a_ := a_.Pins) (hS.rd 0 rfl) hx1) ?_
  rintro s2 w ⟨_, rfl, hk⟩
  replace hS := hS.after hk; clear hk
  refine ops_v (rv_fld (m := 0) Try.underlying29 rfl rfl Try.sizeOf27 rfl rfl) (want_yes rfl) rfl rfl ?_
  refine ops_ms (rs_box (vs := [s2]) hS (i := 2) rfl rfl rfl rfl (cells_rd (hS.rdOwn 3 rfl)) Try.sizeOf27 rfl rfl (all1 (one_rd (hS.rdOwn 3 rfl)) rfl)) (want_yes rfl) rfl ?_
  clear hS
  intro w hS
  refine ops_nil ?_
  intro a hA
  refine cw_seq ?_
  refine cw_ops hA ?_
  clear hA
  refine ops_v (rv_loadN rfl rfl Try.isAgg29 Try.sizeOf29 rfl (hS.cells 2 0 (cs' := [.int .i64 (a_.Epoch), s2]) rfl rfl)) (want_yes rfl) rfl rfl ?_
  refine ops_ms (rs_box (vs := [.int .i64 (a_.Epoch), s2]) hS (i := 1) rfl rfl rfl rfl rfl Try.sizeOf29 rfl rfl (all1 rfl (all1 (one_rd (hS.rdOwn 3 rfl)) rfl))) (want_yes rfl) rfl ?_
  clear hS
  intro w hS
  refine ops_nil ?_
  intro a hA
  refine cw_ret ?_
  cases hF
  exact fin1 Try.results8 hA (res_cell rfl Try.isAgg29 Try.sizeOf29 rfl (hS.cells 1 0 (cs' := [.int .i64 (a_.Epoch), s2]) rfl rfl)) ⟨s2, rfl, (hS.sel [3] rfl).weaken (R' := []) (fun _ h => nomatch h)⟩

set_option maxRecDepth 100000 in
theorem c_spec_l1In {w0 : World} {x : Int} {low : Int} {high : Int}  {r : Bool}  (hF : spec_l1In x low high = some r) :
    Calls Try.prog 43 #[.int .i64 (x), .int .i64 (low), .int .i64 (high)] w0 (Ret fun v w' => v = .bool (r) ∧ St (cxAll w0) w' [] []) := by
  have hS : St (cxAll w0) w0 [] [] := St.enter (by
    intro f hf; cases hf)
  refine calls_cw (args := [_, _, _]) Try.func43 rfl Try.ntmps43 rfl ?_
  unfold spec_l1In at hF
  intro a hA
  refine cw_seq ?_
  refine cw_ops hA ?_
  clear hA
  refine ops_v (rv_assign rfl rfl) (want_yes rfl) rfl rfl ?_
  refine ops_nil ?_
  intro a hA
  refine cw_seq ?_
  refine cw_cut (J := fun a' w' => ∃ (x1 : Bool), spec_l1In_j1 x1 = some r ∧ AEnv 15 [(6, .bool (x1))] a' ∧ St (cxAll w0) w' [] []) ?_ ?_
  · skip
    refine cw_ops hA ?_
    clear hA
    refine ops_v (rv_move rfl rfl) (want_yes rfl) rfl rfl ?_
    refine ops_v (rv_move rfl rfl) (want_yes rfl) rfl rfl ?_
    refine ops_v (rv_geq rfl rfl rfl) (want_yes rfl) rfl rfl ?_
    refine ops_v (rv_move rfl rfl) (want_yes rfl) rfl rfl ?_
    refine ops_case (s := 10) rfl (fun hc1 => ?_) (fun hc1 => ?_)
    · replace hF := iteT hc1 hF
      refine ops_v (rv_move rfl rfl) (want_if rfl rfl rfl (by rw [hc1]; rfl)) rfl rfl ?_
      refine ops_v (rv_move rfl rfl) (want_if rfl rfl rfl (by rw [hc1]; rfl)) rfl rfl ?_
      refine ops_v (rv_leq rfl rfl rfl) (want_if rfl rfl rfl (by rw [hc1]; rfl)) rfl rfl ?_
      refine ops_v (rv_pick_t rfl rfl hc1 rfl) (want_yes rfl) rfl rfl ?_
      refine ops_v (rv_assign rfl rfl) (want_yes rfl) rfl rfl ?_
      refine ops_nil ?_
      intro a hA
      exact ⟨decide (x ≤ high), hF, hA.part ⟨rfl, trivial⟩, ((hS).sel [] rfl).selR [] rfl⟩
    · replace hF := iteF hc1 hF
      refine ops_off (want_if rfl rfl rfl (by rw [hc1]; rfl)) rfl rfl ?_
      refine ops_off (want_if rfl rfl rfl (by rw [hc1]; rfl)) rfl rfl ?_
      refine ops_off (want_if rfl rfl rfl (by rw [hc1]; rfl)) rfl rfl ?_
      refine ops_v (rv_pick_f rfl rfl hc1 rfl) (want_yes rfl) rfl rfl ?_
      refine ops_v (rv_assign rfl rfl) (want_yes rfl) rfl rfl ?_
      refine ops_nil ?_
      intro a hA
      exact ⟨false, hF, hA.part ⟨rfl, trivial⟩, ((hS).sel [] rfl).selR [] rfl⟩
  · skip
    clear hA hS hF
    rintro a w ⟨x1, hF, hA, hS⟩
    unfold spec_l1In_j1 at hF
    refine cw_ret ?_
    cases hF
    exact fin1 Try.results43 hA (res_tmp rfl) ⟨rfl, (hS.sel [] rfl).weaken (R' := []) (fun _ h => nomatch h)⟩

set_option maxRecDepth 100000 in
theorem c_spec_ClockOk {w0 : World} {c : Clock} {s1 : Value} {r : Bool} (h1 : Rep.rd (All w0) w0 [s1] (c.Pins : List Pin)) (hF : spec_ClockOk c = some r) :
    Calls Try.prog 21 #[.agg #[.int .i64 (c.Epoch), s1]] w0 (Ret fun v w' => v = .bool (r) ∧ St (cxAll w0) w' [] []) := by
  have hS : St (cxAll w0) w0 [] [fRd [s1] (c.Pins : List Pin)] := St.enter (by
    intro f hf
    simp only [List.mem_cons, List.not_mem_nil, or_false] at hf
    subst hf; exact h1)
  refine calls_cw (args := [_]) Try.func21 rfl Try.ntmps21 rfl ?_
  unfold spec_ClockOk at hF
  intro a hA
  refine cw_seq ?_
  refine cw_ops hA ?_
  clear hA
  refine ops_mv (rv_box (cs := [.int .i64 (c.Epoch), s1]) hS rfl rfl rfl) (want_yes rfl) rfl rfl ?_
  clear hS
  rintro _ w ⟨b1, rfl, hS⟩
  refine ops_v (rv_assign rfl rfl) (want_yes rfl) rfl rfl ?_
  refine ops_nil ?_
  intro a hA
  refine cw_seq ?_
  refine cw_seq ?_
  refine cw_cut (J := fun a' w' => ∃ (x1 : Bool), spec_ClockOk_j1 c x1 = some r ∧ AEnv 46 [(1, .pointer (some ⟨b1, 0, none⟩)), (14, .bool (x1))] a' ∧ St (cxAll w0) w' [cBox b1 [.int .i64 (c.Epoch), s1]] [fRd [s1] (c.Pins : List Pin)]) ?_ ?_
  · skip
    refine cw_ops hA ?_
    clear hA
    refine ops_v (rv_fld (m := 0) Try.underlying29 rfl rfl Try.sizeOf3 rfl rfl) (want_yes rfl) rfl rfl ?_
    refine ops_v (rv_load1 rfl rfl Try.isAgg3 (hS.cell 0 rfl rfl)) (want_yes rfl) rfl rfl ?_
    obtain ⟨x10, hx10, hF⟩ := bindE hF
    refine ops_c (rc_call Try.call43 rfl rfl) (want_yes rfl) rfl rfl (c_spec_l1In (x := c.Epoch) (low := 0) (high := 100000)  hx10) ?_
    rintro _ w ⟨rfl, hk⟩
    replace hS := hS.after hk; clear hk
    refine ops_v (rv_not rfl rfl) (want_yes rfl) rfl rfl ?_
    refine ops_v (rv_move rfl rfl) (want_yes rfl) rfl rfl ?_
    refine ops_case (s := 9) rfl (fun hc8 => ?_) (fun hc8 => ?_)
    · replace hF := iteT hc8 hF
      refine ops_off (want_if rfl rfl rfl (by rw [hc8]; rfl)) rfl rfl ?_
      refine ops_off (want_if rfl rfl rfl (by rw [hc8]; rfl)) rfl rfl ?_
      refine ops_off (want_if rfl rfl rfl (by rw [hc8]; rfl)) rfl rfl ?_
      refine ops_off (want_if rfl rfl rfl (by rw [hc8]; rfl)) rfl rfl ?_
      refine ops_v (rv_pick_t rfl rfl hc8 rfl) (want_yes rfl) rfl rfl ?_
      refine ops_nil ?_
      intro a hA
      exact ⟨true, hF, hA.part ⟨rfl, rfl, trivial⟩, ((hS).sel [0] rfl).selR [0] rfl⟩
    · replace hF := iteF hc8 hF
      refine ops_v (rv_fld (m := 0) Try.underlying29 rfl rfl Try.sizeOf27 rfl rfl) (want_if rfl rfl rfl (by rw [hc8]; rfl)) rfl rfl ?_
      refine ops_v (rv_load1 rfl rfl Try.isAgg27 (hS.cell 0 rfl rfl)) (want_if rfl rfl rfl (by rw [hc8]; rfl)) rfl rfl ?_
      refine ops_v (rv_lenS (hS.rd 0 rfl) Try.underlying27 rfl rfl) (want_if rfl rfl rfl (by rw [hc8]; rfl)) rfl rfl ?_
      refine ops_v (rv_neq rfl rfl rfl) (want_if rfl rfl rfl (by rw [hc8]; rfl)) rfl rfl ?_
      refine ops_v (rv_pick_f rfl rfl hc8 rfl) (want_yes rfl) rfl rfl ?_
      refine ops_nil ?_
      intro a hA
      exact ⟨((c.Pins.length : Int)) != 3, hF, hA.part ⟨rfl, rfl, trivial⟩, ((hS).sel [0] rfl).selR [0] rfl⟩
  · skip
    clear hA hS hF
    rintro a w ⟨x1, hF, hA, hS⟩
    unfold spec_ClockOk_j1 at hF
    refine cw_cond hA rfl (fun hc1 => ?_) (fun hc1 => ?_)
    · replace hF := iteT hc1 hF
      refine cw_seq ?_
      refine cw_ops hA ?_
      clear hA
      refine ops_v (rv_assign rfl rfl) (want_yes rfl) rfl rfl ?_
      refine ops_nil ?_
      intro a hA
      refine cw_ret ?_
      cases hF
      exact fin1 Try.results21 hA (res_tmp rfl) ⟨rfl, (hS.sel [] rfl).weaken (R' := []) (fun _ h => nomatch h)⟩
    · replace hF := iteF hc1 hF
      refine cw_skip ?_
      refine cw_seq ?_
      refine cw_seq ?_
      refine cw_ops hA ?_
      clear hA
      refine ops_v (rv_assign rfl rfl) (want_yes rfl) rfl rfl ?_
      refine ops_nil ?_
      intro a hA
      obtain ⟨o1, hl1, hF⟩ := bindE hF
      refine cw_cut (J := fun a' w' => o1 = Out.brk (()) ∧ AEnv 46 [] a' ∧ St (cxAll w0) w' [] []) ?_ ?_
      · refine cw_block ?_
        refine cw_loop (body := spec_ClockOk_l2 c) (r := o1) (fun sg a' w' => AEnv 46 [(1, .pointer (some ⟨b1, 0, none⟩)), (3, .int .i64 (sg))] a' ∧ St (cxAll w0) w' [cBox b1 [.int .i64 (c.Epoch), s1]] [fRd [s1] (c.Pins : List Pin)]) ?_ hl1 ⟨hA.part ⟨rfl, rfl, trivial⟩, ((hS).sel [0] rfl).selR [0] rfl⟩
        clear hA hS hl1
        rintro x3 a w q2 ⟨hA, hS⟩ hG2 hr2
        try dsimp only at hA hS
        unfold spec_ClockOk_l2 at hG2
        refine cw_seq ?_
        refine cw_seq ?_
        refine cw_ops hA ?_
        clear hA
        refine ops_v (rv_move rfl rfl) (want_yes rfl) rfl rfl ?_
        refine ops_v (rv_lss rfl rfl rfl) (want_yes rfl) rfl rfl ?_
        refine ops_nil ?_
        intro a hA
        refine cw_cond hA rfl (fun hc2 => ?_) (fun hc2 => ?_)
        · replace hG2 := iteT hc2 hG2
          refine cw_skip ?_
          refine cw_seq ?_
          refine cw_block ?_
          refine cw_seq ?_
          refine cw_ops hA ?_
          clear hA
          refine ops_v (rv_fld (m := 0) Try.underlying29 rfl rfl Try.sizeOf27 rfl rfl) (want_yes rfl) rfl rfl ?_
          refine ops_v (rv_load1 rfl rfl Try.isAgg27 (hS.cell 0 rfl rfl)) (want_yes rfl) rfl rfl ?_
          refine ops_v (rv_move rfl rfl) (want_yes rfl) rfl rfl ?_
          obtain ⟨x4, hx4, hG2⟩ := bindE hG2
          refine ops_v (rv_idx (m := 4) (hS.rd 0 rfl) rfl hx4 Try.underlying27 Try.sizeOf59 rfl rfl rfl) (want_yes rfl) rfl rfl ?_
          refine ops_v (rv_loadN rfl rfl Try.isAgg59 Try.sizeOf59 rfl (el_Pin (hS.rd 0 rfl) (idx_some hx4).2.2)) (want_yes rfl) rfl rfl ?_
          refine ops_mv (rv_alloc (cs := [.bool (false), .int .i64 (0), .bool (false), .int .i64 (0)]) hS rfl Try.zeroValue59 rfl) (want_yes rfl) rfl rfl ?_
          clear hS
          rintro _ w ⟨b2, rfl, hS⟩
          refine ops_ms (rs_box (vs := [.bool (x4.On), .int .i64 (x4.Epoch), .bool (x4.Marked), .int .i64 (x4.Seen)]) hS (i := 1) rfl rfl rfl rfl rfl Try.sizeOf59 rfl rfl rfl) (want_yes rfl) rfl ?_
          clear hS
          intro w hS
          refine ops_nil ?_
          intro a hA
          refine cw_seq ?_
          refine cw_cut (J := fun a' w' => ∃ (x5 : Bool), spec_ClockOk_j3 x3 x5 = some q2 ∧ AEnv 46 [(1, .pointer (some ⟨b1, 0, none⟩)), (3, .int .i64 (x3)), (45, .bool (x5))] a' ∧ St (cxAll w0) w' [cBox b1 [.int .i64 (c.Epoch), s1]] [fRd [s1] (c.Pins : List Pin)]) ?_ ?_
          · skip
            refine cw_ops hA ?_
            clear hA
            refine ops_v (rv_fld (m := 0) Try.underlying59 rfl rfl Try.sizeOf4 rfl rfl) (want_yes rfl) rfl rfl ?_
            refine ops_v (rv_load1 rfl rfl Try.isAgg4 (hS.cell 1 rfl rfl)) (want_yes rfl) rfl rfl ?_
            refine ops_v (rv_not rfl rfl) (want_yes rfl) rfl rfl ?_
            refine ops_v (rv_move rfl rfl) (want_yes rfl) rfl rfl ?_
            refine ops_case (s := 27) rfl (fun hc4 => ?_) (fun hc4 => ?_)
            · replace hG2 := iteT hc4 hG2
              refine ops_v (rv_loadN rfl rfl Try.isAgg59 Try.sizeOf59 rfl (hS.cells 1 0 (cs' := [.bool (x4.On), .int .i64 (x4.Epoch), .bool (x4.Marked), .int .i64 (x4.Seen)]) rfl rfl)) (want_if rfl rfl rfl (by rw [hc4]; rfl)) rfl rfl ?_
              refine ops_v (rv_build (cells := #[.bool (false), .int .i64 (0), .bool (false), .int .i64 (0)]) rfl Try.zeroValue59 Try.underlying59 (by have h := places_Try59; rw [Try.underlying59] at h; exact h) rfl rfl) (want_if rfl rfl rfl (by rw [hc4]; rfl)) rfl rfl ?_
              refine ops_v (rv_neqS Try.eqGuardType59 Try.stoodInHeld59 Try.underlying59 (eqf_Try59 9997 x4 (⟨false, 0, false, 0⟩ : Pin)) rfl rfl rfl) (want_if rfl rfl rfl (by rw [hc4]; rfl)) rfl rfl ?_
              refine ops_v (rv_pick_t rfl rfl hc4 rfl) (want_yes rfl) rfl rfl ?_
              refine ops_v (rv_move rfl rfl) (want_yes rfl) rfl rfl ?_
              refine ops_case (s := 32) rfl (fun hc5 => ?_) (fun hc5 => ?_)
              · replace hG2 := iteT hc5 hG2
                refine ops_off (want_if rfl rfl rfl (by rw [hc5]; rfl)) rfl rfl ?_
                refine ops_off (want_if rfl rfl rfl (by rw [hc5]; rfl)) rfl rfl ?_
                refine ops_off (want_if rfl rfl rfl (by rw [hc5]; rfl)) rfl rfl ?_
                refine ops_off (want_if rfl rfl rfl (by rw [hc5]; rfl)) rfl rfl ?_
                refine ops_off (want_if rfl rfl rfl (by rw [hc5]; rfl)) rfl rfl ?_
                refine ops_off (want_if rfl rfl rfl (by rw [hc5]; rfl)) rfl rfl ?_
                refine ops_v (rv_pick_t rfl rfl hc5 rfl) (want_yes rfl) rfl rfl ?_
                refine ops_v (rv_move rfl rfl) (want_yes rfl) rfl rfl ?_
                refine ops_off (want_if rfl rfl rfl rfl) rfl rfl ?_
                refine ops_off (want_if rfl rfl rfl rfl) rfl rfl ?_
                refine ops_off (want_if rfl rfl rfl rfl) rfl rfl ?_
                refine ops_off (want_if rfl rfl rfl rfl) rfl rfl ?_
                refine ops_v (rv_pick_t rfl rfl rfl rfl) (want_yes rfl) rfl rfl ?_
                refine ops_nil ?_
                intro a hA
                exact ⟨true, hG2, hA.part ⟨rfl, rfl, rfl, trivial⟩, ((hS).sel [0] rfl).selR [0] rfl⟩
              · replace hG2 := iteF hc5 hG2
                refine ops_v (rv_fld (m := 0) Try.underlying59 rfl rfl Try.sizeOf3 rfl rfl) (want_if rfl rfl rfl (by rw [hc5]; rfl)) rfl rfl ?_
                refine ops_v (rv_load1 rfl rfl Try.isAgg3 (hS.cell 1 rfl rfl)) (want_if rfl rfl rfl (by rw [hc5]; rfl)) rfl rfl ?_
                refine ops_v (rv_fld (m := 0) Try.underlying29 rfl rfl Try.sizeOf3 rfl rfl) (want_if rfl rfl rfl (by rw [hc5]; rfl)) rfl rfl ?_
                refine ops_v (rv_load1 rfl rfl Try.isAgg3 (hS.cell 0 rfl rfl)) (want_if rfl rfl rfl (by rw [hc5]; rfl)) rfl rfl ?_
                obtain ⟨x6, hx6, hG2⟩ := bindE hG2
                refine ops_c (rc_call Try.call43 rfl rfl) (want_if rfl rfl rfl (by rw [hc5]; rfl)) rfl rfl (c_spec_l1In (x := x4.Epoch) (low := 0) (high := c.Epoch)  hx6) ?_
                rintro _ w ⟨rfl, hk⟩
                replace hS := hS.after hk; clear hk
                refine ops_v (rv_not rfl rfl) (want_if rfl rfl rfl (by rw [hc5]; rfl)) rfl rfl ?_
                refine ops_v (rv_pick_f rfl rfl hc5 rfl) (want_yes rfl) rfl rfl ?_
                refine ops_v (rv_move rfl rfl) (want_yes rfl) rfl rfl ?_
                refine ops_case (s := 40) rfl (fun hc6 => ?_) (fun hc6 => ?_)
                · replace hG2 := iteT hc6 hG2
                  refine ops_off (want_if rfl rfl rfl (by rw [hc6]; rfl)) rfl rfl ?_
                  refine ops_off (want_if rfl rfl rfl (by rw [hc6]; rfl)) rfl rfl ?_
                  refine ops_off (want_if rfl rfl rfl (by rw [hc6]; rfl)) rfl rfl ?_
                  refine ops_off (want_if rfl rfl rfl (by rw [hc6]; rfl)) rfl rfl ?_
                  refine ops_v (rv_pick_t rfl rfl hc6 rfl) (want_yes rfl) rfl rfl ?_
                  refine ops_nil ?_
                  intro a hA
                  exact ⟨true, hG2, hA.part ⟨rfl, rfl, rfl, trivial⟩, ((hS).sel [0] rfl).selR [0] rfl⟩
                · replace hG2 := iteF hc6 hG2
                  refine ops_v (rv_fld (m := 0) Try.underlying59 rfl rfl Try.sizeOf3 rfl rfl) (want_if rfl rfl rfl (by rw [hc6]; rfl)) rfl rfl ?_
                  refine ops_v (rv_load1 rfl rfl Try.isAgg3 (hS.cell 1 rfl rfl)) (want_if rfl rfl rfl (by rw [hc6]; rfl)) rfl rfl ?_
                  obtain ⟨x7, hx7, hG2⟩ := bindE hG2
                  refine ops_c (rc_call Try.call43 rfl rfl) (want_if rfl rfl rfl (by rw [hc6]; rfl)) rfl rfl (c_spec_l1In (x := x4.Seen) (low := 0) (high := 2)  hx7) ?_
                  rintro _ w ⟨rfl, hk⟩
                  replace hS := hS.after hk; clear hk
                  refine ops_v (rv_not rfl rfl) (want_if rfl rfl rfl (by rw [hc6]; rfl)) rfl rfl ?_
                  refine ops_v (rv_pick_f rfl rfl hc6 rfl) (want_yes rfl) rfl rfl ?_
                  refine ops_nil ?_
                  intro a hA
                  exact ⟨!x7, hG2, hA.part ⟨rfl, rfl, rfl, trivial⟩, ((hS).sel [0] rfl).selR [0] rfl⟩
            · replace hG2 := iteF hc4 hG2
              refine ops_off (want_if rfl rfl rfl (by rw [hc4]; rfl)) rfl rfl ?_
              refine ops_off (want_if rfl rfl rfl (by rw [hc4]; rfl)) rfl rfl ?_
              refine ops_off (want_if rfl rfl rfl (by rw [hc4]; rfl)) rfl rfl ?_
              refine ops_v (rv_pick_f rfl rfl hc4 rfl) (want_yes rfl) rfl rfl ?_
              refine ops_v (rv_move rfl rfl) (want_yes rfl) rfl rfl ?_
              refine ops_v (rv_fld (m := 0) Try.underlying59 rfl rfl Try.sizeOf3 rfl rfl) (want_if rfl rfl rfl rfl) rfl rfl ?_
              refine ops_v (rv_load1 rfl rfl Try.isAgg3 (hS.cell 1 rfl rfl)) (want_if rfl rfl rfl rfl) rfl rfl ?_
              refine ops_v (rv_fld (m := 0) Try.underlying29 rfl rfl Try.sizeOf3 rfl rfl) (want_if rfl rfl rfl rfl) rfl rfl ?_
              refine ops_v (rv_load1 rfl rfl Try.isAgg3 (hS.cell 0 rfl rfl)) (want_if rfl rfl rfl rfl) rfl rfl ?_
              obtain ⟨x8, hx8, hG2⟩ := bindE hG2
              refine ops_c (rc_call Try.call43 rfl rfl) (want_if rfl rfl rfl rfl) rfl rfl (c_spec_l1In (x := x4.Epoch) (low := 0) (high := c.Epoch)  hx8) ?_
              rintro _ w ⟨rfl, hk⟩
              replace hS := hS.after hk; clear hk
              refine ops_v (rv_not rfl rfl) (want_if rfl rfl rfl rfl) rfl rfl ?_
              refine ops_v (rv_pick_f rfl rfl rfl rfl) (want_yes rfl) rfl rfl ?_
              refine ops_v (rv_move rfl rfl) (want_yes rfl) rfl rfl ?_
              refine ops_case (s := 40) rfl (fun hc7 => ?_) (fun hc7 => ?_)
              · replace hG2 := iteT hc7 hG2
                refine ops_off (want_if rfl rfl rfl (by rw [hc7]; rfl)) rfl rfl ?_
                refine ops_off (want_if rfl rfl rfl (by rw [hc7]; rfl)) rfl rfl ?_
                refine ops_off (want_if rfl rfl rfl (by rw [hc7]; rfl)) rfl rfl ?_
                refine ops_off (want_if rfl rfl rfl (by rw [hc7]; rfl)) rfl rfl ?_
                refine ops_v (rv_pick_t rfl rfl hc7 rfl) (want_yes rfl) rfl rfl ?_
                refine ops_nil ?_
                intro a hA
                exact ⟨true, hG2, hA.part ⟨rfl, rfl, rfl, trivial⟩, ((hS).sel [0] rfl).selR [0] rfl⟩
              · replace hG2 := iteF hc7 hG2
                refine ops_v (rv_fld (m := 0) Try.underlying59 rfl rfl Try.sizeOf3 rfl rfl) (want_if rfl rfl rfl (by rw [hc7]; rfl)) rfl rfl ?_
                refine ops_v (rv_load1 rfl rfl Try.isAgg3 (hS.cell 1 rfl rfl)) (want_if rfl rfl rfl (by rw [hc7]; rfl)) rfl rfl ?_
                obtain ⟨x9, hx9, hG2⟩ := bindE hG2
                refine ops_c (rc_call Try.call43 rfl rfl) (want_if rfl rfl rfl (by rw [hc7]; rfl)) rfl rfl (c_spec_l1In (x := x4.Seen) (low := 0) (high := 2)  hx9) ?_
                rintro _ w ⟨rfl, hk⟩
                replace hS := hS.after hk; clear hk
                refine ops_v (rv_not rfl rfl) (want_if rfl rfl rfl (by rw [hc7]; rfl)) rfl rfl ?_
                refine ops_v (rv_pick_f rfl rfl hc7 rfl) (want_yes rfl) rfl rfl ?_
                refine ops_nil ?_
                intro a hA
                exact ⟨!x9, hG2, hA.part ⟨rfl, rfl, rfl, trivial⟩, ((hS).sel [0] rfl).selR [0] rfl⟩
          · skip
            clear hA hS hG2
            rintro a w ⟨x5, hG2, hA, hS⟩
            unfold spec_ClockOk_j3 at hG2
            refine cw_cond hA rfl (fun hc3 => ?_) (fun hc3 => ?_)
            · replace hG2 := iteT hc3 hG2
              refine cw_seq ?_
              refine cw_ops hA ?_
              clear hA
              refine ops_v (rv_assign rfl rfl) (want_yes rfl) rfl rfl ?_
              refine ops_nil ?_
              intro a hA
              refine cw_ret ?_
              cases hG2
              have ho := hr2 _ rfl; subst ho
              replace hF : some false = some r := hF
              cases hF
              exact fin1 Try.results21 hA (res_tmp rfl) ⟨rfl, (hS.sel [] rfl).weaken (R' := []) (fun _ h => nomatch h)⟩
            · replace hG2 := iteF hc3 hG2
              refine cw_skip ?_
              refine cw_ops hA ?_
              clear hA
              refine ops_v (rv_move rfl rfl) (want_yes rfl) rfl rfl ?_
              refine ops_v (rv_add rfl rfl rfl) (want_yes rfl) rfl rfl ?_
              refine ops_v (rv_assign rfl rfl) (want_yes rfl) rfl rfl ?_
              refine ops_nil ?_
              intro a hA
              cases hG2
              exact ⟨_, rfl, ⟨hA.part ⟨rfl, rfl, trivial⟩, ((hS).sel [0] rfl).selR [0] rfl⟩⟩
        · replace hG2 := iteF hc2 hG2
          refine cw_exit ?_
          refine xcons_hit ?_
          cases hG2
          have ho := hr2 _ rfl; subst ho
          exact ⟨rfl, hA.part trivial, ((hS).sel [] rfl).selR [] rfl⟩
      · skip
        clear hA hS hl1
        rintro a w ⟨heq, hA, hS⟩
        replace hF : spec_ClockOk_j2 = some r := by rw [heq] at hF; exact hF
        clear heq
        unfold spec_ClockOk_j2 at hF
        refine cw_seq ?_
        refine cw_ops hA ?_
        clear hA
        refine ops_v (rv_assign rfl rfl) (want_yes rfl) rfl rfl ?_
        refine ops_nil ?_
        intro a hA
        refine cw_ret ?_
        cases hF
        exact fin1 Try.results21 hA (res_tmp rfl) ⟨rfl, (hS.sel [] rfl).weaken (R' := []) (fun _ h => nomatch h)⟩

set_option maxRecDepth 100000 in
theorem c_spec_Unmarked {w0 : World} {c : Clock} {s1 : Value} {r : Int} (h1 : Rep.rd (All w0) w0 [s1] (c.Pins : List Pin)) (hF : spec_Unmarked c = some r) :
    Calls Try.prog 7 #[.agg #[.int .i64 (c.Epoch), s1]] w0 (Ret fun v w' => v = .int .i64 (r) ∧ St (cxAll w0) w' [] []) := by
  have hS : St (cxAll w0) w0 [] [fRd [s1] (c.Pins : List Pin)] := St.enter (by
    intro f hf
    simp only [List.mem_cons, List.not_mem_nil, or_false] at hf
    subst hf; exact h1)
  refine calls_cw (args := [_]) Try.func7 rfl Try.ntmps7 rfl ?_
  unfold spec_Unmarked at hF
  intro a hA
  refine cw_seq ?_
  refine cw_ops hA ?_
  clear hA
  refine ops_mv (rv_box (cs := [.int .i64 (c.Epoch), s1]) hS rfl rfl rfl) (want_yes rfl) rfl rfl ?_
  clear hS
  rintro _ w ⟨b1, rfl, hS⟩
  refine ops_v (rv_assign rfl rfl) (want_yes rfl) rfl rfl ?_
  refine ops_nil ?_
  intro a hA
  refine cw_seq ?_
  refine cw_ops hA ?_
  clear hA
  refine ops_v (rv_assign rfl rfl) (want_yes rfl) rfl rfl ?_
  refine ops_nil ?_
  intro a hA
  refine cw_seq ?_
  refine cw_seq ?_
  refine cw_ops hA ?_
  clear hA
  refine ops_v (rv_assign rfl rfl) (want_yes rfl) rfl rfl ?_
  refine ops_nil ?_
  intro a hA
  obtain ⟨o1, hl1, hF⟩ := bindE hF
  refine cw_cut (J := fun a' w' => ∃ (x5 : Int), o1 = x5 ∧ AEnv 31 [(3, .int .i64 (x5))] a' ∧ St (cxAll w0) w' [] []) ?_ ?_
  · refine cw_block ?_
    refine cw_loop (body := spec_Unmarked_l1 c) (r := o1) (fun sg a' w' => AEnv 31 [(1, .pointer (some ⟨b1, 0, none⟩)), (3, .int .i64 (sg.1)), (4, .int .i64 (sg.2))] a' ∧ St (cxAll w0) w' [cBox b1 [.int .i64 (c.Epoch), s1]] [fRd [s1] (c.Pins : List Pin)]) ?_ hl1 ⟨hA.part ⟨rfl, rfl, rfl, trivial⟩, ((hS).sel [0] rfl).selR [0] rfl⟩
    clear hA hS hl1
    rintro ⟨x3, x4⟩ a w q1 ⟨hA, hS⟩ hG1 hr1
    try dsimp only at hA hS
    unfold spec_Unmarked_l1 at hG1
    refine cw_seq ?_
    refine cw_seq ?_
    refine cw_cut (J := fun a' w' => ∃ (x6 : Bool), spec_Unmarked_j2 c x3 x4 x6 = some q1 ∧ AEnv 31 [(1, .pointer (some ⟨b1, 0, none⟩)), (3, .int .i64 (x3)), (4, .int .i64 (x4)), (10, .bool (x6))] a' ∧ St (cxAll w0) w' [cBox b1 [.int .i64 (c.Epoch), s1]] [fRd [s1] (c.Pins : List Pin)]) ?_ ?_
    · skip
      refine cw_ops hA ?_
      clear hA
      refine ops_v (rv_move rfl rfl) (want_yes rfl) rfl rfl ?_
      refine ops_v (rv_lss rfl rfl rfl) (want_yes rfl) rfl rfl ?_
      refine ops_v (rv_move rfl rfl) (want_yes rfl) rfl rfl ?_
      refine ops_case (s := 7) rfl (fun hc4 => ?_) (fun hc4 => ?_)
      · replace hG1 := iteT hc4 hG1
        refine ops_v (rv_loadN rfl rfl Try.isAgg29 Try.sizeOf29 rfl (hS.cells 0 0 (cs' := [.int .i64 (c.Epoch), s1]) rfl rfl)) (want_if rfl rfl rfl (by rw [hc4]; rfl)) rfl rfl ?_
        obtain ⟨x11, hx11, hG1⟩ := bindE hG1
        refine ops_c (rc_call Try.call21 rfl rfl) (want_if rfl rfl rfl (by rw [hc4]; rfl)) rfl rfl (c_spec_ClockOk (c := c) (hS.rd 0 rfl) hx11) ?_
        rintro _ w ⟨rfl, hk⟩
        replace hS := hS.after hk; clear hk
        refine ops_v (rv_pick_t rfl rfl hc4 rfl) (want_yes rfl) rfl rfl ?_
        refine ops_nil ?_
        intro a hA
        exact ⟨x11, hG1, hA.part ⟨rfl, rfl, rfl, rfl, trivial⟩, ((hS).sel [0] rfl).selR [0] rfl⟩
      · replace hG1 := iteF hc4 hG1
        refine ops_off (want_if rfl rfl rfl (by rw [hc4]; rfl)) rfl rfl ?_
        refine ops_off (want_if rfl rfl rfl (by rw [hc4]; rfl)) rfl rfl ?_
        refine ops_v (rv_pick_f rfl rfl hc4 rfl) (want_yes rfl) rfl rfl ?_
        refine ops_nil ?_
        intro a hA
        exact ⟨false, hG1, hA.part ⟨rfl, rfl, rfl, rfl, trivial⟩, ((hS).sel [0] rfl).selR [0] rfl⟩
    · skip
      clear hA hS hG1
      rintro a w ⟨x6, hG1, hA, hS⟩
      unfold spec_Unmarked_j2 at hG1
      refine cw_cond hA rfl (fun hc1 => ?_) (fun hc1 => ?_)
      · replace hG1 := iteT hc1 hG1
        refine cw_skip ?_
        refine cw_seq ?_
        refine cw_cut (J := fun a' w' => ∃ (x7 : Int), spec_Unmarked_j3 x4 x7 = some q1 ∧ AEnv 31 [(1, .pointer (some ⟨b1, 0, none⟩)), (3, .int .i64 (x7)), (4, .int .i64 (x4))] a' ∧ St (cxAll w0) w' [cBox b1 [.int .i64 (c.Epoch), s1]] [fRd [s1] (c.Pins : List Pin)]) ?_ ?_
        · skip
          refine cw_block ?_
          refine cw_seq ?_
          refine cw_cut (J := fun a' w' => ∃ (x8 : Bool), spec_Unmarked_j4 x3 x4 x8 = some q1 ∧ AEnv 31 [(1, .pointer (some ⟨b1, 0, none⟩)), (3, .int .i64 (x3)), (4, .int .i64 (x4)), (27, .bool (x8))] a' ∧ St (cxAll w0) w' [cBox b1 [.int .i64 (c.Epoch), s1]] [fRd [s1] (c.Pins : List Pin)]) ?_ ?_
          · skip
            refine cw_ops hA ?_
            clear hA
            refine ops_v (rv_fld (m := 0) Try.underlying29 rfl rfl Try.sizeOf27 rfl rfl) (want_yes rfl) rfl rfl ?_
            refine ops_v (rv_load1 rfl rfl Try.isAgg27 (hS.cell 0 rfl rfl)) (want_yes rfl) rfl rfl ?_
            refine ops_v (rv_move rfl rfl) (want_yes rfl) rfl rfl ?_
            obtain ⟨x9, hx9, hG1⟩ := bindE hG1
            refine ops_v (rv_idx (m := 4) (hS.rd 0 rfl) rfl hx9 Try.underlying27 Try.sizeOf59 rfl rfl rfl) (want_yes rfl) rfl rfl ?_
            refine ops_v (rv_fld (m := 0) Try.underlying59 rfl rfl Try.sizeOf4 rfl rfl) (want_yes rfl) rfl rfl ?_
            refine ops_v (rv_load1 rfl rfl Try.isAgg4 (cell1 (CellsAt.sub (cs' := [.bool (x9.On)]) (el_Pin (hS.rd 0 rfl) (idx_some hx9).2.2) 0 rfl rfl))) (want_yes rfl) rfl rfl ?_
            refine ops_v (rv_move rfl rfl) (want_yes rfl) rfl rfl ?_
            refine ops_case (s := 19) rfl (fun hc3 => ?_) (fun hc3 => ?_)
            · replace hG1 := iteT hc3 hG1
              refine ops_v (rv_fld (m := 0) Try.underlying29 rfl rfl Try.sizeOf27 rfl rfl) (want_if rfl rfl rfl (by rw [hc3]; rfl)) rfl rfl ?_
              refine ops_v (rv_load1 rfl rfl Try.isAgg27 (hS.cell 0 rfl rfl)) (want_if rfl rfl rfl (by rw [hc3]; rfl)) rfl rfl ?_
              refine ops_v (rv_move rfl rfl) (want_if rfl rfl rfl (by rw [hc3]; rfl)) rfl rfl ?_
              obtain ⟨x10, hx10, hG1⟩ := bindE hG1
              refine ops_v (rv_idx (m := 4) (hS.rd 0 rfl) rfl hx10 Try.underlying27 Try.sizeOf59 rfl rfl rfl) (want_if rfl rfl rfl (by rw [hc3]; rfl)) rfl rfl ?_
              refine ops_v (rv_fld (m := 0) Try.underlying59 rfl rfl Try.sizeOf4 rfl rfl) (want_if rfl rfl rfl (by rw [hc3]; rfl)) rfl rfl ?_
              refine ops_v (rv_load1 rfl rfl Try.isAgg4 (cell1 (CellsAt.sub (cs' := [.bool (x10.Marked)]) (el_Pin (hS.rd 0 rfl) (idx_some hx10).2.2) 2 rfl rfl))) (want_if rfl rfl rfl (by rw [hc3]; rfl)) rfl rfl ?_
              refine ops_v (rv_not rfl rfl) (want_if rfl rfl rfl (by rw [hc3]; rfl)) rfl rfl ?_
              refine ops_v (rv_pick_t rfl rfl hc3 rfl) (want_yes rfl) rfl rfl ?_
              refine ops_nil ?_
              intro a hA
              exact ⟨!x10.Marked, hG1, hA.part ⟨rfl, rfl, rfl, rfl, trivial⟩, ((hS).sel [0] rfl).selR [0] rfl⟩
            · replace hG1 := iteF hc3 hG1
              refine ops_off (want_if rfl rfl rfl (by rw [hc3]; rfl)) rfl rfl ?_
              refine ops_off (want_if rfl rfl rfl (by rw [hc3]; rfl)) rfl rfl ?_
              refine ops_off (want_if rfl rfl rfl (by rw [hc3]; rfl)) rfl rfl ?_
              refine ops_off (want_if rfl rfl rfl (by rw [hc3]; rfl)) rfl rfl ?_
              refine ops_off (want_if rfl rfl rfl (by rw [hc3]; rfl)) rfl rfl ?_
              refine ops_off (want_if rfl rfl rfl (by rw [hc3]; rfl)) rfl rfl ?_
              refine ops_off (want_if rfl rfl rfl (by rw [hc3]; rfl)) rfl rfl ?_
              refine ops_v (rv_pick_f rfl rfl hc3 rfl) (want_yes rfl) rfl rfl ?_
              refine ops_nil ?_
              intro a hA
              exact ⟨false, hG1, hA.part ⟨rfl, rfl, rfl, rfl, trivial⟩, ((hS).sel [0] rfl).selR [0] rfl⟩
          · skip
            clear hA hS hG1
            rintro a w ⟨x8, hG1, hA, hS⟩
            unfold spec_Unmarked_j4 at hG1
            refine cw_cond hA rfl (fun hc2 => ?_) (fun hc2 => ?_)
            · replace hG1 := iteT hc2 hG1
              refine cw_ops hA ?_
              clear hA
              refine ops_v (rv_move rfl rfl) (want_yes rfl) rfl rfl ?_
              refine ops_v (rv_add rfl rfl rfl) (want_yes rfl) rfl rfl ?_
              refine ops_v (rv_assign rfl rfl) (want_yes rfl) rfl rfl ?_
              refine ops_nil ?_
              intro a hA
              exact ⟨w64 (x3 + 1), hG1, hA.part ⟨rfl, rfl, rfl, trivial⟩, ((hS).sel [0] rfl).selR [0] rfl⟩
            · replace hG1 := iteF hc2 hG1
              refine cw_skip ?_
              exact ⟨x3, hG1, hA.part ⟨rfl, rfl, rfl, trivial⟩, ((hS).sel [0] rfl).selR [0] rfl⟩
        · skip
          clear hA hS hG1
          rintro a w ⟨x7, hG1, hA, hS⟩
          unfold spec_Unmarked_j3 at hG1
          refine cw_ops hA ?_
          clear hA
          refine ops_v (rv_move rfl rfl) (want_yes rfl) rfl rfl ?_
          refine ops_v (rv_add rfl rfl rfl) (want_yes rfl) rfl rfl ?_
          refine ops_v (rv_assign rfl rfl) (want_yes rfl) rfl rfl ?_
          refine ops_nil ?_
          intro a hA
          cases hG1
          exact ⟨_, rfl, ⟨hA.part ⟨rfl, rfl, rfl, trivial⟩, ((hS).sel [0] rfl).selR [0] rfl⟩⟩
      · replace hG1 := iteF hc1 hG1
        refine cw_exit ?_
        refine xcons_hit ?_
        cases hG1
        have ho := hr1 _ rfl; subst ho
        exact ⟨x3, rfl, hA.part ⟨rfl, trivial⟩, ((hS).sel [] rfl).selR [] rfl⟩
  · skip
    clear hA hS hl1
    rintro a w ⟨x5, heq, hA, hS⟩
    replace hF : spec_Unmarked_j1 x5 = some r := by rw [heq] at hF; exact hF
    clear heq
    unfold spec_Unmarked_j1 at hF
    refine cw_seq ?_
    refine cw_ops hA ?_
    clear hA
    refine ops_v (rv_move rfl rfl) (want_yes rfl) rfl rfl ?_
    refine ops_v (rv_assign rfl rfl) (want_yes rfl) rfl rfl ?_
    refine ops_nil ?_
    intro a hA
    refine cw_ret ?_
    cases hF
    exact fin1 Try.results7 hA (res_tmp rfl) ⟨rfl, (hS.sel [] rfl).weaken (R' := []) (fun _ h => nomatch h)⟩

set_option maxRecDepth 100000 in
theorem c_impl_within {w0 : World} {n : Int} {low : Int} {high : Int}  {r : Bool}  (hF : impl_within n low high = some r) :
    Calls Try.prog 45 #[.int .i64 (n), .int .i64 (low), .int .i64 (high)] w0 (Ret fun v w' => v = .bool (r) ∧ St (cxAll w0) w' [] []) := by
  have hS : St (cxAll w0) w0 [] [] := St.enter (by
    intro f hf; cases hf)
  refine calls_cw (args := [_, _, _]) Try.func45 rfl Try.ntmps45 rfl ?_
  unfold impl_within at hF
  intro a hA
  refine cw_seq ?_
  refine cw_ops hA ?_
  clear hA
  refine ops_v (rv_assign rfl rfl) (want_yes rfl) rfl rfl ?_
  refine ops_nil ?_
  intro a hA
  refine cw_seq ?_
  refine cw_cut (J := fun a' w' => ∃ (x1 : Bool), impl_within_j1 x1 = some r ∧ AEnv 15 [(6, .bool (x1))] a' ∧ St (cxAll w0) w' [] []) ?_ ?_
  · skip
    refine cw_ops hA ?_
    clear hA
    refine ops_v (rv_move rfl rfl) (want_yes rfl) rfl rfl ?_
    refine ops_v (rv_move rfl rfl) (want_yes rfl) rfl rfl ?_
    refine ops_v (rv_geq rfl rfl rfl) (want_yes rfl) rfl rfl ?_
    refine ops_v (rv_move rfl rfl) (want_yes rfl) rfl rfl ?_
    refine ops_case (s := 10) rfl (fun hc1 => ?_) (fun hc1 => ?_)
    · replace hF := iteT hc1 hF
      refine ops_v (rv_move rfl rfl) (want_if rfl rfl rfl (by rw [hc1]; rfl)) rfl rfl ?_
      refine ops_v (rv_move rfl rfl) (want_if rfl rfl rfl (by rw [hc1]; rfl)) rfl rfl ?_
      refine ops_v (rv_leq rfl rfl rfl) (want_if rfl rfl rfl (by rw [hc1]; rfl)) rfl rfl ?_
      refine ops_v (rv_pick_t rfl rfl hc1 rfl) (want_yes rfl) rfl rfl ?_
      refine ops_v (rv_assign rfl rfl) (want_yes rfl) rfl rfl ?_
      refine ops_nil ?_
      intro a hA
      exact ⟨decide (n ≤ high), hF, hA.part ⟨rfl, trivial⟩, ((hS).sel [] rfl).selR [] rfl⟩
    · replace hF := iteF hc1 hF
      refine ops_off (want_if rfl rfl rfl (by rw [hc1]; rfl)) rfl rfl ?_
      refine ops_off (want_if rfl rfl rfl (by rw [hc1]; rfl)) rfl rfl ?_
      refine ops_off (want_if rfl rfl rfl (by rw [hc1]; rfl)) rfl rfl ?_
      refine ops_v (rv_pick_f rfl rfl hc1 rfl) (want_yes rfl) rfl rfl ?_
      refine ops_v (rv_assign rfl rfl) (want_yes rfl) rfl rfl ?_
      refine ops_nil ?_
      intro a hA
      exact ⟨false, hF, hA.part ⟨rfl, trivial⟩, ((hS).sel [] rfl).selR [] rfl⟩
  · skip
    clear hA hS hF
    rintro a w ⟨x1, hF, hA, hS⟩
    unfold impl_within_j1 at hF
    refine cw_ret ?_
    cases hF
    exact fin1 Try.results45 hA (res_tmp rfl) ⟨rfl, (hS.sel [] rfl).weaken (R' := []) (fun _ h => nomatch h)⟩

set_option maxRecDepth 100000 in
theorem c_slices_IndexFunc_Pin {w0 : World} {s : List Pin} {f : (Pin → Option Bool)} {s1 : Value} {g_f : FuncId} {cap_f : List Value} {r : Int} (h1 : Rep.rd (All w0) w0 [s1] (s : List Pin)) (hg_f : ∀ args w, (callFunc g_f args).run Try.prog w = .ok (.enter g_f args) w) (hp_f : ∀ (w' : World) (x0 : Pin)  (q : Bool), Keep F0 w0 w' → f x0 = some q → Calls Try.prog g_f (([.agg #[.bool (x0.On), .int .i64 (x0.Epoch), .bool (x0.Marked), .int .i64 (x0.Seen)]] : List Value) ++ cap_f).toArray w' (Ret fun v w'' => v = .bool (q) ∧ St (cxAll w') w'' [] [])) (hF : slices_IndexFunc_Pin s f = some r) :
    Calls Try.prog 71 #[s1, .func (.func g_f) #[] cap_f.toArray] w0 (Ret fun v w' => v = .int .i64 (r) ∧ St (cxAll w0) w' [] []) := by
  have hS : St (cxAll w0) w0 [] [fRd [s1] (s : List Pin)] := St.enter (by
    intro f hf
    simp only [List.mem_cons, List.not_mem_nil, or_false] at hf
    subst hf; exact h1)
  refine calls_cw (args := [_, _]) Try.func71 rfl Try.ntmps71 rfl ?_
  unfold slices_IndexFunc_Pin at hF
  intro a hA
  refine cw_seq ?_
  refine cw_ops hA ?_
  clear hA
  refine ops_v (rv_assign rfl rfl) (want_yes rfl) rfl rfl ?_
  refine ops_nil ?_
  intro a hA
  refine cw_seq ?_
  refine cw_seq ?_
  refine cw_ops hA ?_
  clear hA
  refine ops_v (rv_move rfl rfl) (want_yes rfl) rfl rfl ?_
  refine ops_v (rv_lenS (hS.rd 0 rfl) Try.underlying27 rfl rfl) (want_yes rfl) rfl rfl ?_
  refine ops_v (rv_move rfl rfl) (want_yes rfl) rfl rfl ?_
  refine ops_nil ?_
  intro a hA
  obtain ⟨o1, hl1, hF⟩ := bindE hF
  refine cw_cut (J := fun a' w' => o1 = Out.brk (()) ∧ AEnv 19 [] a' ∧ St (cxAll w0) w' [] []) ?_ ?_
  · refine cw_block ?_
    refine cw_loop (body := slices_IndexFunc_Pin_l1 s f) (r := o1) (fun sg a' w' => AEnv 19 [(0, s1), (1, .func (.func g_f) #[] cap_f.toArray), (7, .int .i64 ((s.length : Int))), (8, .int .i64 (sg))] a' ∧ St (cxAll w0) w' [] [fRd [s1] (s : List Pin)]) ?_ hl1 ⟨hA.part ⟨rfl, rfl, rfl, rfl, trivial⟩, ((hS).sel [] rfl).selR [0] rfl⟩
    clear hA hS hl1
    rintro x2 a w q1 ⟨hA, hS⟩ hG1 hr1
    try dsimp only at hA hS
    unfold slices_IndexFunc_Pin_l1 at hG1
    refine cw_seq ?_
    refine cw_ops hA ?_
    clear hA
    refine ops_v (rv_lss rfl rfl rfl) (want_yes rfl) rfl rfl ?_
    refine ops_nil ?_
    intro a hA
    refine cw_seq ?_
    refine cw_cond hA rfl (fun hc1 => ?_) (fun hc1 => ?_)
    · replace hG1 := iteT hc1 hG1
      refine cw_skip ?_
      refine cw_seq ?_
      refine cw_block ?_
      refine cw_seq ?_
      refine cw_ops hA ?_
      clear hA
      refine ops_v (rv_move rfl rfl) (want_yes rfl) rfl rfl ?_
      refine ops_v (rv_assign rfl rfl) (want_yes rfl) rfl rfl ?_
      refine ops_nil ?_
      intro a hA
      refine cw_seq ?_
      refine cw_ops hA ?_
      clear hA
      refine ops_v (rv_move rfl rfl) (want_yes rfl) rfl rfl ?_
      refine ops_v (rv_move rfl rfl) (want_yes rfl) rfl rfl ?_
      refine ops_v (rv_move rfl rfl) (want_yes rfl) rfl rfl ?_
      obtain ⟨x3, hx3, hG1⟩ := bindE hG1
      refine ops_v (rv_idx (m := 4) (hS.rd 0 rfl) rfl hx3 Try.underlying27 Try.sizeOf59 rfl rfl rfl) (want_yes rfl) rfl rfl ?_
      refine ops_v (rv_loadN rfl rfl Try.isAgg59 Try.sizeOf59 rfl (el_Pin (hS.rd 0 rfl) (idx_some hx3).2.2)) (want_yes rfl) rfl rfl ?_
      obtain ⟨x4, hx4, hG1⟩ := bindE hG1
      refine ops_c (rc_callv hg_f rfl rfl rfl) (want_yes rfl) rfl rfl (hp_f _ x3  _ hS.keep  hx4) ?_
      rintro _ w ⟨rfl, hk⟩
      replace hS := hS.after hk; clear hk
      refine ops_nil ?_
      intro a hA
      refine cw_cond hA rfl (fun hc2 => ?_) (fun hc2 => ?_)
      · replace hG1 := iteT hc2 hG1
        refine cw_seq ?_
        refine cw_ops hA ?_
        clear hA
        refine ops_v (rv_move rfl rfl) (want_yes rfl) rfl rfl ?_
        refine ops_v (rv_assign rfl rfl) (want_yes rfl) rfl rfl ?_
        refine ops_nil ?_
        intro a hA
        refine cw_ret ?_
        cases hG1
        have ho := hr1 _ rfl; subst ho
        replace hF : some x2 = some r := hF
        cases hF
        exact fin1 Try.results71 hA (res_tmp rfl) ⟨rfl, (hS.sel [] rfl).weaken (R' := []) (fun _ h => nomatch h)⟩
      · replace hG1 := iteF hc2 hG1
        refine cw_skip ?_
        refine cw_ops hA ?_
        clear hA
        refine ops_v (rv_add rfl rfl rfl) (want_yes rfl) rfl rfl ?_
        refine ops_v (rv_move rfl rfl) (want_yes rfl) rfl rfl ?_
        refine ops_nil ?_
        intro a hA
        cases hG1
        exact ⟨_, rfl, ⟨hA.part ⟨rfl, rfl, rfl, rfl, trivial⟩, ((hS).sel [] rfl).selR [0] rfl⟩⟩
    · replace hG1 := iteF hc1 hG1
      refine cw_exit ?_
      refine xcons_hit ?_
      cases hG1
      have ho := hr1 _ rfl; subst ho
      exact ⟨rfl, hA.part trivial, ((hS).sel [] rfl).selR [] rfl⟩
  · skip
    clear hA hS hl1
    rintro a w ⟨heq, hA, hS⟩
    replace hF : slices_IndexFunc_Pin_j1 = some r := by rw [heq] at hF; exact hF
    clear heq
    unfold slices_IndexFunc_Pin_j1 at hF
    refine cw_seq ?_
    refine cw_ops hA ?_
    clear hA
    refine ops_v (rv_assign rfl rfl) (want_yes rfl) rfl rfl ?_
    refine ops_nil ?_
    intro a hA
    refine cw_ret ?_
    cases hF
    exact fin1 Try.results71 hA (res_tmp rfl) ⟨rfl, (hS.sel [] rfl).weaken (R' := []) (fun _ h => nomatch h)⟩

set_option maxRecDepth 100000 in
theorem c_slices_ContainsFunc_Pin {w0 : World} {s : List Pin} {f : (Pin → Option Bool)} {s1 : Value} {g_f : FuncId} {cap_f : List Value} {r : Bool} (h1 : Rep.rd (All w0) w0 [s1] (s : List Pin)) (hg_f : ∀ args w, (callFunc g_f args).run Try.prog w = .ok (.enter g_f args) w) (hp_f : ∀ (w' : World) (x0 : Pin)  (q : Bool), Keep F0 w0 w' → f x0 = some q → Calls Try.prog g_f (([.agg #[.bool (x0.On), .int .i64 (x0.Epoch), .bool (x0.Marked), .int .i64 (x0.Seen)]] : List Value) ++ cap_f).toArray w' (Ret fun v w'' => v = .bool (q) ∧ St (cxAll w') w'' [] [])) (hF : slices_ContainsFunc_Pin s f = some r) :
    Calls Try.prog 46 #[s1, .func (.func g_f) #[] cap_f.toArray] w0 (Ret fun v w' => v = .bool (r) ∧ St (cxAll w0) w' [] []) := by
  have hS : St (cxAll w0) w0 [] [fRd [s1] (s : List Pin)] := St.enter (by
    intro f hf
    simp only [List.mem_cons, List.not_mem_nil, or_false] at hf
    subst hf; exact h1)
  refine calls_cw (args := [_, _]) Try.func46 rfl Try.ntmps46 rfl ?_
  unfold slices_ContainsFunc_Pin at hF
  intro a hA
  refine cw_seq ?_
  refine cw_ops hA ?_
  clear hA
  refine ops_v (rv_assign rfl rfl) (want_yes rfl) rfl rfl ?_
  refine ops_nil ?_
  intro a hA
  refine cw_seq ?_
  refine cw_ops hA ?_
  clear hA
  refine ops_v (rv_move rfl rfl) (want_yes rfl) rfl rfl ?_
  refine ops_v (rv_move rfl rfl) (want_yes rfl) rfl rfl ?_
  obtain ⟨x1, hx1, hF⟩ := bindE hF
  refine ops_c (rc_call Try.call71 rfl rfl) (want_yes rfl) rfl rfl (c_slices_IndexFunc_Pin (s := s) (f := f) (hS.rd 0 rfl) hg_f (fun w1 y0 q hk => hp_f w1 y0 q (hS.keep.trans hk fun _ _ _ h => h)) hx1) ?_
  rintro _ w ⟨rfl, hk⟩
  replace hS := hS.after hk; clear hk
  refine ops_v (rv_geq rfl rfl rfl) (want_yes rfl) rfl rfl ?_
  refine ops_v (rv_assign rfl rfl) (want_yes rfl) rfl rfl ?_
  refine ops_nil ?_
  intro a hA
  refine cw_ret ?_
  cases hF
  exact fin1 Try.results46 hA (res_tmp rfl) ⟨rfl, (hS.sel [] rfl).weaken (R' := []) (fun _ h => nomatch h)⟩

set_option maxRecDepth 100000 in
theorem c_impl_ClockOk_1 {w0 : World} {p : Pin} {k0 : Clock} {s1 : Value} {b1 : Nat} {r : Bool} (h1 : Rep.rd (All w0) w0 [s1] (k0.Pins : List Pin)) (h2 : (fCells b1 [.int .i64 (k0.Epoch), s1]).P (All w0) w0) (hF : impl_ClockOk_1 p k0 = some r) :
    Calls Try.prog 47 #[.agg #[.bool (p.On), .int .i64 (p.Epoch), .bool (p.Marked), .int .i64 (p.Seen)], .pointer (some ⟨b1, 0, none⟩)] w0 (Ret fun v w' => v = .bool (r) ∧ St (cxAll w0) w' [] []) := by
  have hS : St (cxAll w0) w0 [] [fRd [s1] (k0.Pins : List Pin), fCells b1 [.int .i64 (k0.Epoch), s1]] := St.enter (by
    intro f hf
    simp only [List.mem_cons, List.not_mem_nil, or_false] at hf
    rcases hf with rfl | rfl
    · exact h1
    · exact h2)
  refine calls_cw (args := [_, _]) Try.func47 rfl Try.ntmps47 rfl ?_
  unfold impl_ClockOk_1 at hF
  intro a hA
  refine cw_seq ?_
  refine cw_ops hA ?_
  clear hA
  refine ops_mv (rv_box (cs := [.bool (p.On), .int .i64 (p.Epoch), .bool (p.Marked), .int .i64 (p.Seen)]) hS rfl rfl rfl) (want_yes rfl) rfl rfl ?_
  clear hS
  rintro _ w ⟨b2, rfl, hS⟩
  refine ops_v (rv_assign rfl rfl) (want_yes rfl) rfl rfl ?_
  refine ops_nil ?_
  intro a hA
  refine cw_seq ?_
  refine cw_cut (J := fun a' w' => ∃ (x1 : Bool), impl_ClockOk_1_j1 x1 = some r ∧ AEnv 26 [(3, .bool (x1))] a' ∧ St (cxAll w0) w' [] []) ?_ ?_
  · skip
    refine cw_ops hA ?_
    clear hA
    refine ops_v (rv_fld (m := 0) Try.underlying59 rfl rfl Try.sizeOf3 rfl rfl) (want_yes rfl) rfl rfl ?_
    refine ops_v (rv_load1 rfl rfl Try.isAgg3 (hS.cell 0 rfl rfl)) (want_yes rfl) rfl rfl ?_
    refine ops_v (rv_fld (m := 0) Try.underlying29 rfl rfl Try.sizeOf3 rfl rfl) (want_yes rfl) rfl rfl ?_
    refine ops_v (rv_load1 rfl rfl Try.isAgg3 (hS.fcell 1 rfl rfl)) (want_yes rfl) rfl rfl ?_
    obtain ⟨x2, hx2, hF⟩ := bindE hF
    refine ops_c (rc_call Try.call45 rfl rfl) (want_yes rfl) rfl rfl (c_impl_within (n := p.Epoch) (low := 0) (high := k0.Epoch)  hx2) ?_
    rintro _ w ⟨rfl, hk⟩
    replace hS := hS.after hk; clear hk
    refine ops_v (rv_not rfl rfl) (want_yes rfl) rfl rfl ?_
    refine ops_v (rv_move rfl rfl) (want_yes rfl) rfl rfl ?_
    refine ops_case (s := 10) rfl (fun hc1 => ?_) (fun hc1 => ?_)
    · replace hF := iteT hc1 hF
      refine ops_off (want_if rfl rfl rfl (by rw [hc1]; rfl)) rfl rfl ?_
      refine ops_off (want_if rfl rfl rfl (by rw [hc1]; rfl)) rfl rfl ?_
      refine ops_off (want_if rfl rfl rfl (by rw [hc1]; rfl)) rfl rfl ?_
      refine ops_off (want_if rfl rfl rfl (by rw [hc1]; rfl)) rfl rfl ?_
      refine ops_v (rv_pick_t rfl rfl hc1 rfl) (want_yes rfl) rfl rfl ?_
      refine ops_v (rv_move rfl rfl) (want_yes rfl) rfl rfl ?_
      refine ops_off (want_if rfl rfl rfl rfl) rfl rfl ?_
      refine ops_off (want_if rfl rfl rfl rfl) rfl rfl ?_
      refine ops_off (want_if rfl rfl rfl rfl) rfl rfl ?_
      refine ops_off (want_if rfl rfl rfl rfl) rfl rfl ?_
      refine ops_off (want_no rfl rfl rfl) rfl rfl ?_
      refine ops_off (want_no rfl rfl rfl) rfl rfl ?_
      refine ops_off (want_no rfl rfl rfl) rfl rfl ?_
      refine ops_off (want_if rfl rfl rfl rfl) rfl rfl ?_
      refine ops_v (rv_pick_t rfl rfl rfl rfl) (want_yes rfl) rfl rfl ?_
      refine ops_v (rv_assign rfl rfl) (want_yes rfl) rfl rfl ?_
      refine ops_nil ?_
      intro a hA
      exact ⟨true, hF, hA.part ⟨rfl, trivial⟩, ((hS).sel [] rfl).selR [] rfl⟩
    · replace hF := iteF hc1 hF
      refine ops_v (rv_fld (m := 0) Try.underlying59 rfl rfl Try.sizeOf3 rfl rfl) (want_if rfl rfl rfl (by rw [hc1]; rfl)) rfl rfl ?_
      refine ops_v (rv_load1 rfl rfl Try.isAgg3 (hS.cell 0 rfl rfl)) (want_if rfl rfl rfl (by rw [hc1]; rfl)) rfl rfl ?_
      obtain ⟨x3, hx3, hF⟩ := bindE hF
      refine ops_c (rc_call Try.call45 rfl rfl) (want_if rfl rfl rfl (by rw [hc1]; rfl)) rfl rfl (c_impl_within (n := p.Seen) (low := 0) (high := 2)  hx3) ?_
      rintro _ w ⟨rfl, hk⟩
      replace hS := hS.after hk; clear hk
      refine ops_v (rv_not rfl rfl) (want_if rfl rfl rfl (by rw [hc1]; rfl)) rfl rfl ?_
      refine ops_v (rv_pick_f rfl rfl hc1 rfl) (want_yes rfl) rfl rfl ?_
      refine ops_v (rv_move rfl rfl) (want_yes rfl) rfl rfl ?_
      refine ops_case (s := 16) rfl (fun hc2 => ?_) (fun hc2 => ?_)
      · replace hF := iteT hc2 hF
        refine ops_off (want_if rfl rfl rfl (by rw [hc2]; rfl)) rfl rfl ?_
        refine ops_off (want_if rfl rfl rfl (by rw [hc2]; rfl)) rfl rfl ?_
        refine ops_off (want_if rfl rfl rfl (by rw [hc2]; rfl)) rfl rfl ?_
        refine ops_off (want_if rfl rfl rfl (by rw [hc2]; rfl)) rfl rfl ?_
        refine ops_off (want_no rfl rfl rfl) rfl rfl ?_
        refine ops_off (want_no rfl rfl rfl) rfl rfl ?_
        refine ops_off (want_no rfl rfl rfl) rfl rfl ?_
        refine ops_off (want_if rfl rfl rfl (by rw [hc2]; rfl)) rfl rfl ?_
        refine ops_v (rv_pick_t rfl rfl hc2 rfl) (want_yes rfl) rfl rfl ?_
        refine ops_v (rv_assign rfl rfl) (want_yes rfl) rfl rfl ?_
        refine ops_nil ?_
        intro a hA
        exact ⟨true, hF, hA.part ⟨rfl, trivial⟩, ((hS).sel [] rfl).selR [] rfl⟩
      · replace hF := iteF hc2 hF
        refine ops_v (rv_fld (m := 0) Try.underlying59 rfl rfl Try.sizeOf4 rfl rfl) (want_if rfl rfl rfl (by rw [hc2]; rfl)) rfl rfl ?_
        refine ops_v (rv_load1 rfl rfl Try.isAgg4 (hS.cell 0 rfl rfl)) (want_if rfl rfl rfl (by rw [hc2]; rfl)) rfl rfl ?_
        refine ops_v (rv_not rfl rfl) (want_if rfl rfl rfl (by rw [hc2]; rfl)) rfl rfl ?_
        refine ops_v (rv_move rfl rfl) (want_if rfl rfl rfl (by rw [hc2]; rfl)) rfl rfl ?_
        refine ops_case (s := 20) rfl (fun hc3 => ?_) (fun hc3 => ?_)
        · replace hF := iteT hc3 hF
          refine ops_v (rv_loadN rfl rfl Try.isAgg59 Try.sizeOf59 rfl (hS.cells 0 0 (cs' := [.bool (p.On), .int .i64 (p.Epoch), .bool (p.Marked), .int .i64 (p.Seen)]) rfl rfl)) (want_if rfl rfl rfl (by rw [hc3]; rfl)) rfl rfl ?_
          refine ops_v (rv_build (cells := #[.bool (false), .int .i64 (0), .bool (false), .int .i64 (0)]) rfl Try.zeroValue59 Try.underlying59 (by have h := places_Try59; rw [Try.underlying59] at h; exact h) rfl rfl) (want_if rfl rfl rfl (by rw [hc3]; rfl)) rfl rfl ?_
          refine ops_v (rv_neqS Try.eqGuardType59 Try.stoodInHeld59 Try.underlying59 (eqf_Try59 9997 p (⟨false, 0, false, 0⟩ : Pin)) rfl rfl rfl) (want_if rfl rfl rfl (by rw [hc3]; rfl)) rfl rfl ?_
          refine ops_v (rv_pick_t rfl rfl hc3 rfl) (want_if rfl rfl rfl (by rw [hc2]; rfl)) rfl rfl ?_
          refine ops_v (rv_pick_f rfl rfl hc2 rfl) (want_yes rfl) rfl rfl ?_
          refine ops_v (rv_assign rfl rfl) (want_yes rfl) rfl rfl ?_
          refine ops_nil ?_
          intro a hA
          exact ⟨!(decide (p = (⟨false, 0, false, 0⟩ : Pin))), hF, hA.part ⟨rfl, trivial⟩, ((hS).sel [] rfl).selR [] rfl⟩
        · replace hF := iteF hc3 hF
          refine ops_off (want_if rfl rfl rfl (by rw [hc3]; rfl)) rfl rfl ?_
          refine ops_off (want_if rfl rfl rfl (by rw [hc3]; rfl)) rfl rfl ?_
          refine ops_off (want_if rfl rfl rfl (by rw [hc3]; rfl)) rfl rfl ?_
          refine ops_v (rv_pick_f rfl rfl hc3 rfl) (want_if rfl rfl rfl (by rw [hc2]; rfl)) rfl rfl ?_
          refine ops_v (rv_pick_f rfl rfl hc2 rfl) (want_yes rfl) rfl rfl ?_
          refine ops_v (rv_assign rfl rfl) (want_yes rfl) rfl rfl ?_
          refine ops_nil ?_
          intro a hA
          exact ⟨false, hF, hA.part ⟨rfl, trivial⟩, ((hS).sel [] rfl).selR [] rfl⟩
  · skip
    clear hA hS hF
    rintro a w ⟨x1, hF, hA, hS⟩
    unfold impl_ClockOk_1_j1 at hF
    refine cw_ret ?_
    cases hF
    exact fin1 Try.results47 hA (res_tmp rfl) ⟨rfl, (hS.sel [] rfl).weaken (R' := []) (fun _ h => nomatch h)⟩

set_option maxRecDepth 100000 in
theorem c_impl_ClockOk {w0 : World} {c : Clock} {s1 : Value} {r : Bool} (h1 : Rep.rd (All w0) w0 [s1] (c.Pins : List Pin)) (hF : impl_ClockOk c = some r) :
    Calls Try.prog 23 #[.agg #[.int .i64 (c.Epoch), s1]] w0 (Ret fun v w' => v = .bool (r) ∧ St (cxAll w0) w' [] []) := by
  have hS : St (cxAll w0) w0 [] [fRd [s1] (c.Pins : List Pin)] := St.enter (by
    intro f hf
    simp only [List.mem_cons, List.not_mem_nil, or_false] at hf
    subst hf; exact h1)
  refine calls_cw (args := [_]) Try.func23 rfl Try.ntmps23 rfl ?_
  unfold impl_ClockOk at hF
  intro a hA
  refine cw_seq ?_
  refine cw_ops hA ?_
  clear hA
  refine ops_mv (rv_box (cs := [.int .i64 (c.Epoch), s1]) hS rfl rfl rfl) (want_yes rfl) rfl rfl ?_
  clear hS
  rintro _ w ⟨b1, rfl, hS⟩
  refine ops_v (rv_assign rfl rfl) (want_yes rfl) rfl rfl ?_
  refine ops_nil ?_
  intro a hA
  refine cw_seq ?_
  refine cw_cut (J := fun a' w' => ∃ (x1 : Bool), impl_ClockOk_j1 x1 = some r ∧ AEnv 19 [(2, .bool (x1))] a' ∧ St (cxAll w0) w' [] []) ?_ ?_
  · skip
    refine cw_ops hA ?_
    clear hA
    refine ops_v (rv_fld (m := 0) Try.underlying29 rfl rfl Try.sizeOf3 rfl rfl) (want_yes rfl) rfl rfl ?_
    refine ops_v (rv_load1 rfl rfl Try.isAgg3 (hS.cell 0 rfl rfl)) (want_yes rfl) rfl rfl ?_
    obtain ⟨x2, hx2, hF⟩ := bindE hF
    refine ops_c (rc_call Try.call45 rfl rfl) (want_yes rfl) rfl rfl (c_impl_within (n := c.Epoch) (low := 0) (high := 100000)  hx2) ?_
    rintro _ w ⟨rfl, hk⟩
    replace hS := hS.after hk; clear hk
    refine ops_v (rv_move rfl rfl) (want_yes rfl) rfl rfl ?_
    refine ops_case (s := 6) rfl (fun hc1 => ?_) (fun hc1 => ?_)
    · replace hF := iteT hc1 hF
      refine ops_v (rv_fld (m := 0) Try.underlying29 rfl rfl Try.sizeOf27 rfl rfl) (want_if rfl rfl rfl (by rw [hc1]; rfl)) rfl rfl ?_
      refine ops_v (rv_load1 rfl rfl Try.isAgg27 (hS.cell 0 rfl rfl)) (want_if rfl rfl rfl (by rw [hc1]; rfl)) rfl rfl ?_
      refine ops_v (rv_lenS (hS.rd 0 rfl) Try.underlying27 rfl rfl) (want_if rfl rfl rfl (by rw [hc1]; rfl)) rfl rfl ?_
      refine ops_v (rv_eql rfl rfl rfl) (want_if rfl rfl rfl (by rw [hc1]; rfl)) rfl rfl ?_
      refine ops_v (rv_pick_t rfl rfl hc1 rfl) (want_yes rfl) rfl rfl ?_
      refine ops_v (rv_move rfl rfl) (want_yes rfl) rfl rfl ?_
      refine ops_case (s := 12) rfl (fun hc2 => ?_) (fun hc2 => ?_)
      · replace hF := iteT hc2 hF
        refine ops_v (rv_fld (m := 0) Try.underlying29 rfl rfl Try.sizeOf27 rfl rfl) (want_if rfl rfl rfl (by rw [hc2]; rfl)) rfl rfl ?_
        refine ops_v (rv_load1 rfl rfl Try.isAgg27 (hS.cell 0 rfl rfl)) (want_if rfl rfl rfl (by rw [hc2]; rfl)) rfl rfl ?_
        replace hS := hS.leakBox 0 rfl
        refine ops_v (rv_func (vf := []) (vc := [.pointer (some ⟨b1, 0, none⟩)]) rfl rfl rfl) (want_if rfl rfl rfl (by rw [hc2]; rfl)) rfl rfl ?_
        obtain ⟨x3, hx3, hF⟩ := bindE hF
        refine ops_c (rc_call Try.call46 rfl rfl) (want_if rfl rfl rfl (by rw [hc2]; rfl)) rfl rfl (c_slices_ContainsFunc_Pin (s := c.Pins) (f := (fun y0 => impl_ClockOk_1 y0 c)) (cap_f := [.pointer (some ⟨b1, 0, none⟩)]) (hS.rd 0 rfl) Try.call47 (fun w1 y0  q hk  hq => c_impl_ClockOk_1 (k0 := c)  (keepP (hS.fact 0 rfl) hk) (keepP (hS.fact 1 rfl) hk) hq) hx3) ?_
        rintro _ w ⟨rfl, hk⟩
        replace hS := hS.after hk; clear hk
        refine ops_v (rv_not rfl rfl) (want_if rfl rfl rfl (by rw [hc2]; rfl)) rfl rfl ?_
        refine ops_v (rv_pick_t rfl rfl hc2 rfl) (want_yes rfl) rfl rfl ?_
        refine ops_v (rv_assign rfl rfl) (want_yes rfl) rfl rfl ?_
        refine ops_nil ?_
        intro a hA
        exact ⟨!x3, hF, hA.part ⟨rfl, trivial⟩, ((hS).sel [] rfl).selR [] rfl⟩
      · replace hF := iteF hc2 hF
        refine ops_off (want_if rfl rfl rfl (by rw [hc2]; rfl)) rfl rfl ?_
        refine ops_off (want_if rfl rfl rfl (by rw [hc2]; rfl)) rfl rfl ?_
        refine ops_off (want_if rfl rfl rfl (by rw [hc2]; rfl)) rfl rfl ?_
        refine ops_off (want_if rfl rfl rfl (by rw [hc2]; rfl)) rfl rfl ?_
        refine ops_off (want_if rfl rfl rfl (by rw [hc2]; rfl)) rfl rfl ?_
        refine ops_v (rv_pick_f rfl rfl hc2 rfl) (want_yes rfl) rfl rfl ?_
        refine ops_v (rv_assign rfl rfl) (want_yes rfl) rfl rfl ?_
        refine ops_nil ?_
        intro a hA
        exact ⟨false, hF, hA.part ⟨rfl, trivial⟩, ((hS).sel [] rfl).selR [] rfl⟩
    · replace hF := iteF hc1 hF
      refine ops_off (want_if rfl rfl rfl (by rw [hc1]; rfl)) rfl rfl ?_
      refine ops_off (want_if rfl rfl rfl (by rw [hc1]; rfl)) rfl rfl ?_
      refine ops_off (want_if rfl rfl rfl (by rw [hc1]; rfl)) rfl rfl ?_
      refine ops_off (want_if rfl rfl rfl (by rw [hc1]; rfl)) rfl rfl ?_
      refine ops_v (rv_pick_f rfl rfl hc1 rfl) (want_yes rfl) rfl rfl ?_
      refine ops_v (rv_move rfl rfl) (want_yes rfl) rfl rfl ?_
      refine ops_off (want_if rfl rfl rfl rfl) rfl rfl ?_
      refine ops_off (want_if rfl rfl rfl rfl) rfl rfl ?_
      refine ops_off (want_if rfl rfl rfl rfl) rfl rfl ?_
      refine ops_off (want_if rfl rfl rfl rfl) rfl rfl ?_
      refine ops_off (want_if rfl rfl rfl rfl) rfl rfl ?_
      refine ops_v (rv_pick_f rfl rfl rfl rfl) (want_yes rfl) rfl rfl ?_
      refine ops_v (rv_assign rfl rfl) (want_yes rfl) rfl rfl ?_
      refine ops_nil ?_
      intro a hA
      exact ⟨false, hF, hA.part ⟨rfl, trivial⟩, ((hS).sel [] rfl).selR [] rfl⟩
  · skip
    clear hA hS hF
    rintro a w ⟨x1, hF, hA, hS⟩
    unfold impl_ClockOk_j1 at hF
    refine cw_ret ?_
    cases hF
    exact fin1 Try.results23 hA (res_tmp rfl) ⟨rfl, (hS.sel [] rfl).weaken (R' := []) (fun _ h => nomatch h)⟩

set_option maxRecDepth 100000 in
theorem c_impl_Pin_effective {w0 : World} {p : Pin}  {r : Bool}  (hF : impl_Pin_effective p = some r) :
    Calls Try.prog 25 #[.agg #[.bool (p.On), .int .i64 (p.Epoch), .bool (p.Marked), .int .i64 (p.Seen)]] w0 (Ret fun v w' => v = .bool (r) ∧ St (cxAll w0) w' [] []) := by
  have hS : St (cxAll w0) w0 [] [] := St.enter (by
    intro f hf; cases hf)
  refine calls_cw (args := [_]) Try.func25 rfl Try.ntmps25 rfl ?_
  unfold impl_Pin_effective at hF
  intro a hA
  refine cw_seq ?_
  refine cw_ops hA ?_
  clear hA
  refine ops_mv (rv_box (cs := [.bool (p.On), .int .i64 (p.Epoch), .bool (p.Marked), .int .i64 (p.Seen)]) hS rfl rfl rfl) (want_yes rfl) rfl rfl ?_
  clear hS
  rintro _ w ⟨b1, rfl, hS⟩
  refine ops_v (rv_assign rfl rfl) (want_yes rfl) rfl rfl ?_
  refine ops_nil ?_
  intro a hA
  refine cw_seq ?_
  refine cw_cut (J := fun a' w' => ∃ (x1 : Bool), impl_Pin_effective_j1 x1 = some r ∧ AEnv 10 [(2, .bool (x1))] a' ∧ St (cxAll w0) w' [] []) ?_ ?_
  · skip
    refine cw_ops hA ?_
    clear hA
    refine ops_v (rv_fld (m := 0) Try.underlying59 rfl rfl Try.sizeOf4 rfl rfl) (want_yes rfl) rfl rfl ?_
    refine ops_v (rv_load1 rfl rfl Try.isAgg4 (hS.cell 0 rfl rfl)) (want_yes rfl) rfl rfl ?_
    refine ops_v (rv_move rfl rfl) (want_yes rfl) rfl rfl ?_
    refine ops_case (s := 5) rfl (fun hc1 => ?_) (fun hc1 => ?_)
    · replace hF := iteT hc1 hF
      refine ops_v (rv_fld (m := 0) Try.underlying59 rfl rfl Try.sizeOf4 rfl rfl) (want_if rfl rfl rfl (by rw [hc1]; rfl)) rfl rfl ?_
      refine ops_v (rv_load1 rfl rfl Try.isAgg4 (hS.cell 0 rfl rfl)) (want_if rfl rfl rfl (by rw [hc1]; rfl)) rfl rfl ?_
      refine ops_v (rv_not rfl rfl) (want_if rfl rfl rfl (by rw [hc1]; rfl)) rfl rfl ?_
      refine ops_v (rv_pick_t rfl rfl hc1 rfl) (want_yes rfl) rfl rfl ?_
      refine ops_v (rv_assign rfl rfl) (want_yes rfl) rfl rfl ?_
      refine ops_nil ?_
      intro a hA
      exact ⟨!p.Marked, hF, hA.part ⟨rfl, trivial⟩, ((hS).sel [] rfl).selR [] rfl⟩
    · replace hF := iteF hc1 hF
      refine ops_off (want_if rfl rfl rfl (by rw [hc1]; rfl)) rfl rfl ?_
      refine ops_off (want_if rfl rfl rfl (by rw [hc1]; rfl)) rfl rfl ?_
      refine ops_off (want_if rfl rfl rfl (by rw [hc1]; rfl)) rfl rfl ?_
      refine ops_v (rv_pick_f rfl rfl hc1 rfl) (want_yes rfl) rfl rfl ?_
      refine ops_v (rv_assign rfl rfl) (want_yes rfl) rfl rfl ?_
      refine ops_nil ?_
      intro a hA
      exact ⟨false, hF, hA.part ⟨rfl, trivial⟩, ((hS).sel [] rfl).selR [] rfl⟩
  · skip
    clear hA hS hF
    rintro a w ⟨x1, hF, hA, hS⟩
    unfold impl_Pin_effective_j1 at hF
    refine cw_ret ?_
    cases hF
    exact fin1 Try.results25 hA (res_tmp rfl) ⟨rfl, (hS.sel [] rfl).weaken (R' := []) (fun _ h => nomatch h)⟩

set_option maxRecDepth 100000 in
theorem c_impl_flag {w0 : World} {is : Bool}  {r : Int}  (hF : impl_flag is = some r) :
    Calls Try.prog 24 #[.bool (is)] w0 (Ret fun v w' => v = .int .i64 (r) ∧ St (cxAll w0) w' [] []) := by
  have hS : St (cxAll w0) w0 [] [] := St.enter (by
    intro f hf; cases hf)
  refine calls_cw (args := [_]) Try.func24 rfl Try.ntmps24 rfl ?_
  unfold impl_flag at hF
  intro a hA
  refine cw_seq ?_
  refine cw_ops hA ?_
  clear hA
  refine ops_v (rv_assign rfl rfl) (want_yes rfl) rfl rfl ?_
  refine ops_nil ?_
  intro a hA
  refine cw_seq ?_
  refine cw_seq ?_
  refine cw_ops hA ?_
  clear hA
  refine ops_v (rv_move rfl rfl) (want_yes rfl) rfl rfl ?_
  refine ops_nil ?_
  intro a hA
  refine cw_cond hA rfl (fun hc1 => ?_) (fun hc1 => ?_)
  · replace hF := iteT hc1 hF
    refine cw_seq ?_
    refine cw_ops hA ?_
    clear hA
    refine ops_v (rv_assign rfl rfl) (want_yes rfl) rfl rfl ?_
    refine ops_nil ?_
    intro a hA
    refine cw_ret ?_
    cases hF
    exact fin1 Try.results24 hA (res_tmp rfl) ⟨rfl, (hS.sel [] rfl).weaken (R' := []) (fun _ h => nomatch h)⟩
  · replace hF := iteF hc1 hF
    refine cw_skip ?_
    refine cw_seq ?_
    refine cw_ops hA ?_
    clear hA
    refine ops_v (rv_assign rfl rfl) (want_yes rfl) rfl rfl ?_
    refine ops_nil ?_
    intro a hA
    refine cw_ret ?_
    cases hF
    exact fin1 Try.results24 hA (res_tmp rfl) ⟨rfl, (hS.sel [] rfl).weaken (R' := []) (fun _ h => nomatch h)⟩

set_option maxRecDepth 100000 in
theorem c_impl_Unmarked {w0 : World} {c : Clock} {s1 : Value} {r : Int} (h1 : Rep.rd (All w0) w0 [s1] (c.Pins : List Pin)) (hF : impl_Unmarked c = some r) :
    Calls Try.prog 9 #[.agg #[.int .i64 (c.Epoch), s1]] w0 (Ret fun v w' => v = .int .i64 (r) ∧ St (cxAll w0) w' [] []) := by
  have hS : St (cxAll w0) w0 [] [fRd [s1] (c.Pins : List Pin)] := St.enter (by
    intro f hf
    simp only [List.mem_cons, List.not_mem_nil, or_false] at hf
    subst hf; exact h1)
  refine calls_cw (args := [_]) Try.func9 rfl Try.ntmps9 rfl ?_
  unfold impl_Unmarked at hF
  intro a hA
  refine cw_seq ?_
  refine cw_ops hA ?_
  clear hA
  refine ops_mv (rv_box (cs := [.int .i64 (c.Epoch), s1]) hS rfl rfl rfl) (want_yes rfl) rfl rfl ?_
  clear hS
  rintro _ w ⟨b1, rfl, hS⟩
  refine ops_v (rv_assign rfl rfl) (want_yes rfl) rfl rfl ?_
  refine ops_nil ?_
  intro a hA
  refine cw_seq ?_
  refine cw_ops hA ?_
  clear hA
  refine ops_v (rv_assign rfl rfl) (want_yes rfl) rfl rfl ?_
  refine ops_nil ?_
  intro a hA
  refine cw_seq ?_
  refine cw_seq ?_
  refine cw_ops hA ?_
  clear hA
  refine ops_v (rv_loadN rfl rfl Try.isAgg29 Try.sizeOf29 rfl (hS.cells 0 0 (cs' := [.int .i64 (c.Epoch), s1]) rfl rfl)) (want_yes rfl) rfl rfl ?_
  obtain ⟨x1, hx1, hF⟩ := bindE hF
  refine ops_c (rc_call Try.call23 rfl rfl) (want_yes rfl) rfl rfl (c_impl_ClockOk (c := c) (hS.rd 0 rfl) hx1) ?_
  rintro _ w ⟨rfl, hk⟩
  replace hS := hS.after hk; clear hk
  refine ops_v (rv_not rfl rfl) (want_yes rfl) rfl rfl ?_
  refine ops_nil ?_
  intro a hA
  refine cw_cond hA rfl (fun hc1 => ?_) (fun hc1 => ?_)
  · replace hF := iteT hc1 hF
    refine cw_seq ?_
    refine cw_ops hA ?_
    clear hA
    refine ops_v (rv_move rfl rfl) (want_yes rfl) rfl rfl ?_
    refine ops_v (rv_assign rfl rfl) (want_yes rfl) rfl rfl ?_
    refine ops_nil ?_
    intro a hA
    refine cw_ret ?_
    cases hF
    exact fin1 Try.results9 hA (res_tmp rfl) ⟨rfl, (hS.sel [] rfl).weaken (R' := []) (fun _ h => nomatch h)⟩
  · replace hF := iteF hc1 hF
    refine cw_skip ?_
    refine cw_seq ?_
    refine cw_seq ?_
    refine cw_ops hA ?_
    clear hA
    refine ops_v (rv_fld (m := 0) Try.underlying29 rfl rfl Try.sizeOf27 rfl rfl) (want_yes rfl) rfl rfl ?_
    refine ops_v (rv_load1 rfl rfl Try.isAgg27 (hS.cell 0 rfl rfl)) (want_yes rfl) rfl rfl ?_
    refine ops_v (rv_lenS (hS.rd 0 rfl) Try.underlying27 rfl rfl) (want_yes rfl) rfl rfl ?_
    refine ops_v (rv_move rfl rfl) (want_yes rfl) rfl rfl ?_
    refine ops_nil ?_
    intro a hA
    obtain ⟨o1, hl1, hF⟩ := bindE hF
    refine cw_cut (J := fun a' w' => ∃ (x6 : Int), o1 = x6 ∧ AEnv 24 [(3, .int .i64 (x6))] a' ∧ St (cxAll w0) w' [] []) ?_ ?_
    · refine cw_block ?_
      refine cw_loop (body := impl_Unmarked_l1 c) (r := o1) (fun sg a' w' => AEnv 24 [(3, .int .i64 (sg.1)), (11, s1), (12, .int .i64 ((c.Pins.length : Int))), (13, .int .i64 (sg.2))] a' ∧ St (cxAll w0) w' [] [fRd [s1] (c.Pins : List Pin)]) ?_ hl1 ⟨hA.part ⟨rfl, rfl, rfl, rfl, trivial⟩, ((hS).sel [] rfl).selR [0] rfl⟩
      clear hA hS hl1
      rintro ⟨x4, x5⟩ a w q1 ⟨hA, hS⟩ hG1 hr1
      try dsimp only at hA hS
      unfold impl_Unmarked_l1 at hG1
      refine cw_seq ?_
      refine cw_ops hA ?_
      clear hA
      refine ops_v (rv_lss rfl rfl rfl) (want_yes rfl) rfl rfl ?_
      refine ops_nil ?_
      intro a hA
      refine cw_seq ?_
      refine cw_cond hA rfl (fun hc2 => ?_) (fun hc2 => ?_)
      · replace hG1 := iteT hc2 hG1
        refine cw_skip ?_
        refine cw_seq ?_
        refine cw_block ?_
        refine cw_seq ?_
        refine cw_ops hA ?_
        clear hA
        obtain ⟨x7, hx7, hG1⟩ := bindE hG1
        refine ops_v (rv_idx (m := 4) (hS.rd 0 rfl) rfl hx7 Try.underlying27 Try.sizeOf59 rfl rfl rfl) (want_yes rfl) rfl rfl ?_
        refine ops_v (rv_loadN rfl rfl Try.isAgg59 Try.sizeOf59 rfl (el_Pin (hS.rd 0 rfl) (idx_some hx7).2.2)) (want_yes rfl) rfl rfl ?_
        refine ops_mv (rv_alloc (cs := [.bool (false), .int .i64 (0), .bool (false), .int .i64 (0)]) hS rfl Try.zeroValue59 rfl) (want_yes rfl) rfl rfl ?_
        clear hS
        rintro _ w ⟨b2, rfl, hS⟩
        refine ops_ms (rs_box (vs := [.bool (x7.On), .int .i64 (x7.Epoch), .bool (x7.Marked), .int .i64 (x7.Seen)]) hS (i := 0) rfl rfl rfl rfl rfl Try.sizeOf59 rfl rfl rfl) (want_yes rfl) rfl ?_
        clear hS
        intro w hS
        refine ops_nil ?_
        intro a hA
        refine cw_ops hA ?_
        clear hA
        refine ops_v (rv_move rfl rfl) (want_yes rfl) rfl rfl ?_
        refine ops_v (rv_loadN rfl rfl Try.isAgg59 Try.sizeOf59 rfl (hS.cells 0 0 (cs' := [.bool (x7.On), .int .i64 (x7.Epoch), .bool (x7.Marked), .int .i64 (x7.Seen)]) rfl rfl)) (want_yes rfl) rfl rfl ?_
        obtain ⟨x8, hx8, hG1⟩ := bindE hG1
        refine ops_c (rc_call Try.call25 rfl rfl) (want_yes rfl) rfl rfl (c_impl_Pin_effective (p := x7)  hx8) ?_
        rintro _ w ⟨rfl, hk⟩
        replace hS := hS.after hk; clear hk
        obtain ⟨x9, hx9, hG1⟩ := bindE hG1
        refine ops_c (rc_call Try.call24 rfl rfl) (want_yes rfl) rfl rfl (c_impl_flag (is := x8)  hx9) ?_
        rintro _ w ⟨rfl, hk⟩
        replace hS := hS.after hk; clear hk
        refine ops_v (rv_add rfl rfl rfl) (want_yes rfl) rfl rfl ?_
        refine ops_v (rv_assign rfl rfl) (want_yes rfl) rfl rfl ?_
        refine ops_nil ?_
        intro a hA
        refine cw_ops hA ?_
        clear hA
        refine ops_v (rv_add rfl rfl rfl) (want_yes rfl) rfl rfl ?_
        refine ops_v (rv_move rfl rfl) (want_yes rfl) rfl rfl ?_
        refine ops_nil ?_
        intro a hA
        cases hG1
        exact ⟨_, rfl, ⟨hA.part ⟨rfl, rfl, rfl, rfl, trivial⟩, ((hS).sel [] rfl).selR [0] rfl⟩⟩
      · replace hG1 := iteF hc2 hG1
        refine cw_exit ?_
        refine xcons_hit ?_
        cases hG1
        have ho := hr1 _ rfl; subst ho
        exact ⟨x4, rfl, hA.part ⟨rfl, trivial⟩, ((hS).sel [] rfl).selR [] rfl⟩
    · skip
      clear hA hS hl1
      rintro a w ⟨x6, heq, hA, hS⟩
      replace hF : impl_Unmarked_j1 x6 = some r := by rw [heq] at hF; exact hF
      clear heq
      unfold impl_Unmarked_j1 at hF
      refine cw_seq ?_
      refine cw_ops hA ?_
      clear hA
      refine ops_v (rv_move rfl rfl) (want_yes rfl) rfl rfl ?_
      refine ops_v (rv_assign rfl rfl) (want_yes rfl) rfl rfl ?_
      refine ops_nil ?_
      intro a hA
      refine cw_ret ?_
      cases hF
      exact fin1 Try.results9 hA (res_tmp rfl) ⟨rfl, (hS.sel [] rfl).weaken (R' := []) (fun _ h => nomatch h)⟩

set_option maxRecDepth 100000 in
theorem c_laws_eqPin {w0 : World} {a_ : Pin} {b : Pin}  {r : Bool}  (hF : laws_eqPin a_ b = some r) :
    Calls Try.prog 48 #[.agg #[.bool (a_.On), .int .i64 (a_.Epoch), .bool (a_.Marked), .int .i64 (a_.Seen)], .agg #[.bool (b.On), .int .i64 (b.Epoch), .bool (b.Marked), .int .i64 (b.Seen)]] w0 (Ret fun v w' => v = .bool (r) ∧ St (cxAll w0) w' [] []) := by
  have hS : St (cxAll w0) w0 [] [] := St.enter (by
    intro f hf; cases hf)
  refine calls_cw (args := [_, _]) Try.func48 rfl Try.ntmps48 rfl ?_
  unfold laws_eqPin at hF
  intro a hA
  refine cw_seq ?_
  refine cw_ops hA ?_
  clear hA
  refine ops_mv (rv_box (cs := [.bool (a_.On), .int .i64 (a_.Epoch), .bool (a_.Marked), .int .i64 (a_.Seen)]) hS rfl rfl rfl) (want_yes rfl) rfl rfl ?_
  clear hS
  rintro _ w ⟨b1, rfl, hS⟩
  refine ops_mv (rv_box (cs := [.bool (b.On), .int .i64 (b.Epoch), .bool (b.Marked), .int .i64 (b.Seen)]) hS rfl rfl rfl) (want_yes rfl) rfl rfl ?_
  clear hS
  rintro _ w ⟨b2, rfl, hS⟩
  refine ops_v (rv_assign rfl rfl) (want_yes rfl) rfl rfl ?_
  refine ops_nil ?_
  intro a hA
  refine cw_seq ?_
  refine cw_seq ?_
  refine cw_ops hA ?_
  clear hA
  refine ops_v (rv_fld (m := 0) Try.underlying59 rfl rfl Try.sizeOf4 rfl rfl) (want_yes rfl) rfl rfl ?_
  refine ops_v (rv_load1 rfl rfl Try.isAgg4 (hS.cell 0 rfl rfl)) (want_yes rfl) rfl rfl ?_
  refine ops_v (rv_fld (m := 0) Try.underlying59 rfl rfl Try.sizeOf4 rfl rfl) (want_yes rfl) rfl rfl ?_
  refine ops_v (rv_load1 rfl rfl Try.isAgg4 (hS.cell 1 rfl rfl)) (want_yes rfl) rfl rfl ?_
  refine ops_v (rv_neqb Try.underlying4 rfl rfl rfl) (want_yes rfl) rfl rfl ?_
  refine ops_nil ?_
  intro a hA
  refine cw_cond hA rfl (fun hc1 => ?_) (fun hc1 => ?_)
  · replace hF := iteT hc1 hF
    refine cw_seq ?_
    refine cw_ops hA ?_
    clear hA
    refine ops_v (rv_assign rfl rfl) (want_yes rfl) rfl rfl ?_
    refine ops_nil ?_
    intro a hA
    refine cw_ret ?_
    cases hF
    exact fin1 Try.results48 hA (res_tmp rfl) ⟨rfl, (hS.sel [] rfl).weaken (R' := []) (fun _ h => nomatch h)⟩
  · replace hF := iteF hc1 hF
    refine cw_skip ?_
    refine cw_seq ?_
    refine cw_seq ?_
    refine cw_ops hA ?_
    clear hA
    refine ops_v (rv_fld (m := 0) Try.underlying59 rfl rfl Try.sizeOf3 rfl rfl) (want_yes rfl) rfl rfl ?_
    refine ops_v (rv_load1 rfl rfl Try.isAgg3 (hS.cell 0 rfl rfl)) (want_yes rfl) rfl rfl ?_
    refine ops_v (rv_fld (m := 0) Try.underlying59 rfl rfl Try.sizeOf3 rfl rfl) (want_yes rfl) rfl rfl ?_
    refine ops_v (rv_load1 rfl rfl Try.isAgg3 (hS.cell 1 rfl rfl)) (want_yes rfl) rfl rfl ?_
    refine ops_v (rv_neq rfl rfl rfl) (want_yes rfl) rfl rfl ?_
    refine ops_nil ?_
    intro a hA
    refine cw_cond hA rfl (fun hc2 => ?_) (fun hc2 => ?_)
    · replace hF := iteT hc2 hF
      refine cw_seq ?_
      refine cw_ops hA ?_
      clear hA
      refine ops_v (rv_assign rfl rfl) (want_yes rfl) rfl rfl ?_
      refine ops_nil ?_
      intro a hA
      refine cw_ret ?_
      cases hF
      exact fin1 Try.results48 hA (res_tmp rfl) ⟨rfl, (hS.sel [] rfl).weaken (R' := []) (fun _ h => nomatch h)⟩
    · replace hF := iteF hc2 hF
      refine cw_skip ?_
      refine cw_seq ?_
      refine cw_seq ?_
      refine cw_ops hA ?_
      clear hA
      refine ops_v (rv_fld (m := 0) Try.underlying59 rfl rfl Try.sizeOf4 rfl rfl) (want_yes rfl) rfl rfl ?_
      refine ops_v (rv_load1 rfl rfl Try.isAgg4 (hS.cell 0 rfl rfl)) (want_yes rfl) rfl rfl ?_
      refine ops_v (rv_fld (m := 0) Try.underlying59 rfl rfl Try.sizeOf4 rfl rfl) (want_yes rfl) rfl rfl ?_
      refine ops_v (rv_load1 rfl rfl Try.isAgg4 (hS.cell 1 rfl rfl)) (want_yes rfl) rfl rfl ?_
      refine ops_v (rv_neqb Try.underlying4 rfl rfl rfl) (want_yes rfl) rfl rfl ?_
      refine ops_nil ?_
      intro a hA
      refine cw_cond hA rfl (fun hc3 => ?_) (fun hc3 => ?_)
      · replace hF := iteT hc3 hF
        refine cw_seq ?_
        refine cw_ops hA ?_
        clear hA
        refine ops_v (rv_assign rfl rfl) (want_yes rfl) rfl rfl ?_
        refine ops_nil ?_
        intro a hA
        refine cw_ret ?_
        cases hF
        exact fin1 Try.results48 hA (res_tmp rfl) ⟨rfl, (hS.sel [] rfl).weaken (R' := []) (fun _ h => nomatch h)⟩
      · replace hF := iteF hc3 hF
        refine cw_skip ?_
        refine cw_seq ?_
        refine cw_seq ?_
        refine cw_ops hA ?_
        clear hA
        refine ops_v (rv_fld (m := 0) Try.underlying59 rfl rfl Try.sizeOf3 rfl rfl) (want_yes rfl) rfl rfl ?_
        refine ops_v (rv_load1 rfl rfl Try.isAgg3 (hS.cell 0 rfl rfl)) (want_yes rfl) rfl rfl ?_
        refine ops_v (rv_fld (m := 0) Try.underlying59 rfl rfl Try.sizeOf3 rfl rfl) (want_yes rfl) rfl rfl ?_
        refine ops_v (rv_load1 rfl rfl Try.isAgg3 (hS.cell 1 rfl rfl)) (want_yes rfl) rfl rfl ?_
        refine ops_v (rv_neq rfl rfl rfl) (want_yes rfl) rfl rfl ?_
        refine ops_nil ?_
        intro a hA
        refine cw_cond hA rfl (fun hc4 => ?_) (fun hc4 => ?_)
        · replace hF := iteT hc4 hF
          refine cw_seq ?_
          refine cw_ops hA ?_
          clear hA
          refine ops_v (rv_assign rfl rfl) (want_yes rfl) rfl rfl ?_
          refine ops_nil ?_
          intro a hA
          refine cw_ret ?_
          cases hF
          exact fin1 Try.results48 hA (res_tmp rfl) ⟨rfl, (hS.sel [] rfl).weaken (R' := []) (fun _ h => nomatch h)⟩
        · replace hF := iteF hc4 hF
          refine cw_skip ?_
          refine cw_seq ?_
          refine cw_ops hA ?_
          clear hA
          refine ops_v (rv_assign rfl rfl) (want_yes rfl) rfl rfl ?_
          refine ops_nil ?_
          intro a hA
          refine cw_ret ?_
          cases hF
          exact fin1 Try.results48 hA (res_tmp rfl) ⟨rfl, (hS.sel [] rfl).weaken (R' := []) (fun _ h => nomatch h)⟩

set_option maxRecDepth 100000 in
theorem c_laws_eqPinS {w0 : World} {a_ : List Pin} {b : List Pin} {s1 : Value} {s2 : Value} {r : Bool} (h1 : Rep.rd (All w0) w0 [s1] (a_ : List Pin)) (h2 : Rep.rd (All w0) w0 [s2] (b : List Pin)) (hF : laws_eqPinS a_ b = some r) :
    Calls Try.prog 26 #[s1, s2] w0 (Ret fun v w' => v = .bool (r) ∧ St (cxAll w0) w' [] []) := by
  have hS : St (cxAll w0) w0 [] [fRd [s1] (a_ : List Pin), fRd [s2] (b : List Pin)] := St.enter (by
    intro f hf
    simp only [List.mem_cons, List.not_mem_nil, or_false] at hf
    rcases hf with rfl | rfl
    · exact h1
    · exact h2)
  refine calls_cw (args := [_, _]) Try.func26 rfl Try.ntmps26 rfl ?_
  unfold laws_eqPinS at hF
  intro a hA
  refine cw_seq ?_
  refine cw_ops hA ?_
  clear hA
  refine ops_v (rv_assign rfl rfl) (want_yes rfl) rfl rfl ?_
  refine ops_nil ?_
  intro a hA
  refine cw_seq ?_
  refine cw_seq ?_
  refine cw_ops hA ?_
  clear hA
  refine ops_v (rv_move rfl rfl) (want_yes rfl) rfl rfl ?_
  refine ops_v (rv_lenS (hS.rd 0 rfl) Try.underlying27 rfl rfl) (want_yes rfl) rfl rfl ?_
  refine ops_v (rv_move rfl rfl) (want_yes rfl) rfl rfl ?_
  refine ops_v (rv_lenS (hS.rd 1 rfl) Try.underlying27 rfl rfl) (want_yes rfl) rfl rfl ?_
  refine ops_v (rv_neq rfl rfl rfl) (want_yes rfl) rfl rfl ?_
  refine ops_nil ?_
  intro a hA
  refine cw_cond hA rfl (fun hc1 => ?_) (fun hc1 => ?_)
  · replace hF := iteT hc1 hF
    refine cw_seq ?_
    refine cw_ops hA ?_
    clear hA
    refine ops_v (rv_assign rfl rfl) (want_yes rfl) rfl rfl ?_
    refine ops_nil ?_
    intro a hA
    refine cw_ret ?_
    cases hF
    exact fin1 Try.results26 hA (res_tmp rfl) ⟨rfl, (hS.sel [] rfl).weaken (R' := []) (fun _ h => nomatch h)⟩
  · replace hF := iteF hc1 hF
    refine cw_skip ?_
    refine cw_seq ?_
    refine cw_seq ?_
    refine cw_ops hA ?_
    clear hA
    refine ops_v (rv_assign rfl rfl) (want_yes rfl) rfl rfl ?_
    refine ops_nil ?_
    intro a hA
    obtain ⟨o1, hl1, hF⟩ := bindE hF
    refine cw_cut (J := fun a' w' => o1 = Out.brk (()) ∧ AEnv 27 [] a' ∧ St (cxAll w0) w' [] []) ?_ ?_
    · refine cw_block ?_
      refine cw_loop (body := laws_eqPinS_l1 a_ b) (r := o1) (fun sg a' w' => AEnv 27 [(0, s1), (1, s2), (5, .int .i64 (sg))] a' ∧ St (cxAll w0) w' [] [fRd [s1] (a_ : List Pin), fRd [s2] (b : List Pin)]) ?_ hl1 ⟨hA.part ⟨rfl, rfl, rfl, trivial⟩, ((hS).sel [] rfl).selR [0, 1] rfl⟩
      clear hA hS hl1
      rintro x2 a w q1 ⟨hA, hS⟩ hG1 hr1
      try dsimp only at hA hS
      unfold laws_eqPinS_l1 at hG1
      refine cw_seq ?_
      refine cw_seq ?_
      refine cw_ops hA ?_
      clear hA
      refine ops_v (rv_move rfl rfl) (want_yes rfl) rfl rfl ?_
      refine ops_v (rv_move rfl rfl) (want_yes rfl) rfl rfl ?_
      refine ops_v (rv_lenS (hS.rd 0 rfl) Try.underlying27 rfl rfl) (want_yes rfl) rfl rfl ?_
      refine ops_v (rv_lss rfl rfl rfl) (want_yes rfl) rfl rfl ?_
      refine ops_nil ?_
      intro a hA
      refine cw_cond hA rfl (fun hc2 => ?_) (fun hc2 => ?_)
      · replace hG1 := iteT hc2 hG1
        refine cw_skip ?_
        refine cw_seq ?_
        refine cw_block ?_
        refine cw_seq ?_
        refine cw_any (Keeps (cxAll w0) [] [fRd [s1] (a_ : List Pin), fRd [s2] (b : List Pin)]) mixed_Try hA hS ?_
        clear hA hS; intro w hS
        have hK : Keeps (cxAll w0) [] [fRd [s1] (a_ : List Pin), fRd [s2] (b : List Pin)] w := ⟨_, (hS.sel [] rfl).selR [0, 1] rfl⟩
        refine any_v 0 (by kernel_rfl) rfl (by kernel_rfl) (by kernel_rfl) hK (fun _ _ => (rv_move rfl rfl)) (want_yes rfl) rfl rfl ?_
        refine any_v 1 (by kernel_rfl) rfl (by kernel_rfl) (by kernel_rfl) hK (fun _ _ => (rv_move rfl rfl)) (want_yes rfl) rfl rfl ?_
        obtain ⟨x3, hx3, hG1⟩ := bindE hG1
        refine any_v 2 (by kernel_rfl) rfl (by kernel_rfl) (by kernel_rfl) hK (fun w hk => by obtain ⟨_, hS⟩ := hk; exact (rv_idx (m := 4) (hS.rd 0 rfl) rfl hx3 Try.underlying27 Try.sizeOf59 rfl rfl rfl)) (want_yes rfl) rfl rfl ?_
        refine any_v 3 (by kernel_rfl) rfl (by kernel_rfl) (by kernel_rfl) hK (fun w hk => by obtain ⟨_, hS⟩ := hk; exact (rv_loadN rfl rfl Try.isAgg59 Try.sizeOf59 rfl (el_Pin (hS.rd 0 rfl) (idx_some hx3).2.2))) (want_yes rfl) rfl rfl ?_
        refine any_v 4 (by kernel_rfl) rfl (by kernel_rfl) (by kernel_rfl) hK (fun _ _ => (rv_move rfl rfl)) (want_yes rfl) rfl rfl ?_
        refine any_v 5 (by kernel_rfl) rfl (by kernel_rfl) (by kernel_rfl) hK (fun _ _ => (rv_move rfl rfl)) (want_yes rfl) rfl rfl ?_
        obtain ⟨x4, hx4, hG1⟩ := bindE hG1
        refine any_v 6 (by kernel_rfl) rfl (by kernel_rfl) (by kernel_rfl) hK (fun w hk => by obtain ⟨_, hS⟩ := hk; exact (rv_idx (m := 4) (hS.rd 1 rfl) rfl hx4 Try.underlying27 Try.sizeOf59 rfl rfl rfl)) (want_yes rfl) rfl rfl ?_
        refine any_v 7 (by kernel_rfl) rfl (by kernel_rfl) (by kernel_rfl) hK (fun w hk => by obtain ⟨_, hS⟩ := hk; exact (rv_loadN rfl rfl Try.isAgg59 Try.sizeOf59 rfl (el_Pin (hS.rd 1 rfl) (idx_some hx4).2.2))) (want_yes rfl) rfl rfl ?_
        refine any_1 (i := 8) (by kernel_rfl) ?_
        obtain ⟨x5, hx5, hG1⟩ := bindE hG1
        refine as_c rfl (rc_call Try.call48 rfl rfl) (want_yes rfl) rfl rfl (c_laws_eqPin (a_ := x3) (b := x4)  hx5) ?_
        clear hK; rintro _ w ⟨rfl, hk⟩
        replace hS := hS.after hk; clear hk
        have hK : Keeps (cxAll w0) [] [fRd [s1] (a_ : List Pin), fRd [s2] (b : List Pin)] w := ⟨_, (hS.sel [] rfl).selR [0, 1] rfl⟩
        refine ⟨hK, ?_⟩
        refine any_v 9 (by kernel_rfl) rfl (by kernel_rfl) (by kernel_rfl) hK (fun _ _ => (rv_not rfl rfl)) (want_yes rfl) rfl rfl ?_
        refine any_done (by kernel_rfl) ?_
        intro a hA
        refine cw_cond hA rfl (fun hc3 => ?_) (fun hc3 => ?_)
        · replace hG1 := iteT hc3 hG1
          refine cw_seq ?_
          refine cw_ops hA ?_
          clear hA
          refine ops_v (rv_assign rfl rfl) (want_yes rfl) rfl rfl ?_
          refine ops_nil ?_
          intro a hA
          refine cw_ret ?_
          cases hG1
          have ho := hr1 _ rfl; subst ho
          replace hF : some false = some r := hF
          cases hF
          exact fin1 Try.results26 hA (res_tmp rfl) ⟨rfl, (hS.sel [] rfl).weaken (R' := []) (fun _ h => nomatch h)⟩
        · replace hG1 := iteF hc3 hG1
          refine cw_skip ?_
          refine cw_ops hA ?_
          clear hA
          refine ops_v (rv_move rfl rfl) (want_yes rfl) rfl rfl ?_
          refine ops_v (rv_add rfl rfl rfl) (want_yes rfl) rfl rfl ?_
          refine ops_v (rv_assign rfl rfl) (want_yes rfl) rfl rfl ?_
          refine ops_nil ?_
          intro a hA
          cases hG1
          exact ⟨_, rfl, ⟨hA.part ⟨rfl, rfl, rfl, trivial⟩, ((hS).sel [] rfl).selR [0, 1] rfl⟩⟩
      · replace hG1 := iteF hc2 hG1
        refine cw_exit ?_
        refine xcons_hit ?_
        cases hG1
        have ho := hr1 _ rfl; subst ho
        exact ⟨rfl, hA.part trivial, ((hS).sel [] rfl).selR [] rfl⟩
    · skip
      clear hA hS hl1
      rintro a w ⟨heq, hA, hS⟩
      replace hF : laws_eqPinS_j1 = some r := by rw [heq] at hF; exact hF
      clear heq
      unfold laws_eqPinS_j1 at hF
      refine cw_seq ?_
      refine cw_ops hA ?_
      clear hA
      refine ops_v (rv_assign rfl rfl) (want_yes rfl) rfl rfl ?_
      refine ops_nil ?_
      intro a hA
      refine cw_ret ?_
      cases hF
      exact fin1 Try.results26 hA (res_tmp rfl) ⟨rfl, (hS.sel [] rfl).weaken (R' := []) (fun _ h => nomatch h)⟩

set_option maxRecDepth 100000 in
theorem c_laws_eqClock {w0 : World} {a_ : Clock} {b : Clock} {s1 : Value} {s2 : Value} {r : Bool} (h1 : Rep.rd (All w0) w0 [s1] (a_.Pins : List Pin)) (h2 : Rep.rd (All w0) w0 [s2] (b.Pins : List Pin)) (hF : laws_eqClock a_ b = some r) :
    Calls Try.prog 10 #[.agg #[.int .i64 (a_.Epoch), s1], .agg #[.int .i64 (b.Epoch), s2]] w0 (Ret fun v w' => v = .bool (r) ∧ St (cxAll w0) w' [] []) := by
  have hS : St (cxAll w0) w0 [] [fRd [s1] (a_.Pins : List Pin), fRd [s2] (b.Pins : List Pin)] := St.enter (by
    intro f hf
    simp only [List.mem_cons, List.not_mem_nil, or_false] at hf
    rcases hf with rfl | rfl
    · exact h1
    · exact h2)
  refine calls_cw (args := [_, _]) Try.func10 rfl Try.ntmps10 rfl ?_
  unfold laws_eqClock at hF
  intro a hA
  refine cw_seq ?_
  refine cw_ops hA ?_
  clear hA
  refine ops_mv (rv_box (cs := [.int .i64 (a_.Epoch), s1]) hS rfl rfl rfl) (want_yes rfl) rfl rfl ?_
  clear hS
  rintro _ w ⟨b1, rfl, hS⟩
  refine ops_mv (rv_box (cs := [.int .i64 (b.Epoch), s2]) hS rfl rfl rfl) (want_yes rfl) rfl rfl ?_
  clear hS
  rintro _ w ⟨b2, rfl, hS⟩
  refine ops_v (rv_assign rfl rfl) (want_yes rfl) rfl rfl ?_
  refine ops_nil ?_
  intro a hA
  refine cw_seq ?_
  refine cw_seq ?_
  refine cw_ops hA ?_
  clear hA
  refine ops_v (rv_fld (m := 0) Try.underlying29 rfl rfl Try.sizeOf3 rfl rfl) (want_yes rfl) rfl rfl ?_
  refine ops_v (rv_load1 rfl rfl Try.isAgg3 (hS.cell 0 rfl rfl)) (want_yes rfl) rfl rfl ?_
  refine ops_v (rv_fld (m := 0) Try.underlying29 rfl rfl Try.sizeOf3 rfl rfl) (want_yes rfl) rfl rfl ?_
  refine ops_v (rv_load1 rfl rfl Try.isAgg3 (hS.cell 1 rfl rfl)) (want_yes rfl) rfl rfl ?_
  refine ops_v (rv_neq rfl rfl rfl) (want_yes rfl) rfl rfl ?_
  refine ops_nil ?_
  intro a hA
  refine cw_cond hA rfl (fun hc1 => ?_) (fun hc1 => ?_)
  · replace hF := iteT hc1 hF
    refine cw_seq ?_
    refine cw_ops hA ?_
    clear hA
    refine ops_v (rv_assign rfl rfl) (want_yes rfl) rfl rfl ?_
    refine ops_nil ?_
    intro a hA
    refine cw_ret ?_
    cases hF
    exact fin1 Try.results10 hA (res_tmp rfl) ⟨rfl, (hS.sel [] rfl).weaken (R' := []) (fun _ h => nomatch h)⟩
  · replace hF := iteF hc1 hF
    refine cw_skip ?_
    refine cw_seq ?_
    refine cw_seq ?_
    refine cw_ops hA ?_
    clear hA
    refine ops_v (rv_fld (m := 0) Try.underlying29 rfl rfl Try.sizeOf27 rfl rfl) (want_yes rfl) rfl rfl ?_
    refine ops_v (rv_load1 rfl rfl Try.isAgg27 (hS.cell 0 rfl rfl)) (want_yes rfl) rfl rfl ?_
    refine ops_v (rv_fld (m := 0) Try.underlying29 rfl rfl Try.sizeOf27 rfl rfl) (want_yes rfl) rfl rfl ?_
    refine ops_v (rv_load1 rfl rfl Try.isAgg27 (hS.cell 1 rfl rfl)) (want_yes rfl) rfl rfl ?_
    obtain ⟨x1, hx1, hF⟩ := bindE hF
    refine ops_c (rc_call Try.call26 rfl rfl) (want_yes rfl) rfl rfl (c_laws_eqPinS (a_ := a_.Pins) (b := b.Pins) (hS.rd 0 rfl) (hS.rd 1 rfl) hx1) ?_
    rintro _ w ⟨rfl, hk⟩
    replace hS := hS.after hk; clear hk
    refine ops_v (rv_not rfl rfl) (want_yes rfl) rfl rfl ?_
    refine ops_nil ?_
    intro a hA
    refine cw_cond hA rfl (fun hc2 => ?_) (fun hc2 => ?_)
    · replace hF := iteT hc2 hF
      refine cw_seq ?_
      refine cw_ops hA ?_
      clear hA
      refine ops_v (rv_assign rfl rfl) (want_yes rfl) rfl rfl ?_
      refine ops_nil ?_
      intro a hA
      refine cw_ret ?_
      cases hF
      exact fin1 Try.results10 hA (res_tmp rfl) ⟨rfl, (hS.sel [] rfl).weaken (R' := []) (fun _ h => nomatch h)⟩
    · replace hF := iteF hc2 hF
      refine cw_skip ?_
      refine cw_seq ?_
      refine cw_ops hA ?_
      clear hA
      refine ops_v (rv_assign rfl rfl) (want_yes rfl) rfl rfl ?_
      refine ops_nil ?_
      intro a hA
      refine cw_ret ?_
      cases hF
      exact fin1 Try.results10 hA (res_tmp rfl) ⟨rfl, (hS.sel [] rfl).weaken (R' := []) (fun _ h => nomatch h)⟩

set_option maxRecDepth 100000 in
theorem c_laws_FnExactUnmarked {w0 : World} {aC : Clock} {s1 : Value} {r : Bool} (h1 : Rep.rd (All w0) w0 [s1] (aC.Pins : List Pin)) (hF : laws_FnExactUnmarked aC = some r) :
    Calls Try.prog 3 #[.agg #[.int .i64 (aC.Epoch), s1]] w0 (Ret fun v w' => v = .bool (r) ∧ St (cxAll w0) w' [] []) := by
  have hS : St (cxAll w0) w0 [] [fRd [s1] (aC.Pins : List Pin)] := St.enter (by
    intro f hf
    simp only [List.mem_cons, List.not_mem_nil, or_false] at hf
    subst hf; exact h1)
  refine calls_cw (args := [_]) Try.func3 rfl Try.ntmps3 rfl ?_
  unfold laws_FnExactUnmarked at hF
  intro a hA
  refine cw_seq ?_
  refine cw_ops hA ?_
  clear hA
  refine ops_mv (rv_box (cs := [.int .i64 (aC.Epoch), s1]) hS rfl rfl rfl) (want_yes rfl) rfl rfl ?_
  clear hS
  rintro _ w ⟨b1, rfl, hS⟩
  refine ops_v (rv_assign rfl rfl) (want_yes rfl) rfl rfl ?_
  refine ops_nil ?_
  intro a hA
  refine cw_seq ?_
  refine cw_ops hA ?_
  clear hA
  refine ops_v (rv_assign rfl rfl) (want_yes rfl) rfl rfl ?_
  refine ops_nil ?_
  intro a hA
  refine cw_seq ?_
  refine cw_ops hA ?_
  clear hA
  refine ops_v (rv_loadN rfl rfl Try.isAgg24 Try.sizeOf24 rfl (hS.cells 0 0 (cs' := [.int .i64 (aC.Epoch), s1]) rfl rfl)) (want_yes rfl) rfl rfl ?_
  refine ops_v (rv_move rfl rfl) (want_yes rfl) rfl rfl ?_
  obtain ⟨x1, hx1, hF⟩ := bindE hF
  refine ops_c (rc_call Try.call6 rfl rfl) (want_yes rfl) rfl rfl (c_laws_szClock (a_ := aC) (left := 1048576) (hS.rd 0 rfl) hx1) ?_
  rintro _ w ⟨rfl, hk⟩
  replace hS := hS.after hk; clear hk
  refine ops_v (rv_assign rfl rfl) (want_yes rfl) rfl rfl ?_
  refine ops_nil ?_
  intro a hA
  refine cw_seq ?_
  refine cw_seq ?_
  refine cw_ops hA ?_
  clear hA
  refine ops_v (rv_move rfl rfl) (want_yes rfl) rfl rfl ?_
  refine ops_v (rv_lss rfl rfl rfl) (want_yes rfl) rfl rfl ?_
  refine ops_nil ?_
  intro a hA
  refine cw_cond hA rfl (fun hc1 => ?_) (fun hc1 => ?_)
  · replace hF := iteT hc1 hF
    refine cw_seq ?_
    refine cw_ops hA ?_
    clear hA
    refine ops_v (rv_assign rfl rfl) (want_yes rfl) rfl rfl ?_
    refine ops_nil ?_
    intro a hA
    refine cw_ret ?_
    cases hF
    exact fin1 Try.results3 hA (res_tmp rfl) ⟨rfl, (hS.sel [] rfl).weaken (R' := []) (fun _ h => nomatch h)⟩
  · replace hF := iteF hc1 hF
    refine cw_skip ?_
    refine cw_seq ?_
    refine cw_ops hA ?_
    clear hA
    refine ops_v (rv_loadN rfl rfl Try.isAgg24 Try.sizeOf24 rfl (hS.cells 0 0 (cs' := [.int .i64 (aC.Epoch), s1]) rfl rfl)) (want_yes rfl) rfl rfl ?_
    obtain ⟨x2, hx2, hF⟩ := bindE hF
    refine ops_c (rc_call Try.call8 rfl rfl) (want_yes rfl) rfl rfl (c_laws_toClock (a_ := aC) (hS.rd 0 rfl) hx2) ?_
    rintro _ w ⟨s2, rfl, hk⟩
    replace hS := hS.after hk; clear hk
    obtain ⟨x3, hx3, hF⟩ := bindE hF
    refine ops_c (rc_call Try.call7 rfl rfl) (want_yes rfl) rfl rfl (c_spec_Unmarked (c := x2) (hS.rdOwn 1 rfl) hx3) ?_
    rintro _ w ⟨rfl, hk⟩
    replace hS := hS.after hk; clear hk
    refine ops_v (rv_assign rfl rfl) (want_yes rfl) rfl rfl ?_
    refine ops_nil ?_
    intro a hA
    refine cw_seq ?_
    refine cw_ops hA ?_
    clear hA
    refine ops_v (rv_loadN rfl rfl Try.isAgg24 Try.sizeOf24 rfl (hS.cells 0 0 (cs' := [.int .i64 (aC.Epoch), s1]) rfl rfl)) (want_yes rfl) rfl rfl ?_
    obtain ⟨x4, hx4, hF⟩ := bindE hF
    refine ops_c (rc_call Try.call8 rfl rfl) (want_yes rfl) rfl rfl (c_laws_toClock (a_ := aC) (hS.rd 0 rfl) hx4) ?_
    rintro _ w ⟨s3, rfl, hk⟩
    replace hS := hS.after hk; clear hk
    refine ops_mv (rv_alloc (cs := [.int .i64 (0), (.slice none 0 0)]) hS rfl Try.zeroValue29 rfl) (want_yes rfl) rfl rfl ?_
    clear hS
    rintro _ w ⟨b2, rfl, hS⟩
    refine ops_ms (rs_box (vs := [.int .i64 (x4.Epoch), s3]) hS (i := 3) rfl rfl rfl rfl rfl Try.sizeOf29 rfl rfl (all1 rfl (all1 (one_rd (hS.rdOwn 2 rfl)) rfl))) (want_yes rfl) rfl ?_
    clear hS
    intro w hS
    refine ops_nil ?_
    intro a hA
    refine cw_seq ?_
    refine cw_ops hA ?_
    clear hA
    refine ops_v (rv_loadN rfl rfl Try.isAgg29 Try.sizeOf29 rfl (hS.cells 3 0 (cs' := [.int .i64 (x4.Epoch), s3]) rfl rfl)) (want_yes rfl) rfl rfl ?_
    obtain ⟨x5, hx5, hF⟩ := bindE hF
    refine ops_c (rc_call Try.call9 rfl rfl) (want_yes rfl) rfl rfl (c_impl_Unmarked (c := x4) (hS.rdOwn 2 rfl) hx5) ?_
    rintro _ w ⟨rfl, hk⟩
    replace hS := hS.after hk; clear hk
    refine ops_v (rv_assign rfl rfl) (want_yes rfl) rfl rfl ?_
    refine ops_nil ?_
    intro a hA
    refine cw_seq ?_
    refine cw_seq ?_
    refine cw_ops hA ?_
    clear hA
    refine ops_v (rv_move rfl rfl) (want_yes rfl) rfl rfl ?_
    refine ops_v (rv_move rfl rfl) (want_yes rfl) rfl rfl ?_
    refine ops_v (rv_neq rfl rfl rfl) (want_yes rfl) rfl rfl ?_
    refine ops_nil ?_
    intro a hA
    refine cw_cond hA rfl (fun hc2 => ?_) (fun hc2 => ?_)
    · replace hF := iteT hc2 hF
      refine cw_seq ?_
      refine cw_ops hA ?_
      clear hA
      refine ops_v (rv_assign rfl rfl) (want_yes rfl) rfl rfl ?_
      refine ops_nil ?_
      intro a hA
      refine cw_ret ?_
      cases hF
      exact fin1 Try.results3 hA (res_tmp rfl) ⟨rfl, (hS.sel [] rfl).weaken (R' := []) (fun _ h => nomatch h)⟩
    · replace hF := iteF hc2 hF
      refine cw_skip ?_
      refine cw_seq ?_
      refine cw_seq ?_
      refine cw_any (Keeps (cxAll w0) [cBox b1 [.int .i64 (aC.Epoch), s1], cOwn [s2] (x2.Pins : List Pin), cOwn [s3] (x4.Pins : List Pin), cBox b2 [.int .i64 (x4.Epoch), s3]] [fRd [s1] (aC.Pins : List Pin)]) mixed_Try hA hS ?_
      clear hA hS; intro w hS
      have hK : Keeps (cxAll w0) [cBox b1 [.int .i64 (aC.Epoch), s1], cOwn [s2] (x2.Pins : List Pin), cOwn [s3] (x4.Pins : List Pin), cBox b2 [.int .i64 (x4.Epoch), s3]] [fRd [s1] (aC.Pins : List Pin)] w := ⟨_, (hS.sel [0, 1, 2, 3] rfl).selR [0] rfl⟩
      refine any_v 0 (by kernel_rfl) rfl (by kernel_rfl) (by kernel_rfl) hK (fun w hk => by obtain ⟨_, hS⟩ := hk; exact (rv_loadN rfl rfl Try.isAgg29 Try.sizeOf29 rfl (hS.cells 3 0 (cs' := [.int .i64 (x4.Epoch), s3]) rfl rfl))) (want_yes rfl) rfl rfl ?_
      refine any_v 1 (by kernel_rfl) rfl (by kernel_rfl) (by kernel_rfl) hK (fun w hk => by obtain ⟨_, hS⟩ := hk; exact (rv_loadN rfl rfl Try.isAgg24 Try.sizeOf24 rfl (hS.cells 0 0 (cs' := [.int .i64 (aC.Epoch), s1]) rfl rfl))) (want_yes rfl) rfl rfl ?_
      refine any_1 (i := 2) (by kernel_rfl) ?_
      obtain ⟨x6, hx6, hF⟩ := bindE hF
      refine as_c rfl (rc_call Try.call8 rfl rfl) (want_yes rfl) rfl rfl (c_laws_toClock (a_ := aC) (hS.rd 0 rfl) hx6) ?_
      clear hK; rintro _ w ⟨s4, rfl, hk⟩
      replace hS := hS.after hk; clear hk
      have hK : Keeps (cxAll w0) [cBox b1 [.int .i64 (aC.Epoch), s1], cOwn [s2] (x2.Pins : List Pin), cOwn [s3] (x4.Pins : List Pin), cBox b2 [.int .i64 (x4.Epoch), s3]] [fRd [s1] (aC.Pins : List Pin)] w := ⟨_, (hS.sel [0, 1, 2, 3] rfl).selR [0] rfl⟩
      refine ⟨hK, ?_⟩
      refine any_1 (i := 3) (by kernel_rfl) ?_
      obtain ⟨x7, hx7, hF⟩ := bindE hF
      refine as_c rfl (rc_call Try.call10 rfl rfl) (want_yes rfl) rfl rfl (c_laws_eqClock (a_ := x4) (b := x6) (hS.rdOwn 2 rfl) (hS.rdOwn 4 rfl) hx7) ?_
      clear hK; rintro _ w ⟨rfl, hk⟩
      replace hS := hS.after hk; clear hk
      have hK : Keeps (cxAll w0) [cBox b1 [.int .i64 (aC.Epoch), s1], cOwn [s2] (x2.Pins : List Pin), cOwn [s3] (x4.Pins : List Pin), cBox b2 [.int .i64 (x4.Epoch), s3]] [fRd [s1] (aC.Pins : List Pin)] w := ⟨_, (hS.sel [0, 1, 2, 3] rfl).selR [0] rfl⟩
      refine ⟨hK, ?_⟩
      refine any_v 4 (by kernel_rfl) rfl (by kernel_rfl) (by kernel_rfl) hK (fun _ _ => (rv_not rfl rfl)) (want_yes rfl) rfl rfl ?_
      refine any_done (by kernel_rfl) ?_
      intro a hA
      refine cw_cond hA rfl (fun hc3 => ?_) (fun hc3 => ?_)
      · replace hF := iteT hc3 hF
        refine cw_seq ?_
        refine cw_ops hA ?_
        clear hA
        refine ops_v (rv_assign rfl rfl) (want_yes rfl) rfl rfl ?_
        refine ops_nil ?_
        intro a hA
        refine cw_ret ?_
        cases hF
        exact fin1 Try.results3 hA (res_tmp rfl) ⟨rfl, (hS.sel [] rfl).weaken (R' := []) (fun _ h => nomatch h)⟩
      · replace hF := iteF hc3 hF
        refine cw_skip ?_
        refine cw_seq ?_
        refine cw_ops hA ?_
        clear hA
        refine ops_v (rv_assign rfl rfl) (want_yes rfl) rfl rfl ?_
        refine ops_nil ?_
        intro a hA
        refine cw_ret ?_
        cases hF
        exact fin1 Try.results3 hA (res_tmp rfl) ⟨rfl, (hS.sel [] rfl).weaken (R' := []) (fun _ h => nomatch h)⟩
end Go.Proofs.Ytgblknnfnamafaa
