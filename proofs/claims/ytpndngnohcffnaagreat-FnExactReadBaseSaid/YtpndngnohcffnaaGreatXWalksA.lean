import Derived.Test.YtpndngnohcffnaaGreatXFns
import Derived.Test.YtpndngnohcffnaaGreatProg
set_option maxHeartbeats 4000000
set_option maxRecDepth 100000
namespace Go.Proofs.YtpndngnohcffnaaGreat
open Go.Gv
theorem places_Tryz43 (w : World) : ((match Tryz.prog.underlying 43 with | some (.struct fs) => fs | _ => #[]).mapM fun (f : Field) => (do pure (f.offset, ← sizeOf f.type) : Sem (Nat × Nat))).run Tryz.prog w = .ok #[(0, 2), (2, 2)] w := by
  simp [Tryz.underlying43, Tryz.sizeOf38, Tryz.sizeOf41]

theorem places_Tryz120 (w : World) : ((match Tryz.prog.underlying 120 with | some (.struct fs) => fs | _ => #[]).mapM fun (f : Field) => (do pure (f.offset, ← sizeOf f.type) : Sem (Nat × Nat))).run Tryz.prog w = .ok #[(0, 1)] w := by
  simp [Tryz.underlying120, Tryz.sizeOf22]

theorem places_Tryz49 (w : World) : ((match Tryz.prog.underlying 49 with | some (.struct fs) => fs | _ => #[]).mapM fun (f : Field) => (do pure (f.offset, ← sizeOf f.type) : Sem (Nat × Nat))).run Tryz.prog w = .ok #[(0, 4), (4, 2), (6, 1), (7, 1)] w := by
  simp [Tryz.underlying49, Tryz.sizeOf22, Tryz.sizeOf43, Tryz.sizeOf46, Tryz.sizeOf47]

theorem places_Tryz65 (w : World) : ((match Tryz.prog.underlying 65 with | some (.struct fs) => fs | _ => #[]).mapM fun (f : Field) => (do pure (f.offset, ← sizeOf f.type) : Sem (Nat × Nat))).run Tryz.prog w = .ok #[(0, 1), (1, 1), (2, 1), (3, 1)] w := by
  simp [Tryz.underlying65, Tryz.sizeOf3, Tryz.sizeOf4]

theorem places_Tryz69 (w : World) : ((match Tryz.prog.underlying 69 with | some (.struct fs) => fs | _ => #[]).mapM fun (f : Field) => (do pure (f.offset, ← sizeOf f.type) : Sem (Nat × Nat))).run Tryz.prog w = .ok #[(0, 1)] w := by
  simp [Tryz.underlying69, Tryz.sizeOf67]

theorem places_Tryz71 (w : World) : ((match Tryz.prog.underlying 71 with | some (.struct fs) => fs | _ => #[]).mapM fun (f : Field) => (do pure (f.offset, ← sizeOf f.type) : Sem (Nat × Nat))).run Tryz.prog w = .ok #[(0, 1), (1, 1)] w := by
  simp [Tryz.underlying71, Tryz.sizeOf3]

theorem places_Tryz89 (w : World) : ((match Tryz.prog.underlying 89 with | some (.struct fs) => fs | _ => #[]).mapM fun (f : Field) => (do pure (f.offset, ← sizeOf f.type) : Sem (Nat × Nat))).run Tryz.prog w = .ok #[(0, 1), (1, 1)] w := by
  simp [Tryz.underlying89, Tryz.sizeOf4, Tryz.sizeOf9]

theorem inf_Tryz3 : Inf Tryz.prog 3 1 (.int .i64 0) := inf_of (b := 8) (by kernel_rfl) rfl

theorem inf_Tryz120 : Inf Tryz.prog 120 1 (.agg #[.slice none 0 0]) := inf_of (b := 24) (by kernel_rfl) rfl

theorem inf_Tryz5 : Inf Tryz.prog 5 1 (.int .u8 0) := inf_of (b := 1) (by kernel_rfl) rfl

theorem inf_Tryz65 : Inf Tryz.prog 65 4 (.agg #[.bool false, .int .i64 0, .bool false, .int .i64 0]) := inf_of (b := 32) (by kernel_rfl) rfl

theorem inf_Tryz71 : Inf Tryz.prog 71 2 (.agg #[.int .i64 0, .int .i64 0]) := inf_of (b := 16) (by kernel_rfl) rfl

theorem inf_Tryz69 : Inf Tryz.prog 69 1 (.agg #[.slice none 0 0]) := inf_of (b := 24) (by kernel_rfl) rfl

theorem inf_Tryz39 : Inf Tryz.prog 39 1 (.slice none 0 0) := inf_of (b := 24) (by kernel_rfl) rfl

theorem mixed_Tryz : Tryz.prog.follows .mixedOrders = true := by kernel_rfl

theorem eqf_Tryz65 (D : Nat) (d d' : Pin) (w : World) : (Op.eqFields (D + 2) #[.bool (d.On), .int .i64 (d.Epoch), .bool (d.Marked), .int .i64 (d.Seen)] #[.bool (d'.On), .int .i64 (d'.Epoch), .bool (d'.Marked), .int .i64 (d'.Seen)] (match Tryz.prog.underlying 65 with | some (.struct fs) => fs | _ => #[]).toList).run Tryz.prog w = .ok (decide (d = d')) w := by
  rw [Tryz.underlying65]
  have h : (d.On == d'.On && (d.Epoch == d'.Epoch && (d.Marked == d'.Marked && (d.Seen == d'.Seen && true)))) = decide (d = d') := by
    cases d; cases d'; rw [Bool.eq_iff_iff]; simp
  rw [← h]
  exact eqf_cons _ _ _ _ _ rfl (part1 Tryz.isAgg4 rfl) (part1 Tryz.isAgg4 rfl) (ei_bool Tryz.underlying4) <|
    eqf_cons _ _ _ _ _ rfl (part1 Tryz.isAgg3 rfl) (part1 Tryz.isAgg3 rfl) (ei_int Tryz.underlying3) <|
    eqf_cons _ _ _ _ _ rfl (part1 Tryz.isAgg4 rfl) (part1 Tryz.isAgg4 rfl) (ei_bool Tryz.underlying4) <|
    eqf_cons _ _ _ _ _ rfl (part1 Tryz.isAgg3 rfl) (part1 Tryz.isAgg3 rfl) (ei_int Tryz.underlying3) <|
    eqf_nil _ _ _

theorem c_spec_l1In {w0 : World} {x : Int} {low : Int} {high : Int}  {r : Bool}  (hF : spec_l1In x low high = some r) :
    Calls Tryz.prog 60 #[.int .i64 (x), .int .i64 (low), .int .i64 (high)] w0 (Ret fun v w' => v = .bool (r) ∧ St (cxAll w0) w' [] []) := by
 have hS : St (cxAll w0) w0 [] [] := St.enter (by
   intro f hf; cases hf)
 refine calls_cw (args := [_, _, _]) Tryz.func60 rfl Tryz.ntmps60 rfl ?_
 unfold spec_l1In at hF
 intro a hA
 refine cw_seq <| cw_ops hA ?_
 clear hA
 refine oa rfl rfl <| ops_nil fun a hA => cw_seq <| cw_cut (J := fun a' w' => ∃ (x1 : Bool), spec_l1In_j1 x1 = some r ∧ AEnv 15 [(6, .bool (x1))] a' ∧ St (cxAll w0) w' [] []) ?_ ?_
 ·skip
  refine cw_ops hA ?_
  clear hA
  refine om rfl rfl <| om rfl rfl <| oy (rv_geq rfl rfl rfl) rfl <| om rfl rfl <| ops_case (s := 10) rfl (fun hc1 => ?_) (fun hc1 => ?_)
  ·replace hF := iteT hc1 hF
   refine ops_v (rv_move rfl rfl) (want_if rfl rfl rfl (by rw [hc1]; rfl)) rfl rfl <| ops_v (rv_move rfl rfl) (want_if rfl rfl rfl (by rw [hc1]; rfl)) rfl rfl <| ops_v (rv_leq rfl rfl rfl) (want_if rfl rfl rfl (by rw [hc1]; rfl)) rfl rfl <| oy (rv_pick_t rfl rfl hc1 rfl) rfl <| oa rfl rfl <| ops_nil fun a hA => ?_
   exact ⟨decide (x ≤ high), hF, hA.part ⟨rfl, trivial⟩, ((hS).sel [] rfl).selR [] rfl⟩
  ·replace hF := iteF hc1 hF
   refine ops_off (want_if rfl rfl rfl (by rw [hc1]; rfl)) rfl rfl <| ops_off (want_if rfl rfl rfl (by rw [hc1]; rfl)) rfl rfl <| ops_off (want_if rfl rfl rfl (by rw [hc1]; rfl)) rfl rfl <| oy (rv_pick_f rfl rfl hc1 rfl) rfl <| oa rfl rfl <| ops_nil fun a hA => ?_
   exact ⟨false, hF, hA.part ⟨rfl, trivial⟩, ((hS).sel [] rfl).selR [] rfl⟩
 ·skip
  clear hA hS hF
  rintro a w ⟨x1, hF, hA, hS⟩
  unfold spec_l1In_j1 at hF
  refine cw_ret ?_
  cases hF
  exact fy Tryz.results60 hA rfl hS

theorem c_spec_Var {w0 : World} {n : Int}  {r : (List UInt8)}  (hF : spec_Var n = some r) :
    Calls Tryz.prog 20 #[.int .i64 (n)] w0 (Ret fun v w' => v = sv (r) ∧ St (cxAll w0) w' [] []) := by
 have hS : St (cxAll w0) w0 [] [] := St.enter (by
   intro f hf; cases hf)
 refine calls_cw (args := [_]) Tryz.func20 rfl Tryz.ntmps20 rfl ?_
 unfold spec_Var at hF
 intro a hA
 refine cw_seq <| cw_ops hA ?_
 clear hA
 refine oa rfl rfl <| ops_nil fun a hA => cw_seq <| cw_seq <| cw_ops hA ?_
 clear hA
 refine om rfl rfl ?_
 obtain ⟨x1, hx1, hF⟩ := bindE hF
 refine ops_c (rc_call Tryz.call60 rfl rfl) (want_yes rfl) rfl rfl (c_spec_l1In (x := n) (low := 0) (high := 562949953421311)  hx1) ?_
 rintro _ w ⟨rfl, hk⟩
 replace hS := hS.after hk; clear hk
 refine oy (rv_not rfl rfl) rfl <| ops_nil fun a hA => cw_cond hA rfl (fun hc1 => ?_) (fun hc1 => ?_)
 ·replace hF := iteT hc1 hF
  refine cw_seq <| cw_ops hA ?_
  clear hA
  refine oa rfl rfl <| ops_nil fun a hA => cw_ret ?_
  cases hF
  exact fy Tryz.results20 hA rfl hS
 ·replace hF := iteF hc1 hF
  refine cw_skip <| cw_seq <| cw_ops hA ?_
  clear hA
  refine ops_mv (rv_lit0 (α := UInt8) hS rfl Tryz.underlying108 inf_Tryz5 rfl) (want_yes rfl) rfl rfl ?_
  clear hS
  rintro s1 w hS
  refine oa rfl rfl <| ops_nil fun a hA => cw_seq ?_
  obtain ⟨o1, hl1, hF⟩ := bindE hF
  refine cw_cut (J := fun a' w' => ∃ (x6 : Int) (x7 : List UInt8) (s4 : Value), o1 = (x6, x7) ∧ AEnv 25 [(0, .int .i64 (x6)), (3, s4)] a' ∧ St (cxAll w0) w' [cOwn [s4] (x7 : List UInt8)] []) ?_ ?_
  ·refine cw_block ?_
   refine cw_loop (body := spec_Var_l1) (r := o1) (fun sg a' w' => ∃ (s3 : Value), AEnv 25 [(0, .int .i64 (sg.1)), (3, s3)] a' ∧ St (cxAll w0) w' [cOwn [s3] (sg.2 : List UInt8)] []) ?_ hl1 ⟨s1, hA.part ⟨rfl, rfl, trivial⟩, ((hS).sel [0] rfl).selR [] rfl⟩
   clear hA hS hl1
   rintro ⟨x4, x5⟩ a w q1 ⟨s3, hA, hS⟩ hG1 hr1
   try dsimp only at hA hS
   unfold spec_Var_l1 at hG1
   refine cw_seq <| cw_seq <| cw_ops hA ?_
   clear hA
   refine om rfl rfl <| oy (rv_geq rfl rfl rfl) rfl <| ops_nil fun a hA => cw_cond hA rfl (fun hc2 => ?_) (fun hc2 => ?_)
   ·replace hG1 := iteT hc2 hG1
    refine cw_skip <| cw_block <| cw_seq <| cw_ops hA ?_
    clear hA
    refine om rfl rfl <| om rfl rfl <| oy (rv_rem rfl rfl rfl (by decide)) rfl <| oy (rv_add rfl rfl rfl) rfl <| oy (rv_conv8 Tryz.underlying3 Tryz.underlying5 rfl rfl) rfl <| ops_mv (rv_lit1 (u8 (w64 (128 + (Int.tmod x4 128))) : UInt8) hS rfl Tryz.underlying108 inf_Tryz5 rfl rfl rfl rfl) (want_yes rfl) rfl rfl ?_
    clear hS
    rintro s7 w hS
    obtain ⟨hn2, hG1⟩ := needE hG1
    refine ops_mv (rv_append (α := UInt8) 0 hS rfl (hS.rdOwn 1 rfl) rfl Tryz.underlying108 inf_Tryz5 rfl hn2 rfl rfl rfl) (want_yes rfl) rfl rfl ?_
    clear hS
    rintro s8 w hS
    refine oa rfl rfl <| ops_nil fun a hA => cw_ops hA ?_
    clear hA
    refine om rfl rfl <| oy (rv_quo rfl rfl rfl (by decide)) rfl <| oa rfl rfl <| ops_nil fun a hA => ?_
    cases hG1
    exact ⟨_, rfl, ⟨s8, hA.part ⟨rfl, rfl, trivial⟩, ((hS).sel [0] rfl).selR [] rfl⟩⟩
   ·replace hG1 := iteF hc2 hG1
    refine cw_exit <| xcons_hit ?_
    cases hG1
    have ho := hr1 _ rfl; subst ho
    exact ⟨x4, x5, s3, rfl, hA.part ⟨rfl, rfl, trivial⟩, ((hS).sel [0] rfl).selR [] rfl⟩
  ·skip
   clear hA hS hl1
   rintro a w ⟨x6, x7, s4, heq, hA, hS⟩
   replace hF : spec_Var_j1 x6 x7 = some r := by rw [heq] at hF; exact hF
   clear heq
   unfold spec_Var_j1 at hF
   refine cw_seq <| cw_ops hA ?_
   clear hA
   refine om rfl rfl <| om rfl rfl <| oy (rv_conv8 Tryz.underlying3 Tryz.underlying5 rfl rfl) rfl <| ops_mv (rv_lit1 (u8 x6 : UInt8) hS rfl Tryz.underlying108 inf_Tryz5 rfl rfl rfl rfl) (want_yes rfl) rfl rfl ?_
   clear hS
   rintro s5 w hS
   obtain ⟨hn1, hF⟩ := needE hF
   refine ops_mv (rv_append (α := UInt8) 0 hS rfl (hS.rdOwn 1 rfl) rfl Tryz.underlying108 inf_Tryz5 rfl hn1 rfl rfl rfl) (want_yes rfl) rfl rfl ?_
   clear hS
   rintro s6 w hS
   refine oy (rv_b2s (hS.rdOwn 0 rfl) Tryz.underlying108 Tryz.underlying5 Tryz.underlying9 rfl rfl) rfl <| oa rfl rfl <| ops_nil fun a hA => cw_ret ?_
   cases hF
   exact fy Tryz.results20 hA rfl hS

theorem c_spec_ReadVar {w0 : World} {s : List UInt8}  {r : Int × Int}  (hF : spec_ReadVar s = some r) :
    Calls Tryz.prog 81 #[sv (s)] w0 (Ret fun v w' => v = .tuple #[.int .i64 (r.1), .int .i64 (r.2)] ∧ St (cxAll w0) w' [] []) := by
 have hS : St (cxAll w0) w0 [] [] := St.enter (by
   intro f hf; cases hf)
 refine calls_cw (args := [_]) Tryz.func81 rfl Tryz.ntmps81 rfl ?_
 unfold spec_ReadVar at hF
 intro a hA
 refine cw_seq <| cw_ops hA ?_
 clear hA
 refine oa rfl rfl <| oa rfl rfl <| ops_nil fun a hA => cw_seq <| cw_seq <| cw_ops hA ?_
 clear hA
 refine oa rfl rfl <| ops_nil fun a hA => ?_
 obtain ⟨o1, hl1, hF⟩ := bindE hF
 refine cw_cut (J := fun a' w' => o1 = Out.brk (()) ∧ AEnv 39 [] a' ∧ St (cxAll w0) w' [] []) ?_ ?_
 ·refine cw_block ?_
  refine cw_loop (body := spec_ReadVar_l1 s) (r := o1) (fun sg a' w' => AEnv 39 [(0, sv (s)), (4, .int .i64 (sg))] a' ∧ St (cxAll w0) w' [] []) ?_ hl1 ⟨hA.part ⟨rfl, rfl, trivial⟩, ((hS).sel [] rfl).selR [] rfl⟩
  clear hA hS hl1
  rintro x2 a w q1 ⟨hA, hS⟩ hG1 hr1
  try dsimp only at hA hS
  unfold spec_ReadVar_l1 at hG1
  refine cw_seq <| cw_seq <| cw_cut (J := fun a' w' => ∃ (x3 : Bool), spec_ReadVar_j2 s x2 x3 = some q1 ∧ AEnv 39 [(0, sv (s)), (4, .int .i64 (x2)), (14, .bool (x3))] a' ∧ St (cxAll w0) w' [] []) ?_ ?_
  ·skip
   refine cw_ops hA ?_
   clear hA
   refine om rfl rfl <| oy (rv_leq rfl rfl rfl) rfl <| om rfl rfl <| ops_case (s := 9) rfl (fun hc4 => ?_) (fun hc4 => ?_)
   ·replace hG1 := iteT hc4 hG1
    refine ops_v (rv_move rfl rfl) (want_if rfl rfl rfl (by rw [hc4]; rfl)) rfl rfl <| ops_v (rv_move rfl rfl) (want_if rfl rfl rfl (by rw [hc4]; rfl)) rfl rfl <| ops_v (rv_lens Tryz.underlying9 rfl rfl) (want_if rfl rfl rfl (by rw [hc4]; rfl)) rfl rfl <| ops_v (rv_leq rfl rfl rfl) (want_if rfl rfl rfl (by rw [hc4]; rfl)) rfl rfl <| oy (rv_pick_t rfl rfl hc4 rfl) rfl <| ops_nil fun a hA => ?_
    exact ⟨decide (x2 ≤ ((s.length : Int))), hG1, hA.part ⟨rfl, rfl, rfl, trivial⟩, ((hS).sel [] rfl).selR [] rfl⟩
   ·replace hG1 := iteF hc4 hG1
    refine ops_off (want_if rfl rfl rfl (by rw [hc4]; rfl)) rfl rfl <| ops_off (want_if rfl rfl rfl (by rw [hc4]; rfl)) rfl rfl <| ops_off (want_if rfl rfl rfl (by rw [hc4]; rfl)) rfl rfl <| ops_off (want_if rfl rfl rfl (by rw [hc4]; rfl)) rfl rfl <| oy (rv_pick_f rfl rfl hc4 rfl) rfl <| ops_nil fun a hA => ?_
    exact ⟨false, hG1, hA.part ⟨rfl, rfl, rfl, trivial⟩, ((hS).sel [] rfl).selR [] rfl⟩
  ·skip
   clear hA hS hG1
   rintro a w ⟨x3, hG1, hA, hS⟩
   unfold spec_ReadVar_j2 at hG1
   refine cw_cond hA rfl (fun hc1 => ?_) (fun hc1 => ?_)
   ·replace hG1 := iteT hc1 hG1
    refine cw_skip <| cw_seq <| cw_block <| cw_seq <| cw_ops hA ?_
    clear hA
    refine oa rfl rfl <| ops_nil fun a hA => cw_seq <| cw_seq <| cw_ops hA ?_
    clear hA
    refine om rfl rfl <| oy (rv_sub rfl rfl rfl) rfl <| oa rfl rfl <| ops_nil fun a hA => ?_
    obtain ⟨o2, hl2, hG1⟩ := bindE hG1
    refine cw_cut (J := fun a' w' => ∃ (x8 : Int), o2 = x8 ∧ AEnv 39 [(0, sv (s)), (4, .int .i64 (x2)), (5, .int .i64 (x8))] a' ∧ St (cxAll w0) w' [] []) ?_ ?_
    ·refine cw_block ?_
     refine cw_loop (body := spec_ReadVar_l3 s) (r := o2) (fun sg a' w' => AEnv 39 [(0, sv (s)), (4, .int .i64 (x2)), (5, .int .i64 (sg.1)), (6, .int .i64 (sg.2))] a' ∧ St (cxAll w0) w' [] []) ?_ hl2 ⟨hA.part ⟨rfl, rfl, rfl, rfl, trivial⟩, ((hS).sel [] rfl).selR [] rfl⟩
     clear hA hS hl2
     rintro ⟨x6, x7⟩ a w q3 ⟨hA, hS⟩ hG3 hr3
     try dsimp only at hA hS
     unfold spec_ReadVar_l3 at hG3
     refine cw_seq <| cw_seq <| cw_ops hA ?_
     clear hA
     refine om rfl rfl <| oy (rv_geq rfl rfl rfl) rfl <| ops_nil fun a hA => cw_cond hA rfl (fun hc3 => ?_) (fun hc3 => ?_)
     ·replace hG3 := iteT hc3 hG3
      refine cw_skip <| cw_seq <| cw_block <| cw_ops hA ?_
      clear hA
      refine om rfl rfl <| oy (rv_mul rfl rfl rfl) rfl <| om rfl rfl <| om rfl rfl ?_
      obtain ⟨x10, hx10, hG3⟩ := bindE hG3
      refine oy (rv_stri Tryz.underlying9 hx10 rfl rfl rfl) rfl <| oy (rv_convU Tryz.underlying5 Tryz.underlying3 rfl rfl) rfl <| oy (rv_rem rfl rfl rfl (by decide)) rfl <| oy (rv_add rfl rfl rfl) rfl <| oa rfl rfl <| ops_nil fun a hA => cw_ops hA ?_
      clear hA
      refine om rfl rfl <| oy (rv_sub rfl rfl rfl) rfl <| oa rfl rfl <| ops_nil fun a hA => ?_
      cases hG3
      exact ⟨_, rfl, ⟨hA.part ⟨rfl, rfl, rfl, rfl, trivial⟩, ((hS).sel [] rfl).selR [] rfl⟩⟩
     ·replace hG3 := iteF hc3 hG3
      refine cw_exit <| xcons_hit ?_
      cases hG3
      have ho := hr3 _ rfl; subst ho
      exact ⟨x6, rfl, hA.part ⟨rfl, rfl, rfl, trivial⟩, ((hS).sel [] rfl).selR [] rfl⟩
    ·skip
     clear hA hS hl2
     rintro a w ⟨x8, heq, hA, hS⟩
     replace hG1 : spec_ReadVar_j3 s x2 x8 = some q1 := by rw [heq] at hG1; exact hG1
     clear heq
     unfold spec_ReadVar_j3 at hG1
     refine cw_seq <| cw_any (Keeps (cxAll w0) [] []) mixed_Tryz hA hS ?_
     clear hA hS; intro w hS
     have hK : Keeps (cxAll w0) [] [] w := ⟨_, (hS.sel [] rfl).selR [] rfl⟩
     refine ey 0 rfl (by kernel_rfl) hK (fun _ _ _ => (rv_move rfl rfl)) rfl ?_
     refine ey 2 rfl (by kernel_rfl) hK (fun _ _ _ => (rv_move rfl rfl)) rfl ?_
     refine ey 3 rfl (by kernel_rfl) hK (fun _ _ _ => (rv_move rfl rfl)) rfl ?_
     obtain ⟨hn1, hG1⟩ := needE hG1
     refine ey 4 rfl (by kernel_rfl) hK (fun _ _ _ => (rv_str_h Tryz.underlying9 hn1 rfl rfl rfl)) rfl ?_
     refine any_1 (i := 1) (by kernel_rfl) ?_
     obtain ⟨x9, hx9, hG1⟩ := bindE hG1
     refine as_c rfl (rc_call Tryz.call20 rfl rfl) (want_yes rfl) rfl rfl (c_spec_Var (n := x8)  hx9) ?_
     clear hK; rintro _ w ⟨rfl, hk⟩
     replace hS := hS.after hk; clear hk
     have hK := keepsI ((hS.sel [] rfl).selR [] rfl)
     refine ⟨hK, ?_⟩
     refine ey 5 rfl (by kernel_rfl) hK (fun _ _ _ => (rv_eqls rfl rfl rfl)) rfl ?_
     refine any_done (by kernel_rfl) ?_
     intro a hA
     refine cw_cond hA rfl (fun hc2 => ?_) (fun hc2 => ?_)
     ·replace hG1 := iteT hc2 hG1
      refine cw_seq <| cw_ops hA ?_
      clear hA
      refine om rfl rfl <| om rfl rfl <| oa rfl rfl <| oa rfl rfl <| ops_nil fun a hA => cw_ret ?_
      cases hG1
      have ho := hr1 _ rfl; subst ho
      replace hF : some ((x8, x2)) = some r := hF
      cases hF
      exact fin2 Tryz.results81 hA (res_tmp rfl) (res_tmp rfl) ⟨rfl, (hS.sel [] rfl).weaken (R' := []) (fun _ h => nomatch h)⟩
     ·replace hG1 := iteF hc2 hG1
      refine cw_skip <| cw_ops hA ?_
      clear hA
      refine om rfl rfl <| oy (rv_add rfl rfl rfl) rfl <| oa rfl rfl <| ops_nil fun a hA => ?_
      cases hG1
      exact ⟨_, rfl, ⟨hA.part ⟨rfl, rfl, trivial⟩, ((hS).sel [] rfl).selR [] rfl⟩⟩
   ·replace hG1 := iteF hc1 hG1
    refine cw_exit <| xcons_hit ?_
    cases hG1
    have ho := hr1 _ rfl; subst ho
    exact ⟨rfl, hA.part trivial, ((hS).sel [] rfl).selR [] rfl⟩
 ·skip
  clear hA hS hl1
  rintro a w ⟨heq, hA, hS⟩
  replace hF : spec_ReadVar_j1 = some r := by rw [heq] at hF; exact hF
  clear heq
  unfold spec_ReadVar_j1 at hF
  refine cw_seq <| cw_ops hA ?_
  clear hA
  refine oa rfl rfl <| oa rfl rfl <| ops_nil fun a hA => cw_ret ?_
  cases hF
  exact fin2 Tryz.results81 hA (res_tmp rfl) (res_tmp rfl) ⟨rfl, (hS.sel [] rfl).weaken (R' := []) (fun _ h => nomatch h)⟩

theorem c_spec_l30Num {w0 : World} {s : List UInt8} {at_ : Int}  {r : Int × Int}  (hF : spec_l30Num s at_ = some r) :
    Calls Tryz.prog 35 #[sv (s), .int .i64 (at_)] w0 (Ret fun v w' => v = .tuple #[.int .i64 (r.1), .int .i64 (r.2)] ∧ St (cxAll w0) w' [] []) := by
 have hS : St (cxAll w0) w0 [] [] := St.enter (by
   intro f hf; cases hf)
 refine calls_cw (args := [_, _]) Tryz.func35 rfl Tryz.ntmps35 rfl ?_
 unfold spec_l30Num at hF
 intro a hA
 refine cw_seq <| cw_ops hA ?_
 clear hA
 refine oa rfl rfl <| oa rfl rfl <| ops_nil fun a hA => cw_seq <| cw_seq <| cw_ops hA ?_
 clear hA
 refine om rfl rfl <| oy (rv_lss rfl rfl rfl) rfl <| ops_nil fun a hA => cw_cond hA rfl (fun hc1 => ?_) (fun hc1 => ?_)
 ·replace hF := iteT hc1 hF
  refine cw_seq <| cw_ops hA ?_
  clear hA
  refine oa rfl rfl <| oa rfl rfl <| ops_nil fun a hA => cw_ret ?_
  cases hF
  exact fin2 Tryz.results35 hA (res_tmp rfl) (res_tmp rfl) ⟨rfl, (hS.sel [] rfl).weaken (R' := []) (fun _ h => nomatch h)⟩
 ·replace hF := iteF hc1 hF
  refine cw_skip <| cw_seq <| cw_ops hA ?_
  clear hA
  refine om rfl rfl <| om rfl rfl ?_
  obtain ⟨hn1, hF⟩ := needE hF
  refine oy (rv_str_l Tryz.underlying9 hn1 rfl rfl rfl) rfl ?_
  obtain ⟨x1, hx1, hF⟩ := bindE hF
  refine ops_c (rc_call Tryz.call81 rfl rfl) (want_yes rfl) rfl rfl (c_spec_ReadVar (s := s.drop (at_.toNat))  hx1) ?_
  rintro _ w ⟨rfl, hk⟩
  replace hS := hS.after hk; clear hk
  refine om rfl rfl <| oy (rv_extract rfl rfl rfl) rfl <| oy (rv_extract rfl rfl rfl) rfl <| oa rfl rfl <| oa rfl rfl <| ops_nil fun a hA => cw_seq <| cw_seq <| cw_ops hA ?_
  clear hA
  refine om rfl rfl <| oy (rv_eql rfl rfl rfl) rfl <| ops_nil fun a hA => cw_cond hA rfl (fun hc2 => ?_) (fun hc2 => ?_)
  ·replace hF := iteT hc2 hF
   refine cw_seq <| cw_ops hA ?_
   clear hA
   refine oa rfl rfl <| oa rfl rfl <| ops_nil fun a hA => cw_ret ?_
   cases hF
   exact fin2 Tryz.results35 hA (res_tmp rfl) (res_tmp rfl) ⟨rfl, (hS.sel [] rfl).weaken (R' := []) (fun _ h => nomatch h)⟩
  ·replace hF := iteF hc2 hF
   refine cw_skip <| cw_seq <| cw_ops hA ?_
   clear hA
   refine om rfl rfl <| om rfl rfl <| om rfl rfl <| oy (rv_add rfl rfl rfl) rfl <| oa rfl rfl <| oa rfl rfl <| ops_nil fun a hA => cw_ret ?_
   cases hF
   exact fin2 Tryz.results35 hA (res_tmp rfl) (res_tmp rfl) ⟨rfl, (hS.sel [] rfl).weaken (R' := []) (fun _ h => nomatch h)⟩

theorem c_spec_l30Lists {w0 : World} {s : List UInt8} {at_ : Int} {n : Int}  {r : (List SList) × Int}  (hF : spec_l30Lists s at_ n = some r) :
    Calls Tryz.prog 80 #[sv (s), .int .i64 (at_), .int .i64 (n)] w0 (Ret fun v w' => ∃ (s0_0 : Value), v = .tuple #[s0_0, .int .i64 (r.2)] ∧ St (cxAll w0) w' [cOwn [s0_0] (r.1 : List SList)] []) := by
 have hS : St (cxAll w0) w0 [] [] := St.enter (by
   intro f hf; cases hf)
 refine calls_cw (args := [_, _, _]) Tryz.func80 rfl Tryz.ntmps80 rfl ?_
 unfold spec_l30Lists at hF
 intro a hA
 refine cw_seq <| cw_ops hA ?_
 clear hA
 refine oa rfl rfl <| oa rfl rfl <| ops_nil fun a hA => cw_seq <| cw_ops hA ?_
 clear hA
 refine ops_mv (rv_lit0 (α := SList) hS rfl Tryz.underlying39 inf_Tryz120 rfl) (want_yes rfl) rfl rfl ?_
 clear hS
 rintro s1 w hS
 refine oa rfl rfl <| ops_nil fun a hA => cw_seq <| cw_seq <| cw_ops hA ?_
 clear hA
 refine oa rfl rfl <| ops_nil fun a hA => ?_
 obtain ⟨o1, hl1, hF⟩ := bindE hF
 refine cw_cut (J := fun a' w' => ∃ (x7 : Int) (x8 : List SList) (s4 : Value), o1 = (x7, x8) ∧ AEnv 58 [(1, .int .i64 (x7)), (8, s4)] a' ∧ St (cxAll w0) w' [cOwn [s4] (x8 : List SList)] []) ?_ ?_
 ·refine cw_block ?_
  refine cw_loop (body := spec_l30Lists_l1 s n) (r := o1) (fun sg a' w' => ∃ (s3 : Value), AEnv 58 [(0, sv (s)), (1, .int .i64 (sg.1)), (2, .int .i64 (n)), (8, s3), (9, .int .i64 (sg.2.2))] a' ∧ St (cxAll w0) w' [cOwn [s3] (sg.2.1 : List SList)] []) ?_ hl1 ⟨s1, hA.part ⟨rfl, rfl, rfl, rfl, rfl, trivial⟩, ((hS).sel [0] rfl).selR [] rfl⟩
  clear hA hS hl1
  rintro ⟨x4, x5, x6⟩ a w q1 ⟨s3, hA, hS⟩ hG1 hr1
  try dsimp only at hA hS
  unfold spec_l30Lists_l1 at hG1
  refine cw_seq <| cw_seq <| cw_ops hA ?_
  clear hA
  refine om rfl rfl <| om rfl rfl <| oy (rv_lss rfl rfl rfl) rfl <| ops_nil fun a hA => cw_cond hA rfl (fun hc1 => ?_) (fun hc1 => ?_)
  ·replace hG1 := iteT hc1 hG1
   refine cw_skip <| cw_seq <| cw_block <| cw_seq <| cw_ops hA ?_
   clear hA
   refine oy (rv_build (cells := #[(.slice none 0 0)]) rfl Tryz.zeroValue120 Tryz.underlying120 (by have h := places_Tryz120; rw [Tryz.underlying120] at h; exact h) rfl rfl) rfl <| ops_mv (rv_alloc (cs := [(.slice none 0 0)]) hS rfl Tryz.zeroValue120 rfl) (want_yes rfl) rfl rfl ?_
   clear hS
   rintro _ w ⟨b1, rfl, hS⟩
   refine ops_ms (rs_box (vs := [(.slice none 0 0)]) hS (i := 1) rfl rfl rfl rfl rfl Tryz.sizeOf120 rfl rfl rfl) (want_yes rfl) rfl ?_
   clear hS
   intro w hS
   refine ops_nil fun a hA => cw_seq <| cw_ops hA ?_
   clear hA
   refine om rfl rfl <| om rfl rfl ?_
   obtain ⟨x9, hx9, hG1⟩ := bindE hG1
   refine ops_c (rc_call Tryz.call35 rfl rfl) (want_yes rfl) rfl rfl (c_spec_l30Num (s := s) (at_ := x4)  hx9) ?_
   rintro _ w ⟨rfl, hk⟩
   replace hS := hS.after hk; clear hk
   refine om rfl rfl <| oy (rv_extract rfl rfl rfl) rfl <| oy (rv_extract rfl rfl rfl) rfl <| oa rfl rfl <| oa rfl rfl <| ops_nil fun a hA => cw_seq <| cw_ops hA ?_
   clear hA
   refine om rfl rfl <| oa rfl rfl <| ops_nil fun a hA => cw_seq <| cw_seq <| cw_ops hA ?_
   clear hA
   refine oa rfl rfl <| ops_nil fun a hA => ?_
   obtain ⟨o2, hl2, hG1⟩ := bindE hG1
   refine cw_cut (J := fun a' w' => ∃ (x16 : Int) (x17 : List Int) (s7 : Value), o2 = (x16, x17) ∧ AEnv 58 [(0, sv (s)), (1, .int .i64 (x16)), (2, .int .i64 (n)), (8, s3), (9, .int .i64 (x6)), (10, .pointer (some ⟨b1, 0, none⟩))] a' ∧ St (cxAll w0) w' [cOwn [s3] (x5 : List SList), cOwn [s7] (x17 : List Int), cBox b1 [s7]] []) ?_ ?_
   ·refine cw_block ?_
    refine cw_loop (body := spec_l30Lists_l2 s x9) (r := o2) (fun sg a' w' => ∃ (s6 : Value), AEnv 58 [(0, sv (s)), (1, .int .i64 (sg.1)), (2, .int .i64 (n)), (8, s3), (9, .int .i64 (x6)), (10, .pointer (some ⟨b1, 0, none⟩)), (11, .int .i64 (x9.1)), (13, .int .i64 (sg.2.1))] a' ∧ St (cxAll w0) w' [cOwn [s3] (x5 : List SList), cOwn [s6] (sg.2.2 : List Int), cBox b1 [s6]] []) ?_ hl2 ⟨(.slice none 0 0), hA.part ⟨rfl, rfl, rfl, rfl, rfl, rfl, rfl, rfl, trivial⟩, (((hS).nilOwn (α := Int)).sel [0, 2, 1] rfl).selR [] rfl⟩
    clear hA hS hl2
    rintro ⟨x13, x14, x15⟩ a w q2 ⟨s6, hA, hS⟩ hG2 hr2
    try dsimp only at hA hS
    unfold spec_l30Lists_l2 at hG2
    refine cw_seq <| cw_seq <| cw_cut (J := fun a' w' => ∃ (x18 : Bool), spec_l30Lists_j3 s x13 x14 x15 x18 = some q2 ∧ AEnv 58 [(0, sv (s)), (1, .int .i64 (x13)), (2, .int .i64 (n)), (8, s3), (9, .int .i64 (x6)), (10, .pointer (some ⟨b1, 0, none⟩)), (11, .int .i64 (x9.1)), (13, .int .i64 (x14)), (36, .bool (x18))] a' ∧ St (cxAll w0) w' [cOwn [s3] (x5 : List SList), cOwn [s6] (x15 : List Int), cBox b1 [s6]] []) ?_ ?_
    ·skip
     refine cw_ops hA ?_
     clear hA
     refine om rfl rfl <| om rfl rfl <| oy (rv_lss rfl rfl rfl) rfl <| om rfl rfl <| ops_case (s := 33) rfl (fun hc3 => ?_) (fun hc3 => ?_)
     ·replace hG2 := iteT hc3 hG2
      refine ops_v (rv_move rfl rfl) (want_if rfl rfl rfl (by rw [hc3]; rfl)) rfl rfl <| ops_v (rv_lss rfl rfl rfl) (want_if rfl rfl rfl (by rw [hc3]; rfl)) rfl rfl <| oy (rv_pick_t rfl rfl hc3 rfl) rfl <| ops_nil fun a hA => ?_
      exact ⟨decide (x14 < 24), hG2, hA.part ⟨rfl, rfl, rfl, rfl, rfl, rfl, rfl, rfl, rfl, trivial⟩, ((hS).sel [0, 1, 2] rfl).selR [] rfl⟩
     ·replace hG2 := iteF hc3 hG2
      refine ops_off (want_if rfl rfl rfl (by rw [hc3]; rfl)) rfl rfl <| ops_off (want_if rfl rfl rfl (by rw [hc3]; rfl)) rfl rfl <| oy (rv_pick_f rfl rfl hc3 rfl) rfl <| ops_nil fun a hA => ?_
      exact ⟨false, hG2, hA.part ⟨rfl, rfl, rfl, rfl, rfl, rfl, rfl, rfl, rfl, trivial⟩, ((hS).sel [0, 1, 2] rfl).selR [] rfl⟩
    ·skip
     clear hA hS hG2
     rintro a w ⟨x18, hG2, hA, hS⟩
     unfold spec_l30Lists_j3 at hG2
     refine cw_cond hA rfl (fun hc2 => ?_) (fun hc2 => ?_)
     ·replace hG2 := iteT hc2 hG2
      refine cw_skip <| cw_seq <| cw_block <| cw_seq <| cw_ops hA ?_
      clear hA
      refine om rfl rfl <| om rfl rfl ?_
      obtain ⟨x19, hx19, hG2⟩ := bindE hG2
      refine ops_c (rc_call Tryz.call35 rfl rfl) (want_yes rfl) rfl rfl (c_spec_l30Num (s := s) (at_ := x13)  hx19) ?_
      rintro _ w ⟨rfl, hk⟩
      replace hS := hS.after hk; clear hk
      refine om rfl rfl <| oy (rv_extract rfl rfl rfl) rfl <| oy (rv_extract rfl rfl rfl) rfl <| oa rfl rfl <| oa rfl rfl <| ops_nil fun a hA => cw_seq <| cw_ops hA ?_
      clear hA
      refine oy (rv_fld (m := 0) Tryz.underlying120 rfl rfl Tryz.sizeOf22 rfl rfl) rfl <| oy (rv_load1 rfl rfl Tryz.isAgg22 (hS.cell 2 rfl rfl)) rfl <| om rfl rfl <| ops_mv (rv_lit1 (x19.1 : Int) hS rfl Tryz.underlying22 inf_Tryz3 rfl rfl rfl rfl) (want_yes rfl) rfl rfl ?_
      clear hS
      rintro s10 w hS
      obtain ⟨hn2, hG2⟩ := needE hG2
      refine ops_mv (rv_append (α := Int) 1 hS rfl (hS.rdOwn 3 rfl) rfl Tryz.underlying22 inf_Tryz3 rfl hn2 rfl rfl rfl) (want_yes rfl) rfl rfl ?_
      clear hS
      rintro s11 w hS
      refine oy (rv_fld (m := 0) Tryz.underlying120 rfl rfl Tryz.sizeOf22 rfl rfl) rfl <| ops_ms (rs_box (vs := [s11]) hS (i := 2) rfl rfl rfl rfl (cells_rd (hS.rdOwn 1 rfl)) Tryz.sizeOf22 rfl rfl (all1 (one_rd (hS.rdOwn 1 rfl)) rfl)) (want_yes rfl) rfl ?_
      clear hS
      intro w hS
      refine ops_nil fun a hA => cw_ops hA ?_
      clear hA
      refine om rfl rfl <| oa rfl rfl <| ops_nil fun a hA => cw_ops hA ?_
      clear hA
      refine om rfl rfl <| oy (rv_add rfl rfl rfl) rfl <| oa rfl rfl <| ops_nil fun a hA => ?_
      cases hG2
      exact ⟨_, rfl, ⟨s11, hA.part ⟨rfl, rfl, rfl, rfl, rfl, rfl, rfl, rfl, trivial⟩, ((hS).sel [0, 1, 2] rfl).selR [] rfl⟩⟩
     ·replace hG2 := iteF hc2 hG2
      refine cw_exit <| xcons_hit ?_
      cases hG2
      have ho := hr2 _ rfl; subst ho
      exact ⟨x13, x15, s6, rfl, hA.part ⟨rfl, rfl, rfl, rfl, rfl, rfl, trivial⟩, ((hS).sel [0, 1, 2] rfl).selR [] rfl⟩
   ·skip
    clear hA hS hl2
    rintro a w ⟨x16, x17, s7, heq, hA, hS⟩
    replace hG1 : spec_l30Lists_j2 x5 x6 x16 x17 = some q1 := by rw [heq] at hG1; exact hG1
    clear heq
    unfold spec_l30Lists_j2 at hG1
    refine cw_ops hA ?_
    clear hA
    refine om rfl rfl <| oy (rv_loadN rfl rfl Tryz.isAgg120 Tryz.sizeOf120 rfl (hS.cells 2 0 (cs' := [s7]) rfl rfl)) rfl ?_
    replace hS := hS.pack [1] rfl rfl (op_SList ((⟨x17⟩ : SList)))
    refine ops_mv (rv_litN1 ((⟨x17⟩ : SList) : SList) hS [3] rfl ⟨_, rfl, rfl, ⟨rfl, rfl⟩⟩ rfl Tryz.underlying39 inf_Tryz120 rfl rfl rfl) (want_yes rfl) rfl rfl ?_
    clear hS
    rintro s8 w hS
    obtain ⟨hn1, hG1⟩ := needE hG1
    refine ops_mv (rv_appN (α := SList) [0, 4] hS rfl rfl rfl Tryz.underlying39 inf_Tryz120 rfl hn1 rfl rfl rfl) (want_yes rfl) rfl rfl ?_
    clear hS
    rintro s9 w hS
    refine oa rfl rfl <| ops_nil fun a hA => cw_ops hA ?_
    clear hA
    refine om rfl rfl <| oy (rv_add rfl rfl rfl) rfl <| oa rfl rfl <| ops_nil fun a hA => ?_
    cases hG1
    exact ⟨_, rfl, ⟨s9, hA.part ⟨rfl, rfl, rfl, rfl, rfl, trivial⟩, ((hS).sel [5] rfl).selR [] rfl⟩⟩
  ·replace hG1 := iteF hc1 hG1
   refine cw_exit <| xcons_hit ?_
   cases hG1
   have ho := hr1 _ rfl; subst ho
   exact ⟨x4, x5, s3, rfl, hA.part ⟨rfl, rfl, trivial⟩, ((hS).sel [0] rfl).selR [] rfl⟩
 ·skip
  clear hA hS hl1
  rintro a w ⟨x7, x8, s4, heq, hA, hS⟩
  replace hF : spec_l30Lists_j1 x7 x8 = some r := by rw [heq] at hF; exact hF
  clear heq
  unfold spec_l30Lists_j1 at hF
  refine cw_seq <| cw_ops hA ?_
  clear hA
  refine om rfl rfl <| om rfl rfl <| oa rfl rfl <| oa rfl rfl <| ops_nil fun a hA => cw_ret ?_
  cases hF
  exact fin2 Tryz.results80 hA (res_tmp rfl) (res_tmp rfl) ⟨s4, rfl, (hS.sel [0] rfl).weaken (R' := []) (fun _ h => nomatch h)⟩

theorem c_spec_l30Mem {w0 : World} {s : List UInt8}  {r : Mem × Int}  (hF : spec_l30Mem s = some r) :
    Calls Tryz.prog 34 #[sv (s)] w0 (Ret fun v w' => ∃ (s0_0 : Value) (s0_1 : Value) (s0_2 : Value) (s0_3 : Value), v = .tuple #[.agg #[s0_0, s0_1, s0_2, s0_3], .int .i64 (r.2)] ∧ St (cxAll w0) w' [cOwn [s0_0] (r.1.Heap.Bytes : List Int), cOwn [s0_1] (r.1.Heap.Class : List Int), cOwn [s0_2] (r.1.Lists.Global : List SList), cOwn [s0_3] (r.1.Lists.Own : List SList)] []) := by
 have hS : St (cxAll w0) w0 [] [] := St.enter (by
   intro f hf; cases hf)
 refine calls_cw (args := [_]) Tryz.func34 rfl Tryz.ntmps34 rfl ?_
 unfold spec_l30Mem at hF
 intro a hA
 refine cw_seq <| cw_ops hA ?_
 clear hA
 refine ops_mv (rv_alloc (cs := [(.slice none 0 0), (.slice none 0 0), (.slice none 0 0), (.slice none 0 0)]) hS rfl Tryz.zeroValue43 rfl) (want_yes rfl) rfl rfl ?_
 clear hS
 rintro _ w ⟨b1, rfl, hS⟩
 refine oa rfl rfl <| ops_nil fun a hA => cw_seq <| cw_ops hA ?_
 clear hA
 refine oy (rv_build (cells := #[(.slice none 0 0), (.slice none 0 0), (.slice none 0 0), (.slice none 0 0)]) rfl Tryz.zeroValue43 Tryz.underlying43 (by have h := places_Tryz43; rw [Tryz.underlying43] at h; exact h) rfl rfl) rfl <| ops_mv (rv_alloc (cs := [(.slice none 0 0), (.slice none 0 0), (.slice none 0 0), (.slice none 0 0)]) hS rfl Tryz.zeroValue43 rfl) (want_yes rfl) rfl rfl ?_
 clear hS
 rintro _ w ⟨b2, rfl, hS⟩
 refine ops_ms (rs_box (vs := [(.slice none 0 0), (.slice none 0 0), (.slice none 0 0), (.slice none 0 0)]) hS (i := 1) rfl rfl rfl rfl rfl Tryz.sizeOf43 rfl rfl rfl) (want_yes rfl) rfl ?_
 clear hS
 intro w hS
 refine ops_nil fun a hA => cw_seq <| cw_seq <| cw_ops hA ?_
 clear hA
 refine om rfl rfl <| oy (rv_lens Tryz.underlying9 rfl rfl) rfl <| oy (rv_lss rfl rfl rfl) rfl <| ops_nil fun a hA => cw_cond hA rfl (fun hc1 => ?_) (fun hc1 => ?_)
 ·replace hF := iteT hc1 hF
  refine cw_seq <| cw_ops hA ?_
  clear hA
  refine oy (rv_loadN rfl rfl Tryz.isAgg43 Tryz.sizeOf43 rfl (hS.cells 1 0 (cs' := [(.slice none 0 0), (.slice none 0 0), (.slice none 0 0), (.slice none 0 0)]) rfl rfl)) rfl <| ops_ms (rs_box (vs := [(.slice none 0 0), (.slice none 0 0), (.slice none 0 0), (.slice none 0 0)]) hS (i := 0) rfl rfl rfl rfl rfl Tryz.sizeOf43 rfl rfl rfl) (want_yes rfl) rfl ?_
  clear hS
  intro w hS
  refine oa rfl rfl <| ops_nil fun a hA => cw_ret ?_
  replace hS := hS.nilOwn (α := Int)
  replace hS := hS.nilOwn (α := Int)
  replace hS := hS.nilOwn (α := SList)
  replace hS := hS.nilOwn (α := SList)
  cases hF
  exact fin2 Tryz.results34 hA (res_cell rfl Tryz.isAgg43 Tryz.sizeOf43 rfl (hS.cells 0 0 (cs' := [(.slice none 0 0), (.slice none 0 0), (.slice none 0 0), (.slice none 0 0)]) rfl rfl)) (res_tmp rfl) ⟨(.slice none 0 0), (.slice none 0 0), (.slice none 0 0), (.slice none 0 0), rfl, (hS.sel [2, 3, 4, 5] rfl).weaken (R' := []) (fun _ h => nomatch h)⟩
 ·replace hF := iteF hc1 hF
  refine cw_skip <| cw_seq <| cw_seq <| cw_ops hA ?_
  clear hA
  refine oa rfl rfl <| ops_nil fun a hA => ?_
  obtain ⟨o1, hl1, hF⟩ := bindE hF
  refine cw_cut (J := fun a' w' => ∃ (x5 : List Int) (s3 : Value), o1 = x5 ∧ AEnv 63 [(0, sv (s)), (2, .pointer (some ⟨b1, 0, none⟩)), (4, .pointer (some ⟨b2, 0, none⟩))] a' ∧ St (cxAll w0) w' [cBox b1 [(.slice none 0 0), (.slice none 0 0), (.slice none 0 0), (.slice none 0 0)], cOwn [s3] (x5 : List Int), cBox b2 [s3, (.slice none 0 0), (.slice none 0 0), (.slice none 0 0)]] []) ?_ ?_
  ·refine cw_block ?_
   refine cw_loop (body := spec_l30Mem_l1 s) (r := o1) (fun sg a' w' => ∃ (s2 : Value), AEnv 63 [(0, sv (s)), (2, .pointer (some ⟨b1, 0, none⟩)), (4, .pointer (some ⟨b2, 0, none⟩)), (5, .int .i64 (sg.1))] a' ∧ St (cxAll w0) w' [cBox b1 [(.slice none 0 0), (.slice none 0 0), (.slice none 0 0), (.slice none 0 0)], cOwn [s2] (sg.2 : List Int), cBox b2 [s2, (.slice none 0 0), (.slice none 0 0), (.slice none 0 0)]] []) ?_ hl1 ⟨(.slice none 0 0), hA.part ⟨rfl, rfl, rfl, rfl, trivial⟩, (((hS).nilOwn (α := Int)).sel [0, 2, 1] rfl).selR [] rfl⟩
   clear hA hS hl1
   rintro ⟨x3, x4⟩ a w q1 ⟨s2, hA, hS⟩ hG1 hr1
   try dsimp only at hA hS
   unfold spec_l30Mem_l1 at hG1
   refine cw_seq <| cw_seq <| cw_ops hA ?_
   clear hA
   refine om rfl rfl <| oy (rv_lss rfl rfl rfl) rfl <| ops_nil fun a hA => cw_cond hA rfl (fun hc3 => ?_) (fun hc3 => ?_)
   ·replace hG1 := iteT hc3 hG1
    refine cw_skip <| cw_seq <| cw_cut (J := fun a' w' => ∃ (x15 : List Int) (s12 : Value), spec_l30Mem_j4 x3 x15 = some q1 ∧ AEnv 63 [(0, sv (s)), (2, .pointer (some ⟨b1, 0, none⟩)), (4, .pointer (some ⟨b2, 0, none⟩)), (5, .int .i64 (x3))] a' ∧ St (cxAll w0) w' [cBox b1 [(.slice none 0 0), (.slice none 0 0), (.slice none 0 0), (.slice none 0 0)], cOwn [s12] (x15 : List Int), cBox b2 [s12, (.slice none 0 0), (.slice none 0 0), (.slice none 0 0)]] []) ?_ ?_
    ·skip
     refine cw_block <| cw_any (Keeps (cxAll w0) [cBox b1 [(.slice none 0 0), (.slice none 0 0), (.slice none 0 0), (.slice none 0 0)], cNo, cNo] []) mixed_Tryz hA hS ?_
     clear hA hS; intro w hS
     have hK : Keeps (cxAll w0) [cBox b1 [(.slice none 0 0), (.slice none 0 0), (.slice none 0 0), (.slice none 0 0)], cNo, cNo] [] w := ⟨_, (hS.sel [0, 900001, 900002] rfl).selR [] rfl⟩
     refine ey 0 rfl (by kernel_rfl) hK (fun _ _ _ => (rv_fld (m := 1) Tryz.underlying43 rfl rfl Tryz.sizeOf38 rfl rfl)) rfl ?_
     refine ey 1 rfl (by kernel_rfl) hK (fun _ _ _ => (rv_fld (m := 0) Tryz.underlying38 rfl rfl Tryz.sizeOf22 rfl rfl)) rfl ?_
     refine ey 3 rfl (by kernel_rfl) hK (fun _ _ _ => (rv_move rfl rfl)) rfl ?_
     refine ey 4 rfl (by kernel_rfl) hK (fun _ _ _ => (rv_move rfl rfl)) rfl ?_
     obtain ⟨x16, hx16, hG1⟩ := bindE hG1
     refine ey 5 rfl (by kernel_rfl) hK (fun _ _ _ => (rv_stri Tryz.underlying9 hx16 rfl rfl rfl)) rfl ?_
     refine ey 6 rfl (by kernel_rfl) hK (fun _ _ _ => (rv_convU Tryz.underlying5 Tryz.underlying3 rfl rfl)) rfl ?_
     obtain ⟨hn2, hG1⟩ := needE hG1
     refine any_2 (i := 2) (j := 7) (by kernel_rfl) ?_ ?_
     ·skip
      refine as_v rfl (rv_load1 rfl rfl Tryz.isAgg22 (hS.cell 2 rfl rfl)) (want_yes rfl) rfl rfl hK ?_
      refine any_1 (i := 7) (by kernel_rfl) ?_
      refine as_mv rfl (rv_lit1 ((x16.toNat : Int) : Int) hS rfl Tryz.underlying22 inf_Tryz3 rfl rfl rfl rfl) (want_yes rfl) rfl rfl ?_
      clear hS
      clear hK; rintro s13 w hS
      have hK := keepsI ((hS.sel [0, 900001, 900002] rfl).selR [] rfl)
      refine ⟨hK, ?_⟩
      refine any_1 (i := 8) (by kernel_rfl) ?_
      refine as_mv rfl (rv_append (α := Int) 1 hS rfl (hS.rdOwn 3 rfl) rfl Tryz.underlying22 inf_Tryz3 rfl hn2 rfl rfl rfl) (want_yes rfl) rfl rfl ?_
      clear hS
      clear hK; rintro s14 w hS
      have hK := keepsI ((hS.sel [0, 900001, 900002] rfl).selR [] rfl)
      refine ⟨hK, ?_⟩
      refine ey 9 rfl (by kernel_rfl) hK (fun _ _ _ => (rv_fld (m := 1) Tryz.underlying43 rfl rfl Tryz.sizeOf38 rfl rfl)) rfl ?_
      refine ey 10 rfl (by kernel_rfl) hK (fun _ _ _ => (rv_fld (m := 0) Tryz.underlying38 rfl rfl Tryz.sizeOf22 rfl rfl)) rfl ?_
      refine any_1 (i := 11) (by kernel_rfl) ?_
      refine as_ms rfl (rs_box (vs := [s14]) hS (i := 2) rfl rfl rfl rfl (cells_rd (hS.rdOwn 1 rfl)) Tryz.sizeOf22 rfl rfl (all1 (one_rd (hS.rdOwn 1 rfl)) rfl)) (want_yes rfl) rfl ?_
      clear hS
      clear hK; intro w hS
      have hK := keepsI ((hS.sel [0, 900001, 900002] rfl).selR [] rfl)
      refine ⟨hK, ?_⟩
      refine any_done (by kernel_rfl) ?_
      intro a hA
      exact ⟨x4 ++ ([(x16.toNat : Int)]), s14, hG1, hA.part ⟨rfl, rfl, rfl, rfl, trivial⟩, ((hS).sel [0, 1, 2] rfl).selR [] rfl⟩
     ·skip
      refine as_mv rfl (rv_lit1 ((x16.toNat : Int) : Int) hS rfl Tryz.underlying22 inf_Tryz3 rfl rfl rfl rfl) (want_yes rfl) rfl rfl ?_
      clear hS
      clear hK; rintro s13 w hS
      have hK := keepsI ((hS.sel [0, 900001, 900002] rfl).selR [] rfl)
      refine ⟨hK, ?_⟩
      refine any_1 (i := 2) (by kernel_rfl) ?_
      refine as_v rfl (rv_load1 rfl rfl Tryz.isAgg22 (hS.cell 2 rfl rfl)) (want_yes rfl) rfl rfl hK ?_
      refine any_1 (i := 8) (by kernel_rfl) ?_
      refine as_mv rfl (rv_append (α := Int) 1 hS rfl (hS.rdOwn 3 rfl) rfl Tryz.underlying22 inf_Tryz3 rfl hn2 rfl rfl rfl) (want_yes rfl) rfl rfl ?_
      clear hS
      clear hK; rintro s14 w hS
      have hK := keepsI ((hS.sel [0, 900001, 900002] rfl).selR [] rfl)
      refine ⟨hK, ?_⟩
      refine ey 9 rfl (by kernel_rfl) hK (fun _ _ _ => (rv_fld (m := 1) Tryz.underlying43 rfl rfl Tryz.sizeOf38 rfl rfl)) rfl ?_
      refine ey 10 rfl (by kernel_rfl) hK (fun _ _ _ => (rv_fld (m := 0) Tryz.underlying38 rfl rfl Tryz.sizeOf22 rfl rfl)) rfl ?_
      refine any_1 (i := 11) (by kernel_rfl) ?_
      refine as_ms rfl (rs_box (vs := [s14]) hS (i := 2) rfl rfl rfl rfl (cells_rd (hS.rdOwn 1 rfl)) Tryz.sizeOf22 rfl rfl (all1 (one_rd (hS.rdOwn 1 rfl)) rfl)) (want_yes rfl) rfl ?_
      clear hS
      clear hK; intro w hS
      have hK := keepsI ((hS.sel [0, 900001, 900002] rfl).selR [] rfl)
      refine ⟨hK, ?_⟩
      refine any_done (by kernel_rfl) ?_
      intro a hA
      exact ⟨x4 ++ ([(x16.toNat : Int)]), s14, hG1, hA.part ⟨rfl, rfl, rfl, rfl, trivial⟩, ((hS).sel [0, 1, 2] rfl).selR [] rfl⟩
    ·skip
     clear hA hS hG1
     rintro a w ⟨x15, s12, hG1, hA, hS⟩
     unfold spec_l30Mem_j4 at hG1
     refine cw_ops hA ?_
     clear hA
     refine om rfl rfl <| oy (rv_add rfl rfl rfl) rfl <| oa rfl rfl <| ops_nil fun a hA => ?_
     cases hG1
     exact ⟨_, rfl, ⟨s12, hA.part ⟨rfl, rfl, rfl, rfl, trivial⟩, ((hS).sel [0, 1, 2] rfl).selR [] rfl⟩⟩
   ·replace hG1 := iteF hc3 hG1
    refine cw_exit <| xcons_hit ?_
    cases hG1
    have ho := hr1 _ rfl; subst ho
    exact ⟨x4, s2, rfl, hA.part ⟨rfl, rfl, rfl, trivial⟩, ((hS).sel [0, 1, 2] rfl).selR [] rfl⟩
  ·skip
   clear hA hS hl1
   rintro a w ⟨x5, s3, heq, hA, hS⟩
   replace hF : spec_l30Mem_j1 s x5 = some r := by rw [heq] at hF; exact hF
   clear heq
   unfold spec_l30Mem_j1 at hF
   refine cw_seq <| cw_seq <| cw_ops hA ?_
   clear hA
   refine oa rfl rfl <| ops_nil fun a hA => ?_
   obtain ⟨o2, hl2, hF⟩ := bindE hF
   refine cw_cut (J := fun a' w' => ∃ (x10 : List Int) (s6 : Value), o2 = x10 ∧ AEnv 63 [(0, sv (s)), (2, .pointer (some ⟨b1, 0, none⟩)), (4, .pointer (some ⟨b2, 0, none⟩))] a' ∧ St (cxAll w0) w' [cBox b1 [(.slice none 0 0), (.slice none 0 0), (.slice none 0 0), (.slice none 0 0)], cOwn [s3] (x5 : List Int), cOwn [s6] (x10 : List Int), cBox b2 [s3, s6, (.slice none 0 0), (.slice none 0 0)]] []) ?_ ?_
   ·refine cw_block ?_
    refine cw_loop (body := spec_l30Mem_l2 s) (r := o2) (fun sg a' w' => ∃ (s5 : Value), AEnv 63 [(0, sv (s)), (2, .pointer (some ⟨b1, 0, none⟩)), (4, .pointer (some ⟨b2, 0, none⟩)), (6, .int .i64 (sg.1))] a' ∧ St (cxAll w0) w' [cBox b1 [(.slice none 0 0), (.slice none 0 0), (.slice none 0 0), (.slice none 0 0)], cOwn [s3] (x5 : List Int), cOwn [s5] (sg.2 : List Int), cBox b2 [s3, s5, (.slice none 0 0), (.slice none 0 0)]] []) ?_ hl2 ⟨(.slice none 0 0), hA.part ⟨rfl, rfl, rfl, rfl, trivial⟩, (((hS).nilOwn (α := Int)).sel [0, 1, 3, 2] rfl).selR [] rfl⟩
    clear hA hS hl2
    rintro ⟨x8, x9⟩ a w q2 ⟨s5, hA, hS⟩ hG2 hr2
    try dsimp only at hA hS
    unfold spec_l30Mem_l2 at hG2
    refine cw_seq <| cw_seq <| cw_ops hA ?_
    clear hA
    refine om rfl rfl <| oy (rv_lss rfl rfl rfl) rfl <| ops_nil fun a hA => cw_cond hA rfl (fun hc2 => ?_) (fun hc2 => ?_)
    ·replace hG2 := iteT hc2 hG2
     refine cw_skip <| cw_seq <| cw_cut (J := fun a' w' => ∃ (x13 : List Int) (s9 : Value), spec_l30Mem_j3 x8 x13 = some q2 ∧ AEnv 63 [(0, sv (s)), (2, .pointer (some ⟨b1, 0, none⟩)), (4, .pointer (some ⟨b2, 0, none⟩)), (6, .int .i64 (x8))] a' ∧ St (cxAll w0) w' [cBox b1 [(.slice none 0 0), (.slice none 0 0), (.slice none 0 0), (.slice none 0 0)], cOwn [s3] (x5 : List Int), cOwn [s9] (x13 : List Int), cBox b2 [s3, s9, (.slice none 0 0), (.slice none 0 0)]] []) ?_ ?_
     ·skip
      refine cw_block <| cw_any (Keeps (cxAll w0) [cBox b1 [(.slice none 0 0), (.slice none 0 0), (.slice none 0 0), (.slice none 0 0)], cOwn [s3] (x5 : List Int), cNo, cNo] []) mixed_Tryz hA hS ?_
      clear hA hS; intro w hS
      have hK : Keeps (cxAll w0) [cBox b1 [(.slice none 0 0), (.slice none 0 0), (.slice none 0 0), (.slice none 0 0)], cOwn [s3] (x5 : List Int), cNo, cNo] [] w := ⟨_, (hS.sel [0, 1, 900002, 900003] rfl).selR [] rfl⟩
      refine ey 0 rfl (by kernel_rfl) hK (fun _ _ _ => (rv_fld (m := 1) Tryz.underlying43 rfl rfl Tryz.sizeOf38 rfl rfl)) rfl ?_
      refine ey 1 rfl (by kernel_rfl) hK (fun _ _ _ => (rv_fld (m := 0) Tryz.underlying38 rfl rfl Tryz.sizeOf22 rfl rfl)) rfl ?_
      refine ey 3 rfl (by kernel_rfl) hK (fun _ _ _ => (rv_move rfl rfl)) rfl ?_
      refine ey 4 rfl (by kernel_rfl) hK (fun _ _ _ => (rv_move rfl rfl)) rfl ?_
      refine ey 5 rfl (by kernel_rfl) hK (fun _ _ _ => (rv_add rfl rfl rfl)) rfl ?_
      obtain ⟨x14, hx14, hG2⟩ := bindE hG2
      refine ey 6 rfl (by kernel_rfl) hK (fun _ _ _ => (rv_stri Tryz.underlying9 hx14 rfl rfl rfl)) rfl ?_
      refine ey 7 rfl (by kernel_rfl) hK (fun _ _ _ => (rv_convU Tryz.underlying5 Tryz.underlying3 rfl rfl)) rfl ?_
      refine ey 8 rfl (by kernel_rfl) hK (fun _ _ _ => (rv_sub rfl rfl rfl)) rfl ?_
      obtain ⟨hn1, hG2⟩ := needE hG2
      refine any_2 (i := 2) (j := 9) (by kernel_rfl) ?_ ?_
      ·skip
       refine as_v rfl (rv_load1 rfl rfl Tryz.isAgg22 (hS.cell 3 rfl rfl)) (want_yes rfl) rfl rfl hK ?_
       refine any_1 (i := 9) (by kernel_rfl) ?_
       refine as_mv rfl (rv_lit1 (w64 (((x14.toNat : Int)) - 1) : Int) hS rfl Tryz.underlying22 inf_Tryz3 rfl rfl rfl rfl) (want_yes rfl) rfl rfl ?_
       clear hS
       clear hK; rintro s10 w hS
       have hK := keepsI ((hS.sel [0, 1, 900002, 900003] rfl).selR [] rfl)
       refine ⟨hK, ?_⟩
       refine any_1 (i := 10) (by kernel_rfl) ?_
       refine as_mv rfl (rv_append (α := Int) 2 hS rfl (hS.rdOwn 4 rfl) rfl Tryz.underlying22 inf_Tryz3 rfl hn1 rfl rfl rfl) (want_yes rfl) rfl rfl ?_
       clear hS
       clear hK; rintro s11 w hS
       have hK := keepsI ((hS.sel [0, 1, 900002, 900003] rfl).selR [] rfl)
       refine ⟨hK, ?_⟩
       refine ey 11 rfl (by kernel_rfl) hK (fun _ _ _ => (rv_fld (m := 1) Tryz.underlying43 rfl rfl Tryz.sizeOf38 rfl rfl)) rfl ?_
       refine ey 12 rfl (by kernel_rfl) hK (fun _ _ _ => (rv_fld (m := 0) Tryz.underlying38 rfl rfl Tryz.sizeOf22 rfl rfl)) rfl ?_
       refine any_1 (i := 13) (by kernel_rfl) ?_
       refine as_ms rfl (rs_box (vs := [s11]) hS (i := 3) rfl rfl rfl rfl (cells_rd (hS.rdOwn 2 rfl)) Tryz.sizeOf22 rfl rfl (all1 (one_rd (hS.rdOwn 2 rfl)) rfl)) (want_yes rfl) rfl ?_
       clear hS
       clear hK; intro w hS
       have hK := keepsI ((hS.sel [0, 1, 900002, 900003] rfl).selR [] rfl)
       refine ⟨hK, ?_⟩
       refine any_done (by kernel_rfl) ?_
       intro a hA
       exact ⟨x9 ++ ([w64 (((x14.toNat : Int)) - 1)]), s11, hG2, hA.part ⟨rfl, rfl, rfl, rfl, trivial⟩, ((hS).sel [0, 1, 2, 3] rfl).selR [] rfl⟩
      ·skip
       refine as_mv rfl (rv_lit1 (w64 (((x14.toNat : Int)) - 1) : Int) hS rfl Tryz.underlying22 inf_Tryz3 rfl rfl rfl rfl) (want_yes rfl) rfl rfl ?_
       clear hS
       clear hK; rintro s10 w hS
       have hK := keepsI ((hS.sel [0, 1, 900002, 900003] rfl).selR [] rfl)
       refine ⟨hK, ?_⟩
       refine any_1 (i := 2) (by kernel_rfl) ?_
       refine as_v rfl (rv_load1 rfl rfl Tryz.isAgg22 (hS.cell 3 rfl rfl)) (want_yes rfl) rfl rfl hK ?_
       refine any_1 (i := 10) (by kernel_rfl) ?_
       refine as_mv rfl (rv_append (α := Int) 2 hS rfl (hS.rdOwn 4 rfl) rfl Tryz.underlying22 inf_Tryz3 rfl hn1 rfl rfl rfl) (want_yes rfl) rfl rfl ?_
       clear hS
       clear hK; rintro s11 w hS
       have hK := keepsI ((hS.sel [0, 1, 900002, 900003] rfl).selR [] rfl)
       refine ⟨hK, ?_⟩
       refine ey 11 rfl (by kernel_rfl) hK (fun _ _ _ => (rv_fld (m := 1) Tryz.underlying43 rfl rfl Tryz.sizeOf38 rfl rfl)) rfl ?_
       refine ey 12 rfl (by kernel_rfl) hK (fun _ _ _ => (rv_fld (m := 0) Tryz.underlying38 rfl rfl Tryz.sizeOf22 rfl rfl)) rfl ?_
       refine any_1 (i := 13) (by kernel_rfl) ?_
       refine as_ms rfl (rs_box (vs := [s11]) hS (i := 3) rfl rfl rfl rfl (cells_rd (hS.rdOwn 2 rfl)) Tryz.sizeOf22 rfl rfl (all1 (one_rd (hS.rdOwn 2 rfl)) rfl)) (want_yes rfl) rfl ?_
       clear hS
       clear hK; intro w hS
       have hK := keepsI ((hS.sel [0, 1, 900002, 900003] rfl).selR [] rfl)
       refine ⟨hK, ?_⟩
       refine any_done (by kernel_rfl) ?_
       intro a hA
       exact ⟨x9 ++ ([w64 (((x14.toNat : Int)) - 1)]), s11, hG2, hA.part ⟨rfl, rfl, rfl, rfl, trivial⟩, ((hS).sel [0, 1, 2, 3] rfl).selR [] rfl⟩
     ·skip
      clear hA hS hG2
      rintro a w ⟨x13, s9, hG2, hA, hS⟩
      unfold spec_l30Mem_j3 at hG2
      refine cw_ops hA ?_
      clear hA
      refine om rfl rfl <| oy (rv_add rfl rfl rfl) rfl <| oa rfl rfl <| ops_nil fun a hA => ?_
      cases hG2
      exact ⟨_, rfl, ⟨s9, hA.part ⟨rfl, rfl, rfl, rfl, trivial⟩, ((hS).sel [0, 1, 2, 3] rfl).selR [] rfl⟩⟩
    ·replace hG2 := iteF hc2 hG2
     refine cw_exit <| xcons_hit ?_
     cases hG2
     have ho := hr2 _ rfl; subst ho
     exact ⟨x9, s5, rfl, hA.part ⟨rfl, rfl, rfl, trivial⟩, ((hS).sel [0, 1, 2, 3] rfl).selR [] rfl⟩
   ·skip
    clear hA hS hl2
    rintro a w ⟨x10, s6, heq, hA, hS⟩
    replace hF : spec_l30Mem_j2 s x5 x10 = some r := by rw [heq] at hF; exact hF
    clear heq
    unfold spec_l30Mem_j2 at hF
    refine cw_seq <| cw_ops hA ?_
    clear hA
    refine oa rfl rfl <| ops_nil fun a hA => cw_seq <| cw_ops hA ?_
    clear hA
    refine om rfl rfl <| om rfl rfl ?_
    obtain ⟨x11, hx11, hF⟩ := bindE hF
    refine ops_c (rc_call Tryz.call80 rfl rfl) (want_yes rfl) rfl rfl (c_spec_l30Lists (s := s) (at_ := 390) (n := 3)  hx11) ?_
    rintro _ w ⟨s7, rfl, hk⟩
    replace hS := hS.after hk; clear hk
    refine om rfl rfl <| oy (rv_extract rfl rfl rfl) rfl <| oy (rv_extract rfl rfl rfl) rfl <| oy (rv_fld (m := 1) Tryz.underlying43 rfl rfl Tryz.sizeOf41 rfl rfl) rfl <| oy (rv_fld (m := 0) Tryz.underlying41 rfl rfl Tryz.sizeOf39 rfl rfl) rfl <| ops_ms (rs_box (vs := [s7]) hS (i := 3) rfl rfl rfl rfl (cells_rd (hS.rdOwn 4 rfl)) Tryz.sizeOf39 rfl rfl (all1 (one_rd (hS.rdOwn 4 rfl)) rfl)) (want_yes rfl) rfl ?_
    clear hS
    intro w hS
    refine oa rfl rfl <| ops_nil fun a hA => cw_seq <| cw_ops hA ?_
    clear hA
    refine om rfl rfl <| om rfl rfl ?_
    obtain ⟨x12, hx12, hF⟩ := bindE hF
    refine ops_c (rc_call Tryz.call80 rfl rfl) (want_yes rfl) rfl rfl (c_spec_l30Lists (s := s) (at_ := x11.2) (n := 9)  hx12) ?_
    rintro _ w ⟨s8, rfl, hk⟩
    replace hS := hS.after hk; clear hk
    refine om rfl rfl <| oy (rv_extract rfl rfl rfl) rfl <| oy (rv_extract rfl rfl rfl) rfl <| oy (rv_fld (m := 1) Tryz.underlying43 rfl rfl Tryz.sizeOf41 rfl rfl) rfl <| oy (rv_fld (m := 0) Tryz.underlying41 rfl rfl Tryz.sizeOf39 rfl rfl) rfl <| ops_ms (rs_box (vs := [s8]) hS (i := 3) rfl rfl rfl rfl (cells_rd (hS.rdOwn 5 rfl)) Tryz.sizeOf39 rfl rfl (all1 (one_rd (hS.rdOwn 5 rfl)) rfl)) (want_yes rfl) rfl ?_
    clear hS
    intro w hS
    refine oa rfl rfl <| ops_nil fun a hA => cw_seq <| cw_ops hA ?_
    clear hA
    refine oy (rv_loadN rfl rfl Tryz.isAgg43 Tryz.sizeOf43 rfl (hS.cells 3 0 (cs' := [s3, s6, s7, s8]) rfl rfl)) rfl <| om rfl rfl <| ops_ms (rs_box (vs := [s3, s6, s7, s8]) hS (i := 0) rfl rfl rfl rfl rfl Tryz.sizeOf43 rfl rfl (all1 (one_rd (hS.rdOwn 1 rfl)) (all1 (one_rd (hS.rdOwn 2 rfl)) (all1 (one_rd (hS.rdOwn 4 rfl)) (all1 (one_rd (hS.rdOwn 5 rfl)) rfl))))) (want_yes rfl) rfl ?_
    clear hS
    intro w hS
    refine oa rfl rfl <| ops_nil fun a hA => cw_ret ?_
    cases hF
    exact fin2 Tryz.results34 hA (res_cell rfl Tryz.isAgg43 Tryz.sizeOf43 rfl (hS.cells 0 0 (cs' := [s3, s6, s7, s8]) rfl rfl)) (res_tmp rfl) ⟨s3, s6, s7, s8, rfl, (hS.sel [1, 2, 4, 5] rfl).weaken (R' := []) (fun _ h => nomatch h)⟩

theorem c_spec_l30Pin {w0 : World} {s : List UInt8} {at_ : Int}  {r : Pin × Int}  (hF : spec_l30Pin s at_ = some r) :
    Calls Tryz.prog 36 #[sv (s), .int .i64 (at_)] w0 (Ret fun v w' => v = .tuple #[.agg #[.bool (r.1.On), .int .i64 (r.1.Epoch), .bool (r.1.Marked), .int .i64 (r.1.Seen)], .int .i64 (r.2)] ∧ St (cxAll w0) w' [] []) := by
 have hS : St (cxAll w0) w0 [] [] := St.enter (by
   intro f hf; cases hf)
 refine calls_cw (args := [_, _]) Tryz.func36 rfl Tryz.ntmps36 rfl ?_
 unfold spec_l30Pin at hF
 intro a hA
 refine cw_seq <| cw_ops hA ?_
 clear hA
 refine ops_mv (rv_alloc (cs := [.bool (false), .int .i64 (0), .bool (false), .int .i64 (0)]) hS rfl Tryz.zeroValue65 rfl) (want_yes rfl) rfl rfl ?_
 clear hS
 rintro _ w ⟨b1, rfl, hS⟩
 refine oa rfl rfl <| ops_nil fun a hA => cw_seq <| cw_ops hA ?_
 clear hA
 refine om rfl rfl <| om rfl rfl ?_
 obtain ⟨x1, hx1, hF⟩ := bindE hF
 refine ops_c (rc_call Tryz.call35 rfl rfl) (want_yes rfl) rfl rfl (c_spec_l30Num (s := s) (at_ := at_)  hx1) ?_
 rintro _ w ⟨rfl, hk⟩
 replace hS := hS.after hk; clear hk
 refine om rfl rfl <| oy (rv_extract rfl rfl rfl) rfl <| oy (rv_extract rfl rfl rfl) rfl <| oa rfl rfl <| oa rfl rfl <| ops_nil fun a hA => cw_seq <| cw_ops hA ?_
 clear hA
 refine om rfl rfl <| om rfl rfl ?_
 obtain ⟨x2, hx2, hF⟩ := bindE hF
 refine ops_c (rc_call Tryz.call35 rfl rfl) (want_yes rfl) rfl rfl (c_spec_l30Num (s := s) (at_ := x1.2)  hx2) ?_
 rintro _ w ⟨rfl, hk⟩
 replace hS := hS.after hk; clear hk
 refine om rfl rfl <| oy (rv_extract rfl rfl rfl) rfl <| oy (rv_extract rfl rfl rfl) rfl <| oa rfl rfl <| oa rfl rfl <| ops_nil fun a hA => cw_seq <| cw_ops hA ?_
 clear hA
 refine om rfl rfl <| om rfl rfl ?_
 obtain ⟨x3, hx3, hF⟩ := bindE hF
 refine ops_c (rc_call Tryz.call35 rfl rfl) (want_yes rfl) rfl rfl (c_spec_l30Num (s := s) (at_ := x2.2)  hx3) ?_
 rintro _ w ⟨rfl, hk⟩
 replace hS := hS.after hk; clear hk
 refine om rfl rfl <| oy (rv_extract rfl rfl rfl) rfl <| oy (rv_extract rfl rfl rfl) rfl <| oa rfl rfl <| oa rfl rfl <| ops_nil fun a hA => cw_seq <| cw_ops hA ?_
 clear hA
 refine om rfl rfl <| om rfl rfl ?_
 obtain ⟨x4, hx4, hF⟩ := bindE hF
 refine ops_c (rc_call Tryz.call35 rfl rfl) (want_yes rfl) rfl rfl (c_spec_l30Num (s := s) (at_ := x3.2)  hx4) ?_
 rintro _ w ⟨rfl, hk⟩
 replace hS := hS.after hk; clear hk
 refine om rfl rfl <| oy (rv_extract rfl rfl rfl) rfl <| oy (rv_extract rfl rfl rfl) rfl <| oa rfl rfl <| oa rfl rfl <| ops_nil fun a hA => cw_seq <| cw_ops hA ?_
 clear hA
 refine om rfl rfl <| oy (rv_eql rfl rfl rfl) rfl <| om rfl rfl <| om rfl rfl <| oy (rv_eql rfl rfl rfl) rfl <| om rfl rfl <| oy (rv_build (cells := #[.bool (x1.1 == 1), .int .i64 (x2.1), .bool (x3.1 == 1), .int .i64 (x4.1)]) rfl Tryz.zeroValue65 Tryz.underlying65 (by have h := places_Tryz65; rw [Tryz.underlying65] at h; exact h) rfl rfl) rfl <| om rfl rfl <| ops_ms (rs_box (vs := [.bool (x1.1 == 1), .int .i64 (x2.1), .bool (x3.1 == 1), .int .i64 (x4.1)]) hS (i := 0) rfl rfl rfl rfl rfl Tryz.sizeOf65 rfl rfl rfl) (want_yes rfl) rfl ?_
 clear hS
 intro w hS
 refine oa rfl rfl <| ops_nil fun a hA => cw_ret ?_
 cases hF
 exact fin2 Tryz.results36 hA (res_cell rfl Tryz.isAgg65 Tryz.sizeOf65 rfl (hS.cells 0 0 (cs' := [.bool (x1.1 == 1), .int .i64 (x2.1), .bool (x3.1 == 1), .int .i64 (x4.1)]) rfl rfl)) (res_tmp rfl) ⟨rfl, (hS.sel [] rfl).weaken (R' := []) (fun _ h => nomatch h)⟩

theorem c_spec_l30Rows {w0 : World} {s : List UInt8} {at_ : Int}  {r : LList × Int}  (hF : spec_l30Rows s at_ = some r) :
    Calls Tryz.prog 37 #[sv (s), .int .i64 (at_)] w0 (Ret fun v w' => ∃ (s0_0 : Value), v = .tuple #[.agg #[s0_0], .int .i64 (r.2)] ∧ St (cxAll w0) w' [cOwn [s0_0] (r.1.Rows : List LRow)] []) := by
 have hS : St (cxAll w0) w0 [] [] := St.enter (by
   intro f hf; cases hf)
 refine calls_cw (args := [_, _]) Tryz.func37 rfl Tryz.ntmps37 rfl ?_
 unfold spec_l30Rows at hF
 intro a hA
 refine cw_seq <| cw_ops hA ?_
 clear hA
 refine ops_mv (rv_alloc (cs := [(.slice none 0 0)]) hS rfl Tryz.zeroValue69 rfl) (want_yes rfl) rfl rfl ?_
 clear hS
 rintro _ w ⟨b1, rfl, hS⟩
 refine oa rfl rfl <| ops_nil fun a hA => cw_seq <| cw_ops hA ?_
 clear hA
 refine oy (rv_build (cells := #[(.slice none 0 0)]) rfl Tryz.zeroValue69 Tryz.underlying69 (by have h := places_Tryz69; rw [Tryz.underlying69] at h; exact h) rfl rfl) rfl <| ops_mv (rv_alloc (cs := [(.slice none 0 0)]) hS rfl Tryz.zeroValue69 rfl) (want_yes rfl) rfl rfl ?_
 clear hS
 rintro _ w ⟨b2, rfl, hS⟩
 refine ops_ms (rs_box (vs := [(.slice none 0 0)]) hS (i := 1) rfl rfl rfl rfl rfl Tryz.sizeOf69 rfl rfl rfl) (want_yes rfl) rfl ?_
 clear hS
 intro w hS
 refine ops_nil fun a hA => cw_seq <| cw_ops hA ?_
 clear hA
 refine om rfl rfl <| om rfl rfl ?_
 obtain ⟨x1, hx1, hF⟩ := bindE hF
 refine ops_c (rc_call Tryz.call35 rfl rfl) (want_yes rfl) rfl rfl (c_spec_l30Num (s := s) (at_ := at_)  hx1) ?_
 rintro _ w ⟨rfl, hk⟩
 replace hS := hS.after hk; clear hk
 refine om rfl rfl <| oy (rv_extract rfl rfl rfl) rfl <| oy (rv_extract rfl rfl rfl) rfl <| oa rfl rfl <| oa rfl rfl <| ops_nil fun a hA => cw_seq <| cw_ops hA ?_
 clear hA
 refine om rfl rfl <| oa rfl rfl <| ops_nil fun a hA => cw_seq <| cw_seq <| cw_ops hA ?_
 clear hA
 refine oa rfl rfl <| ops_nil fun a hA => ?_
 obtain ⟨o1, hl1, hF⟩ := bindE hF
 refine cw_cut (J := fun a' w' => ∃ (x8 : Int) (x9 : List LRow) (s3 : Value), o1 = (x8, x9) ∧ AEnv 54 [(1, .int .i64 (x8)), (4, .pointer (some ⟨b1, 0, none⟩)), (6, .pointer (some ⟨b2, 0, none⟩))] a' ∧ St (cxAll w0) w' [cBox b1 [(.slice none 0 0)], cOwn [s3] (x9 : List LRow), cBox b2 [s3]] []) ?_ ?_
 ·refine cw_block ?_
  refine cw_loop (body := spec_l30Rows_l1 s x1) (r := o1) (fun sg a' w' => ∃ (s2 : Value), AEnv 54 [(0, sv (s)), (1, .int .i64 (sg.1)), (4, .pointer (some ⟨b1, 0, none⟩)), (6, .pointer (some ⟨b2, 0, none⟩)), (7, .int .i64 (x1.1)), (9, .int .i64 (sg.2.1))] a' ∧ St (cxAll w0) w' [cBox b1 [(.slice none 0 0)], cOwn [s2] (sg.2.2 : List LRow), cBox b2 [s2]] []) ?_ hl1 ⟨(.slice none 0 0), hA.part ⟨rfl, rfl, rfl, rfl, rfl, rfl, trivial⟩, (((hS).nilOwn (α := LRow)).sel [0, 2, 1] rfl).selR [] rfl⟩
  clear hA hS hl1
  rintro ⟨x5, x6, x7⟩ a w q1 ⟨s2, hA, hS⟩ hG1 hr1
  try dsimp only at hA hS
  unfold spec_l30Rows_l1 at hG1
  refine cw_seq <| cw_seq <| cw_cut (J := fun a' w' => ∃ (x10 : Bool), spec_l30Rows_j2 s x5 x6 x7 x10 = some q1 ∧ AEnv 54 [(0, sv (s)), (1, .int .i64 (x5)), (4, .pointer (some ⟨b1, 0, none⟩)), (6, .pointer (some ⟨b2, 0, none⟩)), (7, .int .i64 (x1.1)), (9, .int .i64 (x6)), (28, .bool (x10))] a' ∧ St (cxAll w0) w' [cBox b1 [(.slice none 0 0)], cOwn [s2] (x7 : List LRow), cBox b2 [s2]] []) ?_ ?_
  ·skip
   refine cw_ops hA ?_
   clear hA
   refine om rfl rfl <| om rfl rfl <| oy (rv_lss rfl rfl rfl) rfl <| om rfl rfl <| ops_case (s := 25) rfl (fun hc2 => ?_) (fun hc2 => ?_)
   ·replace hG1 := iteT hc2 hG1
    refine ops_v (rv_move rfl rfl) (want_if rfl rfl rfl (by rw [hc2]; rfl)) rfl rfl <| ops_v (rv_lss rfl rfl rfl) (want_if rfl rfl rfl (by rw [hc2]; rfl)) rfl rfl <| oy (rv_pick_t rfl rfl hc2 rfl) rfl <| ops_nil fun a hA => ?_
    exact ⟨decide (x6 < 24), hG1, hA.part ⟨rfl, rfl, rfl, rfl, rfl, rfl, rfl, trivial⟩, ((hS).sel [0, 1, 2] rfl).selR [] rfl⟩
   ·replace hG1 := iteF hc2 hG1
    refine ops_off (want_if rfl rfl rfl (by rw [hc2]; rfl)) rfl rfl <| ops_off (want_if rfl rfl rfl (by rw [hc2]; rfl)) rfl rfl <| oy (rv_pick_f rfl rfl hc2 rfl) rfl <| ops_nil fun a hA => ?_
    exact ⟨false, hG1, hA.part ⟨rfl, rfl, rfl, rfl, rfl, rfl, rfl, trivial⟩, ((hS).sel [0, 1, 2] rfl).selR [] rfl⟩
  ·skip
   clear hA hS hG1
   rintro a w ⟨x10, hG1, hA, hS⟩
   unfold spec_l30Rows_j2 at hG1
   refine cw_cond hA rfl (fun hc1 => ?_) (fun hc1 => ?_)
   ·replace hG1 := iteT hc1 hG1
    refine cw_skip <| cw_seq <| cw_block <| cw_seq <| cw_ops hA ?_
    clear hA
    refine om rfl rfl <| om rfl rfl ?_
    obtain ⟨x11, hx11, hG1⟩ := bindE hG1
    refine ops_c (rc_call Tryz.call35 rfl rfl) (want_yes rfl) rfl rfl (c_spec_l30Num (s := s) (at_ := x5)  hx11) ?_
    rintro _ w ⟨rfl, hk⟩
    replace hS := hS.after hk; clear hk
    refine om rfl rfl <| oy (rv_extract rfl rfl rfl) rfl <| oy (rv_extract rfl rfl rfl) rfl <| oa rfl rfl <| oa rfl rfl <| ops_nil fun a hA => cw_seq <| cw_ops hA ?_
    clear hA
    refine om rfl rfl <| om rfl rfl ?_
    obtain ⟨x12, hx12, hG1⟩ := bindE hG1
    refine ops_c (rc_call Tryz.call35 rfl rfl) (want_yes rfl) rfl rfl (c_spec_l30Num (s := s) (at_ := x11.2)  hx12) ?_
    rintro _ w ⟨rfl, hk⟩
    replace hS := hS.after hk; clear hk
    refine om rfl rfl <| oy (rv_extract rfl rfl rfl) rfl <| oy (rv_extract rfl rfl rfl) rfl <| oa rfl rfl <| oa rfl rfl <| ops_nil fun a hA => cw_seq <| cw_ops hA ?_
    clear hA
    refine oy (rv_fld (m := 0) Tryz.underlying69 rfl rfl Tryz.sizeOf67 rfl rfl) rfl <| oy (rv_load1 rfl rfl Tryz.isAgg67 (hS.cell 2 rfl rfl)) rfl <| om rfl rfl <| om rfl rfl <| oy (rv_build (cells := #[.int .i64 (x11.1), .int .i64 (x12.1)]) rfl Tryz.zeroValue71 Tryz.underlying71 (by have h := places_Tryz71; rw [Tryz.underlying71] at h; exact h) rfl rfl) rfl <| ops_mv (rv_lit (m := 2) (len := 1) (cells := [.int .i64 (x11.1), .int .i64 (x12.1)]) ([(⟨x11.1, x12.1⟩ : LRow)] : List LRow) hS rfl Tryz.underlying67 inf_Tryz71 rfl rfl rfl ⟨(mk_LRow ((⟨x11.1, x12.1⟩ : LRow))), rfl⟩ rfl rfl (lit_fill rfl rfl rfl rfl)) (want_yes rfl) rfl rfl ?_
    clear hS
    rintro s4 w hS
    obtain ⟨hn1, hG1⟩ := needE hG1
    refine ops_mv (rv_append (α := LRow) 1 hS rfl (hS.rdOwn 3 rfl) rfl Tryz.underlying67 inf_Tryz71 rfl hn1 rfl rfl rfl) (want_yes rfl) rfl rfl ?_
    clear hS
    rintro s5 w hS
    refine oy (rv_fld (m := 0) Tryz.underlying69 rfl rfl Tryz.sizeOf67 rfl rfl) rfl <| ops_ms (rs_box (vs := [s5]) hS (i := 2) rfl rfl rfl rfl (cells_rd (hS.rdOwn 1 rfl)) Tryz.sizeOf67 rfl rfl (all1 (one_rd (hS.rdOwn 1 rfl)) rfl)) (want_yes rfl) rfl ?_
    clear hS
    intro w hS
    refine ops_nil fun a hA => cw_ops hA ?_
    clear hA
    refine om rfl rfl <| oa rfl rfl <| ops_nil fun a hA => cw_ops hA ?_
    clear hA
    refine om rfl rfl <| oy (rv_add rfl rfl rfl) rfl <| oa rfl rfl <| ops_nil fun a hA => ?_
    cases hG1
    exact ⟨_, rfl, ⟨s5, hA.part ⟨rfl, rfl, rfl, rfl, rfl, rfl, trivial⟩, ((hS).sel [0, 1, 2] rfl).selR [] rfl⟩⟩
   ·replace hG1 := iteF hc1 hG1
    refine cw_exit <| xcons_hit ?_
    cases hG1
    have ho := hr1 _ rfl; subst ho
    exact ⟨x5, x7, s2, rfl, hA.part ⟨rfl, rfl, rfl, trivial⟩, ((hS).sel [0, 1, 2] rfl).selR [] rfl⟩
 ·skip
  clear hA hS hl1
  rintro a w ⟨x8, x9, s3, heq, hA, hS⟩
  replace hF : spec_l30Rows_j1 x8 x9 = some r := by rw [heq] at hF; exact hF
  clear heq
  unfold spec_l30Rows_j1 at hF
  refine cw_seq <| cw_ops hA ?_
  clear hA
  refine oy (rv_loadN rfl rfl Tryz.isAgg69 Tryz.sizeOf69 rfl (hS.cells 2 0 (cs' := [s3]) rfl rfl)) rfl <| om rfl rfl <| ops_ms (rs_box (vs := [s3]) hS (i := 0) rfl rfl rfl rfl rfl Tryz.sizeOf69 rfl rfl (all1 (one_rd (hS.rdOwn 1 rfl)) rfl)) (want_yes rfl) rfl ?_
  clear hS
  intro w hS
  refine oa rfl rfl <| ops_nil fun a hA => cw_ret ?_
  cases hF
  exact fin2 Tryz.results37 hA (res_cell rfl Tryz.isAgg69 Tryz.sizeOf69 rfl (hS.cells 0 0 (cs' := [s3]) rfl rfl)) (res_tmp rfl) ⟨s3, rfl, (hS.sel [1] rfl).weaken (R' := []) (fun _ h => nomatch h)⟩

theorem c_spec_BytesOk {w0 : World} {b : List Int} {s1 : Value} {r : Bool} (h1 : Rep.rd (All w0) w0 [s1] (b : List Int)) (hF : spec_BytesOk b = some r) :
    Calls Tryz.prog 150 #[s1] w0 (Ret fun v w' => v = .bool (r) ∧ St (cxAll w0) w' [] []) := by
 have hS : St (cxAll w0) w0 [] [fRd [s1] (b : List Int)] := St.enter (by
   intro f hf
   simp only [List.mem_cons, List.not_mem_nil, or_false] at hf
   subst hf; exact h1)
 refine calls_cw (args := [_]) Tryz.func150 rfl Tryz.ntmps150 rfl ?_
 unfold spec_BytesOk at hF
 intro a hA
 refine cw_seq <| cw_ops hA ?_
 clear hA
 refine oa rfl rfl <| ops_nil fun a hA => cw_seq <| cw_seq <| cw_ops hA ?_
 clear hA
 refine oa rfl rfl <| ops_nil fun a hA => ?_
 obtain ⟨o1, hl1, hF⟩ := bindE hF
 refine cw_cut (J := fun a' w' => o1 = Out.brk (()) ∧ AEnv 19 [(0, s1)] a' ∧ St (cxAll w0) w' [] [fRd [s1] (b : List Int)]) ?_ ?_
 ·refine cw_block ?_
  refine cw_loop (body := spec_BytesOk_l1 b) (r := o1) (fun sg a' w' => AEnv 19 [(0, s1), (3, .int .i64 (sg))] a' ∧ St (cxAll w0) w' [] [fRd [s1] (b : List Int)]) ?_ hl1 ⟨hA.part ⟨rfl, rfl, trivial⟩, ((hS).sel [] rfl).selR [0] rfl⟩
  clear hA hS hl1
  rintro x2 a w q1 ⟨hA, hS⟩ hG1 hr1
  try dsimp only at hA hS
  unfold spec_BytesOk_l1 at hG1
  refine cw_seq <| cw_seq <| cw_ops hA ?_
  clear hA
  refine om rfl rfl <| om rfl rfl <| oy (rv_lenS (hS.rd 0 rfl) Tryz.underlying22 rfl rfl) rfl <| oy (rv_lss rfl rfl rfl) rfl <| ops_nil fun a hA => cw_cond hA rfl (fun hc1 => ?_) (fun hc1 => ?_)
  ·replace hG1 := iteT hc1 hG1
   refine cw_skip <| cw_seq <| cw_block <| cw_seq <| cw_ops hA ?_
   clear hA
   refine om rfl rfl <| om rfl rfl ?_
   obtain ⟨x3, hx3, hG1⟩ := bindE hG1
   refine oy (rv_idx (m := 1) (hS.rd 0 rfl) rfl hx3 Tryz.underlying22 Tryz.sizeOf3 rfl rfl rfl) rfl <| oy (rv_load1 rfl rfl Tryz.isAgg3 (cell1 (el_Int (hS.rd 0 rfl) (idx_some hx3).2.2))) rfl ?_
   obtain ⟨x4, hx4, hG1⟩ := bindE hG1
   refine ops_c (rc_call Tryz.call60 rfl rfl) (want_yes rfl) rfl rfl (c_spec_l1In (x := x3) (low := 0) (high := 255)  hx4) ?_
   rintro _ w ⟨rfl, hk⟩
   replace hS := hS.after hk; clear hk
   refine oy (rv_not rfl rfl) rfl <| ops_nil fun a hA => cw_cond hA rfl (fun hc2 => ?_) (fun hc2 => ?_)
   ·replace hG1 := iteT hc2 hG1
    refine cw_seq <| cw_ops hA ?_
    clear hA
    refine oa rfl rfl <| ops_nil fun a hA => cw_ret ?_
    cases hG1
    have ho := hr1 _ rfl; subst ho
    replace hF : some false = some r := hF
    cases hF
    exact fy Tryz.results150 hA rfl hS
   ·replace hG1 := iteF hc2 hG1
    refine cw_skip <| cw_ops hA ?_
    clear hA
    refine om rfl rfl <| oy (rv_add rfl rfl rfl) rfl <| oa rfl rfl <| ops_nil fun a hA => ?_
    cases hG1
    exact ⟨_, rfl, ⟨hA.part ⟨rfl, rfl, trivial⟩, ((hS).sel [] rfl).selR [0] rfl⟩⟩
  ·replace hG1 := iteF hc1 hG1
   refine cw_exit <| xcons_hit ?_
   cases hG1
   have ho := hr1 _ rfl; subst ho
   exact ⟨rfl, hA.part ⟨rfl, trivial⟩, ((hS).sel [] rfl).selR [0] rfl⟩
 ·skip
  clear hA hS hl1
  rintro a w ⟨heq, hA, hS⟩
  replace hF : spec_BytesOk_j1 b = some r := by rw [heq] at hF; exact hF
  clear heq
  unfold spec_BytesOk_j1 at hF
  refine cw_seq <| cw_ops hA ?_
  clear hA
  refine om rfl rfl <| oy (rv_lenS (hS.rd 0 rfl) Tryz.underlying22 rfl rfl) rfl <| oy (rv_leq rfl rfl rfl) rfl <| oa rfl rfl <| ops_nil fun a hA => cw_ret ?_
  cases hF
  exact fy Tryz.results150 hA rfl hS

theorem c_spec_l7Shape {w0 : World} {h : Heap} {s1 : Value} {s2 : Value} {r : Bool} (h1 : Rep.rd (All w0) w0 [s1] (h.Bytes : List Int)) (h2 : Rep.rd (All w0) w0 [s2] (h.Class : List Int)) (hF : spec_l7Shape h = some r) :
    Calls Tryz.prog 128 #[.agg #[s1, s2]] w0 (Ret fun v w' => v = .bool (r) ∧ St (cxAll w0) w' [] []) := by
 have hS : St (cxAll w0) w0 [] [fRd [s1] (h.Bytes : List Int), fRd [s2] (h.Class : List Int)] := St.enter (by
   intro f hf
   simp only [List.mem_cons, List.not_mem_nil, or_false] at hf
   rcases hf with rfl | rfl
   · exact h1
   · exact h2)
 refine calls_cw (args := [_]) Tryz.func128 rfl Tryz.ntmps128 rfl ?_
 unfold spec_l7Shape at hF
 intro a hA
 refine cw_seq <| cw_ops hA ?_
 clear hA
 refine ops_mv (rv_box (cs := [s1, s2]) hS rfl rfl rfl) (want_yes rfl) rfl rfl ?_
 clear hS
 rintro _ w ⟨b1, rfl, hS⟩
 refine oa rfl rfl <| ops_nil fun a hA => cw_seq <| cw_seq <| cw_cut (J := fun a' w' => ∃ (x1 : Bool), spec_l7Shape_j1 h x1 = some r ∧ AEnv 31 [(1, .pointer (some ⟨b1, 0, none⟩)), (19, .bool (x1))] a' ∧ St (cxAll w0) w' [cBox b1 [s1, s2]] [fRd [s1] (h.Bytes : List Int), fRd [s2] (h.Class : List Int)]) ?_ ?_
 ·skip
  refine cw_ops hA ?_
  clear hA
  refine oy (rv_fld (m := 0) Tryz.underlying38 rfl rfl Tryz.sizeOf22 rfl rfl) rfl <| oy (rv_load1 rfl rfl Tryz.isAgg22 (hS.cell 0 rfl rfl)) rfl <| oy (rv_lenS (hS.rd 0 rfl) Tryz.underlying22 rfl rfl) rfl <| oy (rv_neq rfl rfl rfl) rfl <| om rfl rfl <| ops_case (s := 8) rfl (fun hc4 => ?_) (fun hc4 => ?_)
  ·replace hF := iteT hc4 hF
   refine ops_off (want_if rfl rfl rfl (by rw [hc4]; rfl)) rfl rfl <| ops_off (want_if rfl rfl rfl (by rw [hc4]; rfl)) rfl rfl <| ops_off (want_if rfl rfl rfl (by rw [hc4]; rfl)) rfl rfl <| ops_off (want_if rfl rfl rfl (by rw [hc4]; rfl)) rfl rfl <| oy (rv_pick_t rfl rfl hc4 rfl) rfl <| om rfl rfl <| ops_off (want_if rfl rfl rfl rfl) rfl rfl <| ops_off (want_if rfl rfl rfl rfl) rfl rfl <| ops_off (want_if rfl rfl rfl rfl) rfl rfl ?_
   refine ops_off (want_if rfl rfl rfl rfl) rfl rfl <| oy (rv_pick_t rfl rfl rfl rfl) rfl <| ops_nil fun a hA => ?_
   exact ⟨true, hF, hA.part ⟨rfl, rfl, trivial⟩, ((hS).sel [0] rfl).selR [0, 1] rfl⟩
  ·replace hF := iteF hc4 hF
   refine ops_v (rv_fld (m := 0) Tryz.underlying38 rfl rfl Tryz.sizeOf22 rfl rfl) (want_if rfl rfl rfl (by rw [hc4]; rfl)) rfl rfl <| ops_v (rv_load1 rfl rfl Tryz.isAgg22 (hS.cell 0 rfl rfl)) (want_if rfl rfl rfl (by rw [hc4]; rfl)) rfl rfl <| ops_v (rv_lenS (hS.rd 1 rfl) Tryz.underlying22 rfl rfl) (want_if rfl rfl rfl (by rw [hc4]; rfl)) rfl rfl <| ops_v (rv_neq rfl rfl rfl) (want_if rfl rfl rfl (by rw [hc4]; rfl)) rfl rfl <| oy (rv_pick_f rfl rfl hc4 rfl) rfl <| om rfl rfl <| ops_case (s := 14) rfl (fun hc5 => ?_) (fun hc5 => ?_)
   ·replace hF := iteT hc5 hF
    refine ops_off (want_if rfl rfl rfl (by rw [hc5]; rfl)) rfl rfl <| ops_off (want_if rfl rfl rfl (by rw [hc5]; rfl)) rfl rfl <| ops_off (want_if rfl rfl rfl (by rw [hc5]; rfl)) rfl rfl <| ops_off (want_if rfl rfl rfl (by rw [hc5]; rfl)) rfl rfl <| oy (rv_pick_t rfl rfl hc5 rfl) rfl <| ops_nil fun a hA => ?_
    exact ⟨true, hF, hA.part ⟨rfl, rfl, trivial⟩, ((hS).sel [0] rfl).selR [0, 1] rfl⟩
   ·replace hF := iteF hc5 hF
    refine ops_v (rv_fld (m := 0) Tryz.underlying38 rfl rfl Tryz.sizeOf22 rfl rfl) (want_if rfl rfl rfl (by rw [hc5]; rfl)) rfl rfl <| ops_v (rv_load1 rfl rfl Tryz.isAgg22 (hS.cell 0 rfl rfl)) (want_if rfl rfl rfl (by rw [hc5]; rfl)) rfl rfl ?_
    obtain ⟨x6, hx6, hF⟩ := bindE hF
    refine ops_c (rc_call Tryz.call150 rfl rfl) (want_if rfl rfl rfl (by rw [hc5]; rfl)) rfl rfl (c_spec_BytesOk (b := h.Bytes) (hS.rd 0 rfl) hx6) ?_
    rintro _ w ⟨rfl, hk⟩
    replace hS := hS.after hk; clear hk
    refine ops_v (rv_not rfl rfl) (want_if rfl rfl rfl (by rw [hc5]; rfl)) rfl rfl <| oy (rv_pick_f rfl rfl hc5 rfl) rfl <| ops_nil fun a hA => ?_
    exact ⟨!x6, hF, hA.part ⟨rfl, rfl, trivial⟩, ((hS).sel [0] rfl).selR [0, 1] rfl⟩
 ·skip
  clear hA hS hF
  rintro a w ⟨x1, hF, hA, hS⟩
  unfold spec_l7Shape_j1 at hF
  refine cw_cond hA rfl (fun hc1 => ?_) (fun hc1 => ?_)
  ·replace hF := iteT hc1 hF
   refine cw_seq <| cw_ops hA ?_
   clear hA
   refine oa rfl rfl <| ops_nil fun a hA => cw_ret ?_
   cases hF
   exact fy Tryz.results128 hA rfl hS
  ·replace hF := iteF hc1 hF
   refine cw_skip <| cw_seq <| cw_seq <| cw_ops hA ?_
   clear hA
   refine oa rfl rfl <| ops_nil fun a hA => ?_
   obtain ⟨o1, hl1, hF⟩ := bindE hF
   refine cw_cut (J := fun a' w' => o1 = Out.brk (()) ∧ AEnv 31 [] a' ∧ St (cxAll w0) w' [] []) ?_ ?_
   ·refine cw_block ?_
    refine cw_loop (body := spec_l7Shape_l2 h) (r := o1) (fun sg a' w' => AEnv 31 [(1, .pointer (some ⟨b1, 0, none⟩)), (3, .int .i64 (sg))] a' ∧ St (cxAll w0) w' [cBox b1 [s1, s2]] [fRd [s1] (h.Bytes : List Int), fRd [s2] (h.Class : List Int)]) ?_ hl1 ⟨hA.part ⟨rfl, rfl, trivial⟩, ((hS).sel [0] rfl).selR [0, 1] rfl⟩
    clear hA hS hl1
    rintro x3 a w q2 ⟨hA, hS⟩ hG2 hr2
    try dsimp only at hA hS
    unfold spec_l7Shape_l2 at hG2
    refine cw_seq <| cw_seq <| cw_ops hA ?_
    clear hA
    refine om rfl rfl <| oy (rv_lss rfl rfl rfl) rfl <| ops_nil fun a hA => cw_cond hA rfl (fun hc2 => ?_) (fun hc2 => ?_)
    ·replace hG2 := iteT hc2 hG2
     refine cw_skip <| cw_seq <| cw_block <| cw_seq <| cw_ops hA ?_
     clear hA
     refine oy (rv_fld (m := 0) Tryz.underlying38 rfl rfl Tryz.sizeOf22 rfl rfl) rfl <| oy (rv_load1 rfl rfl Tryz.isAgg22 (hS.cell 0 rfl rfl)) rfl <| om rfl rfl ?_
     obtain ⟨x4, hx4, hG2⟩ := bindE hG2
     refine oy (rv_idx (m := 1) (hS.rd 1 rfl) rfl hx4 Tryz.underlying22 Tryz.sizeOf3 rfl rfl rfl) rfl <| oy (rv_load1 rfl rfl Tryz.isAgg3 (cell1 (el_Int (hS.rd 1 rfl) (idx_some hx4).2.2))) rfl ?_
     obtain ⟨x5, hx5, hG2⟩ := bindE hG2
     refine ops_c (rc_call Tryz.call60 rfl rfl) (want_yes rfl) rfl rfl (c_spec_l1In (x := x4) (low := (-1)) (high := 2)  hx5) ?_
     rintro _ w ⟨rfl, hk⟩
     replace hS := hS.after hk; clear hk
     refine oy (rv_not rfl rfl) rfl <| ops_nil fun a hA => cw_cond hA rfl (fun hc3 => ?_) (fun hc3 => ?_)
     ·replace hG2 := iteT hc3 hG2
      refine cw_seq <| cw_ops hA ?_
      clear hA
      refine oa rfl rfl <| ops_nil fun a hA => cw_ret ?_
      cases hG2
      have ho := hr2 _ rfl; subst ho
      replace hF : some false = some r := hF
      cases hF
      exact fy Tryz.results128 hA rfl hS
     ·replace hG2 := iteF hc3 hG2
      refine cw_skip <| cw_ops hA ?_
      clear hA
      refine om rfl rfl <| oy (rv_add rfl rfl rfl) rfl <| oa rfl rfl <| ops_nil fun a hA => ?_
      cases hG2
      exact ⟨_, rfl, ⟨hA.part ⟨rfl, rfl, trivial⟩, ((hS).sel [0] rfl).selR [0, 1] rfl⟩⟩
    ·replace hG2 := iteF hc2 hG2
     refine cw_exit <| xcons_hit ?_
     cases hG2
     have ho := hr2 _ rfl; subst ho
     exact ⟨rfl, hA.part trivial, ((hS).sel [] rfl).selR [] rfl⟩
   ·skip
    clear hA hS hl1
    rintro a w ⟨heq, hA, hS⟩
    replace hF : spec_l7Shape_j2 = some r := by rw [heq] at hF; exact hF
    clear heq
    unfold spec_l7Shape_j2 at hF
    refine cw_seq <| cw_ops hA ?_
    clear hA
    refine oa rfl rfl <| ops_nil fun a hA => cw_ret ?_
    cases hF
    exact fy Tryz.results128 hA rfl hS

theorem c_spec_SizeOf {w0 : World} {c : Int}  {r : Int}  (hF : spec_SizeOf c = some r) :
    Calls Tryz.prog 166 #[.int .i64 (c)] w0 (Ret fun v w' => v = .int .i64 (r) ∧ St (cxAll w0) w' [] []) := by
 have hS : St (cxAll w0) w0 [] [] := St.enter (by
   intro f hf; cases hf)
 refine calls_cw (args := [_]) Tryz.func166 rfl Tryz.ntmps166 rfl ?_
 unfold spec_SizeOf at hF
 intro a hA
 refine cw_seq <| cw_ops hA ?_
 clear hA
 refine oa rfl rfl <| ops_nil fun a hA => cw_seq <| cw_seq <| cw_ops hA ?_
 clear hA
 refine om rfl rfl <| ops_nil fun a hA => cw_block <| cw_seq <| cw_ops hA ?_
 clear hA
 refine oy (rv_eql rfl rfl rfl) rfl <| oa rfl rfl <| ops_nil fun a hA => cw_cond hA rfl (fun hc1 => ?_) (fun hc1 => ?_)
 ·replace hF := iteT hc1 hF
  refine cw_seq <| cw_ops hA ?_
  clear hA
  refine oa rfl rfl <| ops_nil fun a hA => cw_ret ?_
  cases hF
  exact fy Tryz.results166 hA rfl hS
 ·replace hF := iteF hc1 hF
  refine cw_seq <| cw_ops hA ?_
  clear hA
  refine oy (rv_eql rfl rfl rfl) rfl <| oa rfl rfl <| ops_nil fun a hA => cw_cond hA rfl (fun hc2 => ?_) (fun hc2 => ?_)
  ·replace hF := iteT hc2 hF
   refine cw_seq <| cw_ops hA ?_
   clear hA
   refine oa rfl rfl <| ops_nil fun a hA => cw_ret ?_
   cases hF
   exact fy Tryz.results166 hA rfl hS
  ·replace hF := iteF hc2 hF
   refine cw_seq <| cw_ops hA ?_
   clear hA
   refine oy (rv_eql rfl rfl rfl) rfl <| oa rfl rfl <| ops_nil fun a hA => cw_cond hA rfl (fun hc3 => ?_) (fun hc3 => ?_)
   ·replace hF := iteT hc3 hF
    refine cw_seq <| cw_ops hA ?_
    clear hA
    refine oa rfl rfl <| ops_nil fun a hA => cw_ret ?_
    cases hF
    exact fy Tryz.results166 hA rfl hS
   ·replace hF := iteF hc3 hF
    refine cw_skip <| cw_seq <| cw_ops hA ?_
    clear hA
    refine oa rfl rfl <| ops_nil fun a hA => cw_ret ?_
    cases hF
    exact fy Tryz.results166 hA rfl hS

theorem c_spec_StrideOf {w0 : World} {c : Int}  {r : Int}  (hF : spec_StrideOf c = some r) :
    Calls Tryz.prog 155 #[.int .i64 (c)] w0 (Ret fun v w' => v = .int .i64 (r) ∧ St (cxAll w0) w' [] []) := by
 have hS : St (cxAll w0) w0 [] [] := St.enter (by
   intro f hf; cases hf)
 refine calls_cw (args := [_]) Tryz.func155 rfl Tryz.ntmps155 rfl ?_
 unfold spec_StrideOf at hF
 intro a hA
 refine cw_seq <| cw_ops hA ?_
 clear hA
 refine oa rfl rfl <| ops_nil fun a hA => cw_seq <| cw_seq <| cw_ops hA ?_
 clear hA
 refine om rfl rfl ?_
 obtain ⟨x1, hx1, hF⟩ := bindE hF
 refine ops_c (rc_call Tryz.call60 rfl rfl) (want_yes rfl) rfl rfl (c_spec_l1In (x := c) (low := 0) (high := 2)  hx1) ?_
 rintro _ w ⟨rfl, hk⟩
 replace hS := hS.after hk; clear hk
 refine oy (rv_not rfl rfl) rfl <| ops_nil fun a hA => cw_cond hA rfl (fun hc1 => ?_) (fun hc1 => ?_)
 ·replace hF := iteT hc1 hF
  refine cw_seq <| cw_ops hA ?_
  clear hA
  refine oa rfl rfl <| ops_nil fun a hA => cw_ret ?_
  cases hF
  exact fy Tryz.results155 hA rfl hS
 ·replace hF := iteF hc1 hF
  refine cw_skip <| cw_seq <| cw_ops hA ?_
  clear hA
  refine om rfl rfl ?_
  obtain ⟨x2, hx2, hF⟩ := bindE hF
  refine ops_c (rc_call Tryz.call166 rfl rfl) (want_yes rfl) rfl rfl (c_spec_SizeOf (c := c)  hx2) ?_
  rintro _ w ⟨rfl, hk⟩
  replace hS := hS.after hk; clear hk
  refine oy (rv_add rfl rfl rfl) rfl <| oa rfl rfl <| ops_nil fun a hA => cw_ret ?_
  cases hF
  exact fy Tryz.results155 hA rfl hS

theorem c_spec_PerPage {w0 : World} {c : Int}  {r : Int}  (hF : spec_PerPage c = some r) :
    Calls Tryz.prog 151 #[.int .i64 (c)] w0 (Ret fun v w' => v = .int .i64 (r) ∧ St (cxAll w0) w' [] []) := by
 have hS : St (cxAll w0) w0 [] [] := St.enter (by
   intro f hf; cases hf)
 refine calls_cw (args := [_]) Tryz.func151 rfl Tryz.ntmps151 rfl ?_
 unfold spec_PerPage at hF
 intro a hA
 refine cw_seq <| cw_ops hA ?_
 clear hA
 refine oa rfl rfl <| ops_nil fun a hA => cw_seq <| cw_seq <| cw_ops hA ?_
 clear hA
 refine om rfl rfl ?_
 obtain ⟨x1, hx1, hF⟩ := bindE hF
 refine ops_c (rc_call Tryz.call60 rfl rfl) (want_yes rfl) rfl rfl (c_spec_l1In (x := c) (low := 0) (high := 2)  hx1) ?_
 rintro _ w ⟨rfl, hk⟩
 replace hS := hS.after hk; clear hk
 refine oy (rv_not rfl rfl) rfl <| ops_nil fun a hA => cw_cond hA rfl (fun hc1 => ?_) (fun hc1 => ?_)
 ·replace hF := iteT hc1 hF
  refine cw_seq <| cw_ops hA ?_
  clear hA
  refine oa rfl rfl <| ops_nil fun a hA => cw_ret ?_
  cases hF
  exact fy Tryz.results151 hA rfl hS
 ·replace hF := iteF hc1 hF
  refine cw_skip <| cw_seq <| cw_ops hA ?_
  clear hA
  refine om rfl rfl ?_
  obtain ⟨x2, hx2, hF⟩ := bindE hF
  refine ops_c (rc_call Tryz.call155 rfl rfl) (want_yes rfl) rfl rfl (c_spec_StrideOf (c := c)  hx2) ?_
  rintro _ w ⟨rfl, hk⟩
  replace hS := hS.after hk; clear hk
  obtain ⟨hn1, hF⟩ := needE hF
  refine oy (rv_quo rfl rfl rfl hn1) rfl <| oa rfl rfl <| ops_nil fun a hA => cw_ret ?_
  cases hF
  exact fy Tryz.results151 hA rfl hS

theorem c_spec_SlotAt {w0 : World} {page : Int} {index : Int}  {r : Int}  (hF : spec_SlotAt page index = some r) :
    Calls Tryz.prog 152 #[.int .i64 (page), .int .i64 (index)] w0 (Ret fun v w' => v = .int .i64 (r) ∧ St (cxAll w0) w' [] []) := by
 have hS : St (cxAll w0) w0 [] [] := St.enter (by
   intro f hf; cases hf)
 refine calls_cw (args := [_, _]) Tryz.func152 rfl Tryz.ntmps152 rfl ?_
 unfold spec_SlotAt at hF
 intro a hA
 refine cw_seq <| cw_ops hA ?_
 clear hA
 refine oa rfl rfl <| ops_nil fun a hA => cw_seq <| cw_seq <| cw_cut (J := fun a' w' => ∃ (x1 : Bool), spec_SlotAt_j1 page index x1 = some r ∧ AEnv 17 [(0, .int .i64 (page)), (1, .int .i64 (index)), (12, .bool (x1))] a' ∧ St (cxAll w0) w' [] []) ?_ ?_
 ·skip
  refine cw_ops hA ?_
  clear hA
  refine om rfl rfl ?_
  obtain ⟨x2, hx2, hF⟩ := bindE hF
  refine ops_c (rc_call Tryz.call60 rfl rfl) (want_yes rfl) rfl rfl (c_spec_l1In (x := page) (low := 0) (high := 5)  hx2) ?_
  rintro _ w ⟨rfl, hk⟩
  replace hS := hS.after hk; clear hk
  refine oy (rv_not rfl rfl) rfl <| om rfl rfl <| ops_case (s := 8) rfl (fun hc2 => ?_) (fun hc2 => ?_)
  ·replace hF := iteT hc2 hF
   refine ops_off (want_if rfl rfl rfl (by rw [hc2]; rfl)) rfl rfl <| ops_off (want_if rfl rfl rfl (by rw [hc2]; rfl)) rfl rfl <| ops_off (want_if rfl rfl rfl (by rw [hc2]; rfl)) rfl rfl <| oy (rv_pick_t rfl rfl hc2 rfl) rfl <| ops_nil fun a hA => ?_
   exact ⟨true, hF, hA.part ⟨rfl, rfl, rfl, trivial⟩, ((hS).sel [] rfl).selR [] rfl⟩
  ·replace hF := iteF hc2 hF
   refine ops_v (rv_move rfl rfl) (want_if rfl rfl rfl (by rw [hc2]; rfl)) rfl rfl ?_
   obtain ⟨x3, hx3, hF⟩ := bindE hF
   refine ops_c (rc_call Tryz.call60 rfl rfl) (want_if rfl rfl rfl (by rw [hc2]; rfl)) rfl rfl (c_spec_l1In (x := index) (low := 0) (high := 3)  hx3) ?_
   rintro _ w ⟨rfl, hk⟩
   replace hS := hS.after hk; clear hk
   refine ops_v (rv_not rfl rfl) (want_if rfl rfl rfl (by rw [hc2]; rfl)) rfl rfl <| oy (rv_pick_f rfl rfl hc2 rfl) rfl <| ops_nil fun a hA => ?_
   exact ⟨!x3, hF, hA.part ⟨rfl, rfl, rfl, trivial⟩, ((hS).sel [] rfl).selR [] rfl⟩
 ·skip
  clear hA hS hF
  rintro a w ⟨x1, hF, hA, hS⟩
  unfold spec_SlotAt_j1 at hF
  refine cw_cond hA rfl (fun hc1 => ?_) (fun hc1 => ?_)
  ·replace hF := iteT hc1 hF
   refine cw_seq <| cw_ops hA ?_
   clear hA
   refine oa rfl rfl <| ops_nil fun a hA => cw_ret ?_
   cases hF
   exact fy Tryz.results152 hA rfl hS
  ·replace hF := iteF hc1 hF
   refine cw_skip <| cw_seq <| cw_ops hA ?_
   clear hA
   refine om rfl rfl <| oy (rv_mul rfl rfl rfl) rfl <| om rfl rfl <| oy (rv_add rfl rfl rfl) rfl <| oa rfl rfl <| ops_nil fun a hA => cw_ret ?_
   cases hF
   exact fy Tryz.results152 hA rfl hS

theorem c_spec_PageOf {w0 : World} {slot : Int}  {r : Int}  (hF : spec_PageOf slot = some r) :
    Calls Tryz.prog 153 #[.int .i64 (slot)] w0 (Ret fun v w' => v = .int .i64 (r) ∧ St (cxAll w0) w' [] []) := by
 have hS : St (cxAll w0) w0 [] [] := St.enter (by
   intro f hf; cases hf)
 refine calls_cw (args := [_]) Tryz.func153 rfl Tryz.ntmps153 rfl ?_
 unfold spec_PageOf at hF
 intro a hA
 refine cw_seq <| cw_ops hA ?_
 clear hA
 refine oa rfl rfl <| ops_nil fun a hA => cw_seq <| cw_seq <| cw_ops hA ?_
 clear hA
 refine om rfl rfl ?_
 obtain ⟨x1, hx1, hF⟩ := bindE hF
 refine ops_c (rc_call Tryz.call60 rfl rfl) (want_yes rfl) rfl rfl (c_spec_l1In (x := slot) (low := 0) (high := 23)  hx1) ?_
 rintro _ w ⟨rfl, hk⟩
 replace hS := hS.after hk; clear hk
 refine oy (rv_not rfl rfl) rfl <| ops_nil fun a hA => cw_cond hA rfl (fun hc1 => ?_) (fun hc1 => ?_)
 ·replace hF := iteT hc1 hF
  refine cw_seq <| cw_ops hA ?_
  clear hA
  refine oa rfl rfl <| ops_nil fun a hA => cw_ret ?_
  cases hF
  exact fy Tryz.results153 hA rfl hS
 ·replace hF := iteF hc1 hF
  refine cw_skip <| cw_seq <| cw_ops hA ?_
  clear hA
  refine om rfl rfl <| oy (rv_quo rfl rfl rfl (by decide)) rfl <| oa rfl rfl <| ops_nil fun a hA => cw_ret ?_
  cases hF
  exact fy Tryz.results153 hA rfl hS

theorem c_spec_IndexOf {w0 : World} {slot : Int}  {r : Int}  (hF : spec_IndexOf slot = some r) :
    Calls Tryz.prog 154 #[.int .i64 (slot)] w0 (Ret fun v w' => v = .int .i64 (r) ∧ St (cxAll w0) w' [] []) := by
 have hS : St (cxAll w0) w0 [] [] := St.enter (by
   intro f hf; cases hf)
 refine calls_cw (args := [_]) Tryz.func154 rfl Tryz.ntmps154 rfl ?_
 unfold spec_IndexOf at hF
 intro a hA
 refine cw_seq <| cw_ops hA ?_
 clear hA
 refine oa rfl rfl <| ops_nil fun a hA => cw_seq <| cw_seq <| cw_ops hA ?_
 clear hA
 refine om rfl rfl ?_
 obtain ⟨x1, hx1, hF⟩ := bindE hF
 refine ops_c (rc_call Tryz.call60 rfl rfl) (want_yes rfl) rfl rfl (c_spec_l1In (x := slot) (low := 0) (high := 23)  hx1) ?_
 rintro _ w ⟨rfl, hk⟩
 replace hS := hS.after hk; clear hk
 refine oy (rv_not rfl rfl) rfl <| ops_nil fun a hA => cw_cond hA rfl (fun hc1 => ?_) (fun hc1 => ?_)
 ·replace hF := iteT hc1 hF
  refine cw_seq <| cw_ops hA ?_
  clear hA
  refine oa rfl rfl <| ops_nil fun a hA => cw_ret ?_
  cases hF
  exact fy Tryz.results154 hA rfl hS
 ·replace hF := iteF hc1 hF
  refine cw_skip <| cw_seq <| cw_ops hA ?_
  clear hA
  refine om rfl rfl <| oy (rv_rem rfl rfl rfl (by decide)) rfl <| oa rfl rfl <| ops_nil fun a hA => cw_ret ?_
  cases hF
  exact fy Tryz.results154 hA rfl hS

theorem c_spec_GenAt {w0 : World} {slot : Int} {c : Int}  {r : Int}  (hF : spec_GenAt slot c = some r) :
    Calls Tryz.prog 134 #[.int .i64 (slot), .int .i64 (c)] w0 (Ret fun v w' => v = .int .i64 (r) ∧ St (cxAll w0) w' [] []) := by
 have hS : St (cxAll w0) w0 [] [] := St.enter (by
   intro f hf; cases hf)
 refine calls_cw (args := [_, _]) Tryz.func134 rfl Tryz.ntmps134 rfl ?_
 unfold spec_GenAt at hF
 intro a hA
 refine cw_seq <| cw_ops hA ?_
 clear hA
 refine oa rfl rfl <| ops_nil fun a hA => cw_seq <| cw_seq <| cw_cut (J := fun a' w' => ∃ (x1 : Bool), spec_GenAt_j1 slot c x1 = some r ∧ AEnv 27 [(0, .int .i64 (slot)), (1, .int .i64 (c)), (16, .bool (x1))] a' ∧ St (cxAll w0) w' [] []) ?_ ?_
 ·skip
  refine cw_ops hA ?_
  clear hA
  refine om rfl rfl ?_
  obtain ⟨x5, hx5, hF⟩ := bindE hF
  refine ops_c (rc_call Tryz.call153 rfl rfl) (want_yes rfl) rfl rfl (c_spec_PageOf (slot := slot)  hx5) ?_
  rintro _ w ⟨rfl, hk⟩
  replace hS := hS.after hk; clear hk
  refine oy (rv_lss rfl rfl rfl) rfl <| om rfl rfl <| ops_case (s := 8) rfl (fun hc2 => ?_) (fun hc2 => ?_)
  ·replace hF := iteT hc2 hF
   refine ops_off (want_if rfl rfl rfl (by rw [hc2]; rfl)) rfl rfl <| ops_off (want_if rfl rfl rfl (by rw [hc2]; rfl)) rfl rfl <| ops_off (want_if rfl rfl rfl (by rw [hc2]; rfl)) rfl rfl <| ops_off (want_if rfl rfl rfl (by rw [hc2]; rfl)) rfl rfl <| ops_off (want_if rfl rfl rfl (by rw [hc2]; rfl)) rfl rfl <| ops_off (want_if rfl rfl rfl (by rw [hc2]; rfl)) rfl rfl <| ops_off (want_if rfl rfl rfl (by rw [hc2]; rfl)) rfl rfl <| oy (rv_pick_t rfl rfl hc2 rfl) rfl <| ops_nil fun a hA => ?_
   exact ⟨true, hF, hA.part ⟨rfl, rfl, rfl, trivial⟩, ((hS).sel [] rfl).selR [] rfl⟩
  ·replace hF := iteF hc2 hF
   refine ops_v (rv_move rfl rfl) (want_if rfl rfl rfl (by rw [hc2]; rfl)) rfl rfl ?_
   obtain ⟨x6, hx6, hF⟩ := bindE hF
   refine ops_c (rc_call Tryz.call154 rfl rfl) (want_if rfl rfl rfl (by rw [hc2]; rfl)) rfl rfl (c_spec_IndexOf (slot := slot)  hx6) ?_
   rintro _ w ⟨rfl, hk⟩
   replace hS := hS.after hk; clear hk
   refine ops_v (rv_move rfl rfl) (want_if rfl rfl rfl (by rw [hc2]; rfl)) rfl rfl ?_
   obtain ⟨x7, hx7, hF⟩ := bindE hF
   refine ops_c (rc_call Tryz.call151 rfl rfl) (want_if rfl rfl rfl (by rw [hc2]; rfl)) rfl rfl (c_spec_PerPage (c := c)  hx7) ?_
   rintro _ w ⟨rfl, hk⟩
   replace hS := hS.after hk; clear hk
   refine ops_v (rv_sub rfl rfl rfl) (want_if rfl rfl rfl (by rw [hc2]; rfl)) rfl rfl ?_
   obtain ⟨x8, hx8, hF⟩ := bindE hF
   refine ops_c (rc_call Tryz.call60 rfl rfl) (want_if rfl rfl rfl (by rw [hc2]; rfl)) rfl rfl (c_spec_l1In (x := x6) (low := 0) (high := w64 (x7 - 1))  hx8) ?_
   rintro _ w ⟨rfl, hk⟩
   replace hS := hS.after hk; clear hk
   refine ops_v (rv_not rfl rfl) (want_if rfl rfl rfl (by rw [hc2]; rfl)) rfl rfl <| oy (rv_pick_f rfl rfl hc2 rfl) rfl <| ops_nil fun a hA => ?_
   exact ⟨!x8, hF, hA.part ⟨rfl, rfl, rfl, trivial⟩, ((hS).sel [] rfl).selR [] rfl⟩
 ·skip
  clear hA hS hF
  rintro a w ⟨x1, hF, hA, hS⟩
  unfold spec_GenAt_j1 at hF
  refine cw_cond hA rfl (fun hc1 => ?_) (fun hc1 => ?_)
  ·replace hF := iteT hc1 hF
   refine cw_seq <| cw_ops hA ?_
   clear hA
   refine oa rfl rfl <| ops_nil fun a hA => cw_ret ?_
   cases hF
   exact fy Tryz.results134 hA rfl hS
  ·replace hF := iteF hc1 hF
   refine cw_skip <| cw_seq <| cw_ops hA ?_
   clear hA
   refine om rfl rfl ?_
   obtain ⟨x2, hx2, hF⟩ := bindE hF
   refine ops_c (rc_call Tryz.call153 rfl rfl) (want_yes rfl) rfl rfl (c_spec_PageOf (slot := slot)  hx2) ?_
   rintro _ w ⟨rfl, hk⟩
   replace hS := hS.after hk; clear hk
   refine oy (rv_mul rfl rfl rfl) rfl <| oy (rv_add rfl rfl rfl) rfl <| om rfl rfl ?_
   obtain ⟨x3, hx3, hF⟩ := bindE hF
   refine ops_c (rc_call Tryz.call154 rfl rfl) (want_yes rfl) rfl rfl (c_spec_IndexOf (slot := slot)  hx3) ?_
   rintro _ w ⟨rfl, hk⟩
   replace hS := hS.after hk; clear hk
   refine om rfl rfl ?_
   obtain ⟨x4, hx4, hF⟩ := bindE hF
   refine ops_c (rc_call Tryz.call155 rfl rfl) (want_yes rfl) rfl rfl (c_spec_StrideOf (c := c)  hx4) ?_
   rintro _ w ⟨rfl, hk⟩
   replace hS := hS.after hk; clear hk
   refine oy (rv_mul rfl rfl rfl) rfl <| oy (rv_add rfl rfl rfl) rfl <| oa rfl rfl <| ops_nil fun a hA => cw_ret ?_
   cases hF
   exact fy Tryz.results134 hA rfl hS

theorem c_spec_l3Load {w0 : World} {b : List Int} {at_ : Int} {width : Int} {s1 : Value} {r : Int} (h1 : Rep.rd (All w0) w0 [s1] (b : List Int)) (hF : spec_l3Load b at_ width = some r) :
    Calls Tryz.prog 133 #[s1, .int .i64 (at_), .int .i64 (width)] w0 (Ret fun v w' => v = .int .i64 (r) ∧ St (cxAll w0) w' [] []) := by
 have hS : St (cxAll w0) w0 [] [fRd [s1] (b : List Int)] := St.enter (by
   intro f hf
   simp only [List.mem_cons, List.not_mem_nil, or_false] at hf
   subst hf; exact h1)
 refine calls_cw (args := [_, _, _]) Tryz.func133 rfl Tryz.ntmps133 rfl ?_
 unfold spec_l3Load at hF
 intro a hA
 refine cw_seq <| cw_ops hA ?_
 clear hA
 refine oa rfl rfl <| ops_nil fun a hA => cw_seq <| cw_ops hA ?_
 clear hA
 refine oa rfl rfl <| ops_nil fun a hA => cw_seq <| cw_seq <| cw_ops hA ?_
 clear hA
 refine oa rfl rfl <| ops_nil fun a hA => ?_
 obtain ⟨o1, hl1, hF⟩ := bindE hF
 refine cw_cut (J := fun a' w' => ∃ (x5 : Int), o1 = x5 ∧ AEnv 24 [(7, .int .i64 (x5))] a' ∧ St (cxAll w0) w' [] []) ?_ ?_
 ·refine cw_block ?_
  refine cw_loop (body := spec_l3Load_l1 b at_ width) (r := o1) (fun sg a' w' => AEnv 24 [(0, s1), (1, .int .i64 (at_)), (2, .int .i64 (width)), (7, .int .i64 (sg.1)), (8, .int .i64 (sg.2))] a' ∧ St (cxAll w0) w' [] [fRd [s1] (b : List Int)]) ?_ hl1 ⟨hA.part ⟨rfl, rfl, rfl, rfl, rfl, trivial⟩, ((hS).sel [] rfl).selR [0] rfl⟩
  clear hA hS hl1
  rintro ⟨x3, x4⟩ a w q1 ⟨hA, hS⟩ hG1 hr1
  try dsimp only at hA hS
  unfold spec_l3Load_l1 at hG1
  refine cw_seq <| cw_seq <| cw_ops hA ?_
  clear hA
  refine om rfl rfl <| om rfl rfl <| oy (rv_lss rfl rfl rfl) rfl <| ops_nil fun a hA => cw_cond hA rfl (fun hc1 => ?_) (fun hc1 => ?_)
  ·replace hG1 := iteT hc1 hG1
   refine cw_skip <| cw_seq <| cw_block <| cw_ops hA ?_
   clear hA
   refine om rfl rfl <| oy (rv_mul rfl rfl rfl) rfl <| om rfl rfl <| om rfl rfl <| om rfl rfl <| oy (rv_add rfl rfl rfl) rfl ?_
   obtain ⟨x6, hx6, hG1⟩ := bindE hG1
   refine oy (rv_idx (m := 1) (hS.rd 0 rfl) rfl hx6 Tryz.underlying22 Tryz.sizeOf3 rfl rfl rfl) rfl <| oy (rv_load1 rfl rfl Tryz.isAgg3 (cell1 (el_Int (hS.rd 0 rfl) (idx_some hx6).2.2))) rfl <| oy (rv_add rfl rfl rfl) rfl <| oa rfl rfl <| ops_nil fun a hA => cw_ops hA ?_
   clear hA
   refine om rfl rfl <| oy (rv_add rfl rfl rfl) rfl <| oa rfl rfl <| ops_nil fun a hA => ?_
   cases hG1
   exact ⟨_, rfl, ⟨hA.part ⟨rfl, rfl, rfl, rfl, rfl, trivial⟩, ((hS).sel [] rfl).selR [0] rfl⟩⟩
  ·replace hG1 := iteF hc1 hG1
   refine cw_exit <| xcons_hit ?_
   cases hG1
   have ho := hr1 _ rfl; subst ho
   exact ⟨x3, rfl, hA.part ⟨rfl, trivial⟩, ((hS).sel [] rfl).selR [] rfl⟩
 ·skip
  clear hA hS hl1
  rintro a w ⟨x5, heq, hA, hS⟩
  replace hF : spec_l3Load_j1 x5 = some r := by rw [heq] at hF; exact hF
  clear heq
  unfold spec_l3Load_j1 at hF
  refine cw_seq <| cw_ops hA ?_
  clear hA
  refine om rfl rfl <| oa rfl rfl <| ops_nil fun a hA => cw_ret ?_
  cases hF
  exact fy Tryz.results133 hA rfl hS

theorem c_spec_l7Page {w0 : World} {h : Heap} {p : Int} {s1 : Value} {s2 : Value} {r : Bool} (h1 : Rep.rd (All w0) w0 [s1] (h.Bytes : List Int)) (h2 : Rep.rd (All w0) w0 [s2] (h.Class : List Int)) (hF : spec_l7Page h p = some r) :
    Calls Tryz.prog 129 #[.agg #[s1, s2], .int .i64 (p)] w0 (Ret fun v w' => v = .bool (r) ∧ St (cxAll w0) w' [] []) := by
 have hS : St (cxAll w0) w0 [] [fRd [s1] (h.Bytes : List Int), fRd [s2] (h.Class : List Int)] := St.enter (by
   intro f hf
   simp only [List.mem_cons, List.not_mem_nil, or_false] at hf
   rcases hf with rfl | rfl
   · exact h1
   · exact h2)
 refine calls_cw (args := [_, _]) Tryz.func129 rfl Tryz.ntmps129 rfl ?_
 unfold spec_l7Page at hF
 intro a hA
 refine cw_seq <| cw_ops hA ?_
 clear hA
 refine ops_mv (rv_box (cs := [s1, s2]) hS rfl rfl rfl) (want_yes rfl) rfl rfl ?_
 clear hS
 rintro _ w ⟨b1, rfl, hS⟩
 refine oa rfl rfl <| ops_nil fun a hA => cw_seq <| cw_ops hA ?_
 clear hA
 refine om rfl rfl <| oy (rv_mul rfl rfl rfl) rfl <| oa rfl rfl <| ops_nil fun a hA => cw_seq <| cw_ops hA ?_
 clear hA
 refine oy (rv_fld (m := 0) Tryz.underlying38 rfl rfl Tryz.sizeOf22 rfl rfl) rfl <| oy (rv_load1 rfl rfl Tryz.isAgg22 (hS.cell 0 rfl rfl)) rfl <| om rfl rfl ?_
 obtain ⟨x1, hx1, hF⟩ := bindE hF
 refine oy (rv_idx (m := 1) (hS.rd 1 rfl) rfl hx1 Tryz.underlying22 Tryz.sizeOf3 rfl rfl rfl) rfl <| oy (rv_load1 rfl rfl Tryz.isAgg3 (cell1 (el_Int (hS.rd 1 rfl) (idx_some hx1).2.2))) rfl <| oa rfl rfl <| ops_nil fun a hA => cw_seq <| cw_seq <| cw_ops hA ?_
 clear hA
 refine om rfl rfl <| oy (rv_lss rfl rfl rfl) rfl <| ops_nil fun a hA => cw_cond hA rfl (fun hc1 => ?_) (fun hc1 => ?_)
 ·replace hF := iteT hc1 hF
  refine cw_seq <| cw_seq <| cw_ops hA ?_
  clear hA
  refine om rfl rfl <| oa rfl rfl <| ops_nil fun a hA => ?_
  obtain ⟨o1, hl1, hF⟩ := bindE hF
  refine cw_cut (J := fun a' w' => o1 = Out.brk (()) ∧ AEnv 89 [] a' ∧ St (cxAll w0) w' [] []) ?_ ?_
  ·refine cw_block ?_
   refine cw_loop (body := spec_l7Page_l1 h p) (r := o1) (fun sg a' w' => AEnv 89 [(2, .pointer (some ⟨b1, 0, none⟩)), (5, .int .i64 (w64 (p * 64))), (7, .int .i64 (sg))] a' ∧ St (cxAll w0) w' [cBox b1 [s1, s2]] [fRd [s1] (h.Bytes : List Int), fRd [s2] (h.Class : List Int)]) ?_ hl1 ⟨hA.part ⟨rfl, rfl, rfl, trivial⟩, ((hS).sel [0] rfl).selR [0, 1] rfl⟩
   clear hA hS hl1
   rintro x3 a w q1 ⟨hA, hS⟩ hG1 hr1
   try dsimp only at hA hS
   unfold spec_l7Page_l1 at hG1
   refine cw_seq <| cw_seq <| cw_ops hA ?_
   clear hA
   refine om rfl rfl <| om rfl rfl <| oy (rv_add rfl rfl rfl) rfl <| oy (rv_lss rfl rfl rfl) rfl <| ops_nil fun a hA => cw_cond hA rfl (fun hc2 => ?_) (fun hc2 => ?_)
   ·replace hG1 := iteT hc2 hG1
    refine cw_skip <| cw_seq <| cw_block <| cw_seq <| cw_ops hA ?_
    clear hA
    refine oy (rv_fld (m := 0) Tryz.underlying38 rfl rfl Tryz.sizeOf22 rfl rfl) rfl <| oy (rv_load1 rfl rfl Tryz.isAgg22 (hS.cell 0 rfl rfl)) rfl <| om rfl rfl ?_
    obtain ⟨x4, hx4, hG1⟩ := bindE hG1
    refine oy (rv_idx (m := 1) (hS.rd 0 rfl) rfl hx4 Tryz.underlying22 Tryz.sizeOf3 rfl rfl rfl) rfl <| oy (rv_load1 rfl rfl Tryz.isAgg3 (cell1 (el_Int (hS.rd 0 rfl) (idx_some hx4).2.2))) rfl <| oy (rv_neq rfl rfl rfl) rfl <| ops_nil fun a hA => cw_cond hA rfl (fun hc3 => ?_) (fun hc3 => ?_)
    ·replace hG1 := iteT hc3 hG1
     refine cw_seq <| cw_ops hA ?_
     clear hA
     refine oa rfl rfl <| ops_nil fun a hA => cw_ret ?_
     cases hG1
     have ho := hr1 _ rfl; subst ho
     replace hF : some false = some r := hF
     cases hF
     exact fy Tryz.results129 hA rfl hS
    ·replace hG1 := iteF hc3 hG1
     refine cw_skip <| cw_ops hA ?_
     clear hA
     refine om rfl rfl <| oy (rv_add rfl rfl rfl) rfl <| oa rfl rfl <| ops_nil fun a hA => ?_
     cases hG1
     exact ⟨_, rfl, ⟨hA.part ⟨rfl, rfl, rfl, trivial⟩, ((hS).sel [0] rfl).selR [0, 1] rfl⟩⟩
   ·replace hG1 := iteF hc2 hG1
    refine cw_exit <| xcons_hit ?_
    cases hG1
    have ho := hr1 _ rfl; subst ho
    exact ⟨rfl, hA.part trivial, ((hS).sel [] rfl).selR [] rfl⟩
  ·skip
   clear hA hS hl1
   rintro a w ⟨heq, hA, hS⟩
   replace hF : spec_l7Page_j1 = some r := by rw [heq] at hF; exact hF
   clear heq
   unfold spec_l7Page_j1 at hF
   refine cw_seq <| cw_ops hA ?_
   clear hA
   refine oa rfl rfl <| ops_nil fun a hA => cw_ret ?_
   cases hF
   exact fy Tryz.results129 hA rfl hS
 ·replace hF := iteF hc1 hF
  refine cw_skip <| cw_seq <| cw_seq <| cw_cut (J := fun a' w' => ∃ (x5 : Bool), spec_l7Page_j2 h p x1 x5 = some r ∧ AEnv 89 [(1, .int .i64 (p)), (2, .pointer (some ⟨b1, 0, none⟩)), (5, .int .i64 (w64 (p * 64))), (6, .int .i64 (x1)), (58, .bool (x5))] a' ∧ St (cxAll w0) w' [cBox b1 [s1, s2]] [fRd [s1] (h.Bytes : List Int), fRd [s2] (h.Class : List Int)]) ?_ ?_
  ·skip
   refine cw_any (Keeps (cxAll w0) [cBox b1 [s1, s2]] [fRd [s1] (h.Bytes : List Int), fRd [s2] (h.Class : List Int)]) mixed_Tryz hA hS ?_
   clear hA hS; intro w hS
   have hK : Keeps (cxAll w0) [cBox b1 [s1, s2]] [fRd [s1] (h.Bytes : List Int), fRd [s2] (h.Class : List Int)] w := ⟨_, (hS.sel [0] rfl).selR [0, 1] rfl⟩
   refine ey 0 rfl (by kernel_rfl) hK (fun _ _ _ => (rv_fld (m := 0) Tryz.underlying38 rfl rfl Tryz.sizeOf22 rfl rfl)) rfl ?_
   refine ey 1 rfl (by kernel_rfl) hK (fun _ _ hS => (rv_load1 rfl rfl Tryz.isAgg22 (hS.cell 0 rfl rfl))) rfl ?_
   refine ey 2 rfl (by kernel_rfl) hK (fun _ _ _ => (rv_move rfl rfl)) rfl ?_
   obtain ⟨x16, hx16, hF⟩ := bindE hF
   refine ey 3 rfl (by kernel_rfl) hK (fun _ _ hS => (rv_idx (m := 1) (hS.rd 0 rfl) rfl hx16 Tryz.underlying22 Tryz.sizeOf3 rfl rfl rfl)) rfl ?_
   refine ey 4 rfl (by kernel_rfl) hK (fun _ _ hS => (rv_load1 rfl rfl Tryz.isAgg3 (cell1 (el_Int (hS.rd 0 rfl) (idx_some hx16).2.2)))) rfl ?_
   refine ey 5 rfl (by kernel_rfl) hK (fun _ _ _ => (rv_neq rfl rfl rfl)) rfl ?_
   refine ey 6 rfl (by kernel_rfl) hK (fun _ _ _ => (rv_move rfl rfl)) rfl ?_
   refine any_case (s := 38) rfl (fun hc9 => ?_) (fun hc9 => ?_)
   ·replace hF := iteT hc9 hF
    refine any_off 7 (by kernel_rfl) rfl (by kernel_rfl) (by kernel_rfl) hK (want_if rfl rfl rfl (by rw [hc9]; rfl)) rfl rfl ?_
    refine any_off 8 (by kernel_rfl) rfl (by kernel_rfl) (by kernel_rfl) hK (want_if rfl rfl rfl (by rw [hc9]; rfl)) rfl rfl ?_
    refine any_off 9 (by kernel_rfl) rfl (by kernel_rfl) (by kernel_rfl) hK (want_if rfl rfl rfl (by rw [hc9]; rfl)) rfl rfl ?_
    refine any_off 10 (by kernel_rfl) rfl (by kernel_rfl) (by kernel_rfl) hK (want_if rfl rfl rfl (by rw [hc9]; rfl)) rfl rfl ?_
    refine any_off 11 (by kernel_rfl) rfl (by kernel_rfl) (by kernel_rfl) hK (want_if rfl rfl rfl (by rw [hc9]; rfl)) rfl rfl ?_
    refine any_off 12 (by kernel_rfl) rfl (by kernel_rfl) (by kernel_rfl) hK (want_if rfl rfl rfl (by rw [hc9]; rfl)) rfl rfl ?_
    refine any_off 13 (by kernel_rfl) rfl (by kernel_rfl) (by kernel_rfl) hK (want_if rfl rfl rfl (by rw [hc9]; rfl)) rfl rfl ?_
    refine any_off 14 (by kernel_rfl) rfl (by kernel_rfl) (by kernel_rfl) hK (want_if rfl rfl rfl (by rw [hc9]; rfl)) rfl rfl ?_
    refine ey 15 rfl (by kernel_rfl) hK (fun _ _ _ => (rv_pick_t rfl rfl hc9 rfl)) rfl ?_
    refine ey 16 rfl (by kernel_rfl) hK (fun _ _ _ => (rv_move rfl rfl)) rfl ?_
    refine any_off 17 (by kernel_rfl) rfl (by kernel_rfl) (by kernel_rfl) hK (want_if rfl rfl rfl rfl) rfl rfl ?_
    refine any_off 18 (by kernel_rfl) rfl (by kernel_rfl) (by kernel_rfl) hK (want_if rfl rfl rfl rfl) rfl rfl ?_
    refine any_off 19 (by kernel_rfl) rfl (by kernel_rfl) (by kernel_rfl) hK (want_if rfl rfl rfl rfl) rfl rfl ?_
    refine any_off 20 (by kernel_rfl) rfl (by kernel_rfl) (by kernel_rfl) hK (want_if rfl rfl rfl rfl) rfl rfl ?_
    refine any_off 21 (by kernel_rfl) rfl (by kernel_rfl) (by kernel_rfl) hK (want_if rfl rfl rfl rfl) rfl rfl ?_
    refine any_off 22 (by kernel_rfl) rfl (by kernel_rfl) (by kernel_rfl) hK (want_if rfl rfl rfl rfl) rfl rfl ?_
    refine any_off 23 (by kernel_rfl) rfl (by kernel_rfl) (by kernel_rfl) hK (want_if rfl rfl rfl rfl) rfl rfl ?_
    refine any_off 24 (by kernel_rfl) rfl (by kernel_rfl) (by kernel_rfl) hK (want_if rfl rfl rfl rfl) rfl rfl ?_
    refine any_off 25 (by kernel_rfl) rfl (by kernel_rfl) (by kernel_rfl) hK (want_if rfl rfl rfl rfl) rfl rfl ?_
    refine ey 26 rfl (by kernel_rfl) hK (fun _ _ _ => (rv_pick_t rfl rfl rfl rfl)) rfl ?_
    refine any_done (by kernel_rfl) ?_
    intro a hA
    exact ⟨true, hF, hA.part ⟨rfl, rfl, rfl, rfl, rfl, trivial⟩, ((hS).sel [0] rfl).selR [0, 1] rfl⟩
   ·replace hF := iteF hc9 hF
    refine any_v 7 (by kernel_rfl) rfl (by kernel_rfl) (by kernel_rfl) hK (fun _ _ => (rv_fld (m := 0) Tryz.underlying38 rfl rfl Tryz.sizeOf22 rfl rfl)) (want_if rfl rfl rfl (by rw [hc9]; rfl)) rfl rfl ?_
    refine any_v 8 (by kernel_rfl) rfl (by kernel_rfl) (by kernel_rfl) hK (fun w hk => by obtain ⟨_, hS⟩ := hk; exact (rv_load1 rfl rfl Tryz.isAgg22 (hS.cell 0 rfl rfl))) (want_if rfl rfl rfl (by rw [hc9]; rfl)) rfl rfl ?_
    refine any_v 9 (by kernel_rfl) rfl (by kernel_rfl) (by kernel_rfl) hK (fun _ _ => (rv_move rfl rfl)) (want_if rfl rfl rfl (by rw [hc9]; rfl)) rfl rfl ?_
    refine any_v 10 (by kernel_rfl) rfl (by kernel_rfl) (by kernel_rfl) hK (fun _ _ => (rv_add rfl rfl rfl)) (want_if rfl rfl rfl (by rw [hc9]; rfl)) rfl rfl ?_
    obtain ⟨x17, hx17, hF⟩ := bindE hF
    refine any_v 11 (by kernel_rfl) rfl (by kernel_rfl) (by kernel_rfl) hK (fun w hk => by obtain ⟨_, hS⟩ := hk; exact (rv_idx (m := 1) (hS.rd 0 rfl) rfl hx17 Tryz.underlying22 Tryz.sizeOf3 rfl rfl rfl)) (want_if rfl rfl rfl (by rw [hc9]; rfl)) rfl rfl ?_
    refine any_v 12 (by kernel_rfl) rfl (by kernel_rfl) (by kernel_rfl) hK (fun w hk => by obtain ⟨_, hS⟩ := hk; exact (rv_load1 rfl rfl Tryz.isAgg3 (cell1 (el_Int (hS.rd 0 rfl) (idx_some hx17).2.2)))) (want_if rfl rfl rfl (by rw [hc9]; rfl)) rfl rfl ?_
    refine any_v 13 (by kernel_rfl) rfl (by kernel_rfl) (by kernel_rfl) hK (fun _ _ => (rv_move rfl rfl)) (want_if rfl rfl rfl (by rw [hc9]; rfl)) rfl rfl ?_
    refine any_v 14 (by kernel_rfl) rfl (by kernel_rfl) (by kernel_rfl) hK (fun _ _ => (rv_neq rfl rfl rfl)) (want_if rfl rfl rfl (by rw [hc9]; rfl)) rfl rfl ?_
    refine ey 15 rfl (by kernel_rfl) hK (fun _ _ _ => (rv_pick_f rfl rfl hc9 rfl)) rfl ?_
    refine ey 16 rfl (by kernel_rfl) hK (fun _ _ _ => (rv_move rfl rfl)) rfl ?_
    refine any_case (s := 48) rfl (fun hc10 => ?_) (fun hc10 => ?_)
    ·replace hF := iteT hc10 hF
     refine any_off 17 (by kernel_rfl) rfl (by kernel_rfl) (by kernel_rfl) hK (want_if rfl rfl rfl (by rw [hc10]; rfl)) rfl rfl ?_
     refine any_off 18 (by kernel_rfl) rfl (by kernel_rfl) (by kernel_rfl) hK (want_if rfl rfl rfl (by rw [hc10]; rfl)) rfl rfl ?_
     refine any_off 19 (by kernel_rfl) rfl (by kernel_rfl) (by kernel_rfl) hK (want_if rfl rfl rfl (by rw [hc10]; rfl)) rfl rfl ?_
     refine any_off 20 (by kernel_rfl) rfl (by kernel_rfl) (by kernel_rfl) hK (want_if rfl rfl rfl (by rw [hc10]; rfl)) rfl rfl ?_
     refine any_off 21 (by kernel_rfl) rfl (by kernel_rfl) (by kernel_rfl) hK (want_if rfl rfl rfl (by rw [hc10]; rfl)) rfl rfl ?_
     refine any_off 22 (by kernel_rfl) rfl (by kernel_rfl) (by kernel_rfl) hK (want_if rfl rfl rfl (by rw [hc10]; rfl)) rfl rfl ?_
     refine any_off 23 (by kernel_rfl) rfl (by kernel_rfl) (by kernel_rfl) hK (want_if rfl rfl rfl (by rw [hc10]; rfl)) rfl rfl ?_
     refine any_off 24 (by kernel_rfl) rfl (by kernel_rfl) (by kernel_rfl) hK (want_if rfl rfl rfl (by rw [hc10]; rfl)) rfl rfl ?_
     refine any_off 25 (by kernel_rfl) rfl (by kernel_rfl) (by kernel_rfl) hK (want_if rfl rfl rfl (by rw [hc10]; rfl)) rfl rfl ?_
     refine ey 26 rfl (by kernel_rfl) hK (fun _ _ _ => (rv_pick_t rfl rfl hc10 rfl)) rfl ?_
     refine any_done (by kernel_rfl) ?_
     intro a hA
     exact ⟨true, hF, hA.part ⟨rfl, rfl, rfl, rfl, rfl, trivial⟩, ((hS).sel [0] rfl).selR [0, 1] rfl⟩
    ·replace hF := iteF hc10 hF
     refine any_v 17 (by kernel_rfl) rfl (by kernel_rfl) (by kernel_rfl) hK (fun _ _ => (rv_fld (m := 0) Tryz.underlying38 rfl rfl Tryz.sizeOf22 rfl rfl)) (want_if rfl rfl rfl (by rw [hc10]; rfl)) rfl rfl ?_
     refine any_v 18 (by kernel_rfl) rfl (by kernel_rfl) (by kernel_rfl) hK (fun w hk => by obtain ⟨_, hS⟩ := hk; exact (rv_load1 rfl rfl Tryz.isAgg22 (hS.cell 0 rfl rfl))) (want_if rfl rfl rfl (by rw [hc10]; rfl)) rfl rfl ?_
     refine any_v 19 (by kernel_rfl) rfl (by kernel_rfl) (by kernel_rfl) hK (fun _ _ => (rv_move rfl rfl)) (want_if rfl rfl rfl (by rw [hc10]; rfl)) rfl rfl ?_
     refine any_v 20 (by kernel_rfl) rfl (by kernel_rfl) (by kernel_rfl) hK (fun _ _ => (rv_add rfl rfl rfl)) (want_if rfl rfl rfl (by rw [hc10]; rfl)) rfl rfl ?_
     obtain ⟨x18, hx18, hF⟩ := bindE hF
     refine any_v 21 (by kernel_rfl) rfl (by kernel_rfl) (by kernel_rfl) hK (fun w hk => by obtain ⟨_, hS⟩ := hk; exact (rv_idx (m := 1) (hS.rd 0 rfl) rfl hx18 Tryz.underlying22 Tryz.sizeOf3 rfl rfl rfl)) (want_if rfl rfl rfl (by rw [hc10]; rfl)) rfl rfl ?_
     refine any_v 22 (by kernel_rfl) rfl (by kernel_rfl) (by kernel_rfl) hK (fun w hk => by obtain ⟨_, hS⟩ := hk; exact (rv_load1 rfl rfl Tryz.isAgg3 (cell1 (el_Int (hS.rd 0 rfl) (idx_some hx18).2.2)))) (want_if rfl rfl rfl (by rw [hc10]; rfl)) rfl rfl ?_
     refine any_v 23 (by kernel_rfl) rfl (by kernel_rfl) (by kernel_rfl) hK (fun _ _ => (rv_move rfl rfl)) (want_if rfl rfl rfl (by rw [hc10]; rfl)) rfl rfl ?_
     refine any_1 (i := 24) (by kernel_rfl) ?_
     obtain ⟨x19, hx19, hF⟩ := bindE hF
     refine as_c rfl (rc_call Tryz.call151 rfl rfl) (want_if rfl rfl rfl (by rw [hc10]; rfl)) rfl rfl (c_spec_PerPage (c := x1)  hx19) ?_
     clear hK; rintro _ w ⟨rfl, hk⟩
     replace hS := hS.after hk; clear hk
     have hK := keepsI ((hS.sel [0] rfl).selR [0, 1] rfl)
     refine ⟨hK, ?_⟩
     refine any_v 25 (by kernel_rfl) rfl (by kernel_rfl) (by kernel_rfl) hK (fun _ _ => (rv_neq rfl rfl rfl)) (want_if rfl rfl rfl (by rw [hc10]; rfl)) rfl rfl ?_
     refine ey 26 rfl (by kernel_rfl) hK (fun _ _ _ => (rv_pick_f rfl rfl hc10 rfl)) rfl ?_
     refine any_done (by kernel_rfl) ?_
     intro a hA
     exact ⟨x18 != x19, hF, hA.part ⟨rfl, rfl, rfl, rfl, rfl, trivial⟩, ((hS).sel [0] rfl).selR [0, 1] rfl⟩
  ·skip
   clear hA hS hF
   rintro a w ⟨x5, hF, hA, hS⟩
   unfold spec_l7Page_j2 at hF
   refine cw_cond hA rfl (fun hc4 => ?_) (fun hc4 => ?_)
   ·replace hF := iteT hc4 hF
    refine cw_seq <| cw_ops hA ?_
    clear hA
    refine oa rfl rfl <| ops_nil fun a hA => cw_ret ?_
    cases hF
    exact fy Tryz.results129 hA rfl hS
   ·replace hF := iteF hc4 hF
    refine cw_skip <| cw_seq <| cw_seq <| cw_ops hA ?_
    clear hA
    refine om rfl rfl <| oy (rv_add rfl rfl rfl) rfl <| oa rfl rfl <| ops_nil fun a hA => ?_
    obtain ⟨o2, hl2, hF⟩ := bindE hF
    refine cw_cut (J := fun a' w' => o2 = Out.brk (()) ∧ AEnv 89 [(1, .int .i64 (p)), (2, .pointer (some ⟨b1, 0, none⟩)), (6, .int .i64 (x1))] a' ∧ St (cxAll w0) w' [cBox b1 [s1, s2]] [fRd [s1] (h.Bytes : List Int), fRd [s2] (h.Class : List Int)]) ?_ ?_
    ·refine cw_block ?_
     refine cw_loop (body := spec_l7Page_l3 h p) (r := o2) (fun sg a' w' => AEnv 89 [(1, .int .i64 (p)), (2, .pointer (some ⟨b1, 0, none⟩)), (5, .int .i64 (w64 (p * 64))), (6, .int .i64 (x1)), (8, .int .i64 (sg))] a' ∧ St (cxAll w0) w' [cBox b1 [s1, s2]] [fRd [s1] (h.Bytes : List Int), fRd [s2] (h.Class : List Int)]) ?_ hl2 ⟨hA.part ⟨rfl, rfl, rfl, rfl, rfl, trivial⟩, ((hS).sel [0] rfl).selR [0, 1] rfl⟩
     clear hA hS hl2
     rintro x7 a w q3 ⟨hA, hS⟩ hG3 hr3
     try dsimp only at hA hS
     unfold spec_l7Page_l3 at hG3
     refine cw_seq <| cw_seq <| cw_ops hA ?_
     clear hA
     refine om rfl rfl <| om rfl rfl <| oy (rv_add rfl rfl rfl) rfl <| oy (rv_lss rfl rfl rfl) rfl <| ops_nil fun a hA => cw_cond hA rfl (fun hc7 => ?_) (fun hc7 => ?_)
     ·replace hG3 := iteT hc7 hG3
      refine cw_skip <| cw_seq <| cw_block <| cw_seq <| cw_ops hA ?_
      clear hA
      refine oy (rv_fld (m := 0) Tryz.underlying38 rfl rfl Tryz.sizeOf22 rfl rfl) rfl <| oy (rv_load1 rfl rfl Tryz.isAgg22 (hS.cell 0 rfl rfl)) rfl <| om rfl rfl ?_
      obtain ⟨x15, hx15, hG3⟩ := bindE hG3
      refine oy (rv_idx (m := 1) (hS.rd 0 rfl) rfl hx15 Tryz.underlying22 Tryz.sizeOf3 rfl rfl rfl) rfl <| oy (rv_load1 rfl rfl Tryz.isAgg3 (cell1 (el_Int (hS.rd 0 rfl) (idx_some hx15).2.2))) rfl <| oy (rv_neq rfl rfl rfl) rfl <| ops_nil fun a hA => cw_cond hA rfl (fun hc8 => ?_) (fun hc8 => ?_)
      ·replace hG3 := iteT hc8 hG3
       refine cw_seq <| cw_ops hA ?_
       clear hA
       refine oa rfl rfl <| ops_nil fun a hA => cw_ret ?_
       cases hG3
       have ho := hr3 _ rfl; subst ho
       replace hF : some false = some r := hF
       cases hF
       exact fy Tryz.results129 hA rfl hS
      ·replace hG3 := iteF hc8 hG3
       refine cw_skip <| cw_ops hA ?_
       clear hA
       refine om rfl rfl <| oy (rv_add rfl rfl rfl) rfl <| oa rfl rfl <| ops_nil fun a hA => ?_
       cases hG3
       exact ⟨_, rfl, ⟨hA.part ⟨rfl, rfl, rfl, rfl, rfl, trivial⟩, ((hS).sel [0] rfl).selR [0, 1] rfl⟩⟩
     ·replace hG3 := iteF hc7 hG3
      refine cw_exit <| xcons_hit ?_
      cases hG3
      have ho := hr3 _ rfl; subst ho
      exact ⟨rfl, hA.part ⟨rfl, rfl, rfl, trivial⟩, ((hS).sel [0] rfl).selR [0, 1] rfl⟩
    ·skip
     clear hA hS hl2
     rintro a w ⟨heq, hA, hS⟩
     replace hF : spec_l7Page_j3 h p x1 = some r := by rw [heq] at hF; exact hF
     clear heq
     unfold spec_l7Page_j3 at hF
     refine cw_seq <| cw_seq <| cw_ops hA ?_
     clear hA
     refine oa rfl rfl <| ops_nil fun a hA => ?_
     obtain ⟨o3, hl3, hF⟩ := bindE hF
     refine cw_cut (J := fun a' w' => o3 = Out.brk (()) ∧ AEnv 89 [] a' ∧ St (cxAll w0) w' [] []) ?_ ?_
     ·refine cw_block ?_
      refine cw_loop (body := spec_l7Page_l4 h p x1) (r := o3) (fun sg a' w' => AEnv 89 [(1, .int .i64 (p)), (2, .pointer (some ⟨b1, 0, none⟩)), (6, .int .i64 (x1)), (9, .int .i64 (sg))] a' ∧ St (cxAll w0) w' [cBox b1 [s1, s2]] [fRd [s1] (h.Bytes : List Int), fRd [s2] (h.Class : List Int)]) ?_ hl3 ⟨hA.part ⟨rfl, rfl, rfl, rfl, trivial⟩, ((hS).sel [0] rfl).selR [0, 1] rfl⟩
      clear hA hS hl3
      rintro x9 a w q4 ⟨hA, hS⟩ hG4 hr4
      try dsimp only at hA hS
      unfold spec_l7Page_l4 at hG4
      refine cw_seq <| cw_seq <| cw_ops hA ?_
      clear hA
      refine om rfl rfl <| om rfl rfl ?_
      obtain ⟨x10, hx10, hG4⟩ := bindE hG4
      refine ops_c (rc_call Tryz.call151 rfl rfl) (want_yes rfl) rfl rfl (c_spec_PerPage (c := x1)  hx10) ?_
      rintro _ w ⟨rfl, hk⟩
      replace hS := hS.after hk; clear hk
      refine oy (rv_lss rfl rfl rfl) rfl <| ops_nil fun a hA => cw_cond hA rfl (fun hc5 => ?_) (fun hc5 => ?_)
      ·replace hG4 := iteT hc5 hG4
       refine cw_skip <| cw_seq <| cw_block <| cw_seq <| cw_any (Keeps (cxAll w0) [cBox b1 [s1, s2]] [fRd [s1] (h.Bytes : List Int), fRd [s2] (h.Class : List Int)]) mixed_Tryz hA hS ?_
       clear hA hS; intro w hS
       have hK : Keeps (cxAll w0) [cBox b1 [s1, s2]] [fRd [s1] (h.Bytes : List Int), fRd [s2] (h.Class : List Int)] w := ⟨_, (hS.sel [0] rfl).selR [0, 1] rfl⟩
       refine ey 0 rfl (by kernel_rfl) hK (fun _ _ _ => (rv_fld (m := 0) Tryz.underlying38 rfl rfl Tryz.sizeOf22 rfl rfl)) rfl ?_
       refine ey 1 rfl (by kernel_rfl) hK (fun _ _ hS => (rv_load1 rfl rfl Tryz.isAgg22 (hS.cell 0 rfl rfl))) rfl ?_
       refine ey 2 rfl (by kernel_rfl) hK (fun _ _ _ => (rv_move rfl rfl)) rfl ?_
       refine ey 3 rfl (by kernel_rfl) hK (fun _ _ _ => (rv_move rfl rfl)) rfl ?_
       refine ey 5 rfl (by kernel_rfl) hK (fun _ _ _ => (rv_move rfl rfl)) rfl ?_
       refine any_1 (i := 4) (by kernel_rfl) ?_
       obtain ⟨x11, hx11, hG4⟩ := bindE hG4
       refine as_c rfl (rc_call Tryz.call152 rfl rfl) (want_yes rfl) rfl rfl (c_spec_SlotAt (page := p) (index := x9)  hx11) ?_
       clear hK; rintro _ w ⟨rfl, hk⟩
       replace hS := hS.after hk; clear hk
       have hK := keepsI ((hS.sel [0] rfl).selR [0, 1] rfl)
       refine ⟨hK, ?_⟩
       refine any_1 (i := 6) (by kernel_rfl) ?_
       obtain ⟨x12, hx12, hG4⟩ := bindE hG4
       refine as_c rfl (rc_call Tryz.call134 rfl rfl) (want_yes rfl) rfl rfl (c_spec_GenAt (slot := x11) (c := x1)  hx12) ?_
       clear hK; rintro _ w ⟨rfl, hk⟩
       replace hS := hS.after hk; clear hk
       have hK := keepsI ((hS.sel [0] rfl).selR [0, 1] rfl)
       refine ⟨hK, ?_⟩
       refine any_1 (i := 7) (by kernel_rfl) ?_
       obtain ⟨x13, hx13, hG4⟩ := bindE hG4
       refine as_c rfl (rc_call Tryz.call133 rfl rfl) (want_yes rfl) rfl rfl (c_spec_l3Load (b := h.Bytes) (at_ := x12) (width := 4) (hS.rd 0 rfl) hx13) ?_
       clear hK; rintro _ w ⟨rfl, hk⟩
       replace hS := hS.after hk; clear hk
       have hK := keepsI ((hS.sel [0] rfl).selR [0, 1] rfl)
       refine ⟨hK, ?_⟩
       refine any_1 (i := 8) (by kernel_rfl) ?_
       obtain ⟨x14, hx14, hG4⟩ := bindE hG4
       refine as_c rfl (rc_call Tryz.call60 rfl rfl) (want_yes rfl) rfl rfl (c_spec_l1In (x := x13) (low := 1) (high := 7)  hx14) ?_
       clear hK; rintro _ w ⟨rfl, hk⟩
       replace hS := hS.after hk; clear hk
       have hK := keepsI ((hS.sel [0] rfl).selR [0, 1] rfl)
       refine ⟨hK, ?_⟩
       refine ey 9 rfl (by kernel_rfl) hK (fun _ _ _ => (rv_not rfl rfl)) rfl ?_
       refine any_done (by kernel_rfl) ?_
       intro a hA
       refine cw_cond hA rfl (fun hc6 => ?_) (fun hc6 => ?_)
       ·replace hG4 := iteT hc6 hG4
        refine cw_seq <| cw_ops hA ?_
        clear hA
        refine oa rfl rfl <| ops_nil fun a hA => cw_ret ?_
        cases hG4
        have ho := hr4 _ rfl; subst ho
        replace hF : some false = some r := hF
        cases hF
        exact fy Tryz.results129 hA rfl hS
       ·replace hG4 := iteF hc6 hG4
        refine cw_skip <| cw_ops hA ?_
        clear hA
        refine om rfl rfl <| oy (rv_add rfl rfl rfl) rfl <| oa rfl rfl <| ops_nil fun a hA => ?_
        cases hG4
        exact ⟨_, rfl, ⟨hA.part ⟨rfl, rfl, rfl, rfl, trivial⟩, ((hS).sel [0] rfl).selR [0, 1] rfl⟩⟩
      ·replace hG4 := iteF hc5 hG4
       refine cw_exit <| xcons_hit ?_
       cases hG4
       have ho := hr4 _ rfl; subst ho
       exact ⟨rfl, hA.part trivial, ((hS).sel [] rfl).selR [] rfl⟩
     ·skip
      clear hA hS hl3
      rintro a w ⟨heq, hA, hS⟩
      replace hF : spec_l7Page_j4 = some r := by rw [heq] at hF; exact hF
      clear heq
      unfold spec_l7Page_j4 at hF
      refine cw_seq <| cw_ops hA ?_
      clear hA
      refine oa rfl rfl <| ops_nil fun a hA => cw_ret ?_
      cases hF
      exact fy Tryz.results129 hA rfl hS

theorem c_spec_HeapOk {w0 : World} {h : Heap} {s1 : Value} {s2 : Value} {r : Bool} (h1 : Rep.rd (All w0) w0 [s1] (h.Bytes : List Int)) (h2 : Rep.rd (All w0) w0 [s2] (h.Class : List Int)) (hF : spec_HeapOk h = some r) :
    Calls Tryz.prog 95 #[.agg #[s1, s2]] w0 (Ret fun v w' => v = .bool (r) ∧ St (cxAll w0) w' [] []) := by
 have hS : St (cxAll w0) w0 [] [fRd [s1] (h.Bytes : List Int), fRd [s2] (h.Class : List Int)] := St.enter (by
   intro f hf
   simp only [List.mem_cons, List.not_mem_nil, or_false] at hf
   rcases hf with rfl | rfl
   · exact h1
   · exact h2)
 refine calls_cw (args := [_]) Tryz.func95 rfl Tryz.ntmps95 rfl ?_
 unfold spec_HeapOk at hF
 intro a hA
 refine cw_seq <| cw_ops hA ?_
 clear hA
 refine ops_mv (rv_box (cs := [s1, s2]) hS rfl rfl rfl) (want_yes rfl) rfl rfl ?_
 clear hS
 rintro _ w ⟨b1, rfl, hS⟩
 refine oa rfl rfl <| ops_nil fun a hA => cw_seq <| cw_seq <| cw_ops hA ?_
 clear hA
 refine oy (rv_loadN rfl rfl Tryz.isAgg38 Tryz.sizeOf38 rfl (hS.cells 0 0 (cs' := [s1, s2]) rfl rfl)) rfl ?_
 obtain ⟨x1, hx1, hF⟩ := bindE hF
 refine ops_c (rc_call Tryz.call128 rfl rfl) (want_yes rfl) rfl rfl (c_spec_l7Shape (h := h) (hS.rd 0 rfl) (hS.rd 1 rfl) hx1) ?_
 rintro _ w ⟨rfl, hk⟩
 replace hS := hS.after hk; clear hk
 refine oy (rv_not rfl rfl) rfl <| ops_nil fun a hA => cw_cond hA rfl (fun hc1 => ?_) (fun hc1 => ?_)
 ·replace hF := iteT hc1 hF
  refine cw_seq <| cw_ops hA ?_
  clear hA
  refine oa rfl rfl <| ops_nil fun a hA => cw_ret ?_
  cases hF
  exact fy Tryz.results95 hA rfl hS
 ·replace hF := iteF hc1 hF
  refine cw_skip <| cw_seq <| cw_seq <| cw_ops hA ?_
  clear hA
  refine oa rfl rfl <| ops_nil fun a hA => ?_
  obtain ⟨o1, hl1, hF⟩ := bindE hF
  refine cw_cut (J := fun a' w' => o1 = Out.brk (()) ∧ AEnv 15 [] a' ∧ St (cxAll w0) w' [] []) ?_ ?_
  ·refine cw_block ?_
   refine cw_loop (body := spec_HeapOk_l1 h) (r := o1) (fun sg a' w' => AEnv 15 [(1, .pointer (some ⟨b1, 0, none⟩)), (3, .int .i64 (sg))] a' ∧ St (cxAll w0) w' [cBox b1 [s1, s2]] [fRd [s1] (h.Bytes : List Int), fRd [s2] (h.Class : List Int)]) ?_ hl1 ⟨hA.part ⟨rfl, rfl, trivial⟩, ((hS).sel [0] rfl).selR [0, 1] rfl⟩
   clear hA hS hl1
   rintro x3 a w q1 ⟨hA, hS⟩ hG1 hr1
   try dsimp only at hA hS
   unfold spec_HeapOk_l1 at hG1
   refine cw_seq <| cw_seq <| cw_ops hA ?_
   clear hA
   refine om rfl rfl <| oy (rv_lss rfl rfl rfl) rfl <| ops_nil fun a hA => cw_cond hA rfl (fun hc2 => ?_) (fun hc2 => ?_)
   ·replace hG1 := iteT hc2 hG1
    refine cw_skip <| cw_seq <| cw_block <| cw_seq <| cw_ops hA ?_
    clear hA
    refine oy (rv_loadN rfl rfl Tryz.isAgg38 Tryz.sizeOf38 rfl (hS.cells 0 0 (cs' := [s1, s2]) rfl rfl)) rfl <| om rfl rfl ?_
    obtain ⟨x4, hx4, hG1⟩ := bindE hG1
    refine ops_c (rc_call Tryz.call129 rfl rfl) (want_yes rfl) rfl rfl (c_spec_l7Page (h := h) (p := x3) (hS.rd 0 rfl) (hS.rd 1 rfl) hx4) ?_
    rintro _ w ⟨rfl, hk⟩
    replace hS := hS.after hk; clear hk
    refine oy (rv_not rfl rfl) rfl <| ops_nil fun a hA => cw_cond hA rfl (fun hc3 => ?_) (fun hc3 => ?_)
    ·replace hG1 := iteT hc3 hG1
     refine cw_seq <| cw_ops hA ?_
     clear hA
     refine oa rfl rfl <| ops_nil fun a hA => cw_ret ?_
     cases hG1
     have ho := hr1 _ rfl; subst ho
     replace hF : some false = some r := hF
     cases hF
     exact fy Tryz.results95 hA rfl hS
    ·replace hG1 := iteF hc3 hG1
     refine cw_skip <| cw_ops hA ?_
     clear hA
     refine om rfl rfl <| oy (rv_add rfl rfl rfl) rfl <| oa rfl rfl <| ops_nil fun a hA => ?_
     cases hG1
     exact ⟨_, rfl, ⟨hA.part ⟨rfl, rfl, trivial⟩, ((hS).sel [0] rfl).selR [0, 1] rfl⟩⟩
   ·replace hG1 := iteF hc2 hG1
    refine cw_exit <| xcons_hit ?_
    cases hG1
    have ho := hr1 _ rfl; subst ho
    exact ⟨rfl, hA.part trivial, ((hS).sel [] rfl).selR [] rfl⟩
  ·skip
   clear hA hS hl1
   rintro a w ⟨heq, hA, hS⟩
   replace hF : spec_HeapOk_j1 = some r := by rw [heq] at hF; exact hF
   clear heq
   unfold spec_HeapOk_j1 at hF
   refine cw_seq <| cw_ops hA ?_
   clear hA
   refine oa rfl rfl <| ops_nil fun a hA => cw_ret ?_
   cases hF
   exact fy Tryz.results95 hA rfl hS

theorem c_spec_l8All {w0 : World} {l : Lists} {s1 : Value} {s2 : Value} {r : (List Int)} (h1 : Rep.rd (All w0) w0 [s1] (l.Global : List SList)) (h2 : Rep.rd (All w0) w0 [s2] (l.Own : List SList)) (hF : spec_l8All l = some r) :
    Calls Tryz.prog 130 #[.agg #[s1, s2]] w0 (Ret fun v w' => ∃ (s0_0 : Value), v = s0_0 ∧ St (cxAll w0) w' [cOwn [s0_0] (r : List Int)] []) := by
 have hS : St (cxAll w0) w0 [] [fRd [s1] (l.Global : List SList), fRd [s2] (l.Own : List SList)] := St.enter (by
   intro f hf
   simp only [List.mem_cons, List.not_mem_nil, or_false] at hf
   rcases hf with rfl | rfl
   · exact h1
   · exact h2)
 refine calls_cw (args := [_]) Tryz.func130 rfl Tryz.ntmps130 rfl ?_
 unfold spec_l8All at hF
 intro a hA
 refine cw_seq <| cw_ops hA ?_
 clear hA
 refine ops_mv (rv_box (cs := [s1, s2]) hS rfl rfl rfl) (want_yes rfl) rfl rfl ?_
 clear hS
 rintro _ w ⟨b1, rfl, hS⟩
 refine oa rfl rfl <| ops_nil fun a hA => cw_seq <| cw_ops hA ?_
 clear hA
 refine ops_mv (rv_lit0 (α := Int) hS rfl Tryz.underlying22 inf_Tryz3 rfl) (want_yes rfl) rfl rfl ?_
 clear hS
 rintro s3 w hS
 refine oa rfl rfl <| ops_nil fun a hA => cw_seq <| cw_seq <| cw_ops hA ?_
 clear hA
 refine oa rfl rfl <| ops_nil fun a hA => ?_
 obtain ⟨o1, hl1, hF⟩ := bindE hF
 refine cw_cut (J := fun a' w' => ∃ (x5 : List Int) (s6 : Value), o1 = x5 ∧ AEnv 38 [(1, .pointer (some ⟨b1, 0, none⟩)), (3, s6)] a' ∧ St (cxAll w0) w' [cOwn [s6] (x5 : List Int), cBox b1 [s1, s2]] [fRd [s1] (l.Global : List SList), fRd [s2] (l.Own : List SList)]) ?_ ?_
 ·refine cw_block ?_
  refine cw_loop (body := spec_l8All_l1 l) (r := o1) (fun sg a' w' => ∃ (s5 : Value), AEnv 38 [(1, .pointer (some ⟨b1, 0, none⟩)), (3, s5), (4, .int .i64 (sg.2))] a' ∧ St (cxAll w0) w' [cOwn [s5] (sg.1 : List Int), cBox b1 [s1, s2]] [fRd [s1] (l.Global : List SList), fRd [s2] (l.Own : List SList)]) ?_ hl1 ⟨s3, hA.part ⟨rfl, rfl, rfl, trivial⟩, ((hS).sel [1, 0] rfl).selR [0, 1] rfl⟩
  clear hA hS hl1
  rintro ⟨x3, x4⟩ a w q1 ⟨s5, hA, hS⟩ hG1 hr1
  try dsimp only at hA hS
  unfold spec_l8All_l1 at hG1
  refine cw_seq <| cw_seq <| cw_ops hA ?_
  clear hA
  refine om rfl rfl <| oy (rv_fld (m := 0) Tryz.underlying41 rfl rfl Tryz.sizeOf39 rfl rfl) rfl <| oy (rv_load1 rfl rfl Tryz.isAgg39 (hS.cell 1 rfl rfl)) rfl <| oy (rv_lenS (hS.rd 0 rfl) Tryz.underlying39 rfl rfl) rfl <| oy (rv_lss rfl rfl rfl) rfl <| ops_nil fun a hA => cw_cond hA rfl (fun hc2 => ?_) (fun hc2 => ?_)
  ·replace hG1 := iteT hc2 hG1
   refine cw_skip <| cw_seq <| cw_block <| cw_ops hA ?_
   clear hA
   refine om rfl rfl <| oy (rv_fld (m := 0) Tryz.underlying41 rfl rfl Tryz.sizeOf39 rfl rfl) rfl <| oy (rv_load1 rfl rfl Tryz.isAgg39 (hS.cell 1 rfl rfl)) rfl <| om rfl rfl ?_
   obtain ⟨x12, hx12, hG1⟩ := bindE hG1
   refine oy (rv_idx (m := 1) (hS.rd 0 rfl) rfl hx12 Tryz.underlying39 Tryz.sizeOf120 rfl rfl rfl) rfl <| oy (rv_fld (m := 0) Tryz.underlying120 rfl rfl Tryz.sizeOf22 rfl rfl) rfl ?_
   obtain ⟨s12, hel, hS⟩ := hS.el_SList 0 rfl (idx_some hx12).2.2
   refine oy (rv_load1 rfl rfl Tryz.isAgg22 (cell1 (CellsAt.sub (cs' := [s12]) hel 0 rfl rfl))) rfl ?_
   obtain ⟨hn2, hG1⟩ := needE hG1
   refine ops_mv (rv_append (α := Int) 0 hS rfl (hS.rd 2 rfl) rfl Tryz.underlying22 inf_Tryz3 rfl hn2 rfl rfl rfl) (want_yes rfl) rfl rfl ?_
   clear hS
   rintro s13 w hS
   refine oa rfl rfl <| ops_nil fun a hA => cw_ops hA ?_
   clear hA
   refine om rfl rfl <| oy (rv_add rfl rfl rfl) rfl <| oa rfl rfl <| ops_nil fun a hA => ?_
   cases hG1
   exact ⟨_, rfl, ⟨s13, hA.part ⟨rfl, rfl, rfl, trivial⟩, ((hS).sel [0, 1] rfl).selR [0, 1] rfl⟩⟩
  ·replace hG1 := iteF hc2 hG1
   refine cw_exit <| xcons_hit ?_
   cases hG1
   have ho := hr1 _ rfl; subst ho
   exact ⟨x3, s5, rfl, hA.part ⟨rfl, rfl, trivial⟩, ((hS).sel [0, 1] rfl).selR [0, 1] rfl⟩
 ·skip
  clear hA hS hl1
  rintro a w ⟨x5, s6, heq, hA, hS⟩
  replace hF : spec_l8All_j1 l x5 = some r := by rw [heq] at hF; exact hF
  clear heq
  unfold spec_l8All_j1 at hF
  refine cw_seq <| cw_seq <| cw_ops hA ?_
  clear hA
  refine oa rfl rfl <| ops_nil fun a hA => ?_
  obtain ⟨o2, hl2, hF⟩ := bindE hF
  refine cw_cut (J := fun a' w' => ∃ (x10 : List Int) (s9 : Value), o2 = x10 ∧ AEnv 38 [(3, s9)] a' ∧ St (cxAll w0) w' [cOwn [s9] (x10 : List Int)] []) ?_ ?_
  ·refine cw_block ?_
   refine cw_loop (body := spec_l8All_l2 l) (r := o2) (fun sg a' w' => ∃ (s8 : Value), AEnv 38 [(1, .pointer (some ⟨b1, 0, none⟩)), (3, s8), (5, .int .i64 (sg.2))] a' ∧ St (cxAll w0) w' [cOwn [s8] (sg.1 : List Int), cBox b1 [s1, s2]] [fRd [s1] (l.Global : List SList), fRd [s2] (l.Own : List SList)]) ?_ hl2 ⟨s6, hA.part ⟨rfl, rfl, rfl, trivial⟩, ((hS).sel [0, 1] rfl).selR [0, 1] rfl⟩
   clear hA hS hl2
   rintro ⟨x8, x9⟩ a w q2 ⟨s8, hA, hS⟩ hG2 hr2
   try dsimp only at hA hS
   unfold spec_l8All_l2 at hG2
   refine cw_seq <| cw_seq <| cw_ops hA ?_
   clear hA
   refine om rfl rfl <| oy (rv_fld (m := 0) Tryz.underlying41 rfl rfl Tryz.sizeOf39 rfl rfl) rfl <| oy (rv_load1 rfl rfl Tryz.isAgg39 (hS.cell 1 rfl rfl)) rfl <| oy (rv_lenS (hS.rd 1 rfl) Tryz.underlying39 rfl rfl) rfl <| oy (rv_lss rfl rfl rfl) rfl <| ops_nil fun a hA => cw_cond hA rfl (fun hc1 => ?_) (fun hc1 => ?_)
   ·replace hG2 := iteT hc1 hG2
    refine cw_skip <| cw_seq <| cw_block <| cw_ops hA ?_
    clear hA
    refine om rfl rfl <| oy (rv_fld (m := 0) Tryz.underlying41 rfl rfl Tryz.sizeOf39 rfl rfl) rfl <| oy (rv_load1 rfl rfl Tryz.isAgg39 (hS.cell 1 rfl rfl)) rfl <| om rfl rfl ?_
    obtain ⟨x11, hx11, hG2⟩ := bindE hG2
    refine oy (rv_idx (m := 1) (hS.rd 1 rfl) rfl hx11 Tryz.underlying39 Tryz.sizeOf120 rfl rfl rfl) rfl <| oy (rv_fld (m := 0) Tryz.underlying120 rfl rfl Tryz.sizeOf22 rfl rfl) rfl ?_
    obtain ⟨s10, hel, hS⟩ := hS.el_SList 1 rfl (idx_some hx11).2.2
    refine oy (rv_load1 rfl rfl Tryz.isAgg22 (cell1 (CellsAt.sub (cs' := [s10]) hel 0 rfl rfl))) rfl ?_
    obtain ⟨hn1, hG2⟩ := needE hG2
    refine ops_mv (rv_append (α := Int) 0 hS rfl (hS.rd 2 rfl) rfl Tryz.underlying22 inf_Tryz3 rfl hn1 rfl rfl rfl) (want_yes rfl) rfl rfl ?_
    clear hS
    rintro s11 w hS
    refine oa rfl rfl <| ops_nil fun a hA => cw_ops hA ?_
    clear hA
    refine om rfl rfl <| oy (rv_add rfl rfl rfl) rfl <| oa rfl rfl <| ops_nil fun a hA => ?_
    cases hG2
    exact ⟨_, rfl, ⟨s11, hA.part ⟨rfl, rfl, rfl, trivial⟩, ((hS).sel [0, 1] rfl).selR [0, 1] rfl⟩⟩
   ·replace hG2 := iteF hc1 hG2
    refine cw_exit <| xcons_hit ?_
    cases hG2
    have ho := hr2 _ rfl; subst ho
    exact ⟨x8, s8, rfl, hA.part ⟨rfl, trivial⟩, ((hS).sel [0] rfl).selR [] rfl⟩
  ·skip
   clear hA hS hl2
   rintro a w ⟨x10, s9, heq, hA, hS⟩
   replace hF : spec_l8All_j2 x10 = some r := by rw [heq] at hF; exact hF
   clear heq
   unfold spec_l8All_j2 at hF
   refine cw_seq <| cw_ops hA ?_
   clear hA
   refine om rfl rfl <| oa rfl rfl <| ops_nil fun a hA => cw_ret ?_
   cases hF
   exact fin1 Tryz.results130 hA (res_tmp rfl) ⟨s9, rfl, (hS.sel [0] rfl).weaken (R' := []) (fun _ h => nomatch h)⟩

theorem c_spec_l8Has {w0 : World} {l : List Int} {x : Int} {s1 : Value} {r : Bool} (h1 : Rep.rd (All w0) w0 [s1] (l : List Int)) (hF : spec_l8Has l x = some r) :
    Calls Tryz.prog 100 #[s1, .int .i64 (x)] w0 (Ret fun v w' => v = .bool (r) ∧ St (cxAll w0) w' [] []) := by
 have hS : St (cxAll w0) w0 [] [fRd [s1] (l : List Int)] := St.enter (by
   intro f hf
   simp only [List.mem_cons, List.not_mem_nil, or_false] at hf
   subst hf; exact h1)
 refine calls_cw (args := [_, _]) Tryz.func100 rfl Tryz.ntmps100 rfl ?_
 unfold spec_l8Has at hF
 intro a hA
 refine cw_seq <| cw_ops hA ?_
 clear hA
 refine oa rfl rfl <| ops_nil fun a hA => cw_seq <| cw_seq <| cw_ops hA ?_
 clear hA
 refine oa rfl rfl <| ops_nil fun a hA => ?_
 obtain ⟨o1, hl1, hF⟩ := bindE hF
 refine cw_cut (J := fun a' w' => o1 = Out.brk (()) ∧ AEnv 18 [] a' ∧ St (cxAll w0) w' [] []) ?_ ?_
 ·refine cw_block ?_
  refine cw_loop (body := spec_l8Has_l1 l x) (r := o1) (fun sg a' w' => AEnv 18 [(0, s1), (1, .int .i64 (x)), (5, .int .i64 (sg))] a' ∧ St (cxAll w0) w' [] [fRd [s1] (l : List Int)]) ?_ hl1 ⟨hA.part ⟨rfl, rfl, rfl, trivial⟩, ((hS).sel [] rfl).selR [0] rfl⟩
  clear hA hS hl1
  rintro x2 a w q1 ⟨hA, hS⟩ hG1 hr1
  try dsimp only at hA hS
  unfold spec_l8Has_l1 at hG1
  refine cw_seq <| cw_seq <| cw_ops hA ?_
  clear hA
  refine om rfl rfl <| om rfl rfl <| oy (rv_lenS (hS.rd 0 rfl) Tryz.underlying22 rfl rfl) rfl <| oy (rv_lss rfl rfl rfl) rfl <| ops_nil fun a hA => cw_cond hA rfl (fun hc1 => ?_) (fun hc1 => ?_)
  ·replace hG1 := iteT hc1 hG1
   refine cw_skip <| cw_seq <| cw_block <| cw_seq <| cw_ops hA ?_
   clear hA
   refine om rfl rfl <| om rfl rfl ?_
   obtain ⟨x3, hx3, hG1⟩ := bindE hG1
   refine oy (rv_idx (m := 1) (hS.rd 0 rfl) rfl hx3 Tryz.underlying22 Tryz.sizeOf3 rfl rfl rfl) rfl <| oy (rv_load1 rfl rfl Tryz.isAgg3 (cell1 (el_Int (hS.rd 0 rfl) (idx_some hx3).2.2))) rfl <| om rfl rfl <| oy (rv_eql rfl rfl rfl) rfl <| ops_nil fun a hA => cw_cond hA rfl (fun hc2 => ?_) (fun hc2 => ?_)
   ·replace hG1 := iteT hc2 hG1
    refine cw_seq <| cw_ops hA ?_
    clear hA
    refine oa rfl rfl <| ops_nil fun a hA => cw_ret ?_
    cases hG1
    have ho := hr1 _ rfl; subst ho
    replace hF : some true = some r := hF
    cases hF
    exact fy Tryz.results100 hA rfl hS
   ·replace hG1 := iteF hc2 hG1
    refine cw_skip <| cw_ops hA ?_
    clear hA
    refine om rfl rfl <| oy (rv_add rfl rfl rfl) rfl <| oa rfl rfl <| ops_nil fun a hA => ?_
    cases hG1
    exact ⟨_, rfl, ⟨hA.part ⟨rfl, rfl, rfl, trivial⟩, ((hS).sel [] rfl).selR [0] rfl⟩⟩
  ·replace hG1 := iteF hc1 hG1
   refine cw_exit <| xcons_hit ?_
   cases hG1
   have ho := hr1 _ rfl; subst ho
   exact ⟨rfl, hA.part trivial, ((hS).sel [] rfl).selR [] rfl⟩
 ·skip
  clear hA hS hl1
  rintro a w ⟨heq, hA, hS⟩
  replace hF : spec_l8Has_j1 = some r := by rw [heq] at hF; exact hF
  clear heq
  unfold spec_l8Has_j1 at hF
  refine cw_seq <| cw_ops hA ?_
  clear hA
  refine oa rfl rfl <| ops_nil fun a hA => cw_ret ?_
  cases hF
  exact fy Tryz.results100 hA rfl hS

theorem c_spec_ListsOk {w0 : World} {l : Lists} {s1 : Value} {s2 : Value} {r : Bool} (h1 : Rep.rd (All w0) w0 [s1] (l.Global : List SList)) (h2 : Rep.rd (All w0) w0 [s2] (l.Own : List SList)) (hF : spec_ListsOk l = some r) :
    Calls Tryz.prog 96 #[.agg #[s1, s2]] w0 (Ret fun v w' => v = .bool (r) ∧ St (cxAll w0) w' [] []) := by
 have hS : St (cxAll w0) w0 [] [fRd [s1] (l.Global : List SList), fRd [s2] (l.Own : List SList)] := St.enter (by
   intro f hf
   simp only [List.mem_cons, List.not_mem_nil, or_false] at hf
   rcases hf with rfl | rfl
   · exact h1
   · exact h2)
 refine calls_cw (args := [_]) Tryz.func96 rfl Tryz.ntmps96 rfl ?_
 unfold spec_ListsOk at hF
 intro a hA
 refine cw_seq <| cw_ops hA ?_
 clear hA
 refine ops_mv (rv_box (cs := [s1, s2]) hS rfl rfl rfl) (want_yes rfl) rfl rfl ?_
 clear hS
 rintro _ w ⟨b1, rfl, hS⟩
 refine oa rfl rfl <| ops_nil fun a hA => cw_seq <| cw_seq <| cw_cut (J := fun a' w' => ∃ (x1 : Bool), spec_ListsOk_j1 l x1 = some r ∧ AEnv 55 [(1, .pointer (some ⟨b1, 0, none⟩)), (15, .bool (x1))] a' ∧ St (cxAll w0) w' [cBox b1 [s1, s2]] [fRd [s1] (l.Global : List SList), fRd [s2] (l.Own : List SList)]) ?_ ?_
 ·skip
  refine cw_ops hA ?_
  clear hA
  refine oy (rv_fld (m := 0) Tryz.underlying41 rfl rfl Tryz.sizeOf39 rfl rfl) rfl <| oy (rv_load1 rfl rfl Tryz.isAgg39 (hS.cell 0 rfl rfl)) rfl <| oy (rv_lenS (hS.rd 0 rfl) Tryz.underlying39 rfl rfl) rfl <| oy (rv_neq rfl rfl rfl) rfl <| om rfl rfl <| ops_case (s := 10) rfl (fun hc7 => ?_) (fun hc7 => ?_)
  ·replace hF := iteT hc7 hF
   refine ops_off (want_if rfl rfl rfl (by rw [hc7]; rfl)) rfl rfl <| ops_off (want_if rfl rfl rfl (by rw [hc7]; rfl)) rfl rfl <| ops_off (want_if rfl rfl rfl (by rw [hc7]; rfl)) rfl rfl <| ops_off (want_if rfl rfl rfl (by rw [hc7]; rfl)) rfl rfl <| oy (rv_pick_t rfl rfl hc7 rfl) rfl <| ops_nil fun a hA => ?_
   exact ⟨true, hF, hA.part ⟨rfl, rfl, trivial⟩, ((hS).sel [0] rfl).selR [0, 1] rfl⟩
  ·replace hF := iteF hc7 hF
   refine ops_v (rv_fld (m := 0) Tryz.underlying41 rfl rfl Tryz.sizeOf39 rfl rfl) (want_if rfl rfl rfl (by rw [hc7]; rfl)) rfl rfl <| ops_v (rv_load1 rfl rfl Tryz.isAgg39 (hS.cell 0 rfl rfl)) (want_if rfl rfl rfl (by rw [hc7]; rfl)) rfl rfl <| ops_v (rv_lenS (hS.rd 1 rfl) Tryz.underlying39 rfl rfl) (want_if rfl rfl rfl (by rw [hc7]; rfl)) rfl rfl <| ops_v (rv_neq rfl rfl rfl) (want_if rfl rfl rfl (by rw [hc7]; rfl)) rfl rfl <| oy (rv_pick_f rfl rfl hc7 rfl) rfl <| ops_nil fun a hA => ?_
   exact ⟨((l.Own.length : Int)) != 9, hF, hA.part ⟨rfl, rfl, trivial⟩, ((hS).sel [0] rfl).selR [0, 1] rfl⟩
 ·skip
  clear hA hS hF
  rintro a w ⟨x1, hF, hA, hS⟩
  unfold spec_ListsOk_j1 at hF
  refine cw_cond hA rfl (fun hc1 => ?_) (fun hc1 => ?_)
  ·replace hF := iteT hc1 hF
   refine cw_seq <| cw_ops hA ?_
   clear hA
   refine oa rfl rfl <| ops_nil fun a hA => cw_ret ?_
   cases hF
   exact fy Tryz.results96 hA rfl hS
  ·replace hF := iteF hc1 hF
   refine cw_skip <| cw_seq <| cw_seq <| cw_ops hA ?_
   clear hA
   refine oa rfl rfl <| ops_nil fun a hA => ?_
   obtain ⟨o1, hl1, hF⟩ := bindE hF
   refine cw_cut (J := fun a' w' => o1 = Out.brk (()) ∧ AEnv 55 [(1, .pointer (some ⟨b1, 0, none⟩))] a' ∧ St (cxAll w0) w' [cBox b1 [s1, s2]] [fRd [s1] (l.Global : List SList), fRd [s2] (l.Own : List SList)]) ?_ ?_
   ·refine cw_block ?_
    refine cw_loop (body := spec_ListsOk_l2 l) (r := o1) (fun sg a' w' => AEnv 55 [(1, .pointer (some ⟨b1, 0, none⟩)), (3, .int .i64 (sg))] a' ∧ St (cxAll w0) w' [cBox b1 [s1, s2]] [fRd [s1] (l.Global : List SList), fRd [s2] (l.Own : List SList)]) ?_ hl1 ⟨hA.part ⟨rfl, rfl, trivial⟩, ((hS).sel [0] rfl).selR [0, 1] rfl⟩
    clear hA hS hl1
    rintro x3 a w q2 ⟨hA, hS⟩ hG2 hr2
    try dsimp only at hA hS
    unfold spec_ListsOk_l2 at hG2
    refine cw_seq <| cw_seq <| cw_ops hA ?_
    clear hA
    refine om rfl rfl <| oy (rv_fld (m := 0) Tryz.underlying41 rfl rfl Tryz.sizeOf39 rfl rfl) rfl <| oy (rv_load1 rfl rfl Tryz.isAgg39 (hS.cell 0 rfl rfl)) rfl <| oy (rv_lenS (hS.rd 1 rfl) Tryz.underlying39 rfl rfl) rfl <| oy (rv_lss rfl rfl rfl) rfl <| ops_nil fun a hA => cw_cond hA rfl (fun hc5 => ?_) (fun hc5 => ?_)
    ·replace hG2 := iteT hc5 hG2
     refine cw_skip <| cw_seq <| cw_block <| cw_seq <| cw_ops hA ?_
     clear hA
     refine oy (rv_fld (m := 0) Tryz.underlying41 rfl rfl Tryz.sizeOf39 rfl rfl) rfl <| oy (rv_load1 rfl rfl Tryz.isAgg39 (hS.cell 0 rfl rfl)) rfl <| om rfl rfl ?_
     obtain ⟨x12, hx12, hG2⟩ := bindE hG2
     refine oy (rv_idx (m := 1) (hS.rd 1 rfl) rfl hx12 Tryz.underlying39 Tryz.sizeOf120 rfl rfl rfl) rfl <| oy (rv_fld (m := 0) Tryz.underlying120 rfl rfl Tryz.sizeOf22 rfl rfl) rfl ?_
     obtain ⟨s4, hel, hS⟩ := hS.el_SList 1 rfl (idx_some hx12).2.2
     refine oy (rv_load1 rfl rfl Tryz.isAgg22 (cell1 (CellsAt.sub (cs' := [s4]) hel 0 rfl rfl))) rfl <| oy (rv_lenS (hS.rd 2 rfl) Tryz.underlying22 rfl rfl) rfl <| oy (rv_gtr rfl rfl rfl) rfl <| ops_nil fun a hA => cw_cond hA rfl (fun hc6 => ?_) (fun hc6 => ?_)
     ·replace hG2 := iteT hc6 hG2
      refine cw_seq <| cw_ops hA ?_
      clear hA
      refine oa rfl rfl <| ops_nil fun a hA => cw_ret ?_
      cases hG2
      have ho := hr2 _ rfl; subst ho
      replace hF : some false = some r := hF
      cases hF
      exact fy Tryz.results96 hA rfl hS
     ·replace hG2 := iteF hc6 hG2
      refine cw_skip <| cw_ops hA ?_
      clear hA
      refine om rfl rfl <| oy (rv_add rfl rfl rfl) rfl <| oa rfl rfl <| ops_nil fun a hA => ?_
      cases hG2
      exact ⟨_, rfl, ⟨hA.part ⟨rfl, rfl, trivial⟩, ((hS).sel [0] rfl).selR [0, 1] rfl⟩⟩
    ·replace hG2 := iteF hc5 hG2
     refine cw_exit <| xcons_hit ?_
     cases hG2
     have ho := hr2 _ rfl; subst ho
     exact ⟨rfl, hA.part ⟨rfl, trivial⟩, ((hS).sel [0] rfl).selR [0, 1] rfl⟩
   ·skip
    clear hA hS hl1
    rintro a w ⟨heq, hA, hS⟩
    replace hF : spec_ListsOk_j2 l = some r := by rw [heq] at hF; exact hF
    clear heq
    unfold spec_ListsOk_j2 at hF
    refine cw_seq <| cw_ops hA ?_
    clear hA
    refine oy (rv_loadN rfl rfl Tryz.isAgg41 Tryz.sizeOf41 rfl (hS.cells 0 0 (cs' := [s1, s2]) rfl rfl)) rfl ?_
    obtain ⟨x4, hx4, hF⟩ := bindE hF
    refine ops_c (rc_call Tryz.call130 rfl rfl) (want_yes rfl) rfl rfl (c_spec_l8All (l := l) (hS.rd 0 rfl) (hS.rd 1 rfl) hx4) ?_
    rintro s3 w ⟨_, rfl, hk⟩
    replace hS := hS.after hk; clear hk
    refine oa rfl rfl <| ops_nil fun a hA => cw_seq <| cw_seq <| cw_ops hA ?_
    clear hA
    refine oa rfl rfl <| ops_nil fun a hA => ?_
    obtain ⟨o2, hl2, hF⟩ := bindE hF
    refine cw_cut (J := fun a' w' => o2 = Out.brk (()) ∧ AEnv 55 [] a' ∧ St (cxAll w0) w' [] []) ?_ ?_
    ·refine cw_block ?_
     refine cw_loop (body := spec_ListsOk_l3 x4) (r := o2) (fun sg a' w' => AEnv 55 [(4, s3), (5, .int .i64 (sg))] a' ∧ St (cxAll w0) w' [cOwn [s3] (x4 : List Int)] []) ?_ hl2 ⟨hA.part ⟨rfl, rfl, trivial⟩, ((hS).sel [1] rfl).selR [] rfl⟩
     clear hA hS hl2
     rintro x6 a w q3 ⟨hA, hS⟩ hG3 hr3
     try dsimp only at hA hS
     unfold spec_ListsOk_l3 at hG3
     refine cw_seq <| cw_seq <| cw_ops hA ?_
     clear hA
     refine om rfl rfl <| om rfl rfl <| oy (rv_lenS (hS.rdOwn 0 rfl) Tryz.underlying22 rfl rfl) rfl <| oy (rv_lss rfl rfl rfl) rfl <| ops_nil fun a hA => cw_cond hA rfl (fun hc2 => ?_) (fun hc2 => ?_)
     ·replace hG3 := iteT hc2 hG3
      refine cw_skip <| cw_seq <| cw_block <| cw_seq <| cw_cut (J := fun a' w' => ∃ (x7 : Bool), spec_ListsOk_j4 x6 x7 = some q3 ∧ AEnv 55 [(4, s3), (5, .int .i64 (x6)), (54, .bool (x7))] a' ∧ St (cxAll w0) w' [cOwn [s3] (x4 : List Int)] []) ?_ ?_
      ·skip
       refine cw_any (Keeps (cxAll w0) [cOwn [s3] (x4 : List Int)] []) mixed_Tryz hA hS ?_
       clear hA hS; intro w hS
       have hK : Keeps (cxAll w0) [cOwn [s3] (x4 : List Int)] [] w := ⟨_, (hS.sel [0] rfl).selR [] rfl⟩
       refine ey 0 rfl (by kernel_rfl) hK (fun _ _ _ => (rv_move rfl rfl)) rfl ?_
       refine ey 1 rfl (by kernel_rfl) hK (fun _ _ _ => (rv_move rfl rfl)) rfl ?_
       obtain ⟨x8, hx8, hG3⟩ := bindE hG3
       refine ey 2 rfl (by kernel_rfl) hK (fun _ _ hS => (rv_idx (m := 1) (hS.rdOwn 0 rfl) rfl hx8 Tryz.underlying22 Tryz.sizeOf3 rfl rfl rfl)) rfl ?_
       refine ey 3 rfl (by kernel_rfl) hK (fun _ _ hS => (rv_load1 rfl rfl Tryz.isAgg3 (cell1 (el_Int (hS.rdOwn 0 rfl) (idx_some hx8).2.2)))) rfl ?_
       refine any_1 (i := 4) (by kernel_rfl) ?_
       obtain ⟨x9, hx9, hG3⟩ := bindE hG3
       refine as_c rfl (rc_call Tryz.call60 rfl rfl) (want_yes rfl) rfl rfl (c_spec_l1In (x := x8) (low := 0) (high := 23)  hx9) ?_
       clear hK; rintro _ w ⟨rfl, hk⟩
       replace hS := hS.after hk; clear hk
       have hK := keepsI ((hS.sel [0] rfl).selR [] rfl)
       refine ⟨hK, ?_⟩
       refine ey 5 rfl (by kernel_rfl) hK (fun _ _ _ => (rv_not rfl rfl)) rfl ?_
       refine ey 6 rfl (by kernel_rfl) hK (fun _ _ _ => (rv_move rfl rfl)) rfl ?_
       refine any_case (s := 45) rfl (fun hc4 => ?_) (fun hc4 => ?_)
       ·replace hG3 := iteT hc4 hG3
        refine any_off 7 (by kernel_rfl) rfl (by kernel_rfl) (by kernel_rfl) hK (want_if rfl rfl rfl (by rw [hc4]; rfl)) rfl rfl ?_
        refine any_off 8 (by kernel_rfl) rfl (by kernel_rfl) (by kernel_rfl) hK (want_if rfl rfl rfl (by rw [hc4]; rfl)) rfl rfl ?_
        refine any_off 9 (by kernel_rfl) rfl (by kernel_rfl) (by kernel_rfl) hK (want_if rfl rfl rfl (by rw [hc4]; rfl)) rfl rfl ?_
        refine any_off 10 (by kernel_rfl) rfl (by kernel_rfl) (by kernel_rfl) hK (want_if rfl rfl rfl (by rw [hc4]; rfl)) rfl rfl ?_
        refine any_off 11 (by kernel_rfl) rfl (by kernel_rfl) (by kernel_rfl) hK (want_if rfl rfl rfl (by rw [hc4]; rfl)) rfl rfl ?_
        refine any_off 12 (by kernel_rfl) rfl (by kernel_rfl) (by kernel_rfl) hK (want_if rfl rfl rfl (by rw [hc4]; rfl)) rfl rfl ?_
        refine any_off 13 (by kernel_rfl) rfl (by kernel_rfl) (by kernel_rfl) hK (want_if rfl rfl rfl (by rw [hc4]; rfl)) rfl rfl ?_
        refine any_off 14 (by kernel_rfl) rfl (by kernel_rfl) (by kernel_rfl) hK (want_if rfl rfl rfl (by rw [hc4]; rfl)) rfl rfl ?_
        refine ey 15 rfl (by kernel_rfl) hK (fun _ _ _ => (rv_pick_t rfl rfl hc4 rfl)) rfl ?_
        refine any_done (by kernel_rfl) ?_
        intro a hA
        exact ⟨true, hG3, hA.part ⟨rfl, rfl, rfl, trivial⟩, ((hS).sel [0] rfl).selR [] rfl⟩
       ·replace hG3 := iteF hc4 hG3
        refine any_v 7 (by kernel_rfl) rfl (by kernel_rfl) (by kernel_rfl) hK (fun _ _ => (rv_move rfl rfl)) (want_if rfl rfl rfl (by rw [hc4]; rfl)) rfl rfl ?_
        refine any_v 8 (by kernel_rfl) rfl (by kernel_rfl) (by kernel_rfl) hK (fun _ _ => (rv_move rfl rfl)) (want_if rfl rfl rfl (by rw [hc4]; rfl)) rfl rfl ?_
        obtain ⟨hn1, hG3⟩ := needE hG3
        refine any_v 9 (by kernel_rfl) rfl (by kernel_rfl) (by kernel_rfl) hK (fun w hk => by obtain ⟨_, hS⟩ := hk; exact (rv_sub_h (n := 1) (hS.rdOwn 0 rfl) rfl Tryz.underlying22 Tryz.sizeOf3 hn1 rfl rfl rfl)) (want_if rfl rfl rfl (by rw [hc4]; rfl)) rfl rfl ?_
        refine any_v 10 (by kernel_rfl) rfl (by kernel_rfl) (by kernel_rfl) hK (fun _ _ => (rv_move rfl rfl)) (want_if rfl rfl rfl (by rw [hc4]; rfl)) rfl rfl ?_
        refine any_v 11 (by kernel_rfl) rfl (by kernel_rfl) (by kernel_rfl) hK (fun _ _ => (rv_move rfl rfl)) (want_if rfl rfl rfl (by rw [hc4]; rfl)) rfl rfl ?_
        obtain ⟨x10, hx10, hG3⟩ := bindE hG3
        refine any_v 12 (by kernel_rfl) rfl (by kernel_rfl) (by kernel_rfl) hK (fun w hk => by obtain ⟨_, hS⟩ := hk; exact (rv_idx (m := 1) (hS.rdOwn 0 rfl) rfl hx10 Tryz.underlying22 Tryz.sizeOf3 rfl rfl rfl)) (want_if rfl rfl rfl (by rw [hc4]; rfl)) rfl rfl ?_
        refine any_v 13 (by kernel_rfl) rfl (by kernel_rfl) (by kernel_rfl) hK (fun w hk => by obtain ⟨_, hS⟩ := hk; exact (rv_load1 rfl rfl Tryz.isAgg3 (cell1 (el_Int (hS.rdOwn 0 rfl) (idx_some hx10).2.2)))) (want_if rfl rfl rfl (by rw [hc4]; rfl)) rfl rfl ?_
        refine any_1 (i := 14) (by kernel_rfl) ?_
        obtain ⟨x11, hx11, hG3⟩ := bindE hG3
        refine as_c rfl (rc_call Tryz.call100 rfl rfl) (want_if rfl rfl rfl (by rw [hc4]; rfl)) rfl rfl (c_spec_l8Has (l := (x4.take x6.toNat).drop 0) (x := x10) (rd_sub (n := 1) (a := 0) (b := x6.toNat) rfl (hS.rdOwn 0 rfl) (Nat.zero_le _) (by omega)) hx11) ?_
        clear hK; rintro _ w ⟨rfl, hk⟩
        replace hS := hS.after hk; clear hk
        have hK := keepsI ((hS.sel [0] rfl).selR [] rfl)
        refine ⟨hK, ?_⟩
        refine ey 15 rfl (by kernel_rfl) hK (fun _ _ _ => (rv_pick_f rfl rfl hc4 rfl)) rfl ?_
        refine any_done (by kernel_rfl) ?_
        intro a hA
        exact ⟨x11, hG3, hA.part ⟨rfl, rfl, rfl, trivial⟩, ((hS).sel [0] rfl).selR [] rfl⟩
      ·skip
       clear hA hS hG3
       rintro a w ⟨x7, hG3, hA, hS⟩
       unfold spec_ListsOk_j4 at hG3
       refine cw_cond hA rfl (fun hc3 => ?_) (fun hc3 => ?_)
       ·replace hG3 := iteT hc3 hG3
        refine cw_seq <| cw_ops hA ?_
        clear hA
        refine oa rfl rfl <| ops_nil fun a hA => cw_ret ?_
        cases hG3
        have ho := hr3 _ rfl; subst ho
        replace hF : some false = some r := hF
        cases hF
        exact fy Tryz.results96 hA rfl hS
       ·replace hG3 := iteF hc3 hG3
        refine cw_skip <| cw_ops hA ?_
        clear hA
        refine om rfl rfl <| oy (rv_add rfl rfl rfl) rfl <| oa rfl rfl <| ops_nil fun a hA => ?_
        cases hG3
        exact ⟨_, rfl, ⟨hA.part ⟨rfl, rfl, trivial⟩, ((hS).sel [0] rfl).selR [] rfl⟩⟩
     ·replace hG3 := iteF hc2 hG3
      refine cw_exit <| xcons_hit ?_
      cases hG3
      have ho := hr3 _ rfl; subst ho
      exact ⟨rfl, hA.part trivial, ((hS).sel [] rfl).selR [] rfl⟩
    ·skip
     clear hA hS hl2
     rintro a w ⟨heq, hA, hS⟩
     replace hF : spec_ListsOk_j3 = some r := by rw [heq] at hF; exact hF
     clear heq
     unfold spec_ListsOk_j3 at hF
     refine cw_seq <| cw_ops hA ?_
     clear hA
     refine oa rfl rfl <| ops_nil fun a hA => cw_ret ?_
     cases hF
     exact fy Tryz.results96 hA rfl hS

theorem c_spec_l7Class {w0 : World} {h : Heap} {slot : Int} {s1 : Value} {s2 : Value} {r : Int} (h1 : Rep.rd (All w0) w0 [s1] (h.Bytes : List Int)) (h2 : Rep.rd (All w0) w0 [s2] (h.Class : List Int)) (hF : spec_l7Class h slot = some r) :
    Calls Tryz.prog 131 #[.agg #[s1, s2], .int .i64 (slot)] w0 (Ret fun v w' => v = .int .i64 (r) ∧ St (cxAll w0) w' [] []) := by
 have hS : St (cxAll w0) w0 [] [fRd [s1] (h.Bytes : List Int), fRd [s2] (h.Class : List Int)] := St.enter (by
   intro f hf
   simp only [List.mem_cons, List.not_mem_nil, or_false] at hf
   rcases hf with rfl | rfl
   · exact h1
   · exact h2)
 refine calls_cw (args := [_, _]) Tryz.func131 rfl Tryz.ntmps131 rfl ?_
 unfold spec_l7Class at hF
 intro a hA
 refine cw_seq <| cw_ops hA ?_
 clear hA
 refine ops_mv (rv_box (cs := [s1, s2]) hS rfl rfl rfl) (want_yes rfl) rfl rfl ?_
 clear hS
 rintro _ w ⟨b1, rfl, hS⟩
 refine oa rfl rfl <| ops_nil fun a hA => cw_seq <| cw_ops hA ?_
 clear hA
 refine om rfl rfl ?_
 obtain ⟨x1, hx1, hF⟩ := bindE hF
 refine ops_c (rc_call Tryz.call153 rfl rfl) (want_yes rfl) rfl rfl (c_spec_PageOf (slot := slot)  hx1) ?_
 rintro _ w ⟨rfl, hk⟩
 replace hS := hS.after hk; clear hk
 refine oa rfl rfl <| ops_nil fun a hA => cw_seq <| cw_seq <| cw_cut (J := fun a' w' => ∃ (x2 : Bool), spec_l7Class_j1 h x1 x2 = some r ∧ AEnv 34 [(2, .pointer (some ⟨b1, 0, none⟩)), (5, .int .i64 (x1)), (28, .bool (x2))] a' ∧ St (cxAll w0) w' [cBox b1 [s1, s2]] [fRd [s1] (h.Bytes : List Int), fRd [s2] (h.Class : List Int)]) ?_ ?_
 ·skip
  refine cw_any (Keeps (cxAll w0) [cBox b1 [s1, s2]] [fRd [s1] (h.Bytes : List Int), fRd [s2] (h.Class : List Int)]) mixed_Tryz hA hS ?_
  clear hA hS; intro w hS
  have hK : Keeps (cxAll w0) [cBox b1 [s1, s2]] [fRd [s1] (h.Bytes : List Int), fRd [s2] (h.Class : List Int)] w := ⟨_, (hS.sel [0] rfl).selR [0, 1] rfl⟩
  refine ey 0 rfl (by kernel_rfl) hK (fun _ _ _ => (rv_move rfl rfl)) rfl ?_
  refine ey 1 rfl (by kernel_rfl) hK (fun _ _ _ => (rv_lss rfl rfl rfl)) rfl ?_
  refine ey 2 rfl (by kernel_rfl) hK (fun _ _ _ => (rv_move rfl rfl)) rfl ?_
  refine any_case (s := 10) rfl (fun hc2 => ?_) (fun hc2 => ?_)
  ·replace hF := iteT hc2 hF
   refine any_off 3 (by kernel_rfl) rfl (by kernel_rfl) (by kernel_rfl) hK (want_if rfl rfl rfl (by rw [hc2]; rfl)) rfl rfl ?_
   refine any_off 4 (by kernel_rfl) rfl (by kernel_rfl) (by kernel_rfl) hK (want_if rfl rfl rfl (by rw [hc2]; rfl)) rfl rfl ?_
   refine any_off 5 (by kernel_rfl) rfl (by kernel_rfl) (by kernel_rfl) hK (want_if rfl rfl rfl (by rw [hc2]; rfl)) rfl rfl ?_
   refine any_off 6 (by kernel_rfl) rfl (by kernel_rfl) (by kernel_rfl) hK (want_if rfl rfl rfl (by rw [hc2]; rfl)) rfl rfl ?_
   refine any_off 7 (by kernel_rfl) rfl (by kernel_rfl) (by kernel_rfl) hK (want_if rfl rfl rfl (by rw [hc2]; rfl)) rfl rfl ?_
   refine any_off 8 (by kernel_rfl) rfl (by kernel_rfl) (by kernel_rfl) hK (want_if rfl rfl rfl (by rw [hc2]; rfl)) rfl rfl ?_
   refine ey 9 rfl (by kernel_rfl) hK (fun _ _ _ => (rv_pick_t rfl rfl hc2 rfl)) rfl ?_
   refine ey 10 rfl (by kernel_rfl) hK (fun _ _ _ => (rv_move rfl rfl)) rfl ?_
   refine any_off 11 (by kernel_rfl) rfl (by kernel_rfl) (by kernel_rfl) hK (want_if rfl rfl rfl rfl) rfl rfl ?_
   refine any_off 12 (by kernel_rfl) rfl (by kernel_rfl) (by kernel_rfl) hK (want_if rfl rfl rfl rfl) rfl rfl ?_
   refine any_off 13 (by kernel_rfl) rfl (by kernel_rfl) (by kernel_rfl) hK (want_if rfl rfl rfl rfl) rfl rfl ?_
   refine any_off 14 (by kernel_rfl) rfl (by kernel_rfl) (by kernel_rfl) hK (want_if rfl rfl rfl rfl) rfl rfl ?_
   refine any_off 15 (by kernel_rfl) rfl (by kernel_rfl) (by kernel_rfl) hK (want_if rfl rfl rfl rfl) rfl rfl ?_
   refine any_off 16 (by kernel_rfl) rfl (by kernel_rfl) (by kernel_rfl) hK (want_if rfl rfl rfl rfl) rfl rfl ?_
   refine any_off 17 (by kernel_rfl) rfl (by kernel_rfl) (by kernel_rfl) hK (want_if rfl rfl rfl rfl) rfl rfl ?_
   refine any_off 18 (by kernel_rfl) rfl (by kernel_rfl) (by kernel_rfl) hK (want_if rfl rfl rfl rfl) rfl rfl ?_
   refine any_off 19 (by kernel_rfl) rfl (by kernel_rfl) (by kernel_rfl) hK (want_if rfl rfl rfl rfl) rfl rfl ?_
   refine ey 20 rfl (by kernel_rfl) hK (fun _ _ _ => (rv_pick_t rfl rfl rfl rfl)) rfl ?_
   refine any_done (by kernel_rfl) ?_
   intro a hA
   exact ⟨true, hF, hA.part ⟨rfl, rfl, rfl, trivial⟩, ((hS).sel [0] rfl).selR [0, 1] rfl⟩
  ·replace hF := iteF hc2 hF
   refine any_v 3 (by kernel_rfl) rfl (by kernel_rfl) (by kernel_rfl) hK (fun _ _ => (rv_fld (m := 0) Tryz.underlying38 rfl rfl Tryz.sizeOf22 rfl rfl)) (want_if rfl rfl rfl (by rw [hc2]; rfl)) rfl rfl ?_
   refine any_v 4 (by kernel_rfl) rfl (by kernel_rfl) (by kernel_rfl) hK (fun w hk => by obtain ⟨_, hS⟩ := hk; exact (rv_load1 rfl rfl Tryz.isAgg22 (hS.cell 0 rfl rfl))) (want_if rfl rfl rfl (by rw [hc2]; rfl)) rfl rfl ?_
   refine any_v 5 (by kernel_rfl) rfl (by kernel_rfl) (by kernel_rfl) hK (fun _ _ => (rv_move rfl rfl)) (want_if rfl rfl rfl (by rw [hc2]; rfl)) rfl rfl ?_
   obtain ⟨x4, hx4, hF⟩ := bindE hF
   refine any_v 6 (by kernel_rfl) rfl (by kernel_rfl) (by kernel_rfl) hK (fun w hk => by obtain ⟨_, hS⟩ := hk; exact (rv_idx (m := 1) (hS.rd 1 rfl) rfl hx4 Tryz.underlying22 Tryz.sizeOf3 rfl rfl rfl)) (want_if rfl rfl rfl (by rw [hc2]; rfl)) rfl rfl ?_
   refine any_v 7 (by kernel_rfl) rfl (by kernel_rfl) (by kernel_rfl) hK (fun w hk => by obtain ⟨_, hS⟩ := hk; exact (rv_load1 rfl rfl Tryz.isAgg3 (cell1 (el_Int (hS.rd 1 rfl) (idx_some hx4).2.2)))) (want_if rfl rfl rfl (by rw [hc2]; rfl)) rfl rfl ?_
   refine any_v 8 (by kernel_rfl) rfl (by kernel_rfl) (by kernel_rfl) hK (fun _ _ => (rv_lss rfl rfl rfl)) (want_if rfl rfl rfl (by rw [hc2]; rfl)) rfl rfl ?_
   refine ey 9 rfl (by kernel_rfl) hK (fun _ _ _ => (rv_pick_f rfl rfl hc2 rfl)) rfl ?_
   refine ey 10 rfl (by kernel_rfl) hK (fun _ _ _ => (rv_move rfl rfl)) rfl ?_
   refine any_case (s := 18) rfl (fun hc3 => ?_) (fun hc3 => ?_)
   ·replace hF := iteT hc3 hF
    refine any_off 11 (by kernel_rfl) rfl (by kernel_rfl) (by kernel_rfl) hK (want_if rfl rfl rfl (by rw [hc3]; rfl)) rfl rfl ?_
    refine any_off 12 (by kernel_rfl) rfl (by kernel_rfl) (by kernel_rfl) hK (want_if rfl rfl rfl (by rw [hc3]; rfl)) rfl rfl ?_
    refine any_off 13 (by kernel_rfl) rfl (by kernel_rfl) (by kernel_rfl) hK (want_if rfl rfl rfl (by rw [hc3]; rfl)) rfl rfl ?_
    refine any_off 14 (by kernel_rfl) rfl (by kernel_rfl) (by kernel_rfl) hK (want_if rfl rfl rfl (by rw [hc3]; rfl)) rfl rfl ?_
    refine any_off 15 (by kernel_rfl) rfl (by kernel_rfl) (by kernel_rfl) hK (want_if rfl rfl rfl (by rw [hc3]; rfl)) rfl rfl ?_
    refine any_off 16 (by kernel_rfl) rfl (by kernel_rfl) (by kernel_rfl) hK (want_if rfl rfl rfl (by rw [hc3]; rfl)) rfl rfl ?_
    refine any_off 17 (by kernel_rfl) rfl (by kernel_rfl) (by kernel_rfl) hK (want_if rfl rfl rfl (by rw [hc3]; rfl)) rfl rfl ?_
    refine any_off 18 (by kernel_rfl) rfl (by kernel_rfl) (by kernel_rfl) hK (want_if rfl rfl rfl (by rw [hc3]; rfl)) rfl rfl ?_
    refine any_off 19 (by kernel_rfl) rfl (by kernel_rfl) (by kernel_rfl) hK (want_if rfl rfl rfl (by rw [hc3]; rfl)) rfl rfl ?_
    refine ey 20 rfl (by kernel_rfl) hK (fun _ _ _ => (rv_pick_t rfl rfl hc3 rfl)) rfl ?_
    refine any_done (by kernel_rfl) ?_
    intro a hA
    exact ⟨true, hF, hA.part ⟨rfl, rfl, rfl, trivial⟩, ((hS).sel [0] rfl).selR [0, 1] rfl⟩
   ·replace hF := iteF hc3 hF
    refine any_v 11 (by kernel_rfl) rfl (by kernel_rfl) (by kernel_rfl) hK (fun _ _ => (rv_move rfl rfl)) (want_if rfl rfl rfl (by rw [hc3]; rfl)) rfl rfl ?_
    refine any_v 13 (by kernel_rfl) rfl (by kernel_rfl) (by kernel_rfl) hK (fun _ _ => (rv_fld (m := 0) Tryz.underlying38 rfl rfl Tryz.sizeOf22 rfl rfl)) (want_if rfl rfl rfl (by rw [hc3]; rfl)) rfl rfl ?_
    refine any_v 14 (by kernel_rfl) rfl (by kernel_rfl) (by kernel_rfl) hK (fun w hk => by obtain ⟨_, hS⟩ := hk; exact (rv_load1 rfl rfl Tryz.isAgg22 (hS.cell 0 rfl rfl))) (want_if rfl rfl rfl (by rw [hc3]; rfl)) rfl rfl ?_
    refine any_v 15 (by kernel_rfl) rfl (by kernel_rfl) (by kernel_rfl) hK (fun _ _ => (rv_move rfl rfl)) (want_if rfl rfl rfl (by rw [hc3]; rfl)) rfl rfl ?_
    obtain ⟨x5, hx5, hF⟩ := bindE hF
    refine any_v 16 (by kernel_rfl) rfl (by kernel_rfl) (by kernel_rfl) hK (fun w hk => by obtain ⟨_, hS⟩ := hk; exact (rv_idx (m := 1) (hS.rd 1 rfl) rfl hx5 Tryz.underlying22 Tryz.sizeOf3 rfl rfl rfl)) (want_if rfl rfl rfl (by rw [hc3]; rfl)) rfl rfl ?_
    refine any_v 17 (by kernel_rfl) rfl (by kernel_rfl) (by kernel_rfl) hK (fun w hk => by obtain ⟨_, hS⟩ := hk; exact (rv_load1 rfl rfl Tryz.isAgg3 (cell1 (el_Int (hS.rd 1 rfl) (idx_some hx5).2.2)))) (want_if rfl rfl rfl (by rw [hc3]; rfl)) rfl rfl ?_
    refine any_1 (i := 12) (by kernel_rfl) ?_
    obtain ⟨x6, hx6, hF⟩ := bindE hF
    refine as_c rfl (rc_call Tryz.call154 rfl rfl) (want_if rfl rfl rfl (by rw [hc3]; rfl)) rfl rfl (c_spec_IndexOf (slot := slot)  hx6) ?_
    clear hK; rintro _ w ⟨rfl, hk⟩
    replace hS := hS.after hk; clear hk
    have hK := keepsI ((hS.sel [0] rfl).selR [0, 1] rfl)
    refine ⟨hK, ?_⟩
    refine any_1 (i := 18) (by kernel_rfl) ?_
    obtain ⟨x7, hx7, hF⟩ := bindE hF
    refine as_c rfl (rc_call Tryz.call151 rfl rfl) (want_if rfl rfl rfl (by rw [hc3]; rfl)) rfl rfl (c_spec_PerPage (c := x5)  hx7) ?_
    clear hK; rintro _ w ⟨rfl, hk⟩
    replace hS := hS.after hk; clear hk
    have hK := keepsI ((hS.sel [0] rfl).selR [0, 1] rfl)
    refine ⟨hK, ?_⟩
    refine any_v 19 (by kernel_rfl) rfl (by kernel_rfl) (by kernel_rfl) hK (fun _ _ => (rv_geq rfl rfl rfl)) (want_if rfl rfl rfl (by rw [hc3]; rfl)) rfl rfl ?_
    refine ey 20 rfl (by kernel_rfl) hK (fun _ _ _ => (rv_pick_f rfl rfl hc3 rfl)) rfl ?_
    refine any_done (by kernel_rfl) ?_
    intro a hA
    exact ⟨decide (x7 ≤ x6), hF, hA.part ⟨rfl, rfl, rfl, trivial⟩, ((hS).sel [0] rfl).selR [0, 1] rfl⟩
 ·skip
  clear hA hS hF
  rintro a w ⟨x2, hF, hA, hS⟩
  unfold spec_l7Class_j1 at hF
  refine cw_cond hA rfl (fun hc1 => ?_) (fun hc1 => ?_)
  ·replace hF := iteT hc1 hF
   refine cw_seq <| cw_ops hA ?_
   clear hA
   refine oa rfl rfl <| ops_nil fun a hA => cw_ret ?_
   cases hF
   exact fy Tryz.results131 hA rfl hS
  ·replace hF := iteF hc1 hF
   refine cw_skip <| cw_seq <| cw_ops hA ?_
   clear hA
   refine oy (rv_fld (m := 0) Tryz.underlying38 rfl rfl Tryz.sizeOf22 rfl rfl) rfl <| oy (rv_load1 rfl rfl Tryz.isAgg22 (hS.cell 0 rfl rfl)) rfl <| om rfl rfl ?_
   obtain ⟨x3, hx3, hF⟩ := bindE hF
   refine oy (rv_idx (m := 1) (hS.rd 1 rfl) rfl hx3 Tryz.underlying22 Tryz.sizeOf3 rfl rfl rfl) rfl <| oy (rv_load1 rfl rfl Tryz.isAgg3 (cell1 (el_Int (hS.rd 1 rfl) (idx_some hx3).2.2))) rfl <| oa rfl rfl <| ops_nil fun a hA => cw_ret ?_
   cases hF
   exact fy Tryz.results131 hA rfl hS

theorem c_spec_l7Gen {w0 : World} {h : Heap} {slot : Int} {s1 : Value} {s2 : Value} {r : Int} (h1 : Rep.rd (All w0) w0 [s1] (h.Bytes : List Int)) (h2 : Rep.rd (All w0) w0 [s2] (h.Class : List Int)) (hF : spec_l7Gen h slot = some r) :
    Calls Tryz.prog 103 #[.agg #[s1, s2], .int .i64 (slot)] w0 (Ret fun v w' => v = .int .i64 (r) ∧ St (cxAll w0) w' [] []) := by
 have hS : St (cxAll w0) w0 [] [fRd [s1] (h.Bytes : List Int), fRd [s2] (h.Class : List Int)] := St.enter (by
   intro f hf
   simp only [List.mem_cons, List.not_mem_nil, or_false] at hf
   rcases hf with rfl | rfl
   · exact h1
   · exact h2)
 refine calls_cw (args := [_, _]) Tryz.func103 rfl Tryz.ntmps103 rfl ?_
 unfold spec_l7Gen at hF
 intro a hA
 refine cw_seq <| cw_ops hA ?_
 clear hA
 refine ops_mv (rv_box (cs := [s1, s2]) hS rfl rfl rfl) (want_yes rfl) rfl rfl ?_
 clear hS
 rintro _ w ⟨b1, rfl, hS⟩
 refine oa rfl rfl <| ops_nil fun a hA => cw_seq <| cw_any (Keeps (cxAll w0) [cBox b1 [s1, s2]] [fRd [s1] (h.Bytes : List Int), fRd [s2] (h.Class : List Int)]) mixed_Tryz hA hS ?_
 clear hA hS; intro w hS
 have hK : Keeps (cxAll w0) [cBox b1 [s1, s2]] [fRd [s1] (h.Bytes : List Int), fRd [s2] (h.Class : List Int)] w := ⟨_, (hS.sel [0] rfl).selR [0, 1] rfl⟩
 refine ey 0 rfl (by kernel_rfl) hK (fun _ _ _ => (rv_fld (m := 0) Tryz.underlying38 rfl rfl Tryz.sizeOf22 rfl rfl)) rfl ?_
 refine ey 1 rfl (by kernel_rfl) hK (fun _ _ hS => (rv_load1 rfl rfl Tryz.isAgg22 (hS.cell 0 rfl rfl))) rfl ?_
 refine ey 2 rfl (by kernel_rfl) hK (fun _ _ _ => (rv_move rfl rfl)) rfl ?_
 refine ey 3 rfl (by kernel_rfl) hK (fun _ _ hS => (rv_loadN rfl rfl Tryz.isAgg38 Tryz.sizeOf38 rfl (hS.cells 0 0 (cs' := [s1, s2]) rfl rfl))) rfl ?_
 refine ey 4 rfl (by kernel_rfl) hK (fun _ _ _ => (rv_move rfl rfl)) rfl ?_
 refine any_1 (i := 5) (by kernel_rfl) ?_
 obtain ⟨x1, hx1, hF⟩ := bindE hF
 refine as_c rfl (rc_call Tryz.call131 rfl rfl) (want_yes rfl) rfl rfl (c_spec_l7Class (h := h) (slot := slot) (hS.rd 0 rfl) (hS.rd 1 rfl) hx1) ?_
 clear hK; rintro _ w ⟨rfl, hk⟩
 replace hS := hS.after hk; clear hk
 have hK := keepsI ((hS.sel [0] rfl).selR [0, 1] rfl)
 refine ⟨hK, ?_⟩
 refine any_1 (i := 6) (by kernel_rfl) ?_
 obtain ⟨x2, hx2, hF⟩ := bindE hF
 refine as_c rfl (rc_call Tryz.call134 rfl rfl) (want_yes rfl) rfl rfl (c_spec_GenAt (slot := slot) (c := x1)  hx2) ?_
 clear hK; rintro _ w ⟨rfl, hk⟩
 replace hS := hS.after hk; clear hk
 have hK := keepsI ((hS.sel [0] rfl).selR [0, 1] rfl)
 refine ⟨hK, ?_⟩
 refine any_1 (i := 7) (by kernel_rfl) ?_
 obtain ⟨x3, hx3, hF⟩ := bindE hF
 refine as_c rfl (rc_call Tryz.call133 rfl rfl) (want_yes rfl) rfl rfl (c_spec_l3Load (b := h.Bytes) (at_ := x2) (width := 4) (hS.rd 0 rfl) hx3) ?_
 clear hK; rintro _ w ⟨rfl, hk⟩
 replace hS := hS.after hk; clear hk
 have hK := keepsI ((hS.sel [0] rfl).selR [0, 1] rfl)
 refine ⟨hK, ?_⟩
 refine ey 8 rfl (by kernel_rfl) hK (fun _ _ _ => (rv_assign rfl rfl)) rfl ?_
 refine any_done (by kernel_rfl) ?_
 intro a hA
 refine cw_ret ?_
 cases hF
 exact fy Tryz.results103 hA rfl hS

theorem c_spec_l9Listed {w0 : World} {h : Heap} {l : List Int} {c : Int} {s1 : Value} {s2 : Value} {s3 : Value} {r : Bool} (h1 : Rep.rd (All w0) w0 [s1] (h.Bytes : List Int)) (h2 : Rep.rd (All w0) w0 [s2] (h.Class : List Int)) (h3 : Rep.rd (All w0) w0 [s3] (l : List Int)) (hF : spec_l9Listed h l c = some r) :
    Calls Tryz.prog 97 #[.agg #[s1, s2], s3, .int .i64 (c)] w0 (Ret fun v w' => v = .bool (r) ∧ St (cxAll w0) w' [] []) := by
 have hS : St (cxAll w0) w0 [] [fRd [s1] (h.Bytes : List Int), fRd [s2] (h.Class : List Int), fRd [s3] (l : List Int)] := St.enter (by
   intro f hf
   simp only [List.mem_cons, List.not_mem_nil, or_false] at hf
   rcases hf with rfl | rfl | rfl
   · exact h1
   · exact h2
   · exact h3)
 refine calls_cw (args := [_, _, _]) Tryz.func97 rfl Tryz.ntmps97 rfl ?_
 unfold spec_l9Listed at hF
 intro a hA
 refine cw_seq <| cw_ops hA ?_
 clear hA
 refine ops_mv (rv_box (cs := [s1, s2]) hS rfl rfl rfl) (want_yes rfl) rfl rfl ?_
 clear hS
 rintro _ w ⟨b1, rfl, hS⟩
 refine oa rfl rfl <| ops_nil fun a hA => cw_seq <| cw_seq <| cw_ops hA ?_
 clear hA
 refine oa rfl rfl <| ops_nil fun a hA => ?_
 obtain ⟨o1, hl1, hF⟩ := bindE hF
 refine cw_cut (J := fun a' w' => o1 = Out.brk (()) ∧ AEnv 31 [] a' ∧ St (cxAll w0) w' [] []) ?_ ?_
 ·refine cw_block ?_
  refine cw_loop (body := spec_l9Listed_l1 h l c) (r := o1) (fun sg a' w' => AEnv 31 [(1, s3), (2, .int .i64 (c)), (3, .pointer (some ⟨b1, 0, none⟩)), (7, .int .i64 (sg))] a' ∧ St (cxAll w0) w' [cBox b1 [s1, s2]] [fRd [s3] (l : List Int), fRd [s1] (h.Bytes : List Int), fRd [s2] (h.Class : List Int)]) ?_ hl1 ⟨hA.part ⟨rfl, rfl, rfl, rfl, trivial⟩, ((hS).sel [0] rfl).selR [2, 0, 1] rfl⟩
  clear hA hS hl1
  rintro x2 a w q1 ⟨hA, hS⟩ hG1 hr1
  try dsimp only at hA hS
  unfold spec_l9Listed_l1 at hG1
  refine cw_seq <| cw_seq <| cw_ops hA ?_
  clear hA
  refine om rfl rfl <| om rfl rfl <| oy (rv_lenS (hS.rd 0 rfl) Tryz.underlying22 rfl rfl) rfl <| oy (rv_lss rfl rfl rfl) rfl <| ops_nil fun a hA => cw_cond hA rfl (fun hc1 => ?_) (fun hc1 => ?_)
  ·replace hG1 := iteT hc1 hG1
   refine cw_skip <| cw_seq <| cw_block <| cw_seq <| cw_cut (J := fun a' w' => ∃ (x3 : Bool), spec_l9Listed_j2 x2 x3 = some q1 ∧ AEnv 31 [(1, s3), (2, .int .i64 (c)), (3, .pointer (some ⟨b1, 0, none⟩)), (7, .int .i64 (x2)), (30, .bool (x3))] a' ∧ St (cxAll w0) w' [cBox b1 [s1, s2]] [fRd [s3] (l : List Int), fRd [s1] (h.Bytes : List Int), fRd [s2] (h.Class : List Int)]) ?_ ?_
   ·skip
    refine cw_any (Keeps (cxAll w0) [cBox b1 [s1, s2]] [fRd [s3] (l : List Int), fRd [s1] (h.Bytes : List Int), fRd [s2] (h.Class : List Int)]) mixed_Tryz hA hS ?_
    clear hA hS; intro w hS
    have hK : Keeps (cxAll w0) [cBox b1 [s1, s2]] [fRd [s3] (l : List Int), fRd [s1] (h.Bytes : List Int), fRd [s2] (h.Class : List Int)] w := ⟨_, (hS.sel [0] rfl).selR [0, 1, 2] rfl⟩
    refine ey 0 rfl (by kernel_rfl) hK (fun _ _ hS => (rv_loadN rfl rfl Tryz.isAgg38 Tryz.sizeOf38 rfl (hS.cells 0 0 (cs' := [s1, s2]) rfl rfl))) rfl ?_
    refine ey 1 rfl (by kernel_rfl) hK (fun _ _ _ => (rv_move rfl rfl)) rfl ?_
    refine ey 2 rfl (by kernel_rfl) hK (fun _ _ _ => (rv_move rfl rfl)) rfl ?_
    obtain ⟨x4, hx4, hG1⟩ := bindE hG1
    refine ey 3 rfl (by kernel_rfl) hK (fun _ _ hS => (rv_idx (m := 1) (hS.rd 0 rfl) rfl hx4 Tryz.underlying22 Tryz.sizeOf3 rfl rfl rfl)) rfl ?_
    refine ey 4 rfl (by kernel_rfl) hK (fun _ _ hS => (rv_load1 rfl rfl Tryz.isAgg3 (cell1 (el_Int (hS.rd 0 rfl) (idx_some hx4).2.2)))) rfl ?_
    refine ey 6 rfl (by kernel_rfl) hK (fun _ _ _ => (rv_move rfl rfl)) rfl ?_
    refine any_1 (i := 5) (by kernel_rfl) ?_
    obtain ⟨x5, hx5, hG1⟩ := bindE hG1
    refine as_c rfl (rc_call Tryz.call131 rfl rfl) (want_yes rfl) rfl rfl (c_spec_l7Class (h := h) (slot := x4) (hS.rd 1 rfl) (hS.rd 2 rfl) hx5) ?_
    clear hK; rintro _ w ⟨rfl, hk⟩
    replace hS := hS.after hk; clear hk
    have hK := keepsI ((hS.sel [0] rfl).selR [0, 1, 2] rfl)
    refine ⟨hK, ?_⟩
    refine ey 7 rfl (by kernel_rfl) hK (fun _ _ _ => (rv_neq rfl rfl rfl)) rfl ?_
    refine ey 8 rfl (by kernel_rfl) hK (fun _ _ _ => (rv_move rfl rfl)) rfl ?_
    refine any_case (s := 22) rfl (fun hc3 => ?_) (fun hc3 => ?_)
    ·replace hG1 := iteT hc3 hG1
     refine any_off 9 (by kernel_rfl) rfl (by kernel_rfl) (by kernel_rfl) hK (want_if rfl rfl rfl (by rw [hc3]; rfl)) rfl rfl ?_
     refine any_off 10 (by kernel_rfl) rfl (by kernel_rfl) (by kernel_rfl) hK (want_if rfl rfl rfl (by rw [hc3]; rfl)) rfl rfl ?_
     refine any_off 11 (by kernel_rfl) rfl (by kernel_rfl) (by kernel_rfl) hK (want_if rfl rfl rfl (by rw [hc3]; rfl)) rfl rfl ?_
     refine any_off 12 (by kernel_rfl) rfl (by kernel_rfl) (by kernel_rfl) hK (want_if rfl rfl rfl (by rw [hc3]; rfl)) rfl rfl ?_
     refine any_off 13 (by kernel_rfl) rfl (by kernel_rfl) (by kernel_rfl) hK (want_if rfl rfl rfl (by rw [hc3]; rfl)) rfl rfl ?_
     refine any_off 14 (by kernel_rfl) rfl (by kernel_rfl) (by kernel_rfl) hK (want_if rfl rfl rfl (by rw [hc3]; rfl)) rfl rfl ?_
     refine any_off 15 (by kernel_rfl) rfl (by kernel_rfl) (by kernel_rfl) hK (want_if rfl rfl rfl (by rw [hc3]; rfl)) rfl rfl ?_
     refine ey 16 rfl (by kernel_rfl) hK (fun _ _ _ => (rv_pick_t rfl rfl hc3 rfl)) rfl ?_
     refine any_done (by kernel_rfl) ?_
     intro a hA
     exact ⟨true, hG1, hA.part ⟨rfl, rfl, rfl, rfl, rfl, trivial⟩, ((hS).sel [0] rfl).selR [0, 1, 2] rfl⟩
    ·replace hG1 := iteF hc3 hG1
     refine any_v 9 (by kernel_rfl) rfl (by kernel_rfl) (by kernel_rfl) hK (fun w hk => by obtain ⟨_, hS⟩ := hk; exact (rv_loadN rfl rfl Tryz.isAgg38 Tryz.sizeOf38 rfl (hS.cells 0 0 (cs' := [s1, s2]) rfl rfl))) (want_if rfl rfl rfl (by rw [hc3]; rfl)) rfl rfl ?_
     refine any_v 10 (by kernel_rfl) rfl (by kernel_rfl) (by kernel_rfl) hK (fun _ _ => (rv_move rfl rfl)) (want_if rfl rfl rfl (by rw [hc3]; rfl)) rfl rfl ?_
     refine any_v 11 (by kernel_rfl) rfl (by kernel_rfl) (by kernel_rfl) hK (fun _ _ => (rv_move rfl rfl)) (want_if rfl rfl rfl (by rw [hc3]; rfl)) rfl rfl ?_
     obtain ⟨x6, hx6, hG1⟩ := bindE hG1
     refine any_v 12 (by kernel_rfl) rfl (by kernel_rfl) (by kernel_rfl) hK (fun w hk => by obtain ⟨_, hS⟩ := hk; exact (rv_idx (m := 1) (hS.rd 0 rfl) rfl hx6 Tryz.underlying22 Tryz.sizeOf3 rfl rfl rfl)) (want_if rfl rfl rfl (by rw [hc3]; rfl)) rfl rfl ?_
     refine any_v 13 (by kernel_rfl) rfl (by kernel_rfl) (by kernel_rfl) hK (fun w hk => by obtain ⟨_, hS⟩ := hk; exact (rv_load1 rfl rfl Tryz.isAgg3 (cell1 (el_Int (hS.rd 0 rfl) (idx_some hx6).2.2)))) (want_if rfl rfl rfl (by rw [hc3]; rfl)) rfl rfl ?_
     refine any_1 (i := 14) (by kernel_rfl) ?_
     obtain ⟨x7, hx7, hG1⟩ := bindE hG1
     refine as_c rfl (rc_call Tryz.call103 rfl rfl) (want_if rfl rfl rfl (by rw [hc3]; rfl)) rfl rfl (c_spec_l7Gen (h := h) (slot := x6) (hS.rd 1 rfl) (hS.rd 2 rfl) hx7) ?_
     clear hK; rintro _ w ⟨rfl, hk⟩
     replace hS := hS.after hk; clear hk
     have hK := keepsI ((hS.sel [0] rfl).selR [0, 1, 2] rfl)
     refine ⟨hK, ?_⟩
     refine any_v 15 (by kernel_rfl) rfl (by kernel_rfl) (by kernel_rfl) hK (fun _ _ => (rv_gtr rfl rfl rfl)) (want_if rfl rfl rfl (by rw [hc3]; rfl)) rfl rfl ?_
     refine ey 16 rfl (by kernel_rfl) hK (fun _ _ _ => (rv_pick_f rfl rfl hc3 rfl)) rfl ?_
     refine any_done (by kernel_rfl) ?_
     intro a hA
     exact ⟨decide (6 < x7), hG1, hA.part ⟨rfl, rfl, rfl, rfl, rfl, trivial⟩, ((hS).sel [0] rfl).selR [0, 1, 2] rfl⟩
   ·skip
    clear hA hS hG1
    rintro a w ⟨x3, hG1, hA, hS⟩
    unfold spec_l9Listed_j2 at hG1
    refine cw_cond hA rfl (fun hc2 => ?_) (fun hc2 => ?_)
    ·replace hG1 := iteT hc2 hG1
     refine cw_seq <| cw_ops hA ?_
     clear hA
     refine oa rfl rfl <| ops_nil fun a hA => cw_ret ?_
     cases hG1
     have ho := hr1 _ rfl; subst ho
     replace hF : some false = some r := hF
     cases hF
     exact fy Tryz.results97 hA rfl hS
    ·replace hG1 := iteF hc2 hG1
     refine cw_skip <| cw_ops hA ?_
     clear hA
     refine om rfl rfl <| oy (rv_add rfl rfl rfl) rfl <| oa rfl rfl <| ops_nil fun a hA => ?_
     cases hG1
     exact ⟨_, rfl, ⟨hA.part ⟨rfl, rfl, rfl, rfl, trivial⟩, ((hS).sel [0] rfl).selR [0, 1, 2] rfl⟩⟩
  ·replace hG1 := iteF hc1 hG1
   refine cw_exit <| xcons_hit ?_
   cases hG1
   have ho := hr1 _ rfl; subst ho
   exact ⟨rfl, hA.part trivial, ((hS).sel [] rfl).selR [] rfl⟩
 ·skip
  clear hA hS hl1
  rintro a w ⟨heq, hA, hS⟩
  replace hF : spec_l9Listed_j1 = some r := by rw [heq] at hF; exact hF
  clear heq
  unfold spec_l9Listed_j1 at hF
  refine cw_seq <| cw_ops hA ?_
  clear hA
  refine oa rfl rfl <| ops_nil fun a hA => cw_ret ?_
  cases hF
  exact fy Tryz.results97 hA rfl hS

theorem c_spec_OwnAt {w0 : World} {w_ : Int} {c : Int}  {r : Int}  (hF : spec_OwnAt w_ c = some r) :
    Calls Tryz.prog 98 #[.int .i64 (w_), .int .i64 (c)] w0 (Ret fun v w' => v = .int .i64 (r) ∧ St (cxAll w0) w' [] []) := by
 have hS : St (cxAll w0) w0 [] [] := St.enter (by
   intro f hf; cases hf)
 refine calls_cw (args := [_, _]) Tryz.func98 rfl Tryz.ntmps98 rfl ?_
 unfold spec_OwnAt at hF
 intro a hA
 refine cw_seq <| cw_ops hA ?_
 clear hA
 refine oa rfl rfl <| ops_nil fun a hA => cw_seq <| cw_seq <| cw_cut (J := fun a' w' => ∃ (x1 : Bool), spec_OwnAt_j1 w_ c x1 = some r ∧ AEnv 17 [(0, .int .i64 (w_)), (1, .int .i64 (c)), (12, .bool (x1))] a' ∧ St (cxAll w0) w' [] []) ?_ ?_
 ·skip
  refine cw_ops hA ?_
  clear hA
  refine om rfl rfl ?_
  obtain ⟨x2, hx2, hF⟩ := bindE hF
  refine ops_c (rc_call Tryz.call60 rfl rfl) (want_yes rfl) rfl rfl (c_spec_l1In (x := w_) (low := 0) (high := 2)  hx2) ?_
  rintro _ w ⟨rfl, hk⟩
  replace hS := hS.after hk; clear hk
  refine oy (rv_not rfl rfl) rfl <| om rfl rfl <| ops_case (s := 8) rfl (fun hc2 => ?_) (fun hc2 => ?_)
  ·replace hF := iteT hc2 hF
   refine ops_off (want_if rfl rfl rfl (by rw [hc2]; rfl)) rfl rfl <| ops_off (want_if rfl rfl rfl (by rw [hc2]; rfl)) rfl rfl <| ops_off (want_if rfl rfl rfl (by rw [hc2]; rfl)) rfl rfl <| oy (rv_pick_t rfl rfl hc2 rfl) rfl <| ops_nil fun a hA => ?_
   exact ⟨true, hF, hA.part ⟨rfl, rfl, rfl, trivial⟩, ((hS).sel [] rfl).selR [] rfl⟩
  ·replace hF := iteF hc2 hF
   refine ops_v (rv_move rfl rfl) (want_if rfl rfl rfl (by rw [hc2]; rfl)) rfl rfl ?_
   obtain ⟨x3, hx3, hF⟩ := bindE hF
   refine ops_c (rc_call Tryz.call60 rfl rfl) (want_if rfl rfl rfl (by rw [hc2]; rfl)) rfl rfl (c_spec_l1In (x := c) (low := 0) (high := 2)  hx3) ?_
   rintro _ w ⟨rfl, hk⟩
   replace hS := hS.after hk; clear hk
   refine ops_v (rv_not rfl rfl) (want_if rfl rfl rfl (by rw [hc2]; rfl)) rfl rfl <| oy (rv_pick_f rfl rfl hc2 rfl) rfl <| ops_nil fun a hA => ?_
   exact ⟨!x3, hF, hA.part ⟨rfl, rfl, rfl, trivial⟩, ((hS).sel [] rfl).selR [] rfl⟩
 ·skip
  clear hA hS hF
  rintro a w ⟨x1, hF, hA, hS⟩
  unfold spec_OwnAt_j1 at hF
  refine cw_cond hA rfl (fun hc1 => ?_) (fun hc1 => ?_)
  ·replace hF := iteT hc1 hF
   refine cw_seq <| cw_ops hA ?_
   clear hA
   refine oa rfl rfl <| ops_nil fun a hA => cw_ret ?_
   cases hF
   exact fy Tryz.results98 hA rfl hS
  ·replace hF := iteF hc1 hF
   refine cw_skip <| cw_seq <| cw_ops hA ?_
   clear hA
   refine om rfl rfl <| oy (rv_mul rfl rfl rfl) rfl <| om rfl rfl <| oy (rv_add rfl rfl rfl) rfl <| oa rfl rfl <| ops_nil fun a hA => cw_ret ?_
   cases hF
   exact fy Tryz.results98 hA rfl hS

theorem c_spec_MemOk {w0 : World} {m : Mem} {s1 : Value} {s2 : Value} {s3 : Value} {s4 : Value} {r : Bool} (h1 : Rep.rd (All w0) w0 [s1] (m.Heap.Bytes : List Int)) (h2 : Rep.rd (All w0) w0 [s2] (m.Heap.Class : List Int)) (h3 : Rep.rd (All w0) w0 [s3] (m.Lists.Global : List SList)) (h4 : Rep.rd (All w0) w0 [s4] (m.Lists.Own : List SList)) (hF : spec_MemOk m = some r) :
    Calls Tryz.prog 53 #[.agg #[s1, s2, s3, s4]] w0 (Ret fun v w' => v = .bool (r) ∧ St (cxAll w0) w' [] []) := by
 have hS : St (cxAll w0) w0 [] [fRd [s1] (m.Heap.Bytes : List Int), fRd [s2] (m.Heap.Class : List Int), fRd [s3] (m.Lists.Global : List SList), fRd [s4] (m.Lists.Own : List SList)] := St.enter (by
   intro f hf
   simp only [List.mem_cons, List.not_mem_nil, or_false] at hf
   rcases hf with rfl | rfl | rfl | rfl
   · exact h1
   · exact h2
   · exact h3
   · exact h4)
 refine calls_cw (args := [_]) Tryz.func53 rfl Tryz.ntmps53 rfl ?_
 unfold spec_MemOk at hF
 intro a hA
 refine cw_seq <| cw_ops hA ?_
 clear hA
 refine ops_mv (rv_box (cs := [s1, s2, s3, s4]) hS rfl rfl rfl) (want_yes rfl) rfl rfl ?_
 clear hS
 rintro _ w ⟨b1, rfl, hS⟩
 refine oa rfl rfl <| ops_nil fun a hA => cw_seq <| cw_seq <| cw_cut (J := fun a' w' => ∃ (x1 : Bool), spec_MemOk_j1 m x1 = some r ∧ AEnv 49 [(1, .pointer (some ⟨b1, 0, none⟩)), (14, .bool (x1))] a' ∧ St (cxAll w0) w' [cBox b1 [s1, s2, s3, s4]] [fRd [s1] (m.Heap.Bytes : List Int), fRd [s2] (m.Heap.Class : List Int), fRd [s3] (m.Lists.Global : List SList), fRd [s4] (m.Lists.Own : List SList)]) ?_ ?_
 ·skip
  refine cw_ops hA ?_
  clear hA
  refine oy (rv_fld (m := 1) Tryz.underlying43 rfl rfl Tryz.sizeOf38 rfl rfl) rfl <| oy (rv_loadN rfl rfl Tryz.isAgg38 Tryz.sizeOf38 rfl (hS.cells 0 0 (cs' := [s1, s2]) rfl rfl)) rfl ?_
  obtain ⟨x11, hx11, hF⟩ := bindE hF
  refine ops_c (rc_call Tryz.call95 rfl rfl) (want_yes rfl) rfl rfl (c_spec_HeapOk (h := m.Heap) (hS.rd 0 rfl) (hS.rd 1 rfl) hx11) ?_
  rintro _ w ⟨rfl, hk⟩
  replace hS := hS.after hk; clear hk
  refine oy (rv_not rfl rfl) rfl <| om rfl rfl <| ops_case (s := 9) rfl (fun hc6 => ?_) (fun hc6 => ?_)
  ·replace hF := iteT hc6 hF
   refine ops_off (want_if rfl rfl rfl (by rw [hc6]; rfl)) rfl rfl <| ops_off (want_if rfl rfl rfl (by rw [hc6]; rfl)) rfl rfl <| ops_off (want_if rfl rfl rfl (by rw [hc6]; rfl)) rfl rfl <| ops_off (want_if rfl rfl rfl (by rw [hc6]; rfl)) rfl rfl <| oy (rv_pick_t rfl rfl hc6 rfl) rfl <| ops_nil fun a hA => ?_
   exact ⟨true, hF, hA.part ⟨rfl, rfl, trivial⟩, ((hS).sel [0] rfl).selR [0, 1, 2, 3] rfl⟩
  ·replace hF := iteF hc6 hF
   refine ops_v (rv_fld (m := 1) Tryz.underlying43 rfl rfl Tryz.sizeOf41 rfl rfl) (want_if rfl rfl rfl (by rw [hc6]; rfl)) rfl rfl <| ops_v (rv_loadN rfl rfl Tryz.isAgg41 Tryz.sizeOf41 rfl (hS.cells 0 2 (cs' := [s3, s4]) rfl rfl)) (want_if rfl rfl rfl (by rw [hc6]; rfl)) rfl rfl ?_
   obtain ⟨x12, hx12, hF⟩ := bindE hF
   refine ops_c (rc_call Tryz.call96 rfl rfl) (want_if rfl rfl rfl (by rw [hc6]; rfl)) rfl rfl (c_spec_ListsOk (l := m.Lists) (hS.rd 2 rfl) (hS.rd 3 rfl) hx12) ?_
   rintro _ w ⟨rfl, hk⟩
   replace hS := hS.after hk; clear hk
   refine ops_v (rv_not rfl rfl) (want_if rfl rfl rfl (by rw [hc6]; rfl)) rfl rfl <| oy (rv_pick_f rfl rfl hc6 rfl) rfl <| ops_nil fun a hA => ?_
   exact ⟨!x12, hF, hA.part ⟨rfl, rfl, trivial⟩, ((hS).sel [0] rfl).selR [0, 1, 2, 3] rfl⟩
 ·skip
  clear hA hS hF
  rintro a w ⟨x1, hF, hA, hS⟩
  unfold spec_MemOk_j1 at hF
  refine cw_cond hA rfl (fun hc1 => ?_) (fun hc1 => ?_)
  ·replace hF := iteT hc1 hF
   refine cw_seq <| cw_ops hA ?_
   clear hA
   refine oa rfl rfl <| ops_nil fun a hA => cw_ret ?_
   cases hF
   exact fy Tryz.results53 hA rfl hS
  ·replace hF := iteF hc1 hF
   refine cw_skip <| cw_seq <| cw_seq <| cw_ops hA ?_
   clear hA
   refine oa rfl rfl <| ops_nil fun a hA => ?_
   obtain ⟨o1, hl1, hF⟩ := bindE hF
   refine cw_cut (J := fun a' w' => o1 = Out.brk (()) ∧ AEnv 49 [] a' ∧ St (cxAll w0) w' [] []) ?_ ?_
   ·refine cw_block ?_
    refine cw_loop (body := spec_MemOk_l2 m) (r := o1) (fun sg a' w' => AEnv 49 [(1, .pointer (some ⟨b1, 0, none⟩)), (3, .int .i64 (sg))] a' ∧ St (cxAll w0) w' [cBox b1 [s1, s2, s3, s4]] [fRd [s1] (m.Heap.Bytes : List Int), fRd [s2] (m.Heap.Class : List Int), fRd [s3] (m.Lists.Global : List SList), fRd [s4] (m.Lists.Own : List SList)]) ?_ hl1 ⟨hA.part ⟨rfl, rfl, trivial⟩, ((hS).sel [0] rfl).selR [0, 1, 2, 3] rfl⟩
    clear hA hS hl1
    rintro x3 a w q2 ⟨hA, hS⟩ hG2 hr2
    try dsimp only at hA hS
    unfold spec_MemOk_l2 at hG2
    refine cw_seq <| cw_seq <| cw_ops hA ?_
    clear hA
    refine om rfl rfl <| oy (rv_lss rfl rfl rfl) rfl <| ops_nil fun a hA => cw_cond hA rfl (fun hc2 => ?_) (fun hc2 => ?_)
    ·replace hG2 := iteT hc2 hG2
     refine cw_skip <| cw_seq <| cw_block <| cw_seq <| cw_seq ?_
     obtain ⟨x4, hx4, hG2⟩ := bindE hG2
     obtain ⟨s5, hS⟩ := hS.elF_SList 2 rfl (idx_some hx4).2.2
     refine cw_any (Keeps (cxAll w0) [cBox b1 [s1, s2, s3, s4]] [fRd [s1] (m.Heap.Bytes : List Int), fRd [s2] (m.Heap.Class : List Int), fRd [s3] (m.Lists.Global : List SList), fRd [s4] (m.Lists.Own : List SList), fAt (elB s3) (elO 1 (x3.toNat) s3) [s5], fRd [s5] (x4.Slots : List Int)]) mixed_Tryz hA hS ?_
     clear hA hS; intro w hS
     have hK : Keeps (cxAll w0) [cBox b1 [s1, s2, s3, s4]] [fRd [s1] (m.Heap.Bytes : List Int), fRd [s2] (m.Heap.Class : List Int), fRd [s3] (m.Lists.Global : List SList), fRd [s4] (m.Lists.Own : List SList), fAt (elB s3) (elO 1 (x3.toNat) s3) [s5], fRd [s5] (x4.Slots : List Int)] w := ⟨_, (hS.sel [0] rfl).selR [0, 1, 2, 3, 4, 5] rfl⟩
     refine ey 0 rfl (by kernel_rfl) hK (fun _ _ _ => (rv_fld (m := 1) Tryz.underlying43 rfl rfl Tryz.sizeOf38 rfl rfl)) rfl ?_
     refine ey 1 rfl (by kernel_rfl) hK (fun _ _ hS => (rv_loadN rfl rfl Tryz.isAgg38 Tryz.sizeOf38 rfl (hS.cells 0 0 (cs' := [s1, s2]) rfl rfl))) rfl ?_
     refine ey 2 rfl (by kernel_rfl) hK (fun _ _ _ => (rv_fld (m := 1) Tryz.underlying43 rfl rfl Tryz.sizeOf41 rfl rfl)) rfl ?_
     refine ey 3 rfl (by kernel_rfl) hK (fun _ _ _ => (rv_fld (m := 0) Tryz.underlying41 rfl rfl Tryz.sizeOf39 rfl rfl)) rfl ?_
     refine ey 4 rfl (by kernel_rfl) hK (fun _ _ hS => (rv_load1 rfl rfl Tryz.isAgg39 (hS.cell 0 rfl rfl))) rfl ?_
     refine ey 5 rfl (by kernel_rfl) hK (fun _ _ _ => (rv_move rfl rfl)) rfl ?_
     refine ey 6 rfl (by kernel_rfl) hK (fun _ _ hS => (rv_idx (m := 1) (hS.rd 2 rfl) rfl hx4 Tryz.underlying39 Tryz.sizeOf120 rfl rfl rfl)) rfl ?_
     refine ey 7 rfl (by kernel_rfl) hK (fun _ _ _ => (rv_fld (m := 0) Tryz.underlying120 rfl rfl Tryz.sizeOf22 rfl rfl)) rfl ?_
     refine ey 8 rfl (by kernel_rfl) hK (fun _ _ hS => (rv_load1 rfl rfl Tryz.isAgg22 (cell1 (CellsAt.sub (cs' := [s5]) (hS.fat 4 rfl) 0 rfl rfl)))) rfl ?_
     refine ey 9 rfl (by kernel_rfl) hK (fun _ _ _ => (rv_move rfl rfl)) rfl ?_
     refine any_1 (i := 10) (by kernel_rfl) ?_
     obtain ⟨x5, hx5, hG2⟩ := bindE hG2
     refine as_c rfl (rc_call Tryz.call97 rfl rfl) (want_yes rfl) rfl rfl (c_spec_l9Listed (h := m.Heap) (l := x4.Slots) (c := x3) (hS.rd 0 rfl) (hS.rd 1 rfl) (hS.rd 5 rfl) hx5) ?_
     clear hK; rintro _ w ⟨rfl, hk⟩
     replace hS := hS.after hk; clear hk
     have hK := keepsI ((hS.sel [0] rfl).selR [0, 1, 2, 3, 4, 5] rfl)
     refine ⟨hK, ?_⟩
     refine ey 11 rfl (by kernel_rfl) hK (fun _ _ _ => (rv_not rfl rfl)) rfl ?_
     refine any_done (by kernel_rfl) ?_
     intro a hA
     refine cw_cond hA rfl (fun hc3 => ?_) (fun hc3 => ?_)
     ·replace hG2 := iteT hc3 hG2
      refine cw_seq <| cw_ops hA ?_
      clear hA
      refine oa rfl rfl <| ops_nil fun a hA => cw_ret ?_
      cases hG2
      have ho := hr2 _ rfl; subst ho
      replace hF : some false = some r := hF
      cases hF
      exact fy Tryz.results53 hA rfl hS
     ·replace hG2 := iteF hc3 hG2
      refine cw_skip <| cw_seq <| cw_ops hA ?_
      clear hA
      refine oa rfl rfl <| ops_nil fun a hA => ?_
      obtain ⟨o2, hl2, hG2⟩ := bindE hG2
      refine cw_cut (J := fun a' w' => o2 = Out.brk (()) ∧ AEnv 49 [(1, .pointer (some ⟨b1, 0, none⟩)), (3, .int .i64 (x3))] a' ∧ St (cxAll w0) w' [cBox b1 [s1, s2, s3, s4]] [fRd [s1] (m.Heap.Bytes : List Int), fRd [s2] (m.Heap.Class : List Int), fRd [s3] (m.Lists.Global : List SList), fRd [s4] (m.Lists.Own : List SList)]) ?_ ?_
      ·refine cw_block ?_
       refine cw_loop (body := spec_MemOk_l3 m x3) (r := o2) (fun sg a' w' => AEnv 49 [(1, .pointer (some ⟨b1, 0, none⟩)), (3, .int .i64 (x3)), (4, .int .i64 (sg))] a' ∧ St (cxAll w0) w' [cBox b1 [s1, s2, s3, s4]] [fRd [s1] (m.Heap.Bytes : List Int), fRd [s2] (m.Heap.Class : List Int), fRd [s3] (m.Lists.Global : List SList), fRd [s4] (m.Lists.Own : List SList)]) ?_ hl2 ⟨hA.part ⟨rfl, rfl, rfl, trivial⟩, ((hS).sel [0] rfl).selR [0, 1, 2, 3] rfl⟩
       clear hA hS hl2
       rintro x7 a w q3 ⟨hA, hS⟩ hG3 hr3
       try dsimp only at hA hS
       unfold spec_MemOk_l3 at hG3
       refine cw_seq <| cw_seq <| cw_ops hA ?_
       clear hA
       refine om rfl rfl <| oy (rv_lss rfl rfl rfl) rfl <| ops_nil fun a hA => cw_cond hA rfl (fun hc4 => ?_) (fun hc4 => ?_)
       ·replace hG3 := iteT hc4 hG3
        refine cw_skip <| cw_seq <| cw_block <| cw_seq <| cw_any (Keeps (cxAll w0) [cBox b1 [s1, s2, s3, s4]] [fRd [s1] (m.Heap.Bytes : List Int), fRd [s2] (m.Heap.Class : List Int), fRd [s3] (m.Lists.Global : List SList), fRd [s4] (m.Lists.Own : List SList)]) mixed_Tryz hA hS ?_
        clear hA hS; intro w hS
        have hK : Keeps (cxAll w0) [cBox b1 [s1, s2, s3, s4]] [fRd [s1] (m.Heap.Bytes : List Int), fRd [s2] (m.Heap.Class : List Int), fRd [s3] (m.Lists.Global : List SList), fRd [s4] (m.Lists.Own : List SList)] w := ⟨_, (hS.sel [0] rfl).selR [0, 1, 2, 3] rfl⟩
        refine ey 0 rfl (by kernel_rfl) hK (fun _ _ _ => (rv_fld (m := 1) Tryz.underlying43 rfl rfl Tryz.sizeOf38 rfl rfl)) rfl ?_
        refine ey 1 rfl (by kernel_rfl) hK (fun _ _ hS => (rv_loadN rfl rfl Tryz.isAgg38 Tryz.sizeOf38 rfl (hS.cells 0 0 (cs' := [s1, s2]) rfl rfl))) rfl ?_
        refine ey 2 rfl (by kernel_rfl) hK (fun _ _ _ => (rv_fld (m := 1) Tryz.underlying43 rfl rfl Tryz.sizeOf41 rfl rfl)) rfl ?_
        refine ey 3 rfl (by kernel_rfl) hK (fun _ _ _ => (rv_fld (m := 0) Tryz.underlying41 rfl rfl Tryz.sizeOf39 rfl rfl)) rfl ?_
        refine ey 4 rfl (by kernel_rfl) hK (fun _ _ hS => (rv_load1 rfl rfl Tryz.isAgg39 (hS.cell 0 rfl rfl))) rfl ?_
        refine ey 5 rfl (by kernel_rfl) hK (fun _ _ _ => (rv_move rfl rfl)) rfl ?_
        refine ey 6 rfl (by kernel_rfl) hK (fun _ _ _ => (rv_move rfl rfl)) rfl ?_
        refine ey 11 rfl (by kernel_rfl) hK (fun _ _ _ => (rv_move rfl rfl)) rfl ?_
        refine any_1 (i := 7) (by kernel_rfl) ?_
        obtain ⟨x8, hx8, hG3⟩ := bindE hG3
        refine as_c rfl (rc_call Tryz.call98 rfl rfl) (want_yes rfl) rfl rfl (c_spec_OwnAt (w_ := x7) (c := x3)  hx8) ?_
        clear hK; rintro _ w ⟨rfl, hk⟩
        replace hS := hS.after hk; clear hk
        have hK := keepsI ((hS.sel [0] rfl).selR [0, 1, 2, 3] rfl)
        refine ⟨hK, ?_⟩
        obtain ⟨x9, hx9, hG3⟩ := bindE hG3
        refine ey 8 rfl (by kernel_rfl) hK (fun _ _ hS => (rv_idx (m := 1) (hS.rd 3 rfl) rfl hx9 Tryz.underlying39 Tryz.sizeOf120 rfl rfl rfl)) rfl ?_
        refine ey 9 rfl (by kernel_rfl) hK (fun _ _ _ => (rv_fld (m := 0) Tryz.underlying120 rfl rfl Tryz.sizeOf22 rfl rfl)) rfl ?_
        refine any_1 (i := 10) (by kernel_rfl) ?_
        obtain ⟨s6, hel, hS⟩ := hS.el_SList 3 rfl (idx_some hx9).2.2
        refine as_v rfl (rv_load1 rfl rfl Tryz.isAgg22 (cell1 (CellsAt.sub (cs' := [s6]) hel 0 rfl rfl))) (want_yes rfl) rfl rfl hK ?_
        refine any_1 (i := 12) (by kernel_rfl) ?_
        obtain ⟨x10, hx10, hG3⟩ := bindE hG3
        refine as_c rfl (rc_call Tryz.call97 rfl rfl) (want_yes rfl) rfl rfl (c_spec_l9Listed (h := m.Heap) (l := x9.Slots) (c := x3) (hS.rd 0 rfl) (hS.rd 1 rfl) (hS.rd 4 rfl) hx10) ?_
        clear hK; rintro _ w ⟨rfl, hk⟩
        replace hS := hS.after hk; clear hk
        have hK := keepsI ((hS.sel [0] rfl).selR [0, 1, 2, 3] rfl)
        refine ⟨hK, ?_⟩
        refine ey 13 rfl (by kernel_rfl) hK (fun _ _ _ => (rv_not rfl rfl)) rfl ?_
        refine any_done (by kernel_rfl) ?_
        intro a hA
        refine cw_cond hA rfl (fun hc5 => ?_) (fun hc5 => ?_)
        ·replace hG3 := iteT hc5 hG3
         refine cw_seq <| cw_ops hA ?_
         clear hA
         refine oa rfl rfl <| ops_nil fun a hA => cw_ret ?_
         cases hG3
         have ho := hr3 _ rfl; subst ho
         replace hG2 : some (.stop (Out.ret false)) = some q2 := hG2
         cases hG2
         have ho := hr2 _ rfl; subst ho
         replace hF : some false = some r := hF
         cases hF
         exact fy Tryz.results53 hA rfl hS
        ·replace hG3 := iteF hc5 hG3
         refine cw_skip <| cw_ops hA ?_
         clear hA
         refine om rfl rfl <| oy (rv_add rfl rfl rfl) rfl <| oa rfl rfl <| ops_nil fun a hA => ?_
         cases hG3
         exact ⟨_, rfl, ⟨hA.part ⟨rfl, rfl, rfl, trivial⟩, ((hS).sel [0] rfl).selR [0, 1, 2, 3] rfl⟩⟩
       ·replace hG3 := iteF hc4 hG3
        refine cw_exit <| xcons_hit ?_
        cases hG3
        have ho := hr3 _ rfl; subst ho
        exact ⟨rfl, hA.part ⟨rfl, rfl, trivial⟩, ((hS).sel [0] rfl).selR [0, 1, 2, 3] rfl⟩
      ·skip
       clear hA hS hl2
       rintro a w ⟨heq, hA, hS⟩
       replace hG2 : spec_MemOk_j3 x3 = some q2 := by rw [heq] at hG2; exact hG2
       clear heq
       unfold spec_MemOk_j3 at hG2
       refine cw_ops hA ?_
       clear hA
       refine om rfl rfl <| oy (rv_add rfl rfl rfl) rfl <| oa rfl rfl <| ops_nil fun a hA => ?_
       cases hG2
       exact ⟨_, rfl, ⟨hA.part ⟨rfl, rfl, trivial⟩, ((hS).sel [0] rfl).selR [0, 1, 2, 3] rfl⟩⟩
    ·replace hG2 := iteF hc2 hG2
     refine cw_exit <| xcons_hit ?_
     cases hG2
     have ho := hr2 _ rfl; subst ho
     exact ⟨rfl, hA.part trivial, ((hS).sel [] rfl).selR [] rfl⟩
   ·skip
    clear hA hS hl1
    rintro a w ⟨heq, hA, hS⟩
    replace hF : spec_MemOk_j2 = some r := by rw [heq] at hF; exact hF
    clear heq
    unfold spec_MemOk_j2 at hF
    refine cw_seq <| cw_ops hA ?_
    clear hA
    refine oa rfl rfl <| ops_nil fun a hA => cw_ret ?_
    cases hF
    exact fy Tryz.results53 hA rfl hS

theorem c_spec_ClockOk {w0 : World} {c : Clock} {s1 : Value} {r : Bool} (h1 : Rep.rd (All w0) w0 [s1] (c.Pins : List Pin)) (hF : spec_ClockOk c = some r) :
    Calls Tryz.prog 54 #[.agg #[.int .i64 (c.Epoch), s1]] w0 (Ret fun v w' => v = .bool (r) ∧ St (cxAll w0) w' [] []) := by
 have hS : St (cxAll w0) w0 [] [fRd [s1] (c.Pins : List Pin)] := St.enter (by
   intro f hf
   simp only [List.mem_cons, List.not_mem_nil, or_false] at hf
   subst hf; exact h1)
 refine calls_cw (args := [_]) Tryz.func54 rfl Tryz.ntmps54 rfl ?_
 unfold spec_ClockOk at hF
 intro a hA
 refine cw_seq <| cw_ops hA ?_
 clear hA
 refine ops_mv (rv_box (cs := [.int .i64 (c.Epoch), s1]) hS rfl rfl rfl) (want_yes rfl) rfl rfl ?_
 clear hS
 rintro _ w ⟨b1, rfl, hS⟩
 refine oa rfl rfl <| ops_nil fun a hA => cw_seq <| cw_seq <| cw_cut (J := fun a' w' => ∃ (x1 : Bool), spec_ClockOk_j1 c x1 = some r ∧ AEnv 46 [(1, .pointer (some ⟨b1, 0, none⟩)), (14, .bool (x1))] a' ∧ St (cxAll w0) w' [cBox b1 [.int .i64 (c.Epoch), s1]] [fRd [s1] (c.Pins : List Pin)]) ?_ ?_
 ·skip
  refine cw_ops hA ?_
  clear hA
  refine oy (rv_fld (m := 0) Tryz.underlying46 rfl rfl Tryz.sizeOf3 rfl rfl) rfl <| oy (rv_load1 rfl rfl Tryz.isAgg3 (hS.cell 0 rfl rfl)) rfl ?_
  obtain ⟨x10, hx10, hF⟩ := bindE hF
  refine ops_c (rc_call Tryz.call60 rfl rfl) (want_yes rfl) rfl rfl (c_spec_l1In (x := c.Epoch) (low := 0) (high := 100000)  hx10) ?_
  rintro _ w ⟨rfl, hk⟩
  replace hS := hS.after hk; clear hk
  refine oy (rv_not rfl rfl) rfl <| om rfl rfl <| ops_case (s := 9) rfl (fun hc8 => ?_) (fun hc8 => ?_)
  ·replace hF := iteT hc8 hF
   refine ops_off (want_if rfl rfl rfl (by rw [hc8]; rfl)) rfl rfl <| ops_off (want_if rfl rfl rfl (by rw [hc8]; rfl)) rfl rfl <| ops_off (want_if rfl rfl rfl (by rw [hc8]; rfl)) rfl rfl <| ops_off (want_if rfl rfl rfl (by rw [hc8]; rfl)) rfl rfl <| oy (rv_pick_t rfl rfl hc8 rfl) rfl <| ops_nil fun a hA => ?_
   exact ⟨true, hF, hA.part ⟨rfl, rfl, trivial⟩, ((hS).sel [0] rfl).selR [0] rfl⟩
  ·replace hF := iteF hc8 hF
   refine ops_v (rv_fld (m := 0) Tryz.underlying46 rfl rfl Tryz.sizeOf44 rfl rfl) (want_if rfl rfl rfl (by rw [hc8]; rfl)) rfl rfl <| ops_v (rv_load1 rfl rfl Tryz.isAgg44 (hS.cell 0 rfl rfl)) (want_if rfl rfl rfl (by rw [hc8]; rfl)) rfl rfl <| ops_v (rv_lenS (hS.rd 0 rfl) Tryz.underlying44 rfl rfl) (want_if rfl rfl rfl (by rw [hc8]; rfl)) rfl rfl <| ops_v (rv_neq rfl rfl rfl) (want_if rfl rfl rfl (by rw [hc8]; rfl)) rfl rfl <| oy (rv_pick_f rfl rfl hc8 rfl) rfl <| ops_nil fun a hA => ?_
   exact ⟨((c.Pins.length : Int)) != 3, hF, hA.part ⟨rfl, rfl, trivial⟩, ((hS).sel [0] rfl).selR [0] rfl⟩
 ·skip
  clear hA hS hF
  rintro a w ⟨x1, hF, hA, hS⟩
  unfold spec_ClockOk_j1 at hF
  refine cw_cond hA rfl (fun hc1 => ?_) (fun hc1 => ?_)
  ·replace hF := iteT hc1 hF
   refine cw_seq <| cw_ops hA ?_
   clear hA
   refine oa rfl rfl <| ops_nil fun a hA => cw_ret ?_
   cases hF
   exact fy Tryz.results54 hA rfl hS
  ·replace hF := iteF hc1 hF
   refine cw_skip <| cw_seq <| cw_seq <| cw_ops hA ?_
   clear hA
   refine oa rfl rfl <| ops_nil fun a hA => ?_
   obtain ⟨o1, hl1, hF⟩ := bindE hF
   refine cw_cut (J := fun a' w' => o1 = Out.brk (()) ∧ AEnv 46 [] a' ∧ St (cxAll w0) w' [] []) ?_ ?_
   ·refine cw_block ?_
    refine cw_loop (body := spec_ClockOk_l2 c) (r := o1) (fun sg a' w' => AEnv 46 [(1, .pointer (some ⟨b1, 0, none⟩)), (3, .int .i64 (sg))] a' ∧ St (cxAll w0) w' [cBox b1 [.int .i64 (c.Epoch), s1]] [fRd [s1] (c.Pins : List Pin)]) ?_ hl1 ⟨hA.part ⟨rfl, rfl, trivial⟩, ((hS).sel [0] rfl).selR [0] rfl⟩
    clear hA hS hl1
    rintro x3 a w q2 ⟨hA, hS⟩ hG2 hr2
    try dsimp only at hA hS
    unfold spec_ClockOk_l2 at hG2
    refine cw_seq <| cw_seq <| cw_ops hA ?_
    clear hA
    refine om rfl rfl <| oy (rv_lss rfl rfl rfl) rfl <| ops_nil fun a hA => cw_cond hA rfl (fun hc2 => ?_) (fun hc2 => ?_)
    ·replace hG2 := iteT hc2 hG2
     refine cw_skip <| cw_seq <| cw_block <| cw_seq <| cw_ops hA ?_
     clear hA
     refine oy (rv_fld (m := 0) Tryz.underlying46 rfl rfl Tryz.sizeOf44 rfl rfl) rfl <| oy (rv_load1 rfl rfl Tryz.isAgg44 (hS.cell 0 rfl rfl)) rfl <| om rfl rfl ?_
     obtain ⟨x4, hx4, hG2⟩ := bindE hG2
     refine oy (rv_idx (m := 4) (hS.rd 0 rfl) rfl hx4 Tryz.underlying44 Tryz.sizeOf65 rfl rfl rfl) rfl <| oy (rv_loadN rfl rfl Tryz.isAgg65 Tryz.sizeOf65 rfl (el_Pin (hS.rd 0 rfl) (idx_some hx4).2.2)) rfl <| ops_mv (rv_alloc (cs := [.bool (false), .int .i64 (0), .bool (false), .int .i64 (0)]) hS rfl Tryz.zeroValue65 rfl) (want_yes rfl) rfl rfl ?_
     clear hS
     rintro _ w ⟨b2, rfl, hS⟩
     refine ops_ms (rs_box (vs := [.bool (x4.On), .int .i64 (x4.Epoch), .bool (x4.Marked), .int .i64 (x4.Seen)]) hS (i := 1) rfl rfl rfl rfl rfl Tryz.sizeOf65 rfl rfl rfl) (want_yes rfl) rfl ?_
     clear hS
     intro w hS
     refine ops_nil fun a hA => cw_seq <| cw_cut (J := fun a' w' => ∃ (x5 : Bool), spec_ClockOk_j3 x3 x5 = some q2 ∧ AEnv 46 [(1, .pointer (some ⟨b1, 0, none⟩)), (3, .int .i64 (x3)), (45, .bool (x5))] a' ∧ St (cxAll w0) w' [cBox b1 [.int .i64 (c.Epoch), s1]] [fRd [s1] (c.Pins : List Pin)]) ?_ ?_
     ·skip
      refine cw_ops hA ?_
      clear hA
      refine oy (rv_fld (m := 0) Tryz.underlying65 rfl rfl Tryz.sizeOf4 rfl rfl) rfl <| oy (rv_load1 rfl rfl Tryz.isAgg4 (hS.cell 1 rfl rfl)) rfl <| oy (rv_not rfl rfl) rfl <| om rfl rfl <| ops_case (s := 27) rfl (fun hc4 => ?_) (fun hc4 => ?_)
      ·replace hG2 := iteT hc4 hG2
       refine ops_v (rv_loadN rfl rfl Tryz.isAgg65 Tryz.sizeOf65 rfl (hS.cells 1 0 (cs' := [.bool (x4.On), .int .i64 (x4.Epoch), .bool (x4.Marked), .int .i64 (x4.Seen)]) rfl rfl)) (want_if rfl rfl rfl (by rw [hc4]; rfl)) rfl rfl <| ops_v (rv_build (cells := #[.bool (false), .int .i64 (0), .bool (false), .int .i64 (0)]) rfl Tryz.zeroValue65 Tryz.underlying65 (by have h := places_Tryz65; rw [Tryz.underlying65] at h; exact h) rfl rfl) (want_if rfl rfl rfl (by rw [hc4]; rfl)) rfl rfl <| ops_v (rv_neqS Tryz.eqGuardType65 Tryz.stoodInHeld65 Tryz.underlying65 (eqf_Tryz65 9997 x4 (⟨false, 0, false, 0⟩ : Pin)) rfl rfl rfl) (want_if rfl rfl rfl (by rw [hc4]; rfl)) rfl rfl <| oy (rv_pick_t rfl rfl hc4 rfl) rfl <| om rfl rfl <| ops_case (s := 32) rfl (fun hc5 => ?_) (fun hc5 => ?_)
       ·replace hG2 := iteT hc5 hG2
        refine ops_off (want_if rfl rfl rfl (by rw [hc5]; rfl)) rfl rfl <| ops_off (want_if rfl rfl rfl (by rw [hc5]; rfl)) rfl rfl <| ops_off (want_if rfl rfl rfl (by rw [hc5]; rfl)) rfl rfl <| ops_off (want_if rfl rfl rfl (by rw [hc5]; rfl)) rfl rfl <| ops_off (want_if rfl rfl rfl (by rw [hc5]; rfl)) rfl rfl <| ops_off (want_if rfl rfl rfl (by rw [hc5]; rfl)) rfl rfl <| oy (rv_pick_t rfl rfl hc5 rfl) rfl <| om rfl rfl <| ops_off (want_if rfl rfl rfl rfl) rfl rfl ?_
        refine ops_off (want_if rfl rfl rfl rfl) rfl rfl <| ops_off (want_if rfl rfl rfl rfl) rfl rfl <| ops_off (want_if rfl rfl rfl rfl) rfl rfl <| oy (rv_pick_t rfl rfl rfl rfl) rfl <| ops_nil fun a hA => ?_
        exact ⟨true, hG2, hA.part ⟨rfl, rfl, rfl, trivial⟩, ((hS).sel [0] rfl).selR [0] rfl⟩
       ·replace hG2 := iteF hc5 hG2
        refine ops_v (rv_fld (m := 0) Tryz.underlying65 rfl rfl Tryz.sizeOf3 rfl rfl) (want_if rfl rfl rfl (by rw [hc5]; rfl)) rfl rfl <| ops_v (rv_load1 rfl rfl Tryz.isAgg3 (hS.cell 1 rfl rfl)) (want_if rfl rfl rfl (by rw [hc5]; rfl)) rfl rfl <| ops_v (rv_fld (m := 0) Tryz.underlying46 rfl rfl Tryz.sizeOf3 rfl rfl) (want_if rfl rfl rfl (by rw [hc5]; rfl)) rfl rfl <| ops_v (rv_load1 rfl rfl Tryz.isAgg3 (hS.cell 0 rfl rfl)) (want_if rfl rfl rfl (by rw [hc5]; rfl)) rfl rfl ?_
        obtain ⟨x6, hx6, hG2⟩ := bindE hG2
        refine ops_c (rc_call Tryz.call60 rfl rfl) (want_if rfl rfl rfl (by rw [hc5]; rfl)) rfl rfl (c_spec_l1In (x := x4.Epoch) (low := 0) (high := c.Epoch)  hx6) ?_
        rintro _ w ⟨rfl, hk⟩
        replace hS := hS.after hk; clear hk
        refine ops_v (rv_not rfl rfl) (want_if rfl rfl rfl (by rw [hc5]; rfl)) rfl rfl <| oy (rv_pick_f rfl rfl hc5 rfl) rfl <| om rfl rfl <| ops_case (s := 40) rfl (fun hc6 => ?_) (fun hc6 => ?_)
        ·replace hG2 := iteT hc6 hG2
         refine ops_off (want_if rfl rfl rfl (by rw [hc6]; rfl)) rfl rfl <| ops_off (want_if rfl rfl rfl (by rw [hc6]; rfl)) rfl rfl <| ops_off (want_if rfl rfl rfl (by rw [hc6]; rfl)) rfl rfl <| ops_off (want_if rfl rfl rfl (by rw [hc6]; rfl)) rfl rfl <| oy (rv_pick_t rfl rfl hc6 rfl) rfl <| ops_nil fun a hA => ?_
         exact ⟨true, hG2, hA.part ⟨rfl, rfl, rfl, trivial⟩, ((hS).sel [0] rfl).selR [0] rfl⟩
        ·replace hG2 := iteF hc6 hG2
         refine ops_v (rv_fld (m := 0) Tryz.underlying65 rfl rfl Tryz.sizeOf3 rfl rfl) (want_if rfl rfl rfl (by rw [hc6]; rfl)) rfl rfl <| ops_v (rv_load1 rfl rfl Tryz.isAgg3 (hS.cell 1 rfl rfl)) (want_if rfl rfl rfl (by rw [hc6]; rfl)) rfl rfl ?_
         obtain ⟨x7, hx7, hG2⟩ := bindE hG2
         refine ops_c (rc_call Tryz.call60 rfl rfl) (want_if rfl rfl rfl (by rw [hc6]; rfl)) rfl rfl (c_spec_l1In (x := x4.Seen) (low := 0) (high := 2)  hx7) ?_
         rintro _ w ⟨rfl, hk⟩
         replace hS := hS.after hk; clear hk
         refine ops_v (rv_not rfl rfl) (want_if rfl rfl rfl (by rw [hc6]; rfl)) rfl rfl <| oy (rv_pick_f rfl rfl hc6 rfl) rfl <| ops_nil fun a hA => ?_
         exact ⟨!x7, hG2, hA.part ⟨rfl, rfl, rfl, trivial⟩, ((hS).sel [0] rfl).selR [0] rfl⟩
      ·replace hG2 := iteF hc4 hG2
       refine ops_off (want_if rfl rfl rfl (by rw [hc4]; rfl)) rfl rfl <| ops_off (want_if rfl rfl rfl (by rw [hc4]; rfl)) rfl rfl <| ops_off (want_if rfl rfl rfl (by rw [hc4]; rfl)) rfl rfl <| oy (rv_pick_f rfl rfl hc4 rfl) rfl <| om rfl rfl <| ops_v (rv_fld (m := 0) Tryz.underlying65 rfl rfl Tryz.sizeOf3 rfl rfl) (want_if rfl rfl rfl rfl) rfl rfl <| ops_v (rv_load1 rfl rfl Tryz.isAgg3 (hS.cell 1 rfl rfl)) (want_if rfl rfl rfl rfl) rfl rfl <| ops_v (rv_fld (m := 0) Tryz.underlying46 rfl rfl Tryz.sizeOf3 rfl rfl) (want_if rfl rfl rfl rfl) rfl rfl <| ops_v (rv_load1 rfl rfl Tryz.isAgg3 (hS.cell 0 rfl rfl)) (want_if rfl rfl rfl rfl) rfl rfl ?_
       obtain ⟨x8, hx8, hG2⟩ := bindE hG2
       refine ops_c (rc_call Tryz.call60 rfl rfl) (want_if rfl rfl rfl rfl) rfl rfl (c_spec_l1In (x := x4.Epoch) (low := 0) (high := c.Epoch)  hx8) ?_
       rintro _ w ⟨rfl, hk⟩
       replace hS := hS.after hk; clear hk
       refine ops_v (rv_not rfl rfl) (want_if rfl rfl rfl rfl) rfl rfl <| oy (rv_pick_f rfl rfl rfl rfl) rfl <| om rfl rfl <| ops_case (s := 40) rfl (fun hc7 => ?_) (fun hc7 => ?_)
       ·replace hG2 := iteT hc7 hG2
        refine ops_off (want_if rfl rfl rfl (by rw [hc7]; rfl)) rfl rfl <| ops_off (want_if rfl rfl rfl (by rw [hc7]; rfl)) rfl rfl <| ops_off (want_if rfl rfl rfl (by rw [hc7]; rfl)) rfl rfl <| ops_off (want_if rfl rfl rfl (by rw [hc7]; rfl)) rfl rfl <| oy (rv_pick_t rfl rfl hc7 rfl) rfl <| ops_nil fun a hA => ?_
        exact ⟨true, hG2, hA.part ⟨rfl, rfl, rfl, trivial⟩, ((hS).sel [0] rfl).selR [0] rfl⟩
       ·replace hG2 := iteF hc7 hG2
        refine ops_v (rv_fld (m := 0) Tryz.underlying65 rfl rfl Tryz.sizeOf3 rfl rfl) (want_if rfl rfl rfl (by rw [hc7]; rfl)) rfl rfl <| ops_v (rv_load1 rfl rfl Tryz.isAgg3 (hS.cell 1 rfl rfl)) (want_if rfl rfl rfl (by rw [hc7]; rfl)) rfl rfl ?_
        obtain ⟨x9, hx9, hG2⟩ := bindE hG2
        refine ops_c (rc_call Tryz.call60 rfl rfl) (want_if rfl rfl rfl (by rw [hc7]; rfl)) rfl rfl (c_spec_l1In (x := x4.Seen) (low := 0) (high := 2)  hx9) ?_
        rintro _ w ⟨rfl, hk⟩
        replace hS := hS.after hk; clear hk
        refine ops_v (rv_not rfl rfl) (want_if rfl rfl rfl (by rw [hc7]; rfl)) rfl rfl <| oy (rv_pick_f rfl rfl hc7 rfl) rfl <| ops_nil fun a hA => ?_
        exact ⟨!x9, hG2, hA.part ⟨rfl, rfl, rfl, trivial⟩, ((hS).sel [0] rfl).selR [0] rfl⟩
     ·skip
      clear hA hS hG2
      rintro a w ⟨x5, hG2, hA, hS⟩
      unfold spec_ClockOk_j3 at hG2
      refine cw_cond hA rfl (fun hc3 => ?_) (fun hc3 => ?_)
      ·replace hG2 := iteT hc3 hG2
       refine cw_seq <| cw_ops hA ?_
       clear hA
       refine oa rfl rfl <| ops_nil fun a hA => cw_ret ?_
       cases hG2
       have ho := hr2 _ rfl; subst ho
       replace hF : some false = some r := hF
       cases hF
       exact fy Tryz.results54 hA rfl hS
      ·replace hG2 := iteF hc3 hG2
       refine cw_skip <| cw_ops hA ?_
       clear hA
       refine om rfl rfl <| oy (rv_add rfl rfl rfl) rfl <| oa rfl rfl <| ops_nil fun a hA => ?_
       cases hG2
       exact ⟨_, rfl, ⟨hA.part ⟨rfl, rfl, trivial⟩, ((hS).sel [0] rfl).selR [0] rfl⟩⟩
    ·replace hG2 := iteF hc2 hG2
     refine cw_exit <| xcons_hit ?_
     cases hG2
     have ho := hr2 _ rfl; subst ho
     exact ⟨rfl, hA.part trivial, ((hS).sel [] rfl).selR [] rfl⟩
   ·skip
    clear hA hS hl1
    rintro a w ⟨heq, hA, hS⟩
    replace hF : spec_ClockOk_j2 = some r := by rw [heq] at hF; exact hF
    clear heq
    unfold spec_ClockOk_j2 at hF
    refine cw_seq <| cw_ops hA ?_
    clear hA
    refine oa rfl rfl <| ops_nil fun a hA => cw_ret ?_
    cases hF
    exact fy Tryz.results54 hA rfl hS

theorem c_spec_l11All {w0 : World} {l : List LList} {s1 : Value} {r : (List LRow)} (h1 : Rep.rd (All w0) w0 [s1] (l : List LList)) (hF : spec_l11All l = some r) :
    Calls Tryz.prog 57 #[s1] w0 (Ret fun v w' => ∃ (s0_0 : Value), v = s0_0 ∧ St (cxAll w0) w' [cOwn [s0_0] (r : List LRow)] []) := by
 have hS : St (cxAll w0) w0 [] [fRd [s1] (l : List LList)] := St.enter (by
   intro f hf
   simp only [List.mem_cons, List.not_mem_nil, or_false] at hf
   subst hf; exact h1)
 refine calls_cw (args := [_]) Tryz.func57 rfl Tryz.ntmps57 rfl ?_
 unfold spec_l11All at hF
 intro a hA
 refine cw_seq <| cw_ops hA ?_
 clear hA
 refine oa rfl rfl <| ops_nil fun a hA => cw_seq <| cw_ops hA ?_
 clear hA
 refine ops_mv (rv_lit0 (α := LRow) hS rfl Tryz.underlying67 inf_Tryz71 rfl) (want_yes rfl) rfl rfl ?_
 clear hS
 rintro s2 w hS
 refine oa rfl rfl <| ops_nil fun a hA => cw_seq <| cw_seq <| cw_ops hA ?_
 clear hA
 refine oa rfl rfl <| ops_nil fun a hA => ?_
 obtain ⟨o1, hl1, hF⟩ := bindE hF
 refine cw_cut (J := fun a' w' => ∃ (x5 : List LRow) (s5 : Value), o1 = x5 ∧ AEnv 20 [(3, s5)] a' ∧ St (cxAll w0) w' [cOwn [s5] (x5 : List LRow)] []) ?_ ?_
 ·refine cw_block ?_
  refine cw_loop (body := spec_l11All_l1 l) (r := o1) (fun sg a' w' => ∃ (s4 : Value), AEnv 20 [(0, s1), (3, s4), (4, .int .i64 (sg.2))] a' ∧ St (cxAll w0) w' [cOwn [s4] (sg.1 : List LRow)] [fRd [s1] (l : List LList)]) ?_ hl1 ⟨s2, hA.part ⟨rfl, rfl, rfl, trivial⟩, ((hS).sel [0] rfl).selR [0] rfl⟩
  clear hA hS hl1
  rintro ⟨x3, x4⟩ a w q1 ⟨s4, hA, hS⟩ hG1 hr1
  try dsimp only at hA hS
  unfold spec_l11All_l1 at hG1
  refine cw_seq <| cw_seq <| cw_ops hA ?_
  clear hA
  refine om rfl rfl <| om rfl rfl <| oy (rv_lenS (hS.rd 0 rfl) Tryz.underlying47 rfl rfl) rfl <| oy (rv_lss rfl rfl rfl) rfl <| ops_nil fun a hA => cw_cond hA rfl (fun hc1 => ?_) (fun hc1 => ?_)
  ·replace hG1 := iteT hc1 hG1
   refine cw_skip <| cw_seq <| cw_block <| cw_ops hA ?_
   clear hA
   refine om rfl rfl <| om rfl rfl <| om rfl rfl ?_
   obtain ⟨x6, hx6, hG1⟩ := bindE hG1
   refine oy (rv_idx (m := 1) (hS.rd 0 rfl) rfl hx6 Tryz.underlying47 Tryz.sizeOf69 rfl rfl rfl) rfl <| oy (rv_fld (m := 0) Tryz.underlying69 rfl rfl Tryz.sizeOf67 rfl rfl) rfl ?_
   obtain ⟨s6, hel, hS⟩ := hS.el_LList 0 rfl (idx_some hx6).2.2
   refine oy (rv_load1 rfl rfl Tryz.isAgg67 (cell1 (CellsAt.sub (cs' := [s6]) hel 0 rfl rfl))) rfl ?_
   obtain ⟨hn1, hG1⟩ := needE hG1
   refine ops_mv (rv_append (α := LRow) 0 hS rfl (hS.rd 1 rfl) rfl Tryz.underlying67 inf_Tryz71 rfl hn1 rfl rfl rfl) (want_yes rfl) rfl rfl ?_
   clear hS
   rintro s7 w hS
   refine oa rfl rfl <| ops_nil fun a hA => cw_ops hA ?_
   clear hA
   refine om rfl rfl <| oy (rv_add rfl rfl rfl) rfl <| oa rfl rfl <| ops_nil fun a hA => ?_
   cases hG1
   exact ⟨_, rfl, ⟨s7, hA.part ⟨rfl, rfl, rfl, trivial⟩, ((hS).sel [0] rfl).selR [0] rfl⟩⟩
  ·replace hG1 := iteF hc1 hG1
   refine cw_exit <| xcons_hit ?_
   cases hG1
   have ho := hr1 _ rfl; subst ho
   exact ⟨x3, s4, rfl, hA.part ⟨rfl, trivial⟩, ((hS).sel [0] rfl).selR [] rfl⟩
 ·skip
  clear hA hS hl1
  rintro a w ⟨x5, s5, heq, hA, hS⟩
  replace hF : spec_l11All_j1 x5 = some r := by rw [heq] at hF; exact hF
  clear heq
  unfold spec_l11All_j1 at hF
  refine cw_seq <| cw_ops hA ?_
  clear hA
  refine om rfl rfl <| oa rfl rfl <| ops_nil fun a hA => cw_ret ?_
  cases hF
  exact fin1 Tryz.results57 hA (res_tmp rfl) ⟨s5, rfl, (hS.sel [0] rfl).weaken (R' := []) (fun _ h => nomatch h)⟩

theorem c_spec_HandleOk {w0 : World} {h : Int}  {r : Bool}  (hF : spec_HandleOk h = some r) :
    Calls Tryz.prog 101 #[.int .i64 (h)] w0 (Ret fun v w' => v = .bool (r) ∧ St (cxAll w0) w' [] []) := by
 have hS : St (cxAll w0) w0 [] [] := St.enter (by
   intro f hf; cases hf)
 refine calls_cw (args := [_]) Tryz.func101 rfl Tryz.ntmps101 rfl ?_
 unfold spec_HandleOk at hF
 intro a hA
 refine cw_seq <| cw_ops hA ?_
 clear hA
 refine oa rfl rfl <| ops_nil fun a hA => cw_seq <| cw_cut (J := fun a' w' => ∃ (x1 : Bool), spec_HandleOk_j1 x1 = some r ∧ AEnv 10 [(2, .bool (x1))] a' ∧ St (cxAll w0) w' [] []) ?_ ?_
 ·skip
  refine cw_ops hA ?_
  clear hA
  refine om rfl rfl ?_
  obtain ⟨x2, hx2, hF⟩ := bindE hF
  refine ops_c (rc_call Tryz.call60 rfl rfl) (want_yes rfl) rfl rfl (c_spec_l1In (x := h) (low := 32) (high := 223)  hx2) ?_
  rintro _ w ⟨rfl, hk⟩
  replace hS := hS.after hk; clear hk
  refine om rfl rfl <| ops_case (s := 5) rfl (fun hc1 => ?_) (fun hc1 => ?_)
  ·replace hF := iteT hc1 hF
   refine ops_v (rv_move rfl rfl) (want_if rfl rfl rfl (by rw [hc1]; rfl)) rfl rfl <| ops_v (rv_rem rfl rfl rfl (by decide)) (want_if rfl rfl rfl (by rw [hc1]; rfl)) rfl rfl <| ops_v (rv_lss rfl rfl rfl) (want_if rfl rfl rfl (by rw [hc1]; rfl)) rfl rfl <| oy (rv_pick_t rfl rfl hc1 rfl) rfl <| oa rfl rfl <| ops_nil fun a hA => ?_
   exact ⟨decide ((Int.tmod h 32) < 24), hF, hA.part ⟨rfl, trivial⟩, ((hS).sel [] rfl).selR [] rfl⟩
  ·replace hF := iteF hc1 hF
   refine ops_off (want_if rfl rfl rfl (by rw [hc1]; rfl)) rfl rfl <| ops_off (want_if rfl rfl rfl (by rw [hc1]; rfl)) rfl rfl <| ops_off (want_if rfl rfl rfl (by rw [hc1]; rfl)) rfl rfl <| oy (rv_pick_f rfl rfl hc1 rfl) rfl <| oa rfl rfl <| ops_nil fun a hA => ?_
   exact ⟨false, hF, hA.part ⟨rfl, trivial⟩, ((hS).sel [] rfl).selR [] rfl⟩
 ·skip
  clear hA hS hF
  rintro a w ⟨x1, hF, hA, hS⟩
  unfold spec_HandleOk_j1 at hF
  refine cw_ret ?_
  cases hF
  exact fy Tryz.results101 hA rfl hS

theorem c_spec_HandleSlot {w0 : World} {h : Int}  {r : Int}  (hF : spec_HandleSlot h = some r) :
    Calls Tryz.prog 99 #[.int .i64 (h)] w0 (Ret fun v w' => v = .int .i64 (r) ∧ St (cxAll w0) w' [] []) := by
 have hS : St (cxAll w0) w0 [] [] := St.enter (by
   intro f hf; cases hf)
 refine calls_cw (args := [_]) Tryz.func99 rfl Tryz.ntmps99 rfl ?_
 unfold spec_HandleSlot at hF
 intro a hA
 refine cw_seq <| cw_ops hA ?_
 clear hA
 refine oa rfl rfl <| ops_nil fun a hA => cw_seq <| cw_seq <| cw_ops hA ?_
 clear hA
 refine om rfl rfl ?_
 obtain ⟨x1, hx1, hF⟩ := bindE hF
 refine ops_c (rc_call Tryz.call101 rfl rfl) (want_yes rfl) rfl rfl (c_spec_HandleOk (h := h)  hx1) ?_
 rintro _ w ⟨rfl, hk⟩
 replace hS := hS.after hk; clear hk
 refine oy (rv_not rfl rfl) rfl <| ops_nil fun a hA => cw_cond hA rfl (fun hc1 => ?_) (fun hc1 => ?_)
 ·replace hF := iteT hc1 hF
  refine cw_seq <| cw_ops hA ?_
  clear hA
  refine oa rfl rfl <| ops_nil fun a hA => cw_ret ?_
  cases hF
  exact fy Tryz.results99 hA rfl hS
 ·replace hF := iteF hc1 hF
  refine cw_skip <| cw_seq <| cw_ops hA ?_
  clear hA
  refine om rfl rfl <| oy (rv_rem rfl rfl rfl (by decide)) rfl <| oa rfl rfl <| ops_nil fun a hA => cw_ret ?_
  cases hF
  exact fy Tryz.results99 hA rfl hS

theorem c_spec_LimboOk {w0 : World} {l : List LList} {s1 : Value} {r : Bool} (h1 : Rep.rd (All w0) w0 [s1] (l : List LList)) (hF : spec_LimboOk l = some r) :
    Calls Tryz.prog 55 #[s1] w0 (Ret fun v w' => v = .bool (r) ∧ St (cxAll w0) w' [] []) := by
 have hS : St (cxAll w0) w0 [] [fRd [s1] (l : List LList)] := St.enter (by
   intro f hf
   simp only [List.mem_cons, List.not_mem_nil, or_false] at hf
   subst hf; exact h1)
 refine calls_cw (args := [_]) Tryz.func55 rfl Tryz.ntmps55 rfl ?_
 unfold spec_LimboOk at hF
 intro a hA
 refine cw_seq <| cw_ops hA ?_
 clear hA
 refine oa rfl rfl <| ops_nil fun a hA => cw_seq <| cw_ops hA ?_
 clear hA
 refine om rfl rfl ?_
 obtain ⟨x1, hx1, hF⟩ := bindE hF
 refine ops_c (rc_call Tryz.call57 rfl rfl) (want_yes rfl) rfl rfl (c_spec_l11All (l := l) (hS.rd 0 rfl) hx1) ?_
 rintro s2 w ⟨_, rfl, hk⟩
 replace hS := hS.after hk; clear hk
 refine oa rfl rfl <| ops_nil fun a hA => cw_seq <| cw_seq <| cw_cut (J := fun a' w' => ∃ (x2 : Bool), spec_LimboOk_j1 x1 x2 = some r ∧ AEnv 50 [(3, s2), (16, .bool (x2))] a' ∧ St (cxAll w0) w' [cOwn [s2] (x1 : List LRow)] []) ?_ ?_
 ·skip
  refine cw_ops hA ?_
  clear hA
  refine om rfl rfl <| oy (rv_lenS (hS.rd 0 rfl) Tryz.underlying47 rfl rfl) rfl <| oy (rv_neq rfl rfl rfl) rfl <| om rfl rfl <| ops_case (s := 12) rfl (fun hc6 => ?_) (fun hc6 => ?_)
  ·replace hF := iteT hc6 hF
   refine ops_off (want_if rfl rfl rfl (by rw [hc6]; rfl)) rfl rfl <| ops_off (want_if rfl rfl rfl (by rw [hc6]; rfl)) rfl rfl <| ops_off (want_if rfl rfl rfl (by rw [hc6]; rfl)) rfl rfl <| oy (rv_pick_t rfl rfl hc6 rfl) rfl <| ops_nil fun a hA => ?_
   exact ⟨true, hF, hA.part ⟨rfl, rfl, trivial⟩, ((hS).sel [0] rfl).selR [] rfl⟩
  ·replace hF := iteF hc6 hF
   refine ops_v (rv_move rfl rfl) (want_if rfl rfl rfl (by rw [hc6]; rfl)) rfl rfl <| ops_v (rv_lenS (hS.rdOwn 0 rfl) Tryz.underlying67 rfl rfl) (want_if rfl rfl rfl (by rw [hc6]; rfl)) rfl rfl <| ops_v (rv_gtr rfl rfl rfl) (want_if rfl rfl rfl (by rw [hc6]; rfl)) rfl rfl <| oy (rv_pick_f rfl rfl hc6 rfl) rfl <| ops_nil fun a hA => ?_
   exact ⟨decide (24 < ((x1.length : Int))), hF, hA.part ⟨rfl, rfl, trivial⟩, ((hS).sel [0] rfl).selR [] rfl⟩
 ·skip
  clear hA hS hF
  rintro a w ⟨x2, hF, hA, hS⟩
  unfold spec_LimboOk_j1 at hF
  refine cw_cond hA rfl (fun hc1 => ?_) (fun hc1 => ?_)
  ·replace hF := iteT hc1 hF
   refine cw_seq <| cw_ops hA ?_
   clear hA
   refine oa rfl rfl <| ops_nil fun a hA => cw_ret ?_
   cases hF
   exact fy Tryz.results55 hA rfl hS
  ·replace hF := iteF hc1 hF
   refine cw_skip <| cw_seq <| cw_ops hA ?_
   clear hA
   refine ops_mv (rv_lit0 (α := Int) hS rfl Tryz.underlying22 inf_Tryz3 rfl) (want_yes rfl) rfl rfl ?_
   clear hS
   rintro s3 w hS
   refine oa rfl rfl <| ops_nil fun a hA => cw_seq <| cw_seq <| cw_ops hA ?_
   clear hA
   refine oa rfl rfl <| ops_nil fun a hA => ?_
   obtain ⟨o1, hl1, hF⟩ := bindE hF
   refine cw_cut (J := fun a' w' => o1 = Out.brk (()) ∧ AEnv 50 [] a' ∧ St (cxAll w0) w' [] []) ?_ ?_
   ·refine cw_block ?_
    refine cw_loop (body := spec_LimboOk_l2 x1) (r := o1) (fun sg a' w' => ∃ (s5 : Value), AEnv 50 [(3, s2), (4, s5), (5, .int .i64 (sg.2))] a' ∧ St (cxAll w0) w' [cOwn [s2] (x1 : List LRow), cOwn [s5] (sg.1 : List Int)] []) ?_ hl1 ⟨s3, hA.part ⟨rfl, rfl, rfl, trivial⟩, ((hS).sel [0, 1] rfl).selR [] rfl⟩
    clear hA hS hl1
    rintro ⟨x5, x6⟩ a w q2 ⟨s5, hA, hS⟩ hG2 hr2
    try dsimp only at hA hS
    unfold spec_LimboOk_l2 at hG2
    refine cw_seq <| cw_seq <| cw_ops hA ?_
    clear hA
    refine om rfl rfl <| om rfl rfl <| oy (rv_lenS (hS.rdOwn 0 rfl) Tryz.underlying67 rfl rfl) rfl <| oy (rv_lss rfl rfl rfl) rfl <| ops_nil fun a hA => cw_cond hA rfl (fun hc2 => ?_) (fun hc2 => ?_)
    ·replace hG2 := iteT hc2 hG2
     refine cw_skip <| cw_seq <| cw_block <| cw_seq <| cw_ops hA ?_
     clear hA
     refine om rfl rfl <| om rfl rfl ?_
     obtain ⟨x7, hx7, hG2⟩ := bindE hG2
     refine oy (rv_idx (m := 2) (hS.rdOwn 0 rfl) rfl hx7 Tryz.underlying67 Tryz.sizeOf71 rfl rfl rfl) rfl <| oy (rv_fld (m := 0) Tryz.underlying71 rfl rfl Tryz.sizeOf3 rfl rfl) rfl <| oy (rv_load1 rfl rfl Tryz.isAgg3 (cell1 (CellsAt.sub (cs' := [.int .i64 (x7.Handle)]) (el_LRow (hS.rdOwn 0 rfl) (idx_some hx7).2.2) 0 rfl rfl))) rfl ?_
     obtain ⟨x8, hx8, hG2⟩ := bindE hG2
     refine ops_c (rc_call Tryz.call99 rfl rfl) (want_yes rfl) rfl rfl (c_spec_HandleSlot (h := x7.Handle)  hx8) ?_
     rintro _ w ⟨rfl, hk⟩
     replace hS := hS.after hk; clear hk
     refine oa rfl rfl <| ops_nil fun a hA => cw_seq <| cw_seq <| cw_cut (J := fun a' w' => ∃ (x9 : Bool), spec_LimboOk_j3 x5 x6 x8 x9 = some q2 ∧ AEnv 50 [(3, s2), (4, s5), (5, .int .i64 (x6)), (6, .int .i64 (x8)), (45, .bool (x9))] a' ∧ St (cxAll w0) w' [cOwn [s2] (x1 : List LRow), cOwn [s5] (x5 : List Int)] []) ?_ ?_
     ·skip
      refine cw_ops hA ?_
      clear hA
      refine om rfl rfl <| oy (rv_lss rfl rfl rfl) rfl <| om rfl rfl <| ops_case (s := 32) rfl (fun hc4 => ?_) (fun hc4 => ?_)
      ·replace hG2 := iteT hc4 hG2
       refine ops_off (want_if rfl rfl rfl (by rw [hc4]; rfl)) rfl rfl <| ops_off (want_if rfl rfl rfl (by rw [hc4]; rfl)) rfl rfl <| ops_off (want_if rfl rfl rfl (by rw [hc4]; rfl)) rfl rfl <| ops_off (want_if rfl rfl rfl (by rw [hc4]; rfl)) rfl rfl <| ops_off (want_if rfl rfl rfl (by rw [hc4]; rfl)) rfl rfl <| ops_off (want_if rfl rfl rfl (by rw [hc4]; rfl)) rfl rfl <| ops_off (want_if rfl rfl rfl (by rw [hc4]; rfl)) rfl rfl <| oy (rv_pick_t rfl rfl hc4 rfl) rfl <| om rfl rfl ?_
       refine ops_off (want_if rfl rfl rfl rfl) rfl rfl <| ops_off (want_if rfl rfl rfl rfl) rfl rfl <| ops_off (want_if rfl rfl rfl rfl) rfl rfl <| oy (rv_pick_t rfl rfl rfl rfl) rfl <| ops_nil fun a hA => ?_
       exact ⟨true, hG2, hA.part ⟨rfl, rfl, rfl, rfl, rfl, trivial⟩, ((hS).sel [0, 1] rfl).selR [] rfl⟩
      ·replace hG2 := iteF hc4 hG2
       refine ops_v (rv_move rfl rfl) (want_if rfl rfl rfl (by rw [hc4]; rfl)) rfl rfl <| ops_v (rv_move rfl rfl) (want_if rfl rfl rfl (by rw [hc4]; rfl)) rfl rfl ?_
       obtain ⟨x10, hx10, hG2⟩ := bindE hG2
       refine ops_v (rv_idx (m := 2) (hS.rdOwn 0 rfl) rfl hx10 Tryz.underlying67 Tryz.sizeOf71 rfl rfl rfl) (want_if rfl rfl rfl (by rw [hc4]; rfl)) rfl rfl <| ops_v (rv_fld (m := 0) Tryz.underlying71 rfl rfl Tryz.sizeOf3 rfl rfl) (want_if rfl rfl rfl (by rw [hc4]; rfl)) rfl rfl <| ops_v (rv_load1 rfl rfl Tryz.isAgg3 (cell1 (CellsAt.sub (cs' := [.int .i64 (x10.Epoch)]) (el_LRow (hS.rdOwn 0 rfl) (idx_some hx10).2.2) 1 rfl rfl))) (want_if rfl rfl rfl (by rw [hc4]; rfl)) rfl rfl ?_
       obtain ⟨x11, hx11, hG2⟩ := bindE hG2
       refine ops_c (rc_call Tryz.call60 rfl rfl) (want_if rfl rfl rfl (by rw [hc4]; rfl)) rfl rfl (c_spec_l1In (x := x10.Epoch) (low := 0) (high := 100000)  hx11) ?_
       rintro _ w ⟨rfl, hk⟩
       replace hS := hS.after hk; clear hk
       refine ops_v (rv_not rfl rfl) (want_if rfl rfl rfl (by rw [hc4]; rfl)) rfl rfl <| oy (rv_pick_f rfl rfl hc4 rfl) rfl <| om rfl rfl <| ops_case (s := 41) rfl (fun hc5 => ?_) (fun hc5 => ?_)
       ·replace hG2 := iteT hc5 hG2
        refine ops_off (want_if rfl rfl rfl (by rw [hc5]; rfl)) rfl rfl <| ops_off (want_if rfl rfl rfl (by rw [hc5]; rfl)) rfl rfl <| ops_off (want_if rfl rfl rfl (by rw [hc5]; rfl)) rfl rfl <| oy (rv_pick_t rfl rfl hc5 rfl) rfl <| ops_nil fun a hA => ?_
        exact ⟨true, hG2, hA.part ⟨rfl, rfl, rfl, rfl, rfl, trivial⟩, ((hS).sel [0, 1] rfl).selR [] rfl⟩
       ·replace hG2 := iteF hc5 hG2
        refine ops_v (rv_move rfl rfl) (want_if rfl rfl rfl (by rw [hc5]; rfl)) rfl rfl <| ops_v (rv_move rfl rfl) (want_if rfl rfl rfl (by rw [hc5]; rfl)) rfl rfl ?_
        obtain ⟨x12, hx12, hG2⟩ := bindE hG2
        refine ops_c (rc_call Tryz.call100 rfl rfl) (want_if rfl rfl rfl (by rw [hc5]; rfl)) rfl rfl (c_spec_l8Has (l := x5) (x := x8) (hS.rdOwn 1 rfl) hx12) ?_
        rintro _ w ⟨rfl, hk⟩
        replace hS := hS.after hk; clear hk
        refine oy (rv_pick_f rfl rfl hc5 rfl) rfl <| ops_nil fun a hA => ?_
        exact ⟨x12, hG2, hA.part ⟨rfl, rfl, rfl, rfl, rfl, trivial⟩, ((hS).sel [0, 1] rfl).selR [] rfl⟩
     ·skip
      clear hA hS hG2
      rintro a w ⟨x9, hG2, hA, hS⟩
      unfold spec_LimboOk_j3 at hG2
      refine cw_cond hA rfl (fun hc3 => ?_) (fun hc3 => ?_)
      ·replace hG2 := iteT hc3 hG2
       refine cw_seq <| cw_ops hA ?_
       clear hA
       refine oa rfl rfl <| ops_nil fun a hA => cw_ret ?_
       cases hG2
       have ho := hr2 _ rfl; subst ho
       replace hF : some false = some r := hF
       cases hF
       exact fy Tryz.results55 hA rfl hS
      ·replace hG2 := iteF hc3 hG2
       refine cw_skip <| cw_ops hA ?_
       clear hA
       refine om rfl rfl <| om rfl rfl <| ops_mv (rv_lit1 (x8 : Int) hS rfl Tryz.underlying22 inf_Tryz3 rfl rfl rfl rfl) (want_yes rfl) rfl rfl ?_
       clear hS
       rintro s6 w hS
       obtain ⟨hn1, hG2⟩ := needE hG2
       refine ops_mv (rv_append (α := Int) 1 hS rfl (hS.rdOwn 2 rfl) rfl Tryz.underlying22 inf_Tryz3 rfl hn1 rfl rfl rfl) (want_yes rfl) rfl rfl ?_
       clear hS
       rintro s7 w hS
       refine oa rfl rfl <| ops_nil fun a hA => cw_ops hA ?_
       clear hA
       refine om rfl rfl <| oy (rv_add rfl rfl rfl) rfl <| oa rfl rfl <| ops_nil fun a hA => ?_
       cases hG2
       exact ⟨_, rfl, ⟨s7, hA.part ⟨rfl, rfl, rfl, trivial⟩, ((hS).sel [0, 1] rfl).selR [] rfl⟩⟩
    ·replace hG2 := iteF hc2 hG2
     refine cw_exit <| xcons_hit ?_
     cases hG2
     have ho := hr2 _ rfl; subst ho
     exact ⟨rfl, hA.part trivial, ((hS).sel [] rfl).selR [] rfl⟩
   ·skip
    clear hA hS hl1
    rintro a w ⟨heq, hA, hS⟩
    replace hF : spec_LimboOk_j2 = some r := by rw [heq] at hF; exact hF
    clear heq
    unfold spec_LimboOk_j2 at hF
    refine cw_seq <| cw_ops hA ?_
    clear hA
    refine oa rfl rfl <| ops_nil fun a hA => cw_ret ?_
    cases hF
    exact fy Tryz.results55 hA rfl hS

theorem c_spec_HazOk {w0 : World} {z : List Int} {s1 : Value} {r : Bool} (h1 : Rep.rd (All w0) w0 [s1] (z : List Int)) (hF : spec_HazOk z = some r) :
    Calls Tryz.prog 56 #[s1] w0 (Ret fun v w' => v = .bool (r) ∧ St (cxAll w0) w' [] []) := by
 have hS : St (cxAll w0) w0 [] [fRd [s1] (z : List Int)] := St.enter (by
   intro f hf
   simp only [List.mem_cons, List.not_mem_nil, or_false] at hf
   subst hf; exact h1)
 refine calls_cw (args := [_]) Tryz.func56 rfl Tryz.ntmps56 rfl ?_
 unfold spec_HazOk at hF
 intro a hA
 refine cw_seq <| cw_ops hA ?_
 clear hA
 refine oa rfl rfl <| ops_nil fun a hA => cw_seq <| cw_seq <| cw_ops hA ?_
 clear hA
 refine oa rfl rfl <| ops_nil fun a hA => ?_
 obtain ⟨o1, hl1, hF⟩ := bindE hF
 refine cw_cut (J := fun a' w' => o1 = Out.brk (()) ∧ AEnv 26 [(0, s1)] a' ∧ St (cxAll w0) w' [] [fRd [s1] (z : List Int)]) ?_ ?_
 ·refine cw_block ?_
  refine cw_loop (body := spec_HazOk_l1 z) (r := o1) (fun sg a' w' => AEnv 26 [(0, s1), (3, .int .i64 (sg))] a' ∧ St (cxAll w0) w' [] [fRd [s1] (z : List Int)]) ?_ hl1 ⟨hA.part ⟨rfl, rfl, trivial⟩, ((hS).sel [] rfl).selR [0] rfl⟩
  clear hA hS hl1
  rintro x2 a w q1 ⟨hA, hS⟩ hG1 hr1
  try dsimp only at hA hS
  unfold spec_HazOk_l1 at hG1
  refine cw_seq <| cw_seq <| cw_ops hA ?_
  clear hA
  refine om rfl rfl <| om rfl rfl <| oy (rv_lenS (hS.rd 0 rfl) Tryz.underlying22 rfl rfl) rfl <| oy (rv_lss rfl rfl rfl) rfl <| ops_nil fun a hA => cw_cond hA rfl (fun hc1 => ?_) (fun hc1 => ?_)
  ·replace hG1 := iteT hc1 hG1
   refine cw_skip <| cw_seq <| cw_block <| cw_seq <| cw_cut (J := fun a' w' => ∃ (x3 : Bool), spec_HazOk_j2 x2 x3 = some q1 ∧ AEnv 26 [(0, s1), (3, .int .i64 (x2)), (22, .bool (x3))] a' ∧ St (cxAll w0) w' [] [fRd [s1] (z : List Int)]) ?_ ?_
   ·skip
    refine cw_ops hA ?_
    clear hA
    refine om rfl rfl <| om rfl rfl ?_
    obtain ⟨x4, hx4, hG1⟩ := bindE hG1
    refine oy (rv_idx (m := 1) (hS.rd 0 rfl) rfl hx4 Tryz.underlying22 Tryz.sizeOf3 rfl rfl rfl) rfl <| oy (rv_load1 rfl rfl Tryz.isAgg3 (cell1 (el_Int (hS.rd 0 rfl) (idx_some hx4).2.2))) rfl <| oy (rv_neq rfl rfl rfl) rfl <| om rfl rfl <| ops_case (s := 15) rfl (fun hc3 => ?_) (fun hc3 => ?_)
    ·replace hG1 := iteT hc3 hG1
     refine ops_v (rv_move rfl rfl) (want_if rfl rfl rfl (by rw [hc3]; rfl)) rfl rfl <| ops_v (rv_move rfl rfl) (want_if rfl rfl rfl (by rw [hc3]; rfl)) rfl rfl ?_
     obtain ⟨x5, hx5, hG1⟩ := bindE hG1
     refine ops_v (rv_idx (m := 1) (hS.rd 0 rfl) rfl hx5 Tryz.underlying22 Tryz.sizeOf3 rfl rfl rfl) (want_if rfl rfl rfl (by rw [hc3]; rfl)) rfl rfl <| ops_v (rv_load1 rfl rfl Tryz.isAgg3 (cell1 (el_Int (hS.rd 0 rfl) (idx_some hx5).2.2))) (want_if rfl rfl rfl (by rw [hc3]; rfl)) rfl rfl ?_
     obtain ⟨x6, hx6, hG1⟩ := bindE hG1
     refine ops_c (rc_call Tryz.call101 rfl rfl) (want_if rfl rfl rfl (by rw [hc3]; rfl)) rfl rfl (c_spec_HandleOk (h := x5)  hx6) ?_
     rintro _ w ⟨rfl, hk⟩
     replace hS := hS.after hk; clear hk
     refine ops_v (rv_not rfl rfl) (want_if rfl rfl rfl (by rw [hc3]; rfl)) rfl rfl <| oy (rv_pick_t rfl rfl hc3 rfl) rfl <| ops_nil fun a hA => ?_
     exact ⟨!x6, hG1, hA.part ⟨rfl, rfl, rfl, trivial⟩, ((hS).sel [] rfl).selR [0] rfl⟩
    ·replace hG1 := iteF hc3 hG1
     refine ops_off (want_if rfl rfl rfl (by rw [hc3]; rfl)) rfl rfl <| ops_off (want_if rfl rfl rfl (by rw [hc3]; rfl)) rfl rfl <| ops_off (want_if rfl rfl rfl (by rw [hc3]; rfl)) rfl rfl <| ops_off (want_if rfl rfl rfl (by rw [hc3]; rfl)) rfl rfl <| ops_off (want_if rfl rfl rfl (by rw [hc3]; rfl)) rfl rfl <| ops_off (want_if rfl rfl rfl (by rw [hc3]; rfl)) rfl rfl <| oy (rv_pick_f rfl rfl hc3 rfl) rfl <| ops_nil fun a hA => ?_
     exact ⟨false, hG1, hA.part ⟨rfl, rfl, rfl, trivial⟩, ((hS).sel [] rfl).selR [0] rfl⟩
   ·skip
    clear hA hS hG1
    rintro a w ⟨x3, hG1, hA, hS⟩
    unfold spec_HazOk_j2 at hG1
    refine cw_cond hA rfl (fun hc2 => ?_) (fun hc2 => ?_)
    ·replace hG1 := iteT hc2 hG1
     refine cw_seq <| cw_ops hA ?_
     clear hA
     refine oa rfl rfl <| ops_nil fun a hA => cw_ret ?_
     cases hG1
     have ho := hr1 _ rfl; subst ho
     replace hF : some false = some r := hF
     cases hF
     exact fy Tryz.results56 hA rfl hS
    ·replace hG1 := iteF hc2 hG1
     refine cw_skip <| cw_ops hA ?_
     clear hA
     refine om rfl rfl <| oy (rv_add rfl rfl rfl) rfl <| oa rfl rfl <| ops_nil fun a hA => ?_
     cases hG1
     exact ⟨_, rfl, ⟨hA.part ⟨rfl, rfl, trivial⟩, ((hS).sel [] rfl).selR [0] rfl⟩⟩
  ·replace hG1 := iteF hc1 hG1
   refine cw_exit <| xcons_hit ?_
   cases hG1
   have ho := hr1 _ rfl; subst ho
   exact ⟨rfl, hA.part ⟨rfl, trivial⟩, ((hS).sel [] rfl).selR [0] rfl⟩
 ·skip
  clear hA hS hl1
  rintro a w ⟨heq, hA, hS⟩
  replace hF : spec_HazOk_j1 z = some r := by rw [heq] at hF; exact hF
  clear heq
  unfold spec_HazOk_j1 at hF
  refine cw_seq <| cw_ops hA ?_
  clear hA
  refine om rfl rfl <| oy (rv_lenS (hS.rd 0 rfl) Tryz.underlying22 rfl rfl) rfl <| oy (rv_eql rfl rfl rfl) rfl <| oa rfl rfl <| ops_nil fun a hA => cw_ret ?_
  cases hF
  exact fy Tryz.results56 hA rfl hS

theorem c_spec_OnList {w0 : World} {l : Lists} {slot : Int} {s1 : Value} {s2 : Value} {r : Bool} (h1 : Rep.rd (All w0) w0 [s1] (l.Global : List SList)) (h2 : Rep.rd (All w0) w0 [s2] (l.Own : List SList)) (hF : spec_OnList l slot = some r) :
    Calls Tryz.prog 132 #[.agg #[s1, s2], .int .i64 (slot)] w0 (Ret fun v w' => v = .bool (r) ∧ St (cxAll w0) w' [] []) := by
 have hS : St (cxAll w0) w0 [] [fRd [s1] (l.Global : List SList), fRd [s2] (l.Own : List SList)] := St.enter (by
   intro f hf
   simp only [List.mem_cons, List.not_mem_nil, or_false] at hf
   rcases hf with rfl | rfl
   · exact h1
   · exact h2)
 refine calls_cw (args := [_, _]) Tryz.func132 rfl Tryz.ntmps132 rfl ?_
 unfold spec_OnList at hF
 intro a hA
 refine cw_seq <| cw_ops hA ?_
 clear hA
 refine ops_mv (rv_box (cs := [s1, s2]) hS rfl rfl rfl) (want_yes rfl) rfl rfl ?_
 clear hS
 rintro _ w ⟨b1, rfl, hS⟩
 refine oa rfl rfl <| ops_nil fun a hA => cw_seq <| cw_ops hA ?_
 clear hA
 refine oy (rv_loadN rfl rfl Tryz.isAgg41 Tryz.sizeOf41 rfl (hS.cells 0 0 (cs' := [s1, s2]) rfl rfl)) rfl ?_
 obtain ⟨x1, hx1, hF⟩ := bindE hF
 refine ops_c (rc_call Tryz.call130 rfl rfl) (want_yes rfl) rfl rfl (c_spec_l8All (l := l) (hS.rd 0 rfl) (hS.rd 1 rfl) hx1) ?_
 rintro s3 w ⟨_, rfl, hk⟩
 replace hS := hS.after hk; clear hk
 refine om rfl rfl ?_
 obtain ⟨x2, hx2, hF⟩ := bindE hF
 refine ops_c (rc_call Tryz.call100 rfl rfl) (want_yes rfl) rfl rfl (c_spec_l8Has (l := x1) (x := slot) (hS.rdOwn 1 rfl) hx2) ?_
 rintro _ w ⟨rfl, hk⟩
 replace hS := hS.after hk; clear hk
 refine oa rfl rfl <| ops_nil fun a hA => cw_ret ?_
 cases hF
 exact fy Tryz.results132 hA rfl hS

theorem c_spec_l9State {w0 : World} {m : Mem} {slot : Int} {s1 : Value} {s2 : Value} {s3 : Value} {s4 : Value} {r : Int} (h1 : Rep.rd (All w0) w0 [s1] (m.Heap.Bytes : List Int)) (h2 : Rep.rd (All w0) w0 [s2] (m.Heap.Class : List Int)) (h3 : Rep.rd (All w0) w0 [s3] (m.Lists.Global : List SList)) (h4 : Rep.rd (All w0) w0 [s4] (m.Lists.Own : List SList)) (hF : spec_l9State m slot = some r) :
    Calls Tryz.prog 102 #[.agg #[s1, s2, s3, s4], .int .i64 (slot)] w0 (Ret fun v w' => v = .int .i64 (r) ∧ St (cxAll w0) w' [] []) := by
 have hS : St (cxAll w0) w0 [] [fRd [s1] (m.Heap.Bytes : List Int), fRd [s2] (m.Heap.Class : List Int), fRd [s3] (m.Lists.Global : List SList), fRd [s4] (m.Lists.Own : List SList)] := St.enter (by
   intro f hf
   simp only [List.mem_cons, List.not_mem_nil, or_false] at hf
   rcases hf with rfl | rfl | rfl | rfl
   · exact h1
   · exact h2
   · exact h3
   · exact h4)
 refine calls_cw (args := [_, _]) Tryz.func102 rfl Tryz.ntmps102 rfl ?_
 unfold spec_l9State at hF
 intro a hA
 refine cw_seq <| cw_ops hA ?_
 clear hA
 refine ops_mv (rv_box (cs := [s1, s2, s3, s4]) hS rfl rfl rfl) (want_yes rfl) rfl rfl ?_
 clear hS
 rintro _ w ⟨b1, rfl, hS⟩
 refine oa rfl rfl <| ops_nil fun a hA => cw_seq <| cw_block <| cw_seq <| cw_ops hA ?_
 clear hA
 refine oy (rv_fld (m := 1) Tryz.underlying43 rfl rfl Tryz.sizeOf38 rfl rfl) rfl <| oy (rv_loadN rfl rfl Tryz.isAgg38 Tryz.sizeOf38 rfl (hS.cells 0 0 (cs' := [s1, s2]) rfl rfl)) rfl <| om rfl rfl ?_
 obtain ⟨x1, hx1, hF⟩ := bindE hF
 refine ops_c (rc_call Tryz.call131 rfl rfl) (want_yes rfl) rfl rfl (c_spec_l7Class (h := m.Heap) (slot := slot) (hS.rd 0 rfl) (hS.rd 1 rfl) hx1) ?_
 rintro _ w ⟨rfl, hk⟩
 replace hS := hS.after hk; clear hk
 refine oy (rv_lss rfl rfl rfl) rfl <| oa rfl rfl <| ops_nil fun a hA => cw_cond hA rfl (fun hc1 => ?_) (fun hc1 => ?_)
 ·replace hF := iteT hc1 hF
  refine cw_seq <| cw_ops hA ?_
  clear hA
  refine oa rfl rfl <| ops_nil fun a hA => cw_ret ?_
  cases hF
  exact fy Tryz.results102 hA rfl hS
 ·replace hF := iteF hc1 hF
  refine cw_seq <| cw_ops hA ?_
  clear hA
  refine oy (rv_fld (m := 1) Tryz.underlying43 rfl rfl Tryz.sizeOf41 rfl rfl) rfl <| oy (rv_loadN rfl rfl Tryz.isAgg41 Tryz.sizeOf41 rfl (hS.cells 0 2 (cs' := [s3, s4]) rfl rfl)) rfl <| om rfl rfl ?_
  obtain ⟨x2, hx2, hF⟩ := bindE hF
  refine ops_c (rc_call Tryz.call132 rfl rfl) (want_yes rfl) rfl rfl (c_spec_OnList (l := m.Lists) (slot := slot) (hS.rd 2 rfl) (hS.rd 3 rfl) hx2) ?_
  rintro _ w ⟨rfl, hk⟩
  replace hS := hS.after hk; clear hk
  refine oa rfl rfl <| ops_nil fun a hA => cw_cond hA rfl (fun hc2 => ?_) (fun hc2 => ?_)
  ·replace hF := iteT hc2 hF
   refine cw_seq <| cw_ops hA ?_
   clear hA
   refine oa rfl rfl <| ops_nil fun a hA => cw_ret ?_
   cases hF
   exact fy Tryz.results102 hA rfl hS
  ·replace hF := iteF hc2 hF
   refine cw_seq <| cw_ops hA ?_
   clear hA
   refine oy (rv_fld (m := 1) Tryz.underlying43 rfl rfl Tryz.sizeOf38 rfl rfl) rfl <| oy (rv_loadN rfl rfl Tryz.isAgg38 Tryz.sizeOf38 rfl (hS.cells 0 0 (cs' := [s1, s2]) rfl rfl)) rfl <| om rfl rfl ?_
   obtain ⟨x3, hx3, hF⟩ := bindE hF
   refine ops_c (rc_call Tryz.call103 rfl rfl) (want_yes rfl) rfl rfl (c_spec_l7Gen (h := m.Heap) (slot := slot) (hS.rd 0 rfl) (hS.rd 1 rfl) hx3) ?_
   rintro _ w ⟨rfl, hk⟩
   replace hS := hS.after hk; clear hk
   refine oy (rv_gtr rfl rfl rfl) rfl <| oa rfl rfl <| ops_nil fun a hA => cw_cond hA rfl (fun hc3 => ?_) (fun hc3 => ?_)
   ·replace hF := iteT hc3 hF
    refine cw_seq <| cw_ops hA ?_
    clear hA
    refine oa rfl rfl <| ops_nil fun a hA => cw_ret ?_
    cases hF
    exact fy Tryz.results102 hA rfl hS
   ·replace hF := iteF hc3 hF
    refine cw_skip <| cw_seq <| cw_ops hA ?_
    clear hA
    refine oa rfl rfl <| ops_nil fun a hA => cw_ret ?_
    cases hF
    exact fy Tryz.results102 hA rfl hS

theorem c_spec_HandleGen {w0 : World} {h : Int}  {r : Int}  (hF : spec_HandleGen h = some r) :
    Calls Tryz.prog 104 #[.int .i64 (h)] w0 (Ret fun v w' => v = .int .i64 (r) ∧ St (cxAll w0) w' [] []) := by
 have hS : St (cxAll w0) w0 [] [] := St.enter (by
   intro f hf; cases hf)
 refine calls_cw (args := [_]) Tryz.func104 rfl Tryz.ntmps104 rfl ?_
 unfold spec_HandleGen at hF
 intro a hA
 refine cw_seq <| cw_ops hA ?_
 clear hA
 refine oa rfl rfl <| ops_nil fun a hA => cw_seq <| cw_seq <| cw_ops hA ?_
 clear hA
 refine om rfl rfl ?_
 obtain ⟨x1, hx1, hF⟩ := bindE hF
 refine ops_c (rc_call Tryz.call101 rfl rfl) (want_yes rfl) rfl rfl (c_spec_HandleOk (h := h)  hx1) ?_
 rintro _ w ⟨rfl, hk⟩
 replace hS := hS.after hk; clear hk
 refine oy (rv_not rfl rfl) rfl <| ops_nil fun a hA => cw_cond hA rfl (fun hc1 => ?_) (fun hc1 => ?_)
 ·replace hF := iteT hc1 hF
  refine cw_seq <| cw_ops hA ?_
  clear hA
  refine oa rfl rfl <| ops_nil fun a hA => cw_ret ?_
  cases hF
  exact fy Tryz.results104 hA rfl hS
 ·replace hF := iteF hc1 hF
  refine cw_skip <| cw_seq <| cw_ops hA ?_
  clear hA
  refine om rfl rfl <| oy (rv_quo rfl rfl rfl (by decide)) rfl <| oa rfl rfl <| ops_nil fun a hA => cw_ret ?_
  cases hF
  exact fy Tryz.results104 hA rfl hS

theorem c_spec_l9Valid {w0 : World} {m : Mem} {h : Int} {s1 : Value} {s2 : Value} {s3 : Value} {s4 : Value} {r : Bool} (h1 : Rep.rd (All w0) w0 [s1] (m.Heap.Bytes : List Int)) (h2 : Rep.rd (All w0) w0 [s2] (m.Heap.Class : List Int)) (h3 : Rep.rd (All w0) w0 [s3] (m.Lists.Global : List SList)) (h4 : Rep.rd (All w0) w0 [s4] (m.Lists.Own : List SList)) (hF : spec_l9Valid m h = some r) :
    Calls Tryz.prog 58 #[.agg #[s1, s2, s3, s4], .int .i64 (h)] w0 (Ret fun v w' => v = .bool (r) ∧ St (cxAll w0) w' [] []) := by
 have hS : St (cxAll w0) w0 [] [fRd [s1] (m.Heap.Bytes : List Int), fRd [s2] (m.Heap.Class : List Int), fRd [s3] (m.Lists.Global : List SList), fRd [s4] (m.Lists.Own : List SList)] := St.enter (by
   intro f hf
   simp only [List.mem_cons, List.not_mem_nil, or_false] at hf
   rcases hf with rfl | rfl | rfl | rfl
   · exact h1
   · exact h2
   · exact h3
   · exact h4)
 refine calls_cw (args := [_, _]) Tryz.func58 rfl Tryz.ntmps58 rfl ?_
 unfold spec_l9Valid at hF
 intro a hA
 refine cw_seq <| cw_ops hA ?_
 clear hA
 refine ops_mv (rv_box (cs := [s1, s2, s3, s4]) hS rfl rfl rfl) (want_yes rfl) rfl rfl ?_
 clear hS
 rintro _ w ⟨b1, rfl, hS⟩
 refine oa rfl rfl <| ops_nil fun a hA => cw_seq <| cw_cut (J := fun a' w' => ∃ (x1 : Bool), spec_l9Valid_j1 x1 = some r ∧ AEnv 24 [(4, .bool (x1))] a' ∧ St (cxAll w0) w' [] []) ?_ ?_
 ·skip
  refine cw_any (Keeps (cxAll w0) [cBox b1 [s1, s2, s3, s4]] [fRd [s1] (m.Heap.Bytes : List Int), fRd [s2] (m.Heap.Class : List Int), fRd [s3] (m.Lists.Global : List SList), fRd [s4] (m.Lists.Own : List SList)]) mixed_Tryz hA hS ?_
  clear hA hS; intro w hS
  have hK : Keeps (cxAll w0) [cBox b1 [s1, s2, s3, s4]] [fRd [s1] (m.Heap.Bytes : List Int), fRd [s2] (m.Heap.Class : List Int), fRd [s3] (m.Lists.Global : List SList), fRd [s4] (m.Lists.Own : List SList)] w := ⟨_, (hS.sel [0] rfl).selR [0, 1, 2, 3] rfl⟩
  refine ey 0 rfl (by kernel_rfl) hK (fun _ _ _ => (rv_move rfl rfl)) rfl ?_
  refine any_1 (i := 1) (by kernel_rfl) ?_
  obtain ⟨x2, hx2, hF⟩ := bindE hF
  refine as_c rfl (rc_call Tryz.call101 rfl rfl) (want_yes rfl) rfl rfl (c_spec_HandleOk (h := h)  hx2) ?_
  clear hK; rintro _ w ⟨rfl, hk⟩
  replace hS := hS.after hk; clear hk
  have hK := keepsI ((hS.sel [0] rfl).selR [0, 1, 2, 3] rfl)
  refine ⟨hK, ?_⟩
  refine ey 2 rfl (by kernel_rfl) hK (fun _ _ _ => (rv_move rfl rfl)) rfl ?_
  refine any_case (s := 7) rfl (fun hc1 => ?_) (fun hc1 => ?_)
  ·replace hF := iteT hc1 hF
   refine any_v 3 (by kernel_rfl) rfl (by kernel_rfl) (by kernel_rfl) hK (fun w hk => by obtain ⟨_, hS⟩ := hk; exact (rv_loadN rfl rfl Tryz.isAgg43 Tryz.sizeOf43 rfl (hS.cells 0 0 (cs' := [s1, s2, s3, s4]) rfl rfl))) (want_if rfl rfl rfl (by rw [hc1]; rfl)) rfl rfl ?_
   refine any_v 4 (by kernel_rfl) rfl (by kernel_rfl) (by kernel_rfl) hK (fun _ _ => (rv_move rfl rfl)) (want_if rfl rfl rfl (by rw [hc1]; rfl)) rfl rfl ?_
   refine any_1 (i := 5) (by kernel_rfl) ?_
   obtain ⟨x3, hx3, hF⟩ := bindE hF
   refine as_c rfl (rc_call Tryz.call99 rfl rfl) (want_if rfl rfl rfl (by rw [hc1]; rfl)) rfl rfl (c_spec_HandleSlot (h := h)  hx3) ?_
   clear hK; rintro _ w ⟨rfl, hk⟩
   replace hS := hS.after hk; clear hk
   have hK := keepsI ((hS.sel [0] rfl).selR [0, 1, 2, 3] rfl)
   refine ⟨hK, ?_⟩
   refine any_1 (i := 6) (by kernel_rfl) ?_
   obtain ⟨x4, hx4, hF⟩ := bindE hF
   refine as_c rfl (rc_call Tryz.call102 rfl rfl) (want_if rfl rfl rfl (by rw [hc1]; rfl)) rfl rfl (c_spec_l9State (m := m) (slot := x3) (hS.rd 0 rfl) (hS.rd 1 rfl) (hS.rd 2 rfl) (hS.rd 3 rfl) hx4) ?_
   clear hK; rintro _ w ⟨rfl, hk⟩
   replace hS := hS.after hk; clear hk
   have hK := keepsI ((hS.sel [0] rfl).selR [0, 1, 2, 3] rfl)
   refine ⟨hK, ?_⟩
   refine any_v 7 (by kernel_rfl) rfl (by kernel_rfl) (by kernel_rfl) hK (fun _ _ => (rv_eql rfl rfl rfl)) (want_if rfl rfl rfl (by rw [hc1]; rfl)) rfl rfl ?_
   refine ey 8 rfl (by kernel_rfl) hK (fun _ _ _ => (rv_pick_t rfl rfl hc1 rfl)) rfl ?_
   refine ey 9 rfl (by kernel_rfl) hK (fun _ _ _ => (rv_move rfl rfl)) rfl ?_
   refine any_case (s := 14) rfl (fun hc2 => ?_) (fun hc2 => ?_)
   ·replace hF := iteT hc2 hF
    refine any_v 10 (by kernel_rfl) rfl (by kernel_rfl) (by kernel_rfl) hK (fun _ _ => (rv_fld (m := 1) Tryz.underlying43 rfl rfl Tryz.sizeOf38 rfl rfl)) (want_if rfl rfl rfl (by rw [hc2]; rfl)) rfl rfl ?_
    refine any_v 11 (by kernel_rfl) rfl (by kernel_rfl) (by kernel_rfl) hK (fun w hk => by obtain ⟨_, hS⟩ := hk; exact (rv_loadN rfl rfl Tryz.isAgg38 Tryz.sizeOf38 rfl (hS.cells 0 0 (cs' := [s1, s2]) rfl rfl))) (want_if rfl rfl rfl (by rw [hc2]; rfl)) rfl rfl ?_
    refine any_v 12 (by kernel_rfl) rfl (by kernel_rfl) (by kernel_rfl) hK (fun _ _ => (rv_move rfl rfl)) (want_if rfl rfl rfl (by rw [hc2]; rfl)) rfl rfl ?_
    refine any_v 15 (by kernel_rfl) rfl (by kernel_rfl) (by kernel_rfl) hK (fun _ _ => (rv_move rfl rfl)) (want_if rfl rfl rfl (by rw [hc2]; rfl)) rfl rfl ?_
    refine any_1 (i := 13) (by kernel_rfl) ?_
    obtain ⟨x5, hx5, hF⟩ := bindE hF
    refine as_c rfl (rc_call Tryz.call99 rfl rfl) (want_if rfl rfl rfl (by rw [hc2]; rfl)) rfl rfl (c_spec_HandleSlot (h := h)  hx5) ?_
    clear hK; rintro _ w ⟨rfl, hk⟩
    replace hS := hS.after hk; clear hk
    have hK := keepsI ((hS.sel [0] rfl).selR [0, 1, 2, 3] rfl)
    refine ⟨hK, ?_⟩
    refine any_1 (i := 14) (by kernel_rfl) ?_
    obtain ⟨x6, hx6, hF⟩ := bindE hF
    refine as_c rfl (rc_call Tryz.call103 rfl rfl) (want_if rfl rfl rfl (by rw [hc2]; rfl)) rfl rfl (c_spec_l7Gen (h := m.Heap) (slot := x5) (hS.rd 0 rfl) (hS.rd 1 rfl) hx6) ?_
    clear hK; rintro _ w ⟨rfl, hk⟩
    replace hS := hS.after hk; clear hk
    have hK := keepsI ((hS.sel [0] rfl).selR [0, 1, 2, 3] rfl)
    refine ⟨hK, ?_⟩
    refine any_1 (i := 16) (by kernel_rfl) ?_
    obtain ⟨x7, hx7, hF⟩ := bindE hF
    refine as_c rfl (rc_call Tryz.call104 rfl rfl) (want_if rfl rfl rfl (by rw [hc2]; rfl)) rfl rfl (c_spec_HandleGen (h := h)  hx7) ?_
    clear hK; rintro _ w ⟨rfl, hk⟩
    replace hS := hS.after hk; clear hk
    have hK := keepsI ((hS.sel [0] rfl).selR [0, 1, 2, 3] rfl)
    refine ⟨hK, ?_⟩
    refine any_v 17 (by kernel_rfl) rfl (by kernel_rfl) (by kernel_rfl) hK (fun _ _ => (rv_eql rfl rfl rfl)) (want_if rfl rfl rfl (by rw [hc2]; rfl)) rfl rfl ?_
    refine ey 18 rfl (by kernel_rfl) hK (fun _ _ _ => (rv_pick_t rfl rfl hc2 rfl)) rfl ?_
    refine ey 19 rfl (by kernel_rfl) hK (fun _ _ _ => (rv_assign rfl rfl)) rfl ?_
    refine any_done (by kernel_rfl) ?_
    intro a hA
    exact ⟨x6 == x7, hF, hA.part ⟨rfl, trivial⟩, ((hS).sel [] rfl).selR [] rfl⟩
   ·replace hF := iteF hc2 hF
    refine any_off 10 (by kernel_rfl) rfl (by kernel_rfl) (by kernel_rfl) hK (want_if rfl rfl rfl (by rw [hc2]; rfl)) rfl rfl ?_
    refine any_off 11 (by kernel_rfl) rfl (by kernel_rfl) (by kernel_rfl) hK (want_if rfl rfl rfl (by rw [hc2]; rfl)) rfl rfl ?_
    refine any_off 12 (by kernel_rfl) rfl (by kernel_rfl) (by kernel_rfl) hK (want_if rfl rfl rfl (by rw [hc2]; rfl)) rfl rfl ?_
    refine any_off 13 (by kernel_rfl) rfl (by kernel_rfl) (by kernel_rfl) hK (want_if rfl rfl rfl (by rw [hc2]; rfl)) rfl rfl ?_
    refine any_off 14 (by kernel_rfl) rfl (by kernel_rfl) (by kernel_rfl) hK (want_if rfl rfl rfl (by rw [hc2]; rfl)) rfl rfl ?_
    refine any_off 15 (by kernel_rfl) rfl (by kernel_rfl) (by kernel_rfl) hK (want_if rfl rfl rfl (by rw [hc2]; rfl)) rfl rfl ?_
    refine any_off 16 (by kernel_rfl) rfl (by kernel_rfl) (by kernel_rfl) hK (want_if rfl rfl rfl (by rw [hc2]; rfl)) rfl rfl ?_
    refine any_off 17 (by kernel_rfl) rfl (by kernel_rfl) (by kernel_rfl) hK (want_if rfl rfl rfl (by rw [hc2]; rfl)) rfl rfl ?_
    refine ey 18 rfl (by kernel_rfl) hK (fun _ _ _ => (rv_pick_f rfl rfl hc2 rfl)) rfl ?_
    refine ey 19 rfl (by kernel_rfl) hK (fun _ _ _ => (rv_assign rfl rfl)) rfl ?_
    refine any_done (by kernel_rfl) ?_
    intro a hA
    exact ⟨false, hF, hA.part ⟨rfl, trivial⟩, ((hS).sel [] rfl).selR [] rfl⟩
  ·replace hF := iteF hc1 hF
   refine any_off 3 (by kernel_rfl) rfl (by kernel_rfl) (by kernel_rfl) hK (want_if rfl rfl rfl (by rw [hc1]; rfl)) rfl rfl ?_
   refine any_off 4 (by kernel_rfl) rfl (by kernel_rfl) (by kernel_rfl) hK (want_if rfl rfl rfl (by rw [hc1]; rfl)) rfl rfl ?_
   refine any_off 5 (by kernel_rfl) rfl (by kernel_rfl) (by kernel_rfl) hK (want_if rfl rfl rfl (by rw [hc1]; rfl)) rfl rfl ?_
   refine any_off 6 (by kernel_rfl) rfl (by kernel_rfl) (by kernel_rfl) hK (want_if rfl rfl rfl (by rw [hc1]; rfl)) rfl rfl ?_
   refine any_off 7 (by kernel_rfl) rfl (by kernel_rfl) (by kernel_rfl) hK (want_if rfl rfl rfl (by rw [hc1]; rfl)) rfl rfl ?_
   refine ey 8 rfl (by kernel_rfl) hK (fun _ _ _ => (rv_pick_f rfl rfl hc1 rfl)) rfl ?_
   refine ey 9 rfl (by kernel_rfl) hK (fun _ _ _ => (rv_move rfl rfl)) rfl ?_
   refine any_off 10 (by kernel_rfl) rfl (by kernel_rfl) (by kernel_rfl) hK (want_if rfl rfl rfl rfl) rfl rfl ?_
   refine any_off 11 (by kernel_rfl) rfl (by kernel_rfl) (by kernel_rfl) hK (want_if rfl rfl rfl rfl) rfl rfl ?_
   refine any_off 12 (by kernel_rfl) rfl (by kernel_rfl) (by kernel_rfl) hK (want_if rfl rfl rfl rfl) rfl rfl ?_
   refine any_off 13 (by kernel_rfl) rfl (by kernel_rfl) (by kernel_rfl) hK (want_if rfl rfl rfl rfl) rfl rfl ?_
   refine any_off 14 (by kernel_rfl) rfl (by kernel_rfl) (by kernel_rfl) hK (want_if rfl rfl rfl rfl) rfl rfl ?_
   refine any_off 15 (by kernel_rfl) rfl (by kernel_rfl) (by kernel_rfl) hK (want_if rfl rfl rfl rfl) rfl rfl ?_
   refine any_off 16 (by kernel_rfl) rfl (by kernel_rfl) (by kernel_rfl) hK (want_if rfl rfl rfl rfl) rfl rfl ?_
   refine any_off 17 (by kernel_rfl) rfl (by kernel_rfl) (by kernel_rfl) hK (want_if rfl rfl rfl rfl) rfl rfl ?_
   refine ey 18 rfl (by kernel_rfl) hK (fun _ _ _ => (rv_pick_f rfl rfl rfl rfl)) rfl ?_
   refine ey 19 rfl (by kernel_rfl) hK (fun _ _ _ => (rv_assign rfl rfl)) rfl ?_
   refine any_done (by kernel_rfl) ?_
   intro a hA
   exact ⟨false, hF, hA.part ⟨rfl, trivial⟩, ((hS).sel [] rfl).selR [] rfl⟩
 ·skip
  clear hA hS hF
  rintro a w ⟨x1, hF, hA, hS⟩
  unfold spec_l9Valid_j1 at hF
  refine cw_ret ?_
  cases hF
  exact fy Tryz.results58 hA rfl hS

theorem c_spec_BaseOk {w0 : World} {b : Base} {s1 : Value} {s2 : Value} {s3 : Value} {s4 : Value} {s5 : Value} {s6 : Value} {s7 : Value} {r : Bool} (h1 : Rep.rd (All w0) w0 [s1] (b.Mem.Heap.Bytes : List Int)) (h2 : Rep.rd (All w0) w0 [s2] (b.Mem.Heap.Class : List Int)) (h3 : Rep.rd (All w0) w0 [s3] (b.Mem.Lists.Global : List SList)) (h4 : Rep.rd (All w0) w0 [s4] (b.Mem.Lists.Own : List SList)) (h5 : Rep.rd (All w0) w0 [s5] (b.Clock.Pins : List Pin)) (h6 : Rep.rd (All w0) w0 [s6] (b.Limbo : List LList)) (h7 : Rep.rd (All w0) w0 [s7] (b.Haz : List Int)) (hF : spec_BaseOk b = some r) :
    Calls Tryz.prog 18 #[.agg #[s1, s2, s3, s4, .int .i64 (b.Clock.Epoch), s5, s6, s7]] w0 (Ret fun v w' => v = .bool (r) ∧ St (cxAll w0) w' [] []) := by
 have hS : St (cxAll w0) w0 [] [fRd [s1] (b.Mem.Heap.Bytes : List Int), fRd [s2] (b.Mem.Heap.Class : List Int), fRd [s3] (b.Mem.Lists.Global : List SList), fRd [s4] (b.Mem.Lists.Own : List SList), fRd [s5] (b.Clock.Pins : List Pin), fRd [s6] (b.Limbo : List LList), fRd [s7] (b.Haz : List Int)] := St.enter (by
   intro f hf
   simp only [List.mem_cons, List.not_mem_nil, or_false] at hf
   rcases hf with rfl | rfl | rfl | rfl | rfl | rfl | rfl
   · exact h1
   · exact h2
   · exact h3
   · exact h4
   · exact h5
   · exact h6
   · exact h7)
 refine calls_cw (args := [_]) Tryz.func18 rfl Tryz.ntmps18 rfl ?_
 unfold spec_BaseOk at hF
 intro a hA
 refine cw_seq <| cw_ops hA ?_
 clear hA
 refine ops_mv (rv_box (cs := [s1, s2, s3, s4, .int .i64 (b.Clock.Epoch), s5, s6, s7]) hS rfl rfl rfl) (want_yes rfl) rfl rfl ?_
 clear hS
 rintro _ w ⟨b1, rfl, hS⟩
 refine oa rfl rfl <| ops_nil fun a hA => cw_seq <| cw_seq <| cw_cut (J := fun a' w' => ∃ (x1 : Bool), spec_BaseOk_j1 b x1 = some r ∧ AEnv 56 [(1, .pointer (some ⟨b1, 0, none⟩)), (26, .bool (x1))] a' ∧ St (cxAll w0) w' [cBox b1 [s1, s2, s3, s4, .int .i64 (b.Clock.Epoch), s5, s6, s7]] [fRd [s1] (b.Mem.Heap.Bytes : List Int), fRd [s2] (b.Mem.Heap.Class : List Int), fRd [s3] (b.Mem.Lists.Global : List SList), fRd [s4] (b.Mem.Lists.Own : List SList), fRd [s5] (b.Clock.Pins : List Pin), fRd [s6] (b.Limbo : List LList), fRd [s7] (b.Haz : List Int)]) ?_ ?_
 ·skip
  refine cw_ops hA ?_
  clear hA
  refine oy (rv_fld (m := 3) Tryz.underlying49 rfl rfl Tryz.sizeOf43 rfl rfl) rfl <| oy (rv_loadN rfl rfl Tryz.isAgg43 Tryz.sizeOf43 rfl (hS.cells 0 0 (cs' := [s1, s2, s3, s4]) rfl rfl)) rfl ?_
  obtain ⟨x9, hx9, hF⟩ := bindE hF
  refine ops_c (rc_call Tryz.call53 rfl rfl) (want_yes rfl) rfl rfl (c_spec_MemOk (m := b.Mem) (hS.rd 0 rfl) (hS.rd 1 rfl) (hS.rd 2 rfl) (hS.rd 3 rfl) hx9) ?_
  rintro _ w ⟨rfl, hk⟩
  replace hS := hS.after hk; clear hk
  refine oy (rv_not rfl rfl) rfl <| om rfl rfl <| ops_case (s := 9) rfl (fun hc5 => ?_) (fun hc5 => ?_)
  ·replace hF := iteT hc5 hF
   refine ops_off (want_if rfl rfl rfl (by rw [hc5]; rfl)) rfl rfl <| ops_off (want_if rfl rfl rfl (by rw [hc5]; rfl)) rfl rfl <| ops_off (want_if rfl rfl rfl (by rw [hc5]; rfl)) rfl rfl <| ops_off (want_if rfl rfl rfl (by rw [hc5]; rfl)) rfl rfl <| oy (rv_pick_t rfl rfl hc5 rfl) rfl <| om rfl rfl <| ops_off (want_if rfl rfl rfl rfl) rfl rfl <| ops_off (want_if rfl rfl rfl rfl) rfl rfl <| ops_off (want_if rfl rfl rfl rfl) rfl rfl ?_
   refine ops_off (want_if rfl rfl rfl rfl) rfl rfl <| oy (rv_pick_t rfl rfl rfl rfl) rfl <| om rfl rfl <| ops_off (want_if rfl rfl rfl rfl) rfl rfl <| ops_off (want_if rfl rfl rfl rfl) rfl rfl <| ops_off (want_if rfl rfl rfl rfl) rfl rfl <| ops_off (want_if rfl rfl rfl rfl) rfl rfl <| oy (rv_pick_t rfl rfl rfl rfl) rfl <| ops_nil fun a hA => ?_
   exact ⟨true, hF, hA.part ⟨rfl, rfl, trivial⟩, ((hS).sel [0] rfl).selR [0, 1, 2, 3, 4, 5, 6] rfl⟩
  ·replace hF := iteF hc5 hF
   refine ops_v (rv_fld (m := 1) Tryz.underlying49 rfl rfl Tryz.sizeOf46 rfl rfl) (want_if rfl rfl rfl (by rw [hc5]; rfl)) rfl rfl <| ops_v (rv_loadN rfl rfl Tryz.isAgg46 Tryz.sizeOf46 rfl (hS.cells 0 4 (cs' := [.int .i64 (b.Clock.Epoch), s5]) rfl rfl)) (want_if rfl rfl rfl (by rw [hc5]; rfl)) rfl rfl ?_
   obtain ⟨x10, hx10, hF⟩ := bindE hF
   refine ops_c (rc_call Tryz.call54 rfl rfl) (want_if rfl rfl rfl (by rw [hc5]; rfl)) rfl rfl (c_spec_ClockOk (c := b.Clock) (hS.rd 4 rfl) hx10) ?_
   rintro _ w ⟨rfl, hk⟩
   replace hS := hS.after hk; clear hk
   refine ops_v (rv_not rfl rfl) (want_if rfl rfl rfl (by rw [hc5]; rfl)) rfl rfl <| oy (rv_pick_f rfl rfl hc5 rfl) rfl <| om rfl rfl <| ops_case (s := 15) rfl (fun hc6 => ?_) (fun hc6 => ?_)
   ·replace hF := iteT hc6 hF
    refine ops_off (want_if rfl rfl rfl (by rw [hc6]; rfl)) rfl rfl <| ops_off (want_if rfl rfl rfl (by rw [hc6]; rfl)) rfl rfl <| ops_off (want_if rfl rfl rfl (by rw [hc6]; rfl)) rfl rfl <| ops_off (want_if rfl rfl rfl (by rw [hc6]; rfl)) rfl rfl <| oy (rv_pick_t rfl rfl hc6 rfl) rfl <| om rfl rfl <| ops_off (want_if rfl rfl rfl rfl) rfl rfl <| ops_off (want_if rfl rfl rfl rfl) rfl rfl <| ops_off (want_if rfl rfl rfl rfl) rfl rfl ?_
    refine ops_off (want_if rfl rfl rfl rfl) rfl rfl <| oy (rv_pick_t rfl rfl rfl rfl) rfl <| ops_nil fun a hA => ?_
    exact ⟨true, hF, hA.part ⟨rfl, rfl, trivial⟩, ((hS).sel [0] rfl).selR [0, 1, 2, 3, 4, 5, 6] rfl⟩
   ·replace hF := iteF hc6 hF
    refine ops_v (rv_fld (m := 0) Tryz.underlying49 rfl rfl Tryz.sizeOf47 rfl rfl) (want_if rfl rfl rfl (by rw [hc6]; rfl)) rfl rfl <| ops_v (rv_load1 rfl rfl Tryz.isAgg47 (hS.cell 0 rfl rfl)) (want_if rfl rfl rfl (by rw [hc6]; rfl)) rfl rfl ?_
    obtain ⟨x11, hx11, hF⟩ := bindE hF
    refine ops_c (rc_call Tryz.call55 rfl rfl) (want_if rfl rfl rfl (by rw [hc6]; rfl)) rfl rfl (c_spec_LimboOk (l := b.Limbo) (hS.rd 5 rfl) hx11) ?_
    rintro _ w ⟨rfl, hk⟩
    replace hS := hS.after hk; clear hk
    refine ops_v (rv_not rfl rfl) (want_if rfl rfl rfl (by rw [hc6]; rfl)) rfl rfl <| oy (rv_pick_f rfl rfl hc6 rfl) rfl <| om rfl rfl <| ops_case (s := 21) rfl (fun hc7 => ?_) (fun hc7 => ?_)
    ·replace hF := iteT hc7 hF
     refine ops_off (want_if rfl rfl rfl (by rw [hc7]; rfl)) rfl rfl <| ops_off (want_if rfl rfl rfl (by rw [hc7]; rfl)) rfl rfl <| ops_off (want_if rfl rfl rfl (by rw [hc7]; rfl)) rfl rfl <| ops_off (want_if rfl rfl rfl (by rw [hc7]; rfl)) rfl rfl <| oy (rv_pick_t rfl rfl hc7 rfl) rfl <| ops_nil fun a hA => ?_
     exact ⟨true, hF, hA.part ⟨rfl, rfl, trivial⟩, ((hS).sel [0] rfl).selR [0, 1, 2, 3, 4, 5, 6] rfl⟩
    ·replace hF := iteF hc7 hF
     refine ops_v (rv_fld (m := 0) Tryz.underlying49 rfl rfl Tryz.sizeOf22 rfl rfl) (want_if rfl rfl rfl (by rw [hc7]; rfl)) rfl rfl <| ops_v (rv_load1 rfl rfl Tryz.isAgg22 (hS.cell 0 rfl rfl)) (want_if rfl rfl rfl (by rw [hc7]; rfl)) rfl rfl ?_
     obtain ⟨x12, hx12, hF⟩ := bindE hF
     refine ops_c (rc_call Tryz.call56 rfl rfl) (want_if rfl rfl rfl (by rw [hc7]; rfl)) rfl rfl (c_spec_HazOk (z := b.Haz) (hS.rd 6 rfl) hx12) ?_
     rintro _ w ⟨rfl, hk⟩
     replace hS := hS.after hk; clear hk
     refine ops_v (rv_not rfl rfl) (want_if rfl rfl rfl (by rw [hc7]; rfl)) rfl rfl <| oy (rv_pick_f rfl rfl hc7 rfl) rfl <| ops_nil fun a hA => ?_
     exact ⟨!x12, hF, hA.part ⟨rfl, rfl, trivial⟩, ((hS).sel [0] rfl).selR [0, 1, 2, 3, 4, 5, 6] rfl⟩
 ·skip
  clear hA hS hF
  rintro a w ⟨x1, hF, hA, hS⟩
  unfold spec_BaseOk_j1 at hF
  refine cw_cond hA rfl (fun hc1 => ?_) (fun hc1 => ?_)
  ·replace hF := iteT hc1 hF
   refine cw_seq <| cw_ops hA ?_
   clear hA
   refine oa rfl rfl <| ops_nil fun a hA => cw_ret ?_
   cases hF
   exact fy Tryz.results18 hA rfl hS
  ·replace hF := iteF hc1 hF
   refine cw_skip <| cw_seq <| cw_ops hA ?_
   clear hA
   refine oy (rv_fld (m := 0) Tryz.underlying49 rfl rfl Tryz.sizeOf47 rfl rfl) rfl <| oy (rv_load1 rfl rfl Tryz.isAgg47 (hS.cell 0 rfl rfl)) rfl ?_
   obtain ⟨x2, hx2, hF⟩ := bindE hF
   refine ops_c (rc_call Tryz.call57 rfl rfl) (want_yes rfl) rfl rfl (c_spec_l11All (l := b.Limbo) (hS.rd 5 rfl) hx2) ?_
   rintro s8 w ⟨_, rfl, hk⟩
   replace hS := hS.after hk; clear hk
   refine oa rfl rfl <| ops_nil fun a hA => cw_seq <| cw_seq <| cw_ops hA ?_
   clear hA
   refine oa rfl rfl <| ops_nil fun a hA => ?_
   obtain ⟨o1, hl1, hF⟩ := bindE hF
   refine cw_cut (J := fun a' w' => o1 = Out.brk (()) ∧ AEnv 56 [] a' ∧ St (cxAll w0) w' [] []) ?_ ?_
   ·refine cw_block ?_
    refine cw_loop (body := spec_BaseOk_l2 b x2) (r := o1) (fun sg a' w' => AEnv 56 [(1, .pointer (some ⟨b1, 0, none⟩)), (3, s8), (4, .int .i64 (sg))] a' ∧ St (cxAll w0) w' [cOwn [s8] (x2 : List LRow), cBox b1 [s1, s2, s3, s4, .int .i64 (b.Clock.Epoch), s5, s6, s7]] [fRd [s1] (b.Mem.Heap.Bytes : List Int), fRd [s2] (b.Mem.Heap.Class : List Int), fRd [s3] (b.Mem.Lists.Global : List SList), fRd [s4] (b.Mem.Lists.Own : List SList), fRd [s5] (b.Clock.Pins : List Pin), fRd [s6] (b.Limbo : List LList), fRd [s7] (b.Haz : List Int)]) ?_ hl1 ⟨hA.part ⟨rfl, rfl, rfl, trivial⟩, ((hS).sel [1, 0] rfl).selR [0, 1, 2, 3, 4, 5, 6] rfl⟩
    clear hA hS hl1
    rintro x4 a w q2 ⟨hA, hS⟩ hG2 hr2
    try dsimp only at hA hS
    unfold spec_BaseOk_l2 at hG2
    refine cw_seq <| cw_seq <| cw_ops hA ?_
    clear hA
    refine om rfl rfl <| om rfl rfl <| oy (rv_lenS (hS.rdOwn 0 rfl) Tryz.underlying67 rfl rfl) rfl <| oy (rv_lss rfl rfl rfl) rfl <| ops_nil fun a hA => cw_cond hA rfl (fun hc2 => ?_) (fun hc2 => ?_)
    ·replace hG2 := iteT hc2 hG2
     refine cw_skip <| cw_seq <| cw_block <| cw_seq <| cw_cut (J := fun a' w' => ∃ (x5 : Bool), spec_BaseOk_j3 x4 x5 = some q2 ∧ AEnv 56 [(1, .pointer (some ⟨b1, 0, none⟩)), (3, s8), (4, .int .i64 (x4)), (55, .bool (x5))] a' ∧ St (cxAll w0) w' [cOwn [s8] (x2 : List LRow), cBox b1 [s1, s2, s3, s4, .int .i64 (b.Clock.Epoch), s5, s6, s7]] [fRd [s1] (b.Mem.Heap.Bytes : List Int), fRd [s2] (b.Mem.Heap.Class : List Int), fRd [s3] (b.Mem.Lists.Global : List SList), fRd [s4] (b.Mem.Lists.Own : List SList), fRd [s5] (b.Clock.Pins : List Pin), fRd [s6] (b.Limbo : List LList), fRd [s7] (b.Haz : List Int)]) ?_ ?_
     ·skip
      refine cw_any (Keeps (cxAll w0) [cOwn [s8] (x2 : List LRow), cBox b1 [s1, s2, s3, s4, .int .i64 (b.Clock.Epoch), s5, s6, s7]] [fRd [s1] (b.Mem.Heap.Bytes : List Int), fRd [s2] (b.Mem.Heap.Class : List Int), fRd [s3] (b.Mem.Lists.Global : List SList), fRd [s4] (b.Mem.Lists.Own : List SList), fRd [s5] (b.Clock.Pins : List Pin), fRd [s6] (b.Limbo : List LList), fRd [s7] (b.Haz : List Int)]) mixed_Tryz hA hS ?_
      clear hA hS; intro w hS
      have hK : Keeps (cxAll w0) [cOwn [s8] (x2 : List LRow), cBox b1 [s1, s2, s3, s4, .int .i64 (b.Clock.Epoch), s5, s6, s7]] [fRd [s1] (b.Mem.Heap.Bytes : List Int), fRd [s2] (b.Mem.Heap.Class : List Int), fRd [s3] (b.Mem.Lists.Global : List SList), fRd [s4] (b.Mem.Lists.Own : List SList), fRd [s5] (b.Clock.Pins : List Pin), fRd [s6] (b.Limbo : List LList), fRd [s7] (b.Haz : List Int)] w := ⟨_, (hS.sel [0, 1] rfl).selR [0, 1, 2, 3, 4, 5, 6] rfl⟩
      refine ey 0 rfl (by kernel_rfl) hK (fun _ _ _ => (rv_fld (m := 3) Tryz.underlying49 rfl rfl Tryz.sizeOf43 rfl rfl)) rfl ?_
      refine ey 1 rfl (by kernel_rfl) hK (fun _ _ hS => (rv_loadN rfl rfl Tryz.isAgg43 Tryz.sizeOf43 rfl (hS.cells 1 0 (cs' := [s1, s2, s3, s4]) rfl rfl))) rfl ?_
      refine ey 2 rfl (by kernel_rfl) hK (fun _ _ _ => (rv_move rfl rfl)) rfl ?_
      refine ey 3 rfl (by kernel_rfl) hK (fun _ _ _ => (rv_move rfl rfl)) rfl ?_
      obtain ⟨x6, hx6, hG2⟩ := bindE hG2
      refine ey 4 rfl (by kernel_rfl) hK (fun _ _ hS => (rv_idx (m := 2) (hS.rdOwn 0 rfl) rfl hx6 Tryz.underlying67 Tryz.sizeOf71 rfl rfl rfl)) rfl ?_
      refine ey 5 rfl (by kernel_rfl) hK (fun _ _ _ => (rv_fld (m := 0) Tryz.underlying71 rfl rfl Tryz.sizeOf3 rfl rfl)) rfl ?_
      refine ey 6 rfl (by kernel_rfl) hK (fun _ _ hS => (rv_load1 rfl rfl Tryz.isAgg3 (cell1 (CellsAt.sub (cs' := [.int .i64 (x6.Handle)]) (el_LRow (hS.rdOwn 0 rfl) (idx_some hx6).2.2) 0 rfl rfl)))) rfl ?_
      refine any_1 (i := 7) (by kernel_rfl) ?_
      obtain ⟨x7, hx7, hG2⟩ := bindE hG2
      refine as_c rfl (rc_call Tryz.call58 rfl rfl) (want_yes rfl) rfl rfl (c_spec_l9Valid (m := b.Mem) (h := x6.Handle) (hS.rd 0 rfl) (hS.rd 1 rfl) (hS.rd 2 rfl) (hS.rd 3 rfl) hx7) ?_
      clear hK; rintro _ w ⟨rfl, hk⟩
      replace hS := hS.after hk; clear hk
      have hK := keepsI ((hS.sel [0, 1] rfl).selR [0, 1, 2, 3, 4, 5, 6] rfl)
      refine ⟨hK, ?_⟩
      refine ey 8 rfl (by kernel_rfl) hK (fun _ _ _ => (rv_not rfl rfl)) rfl ?_
      refine ey 9 rfl (by kernel_rfl) hK (fun _ _ _ => (rv_move rfl rfl)) rfl ?_
      refine any_case (s := 45) rfl (fun hc4 => ?_) (fun hc4 => ?_)
      ·replace hG2 := iteT hc4 hG2
       refine any_off 10 (by kernel_rfl) rfl (by kernel_rfl) (by kernel_rfl) hK (want_if rfl rfl rfl (by rw [hc4]; rfl)) rfl rfl ?_
       refine any_off 11 (by kernel_rfl) rfl (by kernel_rfl) (by kernel_rfl) hK (want_if rfl rfl rfl (by rw [hc4]; rfl)) rfl rfl ?_
       refine any_off 12 (by kernel_rfl) rfl (by kernel_rfl) (by kernel_rfl) hK (want_if rfl rfl rfl (by rw [hc4]; rfl)) rfl rfl ?_
       refine any_off 13 (by kernel_rfl) rfl (by kernel_rfl) (by kernel_rfl) hK (want_if rfl rfl rfl (by rw [hc4]; rfl)) rfl rfl ?_
       refine any_off 14 (by kernel_rfl) rfl (by kernel_rfl) (by kernel_rfl) hK (want_if rfl rfl rfl (by rw [hc4]; rfl)) rfl rfl ?_
       refine any_off 15 (by kernel_rfl) rfl (by kernel_rfl) (by kernel_rfl) hK (want_if rfl rfl rfl (by rw [hc4]; rfl)) rfl rfl ?_
       refine any_off 16 (by kernel_rfl) rfl (by kernel_rfl) (by kernel_rfl) hK (want_if rfl rfl rfl (by rw [hc4]; rfl)) rfl rfl ?_
       refine any_off 17 (by kernel_rfl) rfl (by kernel_rfl) (by kernel_rfl) hK (want_if rfl rfl rfl (by rw [hc4]; rfl)) rfl rfl ?_
       refine any_off 18 (by kernel_rfl) rfl (by kernel_rfl) (by kernel_rfl) hK (want_if rfl rfl rfl (by rw [hc4]; rfl)) rfl rfl ?_
       refine ey 19 rfl (by kernel_rfl) hK (fun _ _ _ => (rv_pick_t rfl rfl hc4 rfl)) rfl ?_
       refine any_done (by kernel_rfl) ?_
       intro a hA
       exact ⟨true, hG2, hA.part ⟨rfl, rfl, rfl, rfl, trivial⟩, ((hS).sel [0, 1] rfl).selR [0, 1, 2, 3, 4, 5, 6] rfl⟩
      ·replace hG2 := iteF hc4 hG2
       refine any_v 10 (by kernel_rfl) rfl (by kernel_rfl) (by kernel_rfl) hK (fun _ _ => (rv_move rfl rfl)) (want_if rfl rfl rfl (by rw [hc4]; rfl)) rfl rfl ?_
       refine any_v 11 (by kernel_rfl) rfl (by kernel_rfl) (by kernel_rfl) hK (fun _ _ => (rv_move rfl rfl)) (want_if rfl rfl rfl (by rw [hc4]; rfl)) rfl rfl ?_
       obtain ⟨x8, hx8, hG2⟩ := bindE hG2
       refine any_v 12 (by kernel_rfl) rfl (by kernel_rfl) (by kernel_rfl) hK (fun w hk => by obtain ⟨_, hS⟩ := hk; exact (rv_idx (m := 2) (hS.rdOwn 0 rfl) rfl hx8 Tryz.underlying67 Tryz.sizeOf71 rfl rfl rfl)) (want_if rfl rfl rfl (by rw [hc4]; rfl)) rfl rfl ?_
       refine any_v 13 (by kernel_rfl) rfl (by kernel_rfl) (by kernel_rfl) hK (fun _ _ => (rv_fld (m := 0) Tryz.underlying71 rfl rfl Tryz.sizeOf3 rfl rfl)) (want_if rfl rfl rfl (by rw [hc4]; rfl)) rfl rfl ?_
       refine any_v 14 (by kernel_rfl) rfl (by kernel_rfl) (by kernel_rfl) hK (fun w hk => by obtain ⟨_, hS⟩ := hk; exact (rv_load1 rfl rfl Tryz.isAgg3 (cell1 (CellsAt.sub (cs' := [.int .i64 (x8.Epoch)]) (el_LRow (hS.rdOwn 0 rfl) (idx_some hx8).2.2) 1 rfl rfl)))) (want_if rfl rfl rfl (by rw [hc4]; rfl)) rfl rfl ?_
       refine any_v 15 (by kernel_rfl) rfl (by kernel_rfl) (by kernel_rfl) hK (fun _ _ => (rv_fld (m := 1) Tryz.underlying49 rfl rfl Tryz.sizeOf46 rfl rfl)) (want_if rfl rfl rfl (by rw [hc4]; rfl)) rfl rfl ?_
       refine any_v 16 (by kernel_rfl) rfl (by kernel_rfl) (by kernel_rfl) hK (fun _ _ => (rv_fld (m := 0) Tryz.underlying46 rfl rfl Tryz.sizeOf3 rfl rfl)) (want_if rfl rfl rfl (by rw [hc4]; rfl)) rfl rfl ?_
       refine any_v 17 (by kernel_rfl) rfl (by kernel_rfl) (by kernel_rfl) hK (fun w hk => by obtain ⟨_, hS⟩ := hk; exact (rv_load1 rfl rfl Tryz.isAgg3 (hS.cell 1 rfl rfl))) (want_if rfl rfl rfl (by rw [hc4]; rfl)) rfl rfl ?_
       refine any_v 18 (by kernel_rfl) rfl (by kernel_rfl) (by kernel_rfl) hK (fun _ _ => (rv_gtr rfl rfl rfl)) (want_if rfl rfl rfl (by rw [hc4]; rfl)) rfl rfl ?_
       refine ey 19 rfl (by kernel_rfl) hK (fun _ _ _ => (rv_pick_f rfl rfl hc4 rfl)) rfl ?_
       refine any_done (by kernel_rfl) ?_
       intro a hA
       exact ⟨decide (b.Clock.Epoch < x8.Epoch), hG2, hA.part ⟨rfl, rfl, rfl, rfl, trivial⟩, ((hS).sel [0, 1] rfl).selR [0, 1, 2, 3, 4, 5, 6] rfl⟩
     ·skip
      clear hA hS hG2
      rintro a w ⟨x5, hG2, hA, hS⟩
      unfold spec_BaseOk_j3 at hG2
      refine cw_cond hA rfl (fun hc3 => ?_) (fun hc3 => ?_)
      ·replace hG2 := iteT hc3 hG2
       refine cw_seq <| cw_ops hA ?_
       clear hA
       refine oa rfl rfl <| ops_nil fun a hA => cw_ret ?_
       cases hG2
       have ho := hr2 _ rfl; subst ho
       replace hF : some false = some r := hF
       cases hF
       exact fy Tryz.results18 hA rfl hS
      ·replace hG2 := iteF hc3 hG2
       refine cw_skip <| cw_ops hA ?_
       clear hA
       refine om rfl rfl <| oy (rv_add rfl rfl rfl) rfl <| oa rfl rfl <| ops_nil fun a hA => ?_
       cases hG2
       exact ⟨_, rfl, ⟨hA.part ⟨rfl, rfl, rfl, trivial⟩, ((hS).sel [0, 1] rfl).selR [0, 1, 2, 3, 4, 5, 6] rfl⟩⟩
    ·replace hG2 := iteF hc2 hG2
     refine cw_exit <| xcons_hit ?_
     cases hG2
     have ho := hr2 _ rfl; subst ho
     exact ⟨rfl, hA.part trivial, ((hS).sel [] rfl).selR [] rfl⟩
   ·skip
    clear hA hS hl1
    rintro a w ⟨heq, hA, hS⟩
    replace hF : spec_BaseOk_j2 = some r := by rw [heq] at hF; exact hF
    clear heq
    unfold spec_BaseOk_j2 at hF
    refine cw_seq <| cw_ops hA ?_
    clear hA
    refine oa rfl rfl <| ops_nil fun a hA => cw_ret ?_
    cases hF
    exact fy Tryz.results18 hA rfl hS

theorem c_spec_l30Slots {w0 : World} {l : List SList} {s1 : Value} {r : (List UInt8)} (h1 : Rep.rd (All w0) w0 [s1] (l : List SList)) (hF : spec_l30Slots l = some r) :
    Calls Tryz.prog 59 #[s1] w0 (Ret fun v w' => v = sv (r) ∧ St (cxAll w0) w' [] []) := by
 have hS : St (cxAll w0) w0 [] [fRd [s1] (l : List SList)] := St.enter (by
   intro f hf
   simp only [List.mem_cons, List.not_mem_nil, or_false] at hf
   subst hf; exact h1)
 refine calls_cw (args := [_]) Tryz.func59 rfl Tryz.ntmps59 rfl ?_
 unfold spec_l30Slots at hF
 intro a hA
 refine cw_seq <| cw_ops hA ?_
 clear hA
 refine oa rfl rfl <| ops_nil fun a hA => cw_seq <| cw_ops hA ?_
 clear hA
 refine oa rfl rfl <| ops_nil fun a hA => cw_seq <| cw_seq <| cw_ops hA ?_
 clear hA
 refine oa rfl rfl <| ops_nil fun a hA => ?_
 obtain ⟨o1, hl1, hF⟩ := bindE hF
 refine cw_cut (J := fun a' w' => ∃ (x5 : List UInt8), o1 = x5 ∧ AEnv 43 [(3, sv (x5))] a' ∧ St (cxAll w0) w' [] []) ?_ ?_
 ·refine cw_block ?_
  refine cw_loop (body := spec_l30Slots_l1 l) (r := o1) (fun sg a' w' => AEnv 43 [(0, s1), (3, sv (sg.1)), (4, .int .i64 (sg.2))] a' ∧ St (cxAll w0) w' [] [fRd [s1] (l : List SList)]) ?_ hl1 ⟨hA.part ⟨rfl, rfl, rfl, trivial⟩, ((hS).sel [] rfl).selR [0] rfl⟩
  clear hA hS hl1
  rintro ⟨x3, x4⟩ a w q1 ⟨hA, hS⟩ hG1 hr1
  try dsimp only at hA hS
  unfold spec_l30Slots_l1 at hG1
  refine cw_seq <| cw_seq <| cw_ops hA ?_
  clear hA
  refine om rfl rfl <| om rfl rfl <| oy (rv_lenS (hS.rd 0 rfl) Tryz.underlying39 rfl rfl) rfl <| oy (rv_lss rfl rfl rfl) rfl <| ops_nil fun a hA => cw_cond hA rfl (fun hc1 => ?_) (fun hc1 => ?_)
  ·replace hG1 := iteT hc1 hG1
   refine cw_skip <| cw_seq <| cw_block <| cw_seq <| cw_ops hA ?_
   clear hA
   refine om rfl rfl <| om rfl rfl <| om rfl rfl ?_
   obtain ⟨x6, hx6, hG1⟩ := bindE hG1
   refine oy (rv_idx (m := 1) (hS.rd 0 rfl) rfl hx6 Tryz.underlying39 Tryz.sizeOf120 rfl rfl rfl) rfl <| oy (rv_fld (m := 0) Tryz.underlying120 rfl rfl Tryz.sizeOf22 rfl rfl) rfl ?_
   obtain ⟨s2, hel, hS⟩ := hS.el_SList 0 rfl (idx_some hx6).2.2
   refine oy (rv_load1 rfl rfl Tryz.isAgg22 (cell1 (CellsAt.sub (cs' := [s2]) hel 0 rfl rfl))) rfl <| oy (rv_lenS (hS.rd 1 rfl) Tryz.underlying22 rfl rfl) rfl ?_
   obtain ⟨x7, hx7, hG1⟩ := bindE hG1
   refine ops_c (rc_call Tryz.call20 rfl rfl) (want_yes rfl) rfl rfl (c_spec_Var (n := (x6.Slots.length : Int))  hx7) ?_
   rintro _ w ⟨rfl, hk⟩
   replace hS := hS.after hk; clear hk
   obtain ⟨hn1, hG1⟩ := needE hG1
   refine oy (rv_cat rfl rfl rfl hn1) rfl <| oa rfl rfl <| ops_nil fun a hA => cw_seq <| cw_ops hA ?_
   clear hA
   refine oa rfl rfl <| ops_nil fun a hA => ?_
   obtain ⟨o2, hl2, hG1⟩ := bindE hG1
   refine cw_cut (J := fun a' w' => ∃ (x12 : List UInt8), o2 = x12 ∧ AEnv 43 [(0, s1), (3, sv (x12)), (4, .int .i64 (x4))] a' ∧ St (cxAll w0) w' [] [fRd [s1] (l : List SList)]) ?_ ?_
   ·refine cw_block ?_
    refine cw_loop (body := spec_l30Slots_l2 l x4) (r := o2) (fun sg a' w' => AEnv 43 [(0, s1), (3, sv (sg.1)), (4, .int .i64 (x4)), (5, .int .i64 (sg.2))] a' ∧ St (cxAll w0) w' [] [fRd [s1] (l : List SList)]) ?_ hl2 ⟨hA.part ⟨rfl, rfl, rfl, rfl, trivial⟩, ((hS).sel [] rfl).selR [0] rfl⟩
    clear hA hS hl2
    rintro ⟨x10, x11⟩ a w q2 ⟨hA, hS⟩ hG2 hr2
    try dsimp only at hA hS
    unfold spec_l30Slots_l2 at hG2
    refine cw_seq <| cw_seq <| cw_ops hA ?_
    clear hA
    refine om rfl rfl <| om rfl rfl <| om rfl rfl ?_
    obtain ⟨x13, hx13, hG2⟩ := bindE hG2
    refine oy (rv_idx (m := 1) (hS.rd 0 rfl) rfl hx13 Tryz.underlying39 Tryz.sizeOf120 rfl rfl rfl) rfl <| oy (rv_fld (m := 0) Tryz.underlying120 rfl rfl Tryz.sizeOf22 rfl rfl) rfl ?_
    obtain ⟨s3, hel, hS⟩ := hS.el_SList 0 rfl (idx_some hx13).2.2
    refine oy (rv_load1 rfl rfl Tryz.isAgg22 (cell1 (CellsAt.sub (cs' := [s3]) hel 0 rfl rfl))) rfl <| oy (rv_lenS (hS.rd 1 rfl) Tryz.underlying22 rfl rfl) rfl <| oy (rv_lss rfl rfl rfl) rfl <| ops_nil fun a hA => cw_cond hA rfl (fun hc2 => ?_) (fun hc2 => ?_)
    ·replace hG2 := iteT hc2 hG2
     refine cw_skip <| cw_seq <| cw_block <| cw_ops hA ?_
     clear hA
     refine om rfl rfl <| om rfl rfl <| om rfl rfl ?_
     obtain ⟨x14, hx14, hG2⟩ := bindE hG2
     refine oy (rv_idx (m := 1) (hS.rd 0 rfl) rfl hx14 Tryz.underlying39 Tryz.sizeOf120 rfl rfl rfl) rfl <| oy (rv_fld (m := 0) Tryz.underlying120 rfl rfl Tryz.sizeOf22 rfl rfl) rfl ?_
     obtain ⟨s4, hel, hS⟩ := hS.el_SList 0 rfl (idx_some hx14).2.2
     refine oy (rv_load1 rfl rfl Tryz.isAgg22 (cell1 (CellsAt.sub (cs' := [s4]) hel 0 rfl rfl))) rfl <| om rfl rfl ?_
     obtain ⟨x15, hx15, hG2⟩ := bindE hG2
     refine oy (rv_idx (m := 1) (hS.rd 2 rfl) rfl hx15 Tryz.underlying22 Tryz.sizeOf3 rfl rfl rfl) rfl <| oy (rv_load1 rfl rfl Tryz.isAgg3 (cell1 (el_Int (hS.rd 2 rfl) (idx_some hx15).2.2))) rfl ?_
     obtain ⟨x16, hx16, hG2⟩ := bindE hG2
     refine ops_c (rc_call Tryz.call20 rfl rfl) (want_yes rfl) rfl rfl (c_spec_Var (n := x15)  hx16) ?_
     rintro _ w ⟨rfl, hk⟩
     replace hS := hS.after hk; clear hk
     obtain ⟨hn2, hG2⟩ := needE hG2
     refine oy (rv_cat rfl rfl rfl hn2) rfl <| oa rfl rfl <| ops_nil fun a hA => cw_ops hA ?_
     clear hA
     refine om rfl rfl <| oy (rv_add rfl rfl rfl) rfl <| oa rfl rfl <| ops_nil fun a hA => ?_
     cases hG2
     exact ⟨_, rfl, ⟨hA.part ⟨rfl, rfl, rfl, rfl, trivial⟩, ((hS).sel [] rfl).selR [0] rfl⟩⟩
    ·replace hG2 := iteF hc2 hG2
     refine cw_exit <| xcons_hit ?_
     cases hG2
     have ho := hr2 _ rfl; subst ho
     exact ⟨x10, rfl, hA.part ⟨rfl, rfl, rfl, trivial⟩, ((hS).sel [] rfl).selR [0] rfl⟩
   ·skip
    clear hA hS hl2
    rintro a w ⟨x12, heq, hA, hS⟩
    replace hG1 : spec_l30Slots_j2 x4 x12 = some q1 := by rw [heq] at hG1; exact hG1
    clear heq
    unfold spec_l30Slots_j2 at hG1
    refine cw_ops hA ?_
    clear hA
    refine om rfl rfl <| oy (rv_add rfl rfl rfl) rfl <| oa rfl rfl <| ops_nil fun a hA => ?_
    cases hG1
    exact ⟨_, rfl, ⟨hA.part ⟨rfl, rfl, rfl, trivial⟩, ((hS).sel [] rfl).selR [0] rfl⟩⟩
  ·replace hG1 := iteF hc1 hG1
   refine cw_exit <| xcons_hit ?_
   cases hG1
   have ho := hr1 _ rfl; subst ho
   exact ⟨x3, rfl, hA.part ⟨rfl, trivial⟩, ((hS).sel [] rfl).selR [] rfl⟩
 ·skip
  clear hA hS hl1
  rintro a w ⟨x5, heq, hA, hS⟩
  replace hF : spec_l30Slots_j1 x5 = some r := by rw [heq] at hF; exact hF
  clear heq
  unfold spec_l30Slots_j1 at hF
  refine cw_seq <| cw_ops hA ?_
  clear hA
  refine om rfl rfl <| oa rfl rfl <| ops_nil fun a hA => cw_ret ?_
  cases hF
  exact fy Tryz.results59 hA rfl hS

theorem c_spec_ShowMem {w0 : World} {m : Mem} {s1 : Value} {s2 : Value} {s3 : Value} {s4 : Value} {r : (List UInt8)} (h1 : Rep.rd (All w0) w0 [s1] (m.Heap.Bytes : List Int)) (h2 : Rep.rd (All w0) w0 [s2] (m.Heap.Class : List Int)) (h3 : Rep.rd (All w0) w0 [s3] (m.Lists.Global : List SList)) (h4 : Rep.rd (All w0) w0 [s4] (m.Lists.Own : List SList)) (hF : spec_ShowMem m = some r) :
    Calls Tryz.prog 19 #[.agg #[s1, s2, s3, s4]] w0 (Ret fun v w' => v = sv (r) ∧ St (cxAll w0) w' [] []) := by
 have hS : St (cxAll w0) w0 [] [fRd [s1] (m.Heap.Bytes : List Int), fRd [s2] (m.Heap.Class : List Int), fRd [s3] (m.Lists.Global : List SList), fRd [s4] (m.Lists.Own : List SList)] := St.enter (by
   intro f hf
   simp only [List.mem_cons, List.not_mem_nil, or_false] at hf
   rcases hf with rfl | rfl | rfl | rfl
   · exact h1
   · exact h2
   · exact h3
   · exact h4)
 refine calls_cw (args := [_]) Tryz.func19 rfl Tryz.ntmps19 rfl ?_
 unfold spec_ShowMem at hF
 intro a hA
 refine cw_seq <| cw_ops hA ?_
 clear hA
 refine ops_mv (rv_box (cs := [s1, s2, s3, s4]) hS rfl rfl rfl) (want_yes rfl) rfl rfl ?_
 clear hS
 rintro _ w ⟨b1, rfl, hS⟩
 refine oa rfl rfl <| ops_nil fun a hA => cw_seq <| cw_seq <| cw_ops hA ?_
 clear hA
 refine oy (rv_loadN rfl rfl Tryz.isAgg43 Tryz.sizeOf43 rfl (hS.cells 0 0 (cs' := [s1, s2, s3, s4]) rfl rfl)) rfl ?_
 obtain ⟨x1, hx1, hF⟩ := bindE hF
 refine ops_c (rc_call Tryz.call53 rfl rfl) (want_yes rfl) rfl rfl (c_spec_MemOk (m := m) (hS.rd 0 rfl) (hS.rd 1 rfl) (hS.rd 2 rfl) (hS.rd 3 rfl) hx1) ?_
 rintro _ w ⟨rfl, hk⟩
 replace hS := hS.after hk; clear hk
 refine oy (rv_not rfl rfl) rfl <| ops_nil fun a hA => cw_cond hA rfl (fun hc1 => ?_) (fun hc1 => ?_)
 ·replace hF := iteT hc1 hF
  refine cw_seq <| cw_ops hA ?_
  clear hA
  refine oa rfl rfl <| ops_nil fun a hA => cw_ret ?_
  cases hF
  exact fy Tryz.results19 hA rfl hS
 ·replace hF := iteF hc1 hF
  refine cw_skip <| cw_seq <| cw_ops hA ?_
  clear hA
  refine ops_mv (rv_lit0 (α := UInt8) hS rfl Tryz.underlying108 inf_Tryz5 rfl) (want_yes rfl) rfl rfl ?_
  clear hS
  rintro s5 w hS
  refine oa rfl rfl <| ops_nil fun a hA => cw_seq <| cw_seq <| cw_ops hA ?_
  clear hA
  refine oa rfl rfl <| ops_nil fun a hA => ?_
  obtain ⟨o1, hl1, hF⟩ := bindE hF
  refine cw_cut (J := fun a' w' => ∃ (x6 : List UInt8) (s8 : Value), o1 = x6 ∧ AEnv 55 [(1, .pointer (some ⟨b1, 0, none⟩)), (3, s8)] a' ∧ St (cxAll w0) w' [cOwn [s8] (x6 : List UInt8), cBox b1 [s1, s2, s3, s4]] [fRd [s1] (m.Heap.Bytes : List Int), fRd [s2] (m.Heap.Class : List Int), fRd [s3] (m.Lists.Global : List SList), fRd [s4] (m.Lists.Own : List SList)]) ?_ ?_
  ·refine cw_block ?_
   refine cw_loop (body := spec_ShowMem_l1 m) (r := o1) (fun sg a' w' => ∃ (s7 : Value), AEnv 55 [(1, .pointer (some ⟨b1, 0, none⟩)), (3, s7), (4, .int .i64 (sg.2))] a' ∧ St (cxAll w0) w' [cOwn [s7] (sg.1 : List UInt8), cBox b1 [s1, s2, s3, s4]] [fRd [s1] (m.Heap.Bytes : List Int), fRd [s2] (m.Heap.Class : List Int), fRd [s3] (m.Lists.Global : List SList), fRd [s4] (m.Lists.Own : List SList)]) ?_ hl1 ⟨s5, hA.part ⟨rfl, rfl, rfl, trivial⟩, ((hS).sel [1, 0] rfl).selR [0, 1, 2, 3] rfl⟩
   clear hA hS hl1
   rintro ⟨x4, x5⟩ a w q1 ⟨s7, hA, hS⟩ hG1 hr1
   try dsimp only at hA hS
   unfold spec_ShowMem_l1 at hG1
   refine cw_seq <| cw_seq <| cw_ops hA ?_
   clear hA
   refine om rfl rfl <| oy (rv_fld (m := 1) Tryz.underlying43 rfl rfl Tryz.sizeOf38 rfl rfl) rfl <| oy (rv_fld (m := 0) Tryz.underlying38 rfl rfl Tryz.sizeOf22 rfl rfl) rfl <| oy (rv_load1 rfl rfl Tryz.isAgg22 (hS.cell 1 rfl rfl)) rfl <| oy (rv_lenS (hS.rd 0 rfl) Tryz.underlying22 rfl rfl) rfl <| oy (rv_lss rfl rfl rfl) rfl <| ops_nil fun a hA => cw_cond hA rfl (fun hc3 => ?_) (fun hc3 => ?_)
   ·replace hG1 := iteT hc3 hG1
    refine cw_skip <| cw_seq <| cw_block <| cw_ops hA ?_
    clear hA
    refine om rfl rfl <| oy (rv_fld (m := 1) Tryz.underlying43 rfl rfl Tryz.sizeOf38 rfl rfl) rfl <| oy (rv_fld (m := 0) Tryz.underlying38 rfl rfl Tryz.sizeOf22 rfl rfl) rfl <| oy (rv_load1 rfl rfl Tryz.isAgg22 (hS.cell 1 rfl rfl)) rfl <| om rfl rfl ?_
    obtain ⟨x15, hx15, hG1⟩ := bindE hG1
    refine oy (rv_idx (m := 1) (hS.rd 0 rfl) rfl hx15 Tryz.underlying22 Tryz.sizeOf3 rfl rfl rfl) rfl <| oy (rv_load1 rfl rfl Tryz.isAgg3 (cell1 (el_Int (hS.rd 0 rfl) (idx_some hx15).2.2))) rfl <| oy (rv_conv8 Tryz.underlying3 Tryz.underlying5 rfl rfl) rfl <| ops_mv (rv_lit1 (u8 x15 : UInt8) hS rfl Tryz.underlying108 inf_Tryz5 rfl rfl rfl rfl) (want_yes rfl) rfl rfl ?_
    clear hS
    rintro s14 w hS
    obtain ⟨hn4, hG1⟩ := needE hG1
    refine ops_mv (rv_append (α := UInt8) 0 hS rfl (hS.rdOwn 2 rfl) rfl Tryz.underlying108 inf_Tryz5 rfl hn4 rfl rfl rfl) (want_yes rfl) rfl rfl ?_
    clear hS
    rintro s15 w hS
    refine oa rfl rfl <| ops_nil fun a hA => cw_ops hA ?_
    clear hA
    refine om rfl rfl <| oy (rv_add rfl rfl rfl) rfl <| oa rfl rfl <| ops_nil fun a hA => ?_
    cases hG1
    exact ⟨_, rfl, ⟨s15, hA.part ⟨rfl, rfl, rfl, trivial⟩, ((hS).sel [0, 1] rfl).selR [0, 1, 2, 3] rfl⟩⟩
   ·replace hG1 := iteF hc3 hG1
    refine cw_exit <| xcons_hit ?_
    cases hG1
    have ho := hr1 _ rfl; subst ho
    exact ⟨x4, s7, rfl, hA.part ⟨rfl, rfl, trivial⟩, ((hS).sel [0, 1] rfl).selR [0, 1, 2, 3] rfl⟩
  ·skip
   clear hA hS hl1
   rintro a w ⟨x6, s8, heq, hA, hS⟩
   replace hF : spec_ShowMem_j1 m x6 = some r := by rw [heq] at hF; exact hF
   clear heq
   unfold spec_ShowMem_j1 at hF
   refine cw_seq <| cw_seq <| cw_ops hA ?_
   clear hA
   refine oa rfl rfl <| ops_nil fun a hA => ?_
   obtain ⟨o2, hl2, hF⟩ := bindE hF
   refine cw_cut (J := fun a' w' => ∃ (x11 : List UInt8) (s11 : Value), o2 = x11 ∧ AEnv 55 [(1, .pointer (some ⟨b1, 0, none⟩)), (3, s11)] a' ∧ St (cxAll w0) w' [cOwn [s11] (x11 : List UInt8), cBox b1 [s1, s2, s3, s4]] [fRd [s1] (m.Heap.Bytes : List Int), fRd [s2] (m.Heap.Class : List Int), fRd [s3] (m.Lists.Global : List SList), fRd [s4] (m.Lists.Own : List SList)]) ?_ ?_
   ·refine cw_block ?_
    refine cw_loop (body := spec_ShowMem_l2 m) (r := o2) (fun sg a' w' => ∃ (s10 : Value), AEnv 55 [(1, .pointer (some ⟨b1, 0, none⟩)), (3, s10), (5, .int .i64 (sg.2))] a' ∧ St (cxAll w0) w' [cOwn [s10] (sg.1 : List UInt8), cBox b1 [s1, s2, s3, s4]] [fRd [s1] (m.Heap.Bytes : List Int), fRd [s2] (m.Heap.Class : List Int), fRd [s3] (m.Lists.Global : List SList), fRd [s4] (m.Lists.Own : List SList)]) ?_ hl2 ⟨s8, hA.part ⟨rfl, rfl, rfl, trivial⟩, ((hS).sel [0, 1] rfl).selR [0, 1, 2, 3] rfl⟩
    clear hA hS hl2
    rintro ⟨x9, x10⟩ a w q2 ⟨s10, hA, hS⟩ hG2 hr2
    try dsimp only at hA hS
    unfold spec_ShowMem_l2 at hG2
    refine cw_seq <| cw_seq <| cw_ops hA ?_
    clear hA
    refine om rfl rfl <| oy (rv_lss rfl rfl rfl) rfl <| ops_nil fun a hA => cw_cond hA rfl (fun hc2 => ?_) (fun hc2 => ?_)
    ·replace hG2 := iteT hc2 hG2
     refine cw_skip <| cw_seq <| cw_block <| cw_ops hA ?_
     clear hA
     refine om rfl rfl <| oy (rv_fld (m := 1) Tryz.underlying43 rfl rfl Tryz.sizeOf38 rfl rfl) rfl <| oy (rv_fld (m := 0) Tryz.underlying38 rfl rfl Tryz.sizeOf22 rfl rfl) rfl <| oy (rv_load1 rfl rfl Tryz.isAgg22 (hS.cell 1 rfl rfl)) rfl <| om rfl rfl ?_
     obtain ⟨x14, hx14, hG2⟩ := bindE hG2
     refine oy (rv_idx (m := 1) (hS.rd 1 rfl) rfl hx14 Tryz.underlying22 Tryz.sizeOf3 rfl rfl rfl) rfl <| oy (rv_load1 rfl rfl Tryz.isAgg3 (cell1 (el_Int (hS.rd 1 rfl) (idx_some hx14).2.2))) rfl <| oy (rv_add rfl rfl rfl) rfl <| oy (rv_conv8 Tryz.underlying3 Tryz.underlying5 rfl rfl) rfl <| ops_mv (rv_lit1 (u8 (w64 (x14 + 1)) : UInt8) hS rfl Tryz.underlying108 inf_Tryz5 rfl rfl rfl rfl) (want_yes rfl) rfl rfl ?_
     clear hS
     rintro s12 w hS
     obtain ⟨hn3, hG2⟩ := needE hG2
     refine ops_mv (rv_append (α := UInt8) 0 hS rfl (hS.rdOwn 2 rfl) rfl Tryz.underlying108 inf_Tryz5 rfl hn3 rfl rfl rfl) (want_yes rfl) rfl rfl ?_
     clear hS
     rintro s13 w hS
     refine oa rfl rfl <| ops_nil fun a hA => cw_ops hA ?_
     clear hA
     refine om rfl rfl <| oy (rv_add rfl rfl rfl) rfl <| oa rfl rfl <| ops_nil fun a hA => ?_
     cases hG2
     exact ⟨_, rfl, ⟨s13, hA.part ⟨rfl, rfl, rfl, trivial⟩, ((hS).sel [0, 1] rfl).selR [0, 1, 2, 3] rfl⟩⟩
    ·replace hG2 := iteF hc2 hG2
     refine cw_exit <| xcons_hit ?_
     cases hG2
     have ho := hr2 _ rfl; subst ho
     exact ⟨x9, s10, rfl, hA.part ⟨rfl, rfl, trivial⟩, ((hS).sel [0, 1] rfl).selR [0, 1, 2, 3] rfl⟩
   ·skip
    clear hA hS hl2
    rintro a w ⟨x11, s11, heq, hA, hS⟩
    replace hF : spec_ShowMem_j2 m x11 = some r := by rw [heq] at hF; exact hF
    clear heq
    unfold spec_ShowMem_j2 at hF
    refine cw_seq <| cw_any (Keeps (cxAll w0) [cOwn [s11] (x11 : List UInt8), cBox b1 [s1, s2, s3, s4]] [fRd [s1] (m.Heap.Bytes : List Int), fRd [s2] (m.Heap.Class : List Int), fRd [s3] (m.Lists.Global : List SList), fRd [s4] (m.Lists.Own : List SList)]) mixed_Tryz hA hS ?_
    clear hA hS; intro w hS
    have hK : Keeps (cxAll w0) [cOwn [s11] (x11 : List UInt8), cBox b1 [s1, s2, s3, s4]] [fRd [s1] (m.Heap.Bytes : List Int), fRd [s2] (m.Heap.Class : List Int), fRd [s3] (m.Lists.Global : List SList), fRd [s4] (m.Lists.Own : List SList)] w := ⟨_, (hS.sel [0, 1] rfl).selR [0, 1, 2, 3] rfl⟩
    refine ey 0 rfl (by kernel_rfl) hK (fun _ _ _ => (rv_move rfl rfl)) rfl ?_
    refine ey 1 rfl (by kernel_rfl) hK (fun _ _ hS => (rv_b2s (hS.rdOwn 0 rfl) Tryz.underlying108 Tryz.underlying5 Tryz.underlying9 rfl rfl)) rfl ?_
    refine ey 2 rfl (by kernel_rfl) hK (fun _ _ _ => (rv_fld (m := 1) Tryz.underlying43 rfl rfl Tryz.sizeOf41 rfl rfl)) rfl ?_
    refine ey 3 rfl (by kernel_rfl) hK (fun _ _ _ => (rv_fld (m := 0) Tryz.underlying41 rfl rfl Tryz.sizeOf39 rfl rfl)) rfl ?_
    refine ey 4 rfl (by kernel_rfl) hK (fun _ _ hS => (rv_load1 rfl rfl Tryz.isAgg39 (hS.cell 1 rfl rfl))) rfl ?_
    refine ey 7 rfl (by kernel_rfl) hK (fun _ _ _ => (rv_fld (m := 1) Tryz.underlying43 rfl rfl Tryz.sizeOf41 rfl rfl)) rfl ?_
    refine ey 8 rfl (by kernel_rfl) hK (fun _ _ _ => (rv_fld (m := 0) Tryz.underlying41 rfl rfl Tryz.sizeOf39 rfl rfl)) rfl ?_
    refine ey 9 rfl (by kernel_rfl) hK (fun _ _ hS => (rv_load1 rfl rfl Tryz.isAgg39 (hS.cell 1 rfl rfl))) rfl ?_
    refine any_1 (i := 5) (by kernel_rfl) ?_
    obtain ⟨x12, hx12, hF⟩ := bindE hF
    refine as_c rfl (rc_call Tryz.call59 rfl rfl) (want_yes rfl) rfl rfl (c_spec_l30Slots (l := m.Lists.Global) (hS.rd 2 rfl) hx12) ?_
    clear hK; rintro _ w ⟨rfl, hk⟩
    replace hS := hS.after hk; clear hk
    have hK := keepsI ((hS.sel [0, 1] rfl).selR [0, 1, 2, 3] rfl)
    refine ⟨hK, ?_⟩
    obtain ⟨hn1, hF⟩ := needE hF
    refine ey 6 rfl (by kernel_rfl) hK (fun _ _ _ => (rv_cat rfl rfl rfl hn1)) rfl ?_
    refine any_1 (i := 10) (by kernel_rfl) ?_
    obtain ⟨x13, hx13, hF⟩ := bindE hF
    refine as_c rfl (rc_call Tryz.call59 rfl rfl) (want_yes rfl) rfl rfl (c_spec_l30Slots (l := m.Lists.Own) (hS.rd 3 rfl) hx13) ?_
    clear hK; rintro _ w ⟨rfl, hk⟩
    replace hS := hS.after hk; clear hk
    have hK := keepsI ((hS.sel [0, 1] rfl).selR [0, 1, 2, 3] rfl)
    refine ⟨hK, ?_⟩
    obtain ⟨hn2, hF⟩ := needE hF
    refine ey 11 rfl (by kernel_rfl) hK (fun _ _ _ => (rv_cat rfl rfl rfl hn2)) rfl ?_
    refine ey 12 rfl (by kernel_rfl) hK (fun _ _ _ => (rv_assign rfl rfl)) rfl ?_
    refine any_done (by kernel_rfl) ?_
    intro a hA
    refine cw_ret ?_
    cases hF
    exact fy Tryz.results19 hA rfl hS

theorem c_spec_l30Bool {w0 : World} {b : Bool}  {r : Int}  (hF : spec_l30Bool b = some r) :
    Calls Tryz.prog 21 #[.bool (b)] w0 (Ret fun v w' => v = .int .i64 (r) ∧ St (cxAll w0) w' [] []) := by
 have hS : St (cxAll w0) w0 [] [] := St.enter (by
   intro f hf; cases hf)
 refine calls_cw (args := [_]) Tryz.func21 rfl Tryz.ntmps21 rfl ?_
 unfold spec_l30Bool at hF
 intro a hA
 refine cw_seq <| cw_ops hA ?_
 clear hA
 refine oa rfl rfl <| ops_nil fun a hA => cw_seq <| cw_seq <| cw_ops hA ?_
 clear hA
 refine om rfl rfl <| ops_nil fun a hA => cw_cond hA rfl (fun hc1 => ?_) (fun hc1 => ?_)
 ·replace hF := iteT hc1 hF
  refine cw_seq <| cw_ops hA ?_
  clear hA
  refine oa rfl rfl <| ops_nil fun a hA => cw_ret ?_
  cases hF
  exact fy Tryz.results21 hA rfl hS
 ·replace hF := iteF hc1 hF
  refine cw_skip <| cw_seq <| cw_ops hA ?_
  clear hA
  refine oa rfl rfl <| ops_nil fun a hA => cw_ret ?_
  cases hF
  exact fy Tryz.results21 hA rfl hS
end Go.Proofs.YtpndngnohcffnaaGreat
