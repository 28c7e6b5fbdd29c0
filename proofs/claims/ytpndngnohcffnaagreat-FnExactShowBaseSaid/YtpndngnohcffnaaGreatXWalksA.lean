import Derived.Test.YtpndngnohcffnaaGreatXFns
import Derived.Test.YtpndngnohcffnaaGreatProg
namespace Go.Proofs.YtpndngnohcffnaaGreat
open Go.Gv
theorem places_Tryz65 (w : World) : ((match Tryz.prog.underlying 65 with | some (.struct fs) => fs | _ => #[]).mapM fun (f : Field) => (do pure (f.offset, ← sizeOf f.type) : Sem (Nat × Nat))).run Tryz.prog w = .ok #[(0, 1), (1, 1), (2, 1), (3, 1)] w := by
  simp [Tryz.underlying65, Tryz.sizeOf3, Tryz.sizeOf4]

theorem inf_Tryz3 : Inf Tryz.prog 3 1 (.int .i64 0) := inf_of (b := 8) (by kernel_rfl) rfl

theorem inf_Tryz120 : Inf Tryz.prog 120 1 (.agg #[.slice none 0 0]) := inf_of (b := 24) (by kernel_rfl) rfl

theorem inf_Tryz65 : Inf Tryz.prog 65 4 (.agg #[.bool false, .int .i64 0, .bool false, .int .i64 0]) := inf_of (b := 32) (by kernel_rfl) rfl

theorem inf_Tryz69 : Inf Tryz.prog 69 1 (.agg #[.slice none 0 0]) := inf_of (b := 24) (by kernel_rfl) rfl

theorem inf_Tryz71 : Inf Tryz.prog 71 2 (.agg #[.int .i64 0, .int .i64 0]) := inf_of (b := 16) (by kernel_rfl) rfl

theorem inf_Tryz5 : Inf Tryz.prog 5 1 (.int .u8 0) := inf_of (b := 1) (by kernel_rfl) rfl

theorem inf_Tryz39 : Inf Tryz.prog 39 1 (.slice none 0 0) := inf_of (b := 24) (by kernel_rfl) rfl

theorem mixed_Tryz : Tryz.prog.follows .mixedOrders = true := by kernel_rfl

theorem eqf_Tryz65 (D : Nat) (d d' : Pin) (w : World) : (Op.eqFields (D + 2) #[.bool (d.On), .int .i64 (d.Epoch), .bool (d.Marked), .int .i64 (d.Seen)] #[.bool (d'.On), .int .i64 (d'.Epoch), .bool (d'.Marked), .int .i64 (d'.Seen)] (match Tryz.prog.underlying 65 with | some (.struct fs) => fs | _ => #[]).toList).run Tryz.prog w = .ok (decide (d = d')) w := by
  rw [Tryz.underlying65]
  have h : (d.On == d'.On && (d.Epoch == d'.Epoch && (d.Marked == d'.Marked && (d.Seen == d'.Seen && true)))) = decide (d = d') := by
    cases d; cases d'; rw [Bool.eq_iff_iff]; simp
  rw [← h]
  exact eqf_cons _ _ _ _ _ rfl (part1 Tryz.isAgg4 rfl) (part1 Tryz.isAgg4 rfl) (ei_bool Tryz.underlying4) <|
    eqf_cons _ _ _ _ _ rfl (part1 Tryz.isAgg3 rfl) (part1 Tryz.isAgg3 rfl) (ei_int Tryz.underlying3) <|
    eqf_cons _ _ _ _ _ rfl (part1 Tryz.isAgg4 rfl) (part1 Tryz.isAgg4 rfl) (ei_bool Tryz.underlying4) <|
    eqf_cons _ _ _ _ _ rfl (part1 Tryz.isAgg3 rfl) (part1 Tryz.isAgg3 rfl) (ei_int Tryz.underlying3) <|
    eqf_nil _ _ _

set_option maxHeartbeats 4000000 in
set_option maxRecDepth 100000 in
theorem c_laws_szIntS {w0 : World} {a_ : List Int} {left : Int} {s1 : Value} {r : Int} (h1 : Rep.rd (All w0) w0 [s1] (a_ : List Int)) (hF : laws_szIntS a_ left = some r) :
    Calls Tryz.prog 17 #[s1, .int .i64 (left)] w0 (Ret fun v w' => v = .int .i64 (r) ∧ St (cxAll w0) w' [] []) := by
 have hS : St (cxAll w0) w0 [] [fRd [s1] (a_ : List Int)] := St.enter (by
   intro f hf
   simp only [List.mem_cons, List.not_mem_nil, or_false] at hf
   subst hf; exact h1)
 refine calls_cw (args := [_, _]) Tryz.func17 rfl Tryz.ntmps17 rfl ?_
 unfold laws_szIntS at hF
 intro a hA
 refine cw_seq ?_
 refine cw_ops hA ?_
 clear hA
 refine oy (rv_assign rfl rfl) rfl ?_
 refine ops_nil fun a hA => ?_
 refine cw_seq ?_
 refine cw_ops hA ?_
 clear hA
 refine oy (rv_move rfl rfl) rfl ?_
 refine oy (rv_move rfl rfl) rfl ?_
 refine oy (rv_lenS (hS.rd 0 rfl) Tryz.underlying22 rfl rfl) rfl ?_
 refine oy (rv_sub rfl rfl rfl) rfl ?_
 refine oy (rv_assign rfl rfl) rfl ?_
 refine ops_nil fun a hA => ?_
 refine cw_seq ?_
 refine cw_seq ?_
 refine cw_ops hA ?_
 clear hA
 refine oy (rv_move rfl rfl) rfl ?_
 refine oy (rv_lss rfl rfl rfl) rfl ?_
 refine ops_nil fun a hA => ?_
 refine cw_cond hA rfl (fun hc1 => ?_) (fun hc1 => ?_)
 ·replace hF := iteT hc1 hF
  refine cw_seq ?_
  refine cw_ops hA ?_
  clear hA
  refine oy (rv_assign rfl rfl) rfl ?_
  refine ops_nil fun a hA => ?_
  refine cw_ret ?_
  cases hF
  exact fy Tryz.results17 hA rfl hS
 ·replace hF := iteF hc1 hF
  refine cw_skip ?_
  refine cw_seq ?_
  refine cw_ops hA ?_
  clear hA
  refine oy (rv_move rfl rfl) rfl ?_
  refine oy (rv_assign rfl rfl) rfl ?_
  refine ops_nil fun a hA => ?_
  refine cw_ret ?_
  cases hF
  exact fy Tryz.results17 hA rfl hS

set_option maxHeartbeats 4000000 in
set_option maxRecDepth 100000 in
theorem c_laws_szHeap {w0 : World} {a_ : Heap} {left : Int} {s1 : Value} {s2 : Value} {r : Int} (h1 : Rep.rd (All w0) w0 [s1] (a_.Bytes : List Int)) (h2 : Rep.rd (All w0) w0 [s2] (a_.Class : List Int)) (hF : laws_szHeap a_ left = some r) :
    Calls Tryz.prog 49 #[.agg #[s1, s2], .int .i64 (left)] w0 (Ret fun v w' => v = .int .i64 (r) ∧ St (cxAll w0) w' [] []) := by
 have hS : St (cxAll w0) w0 [] [fRd [s1] (a_.Bytes : List Int), fRd [s2] (a_.Class : List Int)] := St.enter (by
   intro f hf
   simp only [List.mem_cons, List.not_mem_nil, or_false] at hf
   rcases hf with rfl | rfl
   · exact h1
   · exact h2)
 refine calls_cw (args := [_, _]) Tryz.func49 rfl Tryz.ntmps49 rfl ?_
 unfold laws_szHeap at hF
 intro a hA
 refine cw_seq ?_
 refine cw_ops hA ?_
 clear hA
 refine ops_mv (rv_box (cs := [s1, s2]) hS rfl rfl rfl) (want_yes rfl) rfl rfl ?_
 clear hS
 rintro _ w ⟨b1, rfl, hS⟩
 refine oy (rv_assign rfl rfl) rfl ?_
 refine ops_nil fun a hA => ?_
 refine cw_seq ?_
 refine cw_ops hA ?_
 clear hA
 refine oy (rv_fld (m := 0) Tryz.underlying24 rfl rfl Tryz.sizeOf22 rfl rfl) rfl ?_
 refine oy (rv_load1 rfl rfl Tryz.isAgg22 (hS.cell 0 rfl rfl)) rfl ?_
 refine oy (rv_move rfl rfl) rfl ?_
 obtain ⟨x1, hx1, hF⟩ := bindE hF
 refine ops_c (rc_call Tryz.call17 rfl rfl) (want_yes rfl) rfl rfl (c_laws_szIntS (a_ := a_.Bytes) (left := left) (hS.rd 0 rfl) hx1) ?_
 rintro _ w ⟨rfl, hk⟩
 replace hS := hS.after hk; clear hk
 refine oy (rv_assign rfl rfl) rfl ?_
 refine ops_nil fun a hA => ?_
 refine cw_seq ?_
 refine cw_seq ?_
 refine cw_ops hA ?_
 clear hA
 refine oy (rv_move rfl rfl) rfl ?_
 refine oy (rv_lss rfl rfl rfl) rfl ?_
 refine ops_nil fun a hA => ?_
 refine cw_cond hA rfl (fun hc1 => ?_) (fun hc1 => ?_)
 ·replace hF := iteT hc1 hF
  refine cw_seq ?_
  refine cw_ops hA ?_
  clear hA
  refine oy (rv_assign rfl rfl) rfl ?_
  refine ops_nil fun a hA => ?_
  refine cw_ret ?_
  cases hF
  exact fy Tryz.results49 hA rfl hS
 ·replace hF := iteF hc1 hF
  refine cw_skip ?_
  refine cw_seq ?_
  refine cw_ops hA ?_
  clear hA
  refine oy (rv_fld (m := 0) Tryz.underlying24 rfl rfl Tryz.sizeOf22 rfl rfl) rfl ?_
  refine oy (rv_load1 rfl rfl Tryz.isAgg22 (hS.cell 0 rfl rfl)) rfl ?_
  refine oy (rv_move rfl rfl) rfl ?_
  obtain ⟨x2, hx2, hF⟩ := bindE hF
  refine ops_c (rc_call Tryz.call17 rfl rfl) (want_yes rfl) rfl rfl (c_laws_szIntS (a_ := a_.Class) (left := x1) (hS.rd 1 rfl) hx2) ?_
  rintro _ w ⟨rfl, hk⟩
  replace hS := hS.after hk; clear hk
  refine oy (rv_assign rfl rfl) rfl ?_
  refine ops_nil fun a hA => ?_
  refine cw_seq ?_
  refine cw_seq ?_
  refine cw_ops hA ?_
  clear hA
  refine oy (rv_move rfl rfl) rfl ?_
  refine oy (rv_lss rfl rfl rfl) rfl ?_
  refine ops_nil fun a hA => ?_
  refine cw_cond hA rfl (fun hc2 => ?_) (fun hc2 => ?_)
  ·replace hF := iteT hc2 hF
   refine cw_seq ?_
   refine cw_ops hA ?_
   clear hA
   refine oy (rv_assign rfl rfl) rfl ?_
   refine ops_nil fun a hA => ?_
   refine cw_ret ?_
   cases hF
   exact fy Tryz.results49 hA rfl hS
  ·replace hF := iteF hc2 hF
   refine cw_skip ?_
   refine cw_seq ?_
   refine cw_ops hA ?_
   clear hA
   refine oy (rv_move rfl rfl) rfl ?_
   refine oy (rv_assign rfl rfl) rfl ?_
   refine ops_nil fun a hA => ?_
   refine cw_ret ?_
   cases hF
   exact fy Tryz.results49 hA rfl hS

set_option maxHeartbeats 4000000 in
set_option maxRecDepth 100000 in
theorem c_laws_szSList {w0 : World} {a_ : SList} {left : Int} {s1 : Value} {r : Int} (h1 : Rep.rd (All w0) w0 [s1] (a_.Slots : List Int)) (hF : laws_szSList a_ left = some r) :
    Calls Tryz.prog 127 #[.agg #[s1], .int .i64 (left)] w0 (Ret fun v w' => v = .int .i64 (r) ∧ St (cxAll w0) w' [] []) := by
 have hS : St (cxAll w0) w0 [] [fRd [s1] (a_.Slots : List Int)] := St.enter (by
   intro f hf
   simp only [List.mem_cons, List.not_mem_nil, or_false] at hf
   subst hf; exact h1)
 refine calls_cw (args := [_, _]) Tryz.func127 rfl Tryz.ntmps127 rfl ?_
 unfold laws_szSList at hF
 intro a hA
 refine cw_seq ?_
 refine cw_ops hA ?_
 clear hA
 refine ops_mv (rv_box (cs := [s1]) hS rfl rfl rfl) (want_yes rfl) rfl rfl ?_
 clear hS
 rintro _ w ⟨b1, rfl, hS⟩
 refine oy (rv_assign rfl rfl) rfl ?_
 refine ops_nil fun a hA => ?_
 refine cw_seq ?_
 refine cw_ops hA ?_
 clear hA
 refine oy (rv_fld (m := 0) Tryz.underlying162 rfl rfl Tryz.sizeOf22 rfl rfl) rfl ?_
 refine oy (rv_load1 rfl rfl Tryz.isAgg22 (hS.cell 0 rfl rfl)) rfl ?_
 refine oy (rv_move rfl rfl) rfl ?_
 obtain ⟨x1, hx1, hF⟩ := bindE hF
 refine ops_c (rc_call Tryz.call17 rfl rfl) (want_yes rfl) rfl rfl (c_laws_szIntS (a_ := a_.Slots) (left := left) (hS.rd 0 rfl) hx1) ?_
 rintro _ w ⟨rfl, hk⟩
 replace hS := hS.after hk; clear hk
 refine oy (rv_assign rfl rfl) rfl ?_
 refine ops_nil fun a hA => ?_
 refine cw_seq ?_
 refine cw_seq ?_
 refine cw_ops hA ?_
 clear hA
 refine oy (rv_move rfl rfl) rfl ?_
 refine oy (rv_lss rfl rfl rfl) rfl ?_
 refine ops_nil fun a hA => ?_
 refine cw_cond hA rfl (fun hc1 => ?_) (fun hc1 => ?_)
 ·replace hF := iteT hc1 hF
  refine cw_seq ?_
  refine cw_ops hA ?_
  clear hA
  refine oy (rv_assign rfl rfl) rfl ?_
  refine ops_nil fun a hA => ?_
  refine cw_ret ?_
  cases hF
  exact fy Tryz.results127 hA rfl hS
 ·replace hF := iteF hc1 hF
  refine cw_skip ?_
  refine cw_seq ?_
  refine cw_ops hA ?_
  clear hA
  refine oy (rv_move rfl rfl) rfl ?_
  refine oy (rv_assign rfl rfl) rfl ?_
  refine ops_nil fun a hA => ?_
  refine cw_ret ?_
  cases hF
  exact fy Tryz.results127 hA rfl hS

set_option maxHeartbeats 4000000 in
set_option maxRecDepth 100000 in
theorem c_laws_szSListS {w0 : World} {a_ : List SList} {left : Int} {s1 : Value} {r : Int} (h1 : Rep.rd (All w0) w0 [s1] (a_ : List SList)) (hF : laws_szSListS a_ left = some r) :
    Calls Tryz.prog 93 #[s1, .int .i64 (left)] w0 (Ret fun v w' => v = .int .i64 (r) ∧ St (cxAll w0) w' [] []) := by
 have hS : St (cxAll w0) w0 [] [fRd [s1] (a_ : List SList)] := St.enter (by
   intro f hf
   simp only [List.mem_cons, List.not_mem_nil, or_false] at hf
   subst hf; exact h1)
 refine calls_cw (args := [_, _]) Tryz.func93 rfl Tryz.ntmps93 rfl ?_
 unfold laws_szSListS at hF
 intro a hA
 refine cw_seq ?_
 refine cw_ops hA ?_
 clear hA
 refine oy (rv_assign rfl rfl) rfl ?_
 refine ops_nil fun a hA => ?_
 refine cw_seq ?_
 refine cw_ops hA ?_
 clear hA
 refine oy (rv_move rfl rfl) rfl ?_
 refine oy (rv_move rfl rfl) rfl ?_
 refine oy (rv_lenS (hS.rd 0 rfl) Tryz.underlying25 rfl rfl) rfl ?_
 refine oy (rv_sub rfl rfl rfl) rfl ?_
 refine oy (rv_assign rfl rfl) rfl ?_
 refine ops_nil fun a hA => ?_
 refine cw_seq ?_
 refine cw_seq ?_
 refine cw_ops hA ?_
 clear hA
 refine oy (rv_move rfl rfl) rfl ?_
 refine oy (rv_lss rfl rfl rfl) rfl ?_
 refine ops_nil fun a hA => ?_
 refine cw_cond hA rfl (fun hc1 => ?_) (fun hc1 => ?_)
 ·replace hF := iteT hc1 hF
  refine cw_seq ?_
  refine cw_ops hA ?_
  clear hA
  refine oy (rv_assign rfl rfl) rfl ?_
  refine ops_nil fun a hA => ?_
  refine cw_ret ?_
  cases hF
  exact fy Tryz.results93 hA rfl hS
 ·replace hF := iteF hc1 hF
  refine cw_skip ?_
  refine cw_seq ?_
  refine cw_seq ?_
  refine cw_ops hA ?_
  clear hA
  refine oy (rv_assign rfl rfl) rfl ?_
  refine ops_nil fun a hA => ?_
  obtain ⟨o1, hl1, hF⟩ := bindE hF
  refine cw_cut (J := fun a' w' => ∃ (x5 : Int), o1 = Out.brk x5 ∧ AEnv 27 [(1, .int .i64 (x5))] a' ∧ St (cxAll w0) w' [] []) ?_ ?_
  ·refine cw_block ?_
   refine cw_loop (body := laws_szSListS_l1 a_) (r := o1) (fun sg a' w' => AEnv 27 [(0, s1), (1, .int .i64 (sg.1)), (5, .int .i64 (sg.2))] a' ∧ St (cxAll w0) w' [] [fRd [s1] (a_ : List SList)]) ?_ hl1 ⟨hA.part ⟨rfl, rfl, rfl, trivial⟩, ((hS).sel [] rfl).selR [0] rfl⟩
   clear hA hS hl1
   rintro ⟨x3, x4⟩ a w q1 ⟨hA, hS⟩ hG1 hr1
   try dsimp only at hA hS
   unfold laws_szSListS_l1 at hG1
   refine cw_seq ?_
   refine cw_seq ?_
   refine cw_ops hA ?_
   clear hA
   refine oy (rv_move rfl rfl) rfl ?_
   refine oy (rv_move rfl rfl) rfl ?_
   refine oy (rv_lenS (hS.rd 0 rfl) Tryz.underlying25 rfl rfl) rfl ?_
   refine oy (rv_lss rfl rfl rfl) rfl ?_
   refine ops_nil fun a hA => ?_
   refine cw_cond hA rfl (fun hc2 => ?_) (fun hc2 => ?_)
   ·replace hG1 := iteT hc2 hG1
    refine cw_skip ?_
    refine cw_seq ?_
    refine cw_block ?_
    refine cw_seq ?_
    refine cw_ops hA ?_
    clear hA
    refine oy (rv_move rfl rfl) rfl ?_
    refine oy (rv_move rfl rfl) rfl ?_
    obtain ⟨x6, hx6, hG1⟩ := bindE hG1
    refine oy (rv_idx (m := 1) (hS.rd 0 rfl) rfl hx6 Tryz.underlying25 Tryz.sizeOf162 rfl rfl rfl) rfl ?_
    obtain ⟨s2, hel, hS⟩ := hS.el_SList 0 rfl (idx_some hx6).2.2
    refine oy (rv_loadN rfl rfl Tryz.isAgg162 Tryz.sizeOf162 rfl hel) rfl ?_
    refine oy (rv_move rfl rfl) rfl ?_
    obtain ⟨x7, hx7, hG1⟩ := bindE hG1
    refine ops_c (rc_call Tryz.call127 rfl rfl) (want_yes rfl) rfl rfl (c_laws_szSList (a_ := x6) (left := x3) (hS.rd 1 rfl) hx7) ?_
    rintro _ w ⟨rfl, hk⟩
    replace hS := hS.after hk; clear hk
    refine oy (rv_assign rfl rfl) rfl ?_
    refine ops_nil fun a hA => ?_
    refine cw_seq ?_
    refine cw_ops hA ?_
    clear hA
    refine oy (rv_move rfl rfl) rfl ?_
    refine oy (rv_lss rfl rfl rfl) rfl ?_
    refine ops_nil fun a hA => ?_
    refine cw_cond hA rfl (fun hc3 => ?_) (fun hc3 => ?_)
    ·replace hG1 := iteT hc3 hG1
     refine cw_seq ?_
     refine cw_ops hA ?_
     clear hA
     refine oy (rv_assign rfl rfl) rfl ?_
     refine ops_nil fun a hA => ?_
     refine cw_ret ?_
     cases hG1
     have ho := hr1 _ rfl; subst ho
     replace hF : some ((-1)) = some r := hF
     cases hF
     exact fy Tryz.results93 hA rfl hS
    ·replace hG1 := iteF hc3 hG1
     refine cw_skip ?_
     refine cw_ops hA ?_
     clear hA
     refine oy (rv_move rfl rfl) rfl ?_
     refine oy (rv_add rfl rfl rfl) rfl ?_
     refine oy (rv_assign rfl rfl) rfl ?_
     refine ops_nil fun a hA => ?_
     cases hG1
     exact ⟨_, rfl, ⟨hA.part ⟨rfl, rfl, rfl, trivial⟩, ((hS).sel [] rfl).selR [0] rfl⟩⟩
   ·replace hG1 := iteF hc2 hG1
    refine cw_exit ?_
    refine xcons_hit ?_
    cases hG1
    have ho := hr1 _ rfl; subst ho
    exact ⟨x3, rfl, hA.part ⟨rfl, trivial⟩, ((hS).sel [] rfl).selR [] rfl⟩
  ·skip
   clear hA hS hl1
   rintro a w ⟨x5, heq, hA, hS⟩
   replace hF : laws_szSListS_j1 x5 = some r := by rw [heq] at hF; exact hF
   clear heq
   unfold laws_szSListS_j1 at hF
   refine cw_seq ?_
   refine cw_ops hA ?_
   clear hA
   refine oy (rv_move rfl rfl) rfl ?_
   refine oy (rv_assign rfl rfl) rfl ?_
   refine ops_nil fun a hA => ?_
   refine cw_ret ?_
   cases hF
   exact fy Tryz.results93 hA rfl hS

set_option maxHeartbeats 4000000 in
set_option maxRecDepth 100000 in
theorem c_laws_szLists {w0 : World} {a_ : Lists} {left : Int} {s1 : Value} {s2 : Value} {r : Int} (h1 : Rep.rd (All w0) w0 [s1] (a_.Global : List SList)) (h2 : Rep.rd (All w0) w0 [s2] (a_.Own : List SList)) (hF : laws_szLists a_ left = some r) :
    Calls Tryz.prog 50 #[.agg #[s1, s2], .int .i64 (left)] w0 (Ret fun v w' => v = .int .i64 (r) ∧ St (cxAll w0) w' [] []) := by
 have hS : St (cxAll w0) w0 [] [fRd [s1] (a_.Global : List SList), fRd [s2] (a_.Own : List SList)] := St.enter (by
   intro f hf
   simp only [List.mem_cons, List.not_mem_nil, or_false] at hf
   rcases hf with rfl | rfl
   · exact h1
   · exact h2)
 refine calls_cw (args := [_, _]) Tryz.func50 rfl Tryz.ntmps50 rfl ?_
 unfold laws_szLists at hF
 intro a hA
 refine cw_seq ?_
 refine cw_ops hA ?_
 clear hA
 refine ops_mv (rv_box (cs := [s1, s2]) hS rfl rfl rfl) (want_yes rfl) rfl rfl ?_
 clear hS
 rintro _ w ⟨b1, rfl, hS⟩
 refine oy (rv_assign rfl rfl) rfl ?_
 refine ops_nil fun a hA => ?_
 refine cw_seq ?_
 refine cw_ops hA ?_
 clear hA
 refine oy (rv_fld (m := 0) Tryz.underlying27 rfl rfl Tryz.sizeOf25 rfl rfl) rfl ?_
 refine oy (rv_load1 rfl rfl Tryz.isAgg25 (hS.cell 0 rfl rfl)) rfl ?_
 refine oy (rv_move rfl rfl) rfl ?_
 obtain ⟨x1, hx1, hF⟩ := bindE hF
 refine ops_c (rc_call Tryz.call93 rfl rfl) (want_yes rfl) rfl rfl (c_laws_szSListS (a_ := a_.Global) (left := left) (hS.rd 0 rfl) hx1) ?_
 rintro _ w ⟨rfl, hk⟩
 replace hS := hS.after hk; clear hk
 refine oy (rv_assign rfl rfl) rfl ?_
 refine ops_nil fun a hA => ?_
 refine cw_seq ?_
 refine cw_seq ?_
 refine cw_ops hA ?_
 clear hA
 refine oy (rv_move rfl rfl) rfl ?_
 refine oy (rv_lss rfl rfl rfl) rfl ?_
 refine ops_nil fun a hA => ?_
 refine cw_cond hA rfl (fun hc1 => ?_) (fun hc1 => ?_)
 ·replace hF := iteT hc1 hF
  refine cw_seq ?_
  refine cw_ops hA ?_
  clear hA
  refine oy (rv_assign rfl rfl) rfl ?_
  refine ops_nil fun a hA => ?_
  refine cw_ret ?_
  cases hF
  exact fy Tryz.results50 hA rfl hS
 ·replace hF := iteF hc1 hF
  refine cw_skip ?_
  refine cw_seq ?_
  refine cw_ops hA ?_
  clear hA
  refine oy (rv_fld (m := 0) Tryz.underlying27 rfl rfl Tryz.sizeOf25 rfl rfl) rfl ?_
  refine oy (rv_load1 rfl rfl Tryz.isAgg25 (hS.cell 0 rfl rfl)) rfl ?_
  refine oy (rv_move rfl rfl) rfl ?_
  obtain ⟨x2, hx2, hF⟩ := bindE hF
  refine ops_c (rc_call Tryz.call93 rfl rfl) (want_yes rfl) rfl rfl (c_laws_szSListS (a_ := a_.Own) (left := x1) (hS.rd 1 rfl) hx2) ?_
  rintro _ w ⟨rfl, hk⟩
  replace hS := hS.after hk; clear hk
  refine oy (rv_assign rfl rfl) rfl ?_
  refine ops_nil fun a hA => ?_
  refine cw_seq ?_
  refine cw_seq ?_
  refine cw_ops hA ?_
  clear hA
  refine oy (rv_move rfl rfl) rfl ?_
  refine oy (rv_lss rfl rfl rfl) rfl ?_
  refine ops_nil fun a hA => ?_
  refine cw_cond hA rfl (fun hc2 => ?_) (fun hc2 => ?_)
  ·replace hF := iteT hc2 hF
   refine cw_seq ?_
   refine cw_ops hA ?_
   clear hA
   refine oy (rv_assign rfl rfl) rfl ?_
   refine ops_nil fun a hA => ?_
   refine cw_ret ?_
   cases hF
   exact fy Tryz.results50 hA rfl hS
  ·replace hF := iteF hc2 hF
   refine cw_skip ?_
   refine cw_seq ?_
   refine cw_ops hA ?_
   clear hA
   refine oy (rv_move rfl rfl) rfl ?_
   refine oy (rv_assign rfl rfl) rfl ?_
   refine ops_nil fun a hA => ?_
   refine cw_ret ?_
   cases hF
   exact fy Tryz.results50 hA rfl hS

set_option maxHeartbeats 4000000 in
set_option maxRecDepth 100000 in
theorem c_laws_szMem {w0 : World} {a_ : Mem} {left : Int} {s1 : Value} {s2 : Value} {s3 : Value} {s4 : Value} {r : Int} (h1 : Rep.rd (All w0) w0 [s1] (a_.Heap.Bytes : List Int)) (h2 : Rep.rd (All w0) w0 [s2] (a_.Heap.Class : List Int)) (h3 : Rep.rd (All w0) w0 [s3] (a_.Lists.Global : List SList)) (h4 : Rep.rd (All w0) w0 [s4] (a_.Lists.Own : List SList)) (hF : laws_szMem a_ left = some r) :
    Calls Tryz.prog 14 #[.agg #[s1, s2, s3, s4], .int .i64 (left)] w0 (Ret fun v w' => v = .int .i64 (r) ∧ St (cxAll w0) w' [] []) := by
 have hS : St (cxAll w0) w0 [] [fRd [s1] (a_.Heap.Bytes : List Int), fRd [s2] (a_.Heap.Class : List Int), fRd [s3] (a_.Lists.Global : List SList), fRd [s4] (a_.Lists.Own : List SList)] := St.enter (by
   intro f hf
   simp only [List.mem_cons, List.not_mem_nil, or_false] at hf
   rcases hf with rfl | rfl | rfl | rfl
   · exact h1
   · exact h2
   · exact h3
   · exact h4)
 refine calls_cw (args := [_, _]) Tryz.func14 rfl Tryz.ntmps14 rfl ?_
 unfold laws_szMem at hF
 intro a hA
 refine cw_seq ?_
 refine cw_ops hA ?_
 clear hA
 refine ops_mv (rv_box (cs := [s1, s2, s3, s4]) hS rfl rfl rfl) (want_yes rfl) rfl rfl ?_
 clear hS
 rintro _ w ⟨b1, rfl, hS⟩
 refine oy (rv_assign rfl rfl) rfl ?_
 refine ops_nil fun a hA => ?_
 refine cw_seq ?_
 refine cw_ops hA ?_
 clear hA
 refine oy (rv_fld (m := 1) Tryz.underlying29 rfl rfl Tryz.sizeOf24 rfl rfl) rfl ?_
 refine oy (rv_loadN rfl rfl Tryz.isAgg24 Tryz.sizeOf24 rfl (hS.cells 0 0 (cs' := [s1, s2]) rfl rfl)) rfl ?_
 refine oy (rv_move rfl rfl) rfl ?_
 obtain ⟨x1, hx1, hF⟩ := bindE hF
 refine ops_c (rc_call Tryz.call49 rfl rfl) (want_yes rfl) rfl rfl (c_laws_szHeap (a_ := a_.Heap) (left := left) (hS.rd 0 rfl) (hS.rd 1 rfl) hx1) ?_
 rintro _ w ⟨rfl, hk⟩
 replace hS := hS.after hk; clear hk
 refine oy (rv_assign rfl rfl) rfl ?_
 refine ops_nil fun a hA => ?_
 refine cw_seq ?_
 refine cw_seq ?_
 refine cw_ops hA ?_
 clear hA
 refine oy (rv_move rfl rfl) rfl ?_
 refine oy (rv_lss rfl rfl rfl) rfl ?_
 refine ops_nil fun a hA => ?_
 refine cw_cond hA rfl (fun hc1 => ?_) (fun hc1 => ?_)
 ·replace hF := iteT hc1 hF
  refine cw_seq ?_
  refine cw_ops hA ?_
  clear hA
  refine oy (rv_assign rfl rfl) rfl ?_
  refine ops_nil fun a hA => ?_
  refine cw_ret ?_
  cases hF
  exact fy Tryz.results14 hA rfl hS
 ·replace hF := iteF hc1 hF
  refine cw_skip ?_
  refine cw_seq ?_
  refine cw_ops hA ?_
  clear hA
  refine oy (rv_fld (m := 1) Tryz.underlying29 rfl rfl Tryz.sizeOf27 rfl rfl) rfl ?_
  refine oy (rv_loadN rfl rfl Tryz.isAgg27 Tryz.sizeOf27 rfl (hS.cells 0 2 (cs' := [s3, s4]) rfl rfl)) rfl ?_
  refine oy (rv_move rfl rfl) rfl ?_
  obtain ⟨x2, hx2, hF⟩ := bindE hF
  refine ops_c (rc_call Tryz.call50 rfl rfl) (want_yes rfl) rfl rfl (c_laws_szLists (a_ := a_.Lists) (left := x1) (hS.rd 2 rfl) (hS.rd 3 rfl) hx2) ?_
  rintro _ w ⟨rfl, hk⟩
  replace hS := hS.after hk; clear hk
  refine oy (rv_assign rfl rfl) rfl ?_
  refine ops_nil fun a hA => ?_
  refine cw_seq ?_
  refine cw_seq ?_
  refine cw_ops hA ?_
  clear hA
  refine oy (rv_move rfl rfl) rfl ?_
  refine oy (rv_lss rfl rfl rfl) rfl ?_
  refine ops_nil fun a hA => ?_
  refine cw_cond hA rfl (fun hc2 => ?_) (fun hc2 => ?_)
  ·replace hF := iteT hc2 hF
   refine cw_seq ?_
   refine cw_ops hA ?_
   clear hA
   refine oy (rv_assign rfl rfl) rfl ?_
   refine ops_nil fun a hA => ?_
   refine cw_ret ?_
   cases hF
   exact fy Tryz.results14 hA rfl hS
  ·replace hF := iteF hc2 hF
   refine cw_skip ?_
   refine cw_seq ?_
   refine cw_ops hA ?_
   clear hA
   refine oy (rv_move rfl rfl) rfl ?_
   refine oy (rv_assign rfl rfl) rfl ?_
   refine ops_nil fun a hA => ?_
   refine cw_ret ?_
   cases hF
   exact fy Tryz.results14 hA rfl hS

set_option maxHeartbeats 4000000 in
set_option maxRecDepth 100000 in
theorem c_laws_szPinS {w0 : World} {a_ : List Pin} {left : Int} {s1 : Value} {r : Int} (h1 : Rep.rd (All w0) w0 [s1] (a_ : List Pin)) (hF : laws_szPinS a_ left = some r) :
    Calls Tryz.prog 51 #[s1, .int .i64 (left)] w0 (Ret fun v w' => v = .int .i64 (r) ∧ St (cxAll w0) w' [] []) := by
 have hS : St (cxAll w0) w0 [] [fRd [s1] (a_ : List Pin)] := St.enter (by
   intro f hf
   simp only [List.mem_cons, List.not_mem_nil, or_false] at hf
   subst hf; exact h1)
 refine calls_cw (args := [_, _]) Tryz.func51 rfl Tryz.ntmps51 rfl ?_
 unfold laws_szPinS at hF
 intro a hA
 refine cw_seq ?_
 refine cw_ops hA ?_
 clear hA
 refine oy (rv_assign rfl rfl) rfl ?_
 refine ops_nil fun a hA => ?_
 refine cw_seq ?_
 refine cw_ops hA ?_
 clear hA
 refine oy (rv_move rfl rfl) rfl ?_
 refine oy (rv_move rfl rfl) rfl ?_
 refine oy (rv_lenS (hS.rd 0 rfl) Tryz.underlying30 rfl rfl) rfl ?_
 refine oy (rv_sub rfl rfl rfl) rfl ?_
 refine oy (rv_assign rfl rfl) rfl ?_
 refine ops_nil fun a hA => ?_
 refine cw_seq ?_
 refine cw_seq ?_
 refine cw_ops hA ?_
 clear hA
 refine oy (rv_move rfl rfl) rfl ?_
 refine oy (rv_lss rfl rfl rfl) rfl ?_
 refine ops_nil fun a hA => ?_
 refine cw_cond hA rfl (fun hc1 => ?_) (fun hc1 => ?_)
 ·replace hF := iteT hc1 hF
  refine cw_seq ?_
  refine cw_ops hA ?_
  clear hA
  refine oy (rv_assign rfl rfl) rfl ?_
  refine ops_nil fun a hA => ?_
  refine cw_ret ?_
  cases hF
  exact fy Tryz.results51 hA rfl hS
 ·replace hF := iteF hc1 hF
  refine cw_skip ?_
  refine cw_seq ?_
  refine cw_ops hA ?_
  clear hA
  refine oy (rv_move rfl rfl) rfl ?_
  refine oy (rv_assign rfl rfl) rfl ?_
  refine ops_nil fun a hA => ?_
  refine cw_ret ?_
  cases hF
  exact fy Tryz.results51 hA rfl hS

set_option maxHeartbeats 4000000 in
set_option maxRecDepth 100000 in
theorem c_laws_szClock {w0 : World} {a_ : Clock} {left : Int} {s1 : Value} {r : Int} (h1 : Rep.rd (All w0) w0 [s1] (a_.Pins : List Pin)) (hF : laws_szClock a_ left = some r) :
    Calls Tryz.prog 15 #[.agg #[.int .i64 (a_.Epoch), s1], .int .i64 (left)] w0 (Ret fun v w' => v = .int .i64 (r) ∧ St (cxAll w0) w' [] []) := by
 have hS : St (cxAll w0) w0 [] [fRd [s1] (a_.Pins : List Pin)] := St.enter (by
   intro f hf
   simp only [List.mem_cons, List.not_mem_nil, or_false] at hf
   subst hf; exact h1)
 refine calls_cw (args := [_, _]) Tryz.func15 rfl Tryz.ntmps15 rfl ?_
 unfold laws_szClock at hF
 intro a hA
 refine cw_seq ?_
 refine cw_ops hA ?_
 clear hA
 refine ops_mv (rv_box (cs := [.int .i64 (a_.Epoch), s1]) hS rfl rfl rfl) (want_yes rfl) rfl rfl ?_
 clear hS
 rintro _ w ⟨b1, rfl, hS⟩
 refine oy (rv_assign rfl rfl) rfl ?_
 refine ops_nil fun a hA => ?_
 refine cw_seq ?_
 refine cw_ops hA ?_
 clear hA
 refine oy (rv_fld (m := 0) Tryz.underlying32 rfl rfl Tryz.sizeOf30 rfl rfl) rfl ?_
 refine oy (rv_load1 rfl rfl Tryz.isAgg30 (hS.cell 0 rfl rfl)) rfl ?_
 refine oy (rv_move rfl rfl) rfl ?_
 obtain ⟨x1, hx1, hF⟩ := bindE hF
 refine ops_c (rc_call Tryz.call51 rfl rfl) (want_yes rfl) rfl rfl (c_laws_szPinS (a_ := a_.Pins) (left := left) (hS.rd 0 rfl) hx1) ?_
 rintro _ w ⟨rfl, hk⟩
 replace hS := hS.after hk; clear hk
 refine oy (rv_assign rfl rfl) rfl ?_
 refine ops_nil fun a hA => ?_
 refine cw_seq ?_
 refine cw_seq ?_
 refine cw_ops hA ?_
 clear hA
 refine oy (rv_move rfl rfl) rfl ?_
 refine oy (rv_lss rfl rfl rfl) rfl ?_
 refine ops_nil fun a hA => ?_
 refine cw_cond hA rfl (fun hc1 => ?_) (fun hc1 => ?_)
 ·replace hF := iteT hc1 hF
  refine cw_seq ?_
  refine cw_ops hA ?_
  clear hA
  refine oy (rv_assign rfl rfl) rfl ?_
  refine ops_nil fun a hA => ?_
  refine cw_ret ?_
  cases hF
  exact fy Tryz.results15 hA rfl hS
 ·replace hF := iteF hc1 hF
  refine cw_skip ?_
  refine cw_seq ?_
  refine cw_ops hA ?_
  clear hA
  refine oy (rv_move rfl rfl) rfl ?_
  refine oy (rv_assign rfl rfl) rfl ?_
  refine ops_nil fun a hA => ?_
  refine cw_ret ?_
  cases hF
  exact fy Tryz.results15 hA rfl hS

set_option maxHeartbeats 4000000 in
set_option maxRecDepth 100000 in
theorem c_laws_szLRowS {w0 : World} {a_ : List LRow} {left : Int} {s1 : Value} {r : Int} (h1 : Rep.rd (All w0) w0 [s1] (a_ : List LRow)) (hF : laws_szLRowS a_ left = some r) :
    Calls Tryz.prog 94 #[s1, .int .i64 (left)] w0 (Ret fun v w' => v = .int .i64 (r) ∧ St (cxAll w0) w' [] []) := by
 have hS : St (cxAll w0) w0 [] [fRd [s1] (a_ : List LRow)] := St.enter (by
   intro f hf
   simp only [List.mem_cons, List.not_mem_nil, or_false] at hf
   subst hf; exact h1)
 refine calls_cw (args := [_, _]) Tryz.func94 rfl Tryz.ntmps94 rfl ?_
 unfold laws_szLRowS at hF
 intro a hA
 refine cw_seq ?_
 refine cw_ops hA ?_
 clear hA
 refine oy (rv_assign rfl rfl) rfl ?_
 refine ops_nil fun a hA => ?_
 refine cw_seq ?_
 refine cw_ops hA ?_
 clear hA
 refine oy (rv_move rfl rfl) rfl ?_
 refine oy (rv_move rfl rfl) rfl ?_
 refine oy (rv_lenS (hS.rd 0 rfl) Tryz.underlying99 rfl rfl) rfl ?_
 refine oy (rv_sub rfl rfl rfl) rfl ?_
 refine oy (rv_assign rfl rfl) rfl ?_
 refine ops_nil fun a hA => ?_
 refine cw_seq ?_
 refine cw_seq ?_
 refine cw_ops hA ?_
 clear hA
 refine oy (rv_move rfl rfl) rfl ?_
 refine oy (rv_lss rfl rfl rfl) rfl ?_
 refine ops_nil fun a hA => ?_
 refine cw_cond hA rfl (fun hc1 => ?_) (fun hc1 => ?_)
 ·replace hF := iteT hc1 hF
  refine cw_seq ?_
  refine cw_ops hA ?_
  clear hA
  refine oy (rv_assign rfl rfl) rfl ?_
  refine ops_nil fun a hA => ?_
  refine cw_ret ?_
  cases hF
  exact fy Tryz.results94 hA rfl hS
 ·replace hF := iteF hc1 hF
  refine cw_skip ?_
  refine cw_seq ?_
  refine cw_ops hA ?_
  clear hA
  refine oy (rv_move rfl rfl) rfl ?_
  refine oy (rv_assign rfl rfl) rfl ?_
  refine ops_nil fun a hA => ?_
  refine cw_ret ?_
  cases hF
  exact fy Tryz.results94 hA rfl hS

set_option maxHeartbeats 4000000 in
set_option maxRecDepth 100000 in
theorem c_laws_szLList {w0 : World} {a_ : LList} {left : Int} {s1 : Value} {r : Int} (h1 : Rep.rd (All w0) w0 [s1] (a_.Rows : List LRow)) (hF : laws_szLList a_ left = some r) :
    Calls Tryz.prog 52 #[.agg #[s1], .int .i64 (left)] w0 (Ret fun v w' => v = .int .i64 (r) ∧ St (cxAll w0) w' [] []) := by
 have hS : St (cxAll w0) w0 [] [fRd [s1] (a_.Rows : List LRow)] := St.enter (by
   intro f hf
   simp only [List.mem_cons, List.not_mem_nil, or_false] at hf
   subst hf; exact h1)
 refine calls_cw (args := [_, _]) Tryz.func52 rfl Tryz.ntmps52 rfl ?_
 unfold laws_szLList at hF
 intro a hA
 refine cw_seq ?_
 refine cw_ops hA ?_
 clear hA
 refine ops_mv (rv_box (cs := [s1]) hS rfl rfl rfl) (want_yes rfl) rfl rfl ?_
 clear hS
 rintro _ w ⟨b1, rfl, hS⟩
 refine oy (rv_assign rfl rfl) rfl ?_
 refine ops_nil fun a hA => ?_
 refine cw_seq ?_
 refine cw_ops hA ?_
 clear hA
 refine oy (rv_fld (m := 0) Tryz.underlying101 rfl rfl Tryz.sizeOf99 rfl rfl) rfl ?_
 refine oy (rv_load1 rfl rfl Tryz.isAgg99 (hS.cell 0 rfl rfl)) rfl ?_
 refine oy (rv_move rfl rfl) rfl ?_
 obtain ⟨x1, hx1, hF⟩ := bindE hF
 refine ops_c (rc_call Tryz.call94 rfl rfl) (want_yes rfl) rfl rfl (c_laws_szLRowS (a_ := a_.Rows) (left := left) (hS.rd 0 rfl) hx1) ?_
 rintro _ w ⟨rfl, hk⟩
 replace hS := hS.after hk; clear hk
 refine oy (rv_assign rfl rfl) rfl ?_
 refine ops_nil fun a hA => ?_
 refine cw_seq ?_
 refine cw_seq ?_
 refine cw_ops hA ?_
 clear hA
 refine oy (rv_move rfl rfl) rfl ?_
 refine oy (rv_lss rfl rfl rfl) rfl ?_
 refine ops_nil fun a hA => ?_
 refine cw_cond hA rfl (fun hc1 => ?_) (fun hc1 => ?_)
 ·replace hF := iteT hc1 hF
  refine cw_seq ?_
  refine cw_ops hA ?_
  clear hA
  refine oy (rv_assign rfl rfl) rfl ?_
  refine ops_nil fun a hA => ?_
  refine cw_ret ?_
  cases hF
  exact fy Tryz.results52 hA rfl hS
 ·replace hF := iteF hc1 hF
  refine cw_skip ?_
  refine cw_seq ?_
  refine cw_ops hA ?_
  clear hA
  refine oy (rv_move rfl rfl) rfl ?_
  refine oy (rv_assign rfl rfl) rfl ?_
  refine ops_nil fun a hA => ?_
  refine cw_ret ?_
  cases hF
  exact fy Tryz.results52 hA rfl hS

set_option maxHeartbeats 4000000 in
set_option maxRecDepth 100000 in
theorem c_laws_szLListS {w0 : World} {a_ : List LList} {left : Int} {s1 : Value} {r : Int} (h1 : Rep.rd (All w0) w0 [s1] (a_ : List LList)) (hF : laws_szLListS a_ left = some r) :
    Calls Tryz.prog 16 #[s1, .int .i64 (left)] w0 (Ret fun v w' => v = .int .i64 (r) ∧ St (cxAll w0) w' [] []) := by
 have hS : St (cxAll w0) w0 [] [fRd [s1] (a_ : List LList)] := St.enter (by
   intro f hf
   simp only [List.mem_cons, List.not_mem_nil, or_false] at hf
   subst hf; exact h1)
 refine calls_cw (args := [_, _]) Tryz.func16 rfl Tryz.ntmps16 rfl ?_
 unfold laws_szLListS at hF
 intro a hA
 refine cw_seq ?_
 refine cw_ops hA ?_
 clear hA
 refine oy (rv_assign rfl rfl) rfl ?_
 refine ops_nil fun a hA => ?_
 refine cw_seq ?_
 refine cw_ops hA ?_
 clear hA
 refine oy (rv_move rfl rfl) rfl ?_
 refine oy (rv_move rfl rfl) rfl ?_
 refine oy (rv_lenS (hS.rd 0 rfl) Tryz.underlying33 rfl rfl) rfl ?_
 refine oy (rv_sub rfl rfl rfl) rfl ?_
 refine oy (rv_assign rfl rfl) rfl ?_
 refine ops_nil fun a hA => ?_
 refine cw_seq ?_
 refine cw_seq ?_
 refine cw_ops hA ?_
 clear hA
 refine oy (rv_move rfl rfl) rfl ?_
 refine oy (rv_lss rfl rfl rfl) rfl ?_
 refine ops_nil fun a hA => ?_
 refine cw_cond hA rfl (fun hc1 => ?_) (fun hc1 => ?_)
 ·replace hF := iteT hc1 hF
  refine cw_seq ?_
  refine cw_ops hA ?_
  clear hA
  refine oy (rv_assign rfl rfl) rfl ?_
  refine ops_nil fun a hA => ?_
  refine cw_ret ?_
  cases hF
  exact fy Tryz.results16 hA rfl hS
 ·replace hF := iteF hc1 hF
  refine cw_skip ?_
  refine cw_seq ?_
  refine cw_seq ?_
  refine cw_ops hA ?_
  clear hA
  refine oy (rv_assign rfl rfl) rfl ?_
  refine ops_nil fun a hA => ?_
  obtain ⟨o1, hl1, hF⟩ := bindE hF
  refine cw_cut (J := fun a' w' => ∃ (x5 : Int), o1 = Out.brk x5 ∧ AEnv 27 [(1, .int .i64 (x5))] a' ∧ St (cxAll w0) w' [] []) ?_ ?_
  ·refine cw_block ?_
   refine cw_loop (body := laws_szLListS_l1 a_) (r := o1) (fun sg a' w' => AEnv 27 [(0, s1), (1, .int .i64 (sg.1)), (5, .int .i64 (sg.2))] a' ∧ St (cxAll w0) w' [] [fRd [s1] (a_ : List LList)]) ?_ hl1 ⟨hA.part ⟨rfl, rfl, rfl, trivial⟩, ((hS).sel [] rfl).selR [0] rfl⟩
   clear hA hS hl1
   rintro ⟨x3, x4⟩ a w q1 ⟨hA, hS⟩ hG1 hr1
   try dsimp only at hA hS
   unfold laws_szLListS_l1 at hG1
   refine cw_seq ?_
   refine cw_seq ?_
   refine cw_ops hA ?_
   clear hA
   refine oy (rv_move rfl rfl) rfl ?_
   refine oy (rv_move rfl rfl) rfl ?_
   refine oy (rv_lenS (hS.rd 0 rfl) Tryz.underlying33 rfl rfl) rfl ?_
   refine oy (rv_lss rfl rfl rfl) rfl ?_
   refine ops_nil fun a hA => ?_
   refine cw_cond hA rfl (fun hc2 => ?_) (fun hc2 => ?_)
   ·replace hG1 := iteT hc2 hG1
    refine cw_skip ?_
    refine cw_seq ?_
    refine cw_block ?_
    refine cw_seq ?_
    refine cw_ops hA ?_
    clear hA
    refine oy (rv_move rfl rfl) rfl ?_
    refine oy (rv_move rfl rfl) rfl ?_
    obtain ⟨x6, hx6, hG1⟩ := bindE hG1
    refine oy (rv_idx (m := 1) (hS.rd 0 rfl) rfl hx6 Tryz.underlying33 Tryz.sizeOf101 rfl rfl rfl) rfl ?_
    obtain ⟨s2, hel, hS⟩ := hS.el_LList 0 rfl (idx_some hx6).2.2
    refine oy (rv_loadN rfl rfl Tryz.isAgg101 Tryz.sizeOf101 rfl hel) rfl ?_
    refine oy (rv_move rfl rfl) rfl ?_
    obtain ⟨x7, hx7, hG1⟩ := bindE hG1
    refine ops_c (rc_call Tryz.call52 rfl rfl) (want_yes rfl) rfl rfl (c_laws_szLList (a_ := x6) (left := x3) (hS.rd 1 rfl) hx7) ?_
    rintro _ w ⟨rfl, hk⟩
    replace hS := hS.after hk; clear hk
    refine oy (rv_assign rfl rfl) rfl ?_
    refine ops_nil fun a hA => ?_
    refine cw_seq ?_
    refine cw_ops hA ?_
    clear hA
    refine oy (rv_move rfl rfl) rfl ?_
    refine oy (rv_lss rfl rfl rfl) rfl ?_
    refine ops_nil fun a hA => ?_
    refine cw_cond hA rfl (fun hc3 => ?_) (fun hc3 => ?_)
    ·replace hG1 := iteT hc3 hG1
     refine cw_seq ?_
     refine cw_ops hA ?_
     clear hA
     refine oy (rv_assign rfl rfl) rfl ?_
     refine ops_nil fun a hA => ?_
     refine cw_ret ?_
     cases hG1
     have ho := hr1 _ rfl; subst ho
     replace hF : some ((-1)) = some r := hF
     cases hF
     exact fy Tryz.results16 hA rfl hS
    ·replace hG1 := iteF hc3 hG1
     refine cw_skip ?_
     refine cw_ops hA ?_
     clear hA
     refine oy (rv_move rfl rfl) rfl ?_
     refine oy (rv_add rfl rfl rfl) rfl ?_
     refine oy (rv_assign rfl rfl) rfl ?_
     refine ops_nil fun a hA => ?_
     cases hG1
     exact ⟨_, rfl, ⟨hA.part ⟨rfl, rfl, rfl, trivial⟩, ((hS).sel [] rfl).selR [0] rfl⟩⟩
   ·replace hG1 := iteF hc2 hG1
    refine cw_exit ?_
    refine xcons_hit ?_
    cases hG1
    have ho := hr1 _ rfl; subst ho
    exact ⟨x3, rfl, hA.part ⟨rfl, trivial⟩, ((hS).sel [] rfl).selR [] rfl⟩
  ·skip
   clear hA hS hl1
   rintro a w ⟨x5, heq, hA, hS⟩
   replace hF : laws_szLListS_j1 x5 = some r := by rw [heq] at hF; exact hF
   clear heq
   unfold laws_szLListS_j1 at hF
   refine cw_seq ?_
   refine cw_ops hA ?_
   clear hA
   refine oy (rv_move rfl rfl) rfl ?_
   refine oy (rv_assign rfl rfl) rfl ?_
   refine ops_nil fun a hA => ?_
   refine cw_ret ?_
   cases hF
   exact fy Tryz.results16 hA rfl hS

set_option maxHeartbeats 4000000 in
set_option maxRecDepth 100000 in
theorem c_laws_szBase {w0 : World} {a_ : Base} {left : Int} {s1 : Value} {s2 : Value} {s3 : Value} {s4 : Value} {s5 : Value} {s6 : Value} {s7 : Value} {r : Int} (h1 : Rep.rd (All w0) w0 [s1] (a_.Mem.Heap.Bytes : List Int)) (h2 : Rep.rd (All w0) w0 [s2] (a_.Mem.Heap.Class : List Int)) (h3 : Rep.rd (All w0) w0 [s3] (a_.Mem.Lists.Global : List SList)) (h4 : Rep.rd (All w0) w0 [s4] (a_.Mem.Lists.Own : List SList)) (h5 : Rep.rd (All w0) w0 [s5] (a_.Clock.Pins : List Pin)) (h6 : Rep.rd (All w0) w0 [s6] (a_.Limbo : List LList)) (h7 : Rep.rd (All w0) w0 [s7] (a_.Haz : List Int)) (hF : laws_szBase a_ left = some r) :
    Calls Tryz.prog 5 #[.agg #[s1, s2, s3, s4, .int .i64 (a_.Clock.Epoch), s5, s6, s7], .int .i64 (left)] w0 (Ret fun v w' => v = .int .i64 (r) ∧ St (cxAll w0) w' [] []) := by
 have hS : St (cxAll w0) w0 [] [fRd [s1] (a_.Mem.Heap.Bytes : List Int), fRd [s2] (a_.Mem.Heap.Class : List Int), fRd [s3] (a_.Mem.Lists.Global : List SList), fRd [s4] (a_.Mem.Lists.Own : List SList), fRd [s5] (a_.Clock.Pins : List Pin), fRd [s6] (a_.Limbo : List LList), fRd [s7] (a_.Haz : List Int)] := St.enter (by
   intro f hf
   simp only [List.mem_cons, List.not_mem_nil, or_false] at hf
   rcases hf with rfl | rfl | rfl | rfl | rfl | rfl | rfl
   · exact h1
   · exact h2
   · exact h3
   · exact h4
   · exact h5
   · exact h6
   · exact h7)
 refine calls_cw (args := [_, _]) Tryz.func5 rfl Tryz.ntmps5 rfl ?_
 unfold laws_szBase at hF
 intro a hA
 refine cw_seq ?_
 refine cw_ops hA ?_
 clear hA
 refine ops_mv (rv_box (cs := [s1, s2, s3, s4, .int .i64 (a_.Clock.Epoch), s5, s6, s7]) hS rfl rfl rfl) (want_yes rfl) rfl rfl ?_
 clear hS
 rintro _ w ⟨b1, rfl, hS⟩
 refine oy (rv_assign rfl rfl) rfl ?_
 refine ops_nil fun a hA => ?_
 refine cw_seq ?_
 refine cw_ops hA ?_
 clear hA
 refine oy (rv_fld (m := 3) Tryz.underlying35 rfl rfl Tryz.sizeOf29 rfl rfl) rfl ?_
 refine oy (rv_loadN rfl rfl Tryz.isAgg29 Tryz.sizeOf29 rfl (hS.cells 0 0 (cs' := [s1, s2, s3, s4]) rfl rfl)) rfl ?_
 refine oy (rv_move rfl rfl) rfl ?_
 obtain ⟨x1, hx1, hF⟩ := bindE hF
 refine ops_c (rc_call Tryz.call14 rfl rfl) (want_yes rfl) rfl rfl (c_laws_szMem (a_ := a_.Mem) (left := left) (hS.rd 0 rfl) (hS.rd 1 rfl) (hS.rd 2 rfl) (hS.rd 3 rfl) hx1) ?_
 rintro _ w ⟨rfl, hk⟩
 replace hS := hS.after hk; clear hk
 refine oy (rv_assign rfl rfl) rfl ?_
 refine ops_nil fun a hA => ?_
 refine cw_seq ?_
 refine cw_seq ?_
 refine cw_ops hA ?_
 clear hA
 refine oy (rv_move rfl rfl) rfl ?_
 refine oy (rv_lss rfl rfl rfl) rfl ?_
 refine ops_nil fun a hA => ?_
 refine cw_cond hA rfl (fun hc1 => ?_) (fun hc1 => ?_)
 ·replace hF := iteT hc1 hF
  refine cw_seq ?_
  refine cw_ops hA ?_
  clear hA
  refine oy (rv_assign rfl rfl) rfl ?_
  refine ops_nil fun a hA => ?_
  refine cw_ret ?_
  cases hF
  exact fy Tryz.results5 hA rfl hS
 ·replace hF := iteF hc1 hF
  refine cw_skip ?_
  refine cw_seq ?_
  refine cw_ops hA ?_
  clear hA
  refine oy (rv_fld (m := 1) Tryz.underlying35 rfl rfl Tryz.sizeOf32 rfl rfl) rfl ?_
  refine oy (rv_loadN rfl rfl Tryz.isAgg32 Tryz.sizeOf32 rfl (hS.cells 0 4 (cs' := [.int .i64 (a_.Clock.Epoch), s5]) rfl rfl)) rfl ?_
  refine oy (rv_move rfl rfl) rfl ?_
  obtain ⟨x2, hx2, hF⟩ := bindE hF
  refine ops_c (rc_call Tryz.call15 rfl rfl) (want_yes rfl) rfl rfl (c_laws_szClock (a_ := a_.Clock) (left := x1) (hS.rd 4 rfl) hx2) ?_
  rintro _ w ⟨rfl, hk⟩
  replace hS := hS.after hk; clear hk
  refine oy (rv_assign rfl rfl) rfl ?_
  refine ops_nil fun a hA => ?_
  refine cw_seq ?_
  refine cw_seq ?_
  refine cw_ops hA ?_
  clear hA
  refine oy (rv_move rfl rfl) rfl ?_
  refine oy (rv_lss rfl rfl rfl) rfl ?_
  refine ops_nil fun a hA => ?_
  refine cw_cond hA rfl (fun hc2 => ?_) (fun hc2 => ?_)
  ·replace hF := iteT hc2 hF
   refine cw_seq ?_
   refine cw_ops hA ?_
   clear hA
   refine oy (rv_assign rfl rfl) rfl ?_
   refine ops_nil fun a hA => ?_
   refine cw_ret ?_
   cases hF
   exact fy Tryz.results5 hA rfl hS
  ·replace hF := iteF hc2 hF
   refine cw_skip ?_
   refine cw_seq ?_
   refine cw_ops hA ?_
   clear hA
   refine oy (rv_fld (m := 0) Tryz.underlying35 rfl rfl Tryz.sizeOf33 rfl rfl) rfl ?_
   refine oy (rv_load1 rfl rfl Tryz.isAgg33 (hS.cell 0 rfl rfl)) rfl ?_
   refine oy (rv_move rfl rfl) rfl ?_
   obtain ⟨x3, hx3, hF⟩ := bindE hF
   refine ops_c (rc_call Tryz.call16 rfl rfl) (want_yes rfl) rfl rfl (c_laws_szLListS (a_ := a_.Limbo) (left := x2) (hS.rd 5 rfl) hx3) ?_
   rintro _ w ⟨rfl, hk⟩
   replace hS := hS.after hk; clear hk
   refine oy (rv_assign rfl rfl) rfl ?_
   refine ops_nil fun a hA => ?_
   refine cw_seq ?_
   refine cw_seq ?_
   refine cw_ops hA ?_
   clear hA
   refine oy (rv_move rfl rfl) rfl ?_
   refine oy (rv_lss rfl rfl rfl) rfl ?_
   refine ops_nil fun a hA => ?_
   refine cw_cond hA rfl (fun hc3 => ?_) (fun hc3 => ?_)
   ·replace hF := iteT hc3 hF
    refine cw_seq ?_
    refine cw_ops hA ?_
    clear hA
    refine oy (rv_assign rfl rfl) rfl ?_
    refine ops_nil fun a hA => ?_
    refine cw_ret ?_
    cases hF
    exact fy Tryz.results5 hA rfl hS
   ·replace hF := iteF hc3 hF
    refine cw_skip ?_
    refine cw_seq ?_
    refine cw_ops hA ?_
    clear hA
    refine oy (rv_fld (m := 0) Tryz.underlying35 rfl rfl Tryz.sizeOf22 rfl rfl) rfl ?_
    refine oy (rv_load1 rfl rfl Tryz.isAgg22 (hS.cell 0 rfl rfl)) rfl ?_
    refine oy (rv_move rfl rfl) rfl ?_
    obtain ⟨x4, hx4, hF⟩ := bindE hF
    refine ops_c (rc_call Tryz.call17 rfl rfl) (want_yes rfl) rfl rfl (c_laws_szIntS (a_ := a_.Haz) (left := x3) (hS.rd 6 rfl) hx4) ?_
    rintro _ w ⟨rfl, hk⟩
    replace hS := hS.after hk; clear hk
    refine oy (rv_assign rfl rfl) rfl ?_
    refine ops_nil fun a hA => ?_
    refine cw_seq ?_
    refine cw_seq ?_
    refine cw_ops hA ?_
    clear hA
    refine oy (rv_move rfl rfl) rfl ?_
    refine oy (rv_lss rfl rfl rfl) rfl ?_
    refine ops_nil fun a hA => ?_
    refine cw_cond hA rfl (fun hc4 => ?_) (fun hc4 => ?_)
    ·replace hF := iteT hc4 hF
     refine cw_seq ?_
     refine cw_ops hA ?_
     clear hA
     refine oy (rv_assign rfl rfl) rfl ?_
     refine ops_nil fun a hA => ?_
     refine cw_ret ?_
     cases hF
     exact fy Tryz.results5 hA rfl hS
    ·replace hF := iteF hc4 hF
     refine cw_skip ?_
     refine cw_seq ?_
     refine cw_ops hA ?_
     clear hA
     refine oy (rv_move rfl rfl) rfl ?_
     refine oy (rv_assign rfl rfl) rfl ?_
     refine ops_nil fun a hA => ?_
     refine cw_ret ?_
     cases hF
     exact fy Tryz.results5 hA rfl hS

set_option maxHeartbeats 4000000 in
set_option maxRecDepth 100000 in
theorem c_laws_toIntS {w0 : World} {a_ : List Int} {s1 : Value} {r : (List Int)} (h1 : Rep.rd (All w0) w0 [s1] (a_ : List Int)) (hF : laws_toIntS a_ = some r) :
    Calls Tryz.prog 25 #[s1] w0 (Ret fun v w' => ∃ (s0_0 : Value), v = s0_0 ∧ St (cxAll w0) w' [cOwn [s0_0] (r : List Int)] []) := by
 have hS : St (cxAll w0) w0 [] [fRd [s1] (a_ : List Int)] := St.enter (by
   intro f hf
   simp only [List.mem_cons, List.not_mem_nil, or_false] at hf
   subst hf; exact h1)
 refine calls_cw (args := [_]) Tryz.func25 rfl Tryz.ntmps25 rfl ?_
 unfold laws_toIntS at hF
 intro a hA
 refine cw_seq ?_
 refine cw_ops hA ?_
 clear hA
 refine oy (rv_assign rfl rfl) rfl ?_
 refine ops_nil fun a hA => ?_
 refine cw_seq ?_
 refine cw_ops hA ?_
 clear hA
 refine oy (rv_move rfl rfl) rfl ?_
 refine oy (rv_lenS (hS.rd 0 rfl) Tryz.underlying22 rfl rfl) rfl ?_
 obtain ⟨hn1, hF⟩ := needE hF
 refine ops_mv (rv_make (0 : Int) hS rfl Tryz.underlying22 inf_Tryz3 rfl (fun _ => rfl) hn1 rfl rfl rfl) (want_yes rfl) rfl rfl ?_
 clear hS
 rintro s2 w hS
 refine oy (rv_assign rfl rfl) rfl ?_
 refine ops_nil fun a hA => ?_
 refine cw_seq ?_
 refine cw_seq ?_
 refine cw_ops hA ?_
 clear hA
 refine oy (rv_assign rfl rfl) rfl ?_
 refine ops_nil fun a hA => ?_
 obtain ⟨o1, hl1, hF⟩ := bindE hF
 refine cw_cut (J := fun a' w' => ∃ (x5 : List Int), o1 = x5 ∧ AEnv 22 [(3, s2)] a' ∧ St (cxAll w0) w' [cOwn [s2] (x5 : List Int)] []) ?_ ?_
 ·refine cw_block ?_
  refine cw_loop (body := laws_toIntS_l1 a_) (r := o1) (fun sg a' w' => AEnv 22 [(0, s1), (3, s2), (4, .int .i64 (sg.2))] a' ∧ St (cxAll w0) w' [cOwn [s2] (sg.1 : List Int)] [fRd [s1] (a_ : List Int)]) ?_ hl1 ⟨hA.part ⟨rfl, rfl, rfl, trivial⟩, ((hS).sel [0] rfl).selR [0] rfl⟩
  clear hA hS hl1
  rintro ⟨x3, x4⟩ a w q1 ⟨hA, hS⟩ hG1 hr1
  try dsimp only at hA hS
  unfold laws_toIntS_l1 at hG1
  refine cw_seq ?_
  refine cw_seq ?_
  refine cw_ops hA ?_
  clear hA
  refine oy (rv_move rfl rfl) rfl ?_
  refine oy (rv_move rfl rfl) rfl ?_
  refine oy (rv_lenS (hS.rd 0 rfl) Tryz.underlying22 rfl rfl) rfl ?_
  refine oy (rv_lss rfl rfl rfl) rfl ?_
  refine ops_nil fun a hA => ?_
  refine cw_cond hA rfl (fun hc1 => ?_) (fun hc1 => ?_)
  ·replace hG1 := iteT hc1 hG1
   refine cw_skip ?_
   refine cw_seq ?_
   refine cw_block ?_
   refine cw_ops hA ?_
   clear hA
   refine oy (rv_move rfl rfl) rfl ?_
   refine oy (rv_move rfl rfl) rfl ?_
   refine oy (rv_move rfl rfl) rfl ?_
   refine oy (rv_move rfl rfl) rfl ?_
   obtain ⟨x6, hx6, hG1⟩ := bindE hG1
   refine oy (rv_idx (m := 1) (hS.rd 0 rfl) rfl hx6 Tryz.underlying22 Tryz.sizeOf3 rfl rfl rfl) rfl ?_
   refine oy (rv_load1 rfl rfl Tryz.isAgg3 (cell1 (el_Int (hS.rd 0 rfl) (idx_some hx6).2.2))) rfl ?_
   obtain ⟨x7, hx7, hG1⟩ := bindE hG1
   refine oy (rv_idx (m := 1) (hS.rdOwn 0 rfl) rfl hx7 Tryz.underlying22 Tryz.sizeOf3 rfl rfl rfl) rfl ?_
   refine ops_ms (rs_elem (vs := [.int .i64 (x6)]) (f := 0) (xd := x6) hS (i := 0) rfl hx7 rfl (el_Int (hS.rdOwn 0 rfl) (idx_some hx7).2.2) rfl rfl Tryz.sizeOf3 rfl rfl rfl rfl rfl rfl rfl) (want_yes rfl) rfl ?_
   clear hS
   intro w hS
   refine ops_nil fun a hA => ?_
   refine cw_ops hA ?_
   clear hA
   refine oy (rv_move rfl rfl) rfl ?_
   refine oy (rv_add rfl rfl rfl) rfl ?_
   refine oy (rv_assign rfl rfl) rfl ?_
   refine ops_nil fun a hA => ?_
   cases hG1
   exact ⟨_, rfl, ⟨hA.part ⟨rfl, rfl, rfl, trivial⟩, ((hS).sel [0] rfl).selR [0] rfl⟩⟩
  ·replace hG1 := iteF hc1 hG1
   refine cw_exit ?_
   refine xcons_hit ?_
   cases hG1
   have ho := hr1 _ rfl; subst ho
   exact ⟨x3, rfl, hA.part ⟨rfl, trivial⟩, ((hS).sel [0] rfl).selR [] rfl⟩
 ·skip
  clear hA hS hl1
  rintro a w ⟨x5, heq, hA, hS⟩
  replace hF : laws_toIntS_j1 x5 = some r := by rw [heq] at hF; exact hF
  clear heq
  unfold laws_toIntS_j1 at hF
  refine cw_seq ?_
  refine cw_ops hA ?_
  clear hA
  refine oy (rv_move rfl rfl) rfl ?_
  refine oy (rv_assign rfl rfl) rfl ?_
  refine ops_nil fun a hA => ?_
  refine cw_ret ?_
  cases hF
  exact fin1 Tryz.results25 hA (res_tmp rfl) ⟨s2, rfl, (hS.sel [0] rfl).weaken (R' := []) (fun _ h => nomatch h)⟩

set_option maxHeartbeats 4000000 in
set_option maxRecDepth 100000 in
theorem c_laws_toHeap {w0 : World} {a_ : Heap} {s1 : Value} {s2 : Value} {r : Heap} (h1 : Rep.rd (All w0) w0 [s1] (a_.Bytes : List Int)) (h2 : Rep.rd (All w0) w0 [s2] (a_.Class : List Int)) (hF : laws_toHeap a_ = some r) :
    Calls Tryz.prog 61 #[.agg #[s1, s2]] w0 (Ret fun v w' => ∃ (s0_0 : Value) (s0_1 : Value), v = .agg #[s0_0, s0_1] ∧ St (cxAll w0) w' [cOwn [s0_0] (r.Bytes : List Int), cOwn [s0_1] (r.Class : List Int)] []) := by
 have hS : St (cxAll w0) w0 [] [fRd [s1] (a_.Bytes : List Int), fRd [s2] (a_.Class : List Int)] := St.enter (by
   intro f hf
   simp only [List.mem_cons, List.not_mem_nil, or_false] at hf
   rcases hf with rfl | rfl
   · exact h1
   · exact h2)
 refine calls_cw (args := [_]) Tryz.func61 rfl Tryz.ntmps61 rfl ?_
 unfold laws_toHeap at hF
 intro a hA
 refine cw_seq ?_
 refine cw_ops hA ?_
 clear hA
 refine ops_mv (rv_box (cs := [s1, s2]) hS rfl rfl rfl) (want_yes rfl) rfl rfl ?_
 clear hS
 rintro _ w ⟨b1, rfl, hS⟩
 refine ops_mv (rv_alloc (cs := [(.slice none 0 0), (.slice none 0 0)]) hS rfl Tryz.zeroValue38 rfl) (want_yes rfl) rfl rfl ?_
 clear hS
 rintro _ w ⟨b2, rfl, hS⟩
 refine ops_nil fun a hA => ?_
 refine cw_seq ?_
 refine cw_ops hA ?_
 clear hA
 refine ops_mv (rv_alloc (cs := [(.slice none 0 0), (.slice none 0 0)]) hS rfl Tryz.zeroValue38 rfl) (want_yes rfl) rfl rfl ?_
 clear hS
 rintro _ w ⟨b3, rfl, hS⟩
 refine ops_nil fun a hA => ?_
 refine cw_seq ?_
 refine cw_ops hA ?_
 clear hA
 refine oy (rv_fld (m := 0) Tryz.underlying24 rfl rfl Tryz.sizeOf22 rfl rfl) rfl ?_
 refine oy (rv_load1 rfl rfl Tryz.isAgg22 (hS.cell 0 rfl rfl)) rfl ?_
 obtain ⟨x1, hx1, hF⟩ := bindE hF
 refine ops_c (rc_call Tryz.call25 rfl rfl) (want_yes rfl) rfl rfl (c_laws_toIntS (a_ := a_.Bytes) (hS.rd 0 rfl) hx1) ?_
 rintro s3 w ⟨_, rfl, hk⟩
 replace hS := hS.after hk; clear hk
 refine oy (rv_fld (m := 0) Tryz.underlying38 rfl rfl Tryz.sizeOf22 rfl rfl) rfl ?_
 refine ops_ms (rs_box (vs := [s3]) hS (i := 2) rfl rfl rfl rfl (cells_rd (hS.rdOwn 3 rfl)) Tryz.sizeOf22 rfl rfl (all1 (one_rd (hS.rdOwn 3 rfl)) rfl)) (want_yes rfl) rfl ?_
 clear hS
 intro w hS
 refine ops_nil fun a hA => ?_
 refine cw_seq ?_
 refine cw_ops hA ?_
 clear hA
 refine oy (rv_fld (m := 0) Tryz.underlying24 rfl rfl Tryz.sizeOf22 rfl rfl) rfl ?_
 refine oy (rv_load1 rfl rfl Tryz.isAgg22 (hS.cell 0 rfl rfl)) rfl ?_
 obtain ⟨x2, hx2, hF⟩ := bindE hF
 refine ops_c (rc_call Tryz.call25 rfl rfl) (want_yes rfl) rfl rfl (c_laws_toIntS (a_ := a_.Class) (hS.rd 1 rfl) hx2) ?_
 rintro s4 w ⟨_, rfl, hk⟩
 replace hS := hS.after hk; clear hk
 refine oy (rv_fld (m := 0) Tryz.underlying38 rfl rfl Tryz.sizeOf22 rfl rfl) rfl ?_
 refine ops_ms (rs_box (vs := [s4]) hS (i := 2) rfl rfl rfl rfl (cells_rd (hS.rdOwn 4 rfl)) Tryz.sizeOf22 rfl rfl (all1 (one_rd (hS.rdOwn 4 rfl)) rfl)) (want_yes rfl) rfl ?_
 clear hS
 intro w hS
 refine ops_nil fun a hA => ?_
 refine cw_seq ?_
 refine cw_ops hA ?_
 clear hA
 refine oy (rv_loadN rfl rfl Tryz.isAgg38 Tryz.sizeOf38 rfl (hS.cells 2 0 (cs' := [s3, s4]) rfl rfl)) rfl ?_
 refine ops_ms (rs_box (vs := [s3, s4]) hS (i := 1) rfl rfl rfl rfl rfl Tryz.sizeOf38 rfl rfl (all1 (one_rd (hS.rdOwn 3 rfl)) (all1 (one_rd (hS.rdOwn 4 rfl)) rfl))) (want_yes rfl) rfl ?_
 clear hS
 intro w hS
 refine ops_nil fun a hA => ?_
 refine cw_ret ?_
 cases hF
 exact fin1 Tryz.results61 hA (res_cell rfl Tryz.isAgg38 Tryz.sizeOf38 rfl (hS.cells 1 0 (cs' := [s3, s4]) rfl rfl)) ⟨s3, s4, rfl, (hS.sel [3, 4] rfl).weaken (R' := []) (fun _ h => nomatch h)⟩

set_option maxHeartbeats 4000000 in
set_option maxRecDepth 100000 in
theorem c_laws_toSList {w0 : World} {a_ : SList} {s1 : Value} {r : SList} (h1 : Rep.rd (All w0) w0 [s1] (a_.Slots : List Int)) (hF : laws_toSList a_ = some r) :
    Calls Tryz.prog 135 #[.agg #[s1]] w0 (Ret fun v w' => ∃ (s0_0 : Value), v = .agg #[s0_0] ∧ St (cxAll w0) w' [cOwn [s0_0] (r.Slots : List Int)] []) := by
 have hS : St (cxAll w0) w0 [] [fRd [s1] (a_.Slots : List Int)] := St.enter (by
   intro f hf
   simp only [List.mem_cons, List.not_mem_nil, or_false] at hf
   subst hf; exact h1)
 refine calls_cw (args := [_]) Tryz.func135 rfl Tryz.ntmps135 rfl ?_
 unfold laws_toSList at hF
 intro a hA
 refine cw_seq ?_
 refine cw_ops hA ?_
 clear hA
 refine ops_mv (rv_box (cs := [s1]) hS rfl rfl rfl) (want_yes rfl) rfl rfl ?_
 clear hS
 rintro _ w ⟨b1, rfl, hS⟩
 refine ops_mv (rv_alloc (cs := [(.slice none 0 0)]) hS rfl Tryz.zeroValue120 rfl) (want_yes rfl) rfl rfl ?_
 clear hS
 rintro _ w ⟨b2, rfl, hS⟩
 refine ops_nil fun a hA => ?_
 refine cw_seq ?_
 refine cw_ops hA ?_
 clear hA
 refine ops_mv (rv_alloc (cs := [(.slice none 0 0)]) hS rfl Tryz.zeroValue120 rfl) (want_yes rfl) rfl rfl ?_
 clear hS
 rintro _ w ⟨b3, rfl, hS⟩
 refine ops_nil fun a hA => ?_
 refine cw_seq ?_
 refine cw_ops hA ?_
 clear hA
 refine oy (rv_fld (m := 0) Tryz.underlying162 rfl rfl Tryz.sizeOf22 rfl rfl) rfl ?_
 refine oy (rv_load1 rfl rfl Tryz.isAgg22 (hS.cell 0 rfl rfl)) rfl ?_
 obtain ⟨x1, hx1, hF⟩ := bindE hF
 refine ops_c (rc_call Tryz.call25 rfl rfl) (want_yes rfl) rfl rfl (c_laws_toIntS (a_ := a_.Slots) (hS.rd 0 rfl) hx1) ?_
 rintro s2 w ⟨_, rfl, hk⟩
 replace hS := hS.after hk; clear hk
 refine oy (rv_fld (m := 0) Tryz.underlying120 rfl rfl Tryz.sizeOf22 rfl rfl) rfl ?_
 refine ops_ms (rs_box (vs := [s2]) hS (i := 2) rfl rfl rfl rfl (cells_rd (hS.rdOwn 3 rfl)) Tryz.sizeOf22 rfl rfl (all1 (one_rd (hS.rdOwn 3 rfl)) rfl)) (want_yes rfl) rfl ?_
 clear hS
 intro w hS
 refine ops_nil fun a hA => ?_
 refine cw_seq ?_
 refine cw_ops hA ?_
 clear hA
 refine oy (rv_loadN rfl rfl Tryz.isAgg120 Tryz.sizeOf120 rfl (hS.cells 2 0 (cs' := [s2]) rfl rfl)) rfl ?_
 refine ops_ms (rs_box (vs := [s2]) hS (i := 1) rfl rfl rfl rfl rfl Tryz.sizeOf120 rfl rfl (all1 (one_rd (hS.rdOwn 3 rfl)) rfl)) (want_yes rfl) rfl ?_
 clear hS
 intro w hS
 refine ops_nil fun a hA => ?_
 refine cw_ret ?_
 cases hF
 exact fin1 Tryz.results135 hA (res_cell rfl Tryz.isAgg120 Tryz.sizeOf120 rfl (hS.cells 1 0 (cs' := [s2]) rfl rfl)) ⟨s2, rfl, (hS.sel [3] rfl).weaken (R' := []) (fun _ h => nomatch h)⟩

set_option maxHeartbeats 4000000 in
set_option maxRecDepth 100000 in
theorem c_laws_toSListS {w0 : World} {a_ : List SList} {s1 : Value} {r : (List SList)} (h1 : Rep.rd (All w0) w0 [s1] (a_ : List SList)) (hF : laws_toSListS a_ = some r) :
    Calls Tryz.prog 105 #[s1] w0 (Ret fun v w' => ∃ (s0_0 : Value), v = s0_0 ∧ St (cxAll w0) w' [cOwn [s0_0] (r : List SList)] []) := by
 have hS : St (cxAll w0) w0 [] [fRd [s1] (a_ : List SList)] := St.enter (by
   intro f hf
   simp only [List.mem_cons, List.not_mem_nil, or_false] at hf
   subst hf; exact h1)
 refine calls_cw (args := [_]) Tryz.func105 rfl Tryz.ntmps105 rfl ?_
 unfold laws_toSListS at hF
 intro a hA
 refine cw_seq ?_
 refine cw_ops hA ?_
 clear hA
 refine oy (rv_assign rfl rfl) rfl ?_
 refine ops_nil fun a hA => ?_
 refine cw_seq ?_
 refine cw_ops hA ?_
 clear hA
 refine oy (rv_move rfl rfl) rfl ?_
 refine oy (rv_lenS (hS.rd 0 rfl) Tryz.underlying25 rfl rfl) rfl ?_
 obtain ⟨hn1, hF⟩ := needE hF
 refine ops_mv (rv_makeN ((⟨[]⟩ : SList) : SList) hS rfl Tryz.underlying39 inf_Tryz120 rfl (fun _ => (op_zero (op_SList ((⟨[]⟩ : SList))) (zcons znil))) hn1 rfl rfl rfl) (want_yes rfl) rfl rfl ?_
 clear hS
 rintro s2 w hS
 refine oy (rv_assign rfl rfl) rfl ?_
 refine ops_nil fun a hA => ?_
 refine cw_seq ?_
 refine cw_seq ?_
 refine cw_ops hA ?_
 clear hA
 refine oy (rv_assign rfl rfl) rfl ?_
 refine ops_nil fun a hA => ?_
 obtain ⟨o1, hl1, hF⟩ := bindE hF
 refine cw_cut (J := fun a' w' => ∃ (x5 : List SList), o1 = x5 ∧ AEnv 23 [(3, s2)] a' ∧ St (cxAll w0) w' [cOwn [s2] (x5 : List SList)] []) ?_ ?_
 ·refine cw_block ?_
  refine cw_loop (body := laws_toSListS_l1 a_) (r := o1) (fun sg a' w' => AEnv 23 [(0, s1), (3, s2), (4, .int .i64 (sg.2))] a' ∧ St (cxAll w0) w' [cOwn [s2] (sg.1 : List SList)] [fRd [s1] (a_ : List SList)]) ?_ hl1 ⟨hA.part ⟨rfl, rfl, rfl, trivial⟩, ((hS).sel [0] rfl).selR [0] rfl⟩
  clear hA hS hl1
  rintro ⟨x3, x4⟩ a w q1 ⟨hA, hS⟩ hG1 hr1
  try dsimp only at hA hS
  unfold laws_toSListS_l1 at hG1
  refine cw_seq ?_
  refine cw_seq ?_
  refine cw_ops hA ?_
  clear hA
  refine oy (rv_move rfl rfl) rfl ?_
  refine oy (rv_move rfl rfl) rfl ?_
  refine oy (rv_lenS (hS.rd 0 rfl) Tryz.underlying25 rfl rfl) rfl ?_
  refine oy (rv_lss rfl rfl rfl) rfl ?_
  refine ops_nil fun a hA => ?_
  refine cw_cond hA rfl (fun hc1 => ?_) (fun hc1 => ?_)
  ·replace hG1 := iteT hc1 hG1
   refine cw_skip ?_
   refine cw_seq ?_
   refine cw_block ?_
   refine cw_ops hA ?_
   clear hA
   refine oy (rv_move rfl rfl) rfl ?_
   refine oy (rv_move rfl rfl) rfl ?_
   refine oy (rv_move rfl rfl) rfl ?_
   refine oy (rv_move rfl rfl) rfl ?_
   obtain ⟨x6, hx6, hG1⟩ := bindE hG1
   refine oy (rv_idx (m := 1) (hS.rd 0 rfl) rfl hx6 Tryz.underlying25 Tryz.sizeOf162 rfl rfl rfl) rfl ?_
   obtain ⟨s3, hel, hS⟩ := hS.el_SList 0 rfl (idx_some hx6).2.2
   refine oy (rv_loadN rfl rfl Tryz.isAgg162 Tryz.sizeOf162 rfl hel) rfl ?_
   obtain ⟨x7, hx7, hG1⟩ := bindE hG1
   refine ops_c (rc_call Tryz.call135 rfl rfl) (want_yes rfl) rfl rfl (c_laws_toSList (a_ := x6) (hS.rd 1 rfl) hx7) ?_
   rintro _ w ⟨s4, rfl, hk⟩
   replace hS := hS.after hk; clear hk
   obtain ⟨x8, hx8, hG1⟩ := bindE hG1
   refine oy (rv_idx (m := 1) (hS.rdOwn 0 rfl) rfl hx8 Tryz.underlying39 Tryz.sizeOf120 rfl rfl rfl) rfl ?_
   obtain ⟨ec, hS⟩ := hS.open 0 rfl (idx_some hx8).2.2
   obtain ⟨s5, he, _⟩ := rd_SList (hS.rdOwn 4 rfl)
   subst he
   replace hS := hS.unpack 4 rfl (op_SList x8)
   refine ops_ms (rs_at (vs := [s4]) (q := elO 1 (x4.toNat) s2) (j := 0) hS (i := 3) rfl rfl rfl rfl rfl Tryz.sizeOf120 rfl rfl (all1 (one_rd (hS.rdOwn 1 rfl)) rfl)) (want_yes rfl) rfl ?_
   clear hS
   intro w hS
   refine ops_nil fun a hA => ?_
   refine cw_ops hA ?_
   clear hA
   refine oy (rv_move rfl rfl) rfl ?_
   refine oy (rv_add rfl rfl rfl) rfl ?_
   refine oy (rv_assign rfl rfl) rfl ?_
   refine ops_nil fun a hA => ?_
   replace hS := hS.pack [1] rfl rfl (op_SList x7)
   replace hS := hS.close [2, 3, 6] rfl rfl
   cases hG1
   exact ⟨_, rfl, ⟨hA.part ⟨rfl, rfl, rfl, trivial⟩, ((hS).sel [7] rfl).selR [0] rfl⟩⟩
  ·replace hG1 := iteF hc1 hG1
   refine cw_exit ?_
   refine xcons_hit ?_
   cases hG1
   have ho := hr1 _ rfl; subst ho
   exact ⟨x3, rfl, hA.part ⟨rfl, trivial⟩, ((hS).sel [0] rfl).selR [] rfl⟩
 ·skip
  clear hA hS hl1
  rintro a w ⟨x5, heq, hA, hS⟩
  replace hF : laws_toSListS_j1 x5 = some r := by rw [heq] at hF; exact hF
  clear heq
  unfold laws_toSListS_j1 at hF
  refine cw_seq ?_
  refine cw_ops hA ?_
  clear hA
  refine oy (rv_move rfl rfl) rfl ?_
  refine oy (rv_assign rfl rfl) rfl ?_
  refine ops_nil fun a hA => ?_
  refine cw_ret ?_
  cases hF
  exact fin1 Tryz.results105 hA (res_tmp rfl) ⟨s2, rfl, (hS.sel [0] rfl).weaken (R' := []) (fun _ h => nomatch h)⟩

set_option maxHeartbeats 4000000 in
set_option maxRecDepth 100000 in
theorem c_laws_toLists {w0 : World} {a_ : Lists} {s1 : Value} {s2 : Value} {r : Lists} (h1 : Rep.rd (All w0) w0 [s1] (a_.Global : List SList)) (h2 : Rep.rd (All w0) w0 [s2] (a_.Own : List SList)) (hF : laws_toLists a_ = some r) :
    Calls Tryz.prog 62 #[.agg #[s1, s2]] w0 (Ret fun v w' => ∃ (s0_0 : Value) (s0_1 : Value), v = .agg #[s0_0, s0_1] ∧ St (cxAll w0) w' [cOwn [s0_0] (r.Global : List SList), cOwn [s0_1] (r.Own : List SList)] []) := by
 have hS : St (cxAll w0) w0 [] [fRd [s1] (a_.Global : List SList), fRd [s2] (a_.Own : List SList)] := St.enter (by
   intro f hf
   simp only [List.mem_cons, List.not_mem_nil, or_false] at hf
   rcases hf with rfl | rfl
   · exact h1
   · exact h2)
 refine calls_cw (args := [_]) Tryz.func62 rfl Tryz.ntmps62 rfl ?_
 unfold laws_toLists at hF
 intro a hA
 refine cw_seq ?_
 refine cw_ops hA ?_
 clear hA
 refine ops_mv (rv_box (cs := [s1, s2]) hS rfl rfl rfl) (want_yes rfl) rfl rfl ?_
 clear hS
 rintro _ w ⟨b1, rfl, hS⟩
 refine ops_mv (rv_alloc (cs := [(.slice none 0 0), (.slice none 0 0)]) hS rfl Tryz.zeroValue41 rfl) (want_yes rfl) rfl rfl ?_
 clear hS
 rintro _ w ⟨b2, rfl, hS⟩
 refine ops_nil fun a hA => ?_
 refine cw_seq ?_
 refine cw_ops hA ?_
 clear hA
 refine ops_mv (rv_alloc (cs := [(.slice none 0 0), (.slice none 0 0)]) hS rfl Tryz.zeroValue41 rfl) (want_yes rfl) rfl rfl ?_
 clear hS
 rintro _ w ⟨b3, rfl, hS⟩
 refine ops_nil fun a hA => ?_
 refine cw_seq ?_
 refine cw_ops hA ?_
 clear hA
 refine oy (rv_fld (m := 0) Tryz.underlying27 rfl rfl Tryz.sizeOf25 rfl rfl) rfl ?_
 refine oy (rv_load1 rfl rfl Tryz.isAgg25 (hS.cell 0 rfl rfl)) rfl ?_
 obtain ⟨x1, hx1, hF⟩ := bindE hF
 refine ops_c (rc_call Tryz.call105 rfl rfl) (want_yes rfl) rfl rfl (c_laws_toSListS (a_ := a_.Global) (hS.rd 0 rfl) hx1) ?_
 rintro s3 w ⟨_, rfl, hk⟩
 replace hS := hS.after hk; clear hk
 refine oy (rv_fld (m := 0) Tryz.underlying41 rfl rfl Tryz.sizeOf39 rfl rfl) rfl ?_
 refine ops_ms (rs_box (vs := [s3]) hS (i := 2) rfl rfl rfl rfl (cells_rd (hS.rdOwn 3 rfl)) Tryz.sizeOf39 rfl rfl (all1 (one_rd (hS.rdOwn 3 rfl)) rfl)) (want_yes rfl) rfl ?_
 clear hS
 intro w hS
 refine ops_nil fun a hA => ?_
 refine cw_seq ?_
 refine cw_ops hA ?_
 clear hA
 refine oy (rv_fld (m := 0) Tryz.underlying27 rfl rfl Tryz.sizeOf25 rfl rfl) rfl ?_
 refine oy (rv_load1 rfl rfl Tryz.isAgg25 (hS.cell 0 rfl rfl)) rfl ?_
 obtain ⟨x2, hx2, hF⟩ := bindE hF
 refine ops_c (rc_call Tryz.call105 rfl rfl) (want_yes rfl) rfl rfl (c_laws_toSListS (a_ := a_.Own) (hS.rd 1 rfl) hx2) ?_
 rintro s4 w ⟨_, rfl, hk⟩
 replace hS := hS.after hk; clear hk
 refine oy (rv_fld (m := 0) Tryz.underlying41 rfl rfl Tryz.sizeOf39 rfl rfl) rfl ?_
 refine ops_ms (rs_box (vs := [s4]) hS (i := 2) rfl rfl rfl rfl (cells_rd (hS.rdOwn 4 rfl)) Tryz.sizeOf39 rfl rfl (all1 (one_rd (hS.rdOwn 4 rfl)) rfl)) (want_yes rfl) rfl ?_
 clear hS
 intro w hS
 refine ops_nil fun a hA => ?_
 refine cw_seq ?_
 refine cw_ops hA ?_
 clear hA
 refine oy (rv_loadN rfl rfl Tryz.isAgg41 Tryz.sizeOf41 rfl (hS.cells 2 0 (cs' := [s3, s4]) rfl rfl)) rfl ?_
 refine ops_ms (rs_box (vs := [s3, s4]) hS (i := 1) rfl rfl rfl rfl rfl Tryz.sizeOf41 rfl rfl (all1 (one_rd (hS.rdOwn 3 rfl)) (all1 (one_rd (hS.rdOwn 4 rfl)) rfl))) (want_yes rfl) rfl ?_
 clear hS
 intro w hS
 refine ops_nil fun a hA => ?_
 refine cw_ret ?_
 cases hF
 exact fin1 Tryz.results62 hA (res_cell rfl Tryz.isAgg41 Tryz.sizeOf41 rfl (hS.cells 1 0 (cs' := [s3, s4]) rfl rfl)) ⟨s3, s4, rfl, (hS.sel [3, 4] rfl).weaken (R' := []) (fun _ h => nomatch h)⟩

set_option maxHeartbeats 4000000 in
set_option maxRecDepth 100000 in
theorem c_laws_toMem {w0 : World} {a_ : Mem} {s1 : Value} {s2 : Value} {s3 : Value} {s4 : Value} {r : Mem} (h1 : Rep.rd (All w0) w0 [s1] (a_.Heap.Bytes : List Int)) (h2 : Rep.rd (All w0) w0 [s2] (a_.Heap.Class : List Int)) (h3 : Rep.rd (All w0) w0 [s3] (a_.Lists.Global : List SList)) (h4 : Rep.rd (All w0) w0 [s4] (a_.Lists.Own : List SList)) (hF : laws_toMem a_ = some r) :
    Calls Tryz.prog 22 #[.agg #[s1, s2, s3, s4]] w0 (Ret fun v w' => ∃ (s0_0 : Value) (s0_1 : Value) (s0_2 : Value) (s0_3 : Value), v = .agg #[s0_0, s0_1, s0_2, s0_3] ∧ St (cxAll w0) w' [cOwn [s0_0] (r.Heap.Bytes : List Int), cOwn [s0_1] (r.Heap.Class : List Int), cOwn [s0_2] (r.Lists.Global : List SList), cOwn [s0_3] (r.Lists.Own : List SList)] []) := by
 have hS : St (cxAll w0) w0 [] [fRd [s1] (a_.Heap.Bytes : List Int), fRd [s2] (a_.Heap.Class : List Int), fRd [s3] (a_.Lists.Global : List SList), fRd [s4] (a_.Lists.Own : List SList)] := St.enter (by
   intro f hf
   simp only [List.mem_cons, List.not_mem_nil, or_false] at hf
   rcases hf with rfl | rfl | rfl | rfl
   · exact h1
   · exact h2
   · exact h3
   · exact h4)
 refine calls_cw (args := [_]) Tryz.func22 rfl Tryz.ntmps22 rfl ?_
 unfold laws_toMem at hF
 intro a hA
 refine cw_seq ?_
 refine cw_ops hA ?_
 clear hA
 refine ops_mv (rv_box (cs := [s1, s2, s3, s4]) hS rfl rfl rfl) (want_yes rfl) rfl rfl ?_
 clear hS
 rintro _ w ⟨b1, rfl, hS⟩
 refine ops_mv (rv_alloc (cs := [(.slice none 0 0), (.slice none 0 0), (.slice none 0 0), (.slice none 0 0)]) hS rfl Tryz.zeroValue43 rfl) (want_yes rfl) rfl rfl ?_
 clear hS
 rintro _ w ⟨b2, rfl, hS⟩
 refine ops_nil fun a hA => ?_
 refine cw_seq ?_
 refine cw_ops hA ?_
 clear hA
 refine ops_mv (rv_alloc (cs := [(.slice none 0 0), (.slice none 0 0), (.slice none 0 0), (.slice none 0 0)]) hS rfl Tryz.zeroValue43 rfl) (want_yes rfl) rfl rfl ?_
 clear hS
 rintro _ w ⟨b3, rfl, hS⟩
 refine ops_nil fun a hA => ?_
 refine cw_seq ?_
 refine cw_ops hA ?_
 clear hA
 refine oy (rv_fld (m := 1) Tryz.underlying29 rfl rfl Tryz.sizeOf24 rfl rfl) rfl ?_
 refine oy (rv_loadN rfl rfl Tryz.isAgg24 Tryz.sizeOf24 rfl (hS.cells 0 0 (cs' := [s1, s2]) rfl rfl)) rfl ?_
 obtain ⟨x1, hx1, hF⟩ := bindE hF
 refine ops_c (rc_call Tryz.call61 rfl rfl) (want_yes rfl) rfl rfl (c_laws_toHeap (a_ := a_.Heap) (hS.rd 0 rfl) (hS.rd 1 rfl) hx1) ?_
 rintro _ w ⟨s5, s6, rfl, hk⟩
 replace hS := hS.after hk; clear hk
 refine oy (rv_fld (m := 1) Tryz.underlying43 rfl rfl Tryz.sizeOf38 rfl rfl) rfl ?_
 refine ops_ms (rs_box (vs := [s5, s6]) hS (i := 2) rfl rfl rfl rfl rfl Tryz.sizeOf38 rfl rfl (all1 (one_rd (hS.rdOwn 3 rfl)) (all1 (one_rd (hS.rdOwn 4 rfl)) rfl))) (want_yes rfl) rfl ?_
 clear hS
 intro w hS
 refine ops_nil fun a hA => ?_
 refine cw_seq ?_
 refine cw_ops hA ?_
 clear hA
 refine oy (rv_fld (m := 1) Tryz.underlying29 rfl rfl Tryz.sizeOf27 rfl rfl) rfl ?_
 refine oy (rv_loadN rfl rfl Tryz.isAgg27 Tryz.sizeOf27 rfl (hS.cells 0 2 (cs' := [s3, s4]) rfl rfl)) rfl ?_
 obtain ⟨x2, hx2, hF⟩ := bindE hF
 refine ops_c (rc_call Tryz.call62 rfl rfl) (want_yes rfl) rfl rfl (c_laws_toLists (a_ := a_.Lists) (hS.rd 2 rfl) (hS.rd 3 rfl) hx2) ?_
 rintro _ w ⟨s7, s8, rfl, hk⟩
 replace hS := hS.after hk; clear hk
 refine oy (rv_fld (m := 1) Tryz.underlying43 rfl rfl Tryz.sizeOf41 rfl rfl) rfl ?_
 refine ops_ms (rs_box (vs := [s7, s8]) hS (i := 2) rfl rfl rfl rfl rfl Tryz.sizeOf41 rfl rfl (all1 (one_rd (hS.rdOwn 5 rfl)) (all1 (one_rd (hS.rdOwn 6 rfl)) rfl))) (want_yes rfl) rfl ?_
 clear hS
 intro w hS
 refine ops_nil fun a hA => ?_
 refine cw_seq ?_
 refine cw_ops hA ?_
 clear hA
 refine oy (rv_loadN rfl rfl Tryz.isAgg43 Tryz.sizeOf43 rfl (hS.cells 2 0 (cs' := [s5, s6, s7, s8]) rfl rfl)) rfl ?_
 refine ops_ms (rs_box (vs := [s5, s6, s7, s8]) hS (i := 1) rfl rfl rfl rfl rfl Tryz.sizeOf43 rfl rfl (all1 (one_rd (hS.rdOwn 3 rfl)) (all1 (one_rd (hS.rdOwn 4 rfl)) (all1 (one_rd (hS.rdOwn 5 rfl)) (all1 (one_rd (hS.rdOwn 6 rfl)) rfl))))) (want_yes rfl) rfl ?_
 clear hS
 intro w hS
 refine ops_nil fun a hA => ?_
 refine cw_ret ?_
 cases hF
 exact fin1 Tryz.results22 hA (res_cell rfl Tryz.isAgg43 Tryz.sizeOf43 rfl (hS.cells 1 0 (cs' := [s5, s6, s7, s8]) rfl rfl)) ⟨s5, s6, s7, s8, rfl, (hS.sel [3, 4, 5, 6] rfl).weaken (R' := []) (fun _ h => nomatch h)⟩

set_option maxHeartbeats 4000000 in
set_option maxRecDepth 100000 in
theorem c_laws_toPin {w0 : World} {a_ : Pin}  {r : Pin}  (hF : laws_toPin a_ = some r) :
    Calls Tryz.prog 106 #[.agg #[.bool (a_.On), .int .i64 (a_.Epoch), .bool (a_.Marked), .int .i64 (a_.Seen)]] w0 (Ret fun v w' => v = .agg #[.bool (r.On), .int .i64 (r.Epoch), .bool (r.Marked), .int .i64 (r.Seen)] ∧ St (cxAll w0) w' [] []) := by
 have hS : St (cxAll w0) w0 [] [] := St.enter (by
   intro f hf; cases hf)
 refine calls_cw (args := [_]) Tryz.func106 rfl Tryz.ntmps106 rfl ?_
 unfold laws_toPin at hF
 intro a hA
 refine cw_seq ?_
 refine cw_ops hA ?_
 clear hA
 refine ops_mv (rv_box (cs := [.bool (a_.On), .int .i64 (a_.Epoch), .bool (a_.Marked), .int .i64 (a_.Seen)]) hS rfl rfl rfl) (want_yes rfl) rfl rfl ?_
 clear hS
 rintro _ w ⟨b1, rfl, hS⟩
 refine ops_mv (rv_alloc (cs := [.bool (false), .int .i64 (0), .bool (false), .int .i64 (0)]) hS rfl Tryz.zeroValue65 rfl) (want_yes rfl) rfl rfl ?_
 clear hS
 rintro _ w ⟨b2, rfl, hS⟩
 refine ops_nil fun a hA => ?_
 refine cw_seq ?_
 refine cw_ops hA ?_
 clear hA
 refine ops_mv (rv_alloc (cs := [.bool (false), .int .i64 (0), .bool (false), .int .i64 (0)]) hS rfl Tryz.zeroValue65 rfl) (want_yes rfl) rfl rfl ?_
 clear hS
 rintro _ w ⟨b3, rfl, hS⟩
 refine ops_nil fun a hA => ?_
 refine cw_seq ?_
 refine cw_ops hA ?_
 clear hA
 refine oy (rv_fld (m := 0) Tryz.underlying147 rfl rfl Tryz.sizeOf4 rfl rfl) rfl ?_
 refine oy (rv_load1 rfl rfl Tryz.isAgg4 (hS.cell 0 rfl rfl)) rfl ?_
 refine oy (rv_fld (m := 0) Tryz.underlying65 rfl rfl Tryz.sizeOf4 rfl rfl) rfl ?_
 refine ops_ms (rs_box (vs := [.bool (a_.On)]) hS (i := 2) rfl rfl rfl rfl rfl Tryz.sizeOf4 rfl rfl rfl) (want_yes rfl) rfl ?_
 clear hS
 intro w hS
 refine ops_nil fun a hA => ?_
 refine cw_seq ?_
 refine cw_ops hA ?_
 clear hA
 refine oy (rv_fld (m := 0) Tryz.underlying147 rfl rfl Tryz.sizeOf3 rfl rfl) rfl ?_
 refine oy (rv_load1 rfl rfl Tryz.isAgg3 (hS.cell 0 rfl rfl)) rfl ?_
 refine oy (rv_fld (m := 0) Tryz.underlying65 rfl rfl Tryz.sizeOf3 rfl rfl) rfl ?_
 refine ops_ms (rs_box (vs := [.int .i64 (a_.Epoch)]) hS (i := 2) rfl rfl rfl rfl rfl Tryz.sizeOf3 rfl rfl rfl) (want_yes rfl) rfl ?_
 clear hS
 intro w hS
 refine ops_nil fun a hA => ?_
 refine cw_seq ?_
 refine cw_ops hA ?_
 clear hA
 refine oy (rv_fld (m := 0) Tryz.underlying147 rfl rfl Tryz.sizeOf4 rfl rfl) rfl ?_
 refine oy (rv_load1 rfl rfl Tryz.isAgg4 (hS.cell 0 rfl rfl)) rfl ?_
 refine oy (rv_fld (m := 0) Tryz.underlying65 rfl rfl Tryz.sizeOf4 rfl rfl) rfl ?_
 refine ops_ms (rs_box (vs := [.bool (a_.Marked)]) hS (i := 2) rfl rfl rfl rfl rfl Tryz.sizeOf4 rfl rfl rfl) (want_yes rfl) rfl ?_
 clear hS
 intro w hS
 refine ops_nil fun a hA => ?_
 refine cw_seq ?_
 refine cw_ops hA ?_
 clear hA
 refine oy (rv_fld (m := 0) Tryz.underlying147 rfl rfl Tryz.sizeOf3 rfl rfl) rfl ?_
 refine oy (rv_load1 rfl rfl Tryz.isAgg3 (hS.cell 0 rfl rfl)) rfl ?_
 refine oy (rv_fld (m := 0) Tryz.underlying65 rfl rfl Tryz.sizeOf3 rfl rfl) rfl ?_
 refine ops_ms (rs_box (vs := [.int .i64 (a_.Seen)]) hS (i := 2) rfl rfl rfl rfl rfl Tryz.sizeOf3 rfl rfl rfl) (want_yes rfl) rfl ?_
 clear hS
 intro w hS
 refine ops_nil fun a hA => ?_
 refine cw_seq ?_
 refine cw_ops hA ?_
 clear hA
 refine oy (rv_loadN rfl rfl Tryz.isAgg65 Tryz.sizeOf65 rfl (hS.cells 2 0 (cs' := [.bool (a_.On), .int .i64 (a_.Epoch), .bool (a_.Marked), .int .i64 (a_.Seen)]) rfl rfl)) rfl ?_
 refine ops_ms (rs_box (vs := [.bool (a_.On), .int .i64 (a_.Epoch), .bool (a_.Marked), .int .i64 (a_.Seen)]) hS (i := 1) rfl rfl rfl rfl rfl Tryz.sizeOf65 rfl rfl rfl) (want_yes rfl) rfl ?_
 clear hS
 intro w hS
 refine ops_nil fun a hA => ?_
 refine cw_ret ?_
 cases hF
 exact fin1 Tryz.results106 hA (res_cell rfl Tryz.isAgg65 Tryz.sizeOf65 rfl (hS.cells 1 0 (cs' := [.bool (a_.On), .int .i64 (a_.Epoch), .bool (a_.Marked), .int .i64 (a_.Seen)]) rfl rfl)) ⟨rfl, (hS.sel [] rfl).weaken (R' := []) (fun _ h => nomatch h)⟩

set_option maxHeartbeats 4000000 in
set_option maxRecDepth 100000 in
theorem c_laws_toPinS {w0 : World} {a_ : List Pin} {s1 : Value} {r : (List Pin)} (h1 : Rep.rd (All w0) w0 [s1] (a_ : List Pin)) (hF : laws_toPinS a_ = some r) :
    Calls Tryz.prog 63 #[s1] w0 (Ret fun v w' => ∃ (s0_0 : Value), v = s0_0 ∧ St (cxAll w0) w' [cOwn [s0_0] (r : List Pin)] []) := by
 have hS : St (cxAll w0) w0 [] [fRd [s1] (a_ : List Pin)] := St.enter (by
   intro f hf
   simp only [List.mem_cons, List.not_mem_nil, or_false] at hf
   subst hf; exact h1)
 refine calls_cw (args := [_]) Tryz.func63 rfl Tryz.ntmps63 rfl ?_
 unfold laws_toPinS at hF
 intro a hA
 refine cw_seq ?_
 refine cw_ops hA ?_
 clear hA
 refine oy (rv_assign rfl rfl) rfl ?_
 refine ops_nil fun a hA => ?_
 refine cw_seq ?_
 refine cw_ops hA ?_
 clear hA
 refine oy (rv_move rfl rfl) rfl ?_
 refine oy (rv_lenS (hS.rd 0 rfl) Tryz.underlying30 rfl rfl) rfl ?_
 obtain ⟨hn1, hF⟩ := needE hF
 refine ops_mv (rv_make ((⟨false, 0, false, 0⟩ : Pin) : Pin) hS rfl Tryz.underlying44 inf_Tryz65 rfl (fun _ => (mk_Pin ((⟨false, 0, false, 0⟩ : Pin)))) hn1 rfl rfl rfl) (want_yes rfl) rfl rfl ?_
 clear hS
 rintro s2 w hS
 refine oy (rv_assign rfl rfl) rfl ?_
 refine ops_nil fun a hA => ?_
 refine cw_seq ?_
 refine cw_seq ?_
 refine cw_ops hA ?_
 clear hA
 refine oy (rv_assign rfl rfl) rfl ?_
 refine ops_nil fun a hA => ?_
 obtain ⟨o1, hl1, hF⟩ := bindE hF
 refine cw_cut (J := fun a' w' => ∃ (x5 : List Pin), o1 = x5 ∧ AEnv 23 [(3, s2)] a' ∧ St (cxAll w0) w' [cOwn [s2] (x5 : List Pin)] []) ?_ ?_
 ·refine cw_block ?_
  refine cw_loop (body := laws_toPinS_l1 a_) (r := o1) (fun sg a' w' => AEnv 23 [(0, s1), (3, s2), (4, .int .i64 (sg.2))] a' ∧ St (cxAll w0) w' [cOwn [s2] (sg.1 : List Pin)] [fRd [s1] (a_ : List Pin)]) ?_ hl1 ⟨hA.part ⟨rfl, rfl, rfl, trivial⟩, ((hS).sel [0] rfl).selR [0] rfl⟩
  clear hA hS hl1
  rintro ⟨x3, x4⟩ a w q1 ⟨hA, hS⟩ hG1 hr1
  try dsimp only at hA hS
  unfold laws_toPinS_l1 at hG1
  refine cw_seq ?_
  refine cw_seq ?_
  refine cw_ops hA ?_
  clear hA
  refine oy (rv_move rfl rfl) rfl ?_
  refine oy (rv_move rfl rfl) rfl ?_
  refine oy (rv_lenS (hS.rd 0 rfl) Tryz.underlying30 rfl rfl) rfl ?_
  refine oy (rv_lss rfl rfl rfl) rfl ?_
  refine ops_nil fun a hA => ?_
  refine cw_cond hA rfl (fun hc1 => ?_) (fun hc1 => ?_)
  ·replace hG1 := iteT hc1 hG1
   refine cw_skip ?_
   refine cw_seq ?_
   refine cw_block ?_
   refine cw_ops hA ?_
   clear hA
   refine oy (rv_move rfl rfl) rfl ?_
   refine oy (rv_move rfl rfl) rfl ?_
   refine oy (rv_move rfl rfl) rfl ?_
   refine oy (rv_move rfl rfl) rfl ?_
   obtain ⟨x6, hx6, hG1⟩ := bindE hG1
   refine oy (rv_idx (m := 4) (hS.rd 0 rfl) rfl hx6 Tryz.underlying30 Tryz.sizeOf147 rfl rfl rfl) rfl ?_
   refine oy (rv_loadN rfl rfl Tryz.isAgg147 Tryz.sizeOf147 rfl (el_Pin (hS.rd 0 rfl) (idx_some hx6).2.2)) rfl ?_
   obtain ⟨x7, hx7, hG1⟩ := bindE hG1
   refine ops_c (rc_call Tryz.call106 rfl rfl) (want_yes rfl) rfl rfl (c_laws_toPin (a_ := x6)  hx7) ?_
   rintro _ w ⟨rfl, hk⟩
   replace hS := hS.after hk; clear hk
   obtain ⟨x8, hx8, hG1⟩ := bindE hG1
   refine oy (rv_idx (m := 4) (hS.rdOwn 0 rfl) rfl hx8 Tryz.underlying44 Tryz.sizeOf65 rfl rfl rfl) rfl ?_
   refine ops_ms (rs_elem (vs := [.bool (x7.On), .int .i64 (x7.Epoch), .bool (x7.Marked), .int .i64 (x7.Seen)]) (f := 0) (xd := x7) hS (i := 0) rfl hx8 rfl (el_Pin (hS.rdOwn 0 rfl) (idx_some hx8).2.2) rfl (mk_Pin x7) Tryz.sizeOf65 rfl rfl rfl rfl rfl rfl rfl) (want_yes rfl) rfl ?_
   clear hS
   intro w hS
   refine ops_nil fun a hA => ?_
   refine cw_ops hA ?_
   clear hA
   refine oy (rv_move rfl rfl) rfl ?_
   refine oy (rv_add rfl rfl rfl) rfl ?_
   refine oy (rv_assign rfl rfl) rfl ?_
   refine ops_nil fun a hA => ?_
   cases hG1
   exact ⟨_, rfl, ⟨hA.part ⟨rfl, rfl, rfl, trivial⟩, ((hS).sel [0] rfl).selR [0] rfl⟩⟩
  ·replace hG1 := iteF hc1 hG1
   refine cw_exit ?_
   refine xcons_hit ?_
   cases hG1
   have ho := hr1 _ rfl; subst ho
   exact ⟨x3, rfl, hA.part ⟨rfl, trivial⟩, ((hS).sel [0] rfl).selR [] rfl⟩
 ·skip
  clear hA hS hl1
  rintro a w ⟨x5, heq, hA, hS⟩
  replace hF : laws_toPinS_j1 x5 = some r := by rw [heq] at hF; exact hF
  clear heq
  unfold laws_toPinS_j1 at hF
  refine cw_seq ?_
  refine cw_ops hA ?_
  clear hA
  refine oy (rv_move rfl rfl) rfl ?_
  refine oy (rv_assign rfl rfl) rfl ?_
  refine ops_nil fun a hA => ?_
  refine cw_ret ?_
  cases hF
  exact fin1 Tryz.results63 hA (res_tmp rfl) ⟨s2, rfl, (hS.sel [0] rfl).weaken (R' := []) (fun _ h => nomatch h)⟩

set_option maxHeartbeats 4000000 in
set_option maxRecDepth 100000 in
theorem c_laws_toClock {w0 : World} {a_ : Clock} {s1 : Value} {r : Clock} (h1 : Rep.rd (All w0) w0 [s1] (a_.Pins : List Pin)) (hF : laws_toClock a_ = some r) :
    Calls Tryz.prog 23 #[.agg #[.int .i64 (a_.Epoch), s1]] w0 (Ret fun v w' => ∃ (s0_0 : Value), v = .agg #[.int .i64 (r.Epoch), s0_0] ∧ St (cxAll w0) w' [cOwn [s0_0] (r.Pins : List Pin)] []) := by
 have hS : St (cxAll w0) w0 [] [fRd [s1] (a_.Pins : List Pin)] := St.enter (by
   intro f hf
   simp only [List.mem_cons, List.not_mem_nil, or_false] at hf
   subst hf; exact h1)
 refine calls_cw (args := [_]) Tryz.func23 rfl Tryz.ntmps23 rfl ?_
 unfold laws_toClock at hF
 intro a hA
 refine cw_seq ?_
 refine cw_ops hA ?_
 clear hA
 refine ops_mv (rv_box (cs := [.int .i64 (a_.Epoch), s1]) hS rfl rfl rfl) (want_yes rfl) rfl rfl ?_
 clear hS
 rintro _ w ⟨b1, rfl, hS⟩
 refine ops_mv (rv_alloc (cs := [.int .i64 (0), (.slice none 0 0)]) hS rfl Tryz.zeroValue46 rfl) (want_yes rfl) rfl rfl ?_
 clear hS
 rintro _ w ⟨b2, rfl, hS⟩
 refine ops_nil fun a hA => ?_
 refine cw_seq ?_
 refine cw_ops hA ?_
 clear hA
 refine ops_mv (rv_alloc (cs := [.int .i64 (0), (.slice none 0 0)]) hS rfl Tryz.zeroValue46 rfl) (want_yes rfl) rfl rfl ?_
 clear hS
 rintro _ w ⟨b3, rfl, hS⟩
 refine ops_nil fun a hA => ?_
 refine cw_seq ?_
 refine cw_ops hA ?_
 clear hA
 refine oy (rv_fld (m := 0) Tryz.underlying32 rfl rfl Tryz.sizeOf3 rfl rfl) rfl ?_
 refine oy (rv_load1 rfl rfl Tryz.isAgg3 (hS.cell 0 rfl rfl)) rfl ?_
 refine oy (rv_fld (m := 0) Tryz.underlying46 rfl rfl Tryz.sizeOf3 rfl rfl) rfl ?_
 refine ops_ms (rs_box (vs := [.int .i64 (a_.Epoch)]) hS (i := 2) rfl rfl rfl rfl rfl Tryz.sizeOf3 rfl rfl rfl) (want_yes rfl) rfl ?_
 clear hS
 intro w hS
 refine ops_nil fun a hA => ?_
 refine cw_seq ?_
 refine cw_ops hA ?_
 clear hA
 refine oy (rv_fld (m := 0) Tryz.underlying32 rfl rfl Tryz.sizeOf30 rfl rfl) rfl ?_
 refine oy (rv_load1 rfl rfl Tryz.isAgg30 (hS.cell 0 rfl rfl)) rfl ?_
 obtain ⟨x1, hx1, hF⟩ := bindE hF
 refine ops_c (rc_call Tryz.call63 rfl rfl) (want_yes rfl) rfl rfl (c_laws_toPinS (a_ := a_.Pins) (hS.rd 0 rfl) hx1) ?_
 rintro s2 w ⟨_, rfl, hk⟩
 replace hS := hS.after hk; clear hk
 refine oy (rv_fld (m := 0) Tryz.underlying46 rfl rfl Tryz.sizeOf44 rfl rfl) rfl ?_
 refine ops_ms (rs_box (vs := [s2]) hS (i := 2) rfl rfl rfl rfl (cells_rd (hS.rdOwn 3 rfl)) Tryz.sizeOf44 rfl rfl (all1 (one_rd (hS.rdOwn 3 rfl)) rfl)) (want_yes rfl) rfl ?_
 clear hS
 intro w hS
 refine ops_nil fun a hA => ?_
 refine cw_seq ?_
 refine cw_ops hA ?_
 clear hA
 refine oy (rv_loadN rfl rfl Tryz.isAgg46 Tryz.sizeOf46 rfl (hS.cells 2 0 (cs' := [.int .i64 (a_.Epoch), s2]) rfl rfl)) rfl ?_
 refine ops_ms (rs_box (vs := [.int .i64 (a_.Epoch), s2]) hS (i := 1) rfl rfl rfl rfl rfl Tryz.sizeOf46 rfl rfl (all1 rfl (all1 (one_rd (hS.rdOwn 3 rfl)) rfl))) (want_yes rfl) rfl ?_
 clear hS
 intro w hS
 refine ops_nil fun a hA => ?_
 refine cw_ret ?_
 cases hF
 exact fin1 Tryz.results23 hA (res_cell rfl Tryz.isAgg46 Tryz.sizeOf46 rfl (hS.cells 1 0 (cs' := [.int .i64 (a_.Epoch), s2]) rfl rfl)) ⟨s2, rfl, (hS.sel [3] rfl).weaken (R' := []) (fun _ h => nomatch h)⟩

set_option maxHeartbeats 4000000 in
set_option maxRecDepth 100000 in
theorem c_laws_toLRow {w0 : World} {a_ : LRow}  {r : LRow}  (hF : laws_toLRow a_ = some r) :
    Calls Tryz.prog 136 #[.agg #[.int .i64 (a_.Handle), .int .i64 (a_.Epoch)]] w0 (Ret fun v w' => v = .agg #[.int .i64 (r.Handle), .int .i64 (r.Epoch)] ∧ St (cxAll w0) w' [] []) := by
 have hS : St (cxAll w0) w0 [] [] := St.enter (by
   intro f hf; cases hf)
 refine calls_cw (args := [_]) Tryz.func136 rfl Tryz.ntmps136 rfl ?_
 unfold laws_toLRow at hF
 intro a hA
 refine cw_seq ?_
 refine cw_ops hA ?_
 clear hA
 refine ops_mv (rv_box (cs := [.int .i64 (a_.Handle), .int .i64 (a_.Epoch)]) hS rfl rfl rfl) (want_yes rfl) rfl rfl ?_
 clear hS
 rintro _ w ⟨b1, rfl, hS⟩
 refine ops_mv (rv_alloc (cs := [.int .i64 (0), .int .i64 (0)]) hS rfl Tryz.zeroValue71 rfl) (want_yes rfl) rfl rfl ?_
 clear hS
 rintro _ w ⟨b2, rfl, hS⟩
 refine ops_nil fun a hA => ?_
 refine cw_seq ?_
 refine cw_ops hA ?_
 clear hA
 refine ops_mv (rv_alloc (cs := [.int .i64 (0), .int .i64 (0)]) hS rfl Tryz.zeroValue71 rfl) (want_yes rfl) rfl rfl ?_
 clear hS
 rintro _ w ⟨b3, rfl, hS⟩
 refine ops_nil fun a hA => ?_
 refine cw_seq ?_
 refine cw_ops hA ?_
 clear hA
 refine oy (rv_fld (m := 0) Tryz.underlying169 rfl rfl Tryz.sizeOf3 rfl rfl) rfl ?_
 refine oy (rv_load1 rfl rfl Tryz.isAgg3 (hS.cell 0 rfl rfl)) rfl ?_
 refine oy (rv_fld (m := 0) Tryz.underlying71 rfl rfl Tryz.sizeOf3 rfl rfl) rfl ?_
 refine ops_ms (rs_box (vs := [.int .i64 (a_.Handle)]) hS (i := 2) rfl rfl rfl rfl rfl Tryz.sizeOf3 rfl rfl rfl) (want_yes rfl) rfl ?_
 clear hS
 intro w hS
 refine ops_nil fun a hA => ?_
 refine cw_seq ?_
 refine cw_ops hA ?_
 clear hA
 refine oy (rv_fld (m := 0) Tryz.underlying169 rfl rfl Tryz.sizeOf3 rfl rfl) rfl ?_
 refine oy (rv_load1 rfl rfl Tryz.isAgg3 (hS.cell 0 rfl rfl)) rfl ?_
 refine oy (rv_fld (m := 0) Tryz.underlying71 rfl rfl Tryz.sizeOf3 rfl rfl) rfl ?_
 refine ops_ms (rs_box (vs := [.int .i64 (a_.Epoch)]) hS (i := 2) rfl rfl rfl rfl rfl Tryz.sizeOf3 rfl rfl rfl) (want_yes rfl) rfl ?_
 clear hS
 intro w hS
 refine ops_nil fun a hA => ?_
 refine cw_seq ?_
 refine cw_ops hA ?_
 clear hA
 refine oy (rv_loadN rfl rfl Tryz.isAgg71 Tryz.sizeOf71 rfl (hS.cells 2 0 (cs' := [.int .i64 (a_.Handle), .int .i64 (a_.Epoch)]) rfl rfl)) rfl ?_
 refine ops_ms (rs_box (vs := [.int .i64 (a_.Handle), .int .i64 (a_.Epoch)]) hS (i := 1) rfl rfl rfl rfl rfl Tryz.sizeOf71 rfl rfl rfl) (want_yes rfl) rfl ?_
 clear hS
 intro w hS
 refine ops_nil fun a hA => ?_
 refine cw_ret ?_
 cases hF
 exact fin1 Tryz.results136 hA (res_cell rfl Tryz.isAgg71 Tryz.sizeOf71 rfl (hS.cells 1 0 (cs' := [.int .i64 (a_.Handle), .int .i64 (a_.Epoch)]) rfl rfl)) ⟨rfl, (hS.sel [] rfl).weaken (R' := []) (fun _ h => nomatch h)⟩

set_option maxHeartbeats 4000000 in
set_option maxRecDepth 100000 in
theorem c_laws_toLRowS {w0 : World} {a_ : List LRow} {s1 : Value} {r : (List LRow)} (h1 : Rep.rd (All w0) w0 [s1] (a_ : List LRow)) (hF : laws_toLRowS a_ = some r) :
    Calls Tryz.prog 107 #[s1] w0 (Ret fun v w' => ∃ (s0_0 : Value), v = s0_0 ∧ St (cxAll w0) w' [cOwn [s0_0] (r : List LRow)] []) := by
 have hS : St (cxAll w0) w0 [] [fRd [s1] (a_ : List LRow)] := St.enter (by
   intro f hf
   simp only [List.mem_cons, List.not_mem_nil, or_false] at hf
   subst hf; exact h1)
 refine calls_cw (args := [_]) Tryz.func107 rfl Tryz.ntmps107 rfl ?_
 unfold laws_toLRowS at hF
 intro a hA
 refine cw_seq ?_
 refine cw_ops hA ?_
 clear hA
 refine oy (rv_assign rfl rfl) rfl ?_
 refine ops_nil fun a hA => ?_
 refine cw_seq ?_
 refine cw_ops hA ?_
 clear hA
 refine oy (rv_move rfl rfl) rfl ?_
 refine oy (rv_lenS (hS.rd 0 rfl) Tryz.underlying99 rfl rfl) rfl ?_
 obtain ⟨hn1, hF⟩ := needE hF
 refine ops_mv (rv_make ((⟨0, 0⟩ : LRow) : LRow) hS rfl Tryz.underlying67 inf_Tryz71 rfl (fun _ => (mk_LRow ((⟨0, 0⟩ : LRow)))) hn1 rfl rfl rfl) (want_yes rfl) rfl rfl ?_
 clear hS
 rintro s2 w hS
 refine oy (rv_assign rfl rfl) rfl ?_
 refine ops_nil fun a hA => ?_
 refine cw_seq ?_
 refine cw_seq ?_
 refine cw_ops hA ?_
 clear hA
 refine oy (rv_assign rfl rfl) rfl ?_
 refine ops_nil fun a hA => ?_
 obtain ⟨o1, hl1, hF⟩ := bindE hF
 refine cw_cut (J := fun a' w' => ∃ (x5 : List LRow), o1 = x5 ∧ AEnv 23 [(3, s2)] a' ∧ St (cxAll w0) w' [cOwn [s2] (x5 : List LRow)] []) ?_ ?_
 ·refine cw_block ?_
  refine cw_loop (body := laws_toLRowS_l1 a_) (r := o1) (fun sg a' w' => AEnv 23 [(0, s1), (3, s2), (4, .int .i64 (sg.2))] a' ∧ St (cxAll w0) w' [cOwn [s2] (sg.1 : List LRow)] [fRd [s1] (a_ : List LRow)]) ?_ hl1 ⟨hA.part ⟨rfl, rfl, rfl, trivial⟩, ((hS).sel [0] rfl).selR [0] rfl⟩
  clear hA hS hl1
  rintro ⟨x3, x4⟩ a w q1 ⟨hA, hS⟩ hG1 hr1
  try dsimp only at hA hS
  unfold laws_toLRowS_l1 at hG1
  refine cw_seq ?_
  refine cw_seq ?_
  refine cw_ops hA ?_
  clear hA
  refine oy (rv_move rfl rfl) rfl ?_
  refine oy (rv_move rfl rfl) rfl ?_
  refine oy (rv_lenS (hS.rd 0 rfl) Tryz.underlying99 rfl rfl) rfl ?_
  refine oy (rv_lss rfl rfl rfl) rfl ?_
  refine ops_nil fun a hA => ?_
  refine cw_cond hA rfl (fun hc1 => ?_) (fun hc1 => ?_)
  ·replace hG1 := iteT hc1 hG1
   refine cw_skip ?_
   refine cw_seq ?_
   refine cw_block ?_
   refine cw_ops hA ?_
   clear hA
   refine oy (rv_move rfl rfl) rfl ?_
   refine oy (rv_move rfl rfl) rfl ?_
   refine oy (rv_move rfl rfl) rfl ?_
   refine oy (rv_move rfl rfl) rfl ?_
   obtain ⟨x6, hx6, hG1⟩ := bindE hG1
   refine oy (rv_idx (m := 2) (hS.rd 0 rfl) rfl hx6 Tryz.underlying99 Tryz.sizeOf169 rfl rfl rfl) rfl ?_
   refine oy (rv_loadN rfl rfl Tryz.isAgg169 Tryz.sizeOf169 rfl (el_LRow (hS.rd 0 rfl) (idx_some hx6).2.2)) rfl ?_
   obtain ⟨x7, hx7, hG1⟩ := bindE hG1
   refine ops_c (rc_call Tryz.call136 rfl rfl) (want_yes rfl) rfl rfl (c_laws_toLRow (a_ := x6)  hx7) ?_
   rintro _ w ⟨rfl, hk⟩
   replace hS := hS.after hk; clear hk
   obtain ⟨x8, hx8, hG1⟩ := bindE hG1
   refine oy (rv_idx (m := 2) (hS.rdOwn 0 rfl) rfl hx8 Tryz.underlying67 Tryz.sizeOf71 rfl rfl rfl) rfl ?_
   refine ops_ms (rs_elem (vs := [.int .i64 (x7.Handle), .int .i64 (x7.Epoch)]) (f := 0) (xd := x7) hS (i := 0) rfl hx8 rfl (el_LRow (hS.rdOwn 0 rfl) (idx_some hx8).2.2) rfl (mk_LRow x7) Tryz.sizeOf71 rfl rfl rfl rfl rfl rfl rfl) (want_yes rfl) rfl ?_
   clear hS
   intro w hS
   refine ops_nil fun a hA => ?_
   refine cw_ops hA ?_
   clear hA
   refine oy (rv_move rfl rfl) rfl ?_
   refine oy (rv_add rfl rfl rfl) rfl ?_
   refine oy (rv_assign rfl rfl) rfl ?_
   refine ops_nil fun a hA => ?_
   cases hG1
   exact ⟨_, rfl, ⟨hA.part ⟨rfl, rfl, rfl, trivial⟩, ((hS).sel [0] rfl).selR [0] rfl⟩⟩
  ·replace hG1 := iteF hc1 hG1
   refine cw_exit ?_
   refine xcons_hit ?_
   cases hG1
   have ho := hr1 _ rfl; subst ho
   exact ⟨x3, rfl, hA.part ⟨rfl, trivial⟩, ((hS).sel [0] rfl).selR [] rfl⟩
 ·skip
  clear hA hS hl1
  rintro a w ⟨x5, heq, hA, hS⟩
  replace hF : laws_toLRowS_j1 x5 = some r := by rw [heq] at hF; exact hF
  clear heq
  unfold laws_toLRowS_j1 at hF
  refine cw_seq ?_
  refine cw_ops hA ?_
  clear hA
  refine oy (rv_move rfl rfl) rfl ?_
  refine oy (rv_assign rfl rfl) rfl ?_
  refine ops_nil fun a hA => ?_
  refine cw_ret ?_
  cases hF
  exact fin1 Tryz.results107 hA (res_tmp rfl) ⟨s2, rfl, (hS.sel [0] rfl).weaken (R' := []) (fun _ h => nomatch h)⟩

set_option maxHeartbeats 4000000 in
set_option maxRecDepth 100000 in
theorem c_laws_toLList {w0 : World} {a_ : LList} {s1 : Value} {r : LList} (h1 : Rep.rd (All w0) w0 [s1] (a_.Rows : List LRow)) (hF : laws_toLList a_ = some r) :
    Calls Tryz.prog 64 #[.agg #[s1]] w0 (Ret fun v w' => ∃ (s0_0 : Value), v = .agg #[s0_0] ∧ St (cxAll w0) w' [cOwn [s0_0] (r.Rows : List LRow)] []) := by
 have hS : St (cxAll w0) w0 [] [fRd [s1] (a_.Rows : List LRow)] := St.enter (by
   intro f hf
   simp only [List.mem_cons, List.not_mem_nil, or_false] at hf
   subst hf; exact h1)
 refine calls_cw (args := [_]) Tryz.func64 rfl Tryz.ntmps64 rfl ?_
 unfold laws_toLList at hF
 intro a hA
 refine cw_seq ?_
 refine cw_ops hA ?_
 clear hA
 refine ops_mv (rv_box (cs := [s1]) hS rfl rfl rfl) (want_yes rfl) rfl rfl ?_
 clear hS
 rintro _ w ⟨b1, rfl, hS⟩
 refine ops_mv (rv_alloc (cs := [(.slice none 0 0)]) hS rfl Tryz.zeroValue69 rfl) (want_yes rfl) rfl rfl ?_
 clear hS
 rintro _ w ⟨b2, rfl, hS⟩
 refine ops_nil fun a hA => ?_
 refine cw_seq ?_
 refine cw_ops hA ?_
 clear hA
 refine ops_mv (rv_alloc (cs := [(.slice none 0 0)]) hS rfl Tryz.zeroValue69 rfl) (want_yes rfl) rfl rfl ?_
 clear hS
 rintro _ w ⟨b3, rfl, hS⟩
 refine ops_nil fun a hA => ?_
 refine cw_seq ?_
 refine cw_ops hA ?_
 clear hA
 refine oy (rv_fld (m := 0) Tryz.underlying101 rfl rfl Tryz.sizeOf99 rfl rfl) rfl ?_
 refine oy (rv_load1 rfl rfl Tryz.isAgg99 (hS.cell 0 rfl rfl)) rfl ?_
 obtain ⟨x1, hx1, hF⟩ := bindE hF
 refine ops_c (rc_call Tryz.call107 rfl rfl) (want_yes rfl) rfl rfl (c_laws_toLRowS (a_ := a_.Rows) (hS.rd 0 rfl) hx1) ?_
 rintro s2 w ⟨_, rfl, hk⟩
 replace hS := hS.after hk; clear hk
 refine oy (rv_fld (m := 0) Tryz.underlying69 rfl rfl Tryz.sizeOf67 rfl rfl) rfl ?_
 refine ops_ms (rs_box (vs := [s2]) hS (i := 2) rfl rfl rfl rfl (cells_rd (hS.rdOwn 3 rfl)) Tryz.sizeOf67 rfl rfl (all1 (one_rd (hS.rdOwn 3 rfl)) rfl)) (want_yes rfl) rfl ?_
 clear hS
 intro w hS
 refine ops_nil fun a hA => ?_
 refine cw_seq ?_
 refine cw_ops hA ?_
 clear hA
 refine oy (rv_loadN rfl rfl Tryz.isAgg69 Tryz.sizeOf69 rfl (hS.cells 2 0 (cs' := [s2]) rfl rfl)) rfl ?_
 refine ops_ms (rs_box (vs := [s2]) hS (i := 1) rfl rfl rfl rfl rfl Tryz.sizeOf69 rfl rfl (all1 (one_rd (hS.rdOwn 3 rfl)) rfl)) (want_yes rfl) rfl ?_
 clear hS
 intro w hS
 refine ops_nil fun a hA => ?_
 refine cw_ret ?_
 cases hF
 exact fin1 Tryz.results64 hA (res_cell rfl Tryz.isAgg69 Tryz.sizeOf69 rfl (hS.cells 1 0 (cs' := [s2]) rfl rfl)) ⟨s2, rfl, (hS.sel [3] rfl).weaken (R' := []) (fun _ h => nomatch h)⟩

set_option maxHeartbeats 4000000 in
set_option maxRecDepth 100000 in
theorem c_laws_toLListS {w0 : World} {a_ : List LList} {s1 : Value} {r : (List LList)} (h1 : Rep.rd (All w0) w0 [s1] (a_ : List LList)) (hF : laws_toLListS a_ = some r) :
    Calls Tryz.prog 24 #[s1] w0 (Ret fun v w' => ∃ (s0_0 : Value), v = s0_0 ∧ St (cxAll w0) w' [cOwn [s0_0] (r : List LList)] []) := by
 have hS : St (cxAll w0) w0 [] [fRd [s1] (a_ : List LList)] := St.enter (by
   intro f hf
   simp only [List.mem_cons, List.not_mem_nil, or_false] at hf
   subst hf; exact h1)
 refine calls_cw (args := [_]) Tryz.func24 rfl Tryz.ntmps24 rfl ?_
 unfold laws_toLListS at hF
 intro a hA
 refine cw_seq ?_
 refine cw_ops hA ?_
 clear hA
 refine oy (rv_assign rfl rfl) rfl ?_
 refine ops_nil fun a hA => ?_
 refine cw_seq ?_
 refine cw_ops hA ?_
 clear hA
 refine oy (rv_move rfl rfl) rfl ?_
 refine oy (rv_lenS (hS.rd 0 rfl) Tryz.underlying33 rfl rfl) rfl ?_
 obtain ⟨hn1, hF⟩ := needE hF
 refine ops_mv (rv_makeN ((⟨[]⟩ : LList) : LList) hS rfl Tryz.underlying47 inf_Tryz69 rfl (fun _ => (op_zero (op_LList ((⟨[]⟩ : LList))) (zcons znil))) hn1 rfl rfl rfl) (want_yes rfl) rfl rfl ?_
 clear hS
 rintro s2 w hS
 refine oy (rv_assign rfl rfl) rfl ?_
 refine ops_nil fun a hA => ?_
 refine cw_seq ?_
 refine cw_seq ?_
 refine cw_ops hA ?_
 clear hA
 refine oy (rv_assign rfl rfl) rfl ?_
 refine ops_nil fun a hA => ?_
 obtain ⟨o1, hl1, hF⟩ := bindE hF
 refine cw_cut (J := fun a' w' => ∃ (x5 : List LList), o1 = x5 ∧ AEnv 23 [(3, s2)] a' ∧ St (cxAll w0) w' [cOwn [s2] (x5 : List LList)] []) ?_ ?_
 ·refine cw_block ?_
  refine cw_loop (body := laws_toLListS_l1 a_) (r := o1) (fun sg a' w' => AEnv 23 [(0, s1), (3, s2), (4, .int .i64 (sg.2))] a' ∧ St (cxAll w0) w' [cOwn [s2] (sg.1 : List LList)] [fRd [s1] (a_ : List LList)]) ?_ hl1 ⟨hA.part ⟨rfl, rfl, rfl, trivial⟩, ((hS).sel [0] rfl).selR [0] rfl⟩
  clear hA hS hl1
  rintro ⟨x3, x4⟩ a w q1 ⟨hA, hS⟩ hG1 hr1
  try dsimp only at hA hS
  unfold laws_toLListS_l1 at hG1
  refine cw_seq ?_
  refine cw_seq ?_
  refine cw_ops hA ?_
  clear hA
  refine oy (rv_move rfl rfl) rfl ?_
  refine oy (rv_move rfl rfl) rfl ?_
  refine oy (rv_lenS (hS.rd 0 rfl) Tryz.underlying33 rfl rfl) rfl ?_
  refine oy (rv_lss rfl rfl rfl) rfl ?_
  refine ops_nil fun a hA => ?_
  refine cw_cond hA rfl (fun hc1 => ?_) (fun hc1 => ?_)
  ·replace hG1 := iteT hc1 hG1
   refine cw_skip ?_
   refine cw_seq ?_
   refine cw_block ?_
   refine cw_ops hA ?_
   clear hA
   refine oy (rv_move rfl rfl) rfl ?_
   refine oy (rv_move rfl rfl) rfl ?_
   refine oy (rv_move rfl rfl) rfl ?_
   refine oy (rv_move rfl rfl) rfl ?_
   obtain ⟨x6, hx6, hG1⟩ := bindE hG1
   refine oy (rv_idx (m := 1) (hS.rd 0 rfl) rfl hx6 Tryz.underlying33 Tryz.sizeOf101 rfl rfl rfl) rfl ?_
   obtain ⟨s3, hel, hS⟩ := hS.el_LList 0 rfl (idx_some hx6).2.2
   refine oy (rv_loadN rfl rfl Tryz.isAgg101 Tryz.sizeOf101 rfl hel) rfl ?_
   obtain ⟨x7, hx7, hG1⟩ := bindE hG1
   refine ops_c (rc_call Tryz.call64 rfl rfl) (want_yes rfl) rfl rfl (c_laws_toLList (a_ := x6) (hS.rd 1 rfl) hx7) ?_
   rintro _ w ⟨s4, rfl, hk⟩
   replace hS := hS.after hk; clear hk
   obtain ⟨x8, hx8, hG1⟩ := bindE hG1
   refine oy (rv_idx (m := 1) (hS.rdOwn 0 rfl) rfl hx8 Tryz.underlying47 Tryz.sizeOf69 rfl rfl rfl) rfl ?_
   obtain ⟨ec, hS⟩ := hS.open 0 rfl (idx_some hx8).2.2
   obtain ⟨s5, he, _⟩ := rd_LList (hS.rdOwn 4 rfl)
   subst he
   replace hS := hS.unpack 4 rfl (op_LList x8)
   refine ops_ms (rs_at (vs := [s4]) (q := elO 1 (x4.toNat) s2) (j := 0) hS (i := 3) rfl rfl rfl rfl rfl Tryz.sizeOf69 rfl rfl (all1 (one_rd (hS.rdOwn 1 rfl)) rfl)) (want_yes rfl) rfl ?_
   clear hS
   intro w hS
   refine ops_nil fun a hA => ?_
   refine cw_ops hA ?_
   clear hA
   refine oy (rv_move rfl rfl) rfl ?_
   refine oy (rv_add rfl rfl rfl) rfl ?_
   refine oy (rv_assign rfl rfl) rfl ?_
   refine ops_nil fun a hA => ?_
   replace hS := hS.pack [1] rfl rfl (op_LList x7)
   replace hS := hS.close [2, 3, 6] rfl rfl
   cases hG1
   exact ⟨_, rfl, ⟨hA.part ⟨rfl, rfl, rfl, trivial⟩, ((hS).sel [7] rfl).selR [0] rfl⟩⟩
  ·replace hG1 := iteF hc1 hG1
   refine cw_exit ?_
   refine xcons_hit ?_
   cases hG1
   have ho := hr1 _ rfl; subst ho
   exact ⟨x3, rfl, hA.part ⟨rfl, trivial⟩, ((hS).sel [0] rfl).selR [] rfl⟩
 ·skip
  clear hA hS hl1
  rintro a w ⟨x5, heq, hA, hS⟩
  replace hF : laws_toLListS_j1 x5 = some r := by rw [heq] at hF; exact hF
  clear heq
  unfold laws_toLListS_j1 at hF
  refine cw_seq ?_
  refine cw_ops hA ?_
  clear hA
  refine oy (rv_move rfl rfl) rfl ?_
  refine oy (rv_assign rfl rfl) rfl ?_
  refine ops_nil fun a hA => ?_
  refine cw_ret ?_
  cases hF
  exact fin1 Tryz.results24 hA (res_tmp rfl) ⟨s2, rfl, (hS.sel [0] rfl).weaken (R' := []) (fun _ h => nomatch h)⟩

set_option maxHeartbeats 4000000 in
set_option maxRecDepth 100000 in
theorem c_laws_toBase {w0 : World} {a_ : Base} {s1 : Value} {s2 : Value} {s3 : Value} {s4 : Value} {s5 : Value} {s6 : Value} {s7 : Value} {r : Base} (h1 : Rep.rd (All w0) w0 [s1] (a_.Mem.Heap.Bytes : List Int)) (h2 : Rep.rd (All w0) w0 [s2] (a_.Mem.Heap.Class : List Int)) (h3 : Rep.rd (All w0) w0 [s3] (a_.Mem.Lists.Global : List SList)) (h4 : Rep.rd (All w0) w0 [s4] (a_.Mem.Lists.Own : List SList)) (h5 : Rep.rd (All w0) w0 [s5] (a_.Clock.Pins : List Pin)) (h6 : Rep.rd (All w0) w0 [s6] (a_.Limbo : List LList)) (h7 : Rep.rd (All w0) w0 [s7] (a_.Haz : List Int)) (hF : laws_toBase a_ = some r) :
    Calls Tryz.prog 7 #[.agg #[s1, s2, s3, s4, .int .i64 (a_.Clock.Epoch), s5, s6, s7]] w0 (Ret fun v w' => ∃ (s0_0 : Value) (s0_1 : Value) (s0_2 : Value) (s0_3 : Value) (s0_4 : Value) (s0_5 : Value) (s0_6 : Value), v = .agg #[s0_0, s0_1, s0_2, s0_3, .int .i64 (r.Clock.Epoch), s0_4, s0_5, s0_6] ∧ St (cxAll w0) w' [cOwn [s0_0] (r.Mem.Heap.Bytes : List Int), cOwn [s0_1] (r.Mem.Heap.Class : List Int), cOwn [s0_2] (r.Mem.Lists.Global : List SList), cOwn [s0_3] (r.Mem.Lists.Own : List SList), cOwn [s0_4] (r.Clock.Pins : List Pin), cOwn [s0_5] (r.Limbo : List LList), cOwn [s0_6] (r.Haz : List Int)] []) := by
 have hS : St (cxAll w0) w0 [] [fRd [s1] (a_.Mem.Heap.Bytes : List Int), fRd [s2] (a_.Mem.Heap.Class : List Int), fRd [s3] (a_.Mem.Lists.Global : List SList), fRd [s4] (a_.Mem.Lists.Own : List SList), fRd [s5] (a_.Clock.Pins : List Pin), fRd [s6] (a_.Limbo : List LList), fRd [s7] (a_.Haz : List Int)] := St.enter (by
   intro f hf
   simp only [List.mem_cons, List.not_mem_nil, or_false] at hf
   rcases hf with rfl | rfl | rfl | rfl | rfl | rfl | rfl
   · exact h1
   · exact h2
   · exact h3
   · exact h4
   · exact h5
   · exact h6
   · exact h7)
 refine calls_cw (args := [_]) Tryz.func7 rfl Tryz.ntmps7 rfl ?_
 unfold laws_toBase at hF
 intro a hA
 refine cw_seq ?_
 refine cw_ops hA ?_
 clear hA
 refine ops_mv (rv_box (cs := [s1, s2, s3, s4, .int .i64 (a_.Clock.Epoch), s5, s6, s7]) hS rfl rfl rfl) (want_yes rfl) rfl rfl ?_
 clear hS
 rintro _ w ⟨b1, rfl, hS⟩
 refine ops_mv (rv_alloc (cs := [(.slice none 0 0), (.slice none 0 0), (.slice none 0 0), (.slice none 0 0), .int .i64 (0), (.slice none 0 0), (.slice none 0 0), (.slice none 0 0)]) hS rfl Tryz.zeroValue49 rfl) (want_yes rfl) rfl rfl ?_
 clear hS
 rintro _ w ⟨b2, rfl, hS⟩
 refine ops_nil fun a hA => ?_
 refine cw_seq ?_
 refine cw_ops hA ?_
 clear hA
 refine ops_mv (rv_alloc (cs := [(.slice none 0 0), (.slice none 0 0), (.slice none 0 0), (.slice none 0 0), .int .i64 (0), (.slice none 0 0), (.slice none 0 0), (.slice none 0 0)]) hS rfl Tryz.zeroValue49 rfl) (want_yes rfl) rfl rfl ?_
 clear hS
 rintro _ w ⟨b3, rfl, hS⟩
 refine ops_nil fun a hA => ?_
 refine cw_seq ?_
 refine cw_ops hA ?_
 clear hA
 refine oy (rv_fld (m := 3) Tryz.underlying35 rfl rfl Tryz.sizeOf29 rfl rfl) rfl ?_
 refine oy (rv_loadN rfl rfl Tryz.isAgg29 Tryz.sizeOf29 rfl (hS.cells 0 0 (cs' := [s1, s2, s3, s4]) rfl rfl)) rfl ?_
 obtain ⟨x1, hx1, hF⟩ := bindE hF
 refine ops_c (rc_call Tryz.call22 rfl rfl) (want_yes rfl) rfl rfl (c_laws_toMem (a_ := a_.Mem) (hS.rd 0 rfl) (hS.rd 1 rfl) (hS.rd 2 rfl) (hS.rd 3 rfl) hx1) ?_
 rintro _ w ⟨s8, s9, s10, s11, rfl, hk⟩
 replace hS := hS.after hk; clear hk
 refine oy (rv_fld (m := 3) Tryz.underlying49 rfl rfl Tryz.sizeOf43 rfl rfl) rfl ?_
 refine ops_ms (rs_box (vs := [s8, s9, s10, s11]) hS (i := 2) rfl rfl rfl rfl rfl Tryz.sizeOf43 rfl rfl (all1 (one_rd (hS.rdOwn 3 rfl)) (all1 (one_rd (hS.rdOwn 4 rfl)) (all1 (one_rd (hS.rdOwn 5 rfl)) (all1 (one_rd (hS.rdOwn 6 rfl)) rfl))))) (want_yes rfl) rfl ?_
 clear hS
 intro w hS
 refine ops_nil fun a hA => ?_
 refine cw_seq ?_
 refine cw_ops hA ?_
 clear hA
 refine oy (rv_fld (m := 1) Tryz.underlying35 rfl rfl Tryz.sizeOf32 rfl rfl) rfl ?_
 refine oy (rv_loadN rfl rfl Tryz.isAgg32 Tryz.sizeOf32 rfl (hS.cells 0 4 (cs' := [.int .i64 (a_.Clock.Epoch), s5]) rfl rfl)) rfl ?_
 obtain ⟨x2, hx2, hF⟩ := bindE hF
 refine ops_c (rc_call Tryz.call23 rfl rfl) (want_yes rfl) rfl rfl (c_laws_toClock (a_ := a_.Clock) (hS.rd 4 rfl) hx2) ?_
 rintro _ w ⟨s12, rfl, hk⟩
 replace hS := hS.after hk; clear hk
 refine oy (rv_fld (m := 1) Tryz.underlying49 rfl rfl Tryz.sizeOf46 rfl rfl) rfl ?_
 refine ops_ms (rs_box (vs := [.int .i64 (x2.Epoch), s12]) hS (i := 2) rfl rfl rfl rfl rfl Tryz.sizeOf46 rfl rfl (all1 rfl (all1 (one_rd (hS.rdOwn 7 rfl)) rfl))) (want_yes rfl) rfl ?_
 clear hS
 intro w hS
 refine ops_nil fun a hA => ?_
 refine cw_seq ?_
 refine cw_ops hA ?_
 clear hA
 refine oy (rv_fld (m := 0) Tryz.underlying35 rfl rfl Tryz.sizeOf33 rfl rfl) rfl ?_
 refine oy (rv_load1 rfl rfl Tryz.isAgg33 (hS.cell 0 rfl rfl)) rfl ?_
 obtain ⟨x3, hx3, hF⟩ := bindE hF
 refine ops_c (rc_call Tryz.call24 rfl rfl) (want_yes rfl) rfl rfl (c_laws_toLListS (a_ := a_.Limbo) (hS.rd 5 rfl) hx3) ?_
 rintro s13 w ⟨_, rfl, hk⟩
 replace hS := hS.after hk; clear hk
 refine oy (rv_fld (m := 0) Tryz.underlying49 rfl rfl Tryz.sizeOf47 rfl rfl) rfl ?_
 refine ops_ms (rs_box (vs := [s13]) hS (i := 2) rfl rfl rfl rfl (cells_rd (hS.rdOwn 8 rfl)) Tryz.sizeOf47 rfl rfl (all1 (one_rd (hS.rdOwn 8 rfl)) rfl)) (want_yes rfl) rfl ?_
 clear hS
 intro w hS
 refine ops_nil fun a hA => ?_
 refine cw_seq ?_
 refine cw_ops hA ?_
 clear hA
 refine oy (rv_fld (m := 0) Tryz.underlying35 rfl rfl Tryz.sizeOf22 rfl rfl) rfl ?_
 refine oy (rv_load1 rfl rfl Tryz.isAgg22 (hS.cell 0 rfl rfl)) rfl ?_
 obtain ⟨x4, hx4, hF⟩ := bindE hF
 refine ops_c (rc_call Tryz.call25 rfl rfl) (want_yes rfl) rfl rfl (c_laws_toIntS (a_ := a_.Haz) (hS.rd 6 rfl) hx4) ?_
 rintro s14 w ⟨_, rfl, hk⟩
 replace hS := hS.after hk; clear hk
 refine oy (rv_fld (m := 0) Tryz.underlying49 rfl rfl Tryz.sizeOf22 rfl rfl) rfl ?_
 refine ops_ms (rs_box (vs := [s14]) hS (i := 2) rfl rfl rfl rfl (cells_rd (hS.rdOwn 9 rfl)) Tryz.sizeOf22 rfl rfl (all1 (one_rd (hS.rdOwn 9 rfl)) rfl)) (want_yes rfl) rfl ?_
 clear hS
 intro w hS
 refine ops_nil fun a hA => ?_
 refine cw_seq ?_
 refine cw_ops hA ?_
 clear hA
 refine oy (rv_loadN rfl rfl Tryz.isAgg49 Tryz.sizeOf49 rfl (hS.cells 2 0 (cs' := [s8, s9, s10, s11, .int .i64 (x2.Epoch), s12, s13, s14]) rfl rfl)) rfl ?_
 refine ops_ms (rs_box (vs := [s8, s9, s10, s11, .int .i64 (x2.Epoch), s12, s13, s14]) hS (i := 1) rfl rfl rfl rfl rfl Tryz.sizeOf49 rfl rfl (all1 (one_rd (hS.rdOwn 3 rfl)) (all1 (one_rd (hS.rdOwn 4 rfl)) (all1 (one_rd (hS.rdOwn 5 rfl)) (all1 (one_rd (hS.rdOwn 6 rfl)) (all1 rfl (all1 (one_rd (hS.rdOwn 7 rfl)) (all1 (one_rd (hS.rdOwn 8 rfl)) (all1 (one_rd (hS.rdOwn 9 rfl)) rfl))))))))) (want_yes rfl) rfl ?_
 clear hS
 intro w hS
 refine ops_nil fun a hA => ?_
 refine cw_ret ?_
 cases hF
 exact fin1 Tryz.results7 hA (res_cell rfl Tryz.isAgg49 Tryz.sizeOf49 rfl (hS.cells 1 0 (cs' := [s8, s9, s10, s11, .int .i64 (x2.Epoch), s12, s13, s14]) rfl rfl)) ⟨s8, s9, s10, s11, s12, s13, s14, rfl, (hS.sel [3, 4, 5, 6, 7, 8, 9] rfl).weaken (R' := []) (fun _ h => nomatch h)⟩

set_option maxHeartbeats 4000000 in
set_option maxRecDepth 100000 in
theorem c_spec_l1In {w0 : World} {x : Int} {low : Int} {high : Int}  {r : Bool}  (hF : spec_l1In x low high = some r) :
    Calls Tryz.prog 60 #[.int .i64 (x), .int .i64 (low), .int .i64 (high)] w0 (Ret fun v w' => v = .bool (r) ∧ St (cxAll w0) w' [] []) := by
 have hS : St (cxAll w0) w0 [] [] := St.enter (by
   intro f hf; cases hf)
 refine calls_cw (args := [_, _, _]) Tryz.func60 rfl Tryz.ntmps60 rfl ?_
 unfold spec_l1In at hF
 intro a hA
 refine cw_seq ?_
 refine cw_ops hA ?_
 clear hA
 refine oy (rv_assign rfl rfl) rfl ?_
 refine ops_nil fun a hA => ?_
 refine cw_seq ?_
 refine cw_cut (J := fun a' w' => ∃ (x1 : Bool), spec_l1In_j1 x1 = some r ∧ AEnv 15 [(6, .bool (x1))] a' ∧ St (cxAll w0) w' [] []) ?_ ?_
 ·skip
  refine cw_ops hA ?_
  clear hA
  refine oy (rv_move rfl rfl) rfl ?_
  refine oy (rv_move rfl rfl) rfl ?_
  refine oy (rv_geq rfl rfl rfl) rfl ?_
  refine oy (rv_move rfl rfl) rfl ?_
  refine ops_case (s := 10) rfl (fun hc1 => ?_) (fun hc1 => ?_)
  ·replace hF := iteT hc1 hF
   refine ops_v (rv_move rfl rfl) (want_if rfl rfl rfl (by rw [hc1]; rfl)) rfl rfl ?_
   refine ops_v (rv_move rfl rfl) (want_if rfl rfl rfl (by rw [hc1]; rfl)) rfl rfl ?_
   refine ops_v (rv_leq rfl rfl rfl) (want_if rfl rfl rfl (by rw [hc1]; rfl)) rfl rfl ?_
   refine oy (rv_pick_t rfl rfl hc1 rfl) rfl ?_
   refine oy (rv_assign rfl rfl) rfl ?_
   refine ops_nil fun a hA => ?_
   exact ⟨decide (x ≤ high), hF, hA.part ⟨rfl, trivial⟩, ((hS).sel [] rfl).selR [] rfl⟩
  ·replace hF := iteF hc1 hF
   refine ops_off (want_if rfl rfl rfl (by rw [hc1]; rfl)) rfl rfl ?_
   refine ops_off (want_if rfl rfl rfl (by rw [hc1]; rfl)) rfl rfl ?_
   refine ops_off (want_if rfl rfl rfl (by rw [hc1]; rfl)) rfl rfl ?_
   refine oy (rv_pick_f rfl rfl hc1 rfl) rfl ?_
   refine oy (rv_assign rfl rfl) rfl ?_
   refine ops_nil fun a hA => ?_
   exact ⟨false, hF, hA.part ⟨rfl, trivial⟩, ((hS).sel [] rfl).selR [] rfl⟩
 ·skip
  clear hA hS hF
  rintro a w ⟨x1, hF, hA, hS⟩
  unfold spec_l1In_j1 at hF
  refine cw_ret ?_
  cases hF
  exact fy Tryz.results60 hA rfl hS

set_option maxHeartbeats 4000000 in
set_option maxRecDepth 100000 in
theorem c_spec_BytesOk {w0 : World} {b : List Int} {s1 : Value} {r : Bool} (h1 : Rep.rd (All w0) w0 [s1] (b : List Int)) (hF : spec_BytesOk b = some r) :
    Calls Tryz.prog 150 #[s1] w0 (Ret fun v w' => v = .bool (r) ∧ St (cxAll w0) w' [] []) := by
 have hS : St (cxAll w0) w0 [] [fRd [s1] (b : List Int)] := St.enter (by
   intro f hf
   simp only [List.mem_cons, List.not_mem_nil, or_false] at hf
   subst hf; exact h1)
 refine calls_cw (args := [_]) Tryz.func150 rfl Tryz.ntmps150 rfl ?_
 unfold spec_BytesOk at hF
 intro a hA
 refine cw_seq ?_
 refine cw_ops hA ?_
 clear hA
 refine oy (rv_assign rfl rfl) rfl ?_
 refine ops_nil fun a hA => ?_
 refine cw_seq ?_
 refine cw_seq ?_
 refine cw_ops hA ?_
 clear hA
 refine oy (rv_assign rfl rfl) rfl ?_
 refine ops_nil fun a hA => ?_
 obtain ⟨o1, hl1, hF⟩ := bindE hF
 refine cw_cut (J := fun a' w' => o1 = Out.brk (()) ∧ AEnv 19 [(0, s1)] a' ∧ St (cxAll w0) w' [] [fRd [s1] (b : List Int)]) ?_ ?_
 ·refine cw_block ?_
  refine cw_loop (body := spec_BytesOk_l1 b) (r := o1) (fun sg a' w' => AEnv 19 [(0, s1), (3, .int .i64 (sg))] a' ∧ St (cxAll w0) w' [] [fRd [s1] (b : List Int)]) ?_ hl1 ⟨hA.part ⟨rfl, rfl, trivial⟩, ((hS).sel [] rfl).selR [0] rfl⟩
  clear hA hS hl1
  rintro x2 a w q1 ⟨hA, hS⟩ hG1 hr1
  try dsimp only at hA hS
  unfold spec_BytesOk_l1 at hG1
  refine cw_seq ?_
  refine cw_seq ?_
  refine cw_ops hA ?_
  clear hA
  refine oy (rv_move rfl rfl) rfl ?_
  refine oy (rv_move rfl rfl) rfl ?_
  refine oy (rv_lenS (hS.rd 0 rfl) Tryz.underlying22 rfl rfl) rfl ?_
  refine oy (rv_lss rfl rfl rfl) rfl ?_
  refine ops_nil fun a hA => ?_
  refine cw_cond hA rfl (fun hc1 => ?_) (fun hc1 => ?_)
  ·replace hG1 := iteT hc1 hG1
   refine cw_skip ?_
   refine cw_seq ?_
   refine cw_block ?_
   refine cw_seq ?_
   refine cw_ops hA ?_
   clear hA
   refine oy (rv_move rfl rfl) rfl ?_
   refine oy (rv_move rfl rfl) rfl ?_
   obtain ⟨x3, hx3, hG1⟩ := bindE hG1
   refine oy (rv_idx (m := 1) (hS.rd 0 rfl) rfl hx3 Tryz.underlying22 Tryz.sizeOf3 rfl rfl rfl) rfl ?_
   refine oy (rv_load1 rfl rfl Tryz.isAgg3 (cell1 (el_Int (hS.rd 0 rfl) (idx_some hx3).2.2))) rfl ?_
   obtain ⟨x4, hx4, hG1⟩ := bindE hG1
   refine ops_c (rc_call Tryz.call60 rfl rfl) (want_yes rfl) rfl rfl (c_spec_l1In (x := x3) (low := 0) (high := 255)  hx4) ?_
   rintro _ w ⟨rfl, hk⟩
   replace hS := hS.after hk; clear hk
   refine oy (rv_not rfl rfl) rfl ?_
   refine ops_nil fun a hA => ?_
   refine cw_cond hA rfl (fun hc2 => ?_) (fun hc2 => ?_)
   ·replace hG1 := iteT hc2 hG1
    refine cw_seq ?_
    refine cw_ops hA ?_
    clear hA
    refine oy (rv_assign rfl rfl) rfl ?_
    refine ops_nil fun a hA => ?_
    refine cw_ret ?_
    cases hG1
    have ho := hr1 _ rfl; subst ho
    replace hF : some false = some r := hF
    cases hF
    exact fy Tryz.results150 hA rfl hS
   ·replace hG1 := iteF hc2 hG1
    refine cw_skip ?_
    refine cw_ops hA ?_
    clear hA
    refine oy (rv_move rfl rfl) rfl ?_
    refine oy (rv_add rfl rfl rfl) rfl ?_
    refine oy (rv_assign rfl rfl) rfl ?_
    refine ops_nil fun a hA => ?_
    cases hG1
    exact ⟨_, rfl, ⟨hA.part ⟨rfl, rfl, trivial⟩, ((hS).sel [] rfl).selR [0] rfl⟩⟩
  ·replace hG1 := iteF hc1 hG1
   refine cw_exit ?_
   refine xcons_hit ?_
   cases hG1
   have ho := hr1 _ rfl; subst ho
   exact ⟨rfl, hA.part ⟨rfl, trivial⟩, ((hS).sel [] rfl).selR [0] rfl⟩
 ·skip
  clear hA hS hl1
  rintro a w ⟨heq, hA, hS⟩
  replace hF : spec_BytesOk_j1 b = some r := by rw [heq] at hF; exact hF
  clear heq
  unfold spec_BytesOk_j1 at hF
  refine cw_seq ?_
  refine cw_ops hA ?_
  clear hA
  refine oy (rv_move rfl rfl) rfl ?_
  refine oy (rv_lenS (hS.rd 0 rfl) Tryz.underlying22 rfl rfl) rfl ?_
  refine oy (rv_leq rfl rfl rfl) rfl ?_
  refine oy (rv_assign rfl rfl) rfl ?_
  refine ops_nil fun a hA => ?_
  refine cw_ret ?_
  cases hF
  exact fy Tryz.results150 hA rfl hS

set_option maxHeartbeats 4000000 in
set_option maxRecDepth 100000 in
theorem c_spec_l7Shape {w0 : World} {h : Heap} {s1 : Value} {s2 : Value} {r : Bool} (h1 : Rep.rd (All w0) w0 [s1] (h.Bytes : List Int)) (h2 : Rep.rd (All w0) w0 [s2] (h.Class : List Int)) (hF : spec_l7Shape h = some r) :
    Calls Tryz.prog 128 #[.agg #[s1, s2]] w0 (Ret fun v w' => v = .bool (r) ∧ St (cxAll w0) w' [] []) := by
 have hS : St (cxAll w0) w0 [] [fRd [s1] (h.Bytes : List Int), fRd [s2] (h.Class : List Int)] := St.enter (by
   intro f hf
   simp only [List.mem_cons, List.not_mem_nil, or_false] at hf
   rcases hf with rfl | rfl
   · exact h1
   · exact h2)
 refine calls_cw (args := [_]) Tryz.func128 rfl Tryz.ntmps128 rfl ?_
 unfold spec_l7Shape at hF
 intro a hA
 refine cw_seq ?_
 refine cw_ops hA ?_
 clear hA
 refine ops_mv (rv_box (cs := [s1, s2]) hS rfl rfl rfl) (want_yes rfl) rfl rfl ?_
 clear hS
 rintro _ w ⟨b1, rfl, hS⟩
 refine oy (rv_assign rfl rfl) rfl ?_
 refine ops_nil fun a hA => ?_
 refine cw_seq ?_
 refine cw_seq ?_
 refine cw_cut (J := fun a' w' => ∃ (x1 : Bool), spec_l7Shape_j1 h x1 = some r ∧ AEnv 31 [(1, .pointer (some ⟨b1, 0, none⟩)), (19, .bool (x1))] a' ∧ St (cxAll w0) w' [cBox b1 [s1, s2]] [fRd [s1] (h.Bytes : List Int), fRd [s2] (h.Class : List Int)]) ?_ ?_
 ·skip
  refine cw_ops hA ?_
  clear hA
  refine oy (rv_fld (m := 0) Tryz.underlying38 rfl rfl Tryz.sizeOf22 rfl rfl) rfl ?_
  refine oy (rv_load1 rfl rfl Tryz.isAgg22 (hS.cell 0 rfl rfl)) rfl ?_
  refine oy (rv_lenS (hS.rd 0 rfl) Tryz.underlying22 rfl rfl) rfl ?_
  refine oy (rv_neq rfl rfl rfl) rfl ?_
  refine oy (rv_move rfl rfl) rfl ?_
  refine ops_case (s := 8) rfl (fun hc4 => ?_) (fun hc4 => ?_)
  ·replace hF := iteT hc4 hF
   refine ops_off (want_if rfl rfl rfl (by rw [hc4]; rfl)) rfl rfl ?_
   refine ops_off (want_if rfl rfl rfl (by rw [hc4]; rfl)) rfl rfl ?_
   refine ops_off (want_if rfl rfl rfl (by rw [hc4]; rfl)) rfl rfl ?_
   refine ops_off (want_if rfl rfl rfl (by rw [hc4]; rfl)) rfl rfl ?_
   refine oy (rv_pick_t rfl rfl hc4 rfl) rfl ?_
   refine oy (rv_move rfl rfl) rfl ?_
   refine ops_off (want_if rfl rfl rfl rfl) rfl rfl ?_
   refine ops_off (want_if rfl rfl rfl rfl) rfl rfl ?_
   refine ops_off (want_if rfl rfl rfl rfl) rfl rfl ?_
   refine ops_off (want_if rfl rfl rfl rfl) rfl rfl ?_
   refine oy (rv_pick_t rfl rfl rfl rfl) rfl ?_
   refine ops_nil fun a hA => ?_
   exact ⟨true, hF, hA.part ⟨rfl, rfl, trivial⟩, ((hS).sel [0] rfl).selR [0, 1] rfl⟩
  ·replace hF := iteF hc4 hF
   refine ops_v (rv_fld (m := 0) Tryz.underlying38 rfl rfl Tryz.sizeOf22 rfl rfl) (want_if rfl rfl rfl (by rw [hc4]; rfl)) rfl rfl ?_
   refine ops_v (rv_load1 rfl rfl Tryz.isAgg22 (hS.cell 0 rfl rfl)) (want_if rfl rfl rfl (by rw [hc4]; rfl)) rfl rfl ?_
   refine ops_v (rv_lenS (hS.rd 1 rfl) Tryz.underlying22 rfl rfl) (want_if rfl rfl rfl (by rw [hc4]; rfl)) rfl rfl ?_
   refine ops_v (rv_neq rfl rfl rfl) (want_if rfl rfl rfl (by rw [hc4]; rfl)) rfl rfl ?_
   refine oy (rv_pick_f rfl rfl hc4 rfl) rfl ?_
   refine oy (rv_move rfl rfl) rfl ?_
   refine ops_case (s := 14) rfl (fun hc5 => ?_) (fun hc5 => ?_)
   ·replace hF := iteT hc5 hF
    refine ops_off (want_if rfl rfl rfl (by rw [hc5]; rfl)) rfl rfl ?_
    refine ops_off (want_if rfl rfl rfl (by rw [hc5]; rfl)) rfl rfl ?_
    refine ops_off (want_if rfl rfl rfl (by rw [hc5]; rfl)) rfl rfl ?_
    refine ops_off (want_if rfl rfl rfl (by rw [hc5]; rfl)) rfl rfl ?_
    refine oy (rv_pick_t rfl rfl hc5 rfl) rfl ?_
    refine ops_nil fun a hA => ?_
    exact ⟨true, hF, hA.part ⟨rfl, rfl, trivial⟩, ((hS).sel [0] rfl).selR [0, 1] rfl⟩
   ·replace hF := iteF hc5 hF
    refine ops_v (rv_fld (m := 0) Tryz.underlying38 rfl rfl Tryz.sizeOf22 rfl rfl) (want_if rfl rfl rfl (by rw [hc5]; rfl)) rfl rfl ?_
    refine ops_v (rv_load1 rfl rfl Tryz.isAgg22 (hS.cell 0 rfl rfl)) (want_if rfl rfl rfl (by rw [hc5]; rfl)) rfl rfl ?_
    obtain ⟨x6, hx6, hF⟩ := bindE hF
    refine ops_c (rc_call Tryz.call150 rfl rfl) (want_if rfl rfl rfl (by rw [hc5]; rfl)) rfl rfl (c_spec_BytesOk (b := h.Bytes) (hS.rd 0 rfl) hx6) ?_
    rintro _ w ⟨rfl, hk⟩
    replace hS := hS.after hk; clear hk
    refine ops_v (rv_not rfl rfl) (want_if rfl rfl rfl (by rw [hc5]; rfl)) rfl rfl ?_
    refine oy (rv_pick_f rfl rfl hc5 rfl) rfl ?_
    refine ops_nil fun a hA => ?_
    exact ⟨!x6, hF, hA.part ⟨rfl, rfl, trivial⟩, ((hS).sel [0] rfl).selR [0, 1] rfl⟩
 ·skip
  clear hA hS hF
  rintro a w ⟨x1, hF, hA, hS⟩
  unfold spec_l7Shape_j1 at hF
  refine cw_cond hA rfl (fun hc1 => ?_) (fun hc1 => ?_)
  ·replace hF := iteT hc1 hF
   refine cw_seq ?_
   refine cw_ops hA ?_
   clear hA
   refine oy (rv_assign rfl rfl) rfl ?_
   refine ops_nil fun a hA => ?_
   refine cw_ret ?_
   cases hF
   exact fy Tryz.results128 hA rfl hS
  ·replace hF := iteF hc1 hF
   refine cw_skip ?_
   refine cw_seq ?_
   refine cw_seq ?_
   refine cw_ops hA ?_
   clear hA
   refine oy (rv_assign rfl rfl) rfl ?_
   refine ops_nil fun a hA => ?_
   obtain ⟨o1, hl1, hF⟩ := bindE hF
   refine cw_cut (J := fun a' w' => o1 = Out.brk (()) ∧ AEnv 31 [] a' ∧ St (cxAll w0) w' [] []) ?_ ?_
   ·refine cw_block ?_
    refine cw_loop (body := spec_l7Shape_l2 h) (r := o1) (fun sg a' w' => AEnv 31 [(1, .pointer (some ⟨b1, 0, none⟩)), (3, .int .i64 (sg))] a' ∧ St (cxAll w0) w' [cBox b1 [s1, s2]] [fRd [s1] (h.Bytes : List Int), fRd [s2] (h.Class : List Int)]) ?_ hl1 ⟨hA.part ⟨rfl, rfl, trivial⟩, ((hS).sel [0] rfl).selR [0, 1] rfl⟩
    clear hA hS hl1
    rintro x3 a w q2 ⟨hA, hS⟩ hG2 hr2
    try dsimp only at hA hS
    unfold spec_l7Shape_l2 at hG2
    refine cw_seq ?_
    refine cw_seq ?_
    refine cw_ops hA ?_
    clear hA
    refine oy (rv_move rfl rfl) rfl ?_
    refine oy (rv_lss rfl rfl rfl) rfl ?_
    refine ops_nil fun a hA => ?_
    refine cw_cond hA rfl (fun hc2 => ?_) (fun hc2 => ?_)
    ·replace hG2 := iteT hc2 hG2
     refine cw_skip ?_
     refine cw_seq ?_
     refine cw_block ?_
     refine cw_seq ?_
     refine cw_ops hA ?_
     clear hA
     refine oy (rv_fld (m := 0) Tryz.underlying38 rfl rfl Tryz.sizeOf22 rfl rfl) rfl ?_
     refine oy (rv_load1 rfl rfl Tryz.isAgg22 (hS.cell 0 rfl rfl)) rfl ?_
     refine oy (rv_move rfl rfl) rfl ?_
     obtain ⟨x4, hx4, hG2⟩ := bindE hG2
     refine oy (rv_idx (m := 1) (hS.rd 1 rfl) rfl hx4 Tryz.underlying22 Tryz.sizeOf3 rfl rfl rfl) rfl ?_
     refine oy (rv_load1 rfl rfl Tryz.isAgg3 (cell1 (el_Int (hS.rd 1 rfl) (idx_some hx4).2.2))) rfl ?_
     obtain ⟨x5, hx5, hG2⟩ := bindE hG2
     refine ops_c (rc_call Tryz.call60 rfl rfl) (want_yes rfl) rfl rfl (c_spec_l1In (x := x4) (low := (-1)) (high := 2)  hx5) ?_
     rintro _ w ⟨rfl, hk⟩
     replace hS := hS.after hk; clear hk
     refine oy (rv_not rfl rfl) rfl ?_
     refine ops_nil fun a hA => ?_
     refine cw_cond hA rfl (fun hc3 => ?_) (fun hc3 => ?_)
     ·replace hG2 := iteT hc3 hG2
      refine cw_seq ?_
      refine cw_ops hA ?_
      clear hA
      refine oy (rv_assign rfl rfl) rfl ?_
      refine ops_nil fun a hA => ?_
      refine cw_ret ?_
      cases hG2
      have ho := hr2 _ rfl; subst ho
      replace hF : some false = some r := hF
      cases hF
      exact fy Tryz.results128 hA rfl hS
     ·replace hG2 := iteF hc3 hG2
      refine cw_skip ?_
      refine cw_ops hA ?_
      clear hA
      refine oy (rv_move rfl rfl) rfl ?_
      refine oy (rv_add rfl rfl rfl) rfl ?_
      refine oy (rv_assign rfl rfl) rfl ?_
      refine ops_nil fun a hA => ?_
      cases hG2
      exact ⟨_, rfl, ⟨hA.part ⟨rfl, rfl, trivial⟩, ((hS).sel [0] rfl).selR [0, 1] rfl⟩⟩
    ·replace hG2 := iteF hc2 hG2
     refine cw_exit ?_
     refine xcons_hit ?_
     cases hG2
     have ho := hr2 _ rfl; subst ho
     exact ⟨rfl, hA.part trivial, ((hS).sel [] rfl).selR [] rfl⟩
   ·skip
    clear hA hS hl1
    rintro a w ⟨heq, hA, hS⟩
    replace hF : spec_l7Shape_j2 = some r := by rw [heq] at hF; exact hF
    clear heq
    unfold spec_l7Shape_j2 at hF
    refine cw_seq ?_
    refine cw_ops hA ?_
    clear hA
    refine oy (rv_assign rfl rfl) rfl ?_
    refine ops_nil fun a hA => ?_
    refine cw_ret ?_
    cases hF
    exact fy Tryz.results128 hA rfl hS

set_option maxHeartbeats 4000000 in
set_option maxRecDepth 100000 in
theorem c_spec_SizeOf {w0 : World} {c : Int}  {r : Int}  (hF : spec_SizeOf c = some r) :
    Calls Tryz.prog 166 #[.int .i64 (c)] w0 (Ret fun v w' => v = .int .i64 (r) ∧ St (cxAll w0) w' [] []) := by
 have hS : St (cxAll w0) w0 [] [] := St.enter (by
   intro f hf; cases hf)
 refine calls_cw (args := [_]) Tryz.func166 rfl Tryz.ntmps166 rfl ?_
 unfold spec_SizeOf at hF
 intro a hA
 refine cw_seq ?_
 refine cw_ops hA ?_
 clear hA
 refine oy (rv_assign rfl rfl) rfl ?_
 refine ops_nil fun a hA => ?_
 refine cw_seq ?_
 refine cw_seq ?_
 refine cw_ops hA ?_
 clear hA
 refine oy (rv_move rfl rfl) rfl ?_
 refine ops_nil fun a hA => ?_
 refine cw_block ?_
 refine cw_seq ?_
 refine cw_ops hA ?_
 clear hA
 refine oy (rv_eql rfl rfl rfl) rfl ?_
 refine oy (rv_assign rfl rfl) rfl ?_
 refine ops_nil fun a hA => ?_
 refine cw_cond hA rfl (fun hc1 => ?_) (fun hc1 => ?_)
 ·replace hF := iteT hc1 hF
  refine cw_seq ?_
  refine cw_ops hA ?_
  clear hA
  refine oy (rv_assign rfl rfl) rfl ?_
  refine ops_nil fun a hA => ?_
  refine cw_ret ?_
  cases hF
  exact fy Tryz.results166 hA rfl hS
 ·replace hF := iteF hc1 hF
  refine cw_seq ?_
  refine cw_ops hA ?_
  clear hA
  refine oy (rv_eql rfl rfl rfl) rfl ?_
  refine oy (rv_assign rfl rfl) rfl ?_
  refine ops_nil fun a hA => ?_
  refine cw_cond hA rfl (fun hc2 => ?_) (fun hc2 => ?_)
  ·replace hF := iteT hc2 hF
   refine cw_seq ?_
   refine cw_ops hA ?_
   clear hA
   refine oy (rv_assign rfl rfl) rfl ?_
   refine ops_nil fun a hA => ?_
   refine cw_ret ?_
   cases hF
   exact fy Tryz.results166 hA rfl hS
  ·replace hF := iteF hc2 hF
   refine cw_seq ?_
   refine cw_ops hA ?_
   clear hA
   refine oy (rv_eql rfl rfl rfl) rfl ?_
   refine oy (rv_assign rfl rfl) rfl ?_
   refine ops_nil fun a hA => ?_
   refine cw_cond hA rfl (fun hc3 => ?_) (fun hc3 => ?_)
   ·replace hF := iteT hc3 hF
    refine cw_seq ?_
    refine cw_ops hA ?_
    clear hA
    refine oy (rv_assign rfl rfl) rfl ?_
    refine ops_nil fun a hA => ?_
    refine cw_ret ?_
    cases hF
    exact fy Tryz.results166 hA rfl hS
   ·replace hF := iteF hc3 hF
    refine cw_skip ?_
    refine cw_seq ?_
    refine cw_ops hA ?_
    clear hA
    refine oy (rv_assign rfl rfl) rfl ?_
    refine ops_nil fun a hA => ?_
    refine cw_ret ?_
    cases hF
    exact fy Tryz.results166 hA rfl hS

set_option maxHeartbeats 4000000 in
set_option maxRecDepth 100000 in
theorem c_spec_StrideOf {w0 : World} {c : Int}  {r : Int}  (hF : spec_StrideOf c = some r) :
    Calls Tryz.prog 155 #[.int .i64 (c)] w0 (Ret fun v w' => v = .int .i64 (r) ∧ St (cxAll w0) w' [] []) := by
 have hS : St (cxAll w0) w0 [] [] := St.enter (by
   intro f hf; cases hf)
 refine calls_cw (args := [_]) Tryz.func155 rfl Tryz.ntmps155 rfl ?_
 unfold spec_StrideOf at hF
 intro a hA
 refine cw_seq ?_
 refine cw_ops hA ?_
 clear hA
 refine oy (rv_assign rfl rfl) rfl ?_
 refine ops_nil fun a hA => ?_
 refine cw_seq ?_
 refine cw_seq ?_
 refine cw_ops hA ?_
 clear hA
 refine oy (rv_move rfl rfl) rfl ?_
 obtain ⟨x1, hx1, hF⟩ := bindE hF
 refine ops_c (rc_call Tryz.call60 rfl rfl) (want_yes rfl) rfl rfl (c_spec_l1In (x := c) (low := 0) (high := 2)  hx1) ?_
 rintro _ w ⟨rfl, hk⟩
 replace hS := hS.after hk; clear hk
 refine oy (rv_not rfl rfl) rfl ?_
 refine ops_nil fun a hA => ?_
 refine cw_cond hA rfl (fun hc1 => ?_) (fun hc1 => ?_)
 ·replace hF := iteT hc1 hF
  refine cw_seq ?_
  refine cw_ops hA ?_
  clear hA
  refine oy (rv_assign rfl rfl) rfl ?_
  refine ops_nil fun a hA => ?_
  refine cw_ret ?_
  cases hF
  exact fy Tryz.results155 hA rfl hS
 ·replace hF := iteF hc1 hF
  refine cw_skip ?_
  refine cw_seq ?_
  refine cw_ops hA ?_
  clear hA
  refine oy (rv_move rfl rfl) rfl ?_
  obtain ⟨x2, hx2, hF⟩ := bindE hF
  refine ops_c (rc_call Tryz.call166 rfl rfl) (want_yes rfl) rfl rfl (c_spec_SizeOf (c := c)  hx2) ?_
  rintro _ w ⟨rfl, hk⟩
  replace hS := hS.after hk; clear hk
  refine oy (rv_add rfl rfl rfl) rfl ?_
  refine oy (rv_assign rfl rfl) rfl ?_
  refine ops_nil fun a hA => ?_
  refine cw_ret ?_
  cases hF
  exact fy Tryz.results155 hA rfl hS

set_option maxHeartbeats 4000000 in
set_option maxRecDepth 100000 in
theorem c_spec_PerPage {w0 : World} {c : Int}  {r : Int}  (hF : spec_PerPage c = some r) :
    Calls Tryz.prog 151 #[.int .i64 (c)] w0 (Ret fun v w' => v = .int .i64 (r) ∧ St (cxAll w0) w' [] []) := by
 have hS : St (cxAll w0) w0 [] [] := St.enter (by
   intro f hf; cases hf)
 refine calls_cw (args := [_]) Tryz.func151 rfl Tryz.ntmps151 rfl ?_
 unfold spec_PerPage at hF
 intro a hA
 refine cw_seq ?_
 refine cw_ops hA ?_
 clear hA
 refine oy (rv_assign rfl rfl) rfl ?_
 refine ops_nil fun a hA => ?_
 refine cw_seq ?_
 refine cw_seq ?_
 refine cw_ops hA ?_
 clear hA
 refine oy (rv_move rfl rfl) rfl ?_
 obtain ⟨x1, hx1, hF⟩ := bindE hF
 refine ops_c (rc_call Tryz.call60 rfl rfl) (want_yes rfl) rfl rfl (c_spec_l1In (x := c) (low := 0) (high := 2)  hx1) ?_
 rintro _ w ⟨rfl, hk⟩
 replace hS := hS.after hk; clear hk
 refine oy (rv_not rfl rfl) rfl ?_
 refine ops_nil fun a hA => ?_
 refine cw_cond hA rfl (fun hc1 => ?_) (fun hc1 => ?_)
 ·replace hF := iteT hc1 hF
  refine cw_seq ?_
  refine cw_ops hA ?_
  clear hA
  refine oy (rv_assign rfl rfl) rfl ?_
  refine ops_nil fun a hA => ?_
  refine cw_ret ?_
  cases hF
  exact fy Tryz.results151 hA rfl hS
 ·replace hF := iteF hc1 hF
  refine cw_skip ?_
  refine cw_seq ?_
  refine cw_ops hA ?_
  clear hA
  refine oy (rv_move rfl rfl) rfl ?_
  obtain ⟨x2, hx2, hF⟩ := bindE hF
  refine ops_c (rc_call Tryz.call155 rfl rfl) (want_yes rfl) rfl rfl (c_spec_StrideOf (c := c)  hx2) ?_
  rintro _ w ⟨rfl, hk⟩
  replace hS := hS.after hk; clear hk
  obtain ⟨hn1, hF⟩ := needE hF
  refine oy (rv_quo rfl rfl rfl hn1) rfl ?_
  refine oy (rv_assign rfl rfl) rfl ?_
  refine ops_nil fun a hA => ?_
  refine cw_ret ?_
  cases hF
  exact fy Tryz.results151 hA rfl hS

set_option maxHeartbeats 4000000 in
set_option maxRecDepth 100000 in
theorem c_spec_SlotAt {w0 : World} {page : Int} {index : Int}  {r : Int}  (hF : spec_SlotAt page index = some r) :
    Calls Tryz.prog 152 #[.int .i64 (page), .int .i64 (index)] w0 (Ret fun v w' => v = .int .i64 (r) ∧ St (cxAll w0) w' [] []) := by
 have hS : St (cxAll w0) w0 [] [] := St.enter (by
   intro f hf; cases hf)
 refine calls_cw (args := [_, _]) Tryz.func152 rfl Tryz.ntmps152 rfl ?_
 unfold spec_SlotAt at hF
 intro a hA
 refine cw_seq ?_
 refine cw_ops hA ?_
 clear hA
 refine oy (rv_assign rfl rfl) rfl ?_
 refine ops_nil fun a hA => ?_
 refine cw_seq ?_
 refine cw_seq ?_
 refine cw_cut (J := fun a' w' => ∃ (x1 : Bool), spec_SlotAt_j1 page index x1 = some r ∧ AEnv 17 [(0, .int .i64 (page)), (1, .int .i64 (index)), (12, .bool (x1))] a' ∧ St (cxAll w0) w' [] []) ?_ ?_
 ·skip
  refine cw_ops hA ?_
  clear hA
  refine oy (rv_move rfl rfl) rfl ?_
  obtain ⟨x2, hx2, hF⟩ := bindE hF
  refine ops_c (rc_call Tryz.call60 rfl rfl) (want_yes rfl) rfl rfl (c_spec_l1In (x := page) (low := 0) (high := 5)  hx2) ?_
  rintro _ w ⟨rfl, hk⟩
  replace hS := hS.after hk; clear hk
  refine oy (rv_not rfl rfl) rfl ?_
  refine oy (rv_move rfl rfl) rfl ?_
  refine ops_case (s := 8) rfl (fun hc2 => ?_) (fun hc2 => ?_)
  ·replace hF := iteT hc2 hF
   refine ops_off (want_if rfl rfl rfl (by rw [hc2]; rfl)) rfl rfl ?_
   refine ops_off (want_if rfl rfl rfl (by rw [hc2]; rfl)) rfl rfl ?_
   refine ops_off (want_if rfl rfl rfl (by rw [hc2]; rfl)) rfl rfl ?_
   refine oy (rv_pick_t rfl rfl hc2 rfl) rfl ?_
   refine ops_nil fun a hA => ?_
   exact ⟨true, hF, hA.part ⟨rfl, rfl, rfl, trivial⟩, ((hS).sel [] rfl).selR [] rfl⟩
  ·replace hF := iteF hc2 hF
   refine ops_v (rv_move rfl rfl) (want_if rfl rfl rfl (by rw [hc2]; rfl)) rfl rfl ?_
   obtain ⟨x3, hx3, hF⟩ := bindE hF
   refine ops_c (rc_call Tryz.call60 rfl rfl) (want_if rfl rfl rfl (by rw [hc2]; rfl)) rfl rfl (c_spec_l1In (x := index) (low := 0) (high := 3)  hx3) ?_
   rintro _ w ⟨rfl, hk⟩
   replace hS := hS.after hk; clear hk
   refine ops_v (rv_not rfl rfl) (want_if rfl rfl rfl (by rw [hc2]; rfl)) rfl rfl ?_
   refine oy (rv_pick_f rfl rfl hc2 rfl) rfl ?_
   refine ops_nil fun a hA => ?_
   exact ⟨!x3, hF, hA.part ⟨rfl, rfl, rfl, trivial⟩, ((hS).sel [] rfl).selR [] rfl⟩
 ·skip
  clear hA hS hF
  rintro a w ⟨x1, hF, hA, hS⟩
  unfold spec_SlotAt_j1 at hF
  refine cw_cond hA rfl (fun hc1 => ?_) (fun hc1 => ?_)
  ·replace hF := iteT hc1 hF
   refine cw_seq ?_
   refine cw_ops hA ?_
   clear hA
   refine oy (rv_assign rfl rfl) rfl ?_
   refine ops_nil fun a hA => ?_
   refine cw_ret ?_
   cases hF
   exact fy Tryz.results152 hA rfl hS
  ·replace hF := iteF hc1 hF
   refine cw_skip ?_
   refine cw_seq ?_
   refine cw_ops hA ?_
   clear hA
   refine oy (rv_move rfl rfl) rfl ?_
   refine oy (rv_mul rfl rfl rfl) rfl ?_
   refine oy (rv_move rfl rfl) rfl ?_
   refine oy (rv_add rfl rfl rfl) rfl ?_
   refine oy (rv_assign rfl rfl) rfl ?_
   refine ops_nil fun a hA => ?_
   refine cw_ret ?_
   cases hF
   exact fy Tryz.results152 hA rfl hS

set_option maxHeartbeats 4000000 in
set_option maxRecDepth 100000 in
theorem c_spec_PageOf {w0 : World} {slot : Int}  {r : Int}  (hF : spec_PageOf slot = some r) :
    Calls Tryz.prog 153 #[.int .i64 (slot)] w0 (Ret fun v w' => v = .int .i64 (r) ∧ St (cxAll w0) w' [] []) := by
 have hS : St (cxAll w0) w0 [] [] := St.enter (by
   intro f hf; cases hf)
 refine calls_cw (args := [_]) Tryz.func153 rfl Tryz.ntmps153 rfl ?_
 unfold spec_PageOf at hF
 intro a hA
 refine cw_seq ?_
 refine cw_ops hA ?_
 clear hA
 refine oy (rv_assign rfl rfl) rfl ?_
 refine ops_nil fun a hA => ?_
 refine cw_seq ?_
 refine cw_seq ?_
 refine cw_ops hA ?_
 clear hA
 refine oy (rv_move rfl rfl) rfl ?_
 obtain ⟨x1, hx1, hF⟩ := bindE hF
 refine ops_c (rc_call Tryz.call60 rfl rfl) (want_yes rfl) rfl rfl (c_spec_l1In (x := slot) (low := 0) (high := 23)  hx1) ?_
 rintro _ w ⟨rfl, hk⟩
 replace hS := hS.after hk; clear hk
 refine oy (rv_not rfl rfl) rfl ?_
 refine ops_nil fun a hA => ?_
 refine cw_cond hA rfl (fun hc1 => ?_) (fun hc1 => ?_)
 ·replace hF := iteT hc1 hF
  refine cw_seq ?_
  refine cw_ops hA ?_
  clear hA
  refine oy (rv_assign rfl rfl) rfl ?_
  refine ops_nil fun a hA => ?_
  refine cw_ret ?_
  cases hF
  exact fy Tryz.results153 hA rfl hS
 ·replace hF := iteF hc1 hF
  refine cw_skip ?_
  refine cw_seq ?_
  refine cw_ops hA ?_
  clear hA
  refine oy (rv_move rfl rfl) rfl ?_
  refine oy (rv_quo rfl rfl rfl (by decide)) rfl ?_
  refine oy (rv_assign rfl rfl) rfl ?_
  refine ops_nil fun a hA => ?_
  refine cw_ret ?_
  cases hF
  exact fy Tryz.results153 hA rfl hS

set_option maxHeartbeats 4000000 in
set_option maxRecDepth 100000 in
theorem c_spec_IndexOf {w0 : World} {slot : Int}  {r : Int}  (hF : spec_IndexOf slot = some r) :
    Calls Tryz.prog 154 #[.int .i64 (slot)] w0 (Ret fun v w' => v = .int .i64 (r) ∧ St (cxAll w0) w' [] []) := by
 have hS : St (cxAll w0) w0 [] [] := St.enter (by
   intro f hf; cases hf)
 refine calls_cw (args := [_]) Tryz.func154 rfl Tryz.ntmps154 rfl ?_
 unfold spec_IndexOf at hF
 intro a hA
 refine cw_seq ?_
 refine cw_ops hA ?_
 clear hA
 refine oy (rv_assign rfl rfl) rfl ?_
 refine ops_nil fun a hA => ?_
 refine cw_seq ?_
 refine cw_seq ?_
 refine cw_ops hA ?_
 clear hA
 refine oy (rv_move rfl rfl) rfl ?_
 obtain ⟨x1, hx1, hF⟩ := bindE hF
 refine ops_c (rc_call Tryz.call60 rfl rfl) (want_yes rfl) rfl rfl (c_spec_l1In (x := slot) (low := 0) (high := 23)  hx1) ?_
 rintro _ w ⟨rfl, hk⟩
 replace hS := hS.after hk; clear hk
 refine oy (rv_not rfl rfl) rfl ?_
 refine ops_nil fun a hA => ?_
 refine cw_cond hA rfl (fun hc1 => ?_) (fun hc1 => ?_)
 ·replace hF := iteT hc1 hF
  refine cw_seq ?_
  refine cw_ops hA ?_
  clear hA
  refine oy (rv_assign rfl rfl) rfl ?_
  refine ops_nil fun a hA => ?_
  refine cw_ret ?_
  cases hF
  exact fy Tryz.results154 hA rfl hS
 ·replace hF := iteF hc1 hF
  refine cw_skip ?_
  refine cw_seq ?_
  refine cw_ops hA ?_
  clear hA
  refine oy (rv_move rfl rfl) rfl ?_
  refine oy (rv_rem rfl rfl rfl (by decide)) rfl ?_
  refine oy (rv_assign rfl rfl) rfl ?_
  refine ops_nil fun a hA => ?_
  refine cw_ret ?_
  cases hF
  exact fy Tryz.results154 hA rfl hS

set_option maxHeartbeats 4000000 in
set_option maxRecDepth 100000 in
theorem c_spec_GenAt {w0 : World} {slot : Int} {c : Int}  {r : Int}  (hF : spec_GenAt slot c = some r) :
    Calls Tryz.prog 134 #[.int .i64 (slot), .int .i64 (c)] w0 (Ret fun v w' => v = .int .i64 (r) ∧ St (cxAll w0) w' [] []) := by
 have hS : St (cxAll w0) w0 [] [] := St.enter (by
   intro f hf; cases hf)
 refine calls_cw (args := [_, _]) Tryz.func134 rfl Tryz.ntmps134 rfl ?_
 unfold spec_GenAt at hF
 intro a hA
 refine cw_seq ?_
 refine cw_ops hA ?_
 clear hA
 refine oy (rv_assign rfl rfl) rfl ?_
 refine ops_nil fun a hA => ?_
 refine cw_seq ?_
 refine cw_seq ?_
 refine cw_cut (J := fun a' w' => ∃ (x1 : Bool), spec_GenAt_j1 slot c x1 = some r ∧ AEnv 27 [(0, .int .i64 (slot)), (1, .int .i64 (c)), (16, .bool (x1))] a' ∧ St (cxAll w0) w' [] []) ?_ ?_
 ·skip
  refine cw_ops hA ?_
  clear hA
  refine oy (rv_move rfl rfl) rfl ?_
  obtain ⟨x5, hx5, hF⟩ := bindE hF
  refine ops_c (rc_call Tryz.call153 rfl rfl) (want_yes rfl) rfl rfl (c_spec_PageOf (slot := slot)  hx5) ?_
  rintro _ w ⟨rfl, hk⟩
  replace hS := hS.after hk; clear hk
  refine oy (rv_lss rfl rfl rfl) rfl ?_
  refine oy (rv_move rfl rfl) rfl ?_
  refine ops_case (s := 8) rfl (fun hc2 => ?_) (fun hc2 => ?_)
  ·replace hF := iteT hc2 hF
   refine ops_off (want_if rfl rfl rfl (by rw [hc2]; rfl)) rfl rfl ?_
   refine ops_off (want_if rfl rfl rfl (by rw [hc2]; rfl)) rfl rfl ?_
   refine ops_off (want_if rfl rfl rfl (by rw [hc2]; rfl)) rfl rfl ?_
   refine ops_off (want_if rfl rfl rfl (by rw [hc2]; rfl)) rfl rfl ?_
   refine ops_off (want_if rfl rfl rfl (by rw [hc2]; rfl)) rfl rfl ?_
   refine ops_off (want_if rfl rfl rfl (by rw [hc2]; rfl)) rfl rfl ?_
   refine ops_off (want_if rfl rfl rfl (by rw [hc2]; rfl)) rfl rfl ?_
   refine oy (rv_pick_t rfl rfl hc2 rfl) rfl ?_
   refine ops_nil fun a hA => ?_
   exact ⟨true, hF, hA.part ⟨rfl, rfl, rfl, trivial⟩, ((hS).sel [] rfl).selR [] rfl⟩
  ·replace hF := iteF hc2 hF
   refine ops_v (rv_move rfl rfl) (want_if rfl rfl rfl (by rw [hc2]; rfl)) rfl rfl ?_
   obtain ⟨x6, hx6, hF⟩ := bindE hF
   refine ops_c (rc_call Tryz.call154 rfl rfl) (want_if rfl rfl rfl (by rw [hc2]; rfl)) rfl rfl (c_spec_IndexOf (slot := slot)  hx6) ?_
   rintro _ w ⟨rfl, hk⟩
   replace hS := hS.after hk; clear hk
   refine ops_v (rv_move rfl rfl) (want_if rfl rfl rfl (by rw [hc2]; rfl)) rfl rfl ?_
   obtain ⟨x7, hx7, hF⟩ := bindE hF
   refine ops_c (rc_call Tryz.call151 rfl rfl) (want_if rfl rfl rfl (by rw [hc2]; rfl)) rfl rfl (c_spec_PerPage (c := c)  hx7) ?_
   rintro _ w ⟨rfl, hk⟩
   replace hS := hS.after hk; clear hk
   refine ops_v (rv_sub rfl rfl rfl) (want_if rfl rfl rfl (by rw [hc2]; rfl)) rfl rfl ?_
   obtain ⟨x8, hx8, hF⟩ := bindE hF
   refine ops_c (rc_call Tryz.call60 rfl rfl) (want_if rfl rfl rfl (by rw [hc2]; rfl)) rfl rfl (c_spec_l1In (x := x6) (low := 0) (high := w64 (x7 - 1))  hx8) ?_
   rintro _ w ⟨rfl, hk⟩
   replace hS := hS.after hk; clear hk
   refine ops_v (rv_not rfl rfl) (want_if rfl rfl rfl (by rw [hc2]; rfl)) rfl rfl ?_
   refine oy (rv_pick_f rfl rfl hc2 rfl) rfl ?_
   refine ops_nil fun a hA => ?_
   exact ⟨!x8, hF, hA.part ⟨rfl, rfl, rfl, trivial⟩, ((hS).sel [] rfl).selR [] rfl⟩
 ·skip
  clear hA hS hF
  rintro a w ⟨x1, hF, hA, hS⟩
  unfold spec_GenAt_j1 at hF
  refine cw_cond hA rfl (fun hc1 => ?_) (fun hc1 => ?_)
  ·replace hF := iteT hc1 hF
   refine cw_seq ?_
   refine cw_ops hA ?_
   clear hA
   refine oy (rv_assign rfl rfl) rfl ?_
   refine ops_nil fun a hA => ?_
   refine cw_ret ?_
   cases hF
   exact fy Tryz.results134 hA rfl hS
  ·replace hF := iteF hc1 hF
   refine cw_skip ?_
   refine cw_seq ?_
   refine cw_ops hA ?_
   clear hA
   refine oy (rv_move rfl rfl) rfl ?_
   obtain ⟨x2, hx2, hF⟩ := bindE hF
   refine ops_c (rc_call Tryz.call153 rfl rfl) (want_yes rfl) rfl rfl (c_spec_PageOf (slot := slot)  hx2) ?_
   rintro _ w ⟨rfl, hk⟩
   replace hS := hS.after hk; clear hk
   refine oy (rv_mul rfl rfl rfl) rfl ?_
   refine oy (rv_add rfl rfl rfl) rfl ?_
   refine oy (rv_move rfl rfl) rfl ?_
   obtain ⟨x3, hx3, hF⟩ := bindE hF
   refine ops_c (rc_call Tryz.call154 rfl rfl) (want_yes rfl) rfl rfl (c_spec_IndexOf (slot := slot)  hx3) ?_
   rintro _ w ⟨rfl, hk⟩
   replace hS := hS.after hk; clear hk
   refine oy (rv_move rfl rfl) rfl ?_
   obtain ⟨x4, hx4, hF⟩ := bindE hF
   refine ops_c (rc_call Tryz.call155 rfl rfl) (want_yes rfl) rfl rfl (c_spec_StrideOf (c := c)  hx4) ?_
   rintro _ w ⟨rfl, hk⟩
   replace hS := hS.after hk; clear hk
   refine oy (rv_mul rfl rfl rfl) rfl ?_
   refine oy (rv_add rfl rfl rfl) rfl ?_
   refine oy (rv_assign rfl rfl) rfl ?_
   refine ops_nil fun a hA => ?_
   refine cw_ret ?_
   cases hF
   exact fy Tryz.results134 hA rfl hS

set_option maxHeartbeats 4000000 in
set_option maxRecDepth 100000 in
theorem c_spec_l3Load {w0 : World} {b : List Int} {at_ : Int} {width : Int} {s1 : Value} {r : Int} (h1 : Rep.rd (All w0) w0 [s1] (b : List Int)) (hF : spec_l3Load b at_ width = some r) :
    Calls Tryz.prog 133 #[s1, .int .i64 (at_), .int .i64 (width)] w0 (Ret fun v w' => v = .int .i64 (r) ∧ St (cxAll w0) w' [] []) := by
 have hS : St (cxAll w0) w0 [] [fRd [s1] (b : List Int)] := St.enter (by
   intro f hf
   simp only [List.mem_cons, List.not_mem_nil, or_false] at hf
   subst hf; exact h1)
 refine calls_cw (args := [_, _, _]) Tryz.func133 rfl Tryz.ntmps133 rfl ?_
 unfold spec_l3Load at hF
 intro a hA
 refine cw_seq ?_
 refine cw_ops hA ?_
 clear hA
 refine oy (rv_assign rfl rfl) rfl ?_
 refine ops_nil fun a hA => ?_
 refine cw_seq ?_
 refine cw_ops hA ?_
 clear hA
 refine oy (rv_assign rfl rfl) rfl ?_
 refine ops_nil fun a hA => ?_
 refine cw_seq ?_
 refine cw_seq ?_
 refine cw_ops hA ?_
 clear hA
 refine oy (rv_assign rfl rfl) rfl ?_
 refine ops_nil fun a hA => ?_
 obtain ⟨o1, hl1, hF⟩ := bindE hF
 refine cw_cut (J := fun a' w' => ∃ (x5 : Int), o1 = x5 ∧ AEnv 24 [(7, .int .i64 (x5))] a' ∧ St (cxAll w0) w' [] []) ?_ ?_
 ·refine cw_block ?_
  refine cw_loop (body := spec_l3Load_l1 b at_ width) (r := o1) (fun sg a' w' => AEnv 24 [(0, s1), (1, .int .i64 (at_)), (2, .int .i64 (width)), (7, .int .i64 (sg.1)), (8, .int .i64 (sg.2))] a' ∧ St (cxAll w0) w' [] [fRd [s1] (b : List Int)]) ?_ hl1 ⟨hA.part ⟨rfl, rfl, rfl, rfl, rfl, trivial⟩, ((hS).sel [] rfl).selR [0] rfl⟩
  clear hA hS hl1
  rintro ⟨x3, x4⟩ a w q1 ⟨hA, hS⟩ hG1 hr1
  try dsimp only at hA hS
  unfold spec_l3Load_l1 at hG1
  refine cw_seq ?_
  refine cw_seq ?_
  refine cw_ops hA ?_
  clear hA
  refine oy (rv_move rfl rfl) rfl ?_
  refine oy (rv_move rfl rfl) rfl ?_
  refine oy (rv_lss rfl rfl rfl) rfl ?_
  refine ops_nil fun a hA => ?_
  refine cw_cond hA rfl (fun hc1 => ?_) (fun hc1 => ?_)
  ·replace hG1 := iteT hc1 hG1
   refine cw_skip ?_
   refine cw_seq ?_
   refine cw_block ?_
   refine cw_ops hA ?_
   clear hA
   refine oy (rv_move rfl rfl) rfl ?_
   refine oy (rv_mul rfl rfl rfl) rfl ?_
   refine oy (rv_move rfl rfl) rfl ?_
   refine oy (rv_move rfl rfl) rfl ?_
   refine oy (rv_move rfl rfl) rfl ?_
   refine oy (rv_add rfl rfl rfl) rfl ?_
   obtain ⟨x6, hx6, hG1⟩ := bindE hG1
   refine oy (rv_idx (m := 1) (hS.rd 0 rfl) rfl hx6 Tryz.underlying22 Tryz.sizeOf3 rfl rfl rfl) rfl ?_
   refine oy (rv_load1 rfl rfl Tryz.isAgg3 (cell1 (el_Int (hS.rd 0 rfl) (idx_some hx6).2.2))) rfl ?_
   refine oy (rv_add rfl rfl rfl) rfl ?_
   refine oy (rv_assign rfl rfl) rfl ?_
   refine ops_nil fun a hA => ?_
   refine cw_ops hA ?_
   clear hA
   refine oy (rv_move rfl rfl) rfl ?_
   refine oy (rv_add rfl rfl rfl) rfl ?_
   refine oy (rv_assign rfl rfl) rfl ?_
   refine ops_nil fun a hA => ?_
   cases hG1
   exact ⟨_, rfl, ⟨hA.part ⟨rfl, rfl, rfl, rfl, rfl, trivial⟩, ((hS).sel [] rfl).selR [0] rfl⟩⟩
  ·replace hG1 := iteF hc1 hG1
   refine cw_exit ?_
   refine xcons_hit ?_
   cases hG1
   have ho := hr1 _ rfl; subst ho
   exact ⟨x3, rfl, hA.part ⟨rfl, trivial⟩, ((hS).sel [] rfl).selR [] rfl⟩
 ·skip
  clear hA hS hl1
  rintro a w ⟨x5, heq, hA, hS⟩
  replace hF : spec_l3Load_j1 x5 = some r := by rw [heq] at hF; exact hF
  clear heq
  unfold spec_l3Load_j1 at hF
  refine cw_seq ?_
  refine cw_ops hA ?_
  clear hA
  refine oy (rv_move rfl rfl) rfl ?_
  refine oy (rv_assign rfl rfl) rfl ?_
  refine ops_nil fun a hA => ?_
  refine cw_ret ?_
  cases hF
  exact fy Tryz.results133 hA rfl hS

set_option maxHeartbeats 4000000 in
set_option maxRecDepth 100000 in
theorem c_spec_l7Page {w0 : World} {h : Heap} {p : Int} {s1 : Value} {s2 : Value} {r : Bool} (h1 : Rep.rd (All w0) w0 [s1] (h.Bytes : List Int)) (h2 : Rep.rd (All w0) w0 [s2] (h.Class : List Int)) (hF : spec_l7Page h p = some r) :
    Calls Tryz.prog 129 #[.agg #[s1, s2], .int .i64 (p)] w0 (Ret fun v w' => v = .bool (r) ∧ St (cxAll w0) w' [] []) := by
 have hS : St (cxAll w0) w0 [] [fRd [s1] (h.Bytes : List Int), fRd [s2] (h.Class : List Int)] := St.enter (by
   intro f hf
   simp only [List.mem_cons, List.not_mem_nil, or_false] at hf
   rcases hf with rfl | rfl
   · exact h1
   · exact h2)
 refine calls_cw (args := [_, _]) Tryz.func129 rfl Tryz.ntmps129 rfl ?_
 unfold spec_l7Page at hF
 intro a hA
 refine cw_seq ?_
 refine cw_ops hA ?_
 clear hA
 refine ops_mv (rv_box (cs := [s1, s2]) hS rfl rfl rfl) (want_yes rfl) rfl rfl ?_
 clear hS
 rintro _ w ⟨b1, rfl, hS⟩
 refine oy (rv_assign rfl rfl) rfl ?_
 refine ops_nil fun a hA => ?_
 refine cw_seq ?_
 refine cw_ops hA ?_
 clear hA
 refine oy (rv_move rfl rfl) rfl ?_
 refine oy (rv_mul rfl rfl rfl) rfl ?_
 refine oy (rv_assign rfl rfl) rfl ?_
 refine ops_nil fun a hA => ?_
 refine cw_seq ?_
 refine cw_ops hA ?_
 clear hA
 refine oy (rv_fld (m := 0) Tryz.underlying38 rfl rfl Tryz.sizeOf22 rfl rfl) rfl ?_
 refine oy (rv_load1 rfl rfl Tryz.isAgg22 (hS.cell 0 rfl rfl)) rfl ?_
 refine oy (rv_move rfl rfl) rfl ?_
 obtain ⟨x1, hx1, hF⟩ := bindE hF
 refine oy (rv_idx (m := 1) (hS.rd 1 rfl) rfl hx1 Tryz.underlying22 Tryz.sizeOf3 rfl rfl rfl) rfl ?_
 refine oy (rv_load1 rfl rfl Tryz.isAgg3 (cell1 (el_Int (hS.rd 1 rfl) (idx_some hx1).2.2))) rfl ?_
 refine oy (rv_assign rfl rfl) rfl ?_
 refine ops_nil fun a hA => ?_
 refine cw_seq ?_
 refine cw_seq ?_
 refine cw_ops hA ?_
 clear hA
 refine oy (rv_move rfl rfl) rfl ?_
 refine oy (rv_lss rfl rfl rfl) rfl ?_
 refine ops_nil fun a hA => ?_
 refine cw_cond hA rfl (fun hc1 => ?_) (fun hc1 => ?_)
 ·replace hF := iteT hc1 hF
  refine cw_seq ?_
  refine cw_seq ?_
  refine cw_ops hA ?_
  clear hA
  refine oy (rv_move rfl rfl) rfl ?_
  refine oy (rv_assign rfl rfl) rfl ?_
  refine ops_nil fun a hA => ?_
  obtain ⟨o1, hl1, hF⟩ := bindE hF
  refine cw_cut (J := fun a' w' => o1 = Out.brk (()) ∧ AEnv 89 [] a' ∧ St (cxAll w0) w' [] []) ?_ ?_
  ·refine cw_block ?_
   refine cw_loop (body := spec_l7Page_l1 h p) (r := o1) (fun sg a' w' => AEnv 89 [(2, .pointer (some ⟨b1, 0, none⟩)), (5, .int .i64 (w64 (p * 64))), (7, .int .i64 (sg))] a' ∧ St (cxAll w0) w' [cBox b1 [s1, s2]] [fRd [s1] (h.Bytes : List Int), fRd [s2] (h.Class : List Int)]) ?_ hl1 ⟨hA.part ⟨rfl, rfl, rfl, trivial⟩, ((hS).sel [0] rfl).selR [0, 1] rfl⟩
   clear hA hS hl1
   rintro x3 a w q1 ⟨hA, hS⟩ hG1 hr1
   try dsimp only at hA hS
   unfold spec_l7Page_l1 at hG1
   refine cw_seq ?_
   refine cw_seq ?_
   refine cw_ops hA ?_
   clear hA
   refine oy (rv_move rfl rfl) rfl ?_
   refine oy (rv_move rfl rfl) rfl ?_
   refine oy (rv_add rfl rfl rfl) rfl ?_
   refine oy (rv_lss rfl rfl rfl) rfl ?_
   refine ops_nil fun a hA => ?_
   refine cw_cond hA rfl (fun hc2 => ?_) (fun hc2 => ?_)
   ·replace hG1 := iteT hc2 hG1
    refine cw_skip ?_
    refine cw_seq ?_
    refine cw_block ?_
    refine cw_seq ?_
    refine cw_ops hA ?_
    clear hA
    refine oy (rv_fld (m := 0) Tryz.underlying38 rfl rfl Tryz.sizeOf22 rfl rfl) rfl ?_
    refine oy (rv_load1 rfl rfl Tryz.isAgg22 (hS.cell 0 rfl rfl)) rfl ?_
    refine oy (rv_move rfl rfl) rfl ?_
    obtain ⟨x4, hx4, hG1⟩ := bindE hG1
    refine oy (rv_idx (m := 1) (hS.rd 0 rfl) rfl hx4 Tryz.underlying22 Tryz.sizeOf3 rfl rfl rfl) rfl ?_
    refine oy (rv_load1 rfl rfl Tryz.isAgg3 (cell1 (el_Int (hS.rd 0 rfl) (idx_some hx4).2.2))) rfl ?_
    refine oy (rv_neq rfl rfl rfl) rfl ?_
    refine ops_nil fun a hA => ?_
    refine cw_cond hA rfl (fun hc3 => ?_) (fun hc3 => ?_)
    ·replace hG1 := iteT hc3 hG1
     refine cw_seq ?_
     refine cw_ops hA ?_
     clear hA
     refine oy (rv_assign rfl rfl) rfl ?_
     refine ops_nil fun a hA => ?_
     refine cw_ret ?_
     cases hG1
     have ho := hr1 _ rfl; subst ho
     replace hF : some false = some r := hF
     cases hF
     exact fy Tryz.results129 hA rfl hS
    ·replace hG1 := iteF hc3 hG1
     refine cw_skip ?_
     refine cw_ops hA ?_
     clear hA
     refine oy (rv_move rfl rfl) rfl ?_
     refine oy (rv_add rfl rfl rfl) rfl ?_
     refine oy (rv_assign rfl rfl) rfl ?_
     refine ops_nil fun a hA => ?_
     cases hG1
     exact ⟨_, rfl, ⟨hA.part ⟨rfl, rfl, rfl, trivial⟩, ((hS).sel [0] rfl).selR [0, 1] rfl⟩⟩
   ·replace hG1 := iteF hc2 hG1
    refine cw_exit ?_
    refine xcons_hit ?_
    cases hG1
    have ho := hr1 _ rfl; subst ho
    exact ⟨rfl, hA.part trivial, ((hS).sel [] rfl).selR [] rfl⟩
  ·skip
   clear hA hS hl1
   rintro a w ⟨heq, hA, hS⟩
   replace hF : spec_l7Page_j1 = some r := by rw [heq] at hF; exact hF
   clear heq
   unfold spec_l7Page_j1 at hF
   refine cw_seq ?_
   refine cw_ops hA ?_
   clear hA
   refine oy (rv_assign rfl rfl) rfl ?_
   refine ops_nil fun a hA => ?_
   refine cw_ret ?_
   cases hF
   exact fy Tryz.results129 hA rfl hS
 ·replace hF := iteF hc1 hF
  refine cw_skip ?_
  refine cw_seq ?_
  refine cw_seq ?_
  refine cw_cut (J := fun a' w' => ∃ (x5 : Bool), spec_l7Page_j2 h p x1 x5 = some r ∧ AEnv 89 [(1, .int .i64 (p)), (2, .pointer (some ⟨b1, 0, none⟩)), (5, .int .i64 (w64 (p * 64))), (6, .int .i64 (x1)), (58, .bool (x5))] a' ∧ St (cxAll w0) w' [cBox b1 [s1, s2]] [fRd [s1] (h.Bytes : List Int), fRd [s2] (h.Class : List Int)]) ?_ ?_
  ·skip
   refine cw_any (Keeps (cxAll w0) [cBox b1 [s1, s2]] [fRd [s1] (h.Bytes : List Int), fRd [s2] (h.Class : List Int)]) mixed_Tryz hA hS ?_
   clear hA hS; intro w hS
   have hK : Keeps (cxAll w0) [cBox b1 [s1, s2]] [fRd [s1] (h.Bytes : List Int), fRd [s2] (h.Class : List Int)] w := ⟨_, (hS.sel [0] rfl).selR [0, 1] rfl⟩
   refine ey 0 rfl (by kernel_rfl) hK (fun _ _ _ => (rv_fld (m := 0) Tryz.underlying38 rfl rfl Tryz.sizeOf22 rfl rfl)) rfl ?_
   refine ey 1 rfl (by kernel_rfl) hK (fun _ _ hS => (rv_load1 rfl rfl Tryz.isAgg22 (hS.cell 0 rfl rfl))) rfl ?_
   refine ey 2 rfl (by kernel_rfl) hK (fun _ _ _ => (rv_move rfl rfl)) rfl ?_
   obtain ⟨x16, hx16, hF⟩ := bindE hF
   refine ey 3 rfl (by kernel_rfl) hK (fun _ _ hS => (rv_idx (m := 1) (hS.rd 0 rfl) rfl hx16 Tryz.underlying22 Tryz.sizeOf3 rfl rfl rfl)) rfl ?_
   refine ey 4 rfl (by kernel_rfl) hK (fun _ _ hS => (rv_load1 rfl rfl Tryz.isAgg3 (cell1 (el_Int (hS.rd 0 rfl) (idx_some hx16).2.2)))) rfl ?_
   refine ey 5 rfl (by kernel_rfl) hK (fun _ _ _ => (rv_neq rfl rfl rfl)) rfl ?_
   refine ey 6 rfl (by kernel_rfl) hK (fun _ _ _ => (rv_move rfl rfl)) rfl ?_
   refine any_case (s := 38) rfl (fun hc9 => ?_) (fun hc9 => ?_)
   ·replace hF := iteT hc9 hF
    refine any_off 7 (by kernel_rfl) rfl (by kernel_rfl) (by kernel_rfl) hK (want_if rfl rfl rfl (by rw [hc9]; rfl)) rfl rfl ?_
    refine any_off 8 (by kernel_rfl) rfl (by kernel_rfl) (by kernel_rfl) hK (want_if rfl rfl rfl (by rw [hc9]; rfl)) rfl rfl ?_
    refine any_off 9 (by kernel_rfl) rfl (by kernel_rfl) (by kernel_rfl) hK (want_if rfl rfl rfl (by rw [hc9]; rfl)) rfl rfl ?_
    refine any_off 10 (by kernel_rfl) rfl (by kernel_rfl) (by kernel_rfl) hK (want_if rfl rfl rfl (by rw [hc9]; rfl)) rfl rfl ?_
    refine any_off 11 (by kernel_rfl) rfl (by kernel_rfl) (by kernel_rfl) hK (want_if rfl rfl rfl (by rw [hc9]; rfl)) rfl rfl ?_
    refine any_off 12 (by kernel_rfl) rfl (by kernel_rfl) (by kernel_rfl) hK (want_if rfl rfl rfl (by rw [hc9]; rfl)) rfl rfl ?_
    refine any_off 13 (by kernel_rfl) rfl (by kernel_rfl) (by kernel_rfl) hK (want_if rfl rfl rfl (by rw [hc9]; rfl)) rfl rfl ?_
    refine any_off 14 (by kernel_rfl) rfl (by kernel_rfl) (by kernel_rfl) hK (want_if rfl rfl rfl (by rw [hc9]; rfl)) rfl rfl ?_
    refine ey 15 rfl (by kernel_rfl) hK (fun _ _ _ => (rv_pick_t rfl rfl hc9 rfl)) rfl ?_
    refine ey 16 rfl (by kernel_rfl) hK (fun _ _ _ => (rv_move rfl rfl)) rfl ?_
    refine any_off 17 (by kernel_rfl) rfl (by kernel_rfl) (by kernel_rfl) hK (want_if rfl rfl rfl rfl) rfl rfl ?_
    refine any_off 18 (by kernel_rfl) rfl (by kernel_rfl) (by kernel_rfl) hK (want_if rfl rfl rfl rfl) rfl rfl ?_
    refine any_off 19 (by kernel_rfl) rfl (by kernel_rfl) (by kernel_rfl) hK (want_if rfl rfl rfl rfl) rfl rfl ?_
    refine any_off 20 (by kernel_rfl) rfl (by kernel_rfl) (by kernel_rfl) hK (want_if rfl rfl rfl rfl) rfl rfl ?_
    refine any_off 21 (by kernel_rfl) rfl (by kernel_rfl) (by kernel_rfl) hK (want_if rfl rfl rfl rfl) rfl rfl ?_
    refine any_off 22 (by kernel_rfl) rfl (by kernel_rfl) (by kernel_rfl) hK (want_if rfl rfl rfl rfl) rfl rfl ?_
    refine any_off 23 (by kernel_rfl) rfl (by kernel_rfl) (by kernel_rfl) hK (want_if rfl rfl rfl rfl) rfl rfl ?_
    refine any_off 24 (by kernel_rfl) rfl (by kernel_rfl) (by kernel_rfl) hK (want_if rfl rfl rfl rfl) rfl rfl ?_
    refine any_off 25 (by kernel_rfl) rfl (by kernel_rfl) (by kernel_rfl) hK (want_if rfl rfl rfl rfl) rfl rfl ?_
    refine ey 26 rfl (by kernel_rfl) hK (fun _ _ _ => (rv_pick_t rfl rfl rfl rfl)) rfl ?_
    refine any_done (by kernel_rfl) ?_
    intro a hA
    exact ⟨true, hF, hA.part ⟨rfl, rfl, rfl, rfl, rfl, trivial⟩, ((hS).sel [0] rfl).selR [0, 1] rfl⟩
   ·replace hF := iteF hc9 hF
    refine any_v 7 (by kernel_rfl) rfl (by kernel_rfl) (by kernel_rfl) hK (fun _ _ => (rv_fld (m := 0) Tryz.underlying38 rfl rfl Tryz.sizeOf22 rfl rfl)) (want_if rfl rfl rfl (by rw [hc9]; rfl)) rfl rfl ?_
    refine any_v 8 (by kernel_rfl) rfl (by kernel_rfl) (by kernel_rfl) hK (fun w hk => by obtain ⟨_, hS⟩ := hk; exact (rv_load1 rfl rfl Tryz.isAgg22 (hS.cell 0 rfl rfl))) (want_if rfl rfl rfl (by rw [hc9]; rfl)) rfl rfl ?_
    refine any_v 9 (by kernel_rfl) rfl (by kernel_rfl) (by kernel_rfl) hK (fun _ _ => (rv_move rfl rfl)) (want_if rfl rfl rfl (by rw [hc9]; rfl)) rfl rfl ?_
    refine any_v 10 (by kernel_rfl) rfl (by kernel_rfl) (by kernel_rfl) hK (fun _ _ => (rv_add rfl rfl rfl)) (want_if rfl rfl rfl (by rw [hc9]; rfl)) rfl rfl ?_
    obtain ⟨x17, hx17, hF⟩ := bindE hF
    refine any_v 11 (by kernel_rfl) rfl (by kernel_rfl) (by kernel_rfl) hK (fun w hk => by obtain ⟨_, hS⟩ := hk; exact (rv_idx (m := 1) (hS.rd 0 rfl) rfl hx17 Tryz.underlying22 Tryz.sizeOf3 rfl rfl rfl)) (want_if rfl rfl rfl (by rw [hc9]; rfl)) rfl rfl ?_
    refine any_v 12 (by kernel_rfl) rfl (by kernel_rfl) (by kernel_rfl) hK (fun w hk => by obtain ⟨_, hS⟩ := hk; exact (rv_load1 rfl rfl Tryz.isAgg3 (cell1 (el_Int (hS.rd 0 rfl) (idx_some hx17).2.2)))) (want_if rfl rfl rfl (by rw [hc9]; rfl)) rfl rfl ?_
    refine any_v 13 (by kernel_rfl) rfl (by kernel_rfl) (by kernel_rfl) hK (fun _ _ => (rv_move rfl rfl)) (want_if rfl rfl rfl (by rw [hc9]; rfl)) rfl rfl ?_
    refine any_v 14 (by kernel_rfl) rfl (by kernel_rfl) (by kernel_rfl) hK (fun _ _ => (rv_neq rfl rfl rfl)) (want_if rfl rfl rfl (by rw [hc9]; rfl)) rfl rfl ?_
    refine ey 15 rfl (by kernel_rfl) hK (fun _ _ _ => (rv_pick_f rfl rfl hc9 rfl)) rfl ?_
    refine ey 16 rfl (by kernel_rfl) hK (fun _ _ _ => (rv_move rfl rfl)) rfl ?_
    refine any_case (s := 48) rfl (fun hc10 => ?_) (fun hc10 => ?_)
    ·replace hF := iteT hc10 hF
     refine any_off 17 (by kernel_rfl) rfl (by kernel_rfl) (by kernel_rfl) hK (want_if rfl rfl rfl (by rw [hc10]; rfl)) rfl rfl ?_
     refine any_off 18 (by kernel_rfl) rfl (by kernel_rfl) (by kernel_rfl) hK (want_if rfl rfl rfl (by rw [hc10]; rfl)) rfl rfl ?_
     refine any_off 19 (by kernel_rfl) rfl (by kernel_rfl) (by kernel_rfl) hK (want_if rfl rfl rfl (by rw [hc10]; rfl)) rfl rfl ?_
     refine any_off 20 (by kernel_rfl) rfl (by kernel_rfl) (by kernel_rfl) hK (want_if rfl rfl rfl (by rw [hc10]; rfl)) rfl rfl ?_
     refine any_off 21 (by kernel_rfl) rfl (by kernel_rfl) (by kernel_rfl) hK (want_if rfl rfl rfl (by rw [hc10]; rfl)) rfl rfl ?_
     refine any_off 22 (by kernel_rfl) rfl (by kernel_rfl) (by kernel_rfl) hK (want_if rfl rfl rfl (by rw [hc10]; rfl)) rfl rfl ?_
     refine any_off 23 (by kernel_rfl) rfl (by kernel_rfl) (by kernel_rfl) hK (want_if rfl rfl rfl (by rw [hc10]; rfl)) rfl rfl ?_
     refine any_off 24 (by kernel_rfl) rfl (by kernel_rfl) (by kernel_rfl) hK (want_if rfl rfl rfl (by rw [hc10]; rfl)) rfl rfl ?_
     refine any_off 25 (by kernel_rfl) rfl (by kernel_rfl) (by kernel_rfl) hK (want_if rfl rfl rfl (by rw [hc10]; rfl)) rfl rfl ?_
     refine ey 26 rfl (by kernel_rfl) hK (fun _ _ _ => (rv_pick_t rfl rfl hc10 rfl)) rfl ?_
     refine any_done (by kernel_rfl) ?_
     intro a hA
     exact ⟨true, hF, hA.part ⟨rfl, rfl, rfl, rfl, rfl, trivial⟩, ((hS).sel [0] rfl).selR [0, 1] rfl⟩
    ·replace hF := iteF hc10 hF
     refine any_v 17 (by kernel_rfl) rfl (by kernel_rfl) (by kernel_rfl) hK (fun _ _ => (rv_fld (m := 0) Tryz.underlying38 rfl rfl Tryz.sizeOf22 rfl rfl)) (want_if rfl rfl rfl (by rw [hc10]; rfl)) rfl rfl ?_
     refine any_v 18 (by kernel_rfl) rfl (by kernel_rfl) (by kernel_rfl) hK (fun w hk => by obtain ⟨_, hS⟩ := hk; exact (rv_load1 rfl rfl Tryz.isAgg22 (hS.cell 0 rfl rfl))) (want_if rfl rfl rfl (by rw [hc10]; rfl)) rfl rfl ?_
     refine any_v 19 (by kernel_rfl) rfl (by kernel_rfl) (by kernel_rfl) hK (fun _ _ => (rv_move rfl rfl)) (want_if rfl rfl rfl (by rw [hc10]; rfl)) rfl rfl ?_
     refine any_v 20 (by kernel_rfl) rfl (by kernel_rfl) (by kernel_rfl) hK (fun _ _ => (rv_add rfl rfl rfl)) (want_if rfl rfl rfl (by rw [hc10]; rfl)) rfl rfl ?_
     obtain ⟨x18, hx18, hF⟩ := bindE hF
     refine any_v 21 (by kernel_rfl) rfl (by kernel_rfl) (by kernel_rfl) hK (fun w hk => by obtain ⟨_, hS⟩ := hk; exact (rv_idx (m := 1) (hS.rd 0 rfl) rfl hx18 Tryz.underlying22 Tryz.sizeOf3 rfl rfl rfl)) (want_if rfl rfl rfl (by rw [hc10]; rfl)) rfl rfl ?_
     refine any_v 22 (by kernel_rfl) rfl (by kernel_rfl) (by kernel_rfl) hK (fun w hk => by obtain ⟨_, hS⟩ := hk; exact (rv_load1 rfl rfl Tryz.isAgg3 (cell1 (el_Int (hS.rd 0 rfl) (idx_some hx18).2.2)))) (want_if rfl rfl rfl (by rw [hc10]; rfl)) rfl rfl ?_
     refine any_v 23 (by kernel_rfl) rfl (by kernel_rfl) (by kernel_rfl) hK (fun _ _ => (rv_move rfl rfl)) (want_if rfl rfl rfl (by rw [hc10]; rfl)) rfl rfl ?_
     refine any_1 (i := 24) (by kernel_rfl) ?_
     obtain ⟨x19, hx19, hF⟩ := bindE hF
     refine as_c rfl (rc_call Tryz.call151 rfl rfl) (want_if rfl rfl rfl (by rw [hc10]; rfl)) rfl rfl (c_spec_PerPage (c := x1)  hx19) ?_
     clear hK; rintro _ w ⟨rfl, hk⟩
     replace hS := hS.after hk; clear hk
     have hK := keepsI ((hS.sel [0] rfl).selR [0, 1] rfl)
     refine ⟨hK, ?_⟩
     refine any_v 25 (by kernel_rfl) rfl (by kernel_rfl) (by kernel_rfl) hK (fun _ _ => (rv_neq rfl rfl rfl)) (want_if rfl rfl rfl (by rw [hc10]; rfl)) rfl rfl ?_
     refine ey 26 rfl (by kernel_rfl) hK (fun _ _ _ => (rv_pick_f rfl rfl hc10 rfl)) rfl ?_
     refine any_done (by kernel_rfl) ?_
     intro a hA
     exact ⟨x18 != x19, hF, hA.part ⟨rfl, rfl, rfl, rfl, rfl, trivial⟩, ((hS).sel [0] rfl).selR [0, 1] rfl⟩
  ·skip
   clear hA hS hF
   rintro a w ⟨x5, hF, hA, hS⟩
   unfold spec_l7Page_j2 at hF
   refine cw_cond hA rfl (fun hc4 => ?_) (fun hc4 => ?_)
   ·replace hF := iteT hc4 hF
    refine cw_seq ?_
    refine cw_ops hA ?_
    clear hA
    refine oy (rv_assign rfl rfl) rfl ?_
    refine ops_nil fun a hA => ?_
    refine cw_ret ?_
    cases hF
    exact fy Tryz.results129 hA rfl hS
   ·replace hF := iteF hc4 hF
    refine cw_skip ?_
    refine cw_seq ?_
    refine cw_seq ?_
    refine cw_ops hA ?_
    clear hA
    refine oy (rv_move rfl rfl) rfl ?_
    refine oy (rv_add rfl rfl rfl) rfl ?_
    refine oy (rv_assign rfl rfl) rfl ?_
    refine ops_nil fun a hA => ?_
    obtain ⟨o2, hl2, hF⟩ := bindE hF
    refine cw_cut (J := fun a' w' => o2 = Out.brk (()) ∧ AEnv 89 [(1, .int .i64 (p)), (2, .pointer (some ⟨b1, 0, none⟩)), (6, .int .i64 (x1))] a' ∧ St (cxAll w0) w' [cBox b1 [s1, s2]] [fRd [s1] (h.Bytes : List Int), fRd [s2] (h.Class : List Int)]) ?_ ?_
    ·refine cw_block ?_
     refine cw_loop (body := spec_l7Page_l3 h p) (r := o2) (fun sg a' w' => AEnv 89 [(1, .int .i64 (p)), (2, .pointer (some ⟨b1, 0, none⟩)), (5, .int .i64 (w64 (p * 64))), (6, .int .i64 (x1)), (8, .int .i64 (sg))] a' ∧ St (cxAll w0) w' [cBox b1 [s1, s2]] [fRd [s1] (h.Bytes : List Int), fRd [s2] (h.Class : List Int)]) ?_ hl2 ⟨hA.part ⟨rfl, rfl, rfl, rfl, rfl, trivial⟩, ((hS).sel [0] rfl).selR [0, 1] rfl⟩
     clear hA hS hl2
     rintro x7 a w q3 ⟨hA, hS⟩ hG3 hr3
     try dsimp only at hA hS
     unfold spec_l7Page_l3 at hG3
     refine cw_seq ?_
     refine cw_seq ?_
     refine cw_ops hA ?_
     clear hA
     refine oy (rv_move rfl rfl) rfl ?_
     refine oy (rv_move rfl rfl) rfl ?_
     refine oy (rv_add rfl rfl rfl) rfl ?_
     refine oy (rv_lss rfl rfl rfl) rfl ?_
     refine ops_nil fun a hA => ?_
     refine cw_cond hA rfl (fun hc7 => ?_) (fun hc7 => ?_)
     ·replace hG3 := iteT hc7 hG3
      refine cw_skip ?_
      refine cw_seq ?_
      refine cw_block ?_
      refine cw_seq ?_
      refine cw_ops hA ?_
      clear hA
      refine oy (rv_fld (m := 0) Tryz.underlying38 rfl rfl Tryz.sizeOf22 rfl rfl) rfl ?_
      refine oy (rv_load1 rfl rfl Tryz.isAgg22 (hS.cell 0 rfl rfl)) rfl ?_
      refine oy (rv_move rfl rfl) rfl ?_
      obtain ⟨x15, hx15, hG3⟩ := bindE hG3
      refine oy (rv_idx (m := 1) (hS.rd 0 rfl) rfl hx15 Tryz.underlying22 Tryz.sizeOf3 rfl rfl rfl) rfl ?_
      refine oy (rv_load1 rfl rfl Tryz.isAgg3 (cell1 (el_Int (hS.rd 0 rfl) (idx_some hx15).2.2))) rfl ?_
      refine oy (rv_neq rfl rfl rfl) rfl ?_
      refine ops_nil fun a hA => ?_
      refine cw_cond hA rfl (fun hc8 => ?_) (fun hc8 => ?_)
      ·replace hG3 := iteT hc8 hG3
       refine cw_seq ?_
       refine cw_ops hA ?_
       clear hA
       refine oy (rv_assign rfl rfl) rfl ?_
       refine ops_nil fun a hA => ?_
       refine cw_ret ?_
       cases hG3
       have ho := hr3 _ rfl; subst ho
       replace hF : some false = some r := hF
       cases hF
       exact fy Tryz.results129 hA rfl hS
      ·replace hG3 := iteF hc8 hG3
       refine cw_skip ?_
       refine cw_ops hA ?_
       clear hA
       refine oy (rv_move rfl rfl) rfl ?_
       refine oy (rv_add rfl rfl rfl) rfl ?_
       refine oy (rv_assign rfl rfl) rfl ?_
       refine ops_nil fun a hA => ?_
       cases hG3
       exact ⟨_, rfl, ⟨hA.part ⟨rfl, rfl, rfl, rfl, rfl, trivial⟩, ((hS).sel [0] rfl).selR [0, 1] rfl⟩⟩
     ·replace hG3 := iteF hc7 hG3
      refine cw_exit ?_
      refine xcons_hit ?_
      cases hG3
      have ho := hr3 _ rfl; subst ho
      exact ⟨rfl, hA.part ⟨rfl, rfl, rfl, trivial⟩, ((hS).sel [0] rfl).selR [0, 1] rfl⟩
    ·skip
     clear hA hS hl2
     rintro a w ⟨heq, hA, hS⟩
     replace hF : spec_l7Page_j3 h p x1 = some r := by rw [heq] at hF; exact hF
     clear heq
     unfold spec_l7Page_j3 at hF
     refine cw_seq ?_
     refine cw_seq ?_
     refine cw_ops hA ?_
     clear hA
     refine oy (rv_assign rfl rfl) rfl ?_
     refine ops_nil fun a hA => ?_
     obtain ⟨o3, hl3, hF⟩ := bindE hF
     refine cw_cut (J := fun a' w' => o3 = Out.brk (()) ∧ AEnv 89 [] a' ∧ St (cxAll w0) w' [] []) ?_ ?_
     ·refine cw_block ?_
      refine cw_loop (body := spec_l7Page_l4 h p x1) (r := o3) (fun sg a' w' => AEnv 89 [(1, .int .i64 (p)), (2, .pointer (some ⟨b1, 0, none⟩)), (6, .int .i64 (x1)), (9, .int .i64 (sg))] a' ∧ St (cxAll w0) w' [cBox b1 [s1, s2]] [fRd [s1] (h.Bytes : List Int), fRd [s2] (h.Class : List Int)]) ?_ hl3 ⟨hA.part ⟨rfl, rfl, rfl, rfl, trivial⟩, ((hS).sel [0] rfl).selR [0, 1] rfl⟩
      clear hA hS hl3
      rintro x9 a w q4 ⟨hA, hS⟩ hG4 hr4
      try dsimp only at hA hS
      unfold spec_l7Page_l4 at hG4
      refine cw_seq ?_
      refine cw_seq ?_
      refine cw_ops hA ?_
      clear hA
      refine oy (rv_move rfl rfl) rfl ?_
      refine oy (rv_move rfl rfl) rfl ?_
      obtain ⟨x10, hx10, hG4⟩ := bindE hG4
      refine ops_c (rc_call Tryz.call151 rfl rfl) (want_yes rfl) rfl rfl (c_spec_PerPage (c := x1)  hx10) ?_
      rintro _ w ⟨rfl, hk⟩
      replace hS := hS.after hk; clear hk
      refine oy (rv_lss rfl rfl rfl) rfl ?_
      refine ops_nil fun a hA => ?_
      refine cw_cond hA rfl (fun hc5 => ?_) (fun hc5 => ?_)
      ·replace hG4 := iteT hc5 hG4
       refine cw_skip ?_
       refine cw_seq ?_
       refine cw_block ?_
       refine cw_seq ?_
       refine cw_any (Keeps (cxAll w0) [cBox b1 [s1, s2]] [fRd [s1] (h.Bytes : List Int), fRd [s2] (h.Class : List Int)]) mixed_Tryz hA hS ?_
       clear hA hS; intro w hS
       have hK : Keeps (cxAll w0) [cBox b1 [s1, s2]] [fRd [s1] (h.Bytes : List Int), fRd [s2] (h.Class : List Int)] w := ⟨_, (hS.sel [0] rfl).selR [0, 1] rfl⟩
       refine ey 0 rfl (by kernel_rfl) hK (fun _ _ _ => (rv_fld (m := 0) Tryz.underlying38 rfl rfl Tryz.sizeOf22 rfl rfl)) rfl ?_
       refine ey 1 rfl (by kernel_rfl) hK (fun _ _ hS => (rv_load1 rfl rfl Tryz.isAgg22 (hS.cell 0 rfl rfl))) rfl ?_
       refine ey 2 rfl (by kernel_rfl) hK (fun _ _ _ => (rv_move rfl rfl)) rfl ?_
       refine ey 3 rfl (by kernel_rfl) hK (fun _ _ _ => (rv_move rfl rfl)) rfl ?_
       refine ey 5 rfl (by kernel_rfl) hK (fun _ _ _ => (rv_move rfl rfl)) rfl ?_
       refine any_1 (i := 4) (by kernel_rfl) ?_
       obtain ⟨x11, hx11, hG4⟩ := bindE hG4
       refine as_c rfl (rc_call Tryz.call152 rfl rfl) (want_yes rfl) rfl rfl (c_spec_SlotAt (page := p) (index := x9)  hx11) ?_
       clear hK; rintro _ w ⟨rfl, hk⟩
       replace hS := hS.after hk; clear hk
       have hK := keepsI ((hS.sel [0] rfl).selR [0, 1] rfl)
       refine ⟨hK, ?_⟩
       refine any_1 (i := 6) (by kernel_rfl) ?_
       obtain ⟨x12, hx12, hG4⟩ := bindE hG4
       refine as_c rfl (rc_call Tryz.call134 rfl rfl) (want_yes rfl) rfl rfl (c_spec_GenAt (slot := x11) (c := x1)  hx12) ?_
       clear hK; rintro _ w ⟨rfl, hk⟩
       replace hS := hS.after hk; clear hk
       have hK := keepsI ((hS.sel [0] rfl).selR [0, 1] rfl)
       refine ⟨hK, ?_⟩
       refine any_1 (i := 7) (by kernel_rfl) ?_
       obtain ⟨x13, hx13, hG4⟩ := bindE hG4
       refine as_c rfl (rc_call Tryz.call133 rfl rfl) (want_yes rfl) rfl rfl (c_spec_l3Load (b := h.Bytes) (at_ := x12) (width := 4) (hS.rd 0 rfl) hx13) ?_
       clear hK; rintro _ w ⟨rfl, hk⟩
       replace hS := hS.after hk; clear hk
       have hK := keepsI ((hS.sel [0] rfl).selR [0, 1] rfl)
       refine ⟨hK, ?_⟩
       refine any_1 (i := 8) (by kernel_rfl) ?_
       obtain ⟨x14, hx14, hG4⟩ := bindE hG4
       refine as_c rfl (rc_call Tryz.call60 rfl rfl) (want_yes rfl) rfl rfl (c_spec_l1In (x := x13) (low := 1) (high := 7)  hx14) ?_
       clear hK; rintro _ w ⟨rfl, hk⟩
       replace hS := hS.after hk; clear hk
       have hK := keepsI ((hS.sel [0] rfl).selR [0, 1] rfl)
       refine ⟨hK, ?_⟩
       refine ey 9 rfl (by kernel_rfl) hK (fun _ _ _ => (rv_not rfl rfl)) rfl ?_
       refine any_done (by kernel_rfl) ?_
       intro a hA
       refine cw_cond hA rfl (fun hc6 => ?_) (fun hc6 => ?_)
       ·replace hG4 := iteT hc6 hG4
        refine cw_seq ?_
        refine cw_ops hA ?_
        clear hA
        refine oy (rv_assign rfl rfl) rfl ?_
        refine ops_nil fun a hA => ?_
        refine cw_ret ?_
        cases hG4
        have ho := hr4 _ rfl; subst ho
        replace hF : some false = some r := hF
        cases hF
        exact fy Tryz.results129 hA rfl hS
       ·replace hG4 := iteF hc6 hG4
        refine cw_skip ?_
        refine cw_ops hA ?_
        clear hA
        refine oy (rv_move rfl rfl) rfl ?_
        refine oy (rv_add rfl rfl rfl) rfl ?_
        refine oy (rv_assign rfl rfl) rfl ?_
        refine ops_nil fun a hA => ?_
        cases hG4
        exact ⟨_, rfl, ⟨hA.part ⟨rfl, rfl, rfl, rfl, trivial⟩, ((hS).sel [0] rfl).selR [0, 1] rfl⟩⟩
      ·replace hG4 := iteF hc5 hG4
       refine cw_exit ?_
       refine xcons_hit ?_
       cases hG4
       have ho := hr4 _ rfl; subst ho
       exact ⟨rfl, hA.part trivial, ((hS).sel [] rfl).selR [] rfl⟩
     ·skip
      clear hA hS hl3
      rintro a w ⟨heq, hA, hS⟩
      replace hF : spec_l7Page_j4 = some r := by rw [heq] at hF; exact hF
      clear heq
      unfold spec_l7Page_j4 at hF
      refine cw_seq ?_
      refine cw_ops hA ?_
      clear hA
      refine oy (rv_assign rfl rfl) rfl ?_
      refine ops_nil fun a hA => ?_
      refine cw_ret ?_
      cases hF
      exact fy Tryz.results129 hA rfl hS

set_option maxHeartbeats 4000000 in
set_option maxRecDepth 100000 in
theorem c_spec_HeapOk {w0 : World} {h : Heap} {s1 : Value} {s2 : Value} {r : Bool} (h1 : Rep.rd (All w0) w0 [s1] (h.Bytes : List Int)) (h2 : Rep.rd (All w0) w0 [s2] (h.Class : List Int)) (hF : spec_HeapOk h = some r) :
    Calls Tryz.prog 95 #[.agg #[s1, s2]] w0 (Ret fun v w' => v = .bool (r) ∧ St (cxAll w0) w' [] []) := by
 have hS : St (cxAll w0) w0 [] [fRd [s1] (h.Bytes : List Int), fRd [s2] (h.Class : List Int)] := St.enter (by
   intro f hf
   simp only [List.mem_cons, List.not_mem_nil, or_false] at hf
   rcases hf with rfl | rfl
   · exact h1
   · exact h2)
 refine calls_cw (args := [_]) Tryz.func95 rfl Tryz.ntmps95 rfl ?_
 unfold spec_HeapOk at hF
 intro a hA
 refine cw_seq ?_
 refine cw_ops hA ?_
 clear hA
 refine ops_mv (rv_box (cs := [s1, s2]) hS rfl rfl rfl) (want_yes rfl) rfl rfl ?_
 clear hS
 rintro _ w ⟨b1, rfl, hS⟩
 refine oy (rv_assign rfl rfl) rfl ?_
 refine ops_nil fun a hA => ?_
 refine cw_seq ?_
 refine cw_seq ?_
 refine cw_ops hA ?_
 clear hA
 refine oy (rv_loadN rfl rfl Tryz.isAgg38 Tryz.sizeOf38 rfl (hS.cells 0 0 (cs' := [s1, s2]) rfl rfl)) rfl ?_
 obtain ⟨x1, hx1, hF⟩ := bindE hF
 refine ops_c (rc_call Tryz.call128 rfl rfl) (want_yes rfl) rfl rfl (c_spec_l7Shape (h := h) (hS.rd 0 rfl) (hS.rd 1 rfl) hx1) ?_
 rintro _ w ⟨rfl, hk⟩
 replace hS := hS.after hk; clear hk
 refine oy (rv_not rfl rfl) rfl ?_
 refine ops_nil fun a hA => ?_
 refine cw_cond hA rfl (fun hc1 => ?_) (fun hc1 => ?_)
 ·replace hF := iteT hc1 hF
  refine cw_seq ?_
  refine cw_ops hA ?_
  clear hA
  refine oy (rv_assign rfl rfl) rfl ?_
  refine ops_nil fun a hA => ?_
  refine cw_ret ?_
  cases hF
  exact fy Tryz.results95 hA rfl hS
 ·replace hF := iteF hc1 hF
  refine cw_skip ?_
  refine cw_seq ?_
  refine cw_seq ?_
  refine cw_ops hA ?_
  clear hA
  refine oy (rv_assign rfl rfl) rfl ?_
  refine ops_nil fun a hA => ?_
  obtain ⟨o1, hl1, hF⟩ := bindE hF
  refine cw_cut (J := fun a' w' => o1 = Out.brk (()) ∧ AEnv 15 [] a' ∧ St (cxAll w0) w' [] []) ?_ ?_
  ·refine cw_block ?_
   refine cw_loop (body := spec_HeapOk_l1 h) (r := o1) (fun sg a' w' => AEnv 15 [(1, .pointer (some ⟨b1, 0, none⟩)), (3, .int .i64 (sg))] a' ∧ St (cxAll w0) w' [cBox b1 [s1, s2]] [fRd [s1] (h.Bytes : List Int), fRd [s2] (h.Class : List Int)]) ?_ hl1 ⟨hA.part ⟨rfl, rfl, trivial⟩, ((hS).sel [0] rfl).selR [0, 1] rfl⟩
   clear hA hS hl1
   rintro x3 a w q1 ⟨hA, hS⟩ hG1 hr1
   try dsimp only at hA hS
   unfold spec_HeapOk_l1 at hG1
   refine cw_seq ?_
   refine cw_seq ?_
   refine cw_ops hA ?_
   clear hA
   refine oy (rv_move rfl rfl) rfl ?_
   refine oy (rv_lss rfl rfl rfl) rfl ?_
   refine ops_nil fun a hA => ?_
   refine cw_cond hA rfl (fun hc2 => ?_) (fun hc2 => ?_)
   ·replace hG1 := iteT hc2 hG1
    refine cw_skip ?_
    refine cw_seq ?_
    refine cw_block ?_
    refine cw_seq ?_
    refine cw_ops hA ?_
    clear hA
    refine oy (rv_loadN rfl rfl Tryz.isAgg38 Tryz.sizeOf38 rfl (hS.cells 0 0 (cs' := [s1, s2]) rfl rfl)) rfl ?_
    refine oy (rv_move rfl rfl) rfl ?_
    obtain ⟨x4, hx4, hG1⟩ := bindE hG1
    refine ops_c (rc_call Tryz.call129 rfl rfl) (want_yes rfl) rfl rfl (c_spec_l7Page (h := h) (p := x3) (hS.rd 0 rfl) (hS.rd 1 rfl) hx4) ?_
    rintro _ w ⟨rfl, hk⟩
    replace hS := hS.after hk; clear hk
    refine oy (rv_not rfl rfl) rfl ?_
    refine ops_nil fun a hA => ?_
    refine cw_cond hA rfl (fun hc3 => ?_) (fun hc3 => ?_)
    ·replace hG1 := iteT hc3 hG1
     refine cw_seq ?_
     refine cw_ops hA ?_
     clear hA
     refine oy (rv_assign rfl rfl) rfl ?_
     refine ops_nil fun a hA => ?_
     refine cw_ret ?_
     cases hG1
     have ho := hr1 _ rfl; subst ho
     replace hF : some false = some r := hF
     cases hF
     exact fy Tryz.results95 hA rfl hS
    ·replace hG1 := iteF hc3 hG1
     refine cw_skip ?_
     refine cw_ops hA ?_
     clear hA
     refine oy (rv_move rfl rfl) rfl ?_
     refine oy (rv_add rfl rfl rfl) rfl ?_
     refine oy (rv_assign rfl rfl) rfl ?_
     refine ops_nil fun a hA => ?_
     cases hG1
     exact ⟨_, rfl, ⟨hA.part ⟨rfl, rfl, trivial⟩, ((hS).sel [0] rfl).selR [0, 1] rfl⟩⟩
   ·replace hG1 := iteF hc2 hG1
    refine cw_exit ?_
    refine xcons_hit ?_
    cases hG1
    have ho := hr1 _ rfl; subst ho
    exact ⟨rfl, hA.part trivial, ((hS).sel [] rfl).selR [] rfl⟩
  ·skip
   clear hA hS hl1
   rintro a w ⟨heq, hA, hS⟩
   replace hF : spec_HeapOk_j1 = some r := by rw [heq] at hF; exact hF
   clear heq
   unfold spec_HeapOk_j1 at hF
   refine cw_seq ?_
   refine cw_ops hA ?_
   clear hA
   refine oy (rv_assign rfl rfl) rfl ?_
   refine ops_nil fun a hA => ?_
   refine cw_ret ?_
   cases hF
   exact fy Tryz.results95 hA rfl hS

set_option maxHeartbeats 4000000 in
set_option maxRecDepth 100000 in
theorem c_spec_l8All {w0 : World} {l : Lists} {s1 : Value} {s2 : Value} {r : (List Int)} (h1 : Rep.rd (All w0) w0 [s1] (l.Global : List SList)) (h2 : Rep.rd (All w0) w0 [s2] (l.Own : List SList)) (hF : spec_l8All l = some r) :
    Calls Tryz.prog 130 #[.agg #[s1, s2]] w0 (Ret fun v w' => ∃ (s0_0 : Value), v = s0_0 ∧ St (cxAll w0) w' [cOwn [s0_0] (r : List Int)] []) := by
 have hS : St (cxAll w0) w0 [] [fRd [s1] (l.Global : List SList), fRd [s2] (l.Own : List SList)] := St.enter (by
   intro f hf
   simp only [List.mem_cons, List.not_mem_nil, or_false] at hf
   rcases hf with rfl | rfl
   · exact h1
   · exact h2)
 refine calls_cw (args := [_]) Tryz.func130 rfl Tryz.ntmps130 rfl ?_
 unfold spec_l8All at hF
 intro a hA
 refine cw_seq ?_
 refine cw_ops hA ?_
 clear hA
 refine ops_mv (rv_box (cs := [s1, s2]) hS rfl rfl rfl) (want_yes rfl) rfl rfl ?_
 clear hS
 rintro _ w ⟨b1, rfl, hS⟩
 refine oy (rv_assign rfl rfl) rfl ?_
 refine ops_nil fun a hA => ?_
 refine cw_seq ?_
 refine cw_ops hA ?_
 clear hA
 refine ops_mv (rv_lit0 (α := Int) hS rfl Tryz.underlying22 inf_Tryz3 rfl) (want_yes rfl) rfl rfl ?_
 clear hS
 rintro s3 w hS
 refine oy (rv_assign rfl rfl) rfl ?_
 refine ops_nil fun a hA => ?_
 refine cw_seq ?_
 refine cw_seq ?_
 refine cw_ops hA ?_
 clear hA
 refine oy (rv_assign rfl rfl) rfl ?_
 refine ops_nil fun a hA => ?_
 obtain ⟨o1, hl1, hF⟩ := bindE hF
 refine cw_cut (J := fun a' w' => ∃ (x5 : List Int) (s6 : Value), o1 = x5 ∧ AEnv 38 [(1, .pointer (some ⟨b1, 0, none⟩)), (3, s6)] a' ∧ St (cxAll w0) w' [cOwn [s6] (x5 : List Int), cBox b1 [s1, s2]] [fRd [s1] (l.Global : List SList), fRd [s2] (l.Own : List SList)]) ?_ ?_
 ·refine cw_block ?_
  refine cw_loop (body := spec_l8All_l1 l) (r := o1) (fun sg a' w' => ∃ (s5 : Value), AEnv 38 [(1, .pointer (some ⟨b1, 0, none⟩)), (3, s5), (4, .int .i64 (sg.2))] a' ∧ St (cxAll w0) w' [cOwn [s5] (sg.1 : List Int), cBox b1 [s1, s2]] [fRd [s1] (l.Global : List SList), fRd [s2] (l.Own : List SList)]) ?_ hl1 ⟨s3, hA.part ⟨rfl, rfl, rfl, trivial⟩, ((hS).sel [1, 0] rfl).selR [0, 1] rfl⟩
  clear hA hS hl1
  rintro ⟨x3, x4⟩ a w q1 ⟨s5, hA, hS⟩ hG1 hr1
  try dsimp only at hA hS
  unfold spec_l8All_l1 at hG1
  refine cw_seq ?_
  refine cw_seq ?_
  refine cw_ops hA ?_
  clear hA
  refine oy (rv_move rfl rfl) rfl ?_
  refine oy (rv_fld (m := 0) Tryz.underlying41 rfl rfl Tryz.sizeOf39 rfl rfl) rfl ?_
  refine oy (rv_load1 rfl rfl Tryz.isAgg39 (hS.cell 1 rfl rfl)) rfl ?_
  refine oy (rv_lenS (hS.rd 0 rfl) Tryz.underlying39 rfl rfl) rfl ?_
  refine oy (rv_lss rfl rfl rfl) rfl ?_
  refine ops_nil fun a hA => ?_
  refine cw_cond hA rfl (fun hc2 => ?_) (fun hc2 => ?_)
  ·replace hG1 := iteT hc2 hG1
   refine cw_skip ?_
   refine cw_seq ?_
   refine cw_block ?_
   refine cw_ops hA ?_
   clear hA
   refine oy (rv_move rfl rfl) rfl ?_
   refine oy (rv_fld (m := 0) Tryz.underlying41 rfl rfl Tryz.sizeOf39 rfl rfl) rfl ?_
   refine oy (rv_load1 rfl rfl Tryz.isAgg39 (hS.cell 1 rfl rfl)) rfl ?_
   refine oy (rv_move rfl rfl) rfl ?_
   obtain ⟨x12, hx12, hG1⟩ := bindE hG1
   refine oy (rv_idx (m := 1) (hS.rd 0 rfl) rfl hx12 Tryz.underlying39 Tryz.sizeOf120 rfl rfl rfl) rfl ?_
   refine oy (rv_fld (m := 0) Tryz.underlying120 rfl rfl Tryz.sizeOf22 rfl rfl) rfl ?_
   obtain ⟨s12, hel, hS⟩ := hS.el_SList 0 rfl (idx_some hx12).2.2
   refine oy (rv_load1 rfl rfl Tryz.isAgg22 (cell1 (CellsAt.sub (cs' := [s12]) hel 0 rfl rfl))) rfl ?_
   obtain ⟨hn2, hG1⟩ := needE hG1
   refine ops_mv (rv_append (α := Int) 0 hS rfl (hS.rd 2 rfl) rfl Tryz.underlying22 inf_Tryz3 rfl hn2 rfl rfl rfl) (want_yes rfl) rfl rfl ?_
   clear hS
   rintro s13 w hS
   refine oy (rv_assign rfl rfl) rfl ?_
   refine ops_nil fun a hA => ?_
   refine cw_ops hA ?_
   clear hA
   refine oy (rv_move rfl rfl) rfl ?_
   refine oy (rv_add rfl rfl rfl) rfl ?_
   refine oy (rv_assign rfl rfl) rfl ?_
   refine ops_nil fun a hA => ?_
   cases hG1
   exact ⟨_, rfl, ⟨s13, hA.part ⟨rfl, rfl, rfl, trivial⟩, ((hS).sel [0, 1] rfl).selR [0, 1] rfl⟩⟩
  ·replace hG1 := iteF hc2 hG1
   refine cw_exit ?_
   refine xcons_hit ?_
   cases hG1
   have ho := hr1 _ rfl; subst ho
   exact ⟨x3, s5, rfl, hA.part ⟨rfl, rfl, trivial⟩, ((hS).sel [0, 1] rfl).selR [0, 1] rfl⟩
 ·skip
  clear hA hS hl1
  rintro a w ⟨x5, s6, heq, hA, hS⟩
  replace hF : spec_l8All_j1 l x5 = some r := by rw [heq] at hF; exact hF
  clear heq
  unfold spec_l8All_j1 at hF
  refine cw_seq ?_
  refine cw_seq ?_
  refine cw_ops hA ?_
  clear hA
  refine oy (rv_assign rfl rfl) rfl ?_
  refine ops_nil fun a hA => ?_
  obtain ⟨o2, hl2, hF⟩ := bindE hF
  refine cw_cut (J := fun a' w' => ∃ (x10 : List Int) (s9 : Value), o2 = x10 ∧ AEnv 38 [(3, s9)] a' ∧ St (cxAll w0) w' [cOwn [s9] (x10 : List Int)] []) ?_ ?_
  ·refine cw_block ?_
   refine cw_loop (body := spec_l8All_l2 l) (r := o2) (fun sg a' w' => ∃ (s8 : Value), AEnv 38 [(1, .pointer (some ⟨b1, 0, none⟩)), (3, s8), (5, .int .i64 (sg.2))] a' ∧ St (cxAll w0) w' [cOwn [s8] (sg.1 : List Int), cBox b1 [s1, s2]] [fRd [s1] (l.Global : List SList), fRd [s2] (l.Own : List SList)]) ?_ hl2 ⟨s6, hA.part ⟨rfl, rfl, rfl, trivial⟩, ((hS).sel [0, 1] rfl).selR [0, 1] rfl⟩
   clear hA hS hl2
   rintro ⟨x8, x9⟩ a w q2 ⟨s8, hA, hS⟩ hG2 hr2
   try dsimp only at hA hS
   unfold spec_l8All_l2 at hG2
   refine cw_seq ?_
   refine cw_seq ?_
   refine cw_ops hA ?_
   clear hA
   refine oy (rv_move rfl rfl) rfl ?_
   refine oy (rv_fld (m := 0) Tryz.underlying41 rfl rfl Tryz.sizeOf39 rfl rfl) rfl ?_
   refine oy (rv_load1 rfl rfl Tryz.isAgg39 (hS.cell 1 rfl rfl)) rfl ?_
   refine oy (rv_lenS (hS.rd 1 rfl) Tryz.underlying39 rfl rfl) rfl ?_
   refine oy (rv_lss rfl rfl rfl) rfl ?_
   refine ops_nil fun a hA => ?_
   refine cw_cond hA rfl (fun hc1 => ?_) (fun hc1 => ?_)
   ·replace hG2 := iteT hc1 hG2
    refine cw_skip ?_
    refine cw_seq ?_
    refine cw_block ?_
    refine cw_ops hA ?_
    clear hA
    refine oy (rv_move rfl rfl) rfl ?_
    refine oy (rv_fld (m := 0) Tryz.underlying41 rfl rfl Tryz.sizeOf39 rfl rfl) rfl ?_
    refine oy (rv_load1 rfl rfl Tryz.isAgg39 (hS.cell 1 rfl rfl)) rfl ?_
    refine oy (rv_move rfl rfl) rfl ?_
    obtain ⟨x11, hx11, hG2⟩ := bindE hG2
    refine oy (rv_idx (m := 1) (hS.rd 1 rfl) rfl hx11 Tryz.underlying39 Tryz.sizeOf120 rfl rfl rfl) rfl ?_
    refine oy (rv_fld (m := 0) Tryz.underlying120 rfl rfl Tryz.sizeOf22 rfl rfl) rfl ?_
    obtain ⟨s10, hel, hS⟩ := hS.el_SList 1 rfl (idx_some hx11).2.2
    refine oy (rv_load1 rfl rfl Tryz.isAgg22 (cell1 (CellsAt.sub (cs' := [s10]) hel 0 rfl rfl))) rfl ?_
    obtain ⟨hn1, hG2⟩ := needE hG2
    refine ops_mv (rv_append (α := Int) 0 hS rfl (hS.rd 2 rfl) rfl Tryz.underlying22 inf_Tryz3 rfl hn1 rfl rfl rfl) (want_yes rfl) rfl rfl ?_
    clear hS
    rintro s11 w hS
    refine oy (rv_assign rfl rfl) rfl ?_
    refine ops_nil fun a hA => ?_
    refine cw_ops hA ?_
    clear hA
    refine oy (rv_move rfl rfl) rfl ?_
    refine oy (rv_add rfl rfl rfl) rfl ?_
    refine oy (rv_assign rfl rfl) rfl ?_
    refine ops_nil fun a hA => ?_
    cases hG2
    exact ⟨_, rfl, ⟨s11, hA.part ⟨rfl, rfl, rfl, trivial⟩, ((hS).sel [0, 1] rfl).selR [0, 1] rfl⟩⟩
   ·replace hG2 := iteF hc1 hG2
    refine cw_exit ?_
    refine xcons_hit ?_
    cases hG2
    have ho := hr2 _ rfl; subst ho
    exact ⟨x8, s8, rfl, hA.part ⟨rfl, trivial⟩, ((hS).sel [0] rfl).selR [] rfl⟩
  ·skip
   clear hA hS hl2
   rintro a w ⟨x10, s9, heq, hA, hS⟩
   replace hF : spec_l8All_j2 x10 = some r := by rw [heq] at hF; exact hF
   clear heq
   unfold spec_l8All_j2 at hF
   refine cw_seq ?_
   refine cw_ops hA ?_
   clear hA
   refine oy (rv_move rfl rfl) rfl ?_
   refine oy (rv_assign rfl rfl) rfl ?_
   refine ops_nil fun a hA => ?_
   refine cw_ret ?_
   cases hF
   exact fin1 Tryz.results130 hA (res_tmp rfl) ⟨s9, rfl, (hS.sel [0] rfl).weaken (R' := []) (fun _ h => nomatch h)⟩

set_option maxHeartbeats 4000000 in
set_option maxRecDepth 100000 in
theorem c_spec_l8Has {w0 : World} {l : List Int} {x : Int} {s1 : Value} {r : Bool} (h1 : Rep.rd (All w0) w0 [s1] (l : List Int)) (hF : spec_l8Has l x = some r) :
    Calls Tryz.prog 100 #[s1, .int .i64 (x)] w0 (Ret fun v w' => v = .bool (r) ∧ St (cxAll w0) w' [] []) := by
 have hS : St (cxAll w0) w0 [] [fRd [s1] (l : List Int)] := St.enter (by
   intro f hf
   simp only [List.mem_cons, List.not_mem_nil, or_false] at hf
   subst hf; exact h1)
 refine calls_cw (args := [_, _]) Tryz.func100 rfl Tryz.ntmps100 rfl ?_
 unfold spec_l8Has at hF
 intro a hA
 refine cw_seq ?_
 refine cw_ops hA ?_
 clear hA
 refine oy (rv_assign rfl rfl) rfl ?_
 refine ops_nil fun a hA => ?_
 refine cw_seq ?_
 refine cw_seq ?_
 refine cw_ops hA ?_
 clear hA
 refine oy (rv_assign rfl rfl) rfl ?_
 refine ops_nil fun a hA => ?_
 obtain ⟨o1, hl1, hF⟩ := bindE hF
 refine cw_cut (J := fun a' w' => o1 = Out.brk (()) ∧ AEnv 18 [] a' ∧ St (cxAll w0) w' [] []) ?_ ?_
 ·refine cw_block ?_
  refine cw_loop (body := spec_l8Has_l1 l x) (r := o1) (fun sg a' w' => AEnv 18 [(0, s1), (1, .int .i64 (x)), (5, .int .i64 (sg))] a' ∧ St (cxAll w0) w' [] [fRd [s1] (l : List Int)]) ?_ hl1 ⟨hA.part ⟨rfl, rfl, rfl, trivial⟩, ((hS).sel [] rfl).selR [0] rfl⟩
  clear hA hS hl1
  rintro x2 a w q1 ⟨hA, hS⟩ hG1 hr1
  try dsimp only at hA hS
  unfold spec_l8Has_l1 at hG1
  refine cw_seq ?_
  refine cw_seq ?_
  refine cw_ops hA ?_
  clear hA
  refine oy (rv_move rfl rfl) rfl ?_
  refine oy (rv_move rfl rfl) rfl ?_
  refine oy (rv_lenS (hS.rd 0 rfl) Tryz.underlying22 rfl rfl) rfl ?_
  refine oy (rv_lss rfl rfl rfl) rfl ?_
  refine ops_nil fun a hA => ?_
  refine cw_cond hA rfl (fun hc1 => ?_) (fun hc1 => ?_)
  ·replace hG1 := iteT hc1 hG1
   refine cw_skip ?_
   refine cw_seq ?_
   refine cw_block ?_
   refine cw_seq ?_
   refine cw_ops hA ?_
   clear hA
   refine oy (rv_move rfl rfl) rfl ?_
   refine oy (rv_move rfl rfl) rfl ?_
   obtain ⟨x3, hx3, hG1⟩ := bindE hG1
   refine oy (rv_idx (m := 1) (hS.rd 0 rfl) rfl hx3 Tryz.underlying22 Tryz.sizeOf3 rfl rfl rfl) rfl ?_
   refine oy (rv_load1 rfl rfl Tryz.isAgg3 (cell1 (el_Int (hS.rd 0 rfl) (idx_some hx3).2.2))) rfl ?_
   refine oy (rv_move rfl rfl) rfl ?_
   refine oy (rv_eql rfl rfl rfl) rfl ?_
   refine ops_nil fun a hA => ?_
   refine cw_cond hA rfl (fun hc2 => ?_) (fun hc2 => ?_)
   ·replace hG1 := iteT hc2 hG1
    refine cw_seq ?_
    refine cw_ops hA ?_
    clear hA
    refine oy (rv_assign rfl rfl) rfl ?_
    refine ops_nil fun a hA => ?_
    refine cw_ret ?_
    cases hG1
    have ho := hr1 _ rfl; subst ho
    replace hF : some true = some r := hF
    cases hF
    exact fy Tryz.results100 hA rfl hS
   ·replace hG1 := iteF hc2 hG1
    refine cw_skip ?_
    refine cw_ops hA ?_
    clear hA
    refine oy (rv_move rfl rfl) rfl ?_
    refine oy (rv_add rfl rfl rfl) rfl ?_
    refine oy (rv_assign rfl rfl) rfl ?_
    refine ops_nil fun a hA => ?_
    cases hG1
    exact ⟨_, rfl, ⟨hA.part ⟨rfl, rfl, rfl, trivial⟩, ((hS).sel [] rfl).selR [0] rfl⟩⟩
  ·replace hG1 := iteF hc1 hG1
   refine cw_exit ?_
   refine xcons_hit ?_
   cases hG1
   have ho := hr1 _ rfl; subst ho
   exact ⟨rfl, hA.part trivial, ((hS).sel [] rfl).selR [] rfl⟩
 ·skip
  clear hA hS hl1
  rintro a w ⟨heq, hA, hS⟩
  replace hF : spec_l8Has_j1 = some r := by rw [heq] at hF; exact hF
  clear heq
  unfold spec_l8Has_j1 at hF
  refine cw_seq ?_
  refine cw_ops hA ?_
  clear hA
  refine oy (rv_assign rfl rfl) rfl ?_
  refine ops_nil fun a hA => ?_
  refine cw_ret ?_
  cases hF
  exact fy Tryz.results100 hA rfl hS

set_option maxHeartbeats 4000000 in
set_option maxRecDepth 100000 in
theorem c_spec_ListsOk {w0 : World} {l : Lists} {s1 : Value} {s2 : Value} {r : Bool} (h1 : Rep.rd (All w0) w0 [s1] (l.Global : List SList)) (h2 : Rep.rd (All w0) w0 [s2] (l.Own : List SList)) (hF : spec_ListsOk l = some r) :
    Calls Tryz.prog 96 #[.agg #[s1, s2]] w0 (Ret fun v w' => v = .bool (r) ∧ St (cxAll w0) w' [] []) := by
 have hS : St (cxAll w0) w0 [] [fRd [s1] (l.Global : List SList), fRd [s2] (l.Own : List SList)] := St.enter (by
   intro f hf
   simp only [List.mem_cons, List.not_mem_nil, or_false] at hf
   rcases hf with rfl | rfl
   · exact h1
   · exact h2)
 refine calls_cw (args := [_]) Tryz.func96 rfl Tryz.ntmps96 rfl ?_
 unfold spec_ListsOk at hF
 intro a hA
 refine cw_seq ?_
 refine cw_ops hA ?_
 clear hA
 refine ops_mv (rv_box (cs := [s1, s2]) hS rfl rfl rfl) (want_yes rfl) rfl rfl ?_
 clear hS
 rintro _ w ⟨b1, rfl, hS⟩
 refine oy (rv_assign rfl rfl) rfl ?_
 refine ops_nil fun a hA => ?_
 refine cw_seq ?_
 refine cw_seq ?_
 refine cw_cut (J := fun a' w' => ∃ (x1 : Bool), spec_ListsOk_j1 l x1 = some r ∧ AEnv 55 [(1, .pointer (some ⟨b1, 0, none⟩)), (15, .bool (x1))] a' ∧ St (cxAll w0) w' [cBox b1 [s1, s2]] [fRd [s1] (l.Global : List SList), fRd [s2] (l.Own : List SList)]) ?_ ?_
 ·skip
  refine cw_ops hA ?_
  clear hA
  refine oy (rv_fld (m := 0) Tryz.underlying41 rfl rfl Tryz.sizeOf39 rfl rfl) rfl ?_
  refine oy (rv_load1 rfl rfl Tryz.isAgg39 (hS.cell 0 rfl rfl)) rfl ?_
  refine oy (rv_lenS (hS.rd 0 rfl) Tryz.underlying39 rfl rfl) rfl ?_
  refine oy (rv_neq rfl rfl rfl) rfl ?_
  refine oy (rv_move rfl rfl) rfl ?_
  refine ops_case (s := 10) rfl (fun hc7 => ?_) (fun hc7 => ?_)
  ·replace hF := iteT hc7 hF
   refine ops_off (want_if rfl rfl rfl (by rw [hc7]; rfl)) rfl rfl ?_
   refine ops_off (want_if rfl rfl rfl (by rw [hc7]; rfl)) rfl rfl ?_
   refine ops_off (want_if rfl rfl rfl (by rw [hc7]; rfl)) rfl rfl ?_
   refine ops_off (want_if rfl rfl rfl (by rw [hc7]; rfl)) rfl rfl ?_
   refine oy (rv_pick_t rfl rfl hc7 rfl) rfl ?_
   refine ops_nil fun a hA => ?_
   exact ⟨true, hF, hA.part ⟨rfl, rfl, trivial⟩, ((hS).sel [0] rfl).selR [0, 1] rfl⟩
  ·replace hF := iteF hc7 hF
   refine ops_v (rv_fld (m := 0) Tryz.underlying41 rfl rfl Tryz.sizeOf39 rfl rfl) (want_if rfl rfl rfl (by rw [hc7]; rfl)) rfl rfl ?_
   refine ops_v (rv_load1 rfl rfl Tryz.isAgg39 (hS.cell 0 rfl rfl)) (want_if rfl rfl rfl (by rw [hc7]; rfl)) rfl rfl ?_
   refine ops_v (rv_lenS (hS.rd 1 rfl) Tryz.underlying39 rfl rfl) (want_if rfl rfl rfl (by rw [hc7]; rfl)) rfl rfl ?_
   refine ops_v (rv_neq rfl rfl rfl) (want_if rfl rfl rfl (by rw [hc7]; rfl)) rfl rfl ?_
   refine oy (rv_pick_f rfl rfl hc7 rfl) rfl ?_
   refine ops_nil fun a hA => ?_
   exact ⟨((l.Own.length : Int)) != 9, hF, hA.part ⟨rfl, rfl, trivial⟩, ((hS).sel [0] rfl).selR [0, 1] rfl⟩
 ·skip
  clear hA hS hF
  rintro a w ⟨x1, hF, hA, hS⟩
  unfold spec_ListsOk_j1 at hF
  refine cw_cond hA rfl (fun hc1 => ?_) (fun hc1 => ?_)
  ·replace hF := iteT hc1 hF
   refine cw_seq ?_
   refine cw_ops hA ?_
   clear hA
   refine oy (rv_assign rfl rfl) rfl ?_
   refine ops_nil fun a hA => ?_
   refine cw_ret ?_
   cases hF
   exact fy Tryz.results96 hA rfl hS
  ·replace hF := iteF hc1 hF
   refine cw_skip ?_
   refine cw_seq ?_
   refine cw_seq ?_
   refine cw_ops hA ?_
   clear hA
   refine oy (rv_assign rfl rfl) rfl ?_
   refine ops_nil fun a hA => ?_
   obtain ⟨o1, hl1, hF⟩ := bindE hF
   refine cw_cut (J := fun a' w' => o1 = Out.brk (()) ∧ AEnv 55 [(1, .pointer (some ⟨b1, 0, none⟩))] a' ∧ St (cxAll w0) w' [cBox b1 [s1, s2]] [fRd [s1] (l.Global : List SList), fRd [s2] (l.Own : List SList)]) ?_ ?_
   ·refine cw_block ?_
    refine cw_loop (body := spec_ListsOk_l2 l) (r := o1) (fun sg a' w' => AEnv 55 [(1, .pointer (some ⟨b1, 0, none⟩)), (3, .int .i64 (sg))] a' ∧ St (cxAll w0) w' [cBox b1 [s1, s2]] [fRd [s1] (l.Global : List SList), fRd [s2] (l.Own : List SList)]) ?_ hl1 ⟨hA.part ⟨rfl, rfl, trivial⟩, ((hS).sel [0] rfl).selR [0, 1] rfl⟩
    clear hA hS hl1
    rintro x3 a w q2 ⟨hA, hS⟩ hG2 hr2
    try dsimp only at hA hS
    unfold spec_ListsOk_l2 at hG2
    refine cw_seq ?_
    refine cw_seq ?_
    refine cw_ops hA ?_
    clear hA
    refine oy (rv_move rfl rfl) rfl ?_
    refine oy (rv_fld (m := 0) Tryz.underlying41 rfl rfl Tryz.sizeOf39 rfl rfl) rfl ?_
    refine oy (rv_load1 rfl rfl Tryz.isAgg39 (hS.cell 0 rfl rfl)) rfl ?_
    refine oy (rv_lenS (hS.rd 1 rfl) Tryz.underlying39 rfl rfl) rfl ?_
    refine oy (rv_lss rfl rfl rfl) rfl ?_
    refine ops_nil fun a hA => ?_
    refine cw_cond hA rfl (fun hc5 => ?_) (fun hc5 => ?_)
    ·replace hG2 := iteT hc5 hG2
     refine cw_skip ?_
     refine cw_seq ?_
     refine cw_block ?_
     refine cw_seq ?_
     refine cw_ops hA ?_
     clear hA
     refine oy (rv_fld (m := 0) Tryz.underlying41 rfl rfl Tryz.sizeOf39 rfl rfl) rfl ?_
     refine oy (rv_load1 rfl rfl Tryz.isAgg39 (hS.cell 0 rfl rfl)) rfl ?_
     refine oy (rv_move rfl rfl) rfl ?_
     obtain ⟨x12, hx12, hG2⟩ := bindE hG2
     refine oy (rv_idx (m := 1) (hS.rd 1 rfl) rfl hx12 Tryz.underlying39 Tryz.sizeOf120 rfl rfl rfl) rfl ?_
     refine oy (rv_fld (m := 0) Tryz.underlying120 rfl rfl Tryz.sizeOf22 rfl rfl) rfl ?_
     obtain ⟨s4, hel, hS⟩ := hS.el_SList 1 rfl (idx_some hx12).2.2
     refine oy (rv_load1 rfl rfl Tryz.isAgg22 (cell1 (CellsAt.sub (cs' := [s4]) hel 0 rfl rfl))) rfl ?_
     refine oy (rv_lenS (hS.rd 2 rfl) Tryz.underlying22 rfl rfl) rfl ?_
     refine oy (rv_gtr rfl rfl rfl) rfl ?_
     refine ops_nil fun a hA => ?_
     refine cw_cond hA rfl (fun hc6 => ?_) (fun hc6 => ?_)
     ·replace hG2 := iteT hc6 hG2
      refine cw_seq ?_
      refine cw_ops hA ?_
      clear hA
      refine oy (rv_assign rfl rfl) rfl ?_
      refine ops_nil fun a hA => ?_
      refine cw_ret ?_
      cases hG2
      have ho := hr2 _ rfl; subst ho
      replace hF : some false = some r := hF
      cases hF
      exact fy Tryz.results96 hA rfl hS
     ·replace hG2 := iteF hc6 hG2
      refine cw_skip ?_
      refine cw_ops hA ?_
      clear hA
      refine oy (rv_move rfl rfl) rfl ?_
      refine oy (rv_add rfl rfl rfl) rfl ?_
      refine oy (rv_assign rfl rfl) rfl ?_
      refine ops_nil fun a hA => ?_
      cases hG2
      exact ⟨_, rfl, ⟨hA.part ⟨rfl, rfl, trivial⟩, ((hS).sel [0] rfl).selR [0, 1] rfl⟩⟩
    ·replace hG2 := iteF hc5 hG2
     refine cw_exit ?_
     refine xcons_hit ?_
     cases hG2
     have ho := hr2 _ rfl; subst ho
     exact ⟨rfl, hA.part ⟨rfl, trivial⟩, ((hS).sel [0] rfl).selR [0, 1] rfl⟩
   ·skip
    clear hA hS hl1
    rintro a w ⟨heq, hA, hS⟩
    replace hF : spec_ListsOk_j2 l = some r := by rw [heq] at hF; exact hF
    clear heq
    unfold spec_ListsOk_j2 at hF
    refine cw_seq ?_
    refine cw_ops hA ?_
    clear hA
    refine oy (rv_loadN rfl rfl Tryz.isAgg41 Tryz.sizeOf41 rfl (hS.cells 0 0 (cs' := [s1, s2]) rfl rfl)) rfl ?_
    obtain ⟨x4, hx4, hF⟩ := bindE hF
    refine ops_c (rc_call Tryz.call130 rfl rfl) (want_yes rfl) rfl rfl (c_spec_l8All (l := l) (hS.rd 0 rfl) (hS.rd 1 rfl) hx4) ?_
    rintro s3 w ⟨_, rfl, hk⟩
    replace hS := hS.after hk; clear hk
    refine oy (rv_assign rfl rfl) rfl ?_
    refine ops_nil fun a hA => ?_
    refine cw_seq ?_
    refine cw_seq ?_
    refine cw_ops hA ?_
    clear hA
    refine oy (rv_assign rfl rfl) rfl ?_
    refine ops_nil fun a hA => ?_
    obtain ⟨o2, hl2, hF⟩ := bindE hF
    refine cw_cut (J := fun a' w' => o2 = Out.brk (()) ∧ AEnv 55 [] a' ∧ St (cxAll w0) w' [] []) ?_ ?_
    ·refine cw_block ?_
     refine cw_loop (body := spec_ListsOk_l3 x4) (r := o2) (fun sg a' w' => AEnv 55 [(4, s3), (5, .int .i64 (sg))] a' ∧ St (cxAll w0) w' [cOwn [s3] (x4 : List Int)] []) ?_ hl2 ⟨hA.part ⟨rfl, rfl, trivial⟩, ((hS).sel [1] rfl).selR [] rfl⟩
     clear hA hS hl2
     rintro x6 a w q3 ⟨hA, hS⟩ hG3 hr3
     try dsimp only at hA hS
     unfold spec_ListsOk_l3 at hG3
     refine cw_seq ?_
     refine cw_seq ?_
     refine cw_ops hA ?_
     clear hA
     refine oy (rv_move rfl rfl) rfl ?_
     refine oy (rv_move rfl rfl) rfl ?_
     refine oy (rv_lenS (hS.rdOwn 0 rfl) Tryz.underlying22 rfl rfl) rfl ?_
     refine oy (rv_lss rfl rfl rfl) rfl ?_
     refine ops_nil fun a hA => ?_
     refine cw_cond hA rfl (fun hc2 => ?_) (fun hc2 => ?_)
     ·replace hG3 := iteT hc2 hG3
      refine cw_skip ?_
      refine cw_seq ?_
      refine cw_block ?_
      refine cw_seq ?_
      refine cw_cut (J := fun a' w' => ∃ (x7 : Bool), spec_ListsOk_j4 x6 x7 = some q3 ∧ AEnv 55 [(4, s3), (5, .int .i64 (x6)), (54, .bool (x7))] a' ∧ St (cxAll w0) w' [cOwn [s3] (x4 : List Int)] []) ?_ ?_
      ·skip
       refine cw_any (Keeps (cxAll w0) [cOwn [s3] (x4 : List Int)] []) mixed_Tryz hA hS ?_
       clear hA hS; intro w hS
       have hK : Keeps (cxAll w0) [cOwn [s3] (x4 : List Int)] [] w := ⟨_, (hS.sel [0] rfl).selR [] rfl⟩
       refine ey 0 rfl (by kernel_rfl) hK (fun _ _ _ => (rv_move rfl rfl)) rfl ?_
       refine ey 1 rfl (by kernel_rfl) hK (fun _ _ _ => (rv_move rfl rfl)) rfl ?_
       obtain ⟨x8, hx8, hG3⟩ := bindE hG3
       refine ey 2 rfl (by kernel_rfl) hK (fun _ _ hS => (rv_idx (m := 1) (hS.rdOwn 0 rfl) rfl hx8 Tryz.underlying22 Tryz.sizeOf3 rfl rfl rfl)) rfl ?_
       refine ey 3 rfl (by kernel_rfl) hK (fun _ _ hS => (rv_load1 rfl rfl Tryz.isAgg3 (cell1 (el_Int (hS.rdOwn 0 rfl) (idx_some hx8).2.2)))) rfl ?_
       refine any_1 (i := 4) (by kernel_rfl) ?_
       obtain ⟨x9, hx9, hG3⟩ := bindE hG3
       refine as_c rfl (rc_call Tryz.call60 rfl rfl) (want_yes rfl) rfl rfl (c_spec_l1In (x := x8) (low := 0) (high := 23)  hx9) ?_
       clear hK; rintro _ w ⟨rfl, hk⟩
       replace hS := hS.after hk; clear hk
       have hK := keepsI ((hS.sel [0] rfl).selR [] rfl)
       refine ⟨hK, ?_⟩
       refine ey 5 rfl (by kernel_rfl) hK (fun _ _ _ => (rv_not rfl rfl)) rfl ?_
       refine ey 6 rfl (by kernel_rfl) hK (fun _ _ _ => (rv_move rfl rfl)) rfl ?_
       refine any_case (s := 45) rfl (fun hc4 => ?_) (fun hc4 => ?_)
       ·replace hG3 := iteT hc4 hG3
        refine any_off 7 (by kernel_rfl) rfl (by kernel_rfl) (by kernel_rfl) hK (want_if rfl rfl rfl (by rw [hc4]; rfl)) rfl rfl ?_
        refine any_off 8 (by kernel_rfl) rfl (by kernel_rfl) (by kernel_rfl) hK (want_if rfl rfl rfl (by rw [hc4]; rfl)) rfl rfl ?_
        refine any_off 9 (by kernel_rfl) rfl (by kernel_rfl) (by kernel_rfl) hK (want_if rfl rfl rfl (by rw [hc4]; rfl)) rfl rfl ?_
        refine any_off 10 (by kernel_rfl) rfl (by kernel_rfl) (by kernel_rfl) hK (want_if rfl rfl rfl (by rw [hc4]; rfl)) rfl rfl ?_
        refine any_off 11 (by kernel_rfl) rfl (by kernel_rfl) (by kernel_rfl) hK (want_if rfl rfl rfl (by rw [hc4]; rfl)) rfl rfl ?_
        refine any_off 12 (by kernel_rfl) rfl (by kernel_rfl) (by kernel_rfl) hK (want_if rfl rfl rfl (by rw [hc4]; rfl)) rfl rfl ?_
        refine any_off 13 (by kernel_rfl) rfl (by kernel_rfl) (by kernel_rfl) hK (want_if rfl rfl rfl (by rw [hc4]; rfl)) rfl rfl ?_
        refine any_off 14 (by kernel_rfl) rfl (by kernel_rfl) (by kernel_rfl) hK (want_if rfl rfl rfl (by rw [hc4]; rfl)) rfl rfl ?_
        refine ey 15 rfl (by kernel_rfl) hK (fun _ _ _ => (rv_pick_t rfl rfl hc4 rfl)) rfl ?_
        refine any_done (by kernel_rfl) ?_
        intro a hA
        exact ⟨true, hG3, hA.part ⟨rfl, rfl, rfl, trivial⟩, ((hS).sel [0] rfl).selR [] rfl⟩
       ·replace hG3 := iteF hc4 hG3
        refine any_v 7 (by kernel_rfl) rfl (by kernel_rfl) (by kernel_rfl) hK (fun _ _ => (rv_move rfl rfl)) (want_if rfl rfl rfl (by rw [hc4]; rfl)) rfl rfl ?_
        refine any_v 8 (by kernel_rfl) rfl (by kernel_rfl) (by kernel_rfl) hK (fun _ _ => (rv_move rfl rfl)) (want_if rfl rfl rfl (by rw [hc4]; rfl)) rfl rfl ?_
        obtain ⟨hn1, hG3⟩ := needE hG3
        refine any_v 9 (by kernel_rfl) rfl (by kernel_rfl) (by kernel_rfl) hK (fun w hk => by obtain ⟨_, hS⟩ := hk; exact (rv_sub_h (n := 1) (hS.rdOwn 0 rfl) rfl Tryz.underlying22 Tryz.sizeOf3 hn1 rfl rfl rfl)) (want_if rfl rfl rfl (by rw [hc4]; rfl)) rfl rfl ?_
        refine any_v 10 (by kernel_rfl) rfl (by kernel_rfl) (by kernel_rfl) hK (fun _ _ => (rv_move rfl rfl)) (want_if rfl rfl rfl (by rw [hc4]; rfl)) rfl rfl ?_
        refine any_v 11 (by kernel_rfl) rfl (by kernel_rfl) (by kernel_rfl) hK (fun _ _ => (rv_move rfl rfl)) (want_if rfl rfl rfl (by rw [hc4]; rfl)) rfl rfl ?_
        obtain ⟨x10, hx10, hG3⟩ := bindE hG3
        refine any_v 12 (by kernel_rfl) rfl (by kernel_rfl) (by kernel_rfl) hK (fun w hk => by obtain ⟨_, hS⟩ := hk; exact (rv_idx (m := 1) (hS.rdOwn 0 rfl) rfl hx10 Tryz.underlying22 Tryz.sizeOf3 rfl rfl rfl)) (want_if rfl rfl rfl (by rw [hc4]; rfl)) rfl rfl ?_
        refine any_v 13 (by kernel_rfl) rfl (by kernel_rfl) (by kernel_rfl) hK (fun w hk => by obtain ⟨_, hS⟩ := hk; exact (rv_load1 rfl rfl Tryz.isAgg3 (cell1 (el_Int (hS.rdOwn 0 rfl) (idx_some hx10).2.2)))) (want_if rfl rfl rfl (by rw [hc4]; rfl)) rfl rfl ?_
        refine any_1 (i := 14) (by kernel_rfl) ?_
        obtain ⟨x11, hx11, hG3⟩ := bindE hG3
        refine as_c rfl (rc_call Tryz.call100 rfl rfl) (want_if rfl rfl rfl (by rw [hc4]; rfl)) rfl rfl (c_spec_l8Has (l := (x4.take x6.toNat).drop 0) (x := x10) (rd_sub (n := 1) (a := 0) (b := x6.toNat) rfl (hS.rdOwn 0 rfl) (Nat.zero_le _) (by omega)) hx11) ?_
        clear hK; rintro _ w ⟨rfl, hk⟩
        replace hS := hS.after hk; clear hk
        have hK := keepsI ((hS.sel [0] rfl).selR [] rfl)
        refine ⟨hK, ?_⟩
        refine ey 15 rfl (by kernel_rfl) hK (fun _ _ _ => (rv_pick_f rfl rfl hc4 rfl)) rfl ?_
        refine any_done (by kernel_rfl) ?_
        intro a hA
        exact ⟨x11, hG3, hA.part ⟨rfl, rfl, rfl, trivial⟩, ((hS).sel [0] rfl).selR [] rfl⟩
      ·skip
       clear hA hS hG3
       rintro a w ⟨x7, hG3, hA, hS⟩
       unfold spec_ListsOk_j4 at hG3
       refine cw_cond hA rfl (fun hc3 => ?_) (fun hc3 => ?_)
       ·replace hG3 := iteT hc3 hG3
        refine cw_seq ?_
        refine cw_ops hA ?_
        clear hA
        refine oy (rv_assign rfl rfl) rfl ?_
        refine ops_nil fun a hA => ?_
        refine cw_ret ?_
        cases hG3
        have ho := hr3 _ rfl; subst ho
        replace hF : some false = some r := hF
        cases hF
        exact fy Tryz.results96 hA rfl hS
       ·replace hG3 := iteF hc3 hG3
        refine cw_skip ?_
        refine cw_ops hA ?_
        clear hA
        refine oy (rv_move rfl rfl) rfl ?_
        refine oy (rv_add rfl rfl rfl) rfl ?_
        refine oy (rv_assign rfl rfl) rfl ?_
        refine ops_nil fun a hA => ?_
        cases hG3
        exact ⟨_, rfl, ⟨hA.part ⟨rfl, rfl, trivial⟩, ((hS).sel [0] rfl).selR [] rfl⟩⟩
     ·replace hG3 := iteF hc2 hG3
      refine cw_exit ?_
      refine xcons_hit ?_
      cases hG3
      have ho := hr3 _ rfl; subst ho
      exact ⟨rfl, hA.part trivial, ((hS).sel [] rfl).selR [] rfl⟩
    ·skip
     clear hA hS hl2
     rintro a w ⟨heq, hA, hS⟩
     replace hF : spec_ListsOk_j3 = some r := by rw [heq] at hF; exact hF
     clear heq
     unfold spec_ListsOk_j3 at hF
     refine cw_seq ?_
     refine cw_ops hA ?_
     clear hA
     refine oy (rv_assign rfl rfl) rfl ?_
     refine ops_nil fun a hA => ?_
     refine cw_ret ?_
     cases hF
     exact fy Tryz.results96 hA rfl hS

set_option maxHeartbeats 4000000 in
set_option maxRecDepth 100000 in
theorem c_spec_l7Class {w0 : World} {h : Heap} {slot : Int} {s1 : Value} {s2 : Value} {r : Int} (h1 : Rep.rd (All w0) w0 [s1] (h.Bytes : List Int)) (h2 : Rep.rd (All w0) w0 [s2] (h.Class : List Int)) (hF : spec_l7Class h slot = some r) :
    Calls Tryz.prog 131 #[.agg #[s1, s2], .int .i64 (slot)] w0 (Ret fun v w' => v = .int .i64 (r) ∧ St (cxAll w0) w' [] []) := by
 have hS : St (cxAll w0) w0 [] [fRd [s1] (h.Bytes : List Int), fRd [s2] (h.Class : List Int)] := St.enter (by
   intro f hf
   simp only [List.mem_cons, List.not_mem_nil, or_false] at hf
   rcases hf with rfl | rfl
   · exact h1
   · exact h2)
 refine calls_cw (args := [_, _]) Tryz.func131 rfl Tryz.ntmps131 rfl ?_
 unfold spec_l7Class at hF
 intro a hA
 refine cw_seq ?_
 refine cw_ops hA ?_
 clear hA
 refine ops_mv (rv_box (cs := [s1, s2]) hS rfl rfl rfl) (want_yes rfl) rfl rfl ?_
 clear hS
 rintro _ w ⟨b1, rfl, hS⟩
 refine oy (rv_assign rfl rfl) rfl ?_
 refine ops_nil fun a hA => ?_
 refine cw_seq ?_
 refine cw_ops hA ?_
 clear hA
 refine oy (rv_move rfl rfl) rfl ?_
 obtain ⟨x1, hx1, hF⟩ := bindE hF
 refine ops_c (rc_call Tryz.call153 rfl rfl) (want_yes rfl) rfl rfl (c_spec_PageOf (slot := slot)  hx1) ?_
 rintro _ w ⟨rfl, hk⟩
 replace hS := hS.after hk; clear hk
 refine oy (rv_assign rfl rfl) rfl ?_
 refine ops_nil fun a hA => ?_
 refine cw_seq ?_
 refine cw_seq ?_
 refine cw_cut (J := fun a' w' => ∃ (x2 : Bool), spec_l7Class_j1 h x1 x2 = some r ∧ AEnv 34 [(2, .pointer (some ⟨b1, 0, none⟩)), (5, .int .i64 (x1)), (28, .bool (x2))] a' ∧ St (cxAll w0) w' [cBox b1 [s1, s2]] [fRd [s1] (h.Bytes : List Int), fRd [s2] (h.Class : List Int)]) ?_ ?_
 ·skip
  refine cw_any (Keeps (cxAll w0) [cBox b1 [s1, s2]] [fRd [s1] (h.Bytes : List Int), fRd [s2] (h.Class : List Int)]) mixed_Tryz hA hS ?_
  clear hA hS; intro w hS
  have hK : Keeps (cxAll w0) [cBox b1 [s1, s2]] [fRd [s1] (h.Bytes : List Int), fRd [s2] (h.Class : List Int)] w := ⟨_, (hS.sel [0] rfl).selR [0, 1] rfl⟩
  refine ey 0 rfl (by kernel_rfl) hK (fun _ _ _ => (rv_move rfl rfl)) rfl ?_
  refine ey 1 rfl (by kernel_rfl) hK (fun _ _ _ => (rv_lss rfl rfl rfl)) rfl ?_
  refine ey 2 rfl (by kernel_rfl) hK (fun _ _ _ => (rv_move rfl rfl)) rfl ?_
  refine any_case (s := 10) rfl (fun hc2 => ?_) (fun hc2 => ?_)
  ·replace hF := iteT hc2 hF
   refine any_off 3 (by kernel_rfl) rfl (by kernel_rfl) (by kernel_rfl) hK (want_if rfl rfl rfl (by rw [hc2]; rfl)) rfl rfl ?_
   refine any_off 4 (by kernel_rfl) rfl (by kernel_rfl) (by kernel_rfl) hK (want_if rfl rfl rfl (by rw [hc2]; rfl)) rfl rfl ?_
   refine any_off 5 (by kernel_rfl) rfl (by kernel_rfl) (by kernel_rfl) hK (want_if rfl rfl rfl (by rw [hc2]; rfl)) rfl rfl ?_
   refine any_off 6 (by kernel_rfl) rfl (by kernel_rfl) (by kernel_rfl) hK (want_if rfl rfl rfl (by rw [hc2]; rfl)) rfl rfl ?_
   refine any_off 7 (by kernel_rfl) rfl (by kernel_rfl) (by kernel_rfl) hK (want_if rfl rfl rfl (by rw [hc2]; rfl)) rfl rfl ?_
   refine any_off 8 (by kernel_rfl) rfl (by kernel_rfl) (by kernel_rfl) hK (want_if rfl rfl rfl (by rw [hc2]; rfl)) rfl rfl ?_
   refine ey 9 rfl (by kernel_rfl) hK (fun _ _ _ => (rv_pick_t rfl rfl hc2 rfl)) rfl ?_
   refine ey 10 rfl (by kernel_rfl) hK (fun _ _ _ => (rv_move rfl rfl)) rfl ?_
   refine any_off 11 (by kernel_rfl) rfl (by kernel_rfl) (by kernel_rfl) hK (want_if rfl rfl rfl rfl) rfl rfl ?_
   refine any_off 12 (by kernel_rfl) rfl (by kernel_rfl) (by kernel_rfl) hK (want_if rfl rfl rfl rfl) rfl rfl ?_
   refine any_off 13 (by kernel_rfl) rfl (by kernel_rfl) (by kernel_rfl) hK (want_if rfl rfl rfl rfl) rfl rfl ?_
   refine any_off 14 (by kernel_rfl) rfl (by kernel_rfl) (by kernel_rfl) hK (want_if rfl rfl rfl rfl) rfl rfl ?_
   refine any_off 15 (by kernel_rfl) rfl (by kernel_rfl) (by kernel_rfl) hK (want_if rfl rfl rfl rfl) rfl rfl ?_
   refine any_off 16 (by kernel_rfl) rfl (by kernel_rfl) (by kernel_rfl) hK (want_if rfl rfl rfl rfl) rfl rfl ?_
   refine any_off 17 (by kernel_rfl) rfl (by kernel_rfl) (by kernel_rfl) hK (want_if rfl rfl rfl rfl) rfl rfl ?_
   refine any_off 18 (by kernel_rfl) rfl (by kernel_rfl) (by kernel_rfl) hK (want_if rfl rfl rfl rfl) rfl rfl ?_
   refine any_off 19 (by kernel_rfl) rfl (by kernel_rfl) (by kernel_rfl) hK (want_if rfl rfl rfl rfl) rfl rfl ?_
   refine ey 20 rfl (by kernel_rfl) hK (fun _ _ _ => (rv_pick_t rfl rfl rfl rfl)) rfl ?_
   refine any_done (by kernel_rfl) ?_
   intro a hA
   exact ⟨true, hF, hA.part ⟨rfl, rfl, rfl, trivial⟩, ((hS).sel [0] rfl).selR [0, 1] rfl⟩
  ·replace hF := iteF hc2 hF
   refine any_v 3 (by kernel_rfl) rfl (by kernel_rfl) (by kernel_rfl) hK (fun _ _ => (rv_fld (m := 0) Tryz.underlying38 rfl rfl Tryz.sizeOf22 rfl rfl)) (want_if rfl rfl rfl (by rw [hc2]; rfl)) rfl rfl ?_
   refine any_v 4 (by kernel_rfl) rfl (by kernel_rfl) (by kernel_rfl) hK (fun w hk => by obtain ⟨_, hS⟩ := hk; exact (rv_load1 rfl rfl Tryz.isAgg22 (hS.cell 0 rfl rfl))) (want_if rfl rfl rfl (by rw [hc2]; rfl)) rfl rfl ?_
   refine any_v 5 (by kernel_rfl) rfl (by kernel_rfl) (by kernel_rfl) hK (fun _ _ => (rv_move rfl rfl)) (want_if rfl rfl rfl (by rw [hc2]; rfl)) rfl rfl ?_
   obtain ⟨x4, hx4, hF⟩ := bindE hF
   refine any_v 6 (by kernel_rfl) rfl (by kernel_rfl) (by kernel_rfl) hK (fun w hk => by obtain ⟨_, hS⟩ := hk; exact (rv_idx (m := 1) (hS.rd 1 rfl) rfl hx4 Tryz.underlying22 Tryz.sizeOf3 rfl rfl rfl)) (want_if rfl rfl rfl (by rw [hc2]; rfl)) rfl rfl ?_
   refine any_v 7 (by kernel_rfl) rfl (by kernel_rfl) (by kernel_rfl) hK (fun w hk => by obtain ⟨_, hS⟩ := hk; exact (rv_load1 rfl rfl Tryz.isAgg3 (cell1 (el_Int (hS.rd 1 rfl) (idx_some hx4).2.2)))) (want_if rfl rfl rfl (by rw [hc2]; rfl)) rfl rfl ?_
   refine any_v 8 (by kernel_rfl) rfl (by kernel_rfl) (by kernel_rfl) hK (fun _ _ => (rv_lss rfl rfl rfl)) (want_if rfl rfl rfl (by rw [hc2]; rfl)) rfl rfl ?_
   refine ey 9 rfl (by kernel_rfl) hK (fun _ _ _ => (rv_pick_f rfl rfl hc2 rfl)) rfl ?_
   refine ey 10 rfl (by kernel_rfl) hK (fun _ _ _ => (rv_move rfl rfl)) rfl ?_
   refine any_case (s := 18) rfl (fun hc3 => ?_) (fun hc3 => ?_)
   ·replace hF := iteT hc3 hF
    refine any_off 11 (by kernel_rfl) rfl (by kernel_rfl) (by kernel_rfl) hK (want_if rfl rfl rfl (by rw [hc3]; rfl)) rfl rfl ?_
    refine any_off 12 (by kernel_rfl) rfl (by kernel_rfl) (by kernel_rfl) hK (want_if rfl rfl rfl (by rw [hc3]; rfl)) rfl rfl ?_
    refine any_off 13 (by kernel_rfl) rfl (by kernel_rfl) (by kernel_rfl) hK (want_if rfl rfl rfl (by rw [hc3]; rfl)) rfl rfl ?_
    refine any_off 14 (by kernel_rfl) rfl (by kernel_rfl) (by kernel_rfl) hK (want_if rfl rfl rfl (by rw [hc3]; rfl)) rfl rfl ?_
    refine any_off 15 (by kernel_rfl) rfl (by kernel_rfl) (by kernel_rfl) hK (want_if rfl rfl rfl (by rw [hc3]; rfl)) rfl rfl ?_
    refine any_off 16 (by kernel_rfl) rfl (by kernel_rfl) (by kernel_rfl) hK (want_if rfl rfl rfl (by rw [hc3]; rfl)) rfl rfl ?_
    refine any_off 17 (by kernel_rfl) rfl (by kernel_rfl) (by kernel_rfl) hK (want_if rfl rfl rfl (by rw [hc3]; rfl)) rfl rfl ?_
    refine any_off 18 (by kernel_rfl) rfl (by kernel_rfl) (by kernel_rfl) hK (want_if rfl rfl rfl (by rw [hc3]; rfl)) rfl rfl ?_
    refine any_off 19 (by kernel_rfl) rfl (by kernel_rfl) (by kernel_rfl) hK (want_if rfl rfl rfl (by rw [hc3]; rfl)) rfl rfl ?_
    refine ey 20 rfl (by kernel_rfl) hK (fun _ _ _ => (rv_pick_t rfl rfl hc3 rfl)) rfl ?_
    refine any_done (by kernel_rfl) ?_
    intro a hA
    exact ⟨true, hF, hA.part ⟨rfl, rfl, rfl, trivial⟩, ((hS).sel [0] rfl).selR [0, 1] rfl⟩
   ·replace hF := iteF hc3 hF
    refine any_v 11 (by kernel_rfl) rfl (by kernel_rfl) (by kernel_rfl) hK (fun _ _ => (rv_move rfl rfl)) (want_if rfl rfl rfl (by rw [hc3]; rfl)) rfl rfl ?_
    refine any_v 13 (by kernel_rfl) rfl (by kernel_rfl) (by kernel_rfl) hK (fun _ _ => (rv_fld (m := 0) Tryz.underlying38 rfl rfl Tryz.sizeOf22 rfl rfl)) (want_if rfl rfl rfl (by rw [hc3]; rfl)) rfl rfl ?_
    refine any_v 14 (by kernel_rfl) rfl (by kernel_rfl) (by kernel_rfl) hK (fun w hk => by obtain ⟨_, hS⟩ := hk; exact (rv_load1 rfl rfl Tryz.isAgg22 (hS.cell 0 rfl rfl))) (want_if rfl rfl rfl (by rw [hc3]; rfl)) rfl rfl ?_
    refine any_v 15 (by kernel_rfl) rfl (by kernel_rfl) (by kernel_rfl) hK (fun _ _ => (rv_move rfl rfl)) (want_if rfl rfl rfl (by rw [hc3]; rfl)) rfl rfl ?_
    obtain ⟨x5, hx5, hF⟩ := bindE hF
    refine any_v 16 (by kernel_rfl) rfl (by kernel_rfl) (by kernel_rfl) hK (fun w hk => by obtain ⟨_, hS⟩ := hk; exact (rv_idx (m := 1) (hS.rd 1 rfl) rfl hx5 Tryz.underlying22 Tryz.sizeOf3 rfl rfl rfl)) (want_if rfl rfl rfl (by rw [hc3]; rfl)) rfl rfl ?_
    refine any_v 17 (by kernel_rfl) rfl (by kernel_rfl) (by kernel_rfl) hK (fun w hk => by obtain ⟨_, hS⟩ := hk; exact (rv_load1 rfl rfl Tryz.isAgg3 (cell1 (el_Int (hS.rd 1 rfl) (idx_some hx5).2.2)))) (want_if rfl rfl rfl (by rw [hc3]; rfl)) rfl rfl ?_
    refine any_1 (i := 12) (by kernel_rfl) ?_
    obtain ⟨x6, hx6, hF⟩ := bindE hF
    refine as_c rfl (rc_call Tryz.call154 rfl rfl) (want_if rfl rfl rfl (by rw [hc3]; rfl)) rfl rfl (c_spec_IndexOf (slot := slot)  hx6) ?_
    clear hK; rintro _ w ⟨rfl, hk⟩
    replace hS := hS.after hk; clear hk
    have hK := keepsI ((hS.sel [0] rfl).selR [0, 1] rfl)
    refine ⟨hK, ?_⟩
    refine any_1 (i := 18) (by kernel_rfl) ?_
    obtain ⟨x7, hx7, hF⟩ := bindE hF
    refine as_c rfl (rc_call Tryz.call151 rfl rfl) (want_if rfl rfl rfl (by rw [hc3]; rfl)) rfl rfl (c_spec_PerPage (c := x5)  hx7) ?_
    clear hK; rintro _ w ⟨rfl, hk⟩
    replace hS := hS.after hk; clear hk
    have hK := keepsI ((hS.sel [0] rfl).selR [0, 1] rfl)
    refine ⟨hK, ?_⟩
    refine any_v 19 (by kernel_rfl) rfl (by kernel_rfl) (by kernel_rfl) hK (fun _ _ => (rv_geq rfl rfl rfl)) (want_if rfl rfl rfl (by rw [hc3]; rfl)) rfl rfl ?_
    refine ey 20 rfl (by kernel_rfl) hK (fun _ _ _ => (rv_pick_f rfl rfl hc3 rfl)) rfl ?_
    refine any_done (by kernel_rfl) ?_
    intro a hA
    exact ⟨decide (x7 ≤ x6), hF, hA.part ⟨rfl, rfl, rfl, trivial⟩, ((hS).sel [0] rfl).selR [0, 1] rfl⟩
 ·skip
  clear hA hS hF
  rintro a w ⟨x2, hF, hA, hS⟩
  unfold spec_l7Class_j1 at hF
  refine cw_cond hA rfl (fun hc1 => ?_) (fun hc1 => ?_)
  ·replace hF := iteT hc1 hF
   refine cw_seq ?_
   refine cw_ops hA ?_
   clear hA
   refine oy (rv_assign rfl rfl) rfl ?_
   refine ops_nil fun a hA => ?_
   refine cw_ret ?_
   cases hF
   exact fy Tryz.results131 hA rfl hS
  ·replace hF := iteF hc1 hF
   refine cw_skip ?_
   refine cw_seq ?_
   refine cw_ops hA ?_
   clear hA
   refine oy (rv_fld (m := 0) Tryz.underlying38 rfl rfl Tryz.sizeOf22 rfl rfl) rfl ?_
   refine oy (rv_load1 rfl rfl Tryz.isAgg22 (hS.cell 0 rfl rfl)) rfl ?_
   refine oy (rv_move rfl rfl) rfl ?_
   obtain ⟨x3, hx3, hF⟩ := bindE hF
   refine oy (rv_idx (m := 1) (hS.rd 1 rfl) rfl hx3 Tryz.underlying22 Tryz.sizeOf3 rfl rfl rfl) rfl ?_
   refine oy (rv_load1 rfl rfl Tryz.isAgg3 (cell1 (el_Int (hS.rd 1 rfl) (idx_some hx3).2.2))) rfl ?_
   refine oy (rv_assign rfl rfl) rfl ?_
   refine ops_nil fun a hA => ?_
   refine cw_ret ?_
   cases hF
   exact fy Tryz.results131 hA rfl hS

set_option maxHeartbeats 4000000 in
set_option maxRecDepth 100000 in
theorem c_spec_l7Gen {w0 : World} {h : Heap} {slot : Int} {s1 : Value} {s2 : Value} {r : Int} (h1 : Rep.rd (All w0) w0 [s1] (h.Bytes : List Int)) (h2 : Rep.rd (All w0) w0 [s2] (h.Class : List Int)) (hF : spec_l7Gen h slot = some r) :
    Calls Tryz.prog 103 #[.agg #[s1, s2], .int .i64 (slot)] w0 (Ret fun v w' => v = .int .i64 (r) ∧ St (cxAll w0) w' [] []) := by
 have hS : St (cxAll w0) w0 [] [fRd [s1] (h.Bytes : List Int), fRd [s2] (h.Class : List Int)] := St.enter (by
   intro f hf
   simp only [List.mem_cons, List.not_mem_nil, or_false] at hf
   rcases hf with rfl | rfl
   · exact h1
   · exact h2)
 refine calls_cw (args := [_, _]) Tryz.func103 rfl Tryz.ntmps103 rfl ?_
 unfold spec_l7Gen at hF
 intro a hA
 refine cw_seq ?_
 refine cw_ops hA ?_
 clear hA
 refine ops_mv (rv_box (cs := [s1, s2]) hS rfl rfl rfl) (want_yes rfl) rfl rfl ?_
 clear hS
 rintro _ w ⟨b1, rfl, hS⟩
 refine oy (rv_assign rfl rfl) rfl ?_
 refine ops_nil fun a hA => ?_
 refine cw_seq ?_
 refine cw_any (Keeps (cxAll w0) [cBox b1 [s1, s2]] [fRd [s1] (h.Bytes : List Int), fRd [s2] (h.Class : List Int)]) mixed_Tryz hA hS ?_
 clear hA hS; intro w hS
 have hK : Keeps (cxAll w0) [cBox b1 [s1, s2]] [fRd [s1] (h.Bytes : List Int), fRd [s2] (h.Class : List Int)] w := ⟨_, (hS.sel [0] rfl).selR [0, 1] rfl⟩
 refine ey 0 rfl (by kernel_rfl) hK (fun _ _ _ => (rv_fld (m := 0) Tryz.underlying38 rfl rfl Tryz.sizeOf22 rfl rfl)) rfl ?_
 refine ey 1 rfl (by kernel_rfl) hK (fun _ _ hS => (rv_load1 rfl rfl Tryz.isAgg22 (hS.cell 0 rfl rfl))) rfl ?_
 refine ey 2 rfl (by kernel_rfl) hK (fun _ _ _ => (rv_move rfl rfl)) rfl ?_
 refine ey 3 rfl (by kernel_rfl) hK (fun _ _ hS => (rv_loadN rfl rfl Tryz.isAgg38 Tryz.sizeOf38 rfl (hS.cells 0 0 (cs' := [s1, s2]) rfl rfl))) rfl ?_
 refine ey 4 rfl (by kernel_rfl) hK (fun _ _ _ => (rv_move rfl rfl)) rfl ?_
 refine any_1 (i := 5) (by kernel_rfl) ?_
 obtain ⟨x1, hx1, hF⟩ := bindE hF
 refine as_c rfl (rc_call Tryz.call131 rfl rfl) (want_yes rfl) rfl rfl (c_spec_l7Class (h := h) (slot := slot) (hS.rd 0 rfl) (hS.rd 1 rfl) hx1) ?_
 clear hK; rintro _ w ⟨rfl, hk⟩
 replace hS := hS.after hk; clear hk
 have hK := keepsI ((hS.sel [0] rfl).selR [0, 1] rfl)
 refine ⟨hK, ?_⟩
 refine any_1 (i := 6) (by kernel_rfl) ?_
 obtain ⟨x2, hx2, hF⟩ := bindE hF
 refine as_c rfl (rc_call Tryz.call134 rfl rfl) (want_yes rfl) rfl rfl (c_spec_GenAt (slot := slot) (c := x1)  hx2) ?_
 clear hK; rintro _ w ⟨rfl, hk⟩
 replace hS := hS.after hk; clear hk
 have hK := keepsI ((hS.sel [0] rfl).selR [0, 1] rfl)
 refine ⟨hK, ?_⟩
 refine any_1 (i := 7) (by kernel_rfl) ?_
 obtain ⟨x3, hx3, hF⟩ := bindE hF
 refine as_c rfl (rc_call Tryz.call133 rfl rfl) (want_yes rfl) rfl rfl (c_spec_l3Load (b := h.Bytes) (at_ := x2) (width := 4) (hS.rd 0 rfl) hx3) ?_
 clear hK; rintro _ w ⟨rfl, hk⟩
 replace hS := hS.after hk; clear hk
 have hK := keepsI ((hS.sel [0] rfl).selR [0, 1] rfl)
 refine ⟨hK, ?_⟩
 refine ey 8 rfl (by kernel_rfl) hK (fun _ _ _ => (rv_assign rfl rfl)) rfl ?_
 refine any_done (by kernel_rfl) ?_
 intro a hA
 refine cw_ret ?_
 cases hF
 exact fy Tryz.results103 hA rfl hS

set_option maxHeartbeats 4000000 in
set_option maxRecDepth 100000 in
theorem c_spec_l9Listed {w0 : World} {h : Heap} {l : List Int} {c : Int} {s1 : Value} {s2 : Value} {s3 : Value} {r : Bool} (h1 : Rep.rd (All w0) w0 [s1] (h.Bytes : List Int)) (h2 : Rep.rd (All w0) w0 [s2] (h.Class : List Int)) (h3 : Rep.rd (All w0) w0 [s3] (l : List Int)) (hF : spec_l9Listed h l c = some r) :
    Calls Tryz.prog 97 #[.agg #[s1, s2], s3, .int .i64 (c)] w0 (Ret fun v w' => v = .bool (r) ∧ St (cxAll w0) w' [] []) := by
 have hS : St (cxAll w0) w0 [] [fRd [s1] (h.Bytes : List Int), fRd [s2] (h.Class : List Int), fRd [s3] (l : List Int)] := St.enter (by
   intro f hf
   simp only [List.mem_cons, List.not_mem_nil, or_false] at hf
   rcases hf with rfl | rfl | rfl
   · exact h1
   · exact h2
   · exact h3)
 refine calls_cw (args := [_, _, _]) Tryz.func97 rfl Tryz.ntmps97 rfl ?_
 unfold spec_l9Listed at hF
 intro a hA
 refine cw_seq ?_
 refine cw_ops hA ?_
 clear hA
 refine ops_mv (rv_box (cs := [s1, s2]) hS rfl rfl rfl) (want_yes rfl) rfl rfl ?_
 clear hS
 rintro _ w ⟨b1, rfl, hS⟩
 refine oy (rv_assign rfl rfl) rfl ?_
 refine ops_nil fun a hA => ?_
 refine cw_seq ?_
 refine cw_seq ?_
 refine cw_ops hA ?_
 clear hA
 refine oy (rv_assign rfl rfl) rfl ?_
 refine ops_nil fun a hA => ?_
 obtain ⟨o1, hl1, hF⟩ := bindE hF
 refine cw_cut (J := fun a' w' => o1 = Out.brk (()) ∧ AEnv 31 [] a' ∧ St (cxAll w0) w' [] []) ?_ ?_
 ·refine cw_block ?_
  refine cw_loop (body := spec_l9Listed_l1 h l c) (r := o1) (fun sg a' w' => AEnv 31 [(1, s3), (2, .int .i64 (c)), (3, .pointer (some ⟨b1, 0, none⟩)), (7, .int .i64 (sg))] a' ∧ St (cxAll w0) w' [cBox b1 [s1, s2]] [fRd [s3] (l : List Int), fRd [s1] (h.Bytes : List Int), fRd [s2] (h.Class : List Int)]) ?_ hl1 ⟨hA.part ⟨rfl, rfl, rfl, rfl, trivial⟩, ((hS).sel [0] rfl).selR [2, 0, 1] rfl⟩
  clear hA hS hl1
  rintro x2 a w q1 ⟨hA, hS⟩ hG1 hr1
  try dsimp only at hA hS
  unfold spec_l9Listed_l1 at hG1
  refine cw_seq ?_
  refine cw_seq ?_
  refine cw_ops hA ?_
  clear hA
  refine oy (rv_move rfl rfl) rfl ?_
  refine oy (rv_move rfl rfl) rfl ?_
  refine oy (rv_lenS (hS.rd 0 rfl) Tryz.underlying22 rfl rfl) rfl ?_
  refine oy (rv_lss rfl rfl rfl) rfl ?_
  refine ops_nil fun a hA => ?_
  refine cw_cond hA rfl (fun hc1 => ?_) (fun hc1 => ?_)
  ·replace hG1 := iteT hc1 hG1
   refine cw_skip ?_
   refine cw_seq ?_
   refine cw_block ?_
   refine cw_seq ?_
   refine cw_cut (J := fun a' w' => ∃ (x3 : Bool), spec_l9Listed_j2 x2 x3 = some q1 ∧ AEnv 31 [(1, s3), (2, .int .i64 (c)), (3, .pointer (some ⟨b1, 0, none⟩)), (7, .int .i64 (x2)), (30, .bool (x3))] a' ∧ St (cxAll w0) w' [cBox b1 [s1, s2]] [fRd [s3] (l : List Int), fRd [s1] (h.Bytes : List Int), fRd [s2] (h.Class : List Int)]) ?_ ?_
   ·skip
    refine cw_any (Keeps (cxAll w0) [cBox b1 [s1, s2]] [fRd [s3] (l : List Int), fRd [s1] (h.Bytes : List Int), fRd [s2] (h.Class : List Int)]) mixed_Tryz hA hS ?_
    clear hA hS; intro w hS
    have hK : Keeps (cxAll w0) [cBox b1 [s1, s2]] [fRd [s3] (l : List Int), fRd [s1] (h.Bytes : List Int), fRd [s2] (h.Class : List Int)] w := ⟨_, (hS.sel [0] rfl).selR [0, 1, 2] rfl⟩
    refine ey 0 rfl (by kernel_rfl) hK (fun _ _ hS => (rv_loadN rfl rfl Tryz.isAgg38 Tryz.sizeOf38 rfl (hS.cells 0 0 (cs' := [s1, s2]) rfl rfl))) rfl ?_
    refine ey 1 rfl (by kernel_rfl) hK (fun _ _ _ => (rv_move rfl rfl)) rfl ?_
    refine ey 2 rfl (by kernel_rfl) hK (fun _ _ _ => (rv_move rfl rfl)) rfl ?_
    obtain ⟨x4, hx4, hG1⟩ := bindE hG1
    refine ey 3 rfl (by kernel_rfl) hK (fun _ _ hS => (rv_idx (m := 1) (hS.rd 0 rfl) rfl hx4 Tryz.underlying22 Tryz.sizeOf3 rfl rfl rfl)) rfl ?_
    refine ey 4 rfl (by kernel_rfl) hK (fun _ _ hS => (rv_load1 rfl rfl Tryz.isAgg3 (cell1 (el_Int (hS.rd 0 rfl) (idx_some hx4).2.2)))) rfl ?_
    refine ey 6 rfl (by kernel_rfl) hK (fun _ _ _ => (rv_move rfl rfl)) rfl ?_
    refine any_1 (i := 5) (by kernel_rfl) ?_
    obtain ⟨x5, hx5, hG1⟩ := bindE hG1
    refine as_c rfl (rc_call Tryz.call131 rfl rfl) (want_yes rfl) rfl rfl (c_spec_l7Class (h := h) (slot := x4) (hS.rd 1 rfl) (hS.rd 2 rfl) hx5) ?_
    clear hK; rintro _ w ⟨rfl, hk⟩
    replace hS := hS.after hk; clear hk
    have hK := keepsI ((hS.sel [0] rfl).selR [0, 1, 2] rfl)
    refine ⟨hK, ?_⟩
    refine ey 7 rfl (by kernel_rfl) hK (fun _ _ _ => (rv_neq rfl rfl rfl)) rfl ?_
    refine ey 8 rfl (by kernel_rfl) hK (fun _ _ _ => (rv_move rfl rfl)) rfl ?_
    refine any_case (s := 22) rfl (fun hc3 => ?_) (fun hc3 => ?_)
    ·replace hG1 := iteT hc3 hG1
     refine any_off 9 (by kernel_rfl) rfl (by kernel_rfl) (by kernel_rfl) hK (want_if rfl rfl rfl (by rw [hc3]; rfl)) rfl rfl ?_
     refine any_off 10 (by kernel_rfl) rfl (by kernel_rfl) (by kernel_rfl) hK (want_if rfl rfl rfl (by rw [hc3]; rfl)) rfl rfl ?_
     refine any_off 11 (by kernel_rfl) rfl (by kernel_rfl) (by kernel_rfl) hK (want_if rfl rfl rfl (by rw [hc3]; rfl)) rfl rfl ?_
     refine any_off 12 (by kernel_rfl) rfl (by kernel_rfl) (by kernel_rfl) hK (want_if rfl rfl rfl (by rw [hc3]; rfl)) rfl rfl ?_
     refine any_off 13 (by kernel_rfl) rfl (by kernel_rfl) (by kernel_rfl) hK (want_if rfl rfl rfl (by rw [hc3]; rfl)) rfl rfl ?_
     refine any_off 14 (by kernel_rfl) rfl (by kernel_rfl) (by kernel_rfl) hK (want_if rfl rfl rfl (by rw [hc3]; rfl)) rfl rfl ?_
     refine any_off 15 (by kernel_rfl) rfl (by kernel_rfl) (by kernel_rfl) hK (want_if rfl rfl rfl (by rw [hc3]; rfl)) rfl rfl ?_
     refine ey 16 rfl (by kernel_rfl) hK (fun _ _ _ => (rv_pick_t rfl rfl hc3 rfl)) rfl ?_
     refine any_done (by kernel_rfl) ?_
     intro a hA
     exact ⟨true, hG1, hA.part ⟨rfl, rfl, rfl, rfl, rfl, trivial⟩, ((hS).sel [0] rfl).selR [0, 1, 2] rfl⟩
    ·replace hG1 := iteF hc3 hG1
     refine any_v 9 (by kernel_rfl) rfl (by kernel_rfl) (by kernel_rfl) hK (fun w hk => by obtain ⟨_, hS⟩ := hk; exact (rv_loadN rfl rfl Tryz.isAgg38 Tryz.sizeOf38 rfl (hS.cells 0 0 (cs' := [s1, s2]) rfl rfl))) (want_if rfl rfl rfl (by rw [hc3]; rfl)) rfl rfl ?_
     refine any_v 10 (by kernel_rfl) rfl (by kernel_rfl) (by kernel_rfl) hK (fun _ _ => (rv_move rfl rfl)) (want_if rfl rfl rfl (by rw [hc3]; rfl)) rfl rfl ?_
     refine any_v 11 (by kernel_rfl) rfl (by kernel_rfl) (by kernel_rfl) hK (fun _ _ => (rv_move rfl rfl)) (want_if rfl rfl rfl (by rw [hc3]; rfl)) rfl rfl ?_
     obtain ⟨x6, hx6, hG1⟩ := bindE hG1
     refine any_v 12 (by kernel_rfl) rfl (by kernel_rfl) (by kernel_rfl) hK (fun w hk => by obtain ⟨_, hS⟩ := hk; exact (rv_idx (m := 1) (hS.rd 0 rfl) rfl hx6 Tryz.underlying22 Tryz.sizeOf3 rfl rfl rfl)) (want_if rfl rfl rfl (by rw [hc3]; rfl)) rfl rfl ?_
     refine any_v 13 (by kernel_rfl) rfl (by kernel_rfl) (by kernel_rfl) hK (fun w hk => by obtain ⟨_, hS⟩ := hk; exact (rv_load1 rfl rfl Tryz.isAgg3 (cell1 (el_Int (hS.rd 0 rfl) (idx_some hx6).2.2)))) (want_if rfl rfl rfl (by rw [hc3]; rfl)) rfl rfl ?_
     refine any_1 (i := 14) (by kernel_rfl) ?_
     obtain ⟨x7, hx7, hG1⟩ := bindE hG1
     refine as_c rfl (rc_call Tryz.call103 rfl rfl) (want_if rfl rfl rfl (by rw [hc3]; rfl)) rfl rfl (c_spec_l7Gen (h := h) (slot := x6) (hS.rd 1 rfl) (hS.rd 2 rfl) hx7) ?_
     clear hK; rintro _ w ⟨rfl, hk⟩
     replace hS := hS.after hk; clear hk
     have hK := keepsI ((hS.sel [0] rfl).selR [0, 1, 2] rfl)
     refine ⟨hK, ?_⟩
     refine any_v 15 (by kernel_rfl) rfl (by kernel_rfl) (by kernel_rfl) hK (fun _ _ => (rv_gtr rfl rfl rfl)) (want_if rfl rfl rfl (by rw [hc3]; rfl)) rfl rfl ?_
     refine ey 16 rfl (by kernel_rfl) hK (fun _ _ _ => (rv_pick_f rfl rfl hc3 rfl)) rfl ?_
     refine any_done (by kernel_rfl) ?_
     intro a hA
     exact ⟨decide (6 < x7), hG1, hA.part ⟨rfl, rfl, rfl, rfl, rfl, trivial⟩, ((hS).sel [0] rfl).selR [0, 1, 2] rfl⟩
   ·skip
    clear hA hS hG1
    rintro a w ⟨x3, hG1, hA, hS⟩
    unfold spec_l9Listed_j2 at hG1
    refine cw_cond hA rfl (fun hc2 => ?_) (fun hc2 => ?_)
    ·replace hG1 := iteT hc2 hG1
     refine cw_seq ?_
     refine cw_ops hA ?_
     clear hA
     refine oy (rv_assign rfl rfl) rfl ?_
     refine ops_nil fun a hA => ?_
     refine cw_ret ?_
     cases hG1
     have ho := hr1 _ rfl; subst ho
     replace hF : some false = some r := hF
     cases hF
     exact fy Tryz.results97 hA rfl hS
    ·replace hG1 := iteF hc2 hG1
     refine cw_skip ?_
     refine cw_ops hA ?_
     clear hA
     refine oy (rv_move rfl rfl) rfl ?_
     refine oy (rv_add rfl rfl rfl) rfl ?_
     refine oy (rv_assign rfl rfl) rfl ?_
     refine ops_nil fun a hA => ?_
     cases hG1
     exact ⟨_, rfl, ⟨hA.part ⟨rfl, rfl, rfl, rfl, trivial⟩, ((hS).sel [0] rfl).selR [0, 1, 2] rfl⟩⟩
  ·replace hG1 := iteF hc1 hG1
   refine cw_exit ?_
   refine xcons_hit ?_
   cases hG1
   have ho := hr1 _ rfl; subst ho
   exact ⟨rfl, hA.part trivial, ((hS).sel [] rfl).selR [] rfl⟩
 ·skip
  clear hA hS hl1
  rintro a w ⟨heq, hA, hS⟩
  replace hF : spec_l9Listed_j1 = some r := by rw [heq] at hF; exact hF
  clear heq
  unfold spec_l9Listed_j1 at hF
  refine cw_seq ?_
  refine cw_ops hA ?_
  clear hA
  refine oy (rv_assign rfl rfl) rfl ?_
  refine ops_nil fun a hA => ?_
  refine cw_ret ?_
  cases hF
  exact fy Tryz.results97 hA rfl hS

set_option maxHeartbeats 4000000 in
set_option maxRecDepth 100000 in
theorem c_spec_OwnAt {w0 : World} {w_ : Int} {c : Int}  {r : Int}  (hF : spec_OwnAt w_ c = some r) :
    Calls Tryz.prog 98 #[.int .i64 (w_), .int .i64 (c)] w0 (Ret fun v w' => v = .int .i64 (r) ∧ St (cxAll w0) w' [] []) := by
 have hS : St (cxAll w0) w0 [] [] := St.enter (by
   intro f hf; cases hf)
 refine calls_cw (args := [_, _]) Tryz.func98 rfl Tryz.ntmps98 rfl ?_
 unfold spec_OwnAt at hF
 intro a hA
 refine cw_seq ?_
 refine cw_ops hA ?_
 clear hA
 refine oy (rv_assign rfl rfl) rfl ?_
 refine ops_nil fun a hA => ?_
 refine cw_seq ?_
 refine cw_seq ?_
 refine cw_cut (J := fun a' w' => ∃ (x1 : Bool), spec_OwnAt_j1 w_ c x1 = some r ∧ AEnv 17 [(0, .int .i64 (w_)), (1, .int .i64 (c)), (12, .bool (x1))] a' ∧ St (cxAll w0) w' [] []) ?_ ?_
 ·skip
  refine cw_ops hA ?_
  clear hA
  refine oy (rv_move rfl rfl) rfl ?_
  obtain ⟨x2, hx2, hF⟩ := bindE hF
  refine ops_c (rc_call Tryz.call60 rfl rfl) (want_yes rfl) rfl rfl (c_spec_l1In (x := w_) (low := 0) (high := 2)  hx2) ?_
  rintro _ w ⟨rfl, hk⟩
  replace hS := hS.after hk; clear hk
  refine oy (rv_not rfl rfl) rfl ?_
  refine oy (rv_move rfl rfl) rfl ?_
  refine ops_case (s := 8) rfl (fun hc2 => ?_) (fun hc2 => ?_)
  ·replace hF := iteT hc2 hF
   refine ops_off (want_if rfl rfl rfl (by rw [hc2]; rfl)) rfl rfl ?_
   refine ops_off (want_if rfl rfl rfl (by rw [hc2]; rfl)) rfl rfl ?_
   refine ops_off (want_if rfl rfl rfl (by rw [hc2]; rfl)) rfl rfl ?_
   refine oy (rv_pick_t rfl rfl hc2 rfl) rfl ?_
   refine ops_nil fun a hA => ?_
   exact ⟨true, hF, hA.part ⟨rfl, rfl, rfl, trivial⟩, ((hS).sel [] rfl).selR [] rfl⟩
  ·replace hF := iteF hc2 hF
   refine ops_v (rv_move rfl rfl) (want_if rfl rfl rfl (by rw [hc2]; rfl)) rfl rfl ?_
   obtain ⟨x3, hx3, hF⟩ := bindE hF
   refine ops_c (rc_call Tryz.call60 rfl rfl) (want_if rfl rfl rfl (by rw [hc2]; rfl)) rfl rfl (c_spec_l1In (x := c) (low := 0) (high := 2)  hx3) ?_
   rintro _ w ⟨rfl, hk⟩
   replace hS := hS.after hk; clear hk
   refine ops_v (rv_not rfl rfl) (want_if rfl rfl rfl (by rw [hc2]; rfl)) rfl rfl ?_
   refine oy (rv_pick_f rfl rfl hc2 rfl) rfl ?_
   refine ops_nil fun a hA => ?_
   exact ⟨!x3, hF, hA.part ⟨rfl, rfl, rfl, trivial⟩, ((hS).sel [] rfl).selR [] rfl⟩
 ·skip
  clear hA hS hF
  rintro a w ⟨x1, hF, hA, hS⟩
  unfold spec_OwnAt_j1 at hF
  refine cw_cond hA rfl (fun hc1 => ?_) (fun hc1 => ?_)
  ·replace hF := iteT hc1 hF
   refine cw_seq ?_
   refine cw_ops hA ?_
   clear hA
   refine oy (rv_assign rfl rfl) rfl ?_
   refine ops_nil fun a hA => ?_
   refine cw_ret ?_
   cases hF
   exact fy Tryz.results98 hA rfl hS
  ·replace hF := iteF hc1 hF
   refine cw_skip ?_
   refine cw_seq ?_
   refine cw_ops hA ?_
   clear hA
   refine oy (rv_move rfl rfl) rfl ?_
   refine oy (rv_mul rfl rfl rfl) rfl ?_
   refine oy (rv_move rfl rfl) rfl ?_
   refine oy (rv_add rfl rfl rfl) rfl ?_
   refine oy (rv_assign rfl rfl) rfl ?_
   refine ops_nil fun a hA => ?_
   refine cw_ret ?_
   cases hF
   exact fy Tryz.results98 hA rfl hS

set_option maxHeartbeats 4000000 in
set_option maxRecDepth 100000 in
theorem c_spec_MemOk {w0 : World} {m : Mem} {s1 : Value} {s2 : Value} {s3 : Value} {s4 : Value} {r : Bool} (h1 : Rep.rd (All w0) w0 [s1] (m.Heap.Bytes : List Int)) (h2 : Rep.rd (All w0) w0 [s2] (m.Heap.Class : List Int)) (h3 : Rep.rd (All w0) w0 [s3] (m.Lists.Global : List SList)) (h4 : Rep.rd (All w0) w0 [s4] (m.Lists.Own : List SList)) (hF : spec_MemOk m = some r) :
    Calls Tryz.prog 53 #[.agg #[s1, s2, s3, s4]] w0 (Ret fun v w' => v = .bool (r) ∧ St (cxAll w0) w' [] []) := by
 have hS : St (cxAll w0) w0 [] [fRd [s1] (m.Heap.Bytes : List Int), fRd [s2] (m.Heap.Class : List Int), fRd [s3] (m.Lists.Global : List SList), fRd [s4] (m.Lists.Own : List SList)] := St.enter (by
   intro f hf
   simp only [List.mem_cons, List.not_mem_nil, or_false] at hf
   rcases hf with rfl | rfl | rfl | rfl
   · exact h1
   · exact h2
   · exact h3
   · exact h4)
 refine calls_cw (args := [_]) Tryz.func53 rfl Tryz.ntmps53 rfl ?_
 unfold spec_MemOk at hF
 intro a hA
 refine cw_seq ?_
 refine cw_ops hA ?_
 clear hA
 refine ops_mv (rv_box (cs := [s1, s2, s3, s4]) hS rfl rfl rfl) (want_yes rfl) rfl rfl ?_
 clear hS
 rintro _ w ⟨b1, rfl, hS⟩
 refine oy (rv_assign rfl rfl) rfl ?_
 refine ops_nil fun a hA => ?_
 refine cw_seq ?_
 refine cw_seq ?_
 refine cw_cut (J := fun a' w' => ∃ (x1 : Bool), spec_MemOk_j1 m x1 = some r ∧ AEnv 49 [(1, .pointer (some ⟨b1, 0, none⟩)), (14, .bool (x1))] a' ∧ St (cxAll w0) w' [cBox b1 [s1, s2, s3, s4]] [fRd [s1] (m.Heap.Bytes : List Int), fRd [s2] (m.Heap.Class : List Int), fRd [s3] (m.Lists.Global : List SList), fRd [s4] (m.Lists.Own : List SList)]) ?_ ?_
 ·skip
  refine cw_ops hA ?_
  clear hA
  refine oy (rv_fld (m := 1) Tryz.underlying43 rfl rfl Tryz.sizeOf38 rfl rfl) rfl ?_
  refine oy (rv_loadN rfl rfl Tryz.isAgg38 Tryz.sizeOf38 rfl (hS.cells 0 0 (cs' := [s1, s2]) rfl rfl)) rfl ?_
  obtain ⟨x11, hx11, hF⟩ := bindE hF
  refine ops_c (rc_call Tryz.call95 rfl rfl) (want_yes rfl) rfl rfl (c_spec_HeapOk (h := m.Heap) (hS.rd 0 rfl) (hS.rd 1 rfl) hx11) ?_
  rintro _ w ⟨rfl, hk⟩
  replace hS := hS.after hk; clear hk
  refine oy (rv_not rfl rfl) rfl ?_
  refine oy (rv_move rfl rfl) rfl ?_
  refine ops_case (s := 9) rfl (fun hc6 => ?_) (fun hc6 => ?_)
  ·replace hF := iteT hc6 hF
   refine ops_off (want_if rfl rfl rfl (by rw [hc6]; rfl)) rfl rfl ?_
   refine ops_off (want_if rfl rfl rfl (by rw [hc6]; rfl)) rfl rfl ?_
   refine ops_off (want_if rfl rfl rfl (by rw [hc6]; rfl)) rfl rfl ?_
   refine ops_off (want_if rfl rfl rfl (by rw [hc6]; rfl)) rfl rfl ?_
   refine oy (rv_pick_t rfl rfl hc6 rfl) rfl ?_
   refine ops_nil fun a hA => ?_
   exact ⟨true, hF, hA.part ⟨rfl, rfl, trivial⟩, ((hS).sel [0] rfl).selR [0, 1, 2, 3] rfl⟩
  ·replace hF := iteF hc6 hF
   refine ops_v (rv_fld (m := 1) Tryz.underlying43 rfl rfl Tryz.sizeOf41 rfl rfl) (want_if rfl rfl rfl (by rw [hc6]; rfl)) rfl rfl ?_
   refine ops_v (rv_loadN rfl rfl Tryz.isAgg41 Tryz.sizeOf41 rfl (hS.cells 0 2 (cs' := [s3, s4]) rfl rfl)) (want_if rfl rfl rfl (by rw [hc6]; rfl)) rfl rfl ?_
   obtain ⟨x12, hx12, hF⟩ := bindE hF
   refine ops_c (rc_call Tryz.call96 rfl rfl) (want_if rfl rfl rfl (by rw [hc6]; rfl)) rfl rfl (c_spec_ListsOk (l := m.Lists) (hS.rd 2 rfl) (hS.rd 3 rfl) hx12) ?_
   rintro _ w ⟨rfl, hk⟩
   replace hS := hS.after hk; clear hk
   refine ops_v (rv_not rfl rfl) (want_if rfl rfl rfl (by rw [hc6]; rfl)) rfl rfl ?_
   refine oy (rv_pick_f rfl rfl hc6 rfl) rfl ?_
   refine ops_nil fun a hA => ?_
   exact ⟨!x12, hF, hA.part ⟨rfl, rfl, trivial⟩, ((hS).sel [0] rfl).selR [0, 1, 2, 3] rfl⟩
 ·skip
  clear hA hS hF
  rintro a w ⟨x1, hF, hA, hS⟩
  unfold spec_MemOk_j1 at hF
  refine cw_cond hA rfl (fun hc1 => ?_) (fun hc1 => ?_)
  ·replace hF := iteT hc1 hF
   refine cw_seq ?_
   refine cw_ops hA ?_
   clear hA
   refine oy (rv_assign rfl rfl) rfl ?_
   refine ops_nil fun a hA => ?_
   refine cw_ret ?_
   cases hF
   exact fy Tryz.results53 hA rfl hS
  ·replace hF := iteF hc1 hF
   refine cw_skip ?_
   refine cw_seq ?_
   refine cw_seq ?_
   refine cw_ops hA ?_
   clear hA
   refine oy (rv_assign rfl rfl) rfl ?_
   refine ops_nil fun a hA => ?_
   obtain ⟨o1, hl1, hF⟩ := bindE hF
   refine cw_cut (J := fun a' w' => o1 = Out.brk (()) ∧ AEnv 49 [] a' ∧ St (cxAll w0) w' [] []) ?_ ?_
   ·refine cw_block ?_
    refine cw_loop (body := spec_MemOk_l2 m) (r := o1) (fun sg a' w' => AEnv 49 [(1, .pointer (some ⟨b1, 0, none⟩)), (3, .int .i64 (sg))] a' ∧ St (cxAll w0) w' [cBox b1 [s1, s2, s3, s4]] [fRd [s1] (m.Heap.Bytes : List Int), fRd [s2] (m.Heap.Class : List Int), fRd [s3] (m.Lists.Global : List SList), fRd [s4] (m.Lists.Own : List SList)]) ?_ hl1 ⟨hA.part ⟨rfl, rfl, trivial⟩, ((hS).sel [0] rfl).selR [0, 1, 2, 3] rfl⟩
    clear hA hS hl1
    rintro x3 a w q2 ⟨hA, hS⟩ hG2 hr2
    try dsimp only at hA hS
    unfold spec_MemOk_l2 at hG2
    refine cw_seq ?_
    refine cw_seq ?_
    refine cw_ops hA ?_
    clear hA
    refine oy (rv_move rfl rfl) rfl ?_
    refine oy (rv_lss rfl rfl rfl) rfl ?_
    refine ops_nil fun a hA => ?_
    refine cw_cond hA rfl (fun hc2 => ?_) (fun hc2 => ?_)
    ·replace hG2 := iteT hc2 hG2
     refine cw_skip ?_
     refine cw_seq ?_
     refine cw_block ?_
     refine cw_seq ?_
     refine cw_seq ?_
     obtain ⟨x4, hx4, hG2⟩ := bindE hG2
     obtain ⟨s5, hS⟩ := hS.elF_SList 2 rfl (idx_some hx4).2.2
     refine cw_any (Keeps (cxAll w0) [cBox b1 [s1, s2, s3, s4]] [fRd [s1] (m.Heap.Bytes : List Int), fRd [s2] (m.Heap.Class : List Int), fRd [s3] (m.Lists.Global : List SList), fRd [s4] (m.Lists.Own : List SList), fAt (elB s3) (elO 1 (x3.toNat) s3) [s5], fRd [s5] (x4.Slots : List Int)]) mixed_Tryz hA hS ?_
     clear hA hS; intro w hS
     have hK : Keeps (cxAll w0) [cBox b1 [s1, s2, s3, s4]] [fRd [s1] (m.Heap.Bytes : List Int), fRd [s2] (m.Heap.Class : List Int), fRd [s3] (m.Lists.Global : List SList), fRd [s4] (m.Lists.Own : List SList), fAt (elB s3) (elO 1 (x3.toNat) s3) [s5], fRd [s5] (x4.Slots : List Int)] w := ⟨_, (hS.sel [0] rfl).selR [0, 1, 2, 3, 4, 5] rfl⟩
     refine ey 0 rfl (by kernel_rfl) hK (fun _ _ _ => (rv_fld (m := 1) Tryz.underlying43 rfl rfl Tryz.sizeOf38 rfl rfl)) rfl ?_
     refine ey 1 rfl (by kernel_rfl) hK (fun _ _ hS => (rv_loadN rfl rfl Tryz.isAgg38 Tryz.sizeOf38 rfl (hS.cells 0 0 (cs' := [s1, s2]) rfl rfl))) rfl ?_
     refine ey 2 rfl (by kernel_rfl) hK (fun _ _ _ => (rv_fld (m := 1) Tryz.underlying43 rfl rfl Tryz.sizeOf41 rfl rfl)) rfl ?_
     refine ey 3 rfl (by kernel_rfl) hK (fun _ _ _ => (rv_fld (m := 0) Tryz.underlying41 rfl rfl Tryz.sizeOf39 rfl rfl)) rfl ?_
     refine ey 4 rfl (by kernel_rfl) hK (fun _ _ hS => (rv_load1 rfl rfl Tryz.isAgg39 (hS.cell 0 rfl rfl))) rfl ?_
     refine ey 5 rfl (by kernel_rfl) hK (fun _ _ _ => (rv_move rfl rfl)) rfl ?_
     refine ey 6 rfl (by kernel_rfl) hK (fun _ _ hS => (rv_idx (m := 1) (hS.rd 2 rfl) rfl hx4 Tryz.underlying39 Tryz.sizeOf120 rfl rfl rfl)) rfl ?_
     refine ey 7 rfl (by kernel_rfl) hK (fun _ _ _ => (rv_fld (m := 0) Tryz.underlying120 rfl rfl Tryz.sizeOf22 rfl rfl)) rfl ?_
     refine ey 8 rfl (by kernel_rfl) hK (fun _ _ hS => (rv_load1 rfl rfl Tryz.isAgg22 (cell1 (CellsAt.sub (cs' := [s5]) (hS.fat 4 rfl) 0 rfl rfl)))) rfl ?_
     refine ey 9 rfl (by kernel_rfl) hK (fun _ _ _ => (rv_move rfl rfl)) rfl ?_
     refine any_1 (i := 10) (by kernel_rfl) ?_
     obtain ⟨x5, hx5, hG2⟩ := bindE hG2
     refine as_c rfl (rc_call Tryz.call97 rfl rfl) (want_yes rfl) rfl rfl (c_spec_l9Listed (h := m.Heap) (l := x4.Slots) (c := x3) (hS.rd 0 rfl) (hS.rd 1 rfl) (hS.rd 5 rfl) hx5) ?_
     clear hK; rintro _ w ⟨rfl, hk⟩
     replace hS := hS.after hk; clear hk
     have hK := keepsI ((hS.sel [0] rfl).selR [0, 1, 2, 3, 4, 5] rfl)
     refine ⟨hK, ?_⟩
     refine ey 11 rfl (by kernel_rfl) hK (fun _ _ _ => (rv_not rfl rfl)) rfl ?_
     refine any_done (by kernel_rfl) ?_
     intro a hA
     refine cw_cond hA rfl (fun hc3 => ?_) (fun hc3 => ?_)
     ·replace hG2 := iteT hc3 hG2
      refine cw_seq ?_
      refine cw_ops hA ?_
      clear hA
      refine oy (rv_assign rfl rfl) rfl ?_
      refine ops_nil fun a hA => ?_
      refine cw_ret ?_
      cases hG2
      have ho := hr2 _ rfl; subst ho
      replace hF : some false = some r := hF
      cases hF
      exact fy Tryz.results53 hA rfl hS
     ·replace hG2 := iteF hc3 hG2
      refine cw_skip ?_
      refine cw_seq ?_
      refine cw_ops hA ?_
      clear hA
      refine oy (rv_assign rfl rfl) rfl ?_
      refine ops_nil fun a hA => ?_
      obtain ⟨o2, hl2, hG2⟩ := bindE hG2
      refine cw_cut (J := fun a' w' => o2 = Out.brk (()) ∧ AEnv 49 [(1, .pointer (some ⟨b1, 0, none⟩)), (3, .int .i64 (x3))] a' ∧ St (cxAll w0) w' [cBox b1 [s1, s2, s3, s4]] [fRd [s1] (m.Heap.Bytes : List Int), fRd [s2] (m.Heap.Class : List Int), fRd [s3] (m.Lists.Global : List SList), fRd [s4] (m.Lists.Own : List SList)]) ?_ ?_
      ·refine cw_block ?_
       refine cw_loop (body := spec_MemOk_l3 m x3) (r := o2) (fun sg a' w' => AEnv 49 [(1, .pointer (some ⟨b1, 0, none⟩)), (3, .int .i64 (x3)), (4, .int .i64 (sg))] a' ∧ St (cxAll w0) w' [cBox b1 [s1, s2, s3, s4]] [fRd [s1] (m.Heap.Bytes : List Int), fRd [s2] (m.Heap.Class : List Int), fRd [s3] (m.Lists.Global : List SList), fRd [s4] (m.Lists.Own : List SList)]) ?_ hl2 ⟨hA.part ⟨rfl, rfl, rfl, trivial⟩, ((hS).sel [0] rfl).selR [0, 1, 2, 3] rfl⟩
       clear hA hS hl2
       rintro x7 a w q3 ⟨hA, hS⟩ hG3 hr3
       try dsimp only at hA hS
       unfold spec_MemOk_l3 at hG3
       refine cw_seq ?_
       refine cw_seq ?_
       refine cw_ops hA ?_
       clear hA
       refine oy (rv_move rfl rfl) rfl ?_
       refine oy (rv_lss rfl rfl rfl) rfl ?_
       refine ops_nil fun a hA => ?_
       refine cw_cond hA rfl (fun hc4 => ?_) (fun hc4 => ?_)
       ·replace hG3 := iteT hc4 hG3
        refine cw_skip ?_
        refine cw_seq ?_
        refine cw_block ?_
        refine cw_seq ?_
        refine cw_any (Keeps (cxAll w0) [cBox b1 [s1, s2, s3, s4]] [fRd [s1] (m.Heap.Bytes : List Int), fRd [s2] (m.Heap.Class : List Int), fRd [s3] (m.Lists.Global : List SList), fRd [s4] (m.Lists.Own : List SList)]) mixed_Tryz hA hS ?_
        clear hA hS; intro w hS
        have hK : Keeps (cxAll w0) [cBox b1 [s1, s2, s3, s4]] [fRd [s1] (m.Heap.Bytes : List Int), fRd [s2] (m.Heap.Class : List Int), fRd [s3] (m.Lists.Global : List SList), fRd [s4] (m.Lists.Own : List SList)] w := ⟨_, (hS.sel [0] rfl).selR [0, 1, 2, 3] rfl⟩
        refine ey 0 rfl (by kernel_rfl) hK (fun _ _ _ => (rv_fld (m := 1) Tryz.underlying43 rfl rfl Tryz.sizeOf38 rfl rfl)) rfl ?_
        refine ey 1 rfl (by kernel_rfl) hK (fun _ _ hS => (rv_loadN rfl rfl Tryz.isAgg38 Tryz.sizeOf38 rfl (hS.cells 0 0 (cs' := [s1, s2]) rfl rfl))) rfl ?_
        refine ey 2 rfl (by kernel_rfl) hK (fun _ _ _ => (rv_fld (m := 1) Tryz.underlying43 rfl rfl Tryz.sizeOf41 rfl rfl)) rfl ?_
        refine ey 3 rfl (by kernel_rfl) hK (fun _ _ _ => (rv_fld (m := 0) Tryz.underlying41 rfl rfl Tryz.sizeOf39 rfl rfl)) rfl ?_
        refine ey 4 rfl (by kernel_rfl) hK (fun _ _ hS => (rv_load1 rfl rfl Tryz.isAgg39 (hS.cell 0 rfl rfl))) rfl ?_
        refine ey 5 rfl (by kernel_rfl) hK (fun _ _ _ => (rv_move rfl rfl)) rfl ?_
        refine ey 6 rfl (by kernel_rfl) hK (fun _ _ _ => (rv_move rfl rfl)) rfl ?_
        refine ey 11 rfl (by kernel_rfl) hK (fun _ _ _ => (rv_move rfl rfl)) rfl ?_
        refine any_1 (i := 7) (by kernel_rfl) ?_
        obtain ⟨x8, hx8, hG3⟩ := bindE hG3
        refine as_c rfl (rc_call Tryz.call98 rfl rfl) (want_yes rfl) rfl rfl (c_spec_OwnAt (w_ := x7) (c := x3)  hx8) ?_
        clear hK; rintro _ w ⟨rfl, hk⟩
        replace hS := hS.after hk; clear hk
        have hK := keepsI ((hS.sel [0] rfl).selR [0, 1, 2, 3] rfl)
        refine ⟨hK, ?_⟩
        obtain ⟨x9, hx9, hG3⟩ := bindE hG3
        refine ey 8 rfl (by kernel_rfl) hK (fun _ _ hS => (rv_idx (m := 1) (hS.rd 3 rfl) rfl hx9 Tryz.underlying39 Tryz.sizeOf120 rfl rfl rfl)) rfl ?_
        refine ey 9 rfl (by kernel_rfl) hK (fun _ _ _ => (rv_fld (m := 0) Tryz.underlying120 rfl rfl Tryz.sizeOf22 rfl rfl)) rfl ?_
        refine any_1 (i := 10) (by kernel_rfl) ?_
        obtain ⟨s6, hel, hS⟩ := hS.el_SList 3 rfl (idx_some hx9).2.2
        refine as_v rfl (rv_load1 rfl rfl Tryz.isAgg22 (cell1 (CellsAt.sub (cs' := [s6]) hel 0 rfl rfl))) (want_yes rfl) rfl rfl hK ?_
        refine any_1 (i := 12) (by kernel_rfl) ?_
        obtain ⟨x10, hx10, hG3⟩ := bindE hG3
        refine as_c rfl (rc_call Tryz.call97 rfl rfl) (want_yes rfl) rfl rfl (c_spec_l9Listed (h := m.Heap) (l := x9.Slots) (c := x3) (hS.rd 0 rfl) (hS.rd 1 rfl) (hS.rd 4 rfl) hx10) ?_
        clear hK; rintro _ w ⟨rfl, hk⟩
        replace hS := hS.after hk; clear hk
        have hK := keepsI ((hS.sel [0] rfl).selR [0, 1, 2, 3] rfl)
        refine ⟨hK, ?_⟩
        refine ey 13 rfl (by kernel_rfl) hK (fun _ _ _ => (rv_not rfl rfl)) rfl ?_
        refine any_done (by kernel_rfl) ?_
        intro a hA
        refine cw_cond hA rfl (fun hc5 => ?_) (fun hc5 => ?_)
        ·replace hG3 := iteT hc5 hG3
         refine cw_seq ?_
         refine cw_ops hA ?_
         clear hA
         refine oy (rv_assign rfl rfl) rfl ?_
         refine ops_nil fun a hA => ?_
         refine cw_ret ?_
         cases hG3
         have ho := hr3 _ rfl; subst ho
         replace hG2 : some (.stop (Out.ret false)) = some q2 := hG2
         cases hG2
         have ho := hr2 _ rfl; subst ho
         replace hF : some false = some r := hF
         cases hF
         exact fy Tryz.results53 hA rfl hS
        ·replace hG3 := iteF hc5 hG3
         refine cw_skip ?_
         refine cw_ops hA ?_
         clear hA
         refine oy (rv_move rfl rfl) rfl ?_
         refine oy (rv_add rfl rfl rfl) rfl ?_
         refine oy (rv_assign rfl rfl) rfl ?_
         refine ops_nil fun a hA => ?_
         cases hG3
         exact ⟨_, rfl, ⟨hA.part ⟨rfl, rfl, rfl, trivial⟩, ((hS).sel [0] rfl).selR [0, 1, 2, 3] rfl⟩⟩
       ·replace hG3 := iteF hc4 hG3
        refine cw_exit ?_
        refine xcons_hit ?_
        cases hG3
        have ho := hr3 _ rfl; subst ho
        exact ⟨rfl, hA.part ⟨rfl, rfl, trivial⟩, ((hS).sel [0] rfl).selR [0, 1, 2, 3] rfl⟩
      ·skip
       clear hA hS hl2
       rintro a w ⟨heq, hA, hS⟩
       replace hG2 : spec_MemOk_j3 x3 = some q2 := by rw [heq] at hG2; exact hG2
       clear heq
       unfold spec_MemOk_j3 at hG2
       refine cw_ops hA ?_
       clear hA
       refine oy (rv_move rfl rfl) rfl ?_
       refine oy (rv_add rfl rfl rfl) rfl ?_
       refine oy (rv_assign rfl rfl) rfl ?_
       refine ops_nil fun a hA => ?_
       cases hG2
       exact ⟨_, rfl, ⟨hA.part ⟨rfl, rfl, trivial⟩, ((hS).sel [0] rfl).selR [0, 1, 2, 3] rfl⟩⟩
    ·replace hG2 := iteF hc2 hG2
     refine cw_exit ?_
     refine xcons_hit ?_
     cases hG2
     have ho := hr2 _ rfl; subst ho
     exact ⟨rfl, hA.part trivial, ((hS).sel [] rfl).selR [] rfl⟩
   ·skip
    clear hA hS hl1
    rintro a w ⟨heq, hA, hS⟩
    replace hF : spec_MemOk_j2 = some r := by rw [heq] at hF; exact hF
    clear heq
    unfold spec_MemOk_j2 at hF
    refine cw_seq ?_
    refine cw_ops hA ?_
    clear hA
    refine oy (rv_assign rfl rfl) rfl ?_
    refine ops_nil fun a hA => ?_
    refine cw_ret ?_
    cases hF
    exact fy Tryz.results53 hA rfl hS

set_option maxHeartbeats 4000000 in
set_option maxRecDepth 100000 in
theorem c_spec_ClockOk {w0 : World} {c : Clock} {s1 : Value} {r : Bool} (h1 : Rep.rd (All w0) w0 [s1] (c.Pins : List Pin)) (hF : spec_ClockOk c = some r) :
    Calls Tryz.prog 54 #[.agg #[.int .i64 (c.Epoch), s1]] w0 (Ret fun v w' => v = .bool (r) ∧ St (cxAll w0) w' [] []) := by
 have hS : St (cxAll w0) w0 [] [fRd [s1] (c.Pins : List Pin)] := St.enter (by
   intro f hf
   simp only [List.mem_cons, List.not_mem_nil, or_false] at hf
   subst hf; exact h1)
 refine calls_cw (args := [_]) Tryz.func54 rfl Tryz.ntmps54 rfl ?_
 unfold spec_ClockOk at hF
 intro a hA
 refine cw_seq ?_
 refine cw_ops hA ?_
 clear hA
 refine ops_mv (rv_box (cs := [.int .i64 (c.Epoch), s1]) hS rfl rfl rfl) (want_yes rfl) rfl rfl ?_
 clear hS
 rintro _ w ⟨b1, rfl, hS⟩
 refine oy (rv_assign rfl rfl) rfl ?_
 refine ops_nil fun a hA => ?_
 refine cw_seq ?_
 refine cw_seq ?_
 refine cw_cut (J := fun a' w' => ∃ (x1 : Bool), spec_ClockOk_j1 c x1 = some r ∧ AEnv 46 [(1, .pointer (some ⟨b1, 0, none⟩)), (14, .bool (x1))] a' ∧ St (cxAll w0) w' [cBox b1 [.int .i64 (c.Epoch), s1]] [fRd [s1] (c.Pins : List Pin)]) ?_ ?_
 ·skip
  refine cw_ops hA ?_
  clear hA
  refine oy (rv_fld (m := 0) Tryz.underlying46 rfl rfl Tryz.sizeOf3 rfl rfl) rfl ?_
  refine oy (rv_load1 rfl rfl Tryz.isAgg3 (hS.cell 0 rfl rfl)) rfl ?_
  obtain ⟨x10, hx10, hF⟩ := bindE hF
  refine ops_c (rc_call Tryz.call60 rfl rfl) (want_yes rfl) rfl rfl (c_spec_l1In (x := c.Epoch) (low := 0) (high := 100000)  hx10) ?_
  rintro _ w ⟨rfl, hk⟩
  replace hS := hS.after hk; clear hk
  refine oy (rv_not rfl rfl) rfl ?_
  refine oy (rv_move rfl rfl) rfl ?_
  refine ops_case (s := 9) rfl (fun hc8 => ?_) (fun hc8 => ?_)
  ·replace hF := iteT hc8 hF
   refine ops_off (want_if rfl rfl rfl (by rw [hc8]; rfl)) rfl rfl ?_
   refine ops_off (want_if rfl rfl rfl (by rw [hc8]; rfl)) rfl rfl ?_
   refine ops_off (want_if rfl rfl rfl (by rw [hc8]; rfl)) rfl rfl ?_
   refine ops_off (want_if rfl rfl rfl (by rw [hc8]; rfl)) rfl rfl ?_
   refine oy (rv_pick_t rfl rfl hc8 rfl) rfl ?_
   refine ops_nil fun a hA => ?_
   exact ⟨true, hF, hA.part ⟨rfl, rfl, trivial⟩, ((hS).sel [0] rfl).selR [0] rfl⟩
  ·replace hF := iteF hc8 hF
   refine ops_v (rv_fld (m := 0) Tryz.underlying46 rfl rfl Tryz.sizeOf44 rfl rfl) (want_if rfl rfl rfl (by rw [hc8]; rfl)) rfl rfl ?_
   refine ops_v (rv_load1 rfl rfl Tryz.isAgg44 (hS.cell 0 rfl rfl)) (want_if rfl rfl rfl (by rw [hc8]; rfl)) rfl rfl ?_
   refine ops_v (rv_lenS (hS.rd 0 rfl) Tryz.underlying44 rfl rfl) (want_if rfl rfl rfl (by rw [hc8]; rfl)) rfl rfl ?_
   refine ops_v (rv_neq rfl rfl rfl) (want_if rfl rfl rfl (by rw [hc8]; rfl)) rfl rfl ?_
   refine oy (rv_pick_f rfl rfl hc8 rfl) rfl ?_
   refine ops_nil fun a hA => ?_
   exact ⟨((c.Pins.length : Int)) != 3, hF, hA.part ⟨rfl, rfl, trivial⟩, ((hS).sel [0] rfl).selR [0] rfl⟩
 ·skip
  clear hA hS hF
  rintro a w ⟨x1, hF, hA, hS⟩
  unfold spec_ClockOk_j1 at hF
  refine cw_cond hA rfl (fun hc1 => ?_) (fun hc1 => ?_)
  ·replace hF := iteT hc1 hF
   refine cw_seq ?_
   refine cw_ops hA ?_
   clear hA
   refine oy (rv_assign rfl rfl) rfl ?_
   refine ops_nil fun a hA => ?_
   refine cw_ret ?_
   cases hF
   exact fy Tryz.results54 hA rfl hS
  ·replace hF := iteF hc1 hF
   refine cw_skip ?_
   refine cw_seq ?_
   refine cw_seq ?_
   refine cw_ops hA ?_
   clear hA
   refine oy (rv_assign rfl rfl) rfl ?_
   refine ops_nil fun a hA => ?_
   obtain ⟨o1, hl1, hF⟩ := bindE hF
   refine cw_cut (J := fun a' w' => o1 = Out.brk (()) ∧ AEnv 46 [] a' ∧ St (cxAll w0) w' [] []) ?_ ?_
   ·refine cw_block ?_
    refine cw_loop (body := spec_ClockOk_l2 c) (r := o1) (fun sg a' w' => AEnv 46 [(1, .pointer (some ⟨b1, 0, none⟩)), (3, .int .i64 (sg))] a' ∧ St (cxAll w0) w' [cBox b1 [.int .i64 (c.Epoch), s1]] [fRd [s1] (c.Pins : List Pin)]) ?_ hl1 ⟨hA.part ⟨rfl, rfl, trivial⟩, ((hS).sel [0] rfl).selR [0] rfl⟩
    clear hA hS hl1
    rintro x3 a w q2 ⟨hA, hS⟩ hG2 hr2
    try dsimp only at hA hS
    unfold spec_ClockOk_l2 at hG2
    refine cw_seq ?_
    refine cw_seq ?_
    refine cw_ops hA ?_
    clear hA
    refine oy (rv_move rfl rfl) rfl ?_
    refine oy (rv_lss rfl rfl rfl) rfl ?_
    refine ops_nil fun a hA => ?_
    refine cw_cond hA rfl (fun hc2 => ?_) (fun hc2 => ?_)
    ·replace hG2 := iteT hc2 hG2
     refine cw_skip ?_
     refine cw_seq ?_
     refine cw_block ?_
     refine cw_seq ?_
     refine cw_ops hA ?_
     clear hA
     refine oy (rv_fld (m := 0) Tryz.underlying46 rfl rfl Tryz.sizeOf44 rfl rfl) rfl ?_
     refine oy (rv_load1 rfl rfl Tryz.isAgg44 (hS.cell 0 rfl rfl)) rfl ?_
     refine oy (rv_move rfl rfl) rfl ?_
     obtain ⟨x4, hx4, hG2⟩ := bindE hG2
     refine oy (rv_idx (m := 4) (hS.rd 0 rfl) rfl hx4 Tryz.underlying44 Tryz.sizeOf65 rfl rfl rfl) rfl ?_
     refine oy (rv_loadN rfl rfl Tryz.isAgg65 Tryz.sizeOf65 rfl (el_Pin (hS.rd 0 rfl) (idx_some hx4).2.2)) rfl ?_
     refine ops_mv (rv_alloc (cs := [.bool (false), .int .i64 (0), .bool (false), .int .i64 (0)]) hS rfl Tryz.zeroValue65 rfl) (want_yes rfl) rfl rfl ?_
     clear hS
     rintro _ w ⟨b2, rfl, hS⟩
     refine ops_ms (rs_box (vs := [.bool (x4.On), .int .i64 (x4.Epoch), .bool (x4.Marked), .int .i64 (x4.Seen)]) hS (i := 1) rfl rfl rfl rfl rfl Tryz.sizeOf65 rfl rfl rfl) (want_yes rfl) rfl ?_
     clear hS
     intro w hS
     refine ops_nil fun a hA => ?_
     refine cw_seq ?_
     refine cw_cut (J := fun a' w' => ∃ (x5 : Bool), spec_ClockOk_j3 x3 x5 = some q2 ∧ AEnv 46 [(1, .pointer (some ⟨b1, 0, none⟩)), (3, .int .i64 (x3)), (45, .bool (x5))] a' ∧ St (cxAll w0) w' [cBox b1 [.int .i64 (c.Epoch), s1]] [fRd [s1] (c.Pins : List Pin)]) ?_ ?_
     ·skip
      refine cw_ops hA ?_
      clear hA
      refine oy (rv_fld (m := 0) Tryz.underlying65 rfl rfl Tryz.sizeOf4 rfl rfl) rfl ?_
      refine oy (rv_load1 rfl rfl Tryz.isAgg4 (hS.cell 1 rfl rfl)) rfl ?_
      refine oy (rv_not rfl rfl) rfl ?_
      refine oy (rv_move rfl rfl) rfl ?_
      refine ops_case (s := 27) rfl (fun hc4 => ?_) (fun hc4 => ?_)
      ·replace hG2 := iteT hc4 hG2
       refine ops_v (rv_loadN rfl rfl Tryz.isAgg65 Tryz.sizeOf65 rfl (hS.cells 1 0 (cs' := [.bool (x4.On), .int .i64 (x4.Epoch), .bool (x4.Marked), .int .i64 (x4.Seen)]) rfl rfl)) (want_if rfl rfl rfl (by rw [hc4]; rfl)) rfl rfl ?_
       refine ops_v (rv_build (cells := #[.bool (false), .int .i64 (0), .bool (false), .int .i64 (0)]) rfl Tryz.zeroValue65 Tryz.underlying65 (by have h := places_Tryz65; rw [Tryz.underlying65] at h; exact h) rfl rfl) (want_if rfl rfl rfl (by rw [hc4]; rfl)) rfl rfl ?_
       refine ops_v (rv_neqS Tryz.eqGuardType65 Tryz.stoodInHeld65 Tryz.underlying65 (eqf_Tryz65 9997 x4 (⟨false, 0, false, 0⟩ : Pin)) rfl rfl rfl) (want_if rfl rfl rfl (by rw [hc4]; rfl)) rfl rfl ?_
       refine oy (rv_pick_t rfl rfl hc4 rfl) rfl ?_
       refine oy (rv_move rfl rfl) rfl ?_
       refine ops_case (s := 32) rfl (fun hc5 => ?_) (fun hc5 => ?_)
       ·replace hG2 := iteT hc5 hG2
        refine ops_off (want_if rfl rfl rfl (by rw [hc5]; rfl)) rfl rfl ?_
        refine ops_off (want_if rfl rfl rfl (by rw [hc5]; rfl)) rfl rfl ?_
        refine ops_off (want_if rfl rfl rfl (by rw [hc5]; rfl)) rfl rfl ?_
        refine ops_off (want_if rfl rfl rfl (by rw [hc5]; rfl)) rfl rfl ?_
        refine ops_off (want_if rfl rfl rfl (by rw [hc5]; rfl)) rfl rfl ?_
        refine ops_off (want_if rfl rfl rfl (by rw [hc5]; rfl)) rfl rfl ?_
        refine oy (rv_pick_t rfl rfl hc5 rfl) rfl ?_
        refine oy (rv_move rfl rfl) rfl ?_
        refine ops_off (want_if rfl rfl rfl rfl) rfl rfl ?_
        refine ops_off (want_if rfl rfl rfl rfl) rfl rfl ?_
        refine ops_off (want_if rfl rfl rfl rfl) rfl rfl ?_
        refine ops_off (want_if rfl rfl rfl rfl) rfl rfl ?_
        refine oy (rv_pick_t rfl rfl rfl rfl) rfl ?_
        refine ops_nil fun a hA => ?_
        exact ⟨true, hG2, hA.part ⟨rfl, rfl, rfl, trivial⟩, ((hS).sel [0] rfl).selR [0] rfl⟩
       ·replace hG2 := iteF hc5 hG2
        refine ops_v (rv_fld (m := 0) Tryz.underlying65 rfl rfl Tryz.sizeOf3 rfl rfl) (want_if rfl rfl rfl (by rw [hc5]; rfl)) rfl rfl ?_
        refine ops_v (rv_load1 rfl rfl Tryz.isAgg3 (hS.cell 1 rfl rfl)) (want_if rfl rfl rfl (by rw [hc5]; rfl)) rfl rfl ?_
        refine ops_v (rv_fld (m := 0) Tryz.underlying46 rfl rfl Tryz.sizeOf3 rfl rfl) (want_if rfl rfl rfl (by rw [hc5]; rfl)) rfl rfl ?_
        refine ops_v (rv_load1 rfl rfl Tryz.isAgg3 (hS.cell 0 rfl rfl)) (want_if rfl rfl rfl (by rw [hc5]; rfl)) rfl rfl ?_
        obtain ⟨x6, hx6, hG2⟩ := bindE hG2
        refine ops_c (rc_call Tryz.call60 rfl rfl) (want_if rfl rfl rfl (by rw [hc5]; rfl)) rfl rfl (c_spec_l1In (x := x4.Epoch) (low := 0) (high := c.Epoch)  hx6) ?_
        rintro _ w ⟨rfl, hk⟩
        replace hS := hS.after hk; clear hk
        refine ops_v (rv_not rfl rfl) (want_if rfl rfl rfl (by rw [hc5]; rfl)) rfl rfl ?_
        refine oy (rv_pick_f rfl rfl hc5 rfl) rfl ?_
        refine oy (rv_move rfl rfl) rfl ?_
        refine ops_case (s := 40) rfl (fun hc6 => ?_) (fun hc6 => ?_)
        ·replace hG2 := iteT hc6 hG2
         refine ops_off (want_if rfl rfl rfl (by rw [hc6]; rfl)) rfl rfl ?_
         refine ops_off (want_if rfl rfl rfl (by rw [hc6]; rfl)) rfl rfl ?_
         refine ops_off (want_if rfl rfl rfl (by rw [hc6]; rfl)) rfl rfl ?_
         refine ops_off (want_if rfl rfl rfl (by rw [hc6]; rfl)) rfl rfl ?_
         refine oy (rv_pick_t rfl rfl hc6 rfl) rfl ?_
         refine ops_nil fun a hA => ?_
         exact ⟨true, hG2, hA.part ⟨rfl, rfl, rfl, trivial⟩, ((hS).sel [0] rfl).selR [0] rfl⟩
        ·replace hG2 := iteF hc6 hG2
         refine ops_v (rv_fld (m := 0) Tryz.underlying65 rfl rfl Tryz.sizeOf3 rfl rfl) (want_if rfl rfl rfl (by rw [hc6]; rfl)) rfl rfl ?_
         refine ops_v (rv_load1 rfl rfl Tryz.isAgg3 (hS.cell 1 rfl rfl)) (want_if rfl rfl rfl (by rw [hc6]; rfl)) rfl rfl ?_
         obtain ⟨x7, hx7, hG2⟩ := bindE hG2
         refine ops_c (rc_call Tryz.call60 rfl rfl) (want_if rfl rfl rfl (by rw [hc6]; rfl)) rfl rfl (c_spec_l1In (x := x4.Seen) (low := 0) (high := 2)  hx7) ?_
         rintro _ w ⟨rfl, hk⟩
         replace hS := hS.after hk; clear hk
         refine ops_v (rv_not rfl rfl) (want_if rfl rfl rfl (by rw [hc6]; rfl)) rfl rfl ?_
         refine oy (rv_pick_f rfl rfl hc6 rfl) rfl ?_
         refine ops_nil fun a hA => ?_
         exact ⟨!x7, hG2, hA.part ⟨rfl, rfl, rfl, trivial⟩, ((hS).sel [0] rfl).selR [0] rfl⟩
      ·replace hG2 := iteF hc4 hG2
       refine ops_off (want_if rfl rfl rfl (by rw [hc4]; rfl)) rfl rfl ?_
       refine ops_off (want_if rfl rfl rfl (by rw [hc4]; rfl)) rfl rfl ?_
       refine ops_off (want_if rfl rfl rfl (by rw [hc4]; rfl)) rfl rfl ?_
       refine oy (rv_pick_f rfl rfl hc4 rfl) rfl ?_
       refine oy (rv_move rfl rfl) rfl ?_
       refine ops_v (rv_fld (m := 0) Tryz.underlying65 rfl rfl Tryz.sizeOf3 rfl rfl) (want_if rfl rfl rfl rfl) rfl rfl ?_
       refine ops_v (rv_load1 rfl rfl Tryz.isAgg3 (hS.cell 1 rfl rfl)) (want_if rfl rfl rfl rfl) rfl rfl ?_
       refine ops_v (rv_fld (m := 0) Tryz.underlying46 rfl rfl Tryz.sizeOf3 rfl rfl) (want_if rfl rfl rfl rfl) rfl rfl ?_
       refine ops_v (rv_load1 rfl rfl Tryz.isAgg3 (hS.cell 0 rfl rfl)) (want_if rfl rfl rfl rfl) rfl rfl ?_
       obtain ⟨x8, hx8, hG2⟩ := bindE hG2
       refine ops_c (rc_call Tryz.call60 rfl rfl) (want_if rfl rfl rfl rfl) rfl rfl (c_spec_l1In (x := x4.Epoch) (low := 0) (high := c.Epoch)  hx8) ?_
       rintro _ w ⟨rfl, hk⟩
       replace hS := hS.after hk; clear hk
       refine ops_v (rv_not rfl rfl) (want_if rfl rfl rfl rfl) rfl rfl ?_
       refine oy (rv_pick_f rfl rfl rfl rfl) rfl ?_
       refine oy (rv_move rfl rfl) rfl ?_
       refine ops_case (s := 40) rfl (fun hc7 => ?_) (fun hc7 => ?_)
       ·replace hG2 := iteT hc7 hG2
        refine ops_off (want_if rfl rfl rfl (by rw [hc7]; rfl)) rfl rfl ?_
        refine ops_off (want_if rfl rfl rfl (by rw [hc7]; rfl)) rfl rfl ?_
        refine ops_off (want_if rfl rfl rfl (by rw [hc7]; rfl)) rfl rfl ?_
        refine ops_off (want_if rfl rfl rfl (by rw [hc7]; rfl)) rfl rfl ?_
        refine oy (rv_pick_t rfl rfl hc7 rfl) rfl ?_
        refine ops_nil fun a hA => ?_
        exact ⟨true, hG2, hA.part ⟨rfl, rfl, rfl, trivial⟩, ((hS).sel [0] rfl).selR [0] rfl⟩
       ·replace hG2 := iteF hc7 hG2
        refine ops_v (rv_fld (m := 0) Tryz.underlying65 rfl rfl Tryz.sizeOf3 rfl rfl) (want_if rfl rfl rfl (by rw [hc7]; rfl)) rfl rfl ?_
        refine ops_v (rv_load1 rfl rfl Tryz.isAgg3 (hS.cell 1 rfl rfl)) (want_if rfl rfl rfl (by rw [hc7]; rfl)) rfl rfl ?_
        obtain ⟨x9, hx9, hG2⟩ := bindE hG2
        refine ops_c (rc_call Tryz.call60 rfl rfl) (want_if rfl rfl rfl (by rw [hc7]; rfl)) rfl rfl (c_spec_l1In (x := x4.Seen) (low := 0) (high := 2)  hx9) ?_
        rintro _ w ⟨rfl, hk⟩
        replace hS := hS.after hk; clear hk
        refine ops_v (rv_not rfl rfl) (want_if rfl rfl rfl (by rw [hc7]; rfl)) rfl rfl ?_
        refine oy (rv_pick_f rfl rfl hc7 rfl) rfl ?_
        refine ops_nil fun a hA => ?_
        exact ⟨!x9, hG2, hA.part ⟨rfl, rfl, rfl, trivial⟩, ((hS).sel [0] rfl).selR [0] rfl⟩
     ·skip
      clear hA hS hG2
      rintro a w ⟨x5, hG2, hA, hS⟩
      unfold spec_ClockOk_j3 at hG2
      refine cw_cond hA rfl (fun hc3 => ?_) (fun hc3 => ?_)
      ·replace hG2 := iteT hc3 hG2
       refine cw_seq ?_
       refine cw_ops hA ?_
       clear hA
       refine oy (rv_assign rfl rfl) rfl ?_
       refine ops_nil fun a hA => ?_
       refine cw_ret ?_
       cases hG2
       have ho := hr2 _ rfl; subst ho
       replace hF : some false = some r := hF
       cases hF
       exact fy Tryz.results54 hA rfl hS
      ·replace hG2 := iteF hc3 hG2
       refine cw_skip ?_
       refine cw_ops hA ?_
       clear hA
       refine oy (rv_move rfl rfl) rfl ?_
       refine oy (rv_add rfl rfl rfl) rfl ?_
       refine oy (rv_assign rfl rfl) rfl ?_
       refine ops_nil fun a hA => ?_
       cases hG2
       exact ⟨_, rfl, ⟨hA.part ⟨rfl, rfl, trivial⟩, ((hS).sel [0] rfl).selR [0] rfl⟩⟩
    ·replace hG2 := iteF hc2 hG2
     refine cw_exit ?_
     refine xcons_hit ?_
     cases hG2
     have ho := hr2 _ rfl; subst ho
     exact ⟨rfl, hA.part trivial, ((hS).sel [] rfl).selR [] rfl⟩
   ·skip
    clear hA hS hl1
    rintro a w ⟨heq, hA, hS⟩
    replace hF : spec_ClockOk_j2 = some r := by rw [heq] at hF; exact hF
    clear heq
    unfold spec_ClockOk_j2 at hF
    refine cw_seq ?_
    refine cw_ops hA ?_
    clear hA
    refine oy (rv_assign rfl rfl) rfl ?_
    refine ops_nil fun a hA => ?_
    refine cw_ret ?_
    cases hF
    exact fy Tryz.results54 hA rfl hS

set_option maxHeartbeats 4000000 in
set_option maxRecDepth 100000 in
theorem c_spec_l11All {w0 : World} {l : List LList} {s1 : Value} {r : (List LRow)} (h1 : Rep.rd (All w0) w0 [s1] (l : List LList)) (hF : spec_l11All l = some r) :
    Calls Tryz.prog 57 #[s1] w0 (Ret fun v w' => ∃ (s0_0 : Value), v = s0_0 ∧ St (cxAll w0) w' [cOwn [s0_0] (r : List LRow)] []) := by
 have hS : St (cxAll w0) w0 [] [fRd [s1] (l : List LList)] := St.enter (by
   intro f hf
   simp only [List.mem_cons, List.not_mem_nil, or_false] at hf
   subst hf; exact h1)
 refine calls_cw (args := [_]) Tryz.func57 rfl Tryz.ntmps57 rfl ?_
 unfold spec_l11All at hF
 intro a hA
 refine cw_seq ?_
 refine cw_ops hA ?_
 clear hA
 refine oy (rv_assign rfl rfl) rfl ?_
 refine ops_nil fun a hA => ?_
 refine cw_seq ?_
 refine cw_ops hA ?_
 clear hA
 refine ops_mv (rv_lit0 (α := LRow) hS rfl Tryz.underlying67 inf_Tryz71 rfl) (want_yes rfl) rfl rfl ?_
 clear hS
 rintro s2 w hS
 refine oy (rv_assign rfl rfl) rfl ?_
 refine ops_nil fun a hA => ?_
 refine cw_seq ?_
 refine cw_seq ?_
 refine cw_ops hA ?_
 clear hA
 refine oy (rv_assign rfl rfl) rfl ?_
 refine ops_nil fun a hA => ?_
 obtain ⟨o1, hl1, hF⟩ := bindE hF
 refine cw_cut (J := fun a' w' => ∃ (x5 : List LRow) (s5 : Value), o1 = x5 ∧ AEnv 20 [(3, s5)] a' ∧ St (cxAll w0) w' [cOwn [s5] (x5 : List LRow)] []) ?_ ?_
 ·refine cw_block ?_
  refine cw_loop (body := spec_l11All_l1 l) (r := o1) (fun sg a' w' => ∃ (s4 : Value), AEnv 20 [(0, s1), (3, s4), (4, .int .i64 (sg.2))] a' ∧ St (cxAll w0) w' [cOwn [s4] (sg.1 : List LRow)] [fRd [s1] (l : List LList)]) ?_ hl1 ⟨s2, hA.part ⟨rfl, rfl, rfl, trivial⟩, ((hS).sel [0] rfl).selR [0] rfl⟩
  clear hA hS hl1
  rintro ⟨x3, x4⟩ a w q1 ⟨s4, hA, hS⟩ hG1 hr1
  try dsimp only at hA hS
  unfold spec_l11All_l1 at hG1
  refine cw_seq ?_
  refine cw_seq ?_
  refine cw_ops hA ?_
  clear hA
  refine oy (rv_move rfl rfl) rfl ?_
  refine oy (rv_move rfl rfl) rfl ?_
  refine oy (rv_lenS (hS.rd 0 rfl) Tryz.underlying47 rfl rfl) rfl ?_
  refine oy (rv_lss rfl rfl rfl) rfl ?_
  refine ops_nil fun a hA => ?_
  refine cw_cond hA rfl (fun hc1 => ?_) (fun hc1 => ?_)
  ·replace hG1 := iteT hc1 hG1
   refine cw_skip ?_
   refine cw_seq ?_
   refine cw_block ?_
   refine cw_ops hA ?_
   clear hA
   refine oy (rv_move rfl rfl) rfl ?_
   refine oy (rv_move rfl rfl) rfl ?_
   refine oy (rv_move rfl rfl) rfl ?_
   obtain ⟨x6, hx6, hG1⟩ := bindE hG1
   refine oy (rv_idx (m := 1) (hS.rd 0 rfl) rfl hx6 Tryz.underlying47 Tryz.sizeOf69 rfl rfl rfl) rfl ?_
   refine oy (rv_fld (m := 0) Tryz.underlying69 rfl rfl Tryz.sizeOf67 rfl rfl) rfl ?_
   obtain ⟨s6, hel, hS⟩ := hS.el_LList 0 rfl (idx_some hx6).2.2
   refine oy (rv_load1 rfl rfl Tryz.isAgg67 (cell1 (CellsAt.sub (cs' := [s6]) hel 0 rfl rfl))) rfl ?_
   obtain ⟨hn1, hG1⟩ := needE hG1
   refine ops_mv (rv_append (α := LRow) 0 hS rfl (hS.rd 1 rfl) rfl Tryz.underlying67 inf_Tryz71 rfl hn1 rfl rfl rfl) (want_yes rfl) rfl rfl ?_
   clear hS
   rintro s7 w hS
   refine oy (rv_assign rfl rfl) rfl ?_
   refine ops_nil fun a hA => ?_
   refine cw_ops hA ?_
   clear hA
   refine oy (rv_move rfl rfl) rfl ?_
   refine oy (rv_add rfl rfl rfl) rfl ?_
   refine oy (rv_assign rfl rfl) rfl ?_
   refine ops_nil fun a hA => ?_
   cases hG1
   exact ⟨_, rfl, ⟨s7, hA.part ⟨rfl, rfl, rfl, trivial⟩, ((hS).sel [0] rfl).selR [0] rfl⟩⟩
  ·replace hG1 := iteF hc1 hG1
   refine cw_exit ?_
   refine xcons_hit ?_
   cases hG1
   have ho := hr1 _ rfl; subst ho
   exact ⟨x3, s4, rfl, hA.part ⟨rfl, trivial⟩, ((hS).sel [0] rfl).selR [] rfl⟩
 ·skip
  clear hA hS hl1
  rintro a w ⟨x5, s5, heq, hA, hS⟩
  replace hF : spec_l11All_j1 x5 = some r := by rw [heq] at hF; exact hF
  clear heq
  unfold spec_l11All_j1 at hF
  refine cw_seq ?_
  refine cw_ops hA ?_
  clear hA
  refine oy (rv_move rfl rfl) rfl ?_
  refine oy (rv_assign rfl rfl) rfl ?_
  refine ops_nil fun a hA => ?_
  refine cw_ret ?_
  cases hF
  exact fin1 Tryz.results57 hA (res_tmp rfl) ⟨s5, rfl, (hS.sel [0] rfl).weaken (R' := []) (fun _ h => nomatch h)⟩

set_option maxHeartbeats 4000000 in
set_option maxRecDepth 100000 in
theorem c_spec_HandleOk {w0 : World} {h : Int}  {r : Bool}  (hF : spec_HandleOk h = some r) :
    Calls Tryz.prog 101 #[.int .i64 (h)] w0 (Ret fun v w' => v = .bool (r) ∧ St (cxAll w0) w' [] []) := by
 have hS : St (cxAll w0) w0 [] [] := St.enter (by
   intro f hf; cases hf)
 refine calls_cw (args := [_]) Tryz.func101 rfl Tryz.ntmps101 rfl ?_
 unfold spec_HandleOk at hF
 intro a hA
 refine cw_seq ?_
 refine cw_ops hA ?_
 clear hA
 refine oy (rv_assign rfl rfl) rfl ?_
 refine ops_nil fun a hA => ?_
 refine cw_seq ?_
 refine cw_cut (J := fun a' w' => ∃ (x1 : Bool), spec_HandleOk_j1 x1 = some r ∧ AEnv 10 [(2, .bool (x1))] a' ∧ St (cxAll w0) w' [] []) ?_ ?_
 ·skip
  refine cw_ops hA ?_
  clear hA
  refine oy (rv_move rfl rfl) rfl ?_
  obtain ⟨x2, hx2, hF⟩ := bindE hF
  refine ops_c (rc_call Tryz.call60 rfl rfl) (want_yes rfl) rfl rfl (c_spec_l1In (x := h) (low := 32) (high := 223)  hx2) ?_
  rintro _ w ⟨rfl, hk⟩
  replace hS := hS.after hk; clear hk
  refine oy (rv_move rfl rfl) rfl ?_
  refine ops_case (s := 5) rfl (fun hc1 => ?_) (fun hc1 => ?_)
  ·replace hF := iteT hc1 hF
   refine ops_v (rv_move rfl rfl) (want_if rfl rfl rfl (by rw [hc1]; rfl)) rfl rfl ?_
   refine ops_v (rv_rem rfl rfl rfl (by decide)) (want_if rfl rfl rfl (by rw [hc1]; rfl)) rfl rfl ?_
   refine ops_v (rv_lss rfl rfl rfl) (want_if rfl rfl rfl (by rw [hc1]; rfl)) rfl rfl ?_
   refine oy (rv_pick_t rfl rfl hc1 rfl) rfl ?_
   refine oy (rv_assign rfl rfl) rfl ?_
   refine ops_nil fun a hA => ?_
   exact ⟨decide ((Int.tmod h 32) < 24), hF, hA.part ⟨rfl, trivial⟩, ((hS).sel [] rfl).selR [] rfl⟩
  ·replace hF := iteF hc1 hF
   refine ops_off (want_if rfl rfl rfl (by rw [hc1]; rfl)) rfl rfl ?_
   refine ops_off (want_if rfl rfl rfl (by rw [hc1]; rfl)) rfl rfl ?_
   refine ops_off (want_if rfl rfl rfl (by rw [hc1]; rfl)) rfl rfl ?_
   refine oy (rv_pick_f rfl rfl hc1 rfl) rfl ?_
   refine oy (rv_assign rfl rfl) rfl ?_
   refine ops_nil fun a hA => ?_
   exact ⟨false, hF, hA.part ⟨rfl, trivial⟩, ((hS).sel [] rfl).selR [] rfl⟩
 ·skip
  clear hA hS hF
  rintro a w ⟨x1, hF, hA, hS⟩
  unfold spec_HandleOk_j1 at hF
  refine cw_ret ?_
  cases hF
  exact fy Tryz.results101 hA rfl hS

set_option maxHeartbeats 4000000 in
set_option maxRecDepth 100000 in
theorem c_spec_HandleSlot {w0 : World} {h : Int}  {r : Int}  (hF : spec_HandleSlot h = some r) :
    Calls Tryz.prog 99 #[.int .i64 (h)] w0 (Ret fun v w' => v = .int .i64 (r) ∧ St (cxAll w0) w' [] []) := by
 have hS : St (cxAll w0) w0 [] [] := St.enter (by
   intro f hf; cases hf)
 refine calls_cw (args := [_]) Tryz.func99 rfl Tryz.ntmps99 rfl ?_
 unfold spec_HandleSlot at hF
 intro a hA
 refine cw_seq ?_
 refine cw_ops hA ?_
 clear hA
 refine oy (rv_assign rfl rfl) rfl ?_
 refine ops_nil fun a hA => ?_
 refine cw_seq ?_
 refine cw_seq ?_
 refine cw_ops hA ?_
 clear hA
 refine oy (rv_move rfl rfl) rfl ?_
 obtain ⟨x1, hx1, hF⟩ := bindE hF
 refine ops_c (rc_call Tryz.call101 rfl rfl) (want_yes rfl) rfl rfl (c_spec_HandleOk (h := h)  hx1) ?_
 rintro _ w ⟨rfl, hk⟩
 replace hS := hS.after hk; clear hk
 refine oy (rv_not rfl rfl) rfl ?_
 refine ops_nil fun a hA => ?_
 refine cw_cond hA rfl (fun hc1 => ?_) (fun hc1 => ?_)
 ·replace hF := iteT hc1 hF
  refine cw_seq ?_
  refine cw_ops hA ?_
  clear hA
  refine oy (rv_assign rfl rfl) rfl ?_
  refine ops_nil fun a hA => ?_
  refine cw_ret ?_
  cases hF
  exact fy Tryz.results99 hA rfl hS
 ·replace hF := iteF hc1 hF
  refine cw_skip ?_
  refine cw_seq ?_
  refine cw_ops hA ?_
  clear hA
  refine oy (rv_move rfl rfl) rfl ?_
  refine oy (rv_rem rfl rfl rfl (by decide)) rfl ?_
  refine oy (rv_assign rfl rfl) rfl ?_
  refine ops_nil fun a hA => ?_
  refine cw_ret ?_
  cases hF
  exact fy Tryz.results99 hA rfl hS

set_option maxHeartbeats 4000000 in
set_option maxRecDepth 100000 in
theorem c_spec_LimboOk {w0 : World} {l : List LList} {s1 : Value} {r : Bool} (h1 : Rep.rd (All w0) w0 [s1] (l : List LList)) (hF : spec_LimboOk l = some r) :
    Calls Tryz.prog 55 #[s1] w0 (Ret fun v w' => v = .bool (r) ∧ St (cxAll w0) w' [] []) := by
 have hS : St (cxAll w0) w0 [] [fRd [s1] (l : List LList)] := St.enter (by
   intro f hf
   simp only [List.mem_cons, List.not_mem_nil, or_false] at hf
   subst hf; exact h1)
 refine calls_cw (args := [_]) Tryz.func55 rfl Tryz.ntmps55 rfl ?_
 unfold spec_LimboOk at hF
 intro a hA
 refine cw_seq ?_
 refine cw_ops hA ?_
 clear hA
 refine oy (rv_assign rfl rfl) rfl ?_
 refine ops_nil fun a hA => ?_
 refine cw_seq ?_
 refine cw_ops hA ?_
 clear hA
 refine oy (rv_move rfl rfl) rfl ?_
 obtain ⟨x1, hx1, hF⟩ := bindE hF
 refine ops_c (rc_call Tryz.call57 rfl rfl) (want_yes rfl) rfl rfl (c_spec_l11All (l := l) (hS.rd 0 rfl) hx1) ?_
 rintro s2 w ⟨_, rfl, hk⟩
 replace hS := hS.after hk; clear hk
 refine oy (rv_assign rfl rfl) rfl ?_
 refine ops_nil fun a hA => ?_
 refine cw_seq ?_
 refine cw_seq ?_
 refine cw_cut (J := fun a' w' => ∃ (x2 : Bool), spec_LimboOk_j1 x1 x2 = some r ∧ AEnv 50 [(3, s2), (16, .bool (x2))] a' ∧ St (cxAll w0) w' [cOwn [s2] (x1 : List LRow)] []) ?_ ?_
 ·skip
  refine cw_ops hA ?_
  clear hA
  refine oy (rv_move rfl rfl) rfl ?_
  refine oy (rv_lenS (hS.rd 0 rfl) Tryz.underlying47 rfl rfl) rfl ?_
  refine oy (rv_neq rfl rfl rfl) rfl ?_
  refine oy (rv_move rfl rfl) rfl ?_
  refine ops_case (s := 12) rfl (fun hc6 => ?_) (fun hc6 => ?_)
  ·replace hF := iteT hc6 hF
   refine ops_off (want_if rfl rfl rfl (by rw [hc6]; rfl)) rfl rfl ?_
   refine ops_off (want_if rfl rfl rfl (by rw [hc6]; rfl)) rfl rfl ?_
   refine ops_off (want_if rfl rfl rfl (by rw [hc6]; rfl)) rfl rfl ?_
   refine oy (rv_pick_t rfl rfl hc6 rfl) rfl ?_
   refine ops_nil fun a hA => ?_
   exact ⟨true, hF, hA.part ⟨rfl, rfl, trivial⟩, ((hS).sel [0] rfl).selR [] rfl⟩
  ·replace hF := iteF hc6 hF
   refine ops_v (rv_move rfl rfl) (want_if rfl rfl rfl (by rw [hc6]; rfl)) rfl rfl ?_
   refine ops_v (rv_lenS (hS.rdOwn 0 rfl) Tryz.underlying67 rfl rfl) (want_if rfl rfl rfl (by rw [hc6]; rfl)) rfl rfl ?_
   refine ops_v (rv_gtr rfl rfl rfl) (want_if rfl rfl rfl (by rw [hc6]; rfl)) rfl rfl ?_
   refine oy (rv_pick_f rfl rfl hc6 rfl) rfl ?_
   refine ops_nil fun a hA => ?_
   exact ⟨decide (24 < ((x1.length : Int))), hF, hA.part ⟨rfl, rfl, trivial⟩, ((hS).sel [0] rfl).selR [] rfl⟩
 ·skip
  clear hA hS hF
  rintro a w ⟨x2, hF, hA, hS⟩
  unfold spec_LimboOk_j1 at hF
  refine cw_cond hA rfl (fun hc1 => ?_) (fun hc1 => ?_)
  ·replace hF := iteT hc1 hF
   refine cw_seq ?_
   refine cw_ops hA ?_
   clear hA
   refine oy (rv_assign rfl rfl) rfl ?_
   refine ops_nil fun a hA => ?_
   refine cw_ret ?_
   cases hF
   exact fy Tryz.results55 hA rfl hS
  ·replace hF := iteF hc1 hF
   refine cw_skip ?_
   refine cw_seq ?_
   refine cw_ops hA ?_
   clear hA
   refine ops_mv (rv_lit0 (α := Int) hS rfl Tryz.underlying22 inf_Tryz3 rfl) (want_yes rfl) rfl rfl ?_
   clear hS
   rintro s3 w hS
   refine oy (rv_assign rfl rfl) rfl ?_
   refine ops_nil fun a hA => ?_
   refine cw_seq ?_
   refine cw_seq ?_
   refine cw_ops hA ?_
   clear hA
   refine oy (rv_assign rfl rfl) rfl ?_
   refine ops_nil fun a hA => ?_
   obtain ⟨o1, hl1, hF⟩ := bindE hF
   refine cw_cut (J := fun a' w' => o1 = Out.brk (()) ∧ AEnv 50 [] a' ∧ St (cxAll w0) w' [] []) ?_ ?_
   ·refine cw_block ?_
    refine cw_loop (body := spec_LimboOk_l2 x1) (r := o1) (fun sg a' w' => ∃ (s5 : Value), AEnv 50 [(3, s2), (4, s5), (5, .int .i64 (sg.2))] a' ∧ St (cxAll w0) w' [cOwn [s2] (x1 : List LRow), cOwn [s5] (sg.1 : List Int)] []) ?_ hl1 ⟨s3, hA.part ⟨rfl, rfl, rfl, trivial⟩, ((hS).sel [0, 1] rfl).selR [] rfl⟩
    clear hA hS hl1
    rintro ⟨x5, x6⟩ a w q2 ⟨s5, hA, hS⟩ hG2 hr2
    try dsimp only at hA hS
    unfold spec_LimboOk_l2 at hG2
    refine cw_seq ?_
    refine cw_seq ?_
    refine cw_ops hA ?_
    clear hA
    refine oy (rv_move rfl rfl) rfl ?_
    refine oy (rv_move rfl rfl) rfl ?_
    refine oy (rv_lenS (hS.rdOwn 0 rfl) Tryz.underlying67 rfl rfl) rfl ?_
    refine oy (rv_lss rfl rfl rfl) rfl ?_
    refine ops_nil fun a hA => ?_
    refine cw_cond hA rfl (fun hc2 => ?_) (fun hc2 => ?_)
    ·replace hG2 := iteT hc2 hG2
     refine cw_skip ?_
     refine cw_seq ?_
     refine cw_block ?_
     refine cw_seq ?_
     refine cw_ops hA ?_
     clear hA
     refine oy (rv_move rfl rfl) rfl ?_
     refine oy (rv_move rfl rfl) rfl ?_
     obtain ⟨x7, hx7, hG2⟩ := bindE hG2
     refine oy (rv_idx (m := 2) (hS.rdOwn 0 rfl) rfl hx7 Tryz.underlying67 Tryz.sizeOf71 rfl rfl rfl) rfl ?_
     refine oy (rv_fld (m := 0) Tryz.underlying71 rfl rfl Tryz.sizeOf3 rfl rfl) rfl ?_
     refine oy (rv_load1 rfl rfl Tryz.isAgg3 (cell1 (CellsAt.sub (cs' := [.int .i64 (x7.Handle)]) (el_LRow (hS.rdOwn 0 rfl) (idx_some hx7).2.2) 0 rfl rfl))) rfl ?_
     obtain ⟨x8, hx8, hG2⟩ := bindE hG2
     refine ops_c (rc_call Tryz.call99 rfl rfl) (want_yes rfl) rfl rfl (c_spec_HandleSlot (h := x7.Handle)  hx8) ?_
     rintro _ w ⟨rfl, hk⟩
     replace hS := hS.after hk; clear hk
     refine oy (rv_assign rfl rfl) rfl ?_
     refine ops_nil fun a hA => ?_
     refine cw_seq ?_
     refine cw_seq ?_
     refine cw_cut (J := fun a' w' => ∃ (x9 : Bool), spec_LimboOk_j3 x5 x6 x8 x9 = some q2 ∧ AEnv 50 [(3, s2), (4, s5), (5, .int .i64 (x6)), (6, .int .i64 (x8)), (45, .bool (x9))] a' ∧ St (cxAll w0) w' [cOwn [s2] (x1 : List LRow), cOwn [s5] (x5 : List Int)] []) ?_ ?_
     ·skip
      refine cw_ops hA ?_
      clear hA
      refine oy (rv_move rfl rfl) rfl ?_
      refine oy (rv_lss rfl rfl rfl) rfl ?_
      refine oy (rv_move rfl rfl) rfl ?_
      refine ops_case (s := 32) rfl (fun hc4 => ?_) (fun hc4 => ?_)
      ·replace hG2 := iteT hc4 hG2
       refine ops_off (want_if rfl rfl rfl (by rw [hc4]; rfl)) rfl rfl ?_
       refine ops_off (want_if rfl rfl rfl (by rw [hc4]; rfl)) rfl rfl ?_
       refine ops_off (want_if rfl rfl rfl (by rw [hc4]; rfl)) rfl rfl ?_
       refine ops_off (want_if rfl rfl rfl (by rw [hc4]; rfl)) rfl rfl ?_
       refine ops_off (want_if rfl rfl rfl (by rw [hc4]; rfl)) rfl rfl ?_
       refine ops_off (want_if rfl rfl rfl (by rw [hc4]; rfl)) rfl rfl ?_
       refine ops_off (want_if rfl rfl rfl (by rw [hc4]; rfl)) rfl rfl ?_
       refine oy (rv_pick_t rfl rfl hc4 rfl) rfl ?_
       refine oy (rv_move rfl rfl) rfl ?_
       refine ops_off (want_if rfl rfl rfl rfl) rfl rfl ?_
       refine ops_off (want_if rfl rfl rfl rfl) rfl rfl ?_
       refine ops_off (want_if rfl rfl rfl rfl) rfl rfl ?_
       refine oy (rv_pick_t rfl rfl rfl rfl) rfl ?_
       refine ops_nil fun a hA => ?_
       exact ⟨true, hG2, hA.part ⟨rfl, rfl, rfl, rfl, rfl, trivial⟩, ((hS).sel [0, 1] rfl).selR [] rfl⟩
      ·replace hG2 := iteF hc4 hG2
       refine ops_v (rv_move rfl rfl) (want_if rfl rfl rfl (by rw [hc4]; rfl)) rfl rfl ?_
       refine ops_v (rv_move rfl rfl) (want_if rfl rfl rfl (by rw [hc4]; rfl)) rfl rfl ?_
       obtain ⟨x10, hx10, hG2⟩ := bindE hG2
       refine ops_v (rv_idx (m := 2) (hS.rdOwn 0 rfl) rfl hx10 Tryz.underlying67 Tryz.sizeOf71 rfl rfl rfl) (want_if rfl rfl rfl (by rw [hc4]; rfl)) rfl rfl ?_
       refine ops_v (rv_fld (m := 0) Tryz.underlying71 rfl rfl Tryz.sizeOf3 rfl rfl) (want_if rfl rfl rfl (by rw [hc4]; rfl)) rfl rfl ?_
       refine ops_v (rv_load1 rfl rfl Tryz.isAgg3 (cell1 (CellsAt.sub (cs' := [.int .i64 (x10.Epoch)]) (el_LRow (hS.rdOwn 0 rfl) (idx_some hx10).2.2) 1 rfl rfl))) (want_if rfl rfl rfl (by rw [hc4]; rfl)) rfl rfl ?_
       obtain ⟨x11, hx11, hG2⟩ := bindE hG2
       refine ops_c (rc_call Tryz.call60 rfl rfl) (want_if rfl rfl rfl (by rw [hc4]; rfl)) rfl rfl (c_spec_l1In (x := x10.Epoch) (low := 0) (high := 100000)  hx11) ?_
       rintro _ w ⟨rfl, hk⟩
       replace hS := hS.after hk; clear hk
       refine ops_v (rv_not rfl rfl) (want_if rfl rfl rfl (by rw [hc4]; rfl)) rfl rfl ?_
       refine oy (rv_pick_f rfl rfl hc4 rfl) rfl ?_
       refine oy (rv_move rfl rfl) rfl ?_
       refine ops_case (s := 41) rfl (fun hc5 => ?_) (fun hc5 => ?_)
       ·replace hG2 := iteT hc5 hG2
        refine ops_off (want_if rfl rfl rfl (by rw [hc5]; rfl)) rfl rfl ?_
        refine ops_off (want_if rfl rfl rfl (by rw [hc5]; rfl)) rfl rfl ?_
        refine ops_off (want_if rfl rfl rfl (by rw [hc5]; rfl)) rfl rfl ?_
        refine oy (rv_pick_t rfl rfl hc5 rfl) rfl ?_
        refine ops_nil fun a hA => ?_
        exact ⟨true, hG2, hA.part ⟨rfl, rfl, rfl, rfl, rfl, trivial⟩, ((hS).sel [0, 1] rfl).selR [] rfl⟩
       ·replace hG2 := iteF hc5 hG2
        refine ops_v (rv_move rfl rfl) (want_if rfl rfl rfl (by rw [hc5]; rfl)) rfl rfl ?_
        refine ops_v (rv_move rfl rfl) (want_if rfl rfl rfl (by rw [hc5]; rfl)) rfl rfl ?_
        obtain ⟨x12, hx12, hG2⟩ := bindE hG2
        refine ops_c (rc_call Tryz.call100 rfl rfl) (want_if rfl rfl rfl (by rw [hc5]; rfl)) rfl rfl (c_spec_l8Has (l := x5) (x := x8) (hS.rdOwn 1 rfl) hx12) ?_
        rintro _ w ⟨rfl, hk⟩
        replace hS := hS.after hk; clear hk
        refine oy (rv_pick_f rfl rfl hc5 rfl) rfl ?_
        refine ops_nil fun a hA => ?_
        exact ⟨x12, hG2, hA.part ⟨rfl, rfl, rfl, rfl, rfl, trivial⟩, ((hS).sel [0, 1] rfl).selR [] rfl⟩
     ·skip
      clear hA hS hG2
      rintro a w ⟨x9, hG2, hA, hS⟩
      unfold spec_LimboOk_j3 at hG2
      refine cw_cond hA rfl (fun hc3 => ?_) (fun hc3 => ?_)
      ·replace hG2 := iteT hc3 hG2
       refine cw_seq ?_
       refine cw_ops hA ?_
       clear hA
       refine oy (rv_assign rfl rfl) rfl ?_
       refine ops_nil fun a hA => ?_
       refine cw_ret ?_
       cases hG2
       have ho := hr2 _ rfl; subst ho
       replace hF : some false = some r := hF
       cases hF
       exact fy Tryz.results55 hA rfl hS
      ·replace hG2 := iteF hc3 hG2
       refine cw_skip ?_
       refine cw_ops hA ?_
       clear hA
       refine oy (rv_move rfl rfl) rfl ?_
       refine oy (rv_move rfl rfl) rfl ?_
       refine ops_mv (rv_lit1 (x8 : Int) hS rfl Tryz.underlying22 inf_Tryz3 rfl rfl rfl rfl) (want_yes rfl) rfl rfl ?_
       clear hS
       rintro s6 w hS
       obtain ⟨hn1, hG2⟩ := needE hG2
       refine ops_mv (rv_append (α := Int) 1 hS rfl (hS.rdOwn 2 rfl) rfl Tryz.underlying22 inf_Tryz3 rfl hn1 rfl rfl rfl) (want_yes rfl) rfl rfl ?_
       clear hS
       rintro s7 w hS
       refine oy (rv_assign rfl rfl) rfl ?_
       refine ops_nil fun a hA => ?_
       refine cw_ops hA ?_
       clear hA
       refine oy (rv_move rfl rfl) rfl ?_
       refine oy (rv_add rfl rfl rfl) rfl ?_
       refine oy (rv_assign rfl rfl) rfl ?_
       refine ops_nil fun a hA => ?_
       cases hG2
       exact ⟨_, rfl, ⟨s7, hA.part ⟨rfl, rfl, rfl, trivial⟩, ((hS).sel [0, 1] rfl).selR [] rfl⟩⟩
    ·replace hG2 := iteF hc2 hG2
     refine cw_exit ?_
     refine xcons_hit ?_
     cases hG2
     have ho := hr2 _ rfl; subst ho
     exact ⟨rfl, hA.part trivial, ((hS).sel [] rfl).selR [] rfl⟩
   ·skip
    clear hA hS hl1
    rintro a w ⟨heq, hA, hS⟩
    replace hF : spec_LimboOk_j2 = some r := by rw [heq] at hF; exact hF
    clear heq
    unfold spec_LimboOk_j2 at hF
    refine cw_seq ?_
    refine cw_ops hA ?_
    clear hA
    refine oy (rv_assign rfl rfl) rfl ?_
    refine ops_nil fun a hA => ?_
    refine cw_ret ?_
    cases hF
    exact fy Tryz.results55 hA rfl hS
end Go.Proofs.YtpndngnohcffnaaGreat
