import Derived.Test.YtpndngnohcffnaaXFns
import Derived.Test.YtpndngnohcffnaaProg
namespace Go.Proofs.Ytpndngnohcffnaa
open Go.Gv
theorem places_Try37 (w : World) : ((match Try.prog.underlying 37 with | some (.struct fs) => fs | _ => #[]).mapM fun (f : Field) => (do pure (f.offset, ← sizeOf f.type) : Sem (Nat × Nat))).run Try.prog w = .ok #[(0, 2), (2, 2)] w := by
  simp [Try.underlying37, Try.sizeOf32, Try.sizeOf35]

theorem places_Try53 (w : World) : ((match Try.prog.underlying 53 with | some (.struct fs) => fs | _ => #[]).mapM fun (f : Field) => (do pure (f.offset, ← sizeOf f.type) : Sem (Nat × Nat))).run Try.prog w = .ok #[(0, 1)] w := by
  simp [Try.underlying53, Try.sizeOf22]

theorem places_Try60 (w : World) : ((match Try.prog.underlying 60 with | some (.struct fs) => fs | _ => #[]).mapM fun (f : Field) => (do pure (f.offset, ← sizeOf f.type) : Sem (Nat × Nat))).run Try.prog w = .ok #[(0, 1), (1, 1)] w := by
  simp [Try.underlying60, Try.sizeOf4, Try.sizeOf9]

theorem inf_Try3 : Inf Try.prog 3 1 (.int .i64 0) := inf_of (b := 8) (by kernel_rfl) rfl

theorem inf_Try53 : Inf Try.prog 53 1 (.agg #[.slice none 0 0]) := inf_of (b := 24) (by kernel_rfl) rfl

theorem inf_Try5 : Inf Try.prog 5 1 (.int .u8 0) := inf_of (b := 1) (by kernel_rfl) rfl

theorem inf_Try33 : Inf Try.prog 33 1 (.slice none 0 0) := inf_of (b := 24) (by kernel_rfl) rfl

theorem mixed_Try : Try.prog.follows .mixedOrders = true := by kernel_rfl

set_option maxHeartbeats 4000000 in
set_option maxRecDepth 100000 in
theorem c_laws_szIntS {w0 : World} {a_ : List Int} {left : Int} {s1 : Value} {r : Int} (h1 : Rep.rd (All w0) w0 [s1] (a_ : List Int)) (hF : laws_szIntS a_ left = some r) :
    Calls Try.prog 30 #[s1, .int .i64 (left)] w0 (Ret fun v w' => v = .int .i64 (r) ∧ St (cxAll w0) w' [] []) := by
  have hS : St (cxAll w0) w0 [] [fRd [s1] (a_ : List Int)] := St.enter (by
    intro f hf
    simp only [List.mem_cons, List.not_mem_nil, or_false] at hf
    subst hf; exact h1)
  refine calls_cw (args := [_, _]) Try.func30 rfl Try.ntmps30 rfl ?_
  unfold laws_szIntS at hF
  intro a hA
  refine cw_seq ?_
  refine cw_ops hA ?_
  clear hA
  refine ops_v (rv_assign rfl rfl) (want_yes rfl) rfl rfl ?_
  refine ops_nil ?_
  intro a hA
  refine cw_seq ?_
  refine cw_ops hA ?_
  clear hA
  refine ops_v (rv_move rfl rfl) (want_yes rfl) rfl rfl ?_
  refine ops_v (rv_move rfl rfl) (want_yes rfl) rfl rfl ?_
  refine ops_v (rv_lenS (hS.rd 0 rfl) Try.underlying22 rfl rfl) (want_yes rfl) rfl rfl ?_
  refine ops_v (rv_sub rfl rfl rfl) (want_yes rfl) rfl rfl ?_
  refine ops_v (rv_assign rfl rfl) (want_yes rfl) rfl rfl ?_
  refine ops_nil ?_
  intro a hA
  refine cw_seq ?_
  refine cw_seq ?_
  refine cw_ops hA ?_
  clear hA
  refine ops_v (rv_move rfl rfl) (want_yes rfl) rfl rfl ?_
  refine ops_v (rv_lss rfl rfl rfl) (want_yes rfl) rfl rfl ?_
  refine ops_nil ?_
  intro a hA
  refine cw_cond hA rfl (fun hc1 => ?_) (fun hc1 => ?_)
  · replace hF := iteT hc1 hF
    refine cw_seq ?_
    refine cw_ops hA ?_
    clear hA
    refine ops_v (rv_assign rfl rfl) (want_yes rfl) rfl rfl ?_
    refine ops_nil ?_
    intro a hA
    refine cw_ret ?_
    cases hF
    exact fin1 Try.results30 hA (res_tmp rfl) ⟨rfl, (hS.sel [] rfl).weaken (R' := []) (fun _ h => nomatch h)⟩
  · replace hF := iteF hc1 hF
    refine cw_skip ?_
    refine cw_seq ?_
    refine cw_ops hA ?_
    clear hA
    refine ops_v (rv_move rfl rfl) (want_yes rfl) rfl rfl ?_
    refine ops_v (rv_assign rfl rfl) (want_yes rfl) rfl rfl ?_
    refine ops_nil ?_
    intro a hA
    refine cw_ret ?_
    cases hF
    exact fin1 Try.results30 hA (res_tmp rfl) ⟨rfl, (hS.sel [] rfl).weaken (R' := []) (fun _ h => nomatch h)⟩

set_option maxHeartbeats 4000000 in
set_option maxRecDepth 100000 in
theorem c_laws_szHeap {w0 : World} {a_ : Heap} {left : Int} {s1 : Value} {s2 : Value} {r : Int} (h1 : Rep.rd (All w0) w0 [s1] (a_.Bytes : List Int)) (h2 : Rep.rd (All w0) w0 [s2] (a_.Class : List Int)) (hF : laws_szHeap a_ left = some r) :
    Calls Try.prog 14 #[.agg #[s1, s2], .int .i64 (left)] w0 (Ret fun v w' => v = .int .i64 (r) ∧ St (cxAll w0) w' [] []) := by
  have hS : St (cxAll w0) w0 [] [fRd [s1] (a_.Bytes : List Int), fRd [s2] (a_.Class : List Int)] := St.enter (by
    intro f hf
    simp only [List.mem_cons, List.not_mem_nil, or_false] at hf
    rcases hf with rfl | rfl
    · exact h1
    · exact h2)
  refine calls_cw (args := [_, _]) Try.func14 rfl Try.ntmps14 rfl ?_
  unfold laws_szHeap at hF
  intro a hA
  refine cw_seq ?_
  refine cw_ops hA ?_
  clear hA
  refine ops_mv (rv_box (cs := [s1, s2]) hS rfl rfl rfl) (want_yes rfl) rfl rfl ?_
  clear hS
  rintro _ w ⟨b1, rfl, hS⟩
  refine ops_v (rv_assign rfl rfl) (want_yes rfl) rfl rfl ?_
  refine ops_nil ?_
  intro a hA
  refine cw_seq ?_
  refine cw_ops hA ?_
  clear hA
  refine ops_v (rv_fld (m := 0) Try.underlying24 rfl rfl Try.sizeOf22 rfl rfl) (want_yes rfl) rfl rfl ?_
  refine ops_v (rv_load1 rfl rfl Try.isAgg22 (hS.cell 0 rfl rfl)) (want_yes rfl) rfl rfl ?_
  refine ops_v (rv_move rfl rfl) (want_yes rfl) rfl rfl ?_
  obtain ⟨x1, hx1, hF⟩ := bindE hF
  refine ops_c (rc_call Try.call30 rfl rfl) (want_yes rfl) rfl rfl (c_laws_szIntS (a_ := a_.Bytes) (left := left) (hS.rd 0 rfl) hx1) ?_
  rintro _ w ⟨rfl, hk⟩
  replace hS := hS.after hk; clear hk
  refine ops_v (rv_assign rfl rfl) (want_yes rfl) rfl rfl ?_
  refine ops_nil ?_
  intro a hA
  refine cw_seq ?_
  refine cw_seq ?_
  refine cw_ops hA ?_
  clear hA
  refine ops_v (rv_move rfl rfl) (want_yes rfl) rfl rfl ?_
  refine ops_v (rv_lss rfl rfl rfl) (want_yes rfl) rfl rfl ?_
  refine ops_nil ?_
  intro a hA
  refine cw_cond hA rfl (fun hc1 => ?_) (fun hc1 => ?_)
  · replace hF := iteT hc1 hF
    refine cw_seq ?_
    refine cw_ops hA ?_
    clear hA
    refine ops_v (rv_assign rfl rfl) (want_yes rfl) rfl rfl ?_
    refine ops_nil ?_
    intro a hA
    refine cw_ret ?_
    cases hF
    exact fin1 Try.results14 hA (res_tmp rfl) ⟨rfl, (hS.sel [] rfl).weaken (R' := []) (fun _ h => nomatch h)⟩
  · replace hF := iteF hc1 hF
    refine cw_skip ?_
    refine cw_seq ?_
    refine cw_ops hA ?_
    clear hA
    refine ops_v (rv_fld (m := 0) Try.underlying24 rfl rfl Try.sizeOf22 rfl rfl) (want_yes rfl) rfl rfl ?_
    refine ops_v (rv_load1 rfl rfl Try.isAgg22 (hS.cell 0 rfl rfl)) (want_yes rfl) rfl rfl ?_
    refine ops_v (rv_move rfl rfl) (want_yes rfl) rfl rfl ?_
    obtain ⟨x2, hx2, hF⟩ := bindE hF
    refine ops_c (rc_call Try.call30 rfl rfl) (want_yes rfl) rfl rfl (c_laws_szIntS (a_ := a_.Class) (left := x1) (hS.rd 1 rfl) hx2) ?_
    rintro _ w ⟨rfl, hk⟩
    replace hS := hS.after hk; clear hk
    refine ops_v (rv_assign rfl rfl) (want_yes rfl) rfl rfl ?_
    refine ops_nil ?_
    intro a hA
    refine cw_seq ?_
    refine cw_seq ?_
    refine cw_ops hA ?_
    clear hA
    refine ops_v (rv_move rfl rfl) (want_yes rfl) rfl rfl ?_
    refine ops_v (rv_lss rfl rfl rfl) (want_yes rfl) rfl rfl ?_
    refine ops_nil ?_
    intro a hA
    refine cw_cond hA rfl (fun hc2 => ?_) (fun hc2 => ?_)
    · replace hF := iteT hc2 hF
      refine cw_seq ?_
      refine cw_ops hA ?_
      clear hA
      refine ops_v (rv_assign rfl rfl) (want_yes rfl) rfl rfl ?_
      refine ops_nil ?_
      intro a hA
      refine cw_ret ?_
      cases hF
      exact fin1 Try.results14 hA (res_tmp rfl) ⟨rfl, (hS.sel [] rfl).weaken (R' := []) (fun _ h => nomatch h)⟩
    · replace hF := iteF hc2 hF
      refine cw_skip ?_
      refine cw_seq ?_
      refine cw_ops hA ?_
      clear hA
      refine ops_v (rv_move rfl rfl) (want_yes rfl) rfl rfl ?_
      refine ops_v (rv_assign rfl rfl) (want_yes rfl) rfl rfl ?_
      refine ops_nil ?_
      intro a hA
      refine cw_ret ?_
      cases hF
      exact fin1 Try.results14 hA (res_tmp rfl) ⟨rfl, (hS.sel [] rfl).weaken (R' := []) (fun _ h => nomatch h)⟩

set_option maxHeartbeats 4000000 in
set_option maxRecDepth 100000 in
theorem c_laws_szSList {w0 : World} {a_ : SList} {left : Int} {s1 : Value} {r : Int} (h1 : Rep.rd (All w0) w0 [s1] (a_.Slots : List Int)) (hF : laws_szSList a_ left = some r) :
    Calls Try.prog 52 #[.agg #[s1], .int .i64 (left)] w0 (Ret fun v w' => v = .int .i64 (r) ∧ St (cxAll w0) w' [] []) := by
  have hS : St (cxAll w0) w0 [] [fRd [s1] (a_.Slots : List Int)] := St.enter (by
    intro f hf
    simp only [List.mem_cons, List.not_mem_nil, or_false] at hf
    subst hf; exact h1)
  refine calls_cw (args := [_, _]) Try.func52 rfl Try.ntmps52 rfl ?_
  unfold laws_szSList at hF
  intro a hA
  refine cw_seq ?_
  refine cw_ops hA ?_
  clear hA
  refine ops_mv (rv_box (cs := [s1]) hS rfl rfl rfl) (want_yes rfl) rfl rfl ?_
  clear hS
  rintro _ w ⟨b1, rfl, hS⟩
  refine ops_v (rv_assign rfl rfl) (want_yes rfl) rfl rfl ?_
  refine ops_nil ?_
  intro a hA
  refine cw_seq ?_
  refine cw_ops hA ?_
  clear hA
  refine ops_v (rv_fld (m := 0) Try.underlying83 rfl rfl Try.sizeOf22 rfl rfl) (want_yes rfl) rfl rfl ?_
  refine ops_v (rv_load1 rfl rfl Try.isAgg22 (hS.cell 0 rfl rfl)) (want_yes rfl) rfl rfl ?_
  refine ops_v (rv_move rfl rfl) (want_yes rfl) rfl rfl ?_
  obtain ⟨x1, hx1, hF⟩ := bindE hF
  refine ops_c (rc_call Try.call30 rfl rfl) (want_yes rfl) rfl rfl (c_laws_szIntS (a_ := a_.Slots) (left := left) (hS.rd 0 rfl) hx1) ?_
  rintro _ w ⟨rfl, hk⟩
  replace hS := hS.after hk; clear hk
  refine ops_v (rv_assign rfl rfl) (want_yes rfl) rfl rfl ?_
  refine ops_nil ?_
  intro a hA
  refine cw_seq ?_
  refine cw_seq ?_
  refine cw_ops hA ?_
  clear hA
  refine ops_v (rv_move rfl rfl) (want_yes rfl) rfl rfl ?_
  refine ops_v (rv_lss rfl rfl rfl) (want_yes rfl) rfl rfl ?_
  refine ops_nil ?_
  intro a hA
  refine cw_cond hA rfl (fun hc1 => ?_) (fun hc1 => ?_)
  · replace hF := iteT hc1 hF
    refine cw_seq ?_
    refine cw_ops hA ?_
    clear hA
    refine ops_v (rv_assign rfl rfl) (want_yes rfl) rfl rfl ?_
    refine ops_nil ?_
    intro a hA
    refine cw_ret ?_
    cases hF
    exact fin1 Try.results52 hA (res_tmp rfl) ⟨rfl, (hS.sel [] rfl).weaken (R' := []) (fun _ h => nomatch h)⟩
  · replace hF := iteF hc1 hF
    refine cw_skip ?_
    refine cw_seq ?_
    refine cw_ops hA ?_
    clear hA
    refine ops_v (rv_move rfl rfl) (want_yes rfl) rfl rfl ?_
    refine ops_v (rv_assign rfl rfl) (want_yes rfl) rfl rfl ?_
    refine ops_nil ?_
    intro a hA
    refine cw_ret ?_
    cases hF
    exact fin1 Try.results52 hA (res_tmp rfl) ⟨rfl, (hS.sel [] rfl).weaken (R' := []) (fun _ h => nomatch h)⟩

set_option maxHeartbeats 4000000 in
set_option maxRecDepth 100000 in
theorem c_laws_szSListS {w0 : World} {a_ : List SList} {left : Int} {s1 : Value} {r : Int} (h1 : Rep.rd (All w0) w0 [s1] (a_ : List SList)) (hF : laws_szSListS a_ left = some r) :
    Calls Try.prog 31 #[s1, .int .i64 (left)] w0 (Ret fun v w' => v = .int .i64 (r) ∧ St (cxAll w0) w' [] []) := by
  have hS : St (cxAll w0) w0 [] [fRd [s1] (a_ : List SList)] := St.enter (by
    intro f hf
    simp only [List.mem_cons, List.not_mem_nil, or_false] at hf
    subst hf; exact h1)
  refine calls_cw (args := [_, _]) Try.func31 rfl Try.ntmps31 rfl ?_
  unfold laws_szSListS at hF
  intro a hA
  refine cw_seq ?_
  refine cw_ops hA ?_
  clear hA
  refine ops_v (rv_assign rfl rfl) (want_yes rfl) rfl rfl ?_
  refine ops_nil ?_
  intro a hA
  refine cw_seq ?_
  refine cw_ops hA ?_
  clear hA
  refine ops_v (rv_move rfl rfl) (want_yes rfl) rfl rfl ?_
  refine ops_v (rv_move rfl rfl) (want_yes rfl) rfl rfl ?_
  refine ops_v (rv_lenS (hS.rd 0 rfl) Try.underlying25 rfl rfl) (want_yes rfl) rfl rfl ?_
  refine ops_v (rv_sub rfl rfl rfl) (want_yes rfl) rfl rfl ?_
  refine ops_v (rv_assign rfl rfl) (want_yes rfl) rfl rfl ?_
  refine ops_nil ?_
  intro a hA
  refine cw_seq ?_
  refine cw_seq ?_
  refine cw_ops hA ?_
  clear hA
  refine ops_v (rv_move rfl rfl) (want_yes rfl) rfl rfl ?_
  refine ops_v (rv_lss rfl rfl rfl) (want_yes rfl) rfl rfl ?_
  refine ops_nil ?_
  intro a hA
  refine cw_cond hA rfl (fun hc1 => ?_) (fun hc1 => ?_)
  · replace hF := iteT hc1 hF
    refine cw_seq ?_
    refine cw_ops hA ?_
    clear hA
    refine ops_v (rv_assign rfl rfl) (want_yes rfl) rfl rfl ?_
    refine ops_nil ?_
    intro a hA
    refine cw_ret ?_
    cases hF
    exact fin1 Try.results31 hA (res_tmp rfl) ⟨rfl, (hS.sel [] rfl).weaken (R' := []) (fun _ h => nomatch h)⟩
  · replace hF := iteF hc1 hF
    refine cw_skip ?_
    refine cw_seq ?_
    refine cw_seq ?_
    refine cw_ops hA ?_
    clear hA
    refine ops_v (rv_assign rfl rfl) (want_yes rfl) rfl rfl ?_
    refine ops_nil ?_
    intro a hA
    obtain ⟨o1, hl1, hF⟩ := bindE hF
    refine cw_cut (J := fun a' w' => ∃ (x5 : Int), o1 = Out.brk x5 ∧ AEnv 27 [(1, .int .i64 (x5))] a' ∧ St (cxAll w0) w' [] []) ?_ ?_
    · refine cw_block ?_
      refine cw_loop (body := laws_szSListS_l1 a_) (r := o1) (fun sg a' w' => AEnv 27 [(0, s1), (1, .int .i64 (sg.1)), (5, .int .i64 (sg.2))] a' ∧ St (cxAll w0) w' [] [fRd [s1] (a_ : List SList)]) ?_ hl1 ⟨hA.part ⟨rfl, rfl, rfl, trivial⟩, ((hS).sel [] rfl).selR [0] rfl⟩
      clear hA hS hl1
      rintro ⟨x3, x4⟩ a w q1 ⟨hA, hS⟩ hG1 hr1
      try dsimp only at hA hS
      unfold laws_szSListS_l1 at hG1
      refine cw_seq ?_
      refine cw_seq ?_
      refine cw_ops hA ?_
      clear hA
      refine ops_v (rv_move rfl rfl) (want_yes rfl) rfl rfl ?_
      refine ops_v (rv_move rfl rfl) (want_yes rfl) rfl rfl ?_
      refine ops_v (rv_lenS (hS.rd 0 rfl) Try.underlying25 rfl rfl) (want_yes rfl) rfl rfl ?_
      refine ops_v (rv_lss rfl rfl rfl) (want_yes rfl) rfl rfl ?_
      refine ops_nil ?_
      intro a hA
      refine cw_cond hA rfl (fun hc2 => ?_) (fun hc2 => ?_)
      · replace hG1 := iteT hc2 hG1
        refine cw_skip ?_
        refine cw_seq ?_
        refine cw_block ?_
        refine cw_seq ?_
        refine cw_ops hA ?_
        clear hA
        refine ops_v (rv_move rfl rfl) (want_yes rfl) rfl rfl ?_
        refine ops_v (rv_move rfl rfl) (want_yes rfl) rfl rfl ?_
        obtain ⟨x6, hx6, hG1⟩ := bindE hG1
        refine ops_v (rv_idx (m := 1) (hS.rd 0 rfl) rfl hx6 Try.underlying25 Try.sizeOf83 rfl rfl rfl) (want_yes rfl) rfl rfl ?_
        obtain ⟨s2, hel, hS⟩ := hS.el_SList 0 rfl (idx_some hx6).2.2
        refine ops_v (rv_loadN rfl rfl Try.isAgg83 Try.sizeOf83 rfl hel) (want_yes rfl) rfl rfl ?_
        refine ops_v (rv_move rfl rfl) (want_yes rfl) rfl rfl ?_
        obtain ⟨x7, hx7, hG1⟩ := bindE hG1
        refine ops_c (rc_call Try.call52 rfl rfl) (want_yes rfl) rfl rfl (c_laws_szSList (a_ := x6) (left := x3) (hS.rd 1 rfl) hx7) ?_
        rintro _ w ⟨rfl, hk⟩
        replace hS := hS.after hk; clear hk
        refine ops_v (rv_assign rfl rfl) (want_yes rfl) rfl rfl ?_
        refine ops_nil ?_
        intro a hA
        refine cw_seq ?_
        refine cw_ops hA ?_
        clear hA
        refine ops_v (rv_move rfl rfl) (want_yes rfl) rfl rfl ?_
        refine ops_v (rv_lss rfl rfl rfl) (want_yes rfl) rfl rfl ?_
        refine ops_nil ?_
        intro a hA
        refine cw_cond hA rfl (fun hc3 => ?_) (fun hc3 => ?_)
        · replace hG1 := iteT hc3 hG1
          refine cw_seq ?_
          refine cw_ops hA ?_
          clear hA
          refine ops_v (rv_assign rfl rfl) (want_yes rfl) rfl rfl ?_
          refine ops_nil ?_
          intro a hA
          refine cw_ret ?_
          cases hG1
          have ho := hr1 _ rfl; subst ho
          replace hF : some ((-1)) = some r := hF
          cases hF
          exact fin1 Try.results31 hA (res_tmp rfl) ⟨rfl, (hS.sel [] rfl).weaken (R' := []) (fun _ h => nomatch h)⟩
        · replace hG1 := iteF hc3 hG1
          refine cw_skip ?_
          refine cw_ops hA ?_
          clear hA
          refine ops_v (rv_move rfl rfl) (want_yes rfl) rfl rfl ?_
          refine ops_v (rv_add rfl rfl rfl) (want_yes rfl) rfl rfl ?_
          refine ops_v (rv_assign rfl rfl) (want_yes rfl) rfl rfl ?_
          refine ops_nil ?_
          intro a hA
          cases hG1
          exact ⟨_, rfl, ⟨hA.part ⟨rfl, rfl, rfl, trivial⟩, ((hS).sel [] rfl).selR [0] rfl⟩⟩
      · replace hG1 := iteF hc2 hG1
        refine cw_exit ?_
        refine xcons_hit ?_
        cases hG1
        have ho := hr1 _ rfl; subst ho
        exact ⟨x3, rfl, hA.part ⟨rfl, trivial⟩, ((hS).sel [] rfl).selR [] rfl⟩
    · skip
      clear hA hS hl1
      rintro a w ⟨x5, heq, hA, hS⟩
      replace hF : laws_szSListS_j1 x5 = some r := by rw [heq] at hF; exact hF
      clear heq
      unfold laws_szSListS_j1 at hF
      refine cw_seq ?_
      refine cw_ops hA ?_
      clear hA
      refine ops_v (rv_move rfl rfl) (want_yes rfl) rfl rfl ?_
      refine ops_v (rv_assign rfl rfl) (want_yes rfl) rfl rfl ?_
      refine ops_nil ?_
      intro a hA
      refine cw_ret ?_
      cases hF
      exact fin1 Try.results31 hA (res_tmp rfl) ⟨rfl, (hS.sel [] rfl).weaken (R' := []) (fun _ h => nomatch h)⟩

set_option maxHeartbeats 4000000 in
set_option maxRecDepth 100000 in
theorem c_laws_szLists {w0 : World} {a_ : Lists} {left : Int} {s1 : Value} {s2 : Value} {r : Int} (h1 : Rep.rd (All w0) w0 [s1] (a_.Global : List SList)) (h2 : Rep.rd (All w0) w0 [s2] (a_.Own : List SList)) (hF : laws_szLists a_ left = some r) :
    Calls Try.prog 15 #[.agg #[s1, s2], .int .i64 (left)] w0 (Ret fun v w' => v = .int .i64 (r) ∧ St (cxAll w0) w' [] []) := by
  have hS : St (cxAll w0) w0 [] [fRd [s1] (a_.Global : List SList), fRd [s2] (a_.Own : List SList)] := St.enter (by
    intro f hf
    simp only [List.mem_cons, List.not_mem_nil, or_false] at hf
    rcases hf with rfl | rfl
    · exact h1
    · exact h2)
  refine calls_cw (args := [_, _]) Try.func15 rfl Try.ntmps15 rfl ?_
  unfold laws_szLists at hF
  intro a hA
  refine cw_seq ?_
  refine cw_ops hA ?_
  clear hA
  refine ops_mv (rv_box (cs := [s1, s2]) hS rfl rfl rfl) (want_yes rfl) rfl rfl ?_
  clear hS
  rintro _ w ⟨b1, rfl, hS⟩
  refine ops_v (rv_assign rfl rfl) (want_yes rfl) rfl rfl ?_
  refine ops_nil ?_
  intro a hA
  refine cw_seq ?_
  refine cw_ops hA ?_
  clear hA
  refine ops_v (rv_fld (m := 0) Try.underlying27 rfl rfl Try.sizeOf25 rfl rfl) (want_yes rfl) rfl rfl ?_
  refine ops_v (rv_load1 rfl rfl Try.isAgg25 (hS.cell 0 rfl rfl)) (want_yes rfl) rfl rfl ?_
  refine ops_v (rv_move rfl rfl) (want_yes rfl) rfl rfl ?_
  obtain ⟨x1, hx1, hF⟩ := bindE hF
  refine ops_c (rc_call Try.call31 rfl rfl) (want_yes rfl) rfl rfl (c_laws_szSListS (a_ := a_.Global) (left := left) (hS.rd 0 rfl) hx1) ?_
  rintro _ w ⟨rfl, hk⟩
  replace hS := hS.after hk; clear hk
  refine ops_v (rv_assign rfl rfl) (want_yes rfl) rfl rfl ?_
  refine ops_nil ?_
  intro a hA
  refine cw_seq ?_
  refine cw_seq ?_
  refine cw_ops hA ?_
  clear hA
  refine ops_v (rv_move rfl rfl) (want_yes rfl) rfl rfl ?_
  refine ops_v (rv_lss rfl rfl rfl) (want_yes rfl) rfl rfl ?_
  refine ops_nil ?_
  intro a hA
  refine cw_cond hA rfl (fun hc1 => ?_) (fun hc1 => ?_)
  · replace hF := iteT hc1 hF
    refine cw_seq ?_
    refine cw_ops hA ?_
    clear hA
    refine ops_v (rv_assign rfl rfl) (want_yes rfl) rfl rfl ?_
    refine ops_nil ?_
    intro a hA
    refine cw_ret ?_
    cases hF
    exact fin1 Try.results15 hA (res_tmp rfl) ⟨rfl, (hS.sel [] rfl).weaken (R' := []) (fun _ h => nomatch h)⟩
  · replace hF := iteF hc1 hF
    refine cw_skip ?_
    refine cw_seq ?_
    refine cw_ops hA ?_
    clear hA
    refine ops_v (rv_fld (m := 0) Try.underlying27 rfl rfl Try.sizeOf25 rfl rfl) (want_yes rfl) rfl rfl ?_
    refine ops_v (rv_load1 rfl rfl Try.isAgg25 (hS.cell 0 rfl rfl)) (want_yes rfl) rfl rfl ?_
    refine ops_v (rv_move rfl rfl) (want_yes rfl) rfl rfl ?_
    obtain ⟨x2, hx2, hF⟩ := bindE hF
    refine ops_c (rc_call Try.call31 rfl rfl) (want_yes rfl) rfl rfl (c_laws_szSListS (a_ := a_.Own) (left := x1) (hS.rd 1 rfl) hx2) ?_
    rintro _ w ⟨rfl, hk⟩
    replace hS := hS.after hk; clear hk
    refine ops_v (rv_assign rfl rfl) (want_yes rfl) rfl rfl ?_
    refine ops_nil ?_
    intro a hA
    refine cw_seq ?_
    refine cw_seq ?_
    refine cw_ops hA ?_
    clear hA
    refine ops_v (rv_move rfl rfl) (want_yes rfl) rfl rfl ?_
    refine ops_v (rv_lss rfl rfl rfl) (want_yes rfl) rfl rfl ?_
    refine ops_nil ?_
    intro a hA
    refine cw_cond hA rfl (fun hc2 => ?_) (fun hc2 => ?_)
    · replace hF := iteT hc2 hF
      refine cw_seq ?_
      refine cw_ops hA ?_
      clear hA
      refine ops_v (rv_assign rfl rfl) (want_yes rfl) rfl rfl ?_
      refine ops_nil ?_
      intro a hA
      refine cw_ret ?_
      cases hF
      exact fin1 Try.results15 hA (res_tmp rfl) ⟨rfl, (hS.sel [] rfl).weaken (R' := []) (fun _ h => nomatch h)⟩
    · replace hF := iteF hc2 hF
      refine cw_skip ?_
      refine cw_seq ?_
      refine cw_ops hA ?_
      clear hA
      refine ops_v (rv_move rfl rfl) (want_yes rfl) rfl rfl ?_
      refine ops_v (rv_assign rfl rfl) (want_yes rfl) rfl rfl ?_
      refine ops_nil ?_
      intro a hA
      refine cw_ret ?_
      cases hF
      exact fin1 Try.results15 hA (res_tmp rfl) ⟨rfl, (hS.sel [] rfl).weaken (R' := []) (fun _ h => nomatch h)⟩

set_option maxHeartbeats 4000000 in
set_option maxRecDepth 100000 in
theorem c_laws_szMem {w0 : World} {a_ : Mem} {left : Int} {s1 : Value} {s2 : Value} {s3 : Value} {s4 : Value} {r : Int} (h1 : Rep.rd (All w0) w0 [s1] (a_.Heap.Bytes : List Int)) (h2 : Rep.rd (All w0) w0 [s2] (a_.Heap.Class : List Int)) (h3 : Rep.rd (All w0) w0 [s3] (a_.Lists.Global : List SList)) (h4 : Rep.rd (All w0) w0 [s4] (a_.Lists.Own : List SList)) (hF : laws_szMem a_ left = some r) :
    Calls Try.prog 5 #[.agg #[s1, s2, s3, s4], .int .i64 (left)] w0 (Ret fun v w' => v = .int .i64 (r) ∧ St (cxAll w0) w' [] []) := by
  have hS : St (cxAll w0) w0 [] [fRd [s1] (a_.Heap.Bytes : List Int), fRd [s2] (a_.Heap.Class : List Int), fRd [s3] (a_.Lists.Global : List SList), fRd [s4] (a_.Lists.Own : List SList)] := St.enter (by
    intro f hf
    simp only [List.mem_cons, List.not_mem_nil, or_false] at hf
    rcases hf with rfl | rfl | rfl | rfl
    · exact h1
    · exact h2
    · exact h3
    · exact h4)
  refine calls_cw (args := [_, _]) Try.func5 rfl Try.ntmps5 rfl ?_
  unfold laws_szMem at hF
  intro a hA
  refine cw_seq ?_
  refine cw_ops hA ?_
  clear hA
  refine ops_mv (rv_box (cs := [s1, s2, s3, s4]) hS rfl rfl rfl) (want_yes rfl) rfl rfl ?_
  clear hS
  rintro _ w ⟨b1, rfl, hS⟩
  refine ops_v (rv_assign rfl rfl) (want_yes rfl) rfl rfl ?_
  refine ops_nil ?_
  intro a hA
  refine cw_seq ?_
  refine cw_ops hA ?_
  clear hA
  refine ops_v (rv_fld (m := 1) Try.underlying29 rfl rfl Try.sizeOf24 rfl rfl) (want_yes rfl) rfl rfl ?_
  refine ops_v (rv_loadN rfl rfl Try.isAgg24 Try.sizeOf24 rfl (hS.cells 0 0 (cs' := [s1, s2]) rfl rfl)) (want_yes rfl) rfl rfl ?_
  refine ops_v (rv_move rfl rfl) (want_yes rfl) rfl rfl ?_
  obtain ⟨x1, hx1, hF⟩ := bindE hF
  refine ops_c (rc_call Try.call14 rfl rfl) (want_yes rfl) rfl rfl (c_laws_szHeap (a_ := a_.Heap) (left := left) (hS.rd 0 rfl) (hS.rd 1 rfl) hx1) ?_
  rintro _ w ⟨rfl, hk⟩
  replace hS := hS.after hk; clear hk
  refine ops_v (rv_assign rfl rfl) (want_yes rfl) rfl rfl ?_
  refine ops_nil ?_
  intro a hA
  refine cw_seq ?_
  refine cw_seq ?_
  refine cw_ops hA ?_
  clear hA
  refine ops_v (rv_move rfl rfl) (want_yes rfl) rfl rfl ?_
  refine ops_v (rv_lss rfl rfl rfl) (want_yes rfl) rfl rfl ?_
  refine ops_nil ?_
  intro a hA
  refine cw_cond hA rfl (fun hc1 => ?_) (fun hc1 => ?_)
  · replace hF := iteT hc1 hF
    refine cw_seq ?_
    refine cw_ops hA ?_
    clear hA
    refine ops_v (rv_assign rfl rfl) (want_yes rfl) rfl rfl ?_
    refine ops_nil ?_
    intro a hA
    refine cw_ret ?_
    cases hF
    exact fin1 Try.results5 hA (res_tmp rfl) ⟨rfl, (hS.sel [] rfl).weaken (R' := []) (fun _ h => nomatch h)⟩
  · replace hF := iteF hc1 hF
    refine cw_skip ?_
    refine cw_seq ?_
    refine cw_ops hA ?_
    clear hA
    refine ops_v (rv_fld (m := 1) Try.underlying29 rfl rfl Try.sizeOf27 rfl rfl) (want_yes rfl) rfl rfl ?_
    refine ops_v (rv_loadN rfl rfl Try.isAgg27 Try.sizeOf27 rfl (hS.cells 0 2 (cs' := [s3, s4]) rfl rfl)) (want_yes rfl) rfl rfl ?_
    refine ops_v (rv_move rfl rfl) (want_yes rfl) rfl rfl ?_
    obtain ⟨x2, hx2, hF⟩ := bindE hF
    refine ops_c (rc_call Try.call15 rfl rfl) (want_yes rfl) rfl rfl (c_laws_szLists (a_ := a_.Lists) (left := x1) (hS.rd 2 rfl) (hS.rd 3 rfl) hx2) ?_
    rintro _ w ⟨rfl, hk⟩
    replace hS := hS.after hk; clear hk
    refine ops_v (rv_assign rfl rfl) (want_yes rfl) rfl rfl ?_
    refine ops_nil ?_
    intro a hA
    refine cw_seq ?_
    refine cw_seq ?_
    refine cw_ops hA ?_
    clear hA
    refine ops_v (rv_move rfl rfl) (want_yes rfl) rfl rfl ?_
    refine ops_v (rv_lss rfl rfl rfl) (want_yes rfl) rfl rfl ?_
    refine ops_nil ?_
    intro a hA
    refine cw_cond hA rfl (fun hc2 => ?_) (fun hc2 => ?_)
    · replace hF := iteT hc2 hF
      refine cw_seq ?_
      refine cw_ops hA ?_
      clear hA
      refine ops_v (rv_assign rfl rfl) (want_yes rfl) rfl rfl ?_
      refine ops_nil ?_
      intro a hA
      refine cw_ret ?_
      cases hF
      exact fin1 Try.results5 hA (res_tmp rfl) ⟨rfl, (hS.sel [] rfl).weaken (R' := []) (fun _ h => nomatch h)⟩
    · replace hF := iteF hc2 hF
      refine cw_skip ?_
      refine cw_seq ?_
      refine cw_ops hA ?_
      clear hA
      refine ops_v (rv_move rfl rfl) (want_yes rfl) rfl rfl ?_
      refine ops_v (rv_assign rfl rfl) (want_yes rfl) rfl rfl ?_
      refine ops_nil ?_
      intro a hA
      refine cw_ret ?_
      cases hF
      exact fin1 Try.results5 hA (res_tmp rfl) ⟨rfl, (hS.sel [] rfl).weaken (R' := []) (fun _ h => nomatch h)⟩

set_option maxHeartbeats 4000000 in
set_option maxRecDepth 100000 in
theorem c_laws_toIntS {w0 : World} {a_ : List Int} {s1 : Value} {r : (List Int)} (h1 : Rep.rd (All w0) w0 [s1] (a_ : List Int)) (hF : laws_toIntS a_ = some r) :
    Calls Try.prog 37 #[s1] w0 (Ret fun v w' => ∃ (s0_0 : Value), v = s0_0 ∧ St (cxAll w0) w' [cOwn [s0_0] (r : List Int)] []) := by
  have hS : St (cxAll w0) w0 [] [fRd [s1] (a_ : List Int)] := St.enter (by
    intro f hf
    simp only [List.mem_cons, List.not_mem_nil, or_false] at hf
    subst hf; exact h1)
  refine calls_cw (args := [_]) Try.func37 rfl Try.ntmps37 rfl ?_
  unfold laws_toIntS at hF
  intro a hA
  refine cw_seq ?_
  refine cw_ops hA ?_
  clear hA
  refine ops_v (rv_assign rfl rfl) (want_yes rfl) rfl rfl ?_
  refine ops_nil ?_
  intro a hA
  refine cw_seq ?_
  refine cw_ops hA ?_
  clear hA
  refine ops_v (rv_move rfl rfl) (want_yes rfl) rfl rfl ?_
  refine ops_v (rv_lenS (hS.rd 0 rfl) Try.underlying22 rfl rfl) (want_yes rfl) rfl rfl ?_
  obtain ⟨hn1, hF⟩ := needE hF
  refine ops_mv (rv_make (0 : Int) hS rfl Try.underlying22 inf_Try3 rfl (fun _ => rfl) hn1 rfl rfl rfl) (want_yes rfl) rfl rfl ?_
  clear hS
  rintro s2 w hS
  refine ops_v (rv_assign rfl rfl) (want_yes rfl) rfl rfl ?_
  refine ops_nil ?_
  intro a hA
  refine cw_seq ?_
  refine cw_seq ?_
  refine cw_ops hA ?_
  clear hA
  refine ops_v (rv_assign rfl rfl) (want_yes rfl) rfl rfl ?_
  refine ops_nil ?_
  intro a hA
  obtain ⟨o1, hl1, hF⟩ := bindE hF
  refine cw_cut (J := fun a' w' => ∃ (x5 : List Int), o1 = x5 ∧ AEnv 22 [(3, s2)] a' ∧ St (cxAll w0) w' [cOwn [s2] (x5 : List Int)] []) ?_ ?_
  · refine cw_block ?_
    refine cw_loop (body := laws_toIntS_l1 a_) (r := o1) (fun sg a' w' => AEnv 22 [(0, s1), (3, s2), (4, .int .i64 (sg.2))] a' ∧ St (cxAll w0) w' [cOwn [s2] (sg.1 : List Int)] [fRd [s1] (a_ : List Int)]) ?_ hl1 ⟨hA.part ⟨rfl, rfl, rfl, trivial⟩, ((hS).sel [0] rfl).selR [0] rfl⟩
    clear hA hS hl1
    rintro ⟨x3, x4⟩ a w q1 ⟨hA, hS⟩ hG1 hr1
    try dsimp only at hA hS
    unfold laws_toIntS_l1 at hG1
    refine cw_seq ?_
    refine cw_seq ?_
    refine cw_ops hA ?_
    clear hA
    refine ops_v (rv_move rfl rfl) (want_yes rfl) rfl rfl ?_
    refine ops_v (rv_move rfl rfl) (want_yes rfl) rfl rfl ?_
    refine ops_v (rv_lenS (hS.rd 0 rfl) Try.underlying22 rfl rfl) (want_yes rfl) rfl rfl ?_
    refine ops_v (rv_lss rfl rfl rfl) (want_yes rfl) rfl rfl ?_
    refine ops_nil ?_
    intro a hA
    refine cw_cond hA rfl (fun hc1 => ?_) (fun hc1 => ?_)
    · replace hG1 := iteT hc1 hG1
      refine cw_skip ?_
      refine cw_seq ?_
      refine cw_block ?_
      refine cw_ops hA ?_
      clear hA
      refine ops_v (rv_move rfl rfl) (want_yes rfl) rfl rfl ?_
      refine ops_v (rv_move rfl rfl) (want_yes rfl) rfl rfl ?_
      refine ops_v (rv_move rfl rfl) (want_yes rfl) rfl rfl ?_
      refine ops_v (rv_move rfl rfl) (want_yes rfl) rfl rfl ?_
      obtain ⟨x6, hx6, hG1⟩ := bindE hG1
      refine ops_v (rv_idx (m := 1) (hS.rd 0 rfl) rfl hx6 Try.underlying22 Try.sizeOf3 rfl rfl rfl) (want_yes rfl) rfl rfl ?_
      refine ops_v (rv_load1 rfl rfl Try.isAgg3 (cell1 (el_Int (hS.rd 0 rfl) (idx_some hx6).2.2))) (want_yes rfl) rfl rfl ?_
      obtain ⟨x7, hx7, hG1⟩ := bindE hG1
      refine ops_v (rv_idx (m := 1) (hS.rdOwn 0 rfl) rfl hx7 Try.underlying22 Try.sizeOf3 rfl rfl rfl) (want_yes rfl) rfl rfl ?_
      refine ops_ms (rs_elem (vs := [.int .i64 (x6)]) (f := 0) (xd := x6) hS (i := 0) rfl hx7 rfl (el_Int (hS.rdOwn 0 rfl) (idx_some hx7).2.2) rfl rfl Try.sizeOf3 rfl rfl rfl rfl rfl rfl rfl) (want_yes rfl) rfl ?_
      clear hS
      intro w hS
      refine ops_nil ?_
      intro a hA
      refine cw_ops hA ?_
      clear hA
      refine ops_v (rv_move rfl rfl) (want_yes rfl) rfl rfl ?_
      refine ops_v (rv_add rfl rfl rfl) (want_yes rfl) rfl rfl ?_
      refine ops_v (rv_assign rfl rfl) (want_yes rfl) rfl rfl ?_
      refine ops_nil ?_
      intro a hA
      cases hG1
      exact ⟨_, rfl, ⟨hA.part ⟨rfl, rfl, rfl, trivial⟩, ((hS).sel [0] rfl).selR [0] rfl⟩⟩
    · replace hG1 := iteF hc1 hG1
      refine cw_exit ?_
      refine xcons_hit ?_
      cases hG1
      have ho := hr1 _ rfl; subst ho
      exact ⟨x3, rfl, hA.part ⟨rfl, trivial⟩, ((hS).sel [0] rfl).selR [] rfl⟩
  · skip
    clear hA hS hl1
    rintro a w ⟨x5, heq, hA, hS⟩
    replace hF : laws_toIntS_j1 x5 = some r := by rw [heq] at hF; exact hF
    clear heq
    unfold laws_toIntS_j1 at hF
    refine cw_seq ?_
    refine cw_ops hA ?_
    clear hA
    refine ops_v (rv_move rfl rfl) (want_yes rfl) rfl rfl ?_
    refine ops_v (rv_assign rfl rfl) (want_yes rfl) rfl rfl ?_
    refine ops_nil ?_
    intro a hA
    refine cw_ret ?_
    cases hF
    exact fin1 Try.results37 hA (res_tmp rfl) ⟨s2, rfl, (hS.sel [0] rfl).weaken (R' := []) (fun _ h => nomatch h)⟩

set_option maxHeartbeats 4000000 in
set_option maxRecDepth 100000 in
theorem c_laws_toHeap {w0 : World} {a_ : Heap} {s1 : Value} {s2 : Value} {r : Heap} (h1 : Rep.rd (All w0) w0 [s1] (a_.Bytes : List Int)) (h2 : Rep.rd (All w0) w0 [s2] (a_.Class : List Int)) (hF : laws_toHeap a_ = some r) :
    Calls Try.prog 18 #[.agg #[s1, s2]] w0 (Ret fun v w' => ∃ (s0_0 : Value) (s0_1 : Value), v = .agg #[s0_0, s0_1] ∧ St (cxAll w0) w' [cOwn [s0_0] (r.Bytes : List Int), cOwn [s0_1] (r.Class : List Int)] []) := by
  have hS : St (cxAll w0) w0 [] [fRd [s1] (a_.Bytes : List Int), fRd [s2] (a_.Class : List Int)] := St.enter (by
    intro f hf
    simp only [List.mem_cons, List.not_mem_nil, or_false] at hf
    rcases hf with rfl | rfl
    · exact h1
    · exact h2)
  refine calls_cw (args := [_]) Try.func18 rfl Try.ntmps18 rfl ?_
  unfold laws_toHeap at hF
  intro a hA
  refine cw_seq ?_
  refine cw_ops hA ?_
  clear hA
  refine ops_mv (rv_box (cs := [s1, s2]) hS rfl rfl rfl) (want_yes rfl) rfl rfl ?_
  clear hS
  rintro _ w ⟨b1, rfl, hS⟩
  refine ops_mv (rv_alloc (cs := [(.slice none 0 0), (.slice none 0 0)]) hS rfl Try.zeroValue32 rfl) (want_yes rfl) rfl rfl ?_
  clear hS
  rintro _ w ⟨b2, rfl, hS⟩
  refine ops_nil ?_
  intro a hA
  refine cw_seq ?_
  refine cw_ops hA ?_
  clear hA
  refine ops_mv (rv_alloc (cs := [(.slice none 0 0), (.slice none 0 0)]) hS rfl Try.zeroValue32 rfl) (want_yes rfl) rfl rfl ?_
  clear hS
  rintro _ w ⟨b3, rfl, hS⟩
  refine ops_nil ?_
  intro a hA
  refine cw_seq ?_
  refine cw_ops hA ?_
  clear hA
  refine ops_v (rv_fld (m := 0) Try.underlying24 rfl rfl Try.sizeOf22 rfl rfl) (want_yes rfl) rfl rfl ?_
  refine ops_v (rv_load1 rfl rfl Try.isAgg22 (hS.cell 0 rfl rfl)) (want_yes rfl) rfl rfl ?_
  obtain ⟨x1, hx1, hF⟩ := bindE hF
  refine ops_c (rc_call Try.call37 rfl rfl) (want_yes rfl) rfl rfl (c_laws_toIntS (a_ := a_.Bytes) (hS.rd 0 rfl) hx1) ?_
  rintro s3 w ⟨_, rfl, hk⟩
  replace hS := hS.after hk; clear hk
  refine ops_v (rv_fld (m := 0) Try.underlying32 rfl rfl Try.sizeOf22 rfl rfl) (want_yes rfl) rfl rfl ?_
  refine ops_ms (rs_box (vs := [s3]) hS (i := 2) rfl rfl rfl rfl (cells_rd (hS.rdOwn 3 rfl)) Try.sizeOf22 rfl rfl (all1 (one_rd (hS.rdOwn 3 rfl)) rfl)) (want_yes rfl) rfl ?_
  clear hS
  intro w hS
  refine ops_nil ?_
  intro a hA
  refine cw_seq ?_
  refine cw_ops hA ?_
  clear hA
  refine ops_v (rv_fld (m := 0) Try.underlying24 rfl rfl Try.sizeOf22 rfl rfl) (want_yes rfl) rfl rfl ?_
  refine ops_v (rv_load1 rfl rfl Try.isAgg22 (hS.cell 0 rfl rfl)) (want_yes rfl) rfl rfl ?_
  obtain ⟨x2, hx2, hF⟩ := bindE hF
  refine ops_c (rc_call Try.call37 rfl rfl) (want_yes rfl) rfl rfl (c_laws_toIntS (a_ := a_.Class) (hS.rd 1 rfl) hx2) ?_
  rintro s4 w ⟨_, rfl, hk⟩
  replace hS := hS.after hk; clear hk
  refine ops_v (rv_fld (m := 0) Try.underlying32 rfl rfl Try.sizeOf22 rfl rfl) (want_yes rfl) rfl rfl ?_
  refine ops_ms (rs_box (vs := [s4]) hS (i := 2) rfl rfl rfl rfl (cells_rd (hS.rdOwn 4 rfl)) Try.sizeOf22 rfl rfl (all1 (one_rd (hS.rdOwn 4 rfl)) rfl)) (want_yes rfl) rfl ?_
  clear hS
  intro w hS
  refine ops_nil ?_
  intro a hA
  refine cw_seq ?_
  refine cw_ops hA ?_
  clear hA
  refine ops_v (rv_loadN rfl rfl Try.isAgg32 Try.sizeOf32 rfl (hS.cells 2 0 (cs' := [s3, s4]) rfl rfl)) (want_yes rfl) rfl rfl ?_
  refine ops_ms (rs_box (vs := [s3, s4]) hS (i := 1) rfl rfl rfl rfl rfl Try.sizeOf32 rfl rfl (all1 (one_rd (hS.rdOwn 3 rfl)) (all1 (one_rd (hS.rdOwn 4 rfl)) rfl))) (want_yes rfl) rfl ?_
  clear hS
  intro w hS
  refine ops_nil ?_
  intro a hA
  refine cw_ret ?_
  cases hF
  exact fin1 Try.results18 hA (res_cell rfl Try.isAgg32 Try.sizeOf32 rfl (hS.cells 1 0 (cs' := [s3, s4]) rfl rfl)) ⟨s3, s4, rfl, (hS.sel [3, 4] rfl).weaken (R' := []) (fun _ h => nomatch h)⟩

set_option maxHeartbeats 4000000 in
set_option maxRecDepth 100000 in
theorem c_laws_toSList {w0 : World} {a_ : SList} {s1 : Value} {r : SList} (h1 : Rep.rd (All w0) w0 [s1] (a_.Slots : List Int)) (hF : laws_toSList a_ = some r) :
    Calls Try.prog 60 #[.agg #[s1]] w0 (Ret fun v w' => ∃ (s0_0 : Value), v = .agg #[s0_0] ∧ St (cxAll w0) w' [cOwn [s0_0] (r.Slots : List Int)] []) := by
  have hS : St (cxAll w0) w0 [] [fRd [s1] (a_.Slots : List Int)] := St.enter (by
    intro f hf
    simp only [List.mem_cons, List.not_mem_nil, or_false] at hf
    subst hf; exact h1)
  refine calls_cw (args := [_]) Try.func60 rfl Try.ntmps60 rfl ?_
  unfold laws_toSList at hF
  intro a hA
  refine cw_seq ?_
  refine cw_ops hA ?_
  clear hA
  refine ops_mv (rv_box (cs := [s1]) hS rfl rfl rfl) (want_yes rfl) rfl rfl ?_
  clear hS
  rintro _ w ⟨b1, rfl, hS⟩
  refine ops_mv (rv_alloc (cs := [(.slice none 0 0)]) hS rfl Try.zeroValue53 rfl) (want_yes rfl) rfl rfl ?_
  clear hS
  rintro _ w ⟨b2, rfl, hS⟩
  refine ops_nil ?_
  intro a hA
  refine cw_seq ?_
  refine cw_ops hA ?_
  clear hA
  refine ops_mv (rv_alloc (cs := [(.slice none 0 0)]) hS rfl Try.zeroValue53 rfl) (want_yes rfl) rfl rfl ?_
  clear hS
  rintro _ w ⟨b3, rfl, hS⟩
  refine ops_nil ?_
  intro a hA
  refine cw_seq ?_
  refine cw_ops hA ?_
  clear hA
  refine ops_v (rv_fld (m := 0) Try.underlying83 rfl rfl Try.sizeOf22 rfl rfl) (want_yes rfl) rfl rfl ?_
  refine ops_v (rv_load1 rfl rfl Try.isAgg22 (hS.cell 0 rfl rfl)) (want_yes rfl) rfl rfl ?_
  obtain ⟨x1, hx1, hF⟩ := bindE hF
  refine ops_c (rc_call Try.call37 rfl rfl) (want_yes rfl) rfl rfl (c_laws_toIntS (a_ := a_.Slots) (hS.rd 0 rfl) hx1) ?_
  rintro s2 w ⟨_, rfl, hk⟩
  replace hS := hS.after hk; clear hk
  refine ops_v (rv_fld (m := 0) Try.underlying53 rfl rfl Try.sizeOf22 rfl rfl) (want_yes rfl) rfl rfl ?_
  refine ops_ms (rs_box (vs := [s2]) hS (i := 2) rfl rfl rfl rfl (cells_rd (hS.rdOwn 3 rfl)) Try.sizeOf22 rfl rfl (all1 (one_rd (hS.rdOwn 3 rfl)) rfl)) (want_yes rfl) rfl ?_
  clear hS
  intro w hS
  refine ops_nil ?_
  intro a hA
  refine cw_seq ?_
  refine cw_ops hA ?_
  clear hA
  refine ops_v (rv_loadN rfl rfl Try.isAgg53 Try.sizeOf53 rfl (hS.cells 2 0 (cs' := [s2]) rfl rfl)) (want_yes rfl) rfl rfl ?_
  refine ops_ms (rs_box (vs := [s2]) hS (i := 1) rfl rfl rfl rfl rfl Try.sizeOf53 rfl rfl (all1 (one_rd (hS.rdOwn 3 rfl)) rfl)) (want_yes rfl) rfl ?_
  clear hS
  intro w hS
  refine ops_nil ?_
  intro a hA
  refine cw_ret ?_
  cases hF
  exact fin1 Try.results60 hA (res_cell rfl Try.isAgg53 Try.sizeOf53 rfl (hS.cells 1 0 (cs' := [s2]) rfl rfl)) ⟨s2, rfl, (hS.sel [3] rfl).weaken (R' := []) (fun _ h => nomatch h)⟩

set_option maxHeartbeats 4000000 in
set_option maxRecDepth 100000 in
theorem c_laws_toSListS {w0 : World} {a_ : List SList} {s1 : Value} {r : (List SList)} (h1 : Rep.rd (All w0) w0 [s1] (a_ : List SList)) (hF : laws_toSListS a_ = some r) :
    Calls Try.prog 38 #[s1] w0 (Ret fun v w' => ∃ (s0_0 : Value), v = s0_0 ∧ St (cxAll w0) w' [cOwn [s0_0] (r : List SList)] []) := by
  have hS : St (cxAll w0) w0 [] [fRd [s1] (a_ : List SList)] := St.enter (by
    intro f hf
    simp only [List.mem_cons, List.not_mem_nil, or_false] at hf
    subst hf; exact h1)
  refine calls_cw (args := [_]) Try.func38 rfl Try.ntmps38 rfl ?_
  unfold laws_toSListS at hF
  intro a hA
  refine cw_seq ?_
  refine cw_ops hA ?_
  clear hA
  refine ops_v (rv_assign rfl rfl) (want_yes rfl) rfl rfl ?_
  refine ops_nil ?_
  intro a hA
  refine cw_seq ?_
  refine cw_ops hA ?_
  clear hA
  refine ops_v (rv_move rfl rfl) (want_yes rfl) rfl rfl ?_
  refine ops_v (rv_lenS (hS.rd 0 rfl) Try.underlying25 rfl rfl) (want_yes rfl) rfl rfl ?_
  obtain ⟨hn1, hF⟩ := needE hF
  refine ops_mv (rv_makeN ((⟨[]⟩ : SList) : SList) hS rfl Try.underlying33 inf_Try53 rfl (fun _ => (op_zero (op_SList ((⟨[]⟩ : SList))) (zcons znil))) hn1 rfl rfl rfl) (want_yes rfl) rfl rfl ?_
  clear hS
  rintro s2 w hS
  refine ops_v (rv_assign rfl rfl) (want_yes rfl) rfl rfl ?_
  refine ops_nil ?_
  intro a hA
  refine cw_seq ?_
  refine cw_seq ?_
  refine cw_ops hA ?_
  clear hA
  refine ops_v (rv_assign rfl rfl) (want_yes rfl) rfl rfl ?_
  refine ops_nil ?_
  intro a hA
  obtain ⟨o1, hl1, hF⟩ := bindE hF
  refine cw_cut (J := fun a' w' => ∃ (x5 : List SList), o1 = x5 ∧ AEnv 23 [(3, s2)] a' ∧ St (cxAll w0) w' [cOwn [s2] (x5 : List SList)] []) ?_ ?_
  · refine cw_block ?_
    refine cw_loop (body := laws_toSListS_l1 a_) (r := o1) (fun sg a' w' => AEnv 23 [(0, s1), (3, s2), (4, .int .i64 (sg.2))] a' ∧ St (cxAll w0) w' [cOwn [s2] (sg.1 : List SList)] [fRd [s1] (a_ : List SList)]) ?_ hl1 ⟨hA.part ⟨rfl, rfl, rfl, trivial⟩, ((hS).sel [0] rfl).selR [0] rfl⟩
    clear hA hS hl1
    rintro ⟨x3, x4⟩ a w q1 ⟨hA, hS⟩ hG1 hr1
    try dsimp only at hA hS
    unfold laws_toSListS_l1 at hG1
    refine cw_seq ?_
    refine cw_seq ?_
    refine cw_ops hA ?_
    clear hA
    refine ops_v (rv_move rfl rfl) (want_yes rfl) rfl rfl ?_
    refine ops_v (rv_move rfl rfl) (want_yes rfl) rfl rfl ?_
    refine ops_v (rv_lenS (hS.rd 0 rfl) Try.underlying25 rfl rfl) (want_yes rfl) rfl rfl ?_
    refine ops_v (rv_lss rfl rfl rfl) (want_yes rfl) rfl rfl ?_
    refine ops_nil ?_
    intro a hA
    refine cw_cond hA rfl (fun hc1 => ?_) (fun hc1 => ?_)
    · replace hG1 := iteT hc1 hG1
      refine cw_skip ?_
      refine cw_seq ?_
      refine cw_block ?_
      refine cw_ops hA ?_
      clear hA
      refine ops_v (rv_move rfl rfl) (want_yes rfl) rfl rfl ?_
      refine ops_v (rv_move rfl rfl) (want_yes rfl) rfl rfl ?_
      refine ops_v (rv_move rfl rfl) (want_yes rfl) rfl rfl ?_
      refine ops_v (rv_move rfl rfl) (want_yes rfl) rfl rfl ?_
      obtain ⟨x6, hx6, hG1⟩ := bindE hG1
      refine ops_v (rv_idx (m := 1) (hS.rd 0 rfl) rfl hx6 Try.underlying25 Try.sizeOf83 rfl rfl rfl) (want_yes rfl) rfl rfl ?_
      obtain ⟨s3, hel, hS⟩ := hS.el_SList 0 rfl (idx_some hx6).2.2
      refine ops_v (rv_loadN rfl rfl Try.isAgg83 Try.sizeOf83 rfl hel) (want_yes rfl) rfl rfl ?_
      obtain ⟨x7, hx7, hG1⟩ := bindE hG1
      refine ops_c (rc_call Try.call60 rfl rfl) (want_yes rfl) rfl rfl (c_laws_toSList (a_ := x6) (hS.rd 1 rfl) hx7) ?_
      rintro _ w ⟨s4, rfl, hk⟩
      replace hS := hS.after hk; clear hk
      obtain ⟨x8, hx8, hG1⟩ := bindE hG1
      refine ops_v (rv_idx (m := 1) (hS.rdOwn 0 rfl) rfl hx8 Try.underlying33 Try.sizeOf53 rfl rfl rfl) (want_yes rfl) rfl rfl ?_
      obtain ⟨ec, hS⟩ := hS.open 0 rfl (idx_some hx8).2.2
      obtain ⟨s5, he, _⟩ := rd_SList (hS.rdOwn 4 rfl)
      subst he
      replace hS := hS.unpack 4 rfl (op_SList x8)
      refine ops_ms (rs_at (vs := [s4]) (q := elO 1 (x4.toNat) s2) (j := 0) hS (i := 3) rfl rfl rfl rfl rfl Try.sizeOf53 rfl rfl (all1 (one_rd (hS.rdOwn 1 rfl)) rfl)) (want_yes rfl) rfl ?_
      clear hS
      intro w hS
      refine ops_nil ?_
      intro a hA
      refine cw_ops hA ?_
      clear hA
      refine ops_v (rv_move rfl rfl) (want_yes rfl) rfl rfl ?_
      refine ops_v (rv_add rfl rfl rfl) (want_yes rfl) rfl rfl ?_
      refine ops_v (rv_assign rfl rfl) (want_yes rfl) rfl rfl ?_
      refine ops_nil ?_
      intro a hA
      replace hS := hS.pack [1] rfl rfl (op_SList x7)
      replace hS := hS.close [2, 3, 6] rfl rfl
      cases hG1
      exact ⟨_, rfl, ⟨hA.part ⟨rfl, rfl, rfl, trivial⟩, ((hS).sel [7] rfl).selR [0] rfl⟩⟩
    · replace hG1 := iteF hc1 hG1
      refine cw_exit ?_
      refine xcons_hit ?_
      cases hG1
      have ho := hr1 _ rfl; subst ho
      exact ⟨x3, rfl, hA.part ⟨rfl, trivial⟩, ((hS).sel [0] rfl).selR [] rfl⟩
  · skip
    clear hA hS hl1
    rintro a w ⟨x5, heq, hA, hS⟩
    replace hF : laws_toSListS_j1 x5 = some r := by rw [heq] at hF; exact hF
    clear heq
    unfold laws_toSListS_j1 at hF
    refine cw_seq ?_
    refine cw_ops hA ?_
    clear hA
    refine ops_v (rv_move rfl rfl) (want_yes rfl) rfl rfl ?_
    refine ops_v (rv_assign rfl rfl) (want_yes rfl) rfl rfl ?_
    refine ops_nil ?_
    intro a hA
    refine cw_ret ?_
    cases hF
    exact fin1 Try.results38 hA (res_tmp rfl) ⟨s2, rfl, (hS.sel [0] rfl).weaken (R' := []) (fun _ h => nomatch h)⟩

set_option maxHeartbeats 4000000 in
set_option maxRecDepth 100000 in
theorem c_laws_toLists {w0 : World} {a_ : Lists} {s1 : Value} {s2 : Value} {r : Lists} (h1 : Rep.rd (All w0) w0 [s1] (a_.Global : List SList)) (h2 : Rep.rd (All w0) w0 [s2] (a_.Own : List SList)) (hF : laws_toLists a_ = some r) :
    Calls Try.prog 19 #[.agg #[s1, s2]] w0 (Ret fun v w' => ∃ (s0_0 : Value) (s0_1 : Value), v = .agg #[s0_0, s0_1] ∧ St (cxAll w0) w' [cOwn [s0_0] (r.Global : List SList), cOwn [s0_1] (r.Own : List SList)] []) := by
  have hS : St (cxAll w0) w0 [] [fRd [s1] (a_.Global : List SList), fRd [s2] (a_.Own : List SList)] := St.enter (by
    intro f hf
    simp only [List.mem_cons, List.not_mem_nil, or_false] at hf
    rcases hf with rfl | rfl
    · exact h1
    · exact h2)
  refine calls_cw (args := [_]) Try.func19 rfl Try.ntmps19 rfl ?_
  unfold laws_toLists at hF
  intro a hA
  refine cw_seq ?_
  refine cw_ops hA ?_
  clear hA
  refine ops_mv (rv_box (cs := [s1, s2]) hS rfl rfl rfl) (want_yes rfl) rfl rfl ?_
  clear hS
  rintro _ w ⟨b1, rfl, hS⟩
  refine ops_mv (rv_alloc (cs := [(.slice none 0 0), (.slice none 0 0)]) hS rfl Try.zeroValue35 rfl) (want_yes rfl) rfl rfl ?_
  clear hS
  rintro _ w ⟨b2, rfl, hS⟩
  refine ops_nil ?_
  intro a hA
  refine cw_seq ?_
  refine cw_ops hA ?_
  clear hA
  refine ops_mv (rv_alloc (cs := [(.slice none 0 0), (.slice none 0 0)]) hS rfl Try.zeroValue35 rfl) (want_yes rfl) rfl rfl ?_
  clear hS
  rintro _ w ⟨b3, rfl, hS⟩
  refine ops_nil ?_
  intro a hA
  refine cw_seq ?_
  refine cw_ops hA ?_
  clear hA
  refine ops_v (rv_fld (m := 0) Try.underlying27 rfl rfl Try.sizeOf25 rfl rfl) (want_yes rfl) rfl rfl ?_
  refine ops_v (rv_load1 rfl rfl Try.isAgg25 (hS.cell 0 rfl rfl)) (want_yes rfl) rfl rfl ?_
  obtain ⟨x1, hx1, hF⟩ := bindE hF
  refine ops_c (rc_call Try.call38 rfl rfl) (want_yes rfl) rfl rfl (c_laws_toSListS (a_ := a_.Global) (hS.rd 0 rfl) hx1) ?_
  rintro s3 w ⟨_, rfl, hk⟩
  replace hS := hS.after hk; clear hk
  refine ops_v (rv_fld (m := 0) Try.underlying35 rfl rfl Try.sizeOf33 rfl rfl) (want_yes rfl) rfl rfl ?_
  refine ops_ms (rs_box (vs := [s3]) hS (i := 2) rfl rfl rfl rfl (cells_rd (hS.rdOwn 3 rfl)) Try.sizeOf33 rfl rfl (all1 (one_rd (hS.rdOwn 3 rfl)) rfl)) (want_yes rfl) rfl ?_
  clear hS
  intro w hS
  refine ops_nil ?_
  intro a hA
  refine cw_seq ?_
  refine cw_ops hA ?_
  clear hA
  refine ops_v (rv_fld (m := 0) Try.underlying27 rfl rfl Try.sizeOf25 rfl rfl) (want_yes rfl) rfl rfl ?_
  refine ops_v (rv_load1 rfl rfl Try.isAgg25 (hS.cell 0 rfl rfl)) (want_yes rfl) rfl rfl ?_
  obtain ⟨x2, hx2, hF⟩ := bindE hF
  refine ops_c (rc_call Try.call38 rfl rfl) (want_yes rfl) rfl rfl (c_laws_toSListS (a_ := a_.Own) (hS.rd 1 rfl) hx2) ?_
  rintro s4 w ⟨_, rfl, hk⟩
  replace hS := hS.after hk; clear hk
  refine ops_v (rv_fld (m := 0) Try.underlying35 rfl rfl Try.sizeOf33 rfl rfl) (want_yes rfl) rfl rfl ?_
  refine ops_ms (rs_box (vs := [s4]) hS (i := 2) rfl rfl rfl rfl (cells_rd (hS.rdOwn 4 rfl)) Try.sizeOf33 rfl rfl (all1 (one_rd (hS.rdOwn 4 rfl)) rfl)) (want_yes rfl) rfl ?_
  clear hS
  intro w hS
  refine ops_nil ?_
  intro a hA
  refine cw_seq ?_
  refine cw_ops hA ?_
  clear hA
  refine ops_v (rv_loadN rfl rfl Try.isAgg35 Try.sizeOf35 rfl (hS.cells 2 0 (cs' := [s3, s4]) rfl rfl)) (want_yes rfl) rfl rfl ?_
  refine ops_ms (rs_box (vs := [s3, s4]) hS (i := 1) rfl rfl rfl rfl rfl Try.sizeOf35 rfl rfl (all1 (one_rd (hS.rdOwn 3 rfl)) (all1 (one_rd (hS.rdOwn 4 rfl)) rfl))) (want_yes rfl) rfl ?_
  clear hS
  intro w hS
  refine ops_nil ?_
  intro a hA
  refine cw_ret ?_
  cases hF
  exact fin1 Try.results19 hA (res_cell rfl Try.isAgg35 Try.sizeOf35 rfl (hS.cells 1 0 (cs' := [s3, s4]) rfl rfl)) ⟨s3, s4, rfl, (hS.sel [3, 4] rfl).weaken (R' := []) (fun _ h => nomatch h)⟩

set_option maxHeartbeats 4000000 in
set_option maxRecDepth 100000 in
theorem c_laws_toMem {w0 : World} {a_ : Mem} {s1 : Value} {s2 : Value} {s3 : Value} {s4 : Value} {r : Mem} (h1 : Rep.rd (All w0) w0 [s1] (a_.Heap.Bytes : List Int)) (h2 : Rep.rd (All w0) w0 [s2] (a_.Heap.Class : List Int)) (h3 : Rep.rd (All w0) w0 [s3] (a_.Lists.Global : List SList)) (h4 : Rep.rd (All w0) w0 [s4] (a_.Lists.Own : List SList)) (hF : laws_toMem a_ = some r) :
    Calls Try.prog 7 #[.agg #[s1, s2, s3, s4]] w0 (Ret fun v w' => ∃ (s0_0 : Value) (s0_1 : Value) (s0_2 : Value) (s0_3 : Value), v = .agg #[s0_0, s0_1, s0_2, s0_3] ∧ St (cxAll w0) w' [cOwn [s0_0] (r.Heap.Bytes : List Int), cOwn [s0_1] (r.Heap.Class : List Int), cOwn [s0_2] (r.Lists.Global : List SList), cOwn [s0_3] (r.Lists.Own : List SList)] []) := by
  have hS : St (cxAll w0) w0 [] [fRd [s1] (a_.Heap.Bytes : List Int), fRd [s2] (a_.Heap.Class : List Int), fRd [s3] (a_.Lists.Global : List SList), fRd [s4] (a_.Lists.Own : List SList)] := St.enter (by
    intro f hf
    simp only [List.mem_cons, List.not_mem_nil, or_false] at hf
    rcases hf with rfl | rfl | rfl | rfl
    · exact h1
    · exact h2
    · exact h3
    · exact h4)
  refine calls_cw (args := [_]) Try.func7 rfl Try.ntmps7 rfl ?_
  unfold laws_toMem at hF
  intro a hA
  refine cw_seq ?_
  refine cw_ops hA ?_
  clear hA
  refine ops_mv (rv_box (cs := [s1, s2, s3, s4]) hS rfl rfl rfl) (want_yes rfl) rfl rfl ?_
  clear hS
  rintro _ w ⟨b1, rfl, hS⟩
  refine ops_mv (rv_alloc (cs := [(.slice none 0 0), (.slice none 0 0), (.slice none 0 0), (.slice none 0 0)]) hS rfl Try.zeroValue37 rfl) (want_yes rfl) rfl rfl ?_
  clear hS
  rintro _ w ⟨b2, rfl, hS⟩
  refine ops_nil ?_
  intro a hA
  refine cw_seq ?_
  refine cw_ops hA ?_
  clear hA
  refine ops_mv (rv_alloc (cs := [(.slice none 0 0), (.slice none 0 0), (.slice none 0 0), (.slice none 0 0)]) hS rfl Try.zeroValue37 rfl) (want_yes rfl) rfl rfl ?_
  clear hS
  rintro _ w ⟨b3, rfl, hS⟩
  refine ops_nil ?_
  intro a hA
  refine cw_seq ?_
  refine cw_ops hA ?_
  clear hA
  refine ops_v (rv_fld (m := 1) Try.underlying29 rfl rfl Try.sizeOf24 rfl rfl) (want_yes rfl) rfl rfl ?_
  refine ops_v (rv_loadN rfl rfl Try.isAgg24 Try.sizeOf24 rfl (hS.cells 0 0 (cs' := [s1, s2]) rfl rfl)) (want_yes rfl) rfl rfl ?_
  obtain ⟨x1, hx1, hF⟩ := bindE hF
  refine ops_c (rc_call Try.call18 rfl rfl) (want_yes rfl) rfl rfl (c_laws_toHeap (a_ := a_.Heap) (hS.rd 0 rfl) (hS.rd 1 rfl) hx1) ?_
  rintro _ w ⟨s5, s6, rfl, hk⟩
  replace hS := hS.after hk; clear hk
  refine ops_v (rv_fld (m := 1) Try.underlying37 rfl rfl Try.sizeOf32 rfl rfl) (want_yes rfl) rfl rfl ?_
  refine ops_ms (rs_box (vs := [s5, s6]) hS (i := 2) rfl rfl rfl rfl rfl Try.sizeOf32 rfl rfl (all1 (one_rd (hS.rdOwn 3 rfl)) (all1 (one_rd (hS.rdOwn 4 rfl)) rfl))) (want_yes rfl) rfl ?_
  clear hS
  intro w hS
  refine ops_nil ?_
  intro a hA
  refine cw_seq ?_
  refine cw_ops hA ?_
  clear hA
  refine ops_v (rv_fld (m := 1) Try.underlying29 rfl rfl Try.sizeOf27 rfl rfl) (want_yes rfl) rfl rfl ?_
  refine ops_v (rv_loadN rfl rfl Try.isAgg27 Try.sizeOf27 rfl (hS.cells 0 2 (cs' := [s3, s4]) rfl rfl)) (want_yes rfl) rfl rfl ?_
  obtain ⟨x2, hx2, hF⟩ := bindE hF
  refine ops_c (rc_call Try.call19 rfl rfl) (want_yes rfl) rfl rfl (c_laws_toLists (a_ := a_.Lists) (hS.rd 2 rfl) (hS.rd 3 rfl) hx2) ?_
  rintro _ w ⟨s7, s8, rfl, hk⟩
  replace hS := hS.after hk; clear hk
  refine ops_v (rv_fld (m := 1) Try.underlying37 rfl rfl Try.sizeOf35 rfl rfl) (want_yes rfl) rfl rfl ?_
  refine ops_ms (rs_box (vs := [s7, s8]) hS (i := 2) rfl rfl rfl rfl rfl Try.sizeOf35 rfl rfl (all1 (one_rd (hS.rdOwn 5 rfl)) (all1 (one_rd (hS.rdOwn 6 rfl)) rfl))) (want_yes rfl) rfl ?_
  clear hS
  intro w hS
  refine ops_nil ?_
  intro a hA
  refine cw_seq ?_
  refine cw_ops hA ?_
  clear hA
  refine ops_v (rv_loadN rfl rfl Try.isAgg37 Try.sizeOf37 rfl (hS.cells 2 0 (cs' := [s5, s6, s7, s8]) rfl rfl)) (want_yes rfl) rfl rfl ?_
  refine ops_ms (rs_box (vs := [s5, s6, s7, s8]) hS (i := 1) rfl rfl rfl rfl rfl Try.sizeOf37 rfl rfl (all1 (one_rd (hS.rdOwn 3 rfl)) (all1 (one_rd (hS.rdOwn 4 rfl)) (all1 (one_rd (hS.rdOwn 5 rfl)) (all1 (one_rd (hS.rdOwn 6 rfl)) rfl))))) (want_yes rfl) rfl ?_
  clear hS
  intro w hS
  refine ops_nil ?_
  intro a hA
  refine cw_ret ?_
  cases hF
  exact fin1 Try.results7 hA (res_cell rfl Try.isAgg37 Try.sizeOf37 rfl (hS.cells 1 0 (cs' := [s5, s6, s7, s8]) rfl rfl)) ⟨s5, s6, s7, s8, rfl, (hS.sel [3, 4, 5, 6] rfl).weaken (R' := []) (fun _ h => nomatch h)⟩

set_option maxHeartbeats 4000000 in
set_option maxRecDepth 100000 in
theorem c_spec_l1In {w0 : World} {x : Int} {low : Int} {high : Int}  {r : Bool}  (hF : spec_l1In x low high = some r) :
    Calls Try.prog 56 #[.int .i64 (x), .int .i64 (low), .int .i64 (high)] w0 (Ret fun v w' => v = .bool (r) ∧ St (cxAll w0) w' [] []) := by
  have hS : St (cxAll w0) w0 [] [] := St.enter (by
    intro f hf; cases hf)
  refine calls_cw (args := [_, _, _]) Try.func56 rfl Try.ntmps56 rfl ?_
  unfold spec_l1In at hF
  intro a hA
  refine cw_seq ?_
  refine cw_ops hA ?_
  clear hA
  refine ops_v (rv_assign rfl rfl) (want_yes rfl) rfl rfl ?_
  refine ops_nil ?_
  intro a hA
  refine cw_seq ?_
  refine cw_cut (J := fun a' w' => ∃ (x1 : Bool), spec_l1In_j1 x1 = some r ∧ AEnv 15 [(6, .bool (x1))] a' ∧ St (cxAll w0) w' [] []) ?_ ?_
  · skip
    refine cw_ops hA ?_
    clear hA
    refine ops_v (rv_move rfl rfl) (want_yes rfl) rfl rfl ?_
    refine ops_v (rv_move rfl rfl) (want_yes rfl) rfl rfl ?_
    refine ops_v (rv_geq rfl rfl rfl) (want_yes rfl) rfl rfl ?_
    refine ops_v (rv_move rfl rfl) (want_yes rfl) rfl rfl ?_
    refine ops_case (s := 10) rfl (fun hc1 => ?_) (fun hc1 => ?_)
    · replace hF := iteT hc1 hF
      refine ops_v (rv_move rfl rfl) (want_if rfl rfl rfl (by rw [hc1]; rfl)) rfl rfl ?_
      refine ops_v (rv_move rfl rfl) (want_if rfl rfl rfl (by rw [hc1]; rfl)) rfl rfl ?_
      refine ops_v (rv_leq rfl rfl rfl) (want_if rfl rfl rfl (by rw [hc1]; rfl)) rfl rfl ?_
      refine ops_v (rv_pick_t rfl rfl hc1 rfl) (want_yes rfl) rfl rfl ?_
      refine ops_v (rv_assign rfl rfl) (want_yes rfl) rfl rfl ?_
      refine ops_nil ?_
      intro a hA
      exact ⟨decide (x ≤ high), hF, hA.part ⟨rfl, trivial⟩, ((hS).sel [] rfl).selR [] rfl⟩
    · replace hF := iteF hc1 hF
      refine ops_off (want_if rfl rfl rfl (by rw [hc1]; rfl)) rfl rfl ?_
      refine ops_off (want_if rfl rfl rfl (by rw [hc1]; rfl)) rfl rfl ?_
      refine ops_off (want_if rfl rfl rfl (by rw [hc1]; rfl)) rfl rfl ?_
      refine ops_v (rv_pick_f rfl rfl hc1 rfl) (want_yes rfl) rfl rfl ?_
      refine ops_v (rv_assign rfl rfl) (want_yes rfl) rfl rfl ?_
      refine ops_nil ?_
      intro a hA
      exact ⟨false, hF, hA.part ⟨rfl, trivial⟩, ((hS).sel [] rfl).selR [] rfl⟩
  · skip
    clear hA hS hF
    rintro a w ⟨x1, hF, hA, hS⟩
    unfold spec_l1In_j1 at hF
    refine cw_ret ?_
    cases hF
    exact fin1 Try.results56 hA (res_tmp rfl) ⟨rfl, (hS.sel [] rfl).weaken (R' := []) (fun _ h => nomatch h)⟩

set_option maxHeartbeats 4000000 in
set_option maxRecDepth 100000 in
theorem c_spec_BytesOk {w0 : World} {b : List Int} {s1 : Value} {r : Bool} (h1 : Rep.rd (All w0) w0 [s1] (b : List Int)) (hF : spec_BytesOk b = some r) :
    Calls Try.prog 72 #[s1] w0 (Ret fun v w' => v = .bool (r) ∧ St (cxAll w0) w' [] []) := by
  have hS : St (cxAll w0) w0 [] [fRd [s1] (b : List Int)] := St.enter (by
    intro f hf
    simp only [List.mem_cons, List.not_mem_nil, or_false] at hf
    subst hf; exact h1)
  refine calls_cw (args := [_]) Try.func72 rfl Try.ntmps72 rfl ?_
  unfold spec_BytesOk at hF
  intro a hA
  refine cw_seq ?_
  refine cw_ops hA ?_
  clear hA
  refine ops_v (rv_assign rfl rfl) (want_yes rfl) rfl rfl ?_
  refine ops_nil ?_
  intro a hA
  refine cw_seq ?_
  refine cw_seq ?_
  refine cw_ops hA ?_
  clear hA
  refine ops_v (rv_assign rfl rfl) (want_yes rfl) rfl rfl ?_
  refine ops_nil ?_
  intro a hA
  obtain ⟨o1, hl1, hF⟩ := bindE hF
  refine cw_cut (J := fun a' w' => o1 = Out.brk (()) ∧ AEnv 19 [(0, s1)] a' ∧ St (cxAll w0) w' [] [fRd [s1] (b : List Int)]) ?_ ?_
  · refine cw_block ?_
    refine cw_loop (body := spec_BytesOk_l1 b) (r := o1) (fun sg a' w' => AEnv 19 [(0, s1), (3, .int .i64 (sg))] a' ∧ St (cxAll w0) w' [] [fRd [s1] (b : List Int)]) ?_ hl1 ⟨hA.part ⟨rfl, rfl, trivial⟩, ((hS).sel [] rfl).selR [0] rfl⟩
    clear hA hS hl1
    rintro x2 a w q1 ⟨hA, hS⟩ hG1 hr1
    try dsimp only at hA hS
    unfold spec_BytesOk_l1 at hG1
    refine cw_seq ?_
    refine cw_seq ?_
    refine cw_ops hA ?_
    clear hA
    refine ops_v (rv_move rfl rfl) (want_yes rfl) rfl rfl ?_
    refine ops_v (rv_move rfl rfl) (want_yes rfl) rfl rfl ?_
    refine ops_v (rv_lenS (hS.rd 0 rfl) Try.underlying22 rfl rfl) (want_yes rfl) rfl rfl ?_
    refine ops_v (rv_lss rfl rfl rfl) (want_yes rfl) rfl rfl ?_
    refine ops_nil ?_
    intro a hA
    refine cw_cond hA rfl (fun hc1 => ?_) (fun hc1 => ?_)
    · replace hG1 := iteT hc1 hG1
      refine cw_skip ?_
      refine cw_seq ?_
      refine cw_block ?_
      refine cw_seq ?_
      refine cw_ops hA ?_
      clear hA
      refine ops_v (rv_move rfl rfl) (want_yes rfl) rfl rfl ?_
      refine ops_v (rv_move rfl rfl) (want_yes rfl) rfl rfl ?_
      obtain ⟨x3, hx3, hG1⟩ := bindE hG1
      refine ops_v (rv_idx (m := 1) (hS.rd 0 rfl) rfl hx3 Try.underlying22 Try.sizeOf3 rfl rfl rfl) (want_yes rfl) rfl rfl ?_
      refine ops_v (rv_load1 rfl rfl Try.isAgg3 (cell1 (el_Int (hS.rd 0 rfl) (idx_some hx3).2.2))) (want_yes rfl) rfl rfl ?_
      obtain ⟨x4, hx4, hG1⟩ := bindE hG1
      refine ops_c (rc_call Try.call56 rfl rfl) (want_yes rfl) rfl rfl (c_spec_l1In (x := x3) (low := 0) (high := 255)  hx4) ?_
      rintro _ w ⟨rfl, hk⟩
      replace hS := hS.after hk; clear hk
      refine ops_v (rv_not rfl rfl) (want_yes rfl) rfl rfl ?_
      refine ops_nil ?_
      intro a hA
      refine cw_cond hA rfl (fun hc2 => ?_) (fun hc2 => ?_)
      · replace hG1 := iteT hc2 hG1
        refine cw_seq ?_
        refine cw_ops hA ?_
        clear hA
        refine ops_v (rv_assign rfl rfl) (want_yes rfl) rfl rfl ?_
        refine ops_nil ?_
        intro a hA
        refine cw_ret ?_
        cases hG1
        have ho := hr1 _ rfl; subst ho
        replace hF : some false = some r := hF
        cases hF
        exact fin1 Try.results72 hA (res_tmp rfl) ⟨rfl, (hS.sel [] rfl).weaken (R' := []) (fun _ h => nomatch h)⟩
      · replace hG1 := iteF hc2 hG1
        refine cw_skip ?_
        refine cw_ops hA ?_
        clear hA
        refine ops_v (rv_move rfl rfl) (want_yes rfl) rfl rfl ?_
        refine ops_v (rv_add rfl rfl rfl) (want_yes rfl) rfl rfl ?_
        refine ops_v (rv_assign rfl rfl) (want_yes rfl) rfl rfl ?_
        refine ops_nil ?_
        intro a hA
        cases hG1
        exact ⟨_, rfl, ⟨hA.part ⟨rfl, rfl, trivial⟩, ((hS).sel [] rfl).selR [0] rfl⟩⟩
    · replace hG1 := iteF hc1 hG1
      refine cw_exit ?_
      refine xcons_hit ?_
      cases hG1
      have ho := hr1 _ rfl; subst ho
      exact ⟨rfl, hA.part ⟨rfl, trivial⟩, ((hS).sel [] rfl).selR [0] rfl⟩
  · skip
    clear hA hS hl1
    rintro a w ⟨heq, hA, hS⟩
    replace hF : spec_BytesOk_j1 b = some r := by rw [heq] at hF; exact hF
    clear heq
    unfold spec_BytesOk_j1 at hF
    refine cw_seq ?_
    refine cw_ops hA ?_
    clear hA
    refine ops_v (rv_move rfl rfl) (want_yes rfl) rfl rfl ?_
    refine ops_v (rv_lenS (hS.rd 0 rfl) Try.underlying22 rfl rfl) (want_yes rfl) rfl rfl ?_
    refine ops_v (rv_leq rfl rfl rfl) (want_yes rfl) rfl rfl ?_
    refine ops_v (rv_assign rfl rfl) (want_yes rfl) rfl rfl ?_
    refine ops_nil ?_
    intro a hA
    refine cw_ret ?_
    cases hF
    exact fin1 Try.results72 hA (res_tmp rfl) ⟨rfl, (hS.sel [] rfl).weaken (R' := []) (fun _ h => nomatch h)⟩

set_option maxHeartbeats 4000000 in
set_option maxRecDepth 100000 in
theorem c_spec_l7Shape {w0 : World} {h : Heap} {s1 : Value} {s2 : Value} {r : Bool} (h1 : Rep.rd (All w0) w0 [s1] (h.Bytes : List Int)) (h2 : Rep.rd (All w0) w0 [s2] (h.Class : List Int)) (hF : spec_l7Shape h = some r) :
    Calls Try.prog 53 #[.agg #[s1, s2]] w0 (Ret fun v w' => v = .bool (r) ∧ St (cxAll w0) w' [] []) := by
  have hS : St (cxAll w0) w0 [] [fRd [s1] (h.Bytes : List Int), fRd [s2] (h.Class : List Int)] := St.enter (by
    intro f hf
    simp only [List.mem_cons, List.not_mem_nil, or_false] at hf
    rcases hf with rfl | rfl
    · exact h1
    · exact h2)
  refine calls_cw (args := [_]) Try.func53 rfl Try.ntmps53 rfl ?_
  unfold spec_l7Shape at hF
  intro a hA
  refine cw_seq ?_
  refine cw_ops hA ?_
  clear hA
  refine ops_mv (rv_box (cs := [s1, s2]) hS rfl rfl rfl) (want_yes rfl) rfl rfl ?_
  clear hS
  rintro _ w ⟨b1, rfl, hS⟩
  refine ops_v (rv_assign rfl rfl) (want_yes rfl) rfl rfl ?_
  refine ops_nil ?_
  intro a hA
  refine cw_seq ?_
  refine cw_seq ?_
  refine cw_cut (J := fun a' w' => ∃ (x1 : Bool), spec_l7Shape_j1 h x1 = some r ∧ AEnv 31 [(1, .pointer (some ⟨b1, 0, none⟩)), (19, .bool (x1))] a' ∧ St (cxAll w0) w' [cBox b1 [s1, s2]] [fRd [s1] (h.Bytes : List Int), fRd [s2] (h.Class : List Int)]) ?_ ?_
  · skip
    refine cw_ops hA ?_
    clear hA
    refine ops_v (rv_fld (m := 0) Try.underlying32 rfl rfl Try.sizeOf22 rfl rfl) (want_yes rfl) rfl rfl ?_
    refine ops_v (rv_load1 rfl rfl Try.isAgg22 (hS.cell 0 rfl rfl)) (want_yes rfl) rfl rfl ?_
    refine ops_v (rv_lenS (hS.rd 0 rfl) Try.underlying22 rfl rfl) (want_yes rfl) rfl rfl ?_
    refine ops_v (rv_neq rfl rfl rfl) (want_yes rfl) rfl rfl ?_
    refine ops_v (rv_move rfl rfl) (want_yes rfl) rfl rfl ?_
    refine ops_case (s := 8) rfl (fun hc4 => ?_) (fun hc4 => ?_)
    · replace hF := iteT hc4 hF
      refine ops_off (want_if rfl rfl rfl (by rw [hc4]; rfl)) rfl rfl ?_
      refine ops_off (want_if rfl rfl rfl (by rw [hc4]; rfl)) rfl rfl ?_
      refine ops_off (want_if rfl rfl rfl (by rw [hc4]; rfl)) rfl rfl ?_
      refine ops_off (want_if rfl rfl rfl (by rw [hc4]; rfl)) rfl rfl ?_
      refine ops_v (rv_pick_t rfl rfl hc4 rfl) (want_yes rfl) rfl rfl ?_
      refine ops_v (rv_move rfl rfl) (want_yes rfl) rfl rfl ?_
      refine ops_off (want_if rfl rfl rfl rfl) rfl rfl ?_
      refine ops_off (want_if rfl rfl rfl rfl) rfl rfl ?_
      refine ops_off (want_if rfl rfl rfl rfl) rfl rfl ?_
      refine ops_off (want_if rfl rfl rfl rfl) rfl rfl ?_
      refine ops_v (rv_pick_t rfl rfl rfl rfl) (want_yes rfl) rfl rfl ?_
      refine ops_nil ?_
      intro a hA
      exact ⟨true, hF, hA.part ⟨rfl, rfl, trivial⟩, ((hS).sel [0] rfl).selR [0, 1] rfl⟩
    · replace hF := iteF hc4 hF
      refine ops_v (rv_fld (m := 0) Try.underlying32 rfl rfl Try.sizeOf22 rfl rfl) (want_if rfl rfl rfl (by rw [hc4]; rfl)) rfl rfl ?_
      refine ops_v (rv_load1 rfl rfl Try.isAgg22 (hS.cell 0 rfl rfl)) (want_if rfl rfl rfl (by rw [hc4]; rfl)) rfl rfl ?_
      refine ops_v (rv_lenS (hS.rd 1 rfl) Try.underlying22 rfl rfl) (want_if rfl rfl rfl (by rw [hc4]; rfl)) rfl rfl ?_
      refine ops_v (rv_neq rfl rfl rfl) (want_if rfl rfl rfl (by rw [hc4]; rfl)) rfl rfl ?_
      refine ops_v (rv_pick_f rfl rfl hc4 rfl) (want_yes rfl) rfl rfl ?_
      refine ops_v (rv_move rfl rfl) (want_yes rfl) rfl rfl ?_
      refine ops_case (s := 14) rfl (fun hc5 => ?_) (fun hc5 => ?_)
      · replace hF := iteT hc5 hF
        refine ops_off (want_if rfl rfl rfl (by rw [hc5]; rfl)) rfl rfl ?_
        refine ops_off (want_if rfl rfl rfl (by rw [hc5]; rfl)) rfl rfl ?_
        refine ops_off (want_if rfl rfl rfl (by rw [hc5]; rfl)) rfl rfl ?_
        refine ops_off (want_if rfl rfl rfl (by rw [hc5]; rfl)) rfl rfl ?_
        refine ops_v (rv_pick_t rfl rfl hc5 rfl) (want_yes rfl) rfl rfl ?_
        refine ops_nil ?_
        intro a hA
        exact ⟨true, hF, hA.part ⟨rfl, rfl, trivial⟩, ((hS).sel [0] rfl).selR [0, 1] rfl⟩
      · replace hF := iteF hc5 hF
        refine ops_v (rv_fld (m := 0) Try.underlying32 rfl rfl Try.sizeOf22 rfl rfl) (want_if rfl rfl rfl (by rw [hc5]; rfl)) rfl rfl ?_
        refine ops_v (rv_load1 rfl rfl Try.isAgg22 (hS.cell 0 rfl rfl)) (want_if rfl rfl rfl (by rw [hc5]; rfl)) rfl rfl ?_
        obtain ⟨x6, hx6, hF⟩ := bindE hF
        refine ops_c (rc_call Try.call72 rfl rfl) (want_if rfl rfl rfl (by rw [hc5]; rfl)) rfl rfl (c_spec_BytesOk (b := h.Bytes) (hS.rd 0 rfl) hx6) ?_
        rintro _ w ⟨rfl, hk⟩
        replace hS := hS.after hk; clear hk
        refine ops_v (rv_not rfl rfl) (want_if rfl rfl rfl (by rw [hc5]; rfl)) rfl rfl ?_
        refine ops_v (rv_pick_f rfl rfl hc5 rfl) (want_yes rfl) rfl rfl ?_
        refine ops_nil ?_
        intro a hA
        exact ⟨!x6, hF, hA.part ⟨rfl, rfl, trivial⟩, ((hS).sel [0] rfl).selR [0, 1] rfl⟩
  · skip
    clear hA hS hF
    rintro a w ⟨x1, hF, hA, hS⟩
    unfold spec_l7Shape_j1 at hF
    refine cw_cond hA rfl (fun hc1 => ?_) (fun hc1 => ?_)
    · replace hF := iteT hc1 hF
      refine cw_seq ?_
      refine cw_ops hA ?_
      clear hA
      refine ops_v (rv_assign rfl rfl) (want_yes rfl) rfl rfl ?_
      refine ops_nil ?_
      intro a hA
      refine cw_ret ?_
      cases hF
      exact fin1 Try.results53 hA (res_tmp rfl) ⟨rfl, (hS.sel [] rfl).weaken (R' := []) (fun _ h => nomatch h)⟩
    · replace hF := iteF hc1 hF
      refine cw_skip ?_
      refine cw_seq ?_
      refine cw_seq ?_
      refine cw_ops hA ?_
      clear hA
      refine ops_v (rv_assign rfl rfl) (want_yes rfl) rfl rfl ?_
      refine ops_nil ?_
      intro a hA
      obtain ⟨o1, hl1, hF⟩ := bindE hF
      refine cw_cut (J := fun a' w' => o1 = Out.brk (()) ∧ AEnv 31 [] a' ∧ St (cxAll w0) w' [] []) ?_ ?_
      · refine cw_block ?_
        refine cw_loop (body := spec_l7Shape_l2 h) (r := o1) (fun sg a' w' => AEnv 31 [(1, .pointer (some ⟨b1, 0, none⟩)), (3, .int .i64 (sg))] a' ∧ St (cxAll w0) w' [cBox b1 [s1, s2]] [fRd [s1] (h.Bytes : List Int), fRd [s2] (h.Class : List Int)]) ?_ hl1 ⟨hA.part ⟨rfl, rfl, trivial⟩, ((hS).sel [0] rfl).selR [0, 1] rfl⟩
        clear hA hS hl1
        rintro x3 a w q2 ⟨hA, hS⟩ hG2 hr2
        try dsimp only at hA hS
        unfold spec_l7Shape_l2 at hG2
        refine cw_seq ?_
        refine cw_seq ?_
        refine cw_ops hA ?_
        clear hA
        refine ops_v (rv_move rfl rfl) (want_yes rfl) rfl rfl ?_
        refine ops_v (rv_lss rfl rfl rfl) (want_yes rfl) rfl rfl ?_
        refine ops_nil ?_
        intro a hA
        refine cw_cond hA rfl (fun hc2 => ?_) (fun hc2 => ?_)
        · replace hG2 := iteT hc2 hG2
          refine cw_skip ?_
          refine cw_seq ?_
          refine cw_block ?_
          refine cw_seq ?_
          refine cw_ops hA ?_
          clear hA
          refine ops_v (rv_fld (m := 0) Try.underlying32 rfl rfl Try.sizeOf22 rfl rfl) (want_yes rfl) rfl rfl ?_
          refine ops_v (rv_load1 rfl rfl Try.isAgg22 (hS.cell 0 rfl rfl)) (want_yes rfl) rfl rfl ?_
          refine ops_v (rv_move rfl rfl) (want_yes rfl) rfl rfl ?_
          obtain ⟨x4, hx4, hG2⟩ := bindE hG2
          refine ops_v (rv_idx (m := 1) (hS.rd 1 rfl) rfl hx4 Try.underlying22 Try.sizeOf3 rfl rfl rfl) (want_yes rfl) rfl rfl ?_
          refine ops_v (rv_load1 rfl rfl Try.isAgg3 (cell1 (el_Int (hS.rd 1 rfl) (idx_some hx4).2.2))) (want_yes rfl) rfl rfl ?_
          obtain ⟨x5, hx5, hG2⟩ := bindE hG2
          refine ops_c (rc_call Try.call56 rfl rfl) (want_yes rfl) rfl rfl (c_spec_l1In (x := x4) (low := (-1)) (high := 2)  hx5) ?_
          rintro _ w ⟨rfl, hk⟩
          replace hS := hS.after hk; clear hk
          refine ops_v (rv_not rfl rfl) (want_yes rfl) rfl rfl ?_
          refine ops_nil ?_
          intro a hA
          refine cw_cond hA rfl (fun hc3 => ?_) (fun hc3 => ?_)
          · replace hG2 := iteT hc3 hG2
            refine cw_seq ?_
            refine cw_ops hA ?_
            clear hA
            refine ops_v (rv_assign rfl rfl) (want_yes rfl) rfl rfl ?_
            refine ops_nil ?_
            intro a hA
            refine cw_ret ?_
            cases hG2
            have ho := hr2 _ rfl; subst ho
            replace hF : some false = some r := hF
            cases hF
            exact fin1 Try.results53 hA (res_tmp rfl) ⟨rfl, (hS.sel [] rfl).weaken (R' := []) (fun _ h => nomatch h)⟩
          · replace hG2 := iteF hc3 hG2
            refine cw_skip ?_
            refine cw_ops hA ?_
            clear hA
            refine ops_v (rv_move rfl rfl) (want_yes rfl) rfl rfl ?_
            refine ops_v (rv_add rfl rfl rfl) (want_yes rfl) rfl rfl ?_
            refine ops_v (rv_assign rfl rfl) (want_yes rfl) rfl rfl ?_
            refine ops_nil ?_
            intro a hA
            cases hG2
            exact ⟨_, rfl, ⟨hA.part ⟨rfl, rfl, trivial⟩, ((hS).sel [0] rfl).selR [0, 1] rfl⟩⟩
        · replace hG2 := iteF hc2 hG2
          refine cw_exit ?_
          refine xcons_hit ?_
          cases hG2
          have ho := hr2 _ rfl; subst ho
          exact ⟨rfl, hA.part trivial, ((hS).sel [] rfl).selR [] rfl⟩
      · skip
        clear hA hS hl1
        rintro a w ⟨heq, hA, hS⟩
        replace hF : spec_l7Shape_j2 = some r := by rw [heq] at hF; exact hF
        clear heq
        unfold spec_l7Shape_j2 at hF
        refine cw_seq ?_
        refine cw_ops hA ?_
        clear hA
        refine ops_v (rv_assign rfl rfl) (want_yes rfl) rfl rfl ?_
        refine ops_nil ?_
        intro a hA
        refine cw_ret ?_
        cases hF
        exact fin1 Try.results53 hA (res_tmp rfl) ⟨rfl, (hS.sel [] rfl).weaken (R' := []) (fun _ h => nomatch h)⟩

set_option maxHeartbeats 4000000 in
set_option maxRecDepth 100000 in
theorem c_spec_SizeOf {w0 : World} {c : Int}  {r : Int}  (hF : spec_SizeOf c = some r) :
    Calls Try.prog 98 #[.int .i64 (c)] w0 (Ret fun v w' => v = .int .i64 (r) ∧ St (cxAll w0) w' [] []) := by
  have hS : St (cxAll w0) w0 [] [] := St.enter (by
    intro f hf; cases hf)
  refine calls_cw (args := [_]) Try.func98 rfl Try.ntmps98 rfl ?_
  unfold spec_SizeOf at hF
  intro a hA
  refine cw_seq ?_
  refine cw_ops hA ?_
  clear hA
  refine ops_v (rv_assign rfl rfl) (want_yes rfl) rfl rfl ?_
  refine ops_nil ?_
  intro a hA
  refine cw_seq ?_
  refine cw_seq ?_
  refine cw_ops hA ?_
  clear hA
  refine ops_v (rv_move rfl rfl) (want_yes rfl) rfl rfl ?_
  refine ops_nil ?_
  intro a hA
  refine cw_block ?_
  refine cw_seq ?_
  refine cw_ops hA ?_
  clear hA
  refine ops_v (rv_eql rfl rfl rfl) (want_yes rfl) rfl rfl ?_
  refine ops_v (rv_assign rfl rfl) (want_yes rfl) rfl rfl ?_
  refine ops_nil ?_
  intro a hA
  refine cw_cond hA rfl (fun hc1 => ?_) (fun hc1 => ?_)
  · replace hF := iteT hc1 hF
    refine cw_seq ?_
    refine cw_ops hA ?_
    clear hA
    refine ops_v (rv_assign rfl rfl) (want_yes rfl) rfl rfl ?_
    refine ops_nil ?_
    intro a hA
    refine cw_ret ?_
    cases hF
    exact fin1 Try.results98 hA (res_tmp rfl) ⟨rfl, (hS.sel [] rfl).weaken (R' := []) (fun _ h => nomatch h)⟩
  · replace hF := iteF hc1 hF
    refine cw_seq ?_
    refine cw_ops hA ?_
    clear hA
    refine ops_v (rv_eql rfl rfl rfl) (want_yes rfl) rfl rfl ?_
    refine ops_v (rv_assign rfl rfl) (want_yes rfl) rfl rfl ?_
    refine ops_nil ?_
    intro a hA
    refine cw_cond hA rfl (fun hc2 => ?_) (fun hc2 => ?_)
    · replace hF := iteT hc2 hF
      refine cw_seq ?_
      refine cw_ops hA ?_
      clear hA
      refine ops_v (rv_assign rfl rfl) (want_yes rfl) rfl rfl ?_
      refine ops_nil ?_
      intro a hA
      refine cw_ret ?_
      cases hF
      exact fin1 Try.results98 hA (res_tmp rfl) ⟨rfl, (hS.sel [] rfl).weaken (R' := []) (fun _ h => nomatch h)⟩
    · replace hF := iteF hc2 hF
      refine cw_seq ?_
      refine cw_ops hA ?_
      clear hA
      refine ops_v (rv_eql rfl rfl rfl) (want_yes rfl) rfl rfl ?_
      refine ops_v (rv_assign rfl rfl) (want_yes rfl) rfl rfl ?_
      refine ops_nil ?_
      intro a hA
      refine cw_cond hA rfl (fun hc3 => ?_) (fun hc3 => ?_)
      · replace hF := iteT hc3 hF
        refine cw_seq ?_
        refine cw_ops hA ?_
        clear hA
        refine ops_v (rv_assign rfl rfl) (want_yes rfl) rfl rfl ?_
        refine ops_nil ?_
        intro a hA
        refine cw_ret ?_
        cases hF
        exact fin1 Try.results98 hA (res_tmp rfl) ⟨rfl, (hS.sel [] rfl).weaken (R' := []) (fun _ h => nomatch h)⟩
      · replace hF := iteF hc3 hF
        refine cw_skip ?_
        refine cw_seq ?_
        refine cw_ops hA ?_
        clear hA
        refine ops_v (rv_assign rfl rfl) (want_yes rfl) rfl rfl ?_
        refine ops_nil ?_
        intro a hA
        refine cw_ret ?_
        cases hF
        exact fin1 Try.results98 hA (res_tmp rfl) ⟨rfl, (hS.sel [] rfl).weaken (R' := []) (fun _ h => nomatch h)⟩

set_option maxHeartbeats 4000000 in
set_option maxRecDepth 100000 in
theorem c_spec_StrideOf {w0 : World} {c : Int}  {r : Int}  (hF : spec_StrideOf c = some r) :
    Calls Try.prog 91 #[.int .i64 (c)] w0 (Ret fun v w' => v = .int .i64 (r) ∧ St (cxAll w0) w' [] []) := by
  have hS : St (cxAll w0) w0 [] [] := St.enter (by
    intro f hf; cases hf)
  refine calls_cw (args := [_]) Try.func91 rfl Try.ntmps91 rfl ?_
  unfold spec_StrideOf at hF
  intro a hA
  refine cw_seq ?_
  refine cw_ops hA ?_
  clear hA
  refine ops_v (rv_assign rfl rfl) (want_yes rfl) rfl rfl ?_
  refine ops_nil ?_
  intro a hA
  refine cw_seq ?_
  refine cw_seq ?_
  refine cw_ops hA ?_
  clear hA
  refine ops_v (rv_move rfl rfl) (want_yes rfl) rfl rfl ?_
  obtain ⟨x1, hx1, hF⟩ := bindE hF
  refine ops_c (rc_call Try.call56 rfl rfl) (want_yes rfl) rfl rfl (c_spec_l1In (x := c) (low := 0) (high := 2)  hx1) ?_
  rintro _ w ⟨rfl, hk⟩
  replace hS := hS.after hk; clear hk
  refine ops_v (rv_not rfl rfl) (want_yes rfl) rfl rfl ?_
  refine ops_nil ?_
  intro a hA
  refine cw_cond hA rfl (fun hc1 => ?_) (fun hc1 => ?_)
  · replace hF := iteT hc1 hF
    refine cw_seq ?_
    refine cw_ops hA ?_
    clear hA
    refine ops_v (rv_assign rfl rfl) (want_yes rfl) rfl rfl ?_
    refine ops_nil ?_
    intro a hA
    refine cw_ret ?_
    cases hF
    exact fin1 Try.results91 hA (res_tmp rfl) ⟨rfl, (hS.sel [] rfl).weaken (R' := []) (fun _ h => nomatch h)⟩
  · replace hF := iteF hc1 hF
    refine cw_skip ?_
    refine cw_seq ?_
    refine cw_ops hA ?_
    clear hA
    refine ops_v (rv_move rfl rfl) (want_yes rfl) rfl rfl ?_
    obtain ⟨x2, hx2, hF⟩ := bindE hF
    refine ops_c (rc_call Try.call98 rfl rfl) (want_yes rfl) rfl rfl (c_spec_SizeOf (c := c)  hx2) ?_
    rintro _ w ⟨rfl, hk⟩
    replace hS := hS.after hk; clear hk
    refine ops_v (rv_add rfl rfl rfl) (want_yes rfl) rfl rfl ?_
    refine ops_v (rv_assign rfl rfl) (want_yes rfl) rfl rfl ?_
    refine ops_nil ?_
    intro a hA
    refine cw_ret ?_
    cases hF
    exact fin1 Try.results91 hA (res_tmp rfl) ⟨rfl, (hS.sel [] rfl).weaken (R' := []) (fun _ h => nomatch h)⟩

set_option maxHeartbeats 4000000 in
set_option maxRecDepth 100000 in
theorem c_spec_PerPage {w0 : World} {c : Int}  {r : Int}  (hF : spec_PerPage c = some r) :
    Calls Try.prog 73 #[.int .i64 (c)] w0 (Ret fun v w' => v = .int .i64 (r) ∧ St (cxAll w0) w' [] []) := by
  have hS : St (cxAll w0) w0 [] [] := St.enter (by
    intro f hf; cases hf)
  refine calls_cw (args := [_]) Try.func73 rfl Try.ntmps73 rfl ?_
  unfold spec_PerPage at hF
  intro a hA
  refine cw_seq ?_
  refine cw_ops hA ?_
  clear hA
  refine ops_v (rv_assign rfl rfl) (want_yes rfl) rfl rfl ?_
  refine ops_nil ?_
  intro a hA
  refine cw_seq ?_
  refine cw_seq ?_
  refine cw_ops hA ?_
  clear hA
  refine ops_v (rv_move rfl rfl) (want_yes rfl) rfl rfl ?_
  obtain ⟨x1, hx1, hF⟩ := bindE hF
  refine ops_c (rc_call Try.call56 rfl rfl) (want_yes rfl) rfl rfl (c_spec_l1In (x := c) (low := 0) (high := 2)  hx1) ?_
  rintro _ w ⟨rfl, hk⟩
  replace hS := hS.after hk; clear hk
  refine ops_v (rv_not rfl rfl) (want_yes rfl) rfl rfl ?_
  refine ops_nil ?_
  intro a hA
  refine cw_cond hA rfl (fun hc1 => ?_) (fun hc1 => ?_)
  · replace hF := iteT hc1 hF
    refine cw_seq ?_
    refine cw_ops hA ?_
    clear hA
    refine ops_v (rv_assign rfl rfl) (want_yes rfl) rfl rfl ?_
    refine ops_nil ?_
    intro a hA
    refine cw_ret ?_
    cases hF
    exact fin1 Try.results73 hA (res_tmp rfl) ⟨rfl, (hS.sel [] rfl).weaken (R' := []) (fun _ h => nomatch h)⟩
  · replace hF := iteF hc1 hF
    refine cw_skip ?_
    refine cw_seq ?_
    refine cw_ops hA ?_
    clear hA
    refine ops_v (rv_move rfl rfl) (want_yes rfl) rfl rfl ?_
    obtain ⟨x2, hx2, hF⟩ := bindE hF
    refine ops_c (rc_call Try.call91 rfl rfl) (want_yes rfl) rfl rfl (c_spec_StrideOf (c := c)  hx2) ?_
    rintro _ w ⟨rfl, hk⟩
    replace hS := hS.after hk; clear hk
    obtain ⟨hn1, hF⟩ := needE hF
    refine ops_v (rv_quo rfl rfl rfl hn1) (want_yes rfl) rfl rfl ?_
    refine ops_v (rv_assign rfl rfl) (want_yes rfl) rfl rfl ?_
    refine ops_nil ?_
    intro a hA
    refine cw_ret ?_
    cases hF
    exact fin1 Try.results73 hA (res_tmp rfl) ⟨rfl, (hS.sel [] rfl).weaken (R' := []) (fun _ h => nomatch h)⟩

set_option maxHeartbeats 4000000 in
set_option maxRecDepth 100000 in
theorem c_spec_SlotAt {w0 : World} {page : Int} {index : Int}  {r : Int}  (hF : spec_SlotAt page index = some r) :
    Calls Try.prog 76 #[.int .i64 (page), .int .i64 (index)] w0 (Ret fun v w' => v = .int .i64 (r) ∧ St (cxAll w0) w' [] []) := by
  have hS : St (cxAll w0) w0 [] [] := St.enter (by
    intro f hf; cases hf)
  refine calls_cw (args := [_, _]) Try.func76 rfl Try.ntmps76 rfl ?_
  unfold spec_SlotAt at hF
  intro a hA
  refine cw_seq ?_
  refine cw_ops hA ?_
  clear hA
  refine ops_v (rv_assign rfl rfl) (want_yes rfl) rfl rfl ?_
  refine ops_nil ?_
  intro a hA
  refine cw_seq ?_
  refine cw_seq ?_
  refine cw_cut (J := fun a' w' => ∃ (x1 : Bool), spec_SlotAt_j1 page index x1 = some r ∧ AEnv 17 [(0, .int .i64 (page)), (1, .int .i64 (index)), (12, .bool (x1))] a' ∧ St (cxAll w0) w' [] []) ?_ ?_
  · skip
    refine cw_ops hA ?_
    clear hA
    refine ops_v (rv_move rfl rfl) (want_yes rfl) rfl rfl ?_
    obtain ⟨x2, hx2, hF⟩ := bindE hF
    refine ops_c (rc_call Try.call56 rfl rfl) (want_yes rfl) rfl rfl (c_spec_l1In (x := page) (low := 0) (high := 5)  hx2) ?_
    rintro _ w ⟨rfl, hk⟩
    replace hS := hS.after hk; clear hk
    refine ops_v (rv_not rfl rfl) (want_yes rfl) rfl rfl ?_
    refine ops_v (rv_move rfl rfl) (want_yes rfl) rfl rfl ?_
    refine ops_case (s := 8) rfl (fun hc2 => ?_) (fun hc2 => ?_)
    · replace hF := iteT hc2 hF
      refine ops_off (want_if rfl rfl rfl (by rw [hc2]; rfl)) rfl rfl ?_
      refine ops_off (want_if rfl rfl rfl (by rw [hc2]; rfl)) rfl rfl ?_
      refine ops_off (want_if rfl rfl rfl (by rw [hc2]; rfl)) rfl rfl ?_
      refine ops_v (rv_pick_t rfl rfl hc2 rfl) (want_yes rfl) rfl rfl ?_
      refine ops_nil ?_
      intro a hA
      exact ⟨true, hF, hA.part ⟨rfl, rfl, rfl, trivial⟩, ((hS).sel [] rfl).selR [] rfl⟩
    · replace hF := iteF hc2 hF
      refine ops_v (rv_move rfl rfl) (want_if rfl rfl rfl (by rw [hc2]; rfl)) rfl rfl ?_
      obtain ⟨x3, hx3, hF⟩ := bindE hF
      refine ops_c (rc_call Try.call56 rfl rfl) (want_if rfl rfl rfl (by rw [hc2]; rfl)) rfl rfl (c_spec_l1In (x := index) (low := 0) (high := 3)  hx3) ?_
      rintro _ w ⟨rfl, hk⟩
      replace hS := hS.after hk; clear hk
      refine ops_v (rv_not rfl rfl) (want_if rfl rfl rfl (by rw [hc2]; rfl)) rfl rfl ?_
      refine ops_v (rv_pick_f rfl rfl hc2 rfl) (want_yes rfl) rfl rfl ?_
      refine ops_nil ?_
      intro a hA
      exact ⟨!x3, hF, hA.part ⟨rfl, rfl, rfl, trivial⟩, ((hS).sel [] rfl).selR [] rfl⟩
  · skip
    clear hA hS hF
    rintro a w ⟨x1, hF, hA, hS⟩
    unfold spec_SlotAt_j1 at hF
    refine cw_cond hA rfl (fun hc1 => ?_) (fun hc1 => ?_)
    · replace hF := iteT hc1 hF
      refine cw_seq ?_
      refine cw_ops hA ?_
      clear hA
      refine ops_v (rv_assign rfl rfl) (want_yes rfl) rfl rfl ?_
      refine ops_nil ?_
      intro a hA
      refine cw_ret ?_
      cases hF
      exact fin1 Try.results76 hA (res_tmp rfl) ⟨rfl, (hS.sel [] rfl).weaken (R' := []) (fun _ h => nomatch h)⟩
    · replace hF := iteF hc1 hF
      refine cw_skip ?_
      refine cw_seq ?_
      refine cw_ops hA ?_
      clear hA
      refine ops_v (rv_move rfl rfl) (want_yes rfl) rfl rfl ?_
      refine ops_v (rv_mul rfl rfl rfl) (want_yes rfl) rfl rfl ?_
      refine ops_v (rv_move rfl rfl) (want_yes rfl) rfl rfl ?_
      refine ops_v (rv_add rfl rfl rfl) (want_yes rfl) rfl rfl ?_
      refine ops_v (rv_assign rfl rfl) (want_yes rfl) rfl rfl ?_
      refine ops_nil ?_
      intro a hA
      refine cw_ret ?_
      cases hF
      exact fin1 Try.results76 hA (res_tmp rfl) ⟨rfl, (hS.sel [] rfl).weaken (R' := []) (fun _ h => nomatch h)⟩

set_option maxHeartbeats 4000000 in
set_option maxRecDepth 100000 in
theorem c_spec_PageOf {w0 : World} {slot : Int}  {r : Int}  (hF : spec_PageOf slot = some r) :
    Calls Try.prog 77 #[.int .i64 (slot)] w0 (Ret fun v w' => v = .int .i64 (r) ∧ St (cxAll w0) w' [] []) := by
  have hS : St (cxAll w0) w0 [] [] := St.enter (by
    intro f hf; cases hf)
  refine calls_cw (args := [_]) Try.func77 rfl Try.ntmps77 rfl ?_
  unfold spec_PageOf at hF
  intro a hA
  refine cw_seq ?_
  refine cw_ops hA ?_
  clear hA
  refine ops_v (rv_assign rfl rfl) (want_yes rfl) rfl rfl ?_
  refine ops_nil ?_
  intro a hA
  refine cw_seq ?_
  refine cw_seq ?_
  refine cw_ops hA ?_
  clear hA
  refine ops_v (rv_move rfl rfl) (want_yes rfl) rfl rfl ?_
  obtain ⟨x1, hx1, hF⟩ := bindE hF
  refine ops_c (rc_call Try.call56 rfl rfl) (want_yes rfl) rfl rfl (c_spec_l1In (x := slot) (low := 0) (high := 23)  hx1) ?_
  rintro _ w ⟨rfl, hk⟩
  replace hS := hS.after hk; clear hk
  refine ops_v (rv_not rfl rfl) (want_yes rfl) rfl rfl ?_
  refine ops_nil ?_
  intro a hA
  refine cw_cond hA rfl (fun hc1 => ?_) (fun hc1 => ?_)
  · replace hF := iteT hc1 hF
    refine cw_seq ?_
    refine cw_ops hA ?_
    clear hA
    refine ops_v (rv_assign rfl rfl) (want_yes rfl) rfl rfl ?_
    refine ops_nil ?_
    intro a hA
    refine cw_ret ?_
    cases hF
    exact fin1 Try.results77 hA (res_tmp rfl) ⟨rfl, (hS.sel [] rfl).weaken (R' := []) (fun _ h => nomatch h)⟩
  · replace hF := iteF hc1 hF
    refine cw_skip ?_
    refine cw_seq ?_
    refine cw_ops hA ?_
    clear hA
    refine ops_v (rv_move rfl rfl) (want_yes rfl) rfl rfl ?_
    refine ops_v (rv_quo rfl rfl rfl (by decide)) (want_yes rfl) rfl rfl ?_
    refine ops_v (rv_assign rfl rfl) (want_yes rfl) rfl rfl ?_
    refine ops_nil ?_
    intro a hA
    refine cw_ret ?_
    cases hF
    exact fin1 Try.results77 hA (res_tmp rfl) ⟨rfl, (hS.sel [] rfl).weaken (R' := []) (fun _ h => nomatch h)⟩

set_option maxHeartbeats 4000000 in
set_option maxRecDepth 100000 in
theorem c_spec_IndexOf {w0 : World} {slot : Int}  {r : Int}  (hF : spec_IndexOf slot = some r) :
    Calls Try.prog 78 #[.int .i64 (slot)] w0 (Ret fun v w' => v = .int .i64 (r) ∧ St (cxAll w0) w' [] []) := by
  have hS : St (cxAll w0) w0 [] [] := St.enter (by
    intro f hf; cases hf)
  refine calls_cw (args := [_]) Try.func78 rfl Try.ntmps78 rfl ?_
  unfold spec_IndexOf at hF
  intro a hA
  refine cw_seq ?_
  refine cw_ops hA ?_
  clear hA
  refine ops_v (rv_assign rfl rfl) (want_yes rfl) rfl rfl ?_
  refine ops_nil ?_
  intro a hA
  refine cw_seq ?_
  refine cw_seq ?_
  refine cw_ops hA ?_
  clear hA
  refine ops_v (rv_move rfl rfl) (want_yes rfl) rfl rfl ?_
  obtain ⟨x1, hx1, hF⟩ := bindE hF
  refine ops_c (rc_call Try.call56 rfl rfl) (want_yes rfl) rfl rfl (c_spec_l1In (x := slot) (low := 0) (high := 23)  hx1) ?_
  rintro _ w ⟨rfl, hk⟩
  replace hS := hS.after hk; clear hk
  refine ops_v (rv_not rfl rfl) (want_yes rfl) rfl rfl ?_
  refine ops_nil ?_
  intro a hA
  refine cw_cond hA rfl (fun hc1 => ?_) (fun hc1 => ?_)
  · replace hF := iteT hc1 hF
    refine cw_seq ?_
    refine cw_ops hA ?_
    clear hA
    refine ops_v (rv_assign rfl rfl) (want_yes rfl) rfl rfl ?_
    refine ops_nil ?_
    intro a hA
    refine cw_ret ?_
    cases hF
    exact fin1 Try.results78 hA (res_tmp rfl) ⟨rfl, (hS.sel [] rfl).weaken (R' := []) (fun _ h => nomatch h)⟩
  · replace hF := iteF hc1 hF
    refine cw_skip ?_
    refine cw_seq ?_
    refine cw_ops hA ?_
    clear hA
    refine ops_v (rv_move rfl rfl) (want_yes rfl) rfl rfl ?_
    refine ops_v (rv_rem rfl rfl rfl (by decide)) (want_yes rfl) rfl rfl ?_
    refine ops_v (rv_assign rfl rfl) (want_yes rfl) rfl rfl ?_
    refine ops_nil ?_
    intro a hA
    refine cw_ret ?_
    cases hF
    exact fin1 Try.results78 hA (res_tmp rfl) ⟨rfl, (hS.sel [] rfl).weaken (R' := []) (fun _ h => nomatch h)⟩

set_option maxHeartbeats 4000000 in
set_option maxRecDepth 100000 in
theorem c_spec_GenAt {w0 : World} {slot : Int} {c : Int}  {r : Int}  (hF : spec_GenAt slot c = some r) :
    Calls Try.prog 75 #[.int .i64 (slot), .int .i64 (c)] w0 (Ret fun v w' => v = .int .i64 (r) ∧ St (cxAll w0) w' [] []) := by
  have hS : St (cxAll w0) w0 [] [] := St.enter (by
    intro f hf; cases hf)
  refine calls_cw (args := [_, _]) Try.func75 rfl Try.ntmps75 rfl ?_
  unfold spec_GenAt at hF
  intro a hA
  refine cw_seq ?_
  refine cw_ops hA ?_
  clear hA
  refine ops_v (rv_assign rfl rfl) (want_yes rfl) rfl rfl ?_
  refine ops_nil ?_
  intro a hA
  refine cw_seq ?_
  refine cw_seq ?_
  refine cw_cut (J := fun a' w' => ∃ (x1 : Bool), spec_GenAt_j1 slot c x1 = some r ∧ AEnv 27 [(0, .int .i64 (slot)), (1, .int .i64 (c)), (16, .bool (x1))] a' ∧ St (cxAll w0) w' [] []) ?_ ?_
  · skip
    refine cw_ops hA ?_
    clear hA
    refine ops_v (rv_move rfl rfl) (want_yes rfl) rfl rfl ?_
    obtain ⟨x5, hx5, hF⟩ := bindE hF
    refine ops_c (rc_call Try.call77 rfl rfl) (want_yes rfl) rfl rfl (c_spec_PageOf (slot := slot)  hx5) ?_
    rintro _ w ⟨rfl, hk⟩
    replace hS := hS.after hk; clear hk
    refine ops_v (rv_lss rfl rfl rfl) (want_yes rfl) rfl rfl ?_
    refine ops_v (rv_move rfl rfl) (want_yes rfl) rfl rfl ?_
    refine ops_case (s := 8) rfl (fun hc2 => ?_) (fun hc2 => ?_)
    · replace hF := iteT hc2 hF
      refine ops_off (want_if rfl rfl rfl (by rw [hc2]; rfl)) rfl rfl ?_
      refine ops_off (want_if rfl rfl rfl (by rw [hc2]; rfl)) rfl rfl ?_
      refine ops_off (want_if rfl rfl rfl (by rw [hc2]; rfl)) rfl rfl ?_
      refine ops_off (want_if rfl rfl rfl (by rw [hc2]; rfl)) rfl rfl ?_
      refine ops_off (want_if rfl rfl rfl (by rw [hc2]; rfl)) rfl rfl ?_
      refine ops_off (want_if rfl rfl rfl (by rw [hc2]; rfl)) rfl rfl ?_
      refine ops_off (want_if rfl rfl rfl (by rw [hc2]; rfl)) rfl rfl ?_
      refine ops_v (rv_pick_t rfl rfl hc2 rfl) (want_yes rfl) rfl rfl ?_
      refine ops_nil ?_
      intro a hA
      exact ⟨true, hF, hA.part ⟨rfl, rfl, rfl, trivial⟩, ((hS).sel [] rfl).selR [] rfl⟩
    · replace hF := iteF hc2 hF
      refine ops_v (rv_move rfl rfl) (want_if rfl rfl rfl (by rw [hc2]; rfl)) rfl rfl ?_
      obtain ⟨x6, hx6, hF⟩ := bindE hF
      refine ops_c (rc_call Try.call78 rfl rfl) (want_if rfl rfl rfl (by rw [hc2]; rfl)) rfl rfl (c_spec_IndexOf (slot := slot)  hx6) ?_
      rintro _ w ⟨rfl, hk⟩
      replace hS := hS.after hk; clear hk
      refine ops_v (rv_move rfl rfl) (want_if rfl rfl rfl (by rw [hc2]; rfl)) rfl rfl ?_
      obtain ⟨x7, hx7, hF⟩ := bindE hF
      refine ops_c (rc_call Try.call73 rfl rfl) (want_if rfl rfl rfl (by rw [hc2]; rfl)) rfl rfl (c_spec_PerPage (c := c)  hx7) ?_
      rintro _ w ⟨rfl, hk⟩
      replace hS := hS.after hk; clear hk
      refine ops_v (rv_sub rfl rfl rfl) (want_if rfl rfl rfl (by rw [hc2]; rfl)) rfl rfl ?_
      obtain ⟨x8, hx8, hF⟩ := bindE hF
      refine ops_c (rc_call Try.call56 rfl rfl) (want_if rfl rfl rfl (by rw [hc2]; rfl)) rfl rfl (c_spec_l1In (x := x6) (low := 0) (high := w64 (x7 - 1))  hx8) ?_
      rintro _ w ⟨rfl, hk⟩
      replace hS := hS.after hk; clear hk
      refine ops_v (rv_not rfl rfl) (want_if rfl rfl rfl (by rw [hc2]; rfl)) rfl rfl ?_
      refine ops_v (rv_pick_f rfl rfl hc2 rfl) (want_yes rfl) rfl rfl ?_
      refine ops_nil ?_
      intro a hA
      exact ⟨!x8, hF, hA.part ⟨rfl, rfl, rfl, trivial⟩, ((hS).sel [] rfl).selR [] rfl⟩
  · skip
    clear hA hS hF
    rintro a w ⟨x1, hF, hA, hS⟩
    unfold spec_GenAt_j1 at hF
    refine cw_cond hA rfl (fun hc1 => ?_) (fun hc1 => ?_)
    · replace hF := iteT hc1 hF
      refine cw_seq ?_
      refine cw_ops hA ?_
      clear hA
      refine ops_v (rv_assign rfl rfl) (want_yes rfl) rfl rfl ?_
      refine ops_nil ?_
      intro a hA
      refine cw_ret ?_
      cases hF
      exact fin1 Try.results75 hA (res_tmp rfl) ⟨rfl, (hS.sel [] rfl).weaken (R' := []) (fun _ h => nomatch h)⟩
    · replace hF := iteF hc1 hF
      refine cw_skip ?_
      refine cw_seq ?_
      refine cw_ops hA ?_
      clear hA
      refine ops_v (rv_move rfl rfl) (want_yes rfl) rfl rfl ?_
      obtain ⟨x2, hx2, hF⟩ := bindE hF
      refine ops_c (rc_call Try.call77 rfl rfl) (want_yes rfl) rfl rfl (c_spec_PageOf (slot := slot)  hx2) ?_
      rintro _ w ⟨rfl, hk⟩
      replace hS := hS.after hk; clear hk
      refine ops_v (rv_mul rfl rfl rfl) (want_yes rfl) rfl rfl ?_
      refine ops_v (rv_add rfl rfl rfl) (want_yes rfl) rfl rfl ?_
      refine ops_v (rv_move rfl rfl) (want_yes rfl) rfl rfl ?_
      obtain ⟨x3, hx3, hF⟩ := bindE hF
      refine ops_c (rc_call Try.call78 rfl rfl) (want_yes rfl) rfl rfl (c_spec_IndexOf (slot := slot)  hx3) ?_
      rintro _ w ⟨rfl, hk⟩
      replace hS := hS.after hk; clear hk
      refine ops_v (rv_move rfl rfl) (want_yes rfl) rfl rfl ?_
      obtain ⟨x4, hx4, hF⟩ := bindE hF
      refine ops_c (rc_call Try.call91 rfl rfl) (want_yes rfl) rfl rfl (c_spec_StrideOf (c := c)  hx4) ?_
      rintro _ w ⟨rfl, hk⟩
      replace hS := hS.after hk; clear hk
      refine ops_v (rv_mul rfl rfl rfl) (want_yes rfl) rfl rfl ?_
      refine ops_v (rv_add rfl rfl rfl) (want_yes rfl) rfl rfl ?_
      refine ops_v (rv_assign rfl rfl) (want_yes rfl) rfl rfl ?_
      refine ops_nil ?_
      intro a hA
      refine cw_ret ?_
      cases hF
      exact fin1 Try.results75 hA (res_tmp rfl) ⟨rfl, (hS.sel [] rfl).weaken (R' := []) (fun _ h => nomatch h)⟩

set_option maxHeartbeats 4000000 in
set_option maxRecDepth 100000 in
theorem c_spec_l3Load {w0 : World} {b : List Int} {at_ : Int} {width : Int} {s1 : Value} {r : Int} (h1 : Rep.rd (All w0) w0 [s1] (b : List Int)) (hF : spec_l3Load b at_ width = some r) :
    Calls Try.prog 74 #[s1, .int .i64 (at_), .int .i64 (width)] w0 (Ret fun v w' => v = .int .i64 (r) ∧ St (cxAll w0) w' [] []) := by
  have hS : St (cxAll w0) w0 [] [fRd [s1] (b : List Int)] := St.enter (by
    intro f hf
    simp only [List.mem_cons, List.not_mem_nil, or_false] at hf
    subst hf; exact h1)
  refine calls_cw (args := [_, _, _]) Try.func74 rfl Try.ntmps74 rfl ?_
  unfold spec_l3Load at hF
  intro a hA
  refine cw_seq ?_
  refine cw_ops hA ?_
  clear hA
  refine ops_v (rv_assign rfl rfl) (want_yes rfl) rfl rfl ?_
  refine ops_nil ?_
  intro a hA
  refine cw_seq ?_
  refine cw_ops hA ?_
  clear hA
  refine ops_v (rv_assign rfl rfl) (want_yes rfl) rfl rfl ?_
  refine ops_nil ?_
  intro a hA
  refine cw_seq ?_
  refine cw_seq ?_
  refine cw_ops hA ?_
  clear hA
  refine ops_v (rv_assign rfl rfl) (want_yes rfl) rfl rfl ?_
  refine ops_nil ?_
  intro a hA
  obtain ⟨o1, hl1, hF⟩ := bindE hF
  refine cw_cut (J := fun a' w' => ∃ (x5 : Int), o1 = x5 ∧ AEnv 24 [(7, .int .i64 (x5))] a' ∧ St (cxAll w0) w' [] []) ?_ ?_
  · refine cw_block ?_
    refine cw_loop (body := spec_l3Load_l1 b at_ width) (r := o1) (fun sg a' w' => AEnv 24 [(0, s1), (1, .int .i64 (at_)), (2, .int .i64 (width)), (7, .int .i64 (sg.1)), (8, .int .i64 (sg.2))] a' ∧ St (cxAll w0) w' [] [fRd [s1] (b : List Int)]) ?_ hl1 ⟨hA.part ⟨rfl, rfl, rfl, rfl, rfl, trivial⟩, ((hS).sel [] rfl).selR [0] rfl⟩
    clear hA hS hl1
    rintro ⟨x3, x4⟩ a w q1 ⟨hA, hS⟩ hG1 hr1
    try dsimp only at hA hS
    unfold spec_l3Load_l1 at hG1
    refine cw_seq ?_
    refine cw_seq ?_
    refine cw_ops hA ?_
    clear hA
    refine ops_v (rv_move rfl rfl) (want_yes rfl) rfl rfl ?_
    refine ops_v (rv_move rfl rfl) (want_yes rfl) rfl rfl ?_
    refine ops_v (rv_lss rfl rfl rfl) (want_yes rfl) rfl rfl ?_
    refine ops_nil ?_
    intro a hA
    refine cw_cond hA rfl (fun hc1 => ?_) (fun hc1 => ?_)
    · replace hG1 := iteT hc1 hG1
      refine cw_skip ?_
      refine cw_seq ?_
      refine cw_block ?_
      refine cw_ops hA ?_
      clear hA
      refine ops_v (rv_move rfl rfl) (want_yes rfl) rfl rfl ?_
      refine ops_v (rv_mul rfl rfl rfl) (want_yes rfl) rfl rfl ?_
      refine ops_v (rv_move rfl rfl) (want_yes rfl) rfl rfl ?_
      refine ops_v (rv_move rfl rfl) (want_yes rfl) rfl rfl ?_
      refine ops_v (rv_move rfl rfl) (want_yes rfl) rfl rfl ?_
      refine ops_v (rv_add rfl rfl rfl) (want_yes rfl) rfl rfl ?_
      obtain ⟨x6, hx6, hG1⟩ := bindE hG1
      refine ops_v (rv_idx (m := 1) (hS.rd 0 rfl) rfl hx6 Try.underlying22 Try.sizeOf3 rfl rfl rfl) (want_yes rfl) rfl rfl ?_
      refine ops_v (rv_load1 rfl rfl Try.isAgg3 (cell1 (el_Int (hS.rd 0 rfl) (idx_some hx6).2.2))) (want_yes rfl) rfl rfl ?_
      refine ops_v (rv_add rfl rfl rfl) (want_yes rfl) rfl rfl ?_
      refine ops_v (rv_assign rfl rfl) (want_yes rfl) rfl rfl ?_
      refine ops_nil ?_
      intro a hA
      refine cw_ops hA ?_
      clear hA
      refine ops_v (rv_move rfl rfl) (want_yes rfl) rfl rfl ?_
      refine ops_v (rv_add rfl rfl rfl) (want_yes rfl) rfl rfl ?_
      refine ops_v (rv_assign rfl rfl) (want_yes rfl) rfl rfl ?_
      refine ops_nil ?_
      intro a hA
      cases hG1
      exact ⟨_, rfl, ⟨hA.part ⟨rfl, rfl, rfl, rfl, rfl, trivial⟩, ((hS).sel [] rfl).selR [0] rfl⟩⟩
    · replace hG1 := iteF hc1 hG1
      refine cw_exit ?_
      refine xcons_hit ?_
      cases hG1
      have ho := hr1 _ rfl; subst ho
      exact ⟨x3, rfl, hA.part ⟨rfl, trivial⟩, ((hS).sel [] rfl).selR [] rfl⟩
  · skip
    clear hA hS hl1
    rintro a w ⟨x5, heq, hA, hS⟩
    replace hF : spec_l3Load_j1 x5 = some r := by rw [heq] at hF; exact hF
    clear heq
    unfold spec_l3Load_j1 at hF
    refine cw_seq ?_
    refine cw_ops hA ?_
    clear hA
    refine ops_v (rv_move rfl rfl) (want_yes rfl) rfl rfl ?_
    refine ops_v (rv_assign rfl rfl) (want_yes rfl) rfl rfl ?_
    refine ops_nil ?_
    intro a hA
    refine cw_ret ?_
    cases hF
    exact fin1 Try.results74 hA (res_tmp rfl) ⟨rfl, (hS.sel [] rfl).weaken (R' := []) (fun _ h => nomatch h)⟩

set_option maxHeartbeats 4000000 in
set_option maxRecDepth 100000 in
theorem c_spec_l7Page {w0 : World} {h : Heap} {p : Int} {s1 : Value} {s2 : Value} {r : Bool} (h1 : Rep.rd (All w0) w0 [s1] (h.Bytes : List Int)) (h2 : Rep.rd (All w0) w0 [s2] (h.Class : List Int)) (hF : spec_l7Page h p = some r) :
    Calls Try.prog 54 #[.agg #[s1, s2], .int .i64 (p)] w0 (Ret fun v w' => v = .bool (r) ∧ St (cxAll w0) w' [] []) := by
  have hS : St (cxAll w0) w0 [] [fRd [s1] (h.Bytes : List Int), fRd [s2] (h.Class : List Int)] := St.enter (by
    intro f hf
    simp only [List.mem_cons, List.not_mem_nil, or_false] at hf
    rcases hf with rfl | rfl
    · exact h1
    · exact h2)
  refine calls_cw (args := [_, _]) Try.func54 rfl Try.ntmps54 rfl ?_
  unfold spec_l7Page at hF
  intro a hA
  refine cw_seq ?_
  refine cw_ops hA ?_
  clear hA
  refine ops_mv (rv_box (cs := [s1, s2]) hS rfl rfl rfl) (want_yes rfl) rfl rfl ?_
  clear hS
  rintro _ w ⟨b1, rfl, hS⟩
  refine ops_v (rv_assign rfl rfl) (want_yes rfl) rfl rfl ?_
  refine ops_nil ?_
  intro a hA
  refine cw_seq ?_
  refine cw_ops hA ?_
  clear hA
  refine ops_v (rv_move rfl rfl) (want_yes rfl) rfl rfl ?_
  refine ops_v (rv_mul rfl rfl rfl) (want_yes rfl) rfl rfl ?_
  refine ops_v (rv_assign rfl rfl) (want_yes rfl) rfl rfl ?_
  refine ops_nil ?_
  intro a hA
  refine cw_seq ?_
  refine cw_ops hA ?_
  clear hA
  refine ops_v (rv_fld (m := 0) Try.underlying32 rfl rfl Try.sizeOf22 rfl rfl) (want_yes rfl) rfl rfl ?_
  refine ops_v (rv_load1 rfl rfl Try.isAgg22 (hS.cell 0 rfl rfl)) (want_yes rfl) rfl rfl ?_
  refine ops_v (rv_move rfl rfl) (want_yes rfl) rfl rfl ?_
  obtain ⟨x1, hx1, hF⟩ := bindE hF
  refine ops_v (rv_idx (m := 1) (hS.rd 1 rfl) rfl hx1 Try.underlying22 Try.sizeOf3 rfl rfl rfl) (want_yes rfl) rfl rfl ?_
  refine ops_v (rv_load1 rfl rfl Try.isAgg3 (cell1 (el_Int (hS.rd 1 rfl) (idx_some hx1).2.2))) (want_yes rfl) rfl rfl ?_
  refine ops_v (rv_assign rfl rfl) (want_yes rfl) rfl rfl ?_
  refine ops_nil ?_
  intro a hA
  refine cw_seq ?_
  refine cw_seq ?_
  refine cw_ops hA ?_
  clear hA
  refine ops_v (rv_move rfl rfl) (want_yes rfl) rfl rfl ?_
  refine ops_v (rv_lss rfl rfl rfl) (want_yes rfl) rfl rfl ?_
  refine ops_nil ?_
  intro a hA
  refine cw_cond hA rfl (fun hc1 => ?_) (fun hc1 => ?_)
  · replace hF := iteT hc1 hF
    refine cw_seq ?_
    refine cw_seq ?_
    refine cw_ops hA ?_
    clear hA
    refine ops_v (rv_move rfl rfl) (want_yes rfl) rfl rfl ?_
    refine ops_v (rv_assign rfl rfl) (want_yes rfl) rfl rfl ?_
    refine ops_nil ?_
    intro a hA
    obtain ⟨o1, hl1, hF⟩ := bindE hF
    refine cw_cut (J := fun a' w' => o1 = Out.brk (()) ∧ AEnv 89 [] a' ∧ St (cxAll w0) w' [] []) ?_ ?_
    · refine cw_block ?_
      refine cw_loop (body := spec_l7Page_l1 h p) (r := o1) (fun sg a' w' => AEnv 89 [(2, .pointer (some ⟨b1, 0, none⟩)), (5, .int .i64 (w64 (p * 64))), (7, .int .i64 (sg))] a' ∧ St (cxAll w0) w' [cBox b1 [s1, s2]] [fRd [s1] (h.Bytes : List Int), fRd [s2] (h.Class : List Int)]) ?_ hl1 ⟨hA.part ⟨rfl, rfl, rfl, trivial⟩, ((hS).sel [0] rfl).selR [0, 1] rfl⟩
      clear hA hS hl1
      rintro x3 a w q1 ⟨hA, hS⟩ hG1 hr1
      try dsimp only at hA hS
      unfold spec_l7Page_l1 at hG1
      refine cw_seq ?_
      refine cw_seq ?_
      refine cw_ops hA ?_
      clear hA
      refine ops_v (rv_move rfl rfl) (want_yes rfl) rfl rfl ?_
      refine ops_v (rv_move rfl rfl) (want_yes rfl) rfl rfl ?_
      refine ops_v (rv_add rfl rfl rfl) (want_yes rfl) rfl rfl ?_
      refine ops_v (rv_lss rfl rfl rfl) (want_yes rfl) rfl rfl ?_
      refine ops_nil ?_
      intro a hA
      refine cw_cond hA rfl (fun hc2 => ?_) (fun hc2 => ?_)
      · replace hG1 := iteT hc2 hG1
        refine cw_skip ?_
        refine cw_seq ?_
        refine cw_block ?_
        refine cw_seq ?_
        refine cw_ops hA ?_
        clear hA
        refine ops_v (rv_fld (m := 0) Try.underlying32 rfl rfl Try.sizeOf22 rfl rfl) (want_yes rfl) rfl rfl ?_
        refine ops_v (rv_load1 rfl rfl Try.isAgg22 (hS.cell 0 rfl rfl)) (want_yes rfl) rfl rfl ?_
        refine ops_v (rv_move rfl rfl) (want_yes rfl) rfl rfl ?_
        obtain ⟨x4, hx4, hG1⟩ := bindE hG1
        refine ops_v (rv_idx (m := 1) (hS.rd 0 rfl) rfl hx4 Try.underlying22 Try.sizeOf3 rfl rfl rfl) (want_yes rfl) rfl rfl ?_
        refine ops_v (rv_load1 rfl rfl Try.isAgg3 (cell1 (el_Int (hS.rd 0 rfl) (idx_some hx4).2.2))) (want_yes rfl) rfl rfl ?_
        refine ops_v (rv_neq rfl rfl rfl) (want_yes rfl) rfl rfl ?_
        refine ops_nil ?_
        intro a hA
        refine cw_cond hA rfl (fun hc3 => ?_) (fun hc3 => ?_)
        · replace hG1 := iteT hc3 hG1
          refine cw_seq ?_
          refine cw_ops hA ?_
          clear hA
          refine ops_v (rv_assign rfl rfl) (want_yes rfl) rfl rfl ?_
          refine ops_nil ?_
          intro a hA
          refine cw_ret ?_
          cases hG1
          have ho := hr1 _ rfl; subst ho
          replace hF : some false = some r := hF
          cases hF
          exact fin1 Try.results54 hA (res_tmp rfl) ⟨rfl, (hS.sel [] rfl).weaken (R' := []) (fun _ h => nomatch h)⟩
        · replace hG1 := iteF hc3 hG1
          refine cw_skip ?_
          refine cw_ops hA ?_
          clear hA
          refine ops_v (rv_move rfl rfl) (want_yes rfl) rfl rfl ?_
          refine ops_v (rv_add rfl rfl rfl) (want_yes rfl) rfl rfl ?_
          refine ops_v (rv_assign rfl rfl) (want_yes rfl) rfl rfl ?_
          refine ops_nil ?_
          intro a hA
          cases hG1
          exact ⟨_, rfl, ⟨hA.part ⟨rfl, rfl, rfl, trivial⟩, ((hS).sel [0] rfl).selR [0, 1] rfl⟩⟩
      · replace hG1 := iteF hc2 hG1
        refine cw_exit ?_
        refine xcons_hit ?_
        cases hG1
        have ho := hr1 _ rfl; subst ho
        exact ⟨rfl, hA.part trivial, ((hS).sel [] rfl).selR [] rfl⟩
    · skip
      clear hA hS hl1
      rintro a w ⟨heq, hA, hS⟩
      replace hF : spec_l7Page_j1 = some r := by rw [heq] at hF; exact hF
      clear heq
      unfold spec_l7Page_j1 at hF
      refine cw_seq ?_
      refine cw_ops hA ?_
      clear hA
      refine ops_v (rv_assign rfl rfl) (want_yes rfl) rfl rfl ?_
      refine ops_nil ?_
      intro a hA
      refine cw_ret ?_
      cases hF
      exact fin1 Try.results54 hA (res_tmp rfl) ⟨rfl, (hS.sel [] rfl).weaken (R' := []) (fun _ h => nomatch h)⟩
  · replace hF := iteF hc1 hF
    refine cw_skip ?_
    refine cw_seq ?_
    refine cw_seq ?_
    refine cw_cut (J := fun a' w' => ∃ (x5 : Bool), spec_l7Page_j2 h p x1 x5 = some r ∧ AEnv 89 [(1, .int .i64 (p)), (2, .pointer (some ⟨b1, 0, none⟩)), (5, .int .i64 (w64 (p * 64))), (6, .int .i64 (x1)), (58, .bool (x5))] a' ∧ St (cxAll w0) w' [cBox b1 [s1, s2]] [fRd [s1] (h.Bytes : List Int), fRd [s2] (h.Class : List Int)]) ?_ ?_
    · skip
      refine cw_any (Keeps (cxAll w0) [cBox b1 [s1, s2]] [fRd [s1] (h.Bytes : List Int), fRd [s2] (h.Class : List Int)]) mixed_Try hA hS ?_
      clear hA hS; intro w hS
      have hK : Keeps (cxAll w0) [cBox b1 [s1, s2]] [fRd [s1] (h.Bytes : List Int), fRd [s2] (h.Class : List Int)] w := ⟨_, (hS.sel [0] rfl).selR [0, 1] rfl⟩
      refine any_v 0 (by kernel_rfl) rfl (by kernel_rfl) (by kernel_rfl) hK (fun _ _ => (rv_fld (m := 0) Try.underlying32 rfl rfl Try.sizeOf22 rfl rfl)) (want_yes rfl) rfl rfl ?_
      refine any_v 1 (by kernel_rfl) rfl (by kernel_rfl) (by kernel_rfl) hK (fun w hk => by obtain ⟨_, hS⟩ := hk; exact (rv_load1 rfl rfl Try.isAgg22 (hS.cell 0 rfl rfl))) (want_yes rfl) rfl rfl ?_
      refine any_v 2 (by kernel_rfl) rfl (by kernel_rfl) (by kernel_rfl) hK (fun _ _ => (rv_move rfl rfl)) (want_yes rfl) rfl rfl ?_
      obtain ⟨x16, hx16, hF⟩ := bindE hF
      refine any_v 3 (by kernel_rfl) rfl (by kernel_rfl) (by kernel_rfl) hK (fun w hk => by obtain ⟨_, hS⟩ := hk; exact (rv_idx (m := 1) (hS.rd 0 rfl) rfl hx16 Try.underlying22 Try.sizeOf3 rfl rfl rfl)) (want_yes rfl) rfl rfl ?_
      refine any_v 4 (by kernel_rfl) rfl (by kernel_rfl) (by kernel_rfl) hK (fun w hk => by obtain ⟨_, hS⟩ := hk; exact (rv_load1 rfl rfl Try.isAgg3 (cell1 (el_Int (hS.rd 0 rfl) (idx_some hx16).2.2)))) (want_yes rfl) rfl rfl ?_
      refine any_v 5 (by kernel_rfl) rfl (by kernel_rfl) (by kernel_rfl) hK (fun _ _ => (rv_neq rfl rfl rfl)) (want_yes rfl) rfl rfl ?_
      refine any_v 6 (by kernel_rfl) rfl (by kernel_rfl) (by kernel_rfl) hK (fun _ _ => (rv_move rfl rfl)) (want_yes rfl) rfl rfl ?_
      refine any_case (s := 38) rfl (fun hc9 => ?_) (fun hc9 => ?_)
      · replace hF := iteT hc9 hF
        refine any_off 7 (by kernel_rfl) rfl (by kernel_rfl) (by kernel_rfl) hK (want_if rfl rfl rfl (by rw [hc9]; rfl)) rfl rfl ?_
        refine any_off 8 (by kernel_rfl) rfl (by kernel_rfl) (by kernel_rfl) hK (want_if rfl rfl rfl (by rw [hc9]; rfl)) rfl rfl ?_
        refine any_off 9 (by kernel_rfl) rfl (by kernel_rfl) (by kernel_rfl) hK (want_if rfl rfl rfl (by rw [hc9]; rfl)) rfl rfl ?_
        refine any_off 10 (by kernel_rfl) rfl (by kernel_rfl) (by kernel_rfl) hK (want_if rfl rfl rfl (by rw [hc9]; rfl)) rfl rfl ?_
        refine any_off 11 (by kernel_rfl) rfl (by kernel_rfl) (by kernel_rfl) hK (want_if rfl rfl rfl (by rw [hc9]; rfl)) rfl rfl ?_
        refine any_off 12 (by kernel_rfl) rfl (by kernel_rfl) (by kernel_rfl) hK (want_if rfl rfl rfl (by rw [hc9]; rfl)) rfl rfl ?_
        refine any_off 13 (by kernel_rfl) rfl (by kernel_rfl) (by kernel_rfl) hK (want_if rfl rfl rfl (by rw [hc9]; rfl)) rfl rfl ?_
        refine any_off 14 (by kernel_rfl) rfl (by kernel_rfl) (by kernel_rfl) hK (want_if rfl rfl rfl (by rw [hc9]; rfl)) rfl rfl ?_
        refine any_v 15 (by kernel_rfl) rfl (by kernel_rfl) (by kernel_rfl) hK (fun _ _ => (rv_pick_t rfl rfl hc9 rfl)) (want_yes rfl) rfl rfl ?_
        refine any_v 16 (by kernel_rfl) rfl (by kernel_rfl) (by kernel_rfl) hK (fun _ _ => (rv_move rfl rfl)) (want_yes rfl) rfl rfl ?_
        refine any_off 17 (by kernel_rfl) rfl (by kernel_rfl) (by kernel_rfl) hK (want_if rfl rfl rfl rfl) rfl rfl ?_
        refine any_off 18 (by kernel_rfl) rfl (by kernel_rfl) (by kernel_rfl) hK (want_if rfl rfl rfl rfl) rfl rfl ?_
        refine any_off 19 (by kernel_rfl) rfl (by kernel_rfl) (by kernel_rfl) hK (want_if rfl rfl rfl rfl) rfl rfl ?_
        refine any_off 20 (by kernel_rfl) rfl (by kernel_rfl) (by kernel_rfl) hK (want_if rfl rfl rfl rfl) rfl rfl ?_
        refine any_off 21 (by kernel_rfl) rfl (by kernel_rfl) (by kernel_rfl) hK (want_if rfl rfl rfl rfl) rfl rfl ?_
        refine any_off 22 (by kernel_rfl) rfl (by kernel_rfl) (by kernel_rfl) hK (want_if rfl rfl rfl rfl) rfl rfl ?_
        refine any_off 23 (by kernel_rfl) rfl (by kernel_rfl) (by kernel_rfl) hK (want_if rfl rfl rfl rfl) rfl rfl ?_
        refine any_off 24 (by kernel_rfl) rfl (by kernel_rfl) (by kernel_rfl) hK (want_if rfl rfl rfl rfl) rfl rfl ?_
        refine any_off 25 (by kernel_rfl) rfl (by kernel_rfl) (by kernel_rfl) hK (want_if rfl rfl rfl rfl) rfl rfl ?_
        refine any_v 26 (by kernel_rfl) rfl (by kernel_rfl) (by kernel_rfl) hK (fun _ _ => (rv_pick_t rfl rfl rfl rfl)) (want_yes rfl) rfl rfl ?_
        refine any_done (by kernel_rfl) ?_
        intro a hA
        exact ⟨true, hF, hA.part ⟨rfl, rfl, rfl, rfl, rfl, trivial⟩, ((hS).sel [0] rfl).selR [0, 1] rfl⟩
      · replace hF := iteF hc9 hF
        refine any_v 7 (by kernel_rfl) rfl (by kernel_rfl) (by kernel_rfl) hK (fun _ _ => (rv_fld (m := 0) Try.underlying32 rfl rfl Try.sizeOf22 rfl rfl)) (want_if rfl rfl rfl (by rw [hc9]; rfl)) rfl rfl ?_
        refine any_v 8 (by kernel_rfl) rfl (by kernel_rfl) (by kernel_rfl) hK (fun w hk => by obtain ⟨_, hS⟩ := hk; exact (rv_load1 rfl rfl Try.isAgg22 (hS.cell 0 rfl rfl))) (want_if rfl rfl rfl (by rw [hc9]; rfl)) rfl rfl ?_
        refine any_v 9 (by kernel_rfl) rfl (by kernel_rfl) (by kernel_rfl) hK (fun _ _ => (rv_move rfl rfl)) (want_if rfl rfl rfl (by rw [hc9]; rfl)) rfl rfl ?_
        refine any_v 10 (by kernel_rfl) rfl (by kernel_rfl) (by kernel_rfl) hK (fun _ _ => (rv_add rfl rfl rfl)) (want_if rfl rfl rfl (by rw [hc9]; rfl)) rfl rfl ?_
        obtain ⟨x17, hx17, hF⟩ := bindE hF
        refine any_v 11 (by kernel_rfl) rfl (by kernel_rfl) (by kernel_rfl) hK (fun w hk => by obtain ⟨_, hS⟩ := hk; exact (rv_idx (m := 1) (hS.rd 0 rfl) rfl hx17 Try.underlying22 Try.sizeOf3 rfl rfl rfl)) (want_if rfl rfl rfl (by rw [hc9]; rfl)) rfl rfl ?_
        refine any_v 12 (by kernel_rfl) rfl (by kernel_rfl) (by kernel_rfl) hK (fun w hk => by obtain ⟨_, hS⟩ := hk; exact (rv_load1 rfl rfl Try.isAgg3 (cell1 (el_Int (hS.rd 0 rfl) (idx_some hx17).2.2)))) (want_if rfl rfl rfl (by rw [hc9]; rfl)) rfl rfl ?_
        refine any_v 13 (by kernel_rfl) rfl (by kernel_rfl) (by kernel_rfl) hK (fun _ _ => (rv_move rfl rfl)) (want_if rfl rfl rfl (by rw [hc9]; rfl)) rfl rfl ?_
        refine any_v 14 (by kernel_rfl) rfl (by kernel_rfl) (by kernel_rfl) hK (fun _ _ => (rv_neq rfl rfl rfl)) (want_if rfl rfl rfl (by rw [hc9]; rfl)) rfl rfl ?_
        refine any_v 15 (by kernel_rfl) rfl (by kernel_rfl) (by kernel_rfl) hK (fun _ _ => (rv_pick_f rfl rfl hc9 rfl)) (want_yes rfl) rfl rfl ?_
        refine any_v 16 (by kernel_rfl) rfl (by kernel_rfl) (by kernel_rfl) hK (fun _ _ => (rv_move rfl rfl)) (want_yes rfl) rfl rfl ?_
        refine any_case (s := 48) rfl (fun hc10 => ?_) (fun hc10 => ?_)
        · replace hF := iteT hc10 hF
          refine any_off 17 (by kernel_rfl) rfl (by kernel_rfl) (by kernel_rfl) hK (want_if rfl rfl rfl (by rw [hc10]; rfl)) rfl rfl ?_
          refine any_off 18 (by kernel_rfl) rfl (by kernel_rfl) (by kernel_rfl) hK (want_if rfl rfl rfl (by rw [hc10]; rfl)) rfl rfl ?_
          refine any_off 19 (by kernel_rfl) rfl (by kernel_rfl) (by kernel_rfl) hK (want_if rfl rfl rfl (by rw [hc10]; rfl)) rfl rfl ?_
          refine any_off 20 (by kernel_rfl) rfl (by kernel_rfl) (by kernel_rfl) hK (want_if rfl rfl rfl (by rw [hc10]; rfl)) rfl rfl ?_
          refine any_off 21 (by kernel_rfl) rfl (by kernel_rfl) (by kernel_rfl) hK (want_if rfl rfl rfl (by rw [hc10]; rfl)) rfl rfl ?_
          refine any_off 22 (by kernel_rfl) rfl (by kernel_rfl) (by kernel_rfl) hK (want_if rfl rfl rfl (by rw [hc10]; rfl)) rfl rfl ?_
          refine any_off 23 (by kernel_rfl) rfl (by kernel_rfl) (by kernel_rfl) hK (want_if rfl rfl rfl (by rw [hc10]; rfl)) rfl rfl ?_
          refine any_off 24 (by kernel_rfl) rfl (by kernel_rfl) (by kernel_rfl) hK (want_if rfl rfl rfl (by rw [hc10]; rfl)) rfl rfl ?_
          refine any_off 25 (by kernel_rfl) rfl (by kernel_rfl) (by kernel_rfl) hK (want_if rfl rfl rfl (by rw [hc10]; rfl)) rfl rfl ?_
          refine any_v 26 (by kernel_rfl) rfl (by kernel_rfl) (by kernel_rfl) hK (fun _ _ => (rv_pick_t rfl rfl hc10 rfl)) (want_yes rfl) rfl rfl ?_
          refine any_done (by kernel_rfl) ?_
          intro a hA
          exact ⟨true, hF, hA.part ⟨rfl, rfl, rfl, rfl, rfl, trivial⟩, ((hS).sel [0] rfl).selR [0, 1] rfl⟩
        · replace hF := iteF hc10 hF
          refine any_v 17 (by kernel_rfl) rfl (by kernel_rfl) (by kernel_rfl) hK (fun _ _ => (rv_fld (m := 0) Try.underlying32 rfl rfl Try.sizeOf22 rfl rfl)) (want_if rfl rfl rfl (by rw [hc10]; rfl)) rfl rfl ?_
          refine any_v 18 (by kernel_rfl) rfl (by kernel_rfl) (by kernel_rfl) hK (fun w hk => by obtain ⟨_, hS⟩ := hk; exact (rv_load1 rfl rfl Try.isAgg22 (hS.cell 0 rfl rfl))) (want_if rfl rfl rfl (by rw [hc10]; rfl)) rfl rfl ?_
          refine any_v 19 (by kernel_rfl) rfl (by kernel_rfl) (by kernel_rfl) hK (fun _ _ => (rv_move rfl rfl)) (want_if rfl rfl rfl (by rw [hc10]; rfl)) rfl rfl ?_
          refine any_v 20 (by kernel_rfl) rfl (by kernel_rfl) (by kernel_rfl) hK (fun _ _ => (rv_add rfl rfl rfl)) (want_if rfl rfl rfl (by rw [hc10]; rfl)) rfl rfl ?_
          obtain ⟨x18, hx18, hF⟩ := bindE hF
          refine any_v 21 (by kernel_rfl) rfl (by kernel_rfl) (by kernel_rfl) hK (fun w hk => by obtain ⟨_, hS⟩ := hk; exact (rv_idx (m := 1) (hS.rd 0 rfl) rfl hx18 Try.underlying22 Try.sizeOf3 rfl rfl rfl)) (want_if rfl rfl rfl (by rw [hc10]; rfl)) rfl rfl ?_
          refine any_v 22 (by kernel_rfl) rfl (by kernel_rfl) (by kernel_rfl) hK (fun w hk => by obtain ⟨_, hS⟩ := hk; exact (rv_load1 rfl rfl Try.isAgg3 (cell1 (el_Int (hS.rd 0 rfl) (idx_some hx18).2.2)))) (want_if rfl rfl rfl (by rw [hc10]; rfl)) rfl rfl ?_
          refine any_v 23 (by kernel_rfl) rfl (by kernel_rfl) (by kernel_rfl) hK (fun _ _ => (rv_move rfl rfl)) (want_if rfl rfl rfl (by rw [hc10]; rfl)) rfl rfl ?_
          refine any_1 (i := 24) (by kernel_rfl) ?_
          obtain ⟨x19, hx19, hF⟩ := bindE hF
          refine as_c rfl (rc_call Try.call73 rfl rfl) (want_if rfl rfl rfl (by rw [hc10]; rfl)) rfl rfl (c_spec_PerPage (c := x1)  hx19) ?_
          clear hK; rintro _ w ⟨rfl, hk⟩
          replace hS := hS.after hk; clear hk
          have hK : Keeps (cxAll w0) [cBox b1 [s1, s2]] [fRd [s1] (h.Bytes : List Int), fRd [s2] (h.Class : List Int)] w := ⟨_, (hS.sel [0] rfl).selR [0, 1] rfl⟩
          refine ⟨hK, ?_⟩
          refine any_v 25 (by kernel_rfl) rfl (by kernel_rfl) (by kernel_rfl) hK (fun _ _ => (rv_neq rfl rfl rfl)) (want_if rfl rfl rfl (by rw [hc10]; rfl)) rfl rfl ?_
          refine any_v 26 (by kernel_rfl) rfl (by kernel_rfl) (by kernel_rfl) hK (fun _ _ => (rv_pick_f rfl rfl hc10 rfl)) (want_yes rfl) rfl rfl ?_
          refine any_done (by kernel_rfl) ?_
          intro a hA
          exact ⟨x18 != x19, hF, hA.part ⟨rfl, rfl, rfl, rfl, rfl, trivial⟩, ((hS).sel [0] rfl).selR [0, 1] rfl⟩
    · skip
      clear hA hS hF
      rintro a w ⟨x5, hF, hA, hS⟩
      unfold spec_l7Page_j2 at hF
      refine cw_cond hA rfl (fun hc4 => ?_) (fun hc4 => ?_)
      · replace hF := iteT hc4 hF
        refine cw_seq ?_
        refine cw_ops hA ?_
        clear hA
        refine ops_v (rv_assign rfl rfl) (want_yes rfl) rfl rfl ?_
        refine ops_nil ?_
        intro a hA
        refine cw_ret ?_
        cases hF
        exact fin1 Try.results54 hA (res_tmp rfl) ⟨rfl, (hS.sel [] rfl).weaken (R' := []) (fun _ h => nomatch h)⟩
      · replace hF := iteF hc4 hF
        refine cw_skip ?_
        refine cw_seq ?_
        refine cw_seq ?_
        refine cw_ops hA ?_
        clear hA
        refine ops_v (rv_move rfl rfl) (want_yes rfl) rfl rfl ?_
        refine ops_v (rv_add rfl rfl rfl) (want_yes rfl) rfl rfl ?_
        refine ops_v (rv_assign rfl rfl) (want_yes rfl) rfl rfl ?_
        refine ops_nil ?_
        intro a hA
        obtain ⟨o2, hl2, hF⟩ := bindE hF
        refine cw_cut (J := fun a' w' => o2 = Out.brk (()) ∧ AEnv 89 [(1, .int .i64 (p)), (2, .pointer (some ⟨b1, 0, none⟩)), (6, .int .i64 (x1))] a' ∧ St (cxAll w0) w' [cBox b1 [s1, s2]] [fRd [s1] (h.Bytes : List Int), fRd [s2] (h.Class : List Int)]) ?_ ?_
        · refine cw_block ?_
          refine cw_loop (body := spec_l7Page_l3 h p) (r := o2) (fun sg a' w' => AEnv 89 [(1, .int .i64 (p)), (2, .pointer (some ⟨b1, 0, none⟩)), (5, .int .i64 (w64 (p * 64))), (6, .int .i64 (x1)), (8, .int .i64 (sg))] a' ∧ St (cxAll w0) w' [cBox b1 [s1, s2]] [fRd [s1] (h.Bytes : List Int), fRd [s2] (h.Class : List Int)]) ?_ hl2 ⟨hA.part ⟨rfl, rfl, rfl, rfl, rfl, trivial⟩, ((hS).sel [0] rfl).selR [0, 1] rfl⟩
          clear hA hS hl2
          rintro x7 a w q3 ⟨hA, hS⟩ hG3 hr3
          try dsimp only at hA hS
          unfold spec_l7Page_l3 at hG3
          refine cw_seq ?_
          refine cw_seq ?_
          refine cw_ops hA ?_
          clear hA
          refine ops_v (rv_move rfl rfl) (want_yes rfl) rfl rfl ?_
          refine ops_v (rv_move rfl rfl) (want_yes rfl) rfl rfl ?_
          refine ops_v (rv_add rfl rfl rfl) (want_yes rfl) rfl rfl ?_
          refine ops_v (rv_lss rfl rfl rfl) (want_yes rfl) rfl rfl ?_
          refine ops_nil ?_
          intro a hA
          refine cw_cond hA rfl (fun hc7 => ?_) (fun hc7 => ?_)
          · replace hG3 := iteT hc7 hG3
            refine cw_skip ?_
            refine cw_seq ?_
            refine cw_block ?_
            refine cw_seq ?_
            refine cw_ops hA ?_
            clear hA
            refine ops_v (rv_fld (m := 0) Try.underlying32 rfl rfl Try.sizeOf22 rfl rfl) (want_yes rfl) rfl rfl ?_
            refine ops_v (rv_load1 rfl rfl Try.isAgg22 (hS.cell 0 rfl rfl)) (want_yes rfl) rfl rfl ?_
            refine ops_v (rv_move rfl rfl) (want_yes rfl) rfl rfl ?_
            obtain ⟨x15, hx15, hG3⟩ := bindE hG3
            refine ops_v (rv_idx (m := 1) (hS.rd 0 rfl) rfl hx15 Try.underlying22 Try.sizeOf3 rfl rfl rfl) (want_yes rfl) rfl rfl ?_
            refine ops_v (rv_load1 rfl rfl Try.isAgg3 (cell1 (el_Int (hS.rd 0 rfl) (idx_some hx15).2.2))) (want_yes rfl) rfl rfl ?_
            refine ops_v (rv_neq rfl rfl rfl) (want_yes rfl) rfl rfl ?_
            refine ops_nil ?_
            intro a hA
            refine cw_cond hA rfl (fun hc8 => ?_) (fun hc8 => ?_)
            · replace hG3 := iteT hc8 hG3
              refine cw_seq ?_
              refine cw_ops hA ?_
              clear hA
              refine ops_v (rv_assign rfl rfl) (want_yes rfl) rfl rfl ?_
              refine ops_nil ?_
              intro a hA
              refine cw_ret ?_
              cases hG3
              have ho := hr3 _ rfl; subst ho
              replace hF : some false = some r := hF
              cases hF
              exact fin1 Try.results54 hA (res_tmp rfl) ⟨rfl, (hS.sel [] rfl).weaken (R' := []) (fun _ h => nomatch h)⟩
            · replace hG3 := iteF hc8 hG3
              refine cw_skip ?_
              refine cw_ops hA ?_
              clear hA
              refine ops_v (rv_move rfl rfl) (want_yes rfl) rfl rfl ?_
              refine ops_v (rv_add rfl rfl rfl) (want_yes rfl) rfl rfl ?_
              refine ops_v (rv_assign rfl rfl) (want_yes rfl) rfl rfl ?_
              refine ops_nil ?_
              intro a hA
              cases hG3
              exact ⟨_, rfl, ⟨hA.part ⟨rfl, rfl, rfl, rfl, rfl, trivial⟩, ((hS).sel [0] rfl).selR [0, 1] rfl⟩⟩
          · replace hG3 := iteF hc7 hG3
            refine cw_exit ?_
            refine xcons_hit ?_
            cases hG3
            have ho := hr3 _ rfl; subst ho
            exact ⟨rfl, hA.part ⟨rfl, rfl, rfl, trivial⟩, ((hS).sel [0] rfl).selR [0, 1] rfl⟩
        · skip
          clear hA hS hl2
          rintro a w ⟨heq, hA, hS⟩
          replace hF : spec_l7Page_j3 h p x1 = some r := by rw [heq] at hF; exact hF
          clear heq
          unfold spec_l7Page_j3 at hF
          refine cw_seq ?_
          refine cw_seq ?_
          refine cw_ops hA ?_
          clear hA
          refine ops_v (rv_assign rfl rfl) (want_yes rfl) rfl rfl ?_
          refine ops_nil ?_
          intro a hA
          obtain ⟨o3, hl3, hF⟩ := bindE hF
          refine cw_cut (J := fun a' w' => o3 = Out.brk (()) ∧ AEnv 89 [] a' ∧ St (cxAll w0) w' [] []) ?_ ?_
          · refine cw_block ?_
            refine cw_loop (body := spec_l7Page_l4 h p x1) (r := o3) (fun sg a' w' => AEnv 89 [(1, .int .i64 (p)), (2, .pointer (some ⟨b1, 0, none⟩)), (6, .int .i64 (x1)), (9, .int .i64 (sg))] a' ∧ St (cxAll w0) w' [cBox b1 [s1, s2]] [fRd [s1] (h.Bytes : List Int), fRd [s2] (h.Class : List Int)]) ?_ hl3 ⟨hA.part ⟨rfl, rfl, rfl, rfl, trivial⟩, ((hS).sel [0] rfl).selR [0, 1] rfl⟩
            clear hA hS hl3
            rintro x9 a w q4 ⟨hA, hS⟩ hG4 hr4
            try dsimp only at hA hS
            unfold spec_l7Page_l4 at hG4
            refine cw_seq ?_
            refine cw_seq ?_
            refine cw_ops hA ?_
            clear hA
            refine ops_v (rv_move rfl rfl) (want_yes rfl) rfl rfl ?_
            refine ops_v (rv_move rfl rfl) (want_yes rfl) rfl rfl ?_
            obtain ⟨x10, hx10, hG4⟩ := bindE hG4
            refine ops_c (rc_call Try.call73 rfl rfl) (want_yes rfl) rfl rfl (c_spec_PerPage (c := x1)  hx10) ?_
            rintro _ w ⟨rfl, hk⟩
            replace hS := hS.after hk; clear hk
            refine ops_v (rv_lss rfl rfl rfl) (want_yes rfl) rfl rfl ?_
            refine ops_nil ?_
            intro a hA
            refine cw_cond hA rfl (fun hc5 => ?_) (fun hc5 => ?_)
            · replace hG4 := iteT hc5 hG4
              refine cw_skip ?_
              refine cw_seq ?_
              refine cw_block ?_
              refine cw_seq ?_
              refine cw_any (Keeps (cxAll w0) [cBox b1 [s1, s2]] [fRd [s1] (h.Bytes : List Int), fRd [s2] (h.Class : List Int)]) mixed_Try hA hS ?_
              clear hA hS; intro w hS
              have hK : Keeps (cxAll w0) [cBox b1 [s1, s2]] [fRd [s1] (h.Bytes : List Int), fRd [s2] (h.Class : List Int)] w := ⟨_, (hS.sel [0] rfl).selR [0, 1] rfl⟩
              refine any_v 0 (by kernel_rfl) rfl (by kernel_rfl) (by kernel_rfl) hK (fun _ _ => (rv_fld (m := 0) Try.underlying32 rfl rfl Try.sizeOf22 rfl rfl)) (want_yes rfl) rfl rfl ?_
              refine any_v 1 (by kernel_rfl) rfl (by kernel_rfl) (by kernel_rfl) hK (fun w hk => by obtain ⟨_, hS⟩ := hk; exact (rv_load1 rfl rfl Try.isAgg22 (hS.cell 0 rfl rfl))) (want_yes rfl) rfl rfl ?_
              refine any_v 2 (by kernel_rfl) rfl (by kernel_rfl) (by kernel_rfl) hK (fun _ _ => (rv_move rfl rfl)) (want_yes rfl) rfl rfl ?_
              refine any_v 3 (by kernel_rfl) rfl (by kernel_rfl) (by kernel_rfl) hK (fun _ _ => (rv_move rfl rfl)) (want_yes rfl) rfl rfl ?_
              refine any_v 5 (by kernel_rfl) rfl (by kernel_rfl) (by kernel_rfl) hK (fun _ _ => (rv_move rfl rfl)) (want_yes rfl) rfl rfl ?_
              refine any_1 (i := 4) (by kernel_rfl) ?_
              obtain ⟨x11, hx11, hG4⟩ := bindE hG4
              refine as_c rfl (rc_call Try.call76 rfl rfl) (want_yes rfl) rfl rfl (c_spec_SlotAt (page := p) (index := x9)  hx11) ?_
              clear hK; rintro _ w ⟨rfl, hk⟩
              replace hS := hS.after hk; clear hk
              have hK : Keeps (cxAll w0) [cBox b1 [s1, s2]] [fRd [s1] (h.Bytes : List Int), fRd [s2] (h.Class : List Int)] w := ⟨_, (hS.sel [0] rfl).selR [0, 1] rfl⟩
              refine ⟨hK, ?_⟩
              refine any_1 (i := 6) (by kernel_rfl) ?_
              obtain ⟨x12, hx12, hG4⟩ := bindE hG4
              refine as_c rfl (rc_call Try.call75 rfl rfl) (want_yes rfl) rfl rfl (c_spec_GenAt (slot := x11) (c := x1)  hx12) ?_
              clear hK; rintro _ w ⟨rfl, hk⟩
              replace hS := hS.after hk; clear hk
              have hK : Keeps (cxAll w0) [cBox b1 [s1, s2]] [fRd [s1] (h.Bytes : List Int), fRd [s2] (h.Class : List Int)] w := ⟨_, (hS.sel [0] rfl).selR [0, 1] rfl⟩
              refine ⟨hK, ?_⟩
              refine any_1 (i := 7) (by kernel_rfl) ?_
              obtain ⟨x13, hx13, hG4⟩ := bindE hG4
              refine as_c rfl (rc_call Try.call74 rfl rfl) (want_yes rfl) rfl rfl (c_spec_l3Load (b := h.Bytes) (at_ := x12) (width := 4) (hS.rd 0 rfl) hx13) ?_
              clear hK; rintro _ w ⟨rfl, hk⟩
              replace hS := hS.after hk; clear hk
              have hK : Keeps (cxAll w0) [cBox b1 [s1, s2]] [fRd [s1] (h.Bytes : List Int), fRd [s2] (h.Class : List Int)] w := ⟨_, (hS.sel [0] rfl).selR [0, 1] rfl⟩
              refine ⟨hK, ?_⟩
              refine any_1 (i := 8) (by kernel_rfl) ?_
              obtain ⟨x14, hx14, hG4⟩ := bindE hG4
              refine as_c rfl (rc_call Try.call56 rfl rfl) (want_yes rfl) rfl rfl (c_spec_l1In (x := x13) (low := 1) (high := 7)  hx14) ?_
              clear hK; rintro _ w ⟨rfl, hk⟩
              replace hS := hS.after hk; clear hk
              have hK : Keeps (cxAll w0) [cBox b1 [s1, s2]] [fRd [s1] (h.Bytes : List Int), fRd [s2] (h.Class : List Int)] w := ⟨_, (hS.sel [0] rfl).selR [0, 1] rfl⟩
              refine ⟨hK, ?_⟩
              refine any_v 9 (by kernel_rfl) rfl (by kernel_rfl) (by kernel_rfl) hK (fun _ _ => (rv_not rfl rfl)) (want_yes rfl) rfl rfl ?_
              refine any_done (by kernel_rfl) ?_
              intro a hA
              refine cw_cond hA rfl (fun hc6 => ?_) (fun hc6 => ?_)
              · replace hG4 := iteT hc6 hG4
                refine cw_seq ?_
                refine cw_ops hA ?_
                clear hA
                refine ops_v (rv_assign rfl rfl) (want_yes rfl) rfl rfl ?_
                refine ops_nil ?_
                intro a hA
                refine cw_ret ?_
                cases hG4
                have ho := hr4 _ rfl; subst ho
                replace hF : some false = some r := hF
                cases hF
                exact fin1 Try.results54 hA (res_tmp rfl) ⟨rfl, (hS.sel [] rfl).weaken (R' := []) (fun _ h => nomatch h)⟩
              · replace hG4 := iteF hc6 hG4
                refine cw_skip ?_
                refine cw_ops hA ?_
                clear hA
                refine ops_v (rv_move rfl rfl) (want_yes rfl) rfl rfl ?_
                refine ops_v (rv_add rfl rfl rfl) (want_yes rfl) rfl rfl ?_
                refine ops_v (rv_assign rfl rfl) (want_yes rfl) rfl rfl ?_
                refine ops_nil ?_
                intro a hA
                cases hG4
                exact ⟨_, rfl, ⟨hA.part ⟨rfl, rfl, rfl, rfl, trivial⟩, ((hS).sel [0] rfl).selR [0, 1] rfl⟩⟩
            · replace hG4 := iteF hc5 hG4
              refine cw_exit ?_
              refine xcons_hit ?_
              cases hG4
              have ho := hr4 _ rfl; subst ho
              exact ⟨rfl, hA.part trivial, ((hS).sel [] rfl).selR [] rfl⟩
          · skip
            clear hA hS hl3
            rintro a w ⟨heq, hA, hS⟩
            replace hF : spec_l7Page_j4 = some r := by rw [heq] at hF; exact hF
            clear heq
            unfold spec_l7Page_j4 at hF
            refine cw_seq ?_
            refine cw_ops hA ?_
            clear hA
            refine ops_v (rv_assign rfl rfl) (want_yes rfl) rfl rfl ?_
            refine ops_nil ?_
            intro a hA
            refine cw_ret ?_
            cases hF
            exact fin1 Try.results54 hA (res_tmp rfl) ⟨rfl, (hS.sel [] rfl).weaken (R' := []) (fun _ h => nomatch h)⟩

set_option maxHeartbeats 4000000 in
set_option maxRecDepth 100000 in
theorem c_spec_HeapOk {w0 : World} {h : Heap} {s1 : Value} {s2 : Value} {r : Bool} (h1 : Rep.rd (All w0) w0 [s1] (h.Bytes : List Int)) (h2 : Rep.rd (All w0) w0 [s2] (h.Class : List Int)) (hF : spec_HeapOk h = some r) :
    Calls Try.prog 32 #[.agg #[s1, s2]] w0 (Ret fun v w' => v = .bool (r) ∧ St (cxAll w0) w' [] []) := by
  have hS : St (cxAll w0) w0 [] [fRd [s1] (h.Bytes : List Int), fRd [s2] (h.Class : List Int)] := St.enter (by
    intro f hf
    simp only [List.mem_cons, List.not_mem_nil, or_false] at hf
    rcases hf with rfl | rfl
    · exact h1
    · exact h2)
  refine calls_cw (args := [_]) Try.func32 rfl Try.ntmps32 rfl ?_
  unfold spec_HeapOk at hF
  intro a hA
  refine cw_seq ?_
  refine cw_ops hA ?_
  clear hA
  refine ops_mv (rv_box (cs := [s1, s2]) hS rfl rfl rfl) (want_yes rfl) rfl rfl ?_
  clear hS
  rintro _ w ⟨b1, rfl, hS⟩
  refine ops_v (rv_assign rfl rfl) (want_yes rfl) rfl rfl ?_
  refine ops_nil ?_
  intro a hA
  refine cw_seq ?_
  refine cw_seq ?_
  refine cw_ops hA ?_
  clear hA
  refine ops_v (rv_loadN rfl rfl Try.isAgg32 Try.sizeOf32 rfl (hS.cells 0 0 (cs' := [s1, s2]) rfl rfl)) (want_yes rfl) rfl rfl ?_
  obtain ⟨x1, hx1, hF⟩ := bindE hF
  refine ops_c (rc_call Try.call53 rfl rfl) (want_yes rfl) rfl rfl (c_spec_l7Shape (h := h) (hS.rd 0 rfl) (hS.rd 1 rfl) hx1) ?_
  rintro _ w ⟨rfl, hk⟩
  replace hS := hS.after hk; clear hk
  refine ops_v (rv_not rfl rfl) (want_yes rfl) rfl rfl ?_
  refine ops_nil ?_
  intro a hA
  refine cw_cond hA rfl (fun hc1 => ?_) (fun hc1 => ?_)
  · replace hF := iteT hc1 hF
    refine cw_seq ?_
    refine cw_ops hA ?_
    clear hA
    refine ops_v (rv_assign rfl rfl) (want_yes rfl) rfl rfl ?_
    refine ops_nil ?_
    intro a hA
    refine cw_ret ?_
    cases hF
    exact fin1 Try.results32 hA (res_tmp rfl) ⟨rfl, (hS.sel [] rfl).weaken (R' := []) (fun _ h => nomatch h)⟩
  · replace hF := iteF hc1 hF
    refine cw_skip ?_
    refine cw_seq ?_
    refine cw_seq ?_
    refine cw_ops hA ?_
    clear hA
    refine ops_v (rv_assign rfl rfl) (want_yes rfl) rfl rfl ?_
    refine ops_nil ?_
    intro a hA
    obtain ⟨o1, hl1, hF⟩ := bindE hF
    refine cw_cut (J := fun a' w' => o1 = Out.brk (()) ∧ AEnv 15 [] a' ∧ St (cxAll w0) w' [] []) ?_ ?_
    · refine cw_block ?_
      refine cw_loop (body := spec_HeapOk_l1 h) (r := o1) (fun sg a' w' => AEnv 15 [(1, .pointer (some ⟨b1, 0, none⟩)), (3, .int .i64 (sg))] a' ∧ St (cxAll w0) w' [cBox b1 [s1, s2]] [fRd [s1] (h.Bytes : List Int), fRd [s2] (h.Class : List Int)]) ?_ hl1 ⟨hA.part ⟨rfl, rfl, trivial⟩, ((hS).sel [0] rfl).selR [0, 1] rfl⟩
      clear hA hS hl1
      rintro x3 a w q1 ⟨hA, hS⟩ hG1 hr1
      try dsimp only at hA hS
      unfold spec_HeapOk_l1 at hG1
      refine cw_seq ?_
      refine cw_seq ?_
      refine cw_ops hA ?_
      clear hA
      refine ops_v (rv_move rfl rfl) (want_yes rfl) rfl rfl ?_
      refine ops_v (rv_lss rfl rfl rfl) (want_yes rfl) rfl rfl ?_
      refine ops_nil ?_
      intro a hA
      refine cw_cond hA rfl (fun hc2 => ?_) (fun hc2 => ?_)
      · replace hG1 := iteT hc2 hG1
        refine cw_skip ?_
        refine cw_seq ?_
        refine cw_block ?_
        refine cw_seq ?_
        refine cw_ops hA ?_
        clear hA
        refine ops_v (rv_loadN rfl rfl Try.isAgg32 Try.sizeOf32 rfl (hS.cells 0 0 (cs' := [s1, s2]) rfl rfl)) (want_yes rfl) rfl rfl ?_
        refine ops_v (rv_move rfl rfl) (want_yes rfl) rfl rfl ?_
        obtain ⟨x4, hx4, hG1⟩ := bindE hG1
        refine ops_c (rc_call Try.call54 rfl rfl) (want_yes rfl) rfl rfl (c_spec_l7Page (h := h) (p := x3) (hS.rd 0 rfl) (hS.rd 1 rfl) hx4) ?_
        rintro _ w ⟨rfl, hk⟩
        replace hS := hS.after hk; clear hk
        refine ops_v (rv_not rfl rfl) (want_yes rfl) rfl rfl ?_
        refine ops_nil ?_
        intro a hA
        refine cw_cond hA rfl (fun hc3 => ?_) (fun hc3 => ?_)
        · replace hG1 := iteT hc3 hG1
          refine cw_seq ?_
          refine cw_ops hA ?_
          clear hA
          refine ops_v (rv_assign rfl rfl) (want_yes rfl) rfl rfl ?_
          refine ops_nil ?_
          intro a hA
          refine cw_ret ?_
          cases hG1
          have ho := hr1 _ rfl; subst ho
          replace hF : some false = some r := hF
          cases hF
          exact fin1 Try.results32 hA (res_tmp rfl) ⟨rfl, (hS.sel [] rfl).weaken (R' := []) (fun _ h => nomatch h)⟩
        · replace hG1 := iteF hc3 hG1
          refine cw_skip ?_
          refine cw_ops hA ?_
          clear hA
          refine ops_v (rv_move rfl rfl) (want_yes rfl) rfl rfl ?_
          refine ops_v (rv_add rfl rfl rfl) (want_yes rfl) rfl rfl ?_
          refine ops_v (rv_assign rfl rfl) (want_yes rfl) rfl rfl ?_
          refine ops_nil ?_
          intro a hA
          cases hG1
          exact ⟨_, rfl, ⟨hA.part ⟨rfl, rfl, trivial⟩, ((hS).sel [0] rfl).selR [0, 1] rfl⟩⟩
      · replace hG1 := iteF hc2 hG1
        refine cw_exit ?_
        refine xcons_hit ?_
        cases hG1
        have ho := hr1 _ rfl; subst ho
        exact ⟨rfl, hA.part trivial, ((hS).sel [] rfl).selR [] rfl⟩
    · skip
      clear hA hS hl1
      rintro a w ⟨heq, hA, hS⟩
      replace hF : spec_HeapOk_j1 = some r := by rw [heq] at hF; exact hF
      clear heq
      unfold spec_HeapOk_j1 at hF
      refine cw_seq ?_
      refine cw_ops hA ?_
      clear hA
      refine ops_v (rv_assign rfl rfl) (want_yes rfl) rfl rfl ?_
      refine ops_nil ?_
      intro a hA
      refine cw_ret ?_
      cases hF
      exact fin1 Try.results32 hA (res_tmp rfl) ⟨rfl, (hS.sel [] rfl).weaken (R' := []) (fun _ h => nomatch h)⟩

set_option maxHeartbeats 4000000 in
set_option maxRecDepth 100000 in
theorem c_spec_l8All {w0 : World} {l : Lists} {s1 : Value} {s2 : Value} {r : (List Int)} (h1 : Rep.rd (All w0) w0 [s1] (l.Global : List SList)) (h2 : Rep.rd (All w0) w0 [s2] (l.Own : List SList)) (hF : spec_l8All l = some r) :
    Calls Try.prog 55 #[.agg #[s1, s2]] w0 (Ret fun v w' => ∃ (s0_0 : Value), v = s0_0 ∧ St (cxAll w0) w' [cOwn [s0_0] (r : List Int)] []) := by
  have hS : St (cxAll w0) w0 [] [fRd [s1] (l.Global : List SList), fRd [s2] (l.Own : List SList)] := St.enter (by
    intro f hf
    simp only [List.mem_cons, List.not_mem_nil, or_false] at hf
    rcases hf with rfl | rfl
    · exact h1
    · exact h2)
  refine calls_cw (args := [_]) Try.func55 rfl Try.ntmps55 rfl ?_
  unfold spec_l8All at hF
  intro a hA
  refine cw_seq ?_
  refine cw_ops hA ?_
  clear hA
  refine ops_mv (rv_box (cs := [s1, s2]) hS rfl rfl rfl) (want_yes rfl) rfl rfl ?_
  clear hS
  rintro _ w ⟨b1, rfl, hS⟩
  refine ops_v (rv_assign rfl rfl) (want_yes rfl) rfl rfl ?_
  refine ops_nil ?_
  intro a hA
  refine cw_seq ?_
  refine cw_ops hA ?_
  clear hA
  refine ops_mv (rv_lit0 (α := Int) hS rfl Try.underlying22 inf_Try3 rfl) (want_yes rfl) rfl rfl ?_
  clear hS
  rintro s3 w hS
  refine ops_v (rv_assign rfl rfl) (want_yes rfl) rfl rfl ?_
  refine ops_nil ?_
  intro a hA
  refine cw_seq ?_
  refine cw_seq ?_
  refine cw_ops hA ?_
  clear hA
  refine ops_v (rv_assign rfl rfl) (want_yes rfl) rfl rfl ?_
  refine ops_nil ?_
  intro a hA
  obtain ⟨o1, hl1, hF⟩ := bindE hF
  refine cw_cut (J := fun a' w' => ∃ (x5 : List Int) (s6 : Value), o1 = x5 ∧ AEnv 38 [(1, .pointer (some ⟨b1, 0, none⟩)), (3, s6)] a' ∧ St (cxAll w0) w' [cOwn [s6] (x5 : List Int), cBox b1 [s1, s2]] [fRd [s1] (l.Global : List SList), fRd [s2] (l.Own : List SList)]) ?_ ?_
  · refine cw_block ?_
    refine cw_loop (body := spec_l8All_l1 l) (r := o1) (fun sg a' w' => ∃ (s5 : Value), AEnv 38 [(1, .pointer (some ⟨b1, 0, none⟩)), (3, s5), (4, .int .i64 (sg.2))] a' ∧ St (cxAll w0) w' [cOwn [s5] (sg.1 : List Int), cBox b1 [s1, s2]] [fRd [s1] (l.Global : List SList), fRd [s2] (l.Own : List SList)]) ?_ hl1 ⟨s3, hA.part ⟨rfl, rfl, rfl, trivial⟩, ((hS).sel [1, 0] rfl).selR [0, 1] rfl⟩
    clear hA hS hl1
    rintro ⟨x3, x4⟩ a w q1 ⟨s5, hA, hS⟩ hG1 hr1
    try dsimp only at hA hS
    unfold spec_l8All_l1 at hG1
    refine cw_seq ?_
    refine cw_seq ?_
    refine cw_ops hA ?_
    clear hA
    refine ops_v (rv_move rfl rfl) (want_yes rfl) rfl rfl ?_
    refine ops_v (rv_fld (m := 0) Try.underlying35 rfl rfl Try.sizeOf33 rfl rfl) (want_yes rfl) rfl rfl ?_
    refine ops_v (rv_load1 rfl rfl Try.isAgg33 (hS.cell 1 rfl rfl)) (want_yes rfl) rfl rfl ?_
    refine ops_v (rv_lenS (hS.rd 0 rfl) Try.underlying33 rfl rfl) (want_yes rfl) rfl rfl ?_
    refine ops_v (rv_lss rfl rfl rfl) (want_yes rfl) rfl rfl ?_
    refine ops_nil ?_
    intro a hA
    refine cw_cond hA rfl (fun hc2 => ?_) (fun hc2 => ?_)
    · replace hG1 := iteT hc2 hG1
      refine cw_skip ?_
      refine cw_seq ?_
      refine cw_block ?_
      refine cw_ops hA ?_
      clear hA
      refine ops_v (rv_move rfl rfl) (want_yes rfl) rfl rfl ?_
      refine ops_v (rv_fld (m := 0) Try.underlying35 rfl rfl Try.sizeOf33 rfl rfl) (want_yes rfl) rfl rfl ?_
      refine ops_v (rv_load1 rfl rfl Try.isAgg33 (hS.cell 1 rfl rfl)) (want_yes rfl) rfl rfl ?_
      refine ops_v (rv_move rfl rfl) (want_yes rfl) rfl rfl ?_
      obtain ⟨x12, hx12, hG1⟩ := bindE hG1
      refine ops_v (rv_idx (m := 1) (hS.rd 0 rfl) rfl hx12 Try.underlying33 Try.sizeOf53 rfl rfl rfl) (want_yes rfl) rfl rfl ?_
      refine ops_v (rv_fld (m := 0) Try.underlying53 rfl rfl Try.sizeOf22 rfl rfl) (want_yes rfl) rfl rfl ?_
      obtain ⟨s12, hel, hS⟩ := hS.el_SList 0 rfl (idx_some hx12).2.2
      refine ops_v (rv_load1 rfl rfl Try.isAgg22 (cell1 (CellsAt.sub (cs' := [s12]) hel 0 rfl rfl))) (want_yes rfl) rfl rfl ?_
      obtain ⟨hn2, hG1⟩ := needE hG1
      refine ops_mv (rv_append (α := Int) 0 hS rfl (hS.rd 2 rfl) rfl Try.underlying22 inf_Try3 rfl hn2 rfl rfl rfl) (want_yes rfl) rfl rfl ?_
      clear hS
      rintro s13 w hS
      refine ops_v (rv_assign rfl rfl) (want_yes rfl) rfl rfl ?_
      refine ops_nil ?_
      intro a hA
      refine cw_ops hA ?_
      clear hA
      refine ops_v (rv_move rfl rfl) (want_yes rfl) rfl rfl ?_
      refine ops_v (rv_add rfl rfl rfl) (want_yes rfl) rfl rfl ?_
      refine ops_v (rv_assign rfl rfl) (want_yes rfl) rfl rfl ?_
      refine ops_nil ?_
      intro a hA
      cases hG1
      exact ⟨_, rfl, ⟨s13, hA.part ⟨rfl, rfl, rfl, trivial⟩, ((hS).sel [0, 1] rfl).selR [0, 1] rfl⟩⟩
    · replace hG1 := iteF hc2 hG1
      refine cw_exit ?_
      refine xcons_hit ?_
      cases hG1
      have ho := hr1 _ rfl; subst ho
      exact ⟨x3, s5, rfl, hA.part ⟨rfl, rfl, trivial⟩, ((hS).sel [0, 1] rfl).selR [0, 1] rfl⟩
  · skip
    clear hA hS hl1
    rintro a w ⟨x5, s6, heq, hA, hS⟩
    replace hF : spec_l8All_j1 l x5 = some r := by rw [heq] at hF; exact hF
    clear heq
    unfold spec_l8All_j1 at hF
    refine cw_seq ?_
    refine cw_seq ?_
    refine cw_ops hA ?_
    clear hA
    refine ops_v (rv_assign rfl rfl) (want_yes rfl) rfl rfl ?_
    refine ops_nil ?_
    intro a hA
    obtain ⟨o2, hl2, hF⟩ := bindE hF
    refine cw_cut (J := fun a' w' => ∃ (x10 : List Int) (s9 : Value), o2 = x10 ∧ AEnv 38 [(3, s9)] a' ∧ St (cxAll w0) w' [cOwn [s9] (x10 : List Int)] []) ?_ ?_
    · refine cw_block ?_
      refine cw_loop (body := spec_l8All_l2 l) (r := o2) (fun sg a' w' => ∃ (s8 : Value), AEnv 38 [(1, .pointer (some ⟨b1, 0, none⟩)), (3, s8), (5, .int .i64 (sg.2))] a' ∧ St (cxAll w0) w' [cOwn [s8] (sg.1 : List Int), cBox b1 [s1, s2]] [fRd [s1] (l.Global : List SList), fRd [s2] (l.Own : List SList)]) ?_ hl2 ⟨s6, hA.part ⟨rfl, rfl, rfl, trivial⟩, ((hS).sel [0, 1] rfl).selR [0, 1] rfl⟩
      clear hA hS hl2
      rintro ⟨x8, x9⟩ a w q2 ⟨s8, hA, hS⟩ hG2 hr2
      try dsimp only at hA hS
      unfold spec_l8All_l2 at hG2
      refine cw_seq ?_
      refine cw_seq ?_
      refine cw_ops hA ?_
      clear hA
      refine ops_v (rv_move rfl rfl) (want_yes rfl) rfl rfl ?_
      refine ops_v (rv_fld (m := 0) Try.underlying35 rfl rfl Try.sizeOf33 rfl rfl) (want_yes rfl) rfl rfl ?_
      refine ops_v (rv_load1 rfl rfl Try.isAgg33 (hS.cell 1 rfl rfl)) (want_yes rfl) rfl rfl ?_
      refine ops_v (rv_lenS (hS.rd 1 rfl) Try.underlying33 rfl rfl) (want_yes rfl) rfl rfl ?_
      refine ops_v (rv_lss rfl rfl rfl) (want_yes rfl) rfl rfl ?_
      refine ops_nil ?_
      intro a hA
      refine cw_cond hA rfl (fun hc1 => ?_) (fun hc1 => ?_)
      · replace hG2 := iteT hc1 hG2
        refine cw_skip ?_
        refine cw_seq ?_
        refine cw_block ?_
        refine cw_ops hA ?_
        clear hA
        refine ops_v (rv_move rfl rfl) (want_yes rfl) rfl rfl ?_
        refine ops_v (rv_fld (m := 0) Try.underlying35 rfl rfl Try.sizeOf33 rfl rfl) (want_yes rfl) rfl rfl ?_
        refine ops_v (rv_load1 rfl rfl Try.isAgg33 (hS.cell 1 rfl rfl)) (want_yes rfl) rfl rfl ?_
        refine ops_v (rv_move rfl rfl) (want_yes rfl) rfl rfl ?_
        obtain ⟨x11, hx11, hG2⟩ := bindE hG2
        refine ops_v (rv_idx (m := 1) (hS.rd 1 rfl) rfl hx11 Try.underlying33 Try.sizeOf53 rfl rfl rfl) (want_yes rfl) rfl rfl ?_
        refine ops_v (rv_fld (m := 0) Try.underlying53 rfl rfl Try.sizeOf22 rfl rfl) (want_yes rfl) rfl rfl ?_
        obtain ⟨s10, hel, hS⟩ := hS.el_SList 1 rfl (idx_some hx11).2.2
        refine ops_v (rv_load1 rfl rfl Try.isAgg22 (cell1 (CellsAt.sub (cs' := [s10]) hel 0 rfl rfl))) (want_yes rfl) rfl rfl ?_
        obtain ⟨hn1, hG2⟩ := needE hG2
        refine ops_mv (rv_append (α := Int) 0 hS rfl (hS.rd 2 rfl) rfl Try.underlying22 inf_Try3 rfl hn1 rfl rfl rfl) (want_yes rfl) rfl rfl ?_
        clear hS
        rintro s11 w hS
        refine ops_v (rv_assign rfl rfl) (want_yes rfl) rfl rfl ?_
        refine ops_nil ?_
        intro a hA
        refine cw_ops hA ?_
        clear hA
        refine ops_v (rv_move rfl rfl) (want_yes rfl) rfl rfl ?_
        refine ops_v (rv_add rfl rfl rfl) (want_yes rfl) rfl rfl ?_
        refine ops_v (rv_assign rfl rfl) (want_yes rfl) rfl rfl ?_
        refine ops_nil ?_
        intro a hA
        cases hG2
        exact ⟨_, rfl, ⟨s11, hA.part ⟨rfl, rfl, rfl, trivial⟩, ((hS).sel [0, 1] rfl).selR [0, 1] rfl⟩⟩
      · replace hG2 := iteF hc1 hG2
        refine cw_exit ?_
        refine xcons_hit ?_
        cases hG2
        have ho := hr2 _ rfl; subst ho
        exact ⟨x8, s8, rfl, hA.part ⟨rfl, trivial⟩, ((hS).sel [0] rfl).selR [] rfl⟩
    · skip
      clear hA hS hl2
      rintro a w ⟨x10, s9, heq, hA, hS⟩
      replace hF : spec_l8All_j2 x10 = some r := by rw [heq] at hF; exact hF
      clear heq
      unfold spec_l8All_j2 at hF
      refine cw_seq ?_
      refine cw_ops hA ?_
      clear hA
      refine ops_v (rv_move rfl rfl) (want_yes rfl) rfl rfl ?_
      refine ops_v (rv_assign rfl rfl) (want_yes rfl) rfl rfl ?_
      refine ops_nil ?_
      intro a hA
      refine cw_ret ?_
      cases hF
      exact fin1 Try.results55 hA (res_tmp rfl) ⟨s9, rfl, (hS.sel [0] rfl).weaken (R' := []) (fun _ h => nomatch h)⟩

set_option maxHeartbeats 4000000 in
set_option maxRecDepth 100000 in
theorem c_spec_l8Has {w0 : World} {l : List Int} {x : Int} {s1 : Value} {r : Bool} (h1 : Rep.rd (All w0) w0 [s1] (l : List Int)) (hF : spec_l8Has l x = some r) :
    Calls Try.prog 57 #[s1, .int .i64 (x)] w0 (Ret fun v w' => v = .bool (r) ∧ St (cxAll w0) w' [] []) := by
  have hS : St (cxAll w0) w0 [] [fRd [s1] (l : List Int)] := St.enter (by
    intro f hf
    simp only [List.mem_cons, List.not_mem_nil, or_false] at hf
    subst hf; exact h1)
  refine calls_cw (args := [_, _]) Try.func57 rfl Try.ntmps57 rfl ?_
  unfold spec_l8Has at hF
  intro a hA
  refine cw_seq ?_
  refine cw_ops hA ?_
  clear hA
  refine ops_v (rv_assign rfl rfl) (want_yes rfl) rfl rfl ?_
  refine ops_nil ?_
  intro a hA
  refine cw_seq ?_
  refine cw_seq ?_
  refine cw_ops hA ?_
  clear hA
  refine ops_v (rv_assign rfl rfl) (want_yes rfl) rfl rfl ?_
  refine ops_nil ?_
  intro a hA
  obtain ⟨o1, hl1, hF⟩ := bindE hF
  refine cw_cut (J := fun a' w' => o1 = Out.brk (()) ∧ AEnv 18 [] a' ∧ St (cxAll w0) w' [] []) ?_ ?_
  · refine cw_block ?_
    refine cw_loop (body := spec_l8Has_l1 l x) (r := o1) (fun sg a' w' => AEnv 18 [(0, s1), (1, .int .i64 (x)), (5, .int .i64 (sg))] a' ∧ St (cxAll w0) w' [] [fRd [s1] (l : List Int)]) ?_ hl1 ⟨hA.part ⟨rfl, rfl, rfl, trivial⟩, ((hS).sel [] rfl).selR [0] rfl⟩
    clear hA hS hl1
    rintro x2 a w q1 ⟨hA, hS⟩ hG1 hr1
    try dsimp only at hA hS
    unfold spec_l8Has_l1 at hG1
    refine cw_seq ?_
    refine cw_seq ?_
    refine cw_ops hA ?_
    clear hA
    refine ops_v (rv_move rfl rfl) (want_yes rfl) rfl rfl ?_
    refine ops_v (rv_move rfl rfl) (want_yes rfl) rfl rfl ?_
    refine ops_v (rv_lenS (hS.rd 0 rfl) Try.underlying22 rfl rfl) (want_yes rfl) rfl rfl ?_
    refine ops_v (rv_lss rfl rfl rfl) (want_yes rfl) rfl rfl ?_
    refine ops_nil ?_
    intro a hA
    refine cw_cond hA rfl (fun hc1 => ?_) (fun hc1 => ?_)
    · replace hG1 := iteT hc1 hG1
      refine cw_skip ?_
      refine cw_seq ?_
      refine cw_block ?_
      refine cw_seq ?_
      refine cw_ops hA ?_
      clear hA
      refine ops_v (rv_move rfl rfl) (want_yes rfl) rfl rfl ?_
      refine ops_v (rv_move rfl rfl) (want_yes rfl) rfl rfl ?_
      obtain ⟨x3, hx3, hG1⟩ := bindE hG1
      refine ops_v (rv_idx (m := 1) (hS.rd 0 rfl) rfl hx3 Try.underlying22 Try.sizeOf3 rfl rfl rfl) (want_yes rfl) rfl rfl ?_
      refine ops_v (rv_load1 rfl rfl Try.isAgg3 (cell1 (el_Int (hS.rd 0 rfl) (idx_some hx3).2.2))) (want_yes rfl) rfl rfl ?_
      refine ops_v (rv_move rfl rfl) (want_yes rfl) rfl rfl ?_
      refine ops_v (rv_eql rfl rfl rfl) (want_yes rfl) rfl rfl ?_
      refine ops_nil ?_
      intro a hA
      refine cw_cond hA rfl (fun hc2 => ?_) (fun hc2 => ?_)
      · replace hG1 := iteT hc2 hG1
        refine cw_seq ?_
        refine cw_ops hA ?_
        clear hA
        refine ops_v (rv_assign rfl rfl) (want_yes rfl) rfl rfl ?_
        refine ops_nil ?_
        intro a hA
        refine cw_ret ?_
        cases hG1
        have ho := hr1 _ rfl; subst ho
        replace hF : some true = some r := hF
        cases hF
        exact fin1 Try.results57 hA (res_tmp rfl) ⟨rfl, (hS.sel [] rfl).weaken (R' := []) (fun _ h => nomatch h)⟩
      · replace hG1 := iteF hc2 hG1
        refine cw_skip ?_
        refine cw_ops hA ?_
        clear hA
        refine ops_v (rv_move rfl rfl) (want_yes rfl) rfl rfl ?_
        refine ops_v (rv_add rfl rfl rfl) (want_yes rfl) rfl rfl ?_
        refine ops_v (rv_assign rfl rfl) (want_yes rfl) rfl rfl ?_
        refine ops_nil ?_
        intro a hA
        cases hG1
        exact ⟨_, rfl, ⟨hA.part ⟨rfl, rfl, rfl, trivial⟩, ((hS).sel [] rfl).selR [0] rfl⟩⟩
    · replace hG1 := iteF hc1 hG1
      refine cw_exit ?_
      refine xcons_hit ?_
      cases hG1
      have ho := hr1 _ rfl; subst ho
      exact ⟨rfl, hA.part trivial, ((hS).sel [] rfl).selR [] rfl⟩
  · skip
    clear hA hS hl1
    rintro a w ⟨heq, hA, hS⟩
    replace hF : spec_l8Has_j1 = some r := by rw [heq] at hF; exact hF
    clear heq
    unfold spec_l8Has_j1 at hF
    refine cw_seq ?_
    refine cw_ops hA ?_
    clear hA
    refine ops_v (rv_assign rfl rfl) (want_yes rfl) rfl rfl ?_
    refine ops_nil ?_
    intro a hA
    refine cw_ret ?_
    cases hF
    exact fin1 Try.results57 hA (res_tmp rfl) ⟨rfl, (hS.sel [] rfl).weaken (R' := []) (fun _ h => nomatch h)⟩

set_option maxHeartbeats 4000000 in
set_option maxRecDepth 100000 in
theorem c_spec_ListsOk {w0 : World} {l : Lists} {s1 : Value} {s2 : Value} {r : Bool} (h1 : Rep.rd (All w0) w0 [s1] (l.Global : List SList)) (h2 : Rep.rd (All w0) w0 [s2] (l.Own : List SList)) (hF : spec_ListsOk l = some r) :
    Calls Try.prog 33 #[.agg #[s1, s2]] w0 (Ret fun v w' => v = .bool (r) ∧ St (cxAll w0) w' [] []) := by
  have hS : St (cxAll w0) w0 [] [fRd [s1] (l.Global : List SList), fRd [s2] (l.Own : List SList)] := St.enter (by
    intro f hf
    simp only [List.mem_cons, List.not_mem_nil, or_false] at hf
    rcases hf with rfl | rfl
    · exact h1
    · exact h2)
  refine calls_cw (args := [_]) Try.func33 rfl Try.ntmps33 rfl ?_
  unfold spec_ListsOk at hF
  intro a hA
  refine cw_seq ?_
  refine cw_ops hA ?_
  clear hA
  refine ops_mv (rv_box (cs := [s1, s2]) hS rfl rfl rfl) (want_yes rfl) rfl rfl ?_
  clear hS
  rintro _ w ⟨b1, rfl, hS⟩
  refine ops_v (rv_assign rfl rfl) (want_yes rfl) rfl rfl ?_
  refine ops_nil ?_
  intro a hA
  refine cw_seq ?_
  refine cw_seq ?_
  refine cw_cut (J := fun a' w' => ∃ (x1 : Bool), spec_ListsOk_j1 l x1 = some r ∧ AEnv 55 [(1, .pointer (some ⟨b1, 0, none⟩)), (15, .bool (x1))] a' ∧ St (cxAll w0) w' [cBox b1 [s1, s2]] [fRd [s1] (l.Global : List SList), fRd [s2] (l.Own : List SList)]) ?_ ?_
  · skip
    refine cw_ops hA ?_
    clear hA
    refine ops_v (rv_fld (m := 0) Try.underlying35 rfl rfl Try.sizeOf33 rfl rfl) (want_yes rfl) rfl rfl ?_
    refine ops_v (rv_load1 rfl rfl Try.isAgg33 (hS.cell 0 rfl rfl)) (want_yes rfl) rfl rfl ?_
    refine ops_v (rv_lenS (hS.rd 0 rfl) Try.underlying33 rfl rfl) (want_yes rfl) rfl rfl ?_
    refine ops_v (rv_neq rfl rfl rfl) (want_yes rfl) rfl rfl ?_
    refine ops_v (rv_move rfl rfl) (want_yes rfl) rfl rfl ?_
    refine ops_case (s := 10) rfl (fun hc7 => ?_) (fun hc7 => ?_)
    · replace hF := iteT hc7 hF
      refine ops_off (want_if rfl rfl rfl (by rw [hc7]; rfl)) rfl rfl ?_
      refine ops_off (want_if rfl rfl rfl (by rw [hc7]; rfl)) rfl rfl ?_
      refine ops_off (want_if rfl rfl rfl (by rw [hc7]; rfl)) rfl rfl ?_
      refine ops_off (want_if rfl rfl rfl (by rw [hc7]; rfl)) rfl rfl ?_
      refine ops_v (rv_pick_t rfl rfl hc7 rfl) (want_yes rfl) rfl rfl ?_
      refine ops_nil ?_
      intro a hA
      exact ⟨true, hF, hA.part ⟨rfl, rfl, trivial⟩, ((hS).sel [0] rfl).selR [0, 1] rfl⟩
    · replace hF := iteF hc7 hF
      refine ops_v (rv_fld (m := 0) Try.underlying35 rfl rfl Try.sizeOf33 rfl rfl) (want_if rfl rfl rfl (by rw [hc7]; rfl)) rfl rfl ?_
      refine ops_v (rv_load1 rfl rfl Try.isAgg33 (hS.cell 0 rfl rfl)) (want_if rfl rfl rfl (by rw [hc7]; rfl)) rfl rfl ?_
      refine ops_v (rv_lenS (hS.rd 1 rfl) Try.underlying33 rfl rfl) (want_if rfl rfl rfl (by rw [hc7]; rfl)) rfl rfl ?_
      refine ops_v (rv_neq rfl rfl rfl) (want_if rfl rfl rfl (by rw [hc7]; rfl)) rfl rfl ?_
      refine ops_v (rv_pick_f rfl rfl hc7 rfl) (want_yes rfl) rfl rfl ?_
      refine ops_nil ?_
      intro a hA
      exact ⟨((l.Own.length : Int)) != 9, hF, hA.part ⟨rfl, rfl, trivial⟩, ((hS).sel [0] rfl).selR [0, 1] rfl⟩
  · skip
    clear hA hS hF
    rintro a w ⟨x1, hF, hA, hS⟩
    unfold spec_ListsOk_j1 at hF
    refine cw_cond hA rfl (fun hc1 => ?_) (fun hc1 => ?_)
    · replace hF := iteT hc1 hF
      refine cw_seq ?_
      refine cw_ops hA ?_
      clear hA
      refine ops_v (rv_assign rfl rfl) (want_yes rfl) rfl rfl ?_
      refine ops_nil ?_
      intro a hA
      refine cw_ret ?_
      cases hF
      exact fin1 Try.results33 hA (res_tmp rfl) ⟨rfl, (hS.sel [] rfl).weaken (R' := []) (fun _ h => nomatch h)⟩
    · replace hF := iteF hc1 hF
      refine cw_skip ?_
      refine cw_seq ?_
      refine cw_seq ?_
      refine cw_ops hA ?_
      clear hA
      refine ops_v (rv_assign rfl rfl) (want_yes rfl) rfl rfl ?_
      refine ops_nil ?_
      intro a hA
      obtain ⟨o1, hl1, hF⟩ := bindE hF
      refine cw_cut (J := fun a' w' => o1 = Out.brk (()) ∧ AEnv 55 [(1, .pointer (some ⟨b1, 0, none⟩))] a' ∧ St (cxAll w0) w' [cBox b1 [s1, s2]] [fRd [s1] (l.Global : List SList), fRd [s2] (l.Own : List SList)]) ?_ ?_
      · refine cw_block ?_
        refine cw_loop (body := spec_ListsOk_l2 l) (r := o1) (fun sg a' w' => AEnv 55 [(1, .pointer (some ⟨b1, 0, none⟩)), (3, .int .i64 (sg))] a' ∧ St (cxAll w0) w' [cBox b1 [s1, s2]] [fRd [s1] (l.Global : List SList), fRd [s2] (l.Own : List SList)]) ?_ hl1 ⟨hA.part ⟨rfl, rfl, trivial⟩, ((hS).sel [0] rfl).selR [0, 1] rfl⟩
        clear hA hS hl1
        rintro x3 a w q2 ⟨hA, hS⟩ hG2 hr2
        try dsimp only at hA hS
        unfold spec_ListsOk_l2 at hG2
        refine cw_seq ?_
        refine cw_seq ?_
        refine cw_ops hA ?_
        clear hA
        refine ops_v (rv_move rfl rfl) (want_yes rfl) rfl rfl ?_
        refine ops_v (rv_fld (m := 0) Try.underlying35 rfl rfl Try.sizeOf33 rfl rfl) (want_yes rfl) rfl rfl ?_
        refine ops_v (rv_load1 rfl rfl Try.isAgg33 (hS.cell 0 rfl rfl)) (want_yes rfl) rfl rfl ?_
        refine ops_v (rv_lenS (hS.rd 1 rfl) Try.underlying33 rfl rfl) (want_yes rfl) rfl rfl ?_
        refine ops_v (rv_lss rfl rfl rfl) (want_yes rfl) rfl rfl ?_
        refine ops_nil ?_
        intro a hA
        refine cw_cond hA rfl (fun hc5 => ?_) (fun hc5 => ?_)
        · replace hG2 := iteT hc5 hG2
          refine cw_skip ?_
          refine cw_seq ?_
          refine cw_block ?_
          refine cw_seq ?_
          refine cw_ops hA ?_
          clear hA
          refine ops_v (rv_fld (m := 0) Try.underlying35 rfl rfl Try.sizeOf33 rfl rfl) (want_yes rfl) rfl rfl ?_
          refine ops_v (rv_load1 rfl rfl Try.isAgg33 (hS.cell 0 rfl rfl)) (want_yes rfl) rfl rfl ?_
          refine ops_v (rv_move rfl rfl) (want_yes rfl) rfl rfl ?_
          obtain ⟨x12, hx12, hG2⟩ := bindE hG2
          refine ops_v (rv_idx (m := 1) (hS.rd 1 rfl) rfl hx12 Try.underlying33 Try.sizeOf53 rfl rfl rfl) (want_yes rfl) rfl rfl ?_
          refine ops_v (rv_fld (m := 0) Try.underlying53 rfl rfl Try.sizeOf22 rfl rfl) (want_yes rfl) rfl rfl ?_
          obtain ⟨s4, hel, hS⟩ := hS.el_SList 1 rfl (idx_some hx12).2.2
          refine ops_v (rv_load1 rfl rfl Try.isAgg22 (cell1 (CellsAt.sub (cs' := [s4]) hel 0 rfl rfl))) (want_yes rfl) rfl rfl ?_
          refine ops_v (rv_lenS (hS.rd 2 rfl) Try.underlying22 rfl rfl) (want_yes rfl) rfl rfl ?_
          refine ops_v (rv_gtr rfl rfl rfl) (want_yes rfl) rfl rfl ?_
          refine ops_nil ?_
          intro a hA
          refine cw_cond hA rfl (fun hc6 => ?_) (fun hc6 => ?_)
          · replace hG2 := iteT hc6 hG2
            refine cw_seq ?_
            refine cw_ops hA ?_
            clear hA
            refine ops_v (rv_assign rfl rfl) (want_yes rfl) rfl rfl ?_
            refine ops_nil ?_
            intro a hA
            refine cw_ret ?_
            cases hG2
            have ho := hr2 _ rfl; subst ho
            replace hF : some false = some r := hF
            cases hF
            exact fin1 Try.results33 hA (res_tmp rfl) ⟨rfl, (hS.sel [] rfl).weaken (R' := []) (fun _ h => nomatch h)⟩
          · replace hG2 := iteF hc6 hG2
            refine cw_skip ?_
            refine cw_ops hA ?_
            clear hA
            refine ops_v (rv_move rfl rfl) (want_yes rfl) rfl rfl ?_
            refine ops_v (rv_add rfl rfl rfl) (want_yes rfl) rfl rfl ?_
            refine ops_v (rv_assign rfl rfl) (want_yes rfl) rfl rfl ?_
            refine ops_nil ?_
            intro a hA
            cases hG2
            exact ⟨_, rfl, ⟨hA.part ⟨rfl, rfl, trivial⟩, ((hS).sel [0] rfl).selR [0, 1] rfl⟩⟩
        · replace hG2 := iteF hc5 hG2
          refine cw_exit ?_
          refine xcons_hit ?_
          cases hG2
          have ho := hr2 _ rfl; subst ho
          exact ⟨rfl, hA.part ⟨rfl, trivial⟩, ((hS).sel [0] rfl).selR [0, 1] rfl⟩
      · skip
        clear hA hS hl1
        rintro a w ⟨heq, hA, hS⟩
        replace hF : spec_ListsOk_j2 l = some r := by rw [heq] at hF; exact hF
        clear heq
        unfold spec_ListsOk_j2 at hF
        refine cw_seq ?_
        refine cw_ops hA ?_
        clear hA
        refine ops_v (rv_loadN rfl rfl Try.isAgg35 Try.sizeOf35 rfl (hS.cells 0 0 (cs' := [s1, s2]) rfl rfl)) (want_yes rfl) rfl rfl ?_
        obtain ⟨x4, hx4, hF⟩ := bindE hF
        refine ops_c (rc_call Try.call55 rfl rfl) (want_yes rfl) rfl rfl (c_spec_l8All (l := l) (hS.rd 0 rfl) (hS.rd 1 rfl) hx4) ?_
        rintro s3 w ⟨_, rfl, hk⟩
        replace hS := hS.after hk; clear hk
        refine ops_v (rv_assign rfl rfl) (want_yes rfl) rfl rfl ?_
        refine ops_nil ?_
        intro a hA
        refine cw_seq ?_
        refine cw_seq ?_
        refine cw_ops hA ?_
        clear hA
        refine ops_v (rv_assign rfl rfl) (want_yes rfl) rfl rfl ?_
        refine ops_nil ?_
        intro a hA
        obtain ⟨o2, hl2, hF⟩ := bindE hF
        refine cw_cut (J := fun a' w' => o2 = Out.brk (()) ∧ AEnv 55 [] a' ∧ St (cxAll w0) w' [] []) ?_ ?_
        · refine cw_block ?_
          refine cw_loop (body := spec_ListsOk_l3 x4) (r := o2) (fun sg a' w' => AEnv 55 [(4, s3), (5, .int .i64 (sg))] a' ∧ St (cxAll w0) w' [cOwn [s3] (x4 : List Int)] []) ?_ hl2 ⟨hA.part ⟨rfl, rfl, trivial⟩, ((hS).sel [1] rfl).selR [] rfl⟩
          clear hA hS hl2
          rintro x6 a w q3 ⟨hA, hS⟩ hG3 hr3
          try dsimp only at hA hS
          unfold spec_ListsOk_l3 at hG3
          refine cw_seq ?_
          refine cw_seq ?_
          refine cw_ops hA ?_
          clear hA
          refine ops_v (rv_move rfl rfl) (want_yes rfl) rfl rfl ?_
          refine ops_v (rv_move rfl rfl) (want_yes rfl) rfl rfl ?_
          refine ops_v (rv_lenS (hS.rdOwn 0 rfl) Try.underlying22 rfl rfl) (want_yes rfl) rfl rfl ?_
          refine ops_v (rv_lss rfl rfl rfl) (want_yes rfl) rfl rfl ?_
          refine ops_nil ?_
          intro a hA
          refine cw_cond hA rfl (fun hc2 => ?_) (fun hc2 => ?_)
          · replace hG3 := iteT hc2 hG3
            refine cw_skip ?_
            refine cw_seq ?_
            refine cw_block ?_
            refine cw_seq ?_
            refine cw_cut (J := fun a' w' => ∃ (x7 : Bool), spec_ListsOk_j4 x6 x7 = some q3 ∧ AEnv 55 [(4, s3), (5, .int .i64 (x6)), (54, .bool (x7))] a' ∧ St (cxAll w0) w' [cOwn [s3] (x4 : List Int)] []) ?_ ?_
            · skip
              refine cw_any (Keeps (cxAll w0) [cOwn [s3] (x4 : List Int)] []) mixed_Try hA hS ?_
              clear hA hS; intro w hS
              have hK : Keeps (cxAll w0) [cOwn [s3] (x4 : List Int)] [] w := ⟨_, (hS.sel [0] rfl).selR [] rfl⟩
              refine any_v 0 (by kernel_rfl) rfl (by kernel_rfl) (by kernel_rfl) hK (fun _ _ => (rv_move rfl rfl)) (want_yes rfl) rfl rfl ?_
              refine any_v 1 (by kernel_rfl) rfl (by kernel_rfl) (by kernel_rfl) hK (fun _ _ => (rv_move rfl rfl)) (want_yes rfl) rfl rfl ?_
              obtain ⟨x8, hx8, hG3⟩ := bindE hG3
              refine any_v 2 (by kernel_rfl) rfl (by kernel_rfl) (by kernel_rfl) hK (fun w hk => by obtain ⟨_, hS⟩ := hk; exact (rv_idx (m := 1) (hS.rdOwn 0 rfl) rfl hx8 Try.underlying22 Try.sizeOf3 rfl rfl rfl)) (want_yes rfl) rfl rfl ?_
              refine any_v 3 (by kernel_rfl) rfl (by kernel_rfl) (by kernel_rfl) hK (fun w hk => by obtain ⟨_, hS⟩ := hk; exact (rv_load1 rfl rfl Try.isAgg3 (cell1 (el_Int (hS.rdOwn 0 rfl) (idx_some hx8).2.2)))) (want_yes rfl) rfl rfl ?_
              refine any_1 (i := 4) (by kernel_rfl) ?_
              obtain ⟨x9, hx9, hG3⟩ := bindE hG3
              refine as_c rfl (rc_call Try.call56 rfl rfl) (want_yes rfl) rfl rfl (c_spec_l1In (x := x8) (low := 0) (high := 23)  hx9) ?_
              clear hK; rintro _ w ⟨rfl, hk⟩
              replace hS := hS.after hk; clear hk
              have hK : Keeps (cxAll w0) [cOwn [s3] (x4 : List Int)] [] w := ⟨_, (hS.sel [0] rfl).selR [] rfl⟩
              refine ⟨hK, ?_⟩
              refine any_v 5 (by kernel_rfl) rfl (by kernel_rfl) (by kernel_rfl) hK (fun _ _ => (rv_not rfl rfl)) (want_yes rfl) rfl rfl ?_
              refine any_v 6 (by kernel_rfl) rfl (by kernel_rfl) (by kernel_rfl) hK (fun _ _ => (rv_move rfl rfl)) (want_yes rfl) rfl rfl ?_
              refine any_case (s := 45) rfl (fun hc4 => ?_) (fun hc4 => ?_)
              · replace hG3 := iteT hc4 hG3
                refine any_off 7 (by kernel_rfl) rfl (by kernel_rfl) (by kernel_rfl) hK (want_if rfl rfl rfl (by rw [hc4]; rfl)) rfl rfl ?_
                refine any_off 8 (by kernel_rfl) rfl (by kernel_rfl) (by kernel_rfl) hK (want_if rfl rfl rfl (by rw [hc4]; rfl)) rfl rfl ?_
                refine any_off 9 (by kernel_rfl) rfl (by kernel_rfl) (by kernel_rfl) hK (want_if rfl rfl rfl (by rw [hc4]; rfl)) rfl rfl ?_
                refine any_off 10 (by kernel_rfl) rfl (by kernel_rfl) (by kernel_rfl) hK (want_if rfl rfl rfl (by rw [hc4]; rfl)) rfl rfl ?_
                refine any_off 11 (by kernel_rfl) rfl (by kernel_rfl) (by kernel_rfl) hK (want_if rfl rfl rfl (by rw [hc4]; rfl)) rfl rfl ?_
                refine any_off 12 (by kernel_rfl) rfl (by kernel_rfl) (by kernel_rfl) hK (want_if rfl rfl rfl (by rw [hc4]; rfl)) rfl rfl ?_
                refine any_off 13 (by kernel_rfl) rfl (by kernel_rfl) (by kernel_rfl) hK (want_if rfl rfl rfl (by rw [hc4]; rfl)) rfl rfl ?_
                refine any_off 14 (by kernel_rfl) rfl (by kernel_rfl) (by kernel_rfl) hK (want_if rfl rfl rfl (by rw [hc4]; rfl)) rfl rfl ?_
                refine any_v 15 (by kernel_rfl) rfl (by kernel_rfl) (by kernel_rfl) hK (fun _ _ => (rv_pick_t rfl rfl hc4 rfl)) (want_yes rfl) rfl rfl ?_
                refine any_done (by kernel_rfl) ?_
                intro a hA
                exact ⟨true, hG3, hA.part ⟨rfl, rfl, rfl, trivial⟩, ((hS).sel [0] rfl).selR [] rfl⟩
              · replace hG3 := iteF hc4 hG3
                refine any_v 7 (by kernel_rfl) rfl (by kernel_rfl) (by kernel_rfl) hK (fun _ _ => (rv_move rfl rfl)) (want_if rfl rfl rfl (by rw [hc4]; rfl)) rfl rfl ?_
                refine any_v 8 (by kernel_rfl) rfl (by kernel_rfl) (by kernel_rfl) hK (fun _ _ => (rv_move rfl rfl)) (want_if rfl rfl rfl (by rw [hc4]; rfl)) rfl rfl ?_
                obtain ⟨hn1, hG3⟩ := needE hG3
                refine any_v 9 (by kernel_rfl) rfl (by kernel_rfl) (by kernel_rfl) hK (fun w hk => by obtain ⟨_, hS⟩ := hk; exact (rv_sub_h (n := 1) (hS.rdOwn 0 rfl) rfl Try.underlying22 Try.sizeOf3 hn1 rfl rfl rfl)) (want_if rfl rfl rfl (by rw [hc4]; rfl)) rfl rfl ?_
                refine any_v 10 (by kernel_rfl) rfl (by kernel_rfl) (by kernel_rfl) hK (fun _ _ => (rv_move rfl rfl)) (want_if rfl rfl rfl (by rw [hc4]; rfl)) rfl rfl ?_
                refine any_v 11 (by kernel_rfl) rfl (by kernel_rfl) (by kernel_rfl) hK (fun _ _ => (rv_move rfl rfl)) (want_if rfl rfl rfl (by rw [hc4]; rfl)) rfl rfl ?_
                obtain ⟨x10, hx10, hG3⟩ := bindE hG3
                refine any_v 12 (by kernel_rfl) rfl (by kernel_rfl) (by kernel_rfl) hK (fun w hk => by obtain ⟨_, hS⟩ := hk; exact (rv_idx (m := 1) (hS.rdOwn 0 rfl) rfl hx10 Try.underlying22 Try.sizeOf3 rfl rfl rfl)) (want_if rfl rfl rfl (by rw [hc4]; rfl)) rfl rfl ?_
                refine any_v 13 (by kernel_rfl) rfl (by kernel_rfl) (by kernel_rfl) hK (fun w hk => by obtain ⟨_, hS⟩ := hk; exact (rv_load1 rfl rfl Try.isAgg3 (cell1 (el_Int (hS.rdOwn 0 rfl) (idx_some hx10).2.2)))) (want_if rfl rfl rfl (by rw [hc4]; rfl)) rfl rfl ?_
                refine any_1 (i := 14) (by kernel_rfl) ?_
                obtain ⟨x11, hx11, hG3⟩ := bindE hG3
                refine as_c rfl (rc_call Try.call57 rfl rfl) (want_if rfl rfl rfl (by rw [hc4]; rfl)) rfl rfl (c_spec_l8Has (l := (x4.take x6.toNat).drop 0) (x := x10) (rd_sub (n := 1) (a := 0) (b := x6.toNat) rfl (hS.rdOwn 0 rfl) (Nat.zero_le _) (by omega)) hx11) ?_
                clear hK; rintro _ w ⟨rfl, hk⟩
                replace hS := hS.after hk; clear hk
                have hK : Keeps (cxAll w0) [cOwn [s3] (x4 : List Int)] [] w := ⟨_, (hS.sel [0] rfl).selR [] rfl⟩
                refine ⟨hK, ?_⟩
                refine any_v 15 (by kernel_rfl) rfl (by kernel_rfl) (by kernel_rfl) hK (fun _ _ => (rv_pick_f rfl rfl hc4 rfl)) (want_yes rfl) rfl rfl ?_
                refine any_done (by kernel_rfl) ?_
                intro a hA
                exact ⟨x11, hG3, hA.part ⟨rfl, rfl, rfl, trivial⟩, ((hS).sel [0] rfl).selR [] rfl⟩
            · skip
              clear hA hS hG3
              rintro a w ⟨x7, hG3, hA, hS⟩
              unfold spec_ListsOk_j4 at hG3
              refine cw_cond hA rfl (fun hc3 => ?_) (fun hc3 => ?_)
              · replace hG3 := iteT hc3 hG3
                refine cw_seq ?_
                refine cw_ops hA ?_
                clear hA
                refine ops_v (rv_assign rfl rfl) (want_yes rfl) rfl rfl ?_
                refine ops_nil ?_
                intro a hA
                refine cw_ret ?_
                cases hG3
                have ho := hr3 _ rfl; subst ho
                replace hF : some false = some r := hF
                cases hF
                exact fin1 Try.results33 hA (res_tmp rfl) ⟨rfl, (hS.sel [] rfl).weaken (R' := []) (fun _ h => nomatch h)⟩
              · replace hG3 := iteF hc3 hG3
                refine cw_skip ?_
                refine cw_ops hA ?_
                clear hA
                refine ops_v (rv_move rfl rfl) (want_yes rfl) rfl rfl ?_
                refine ops_v (rv_add rfl rfl rfl) (want_yes rfl) rfl rfl ?_
                refine ops_v (rv_assign rfl rfl) (want_yes rfl) rfl rfl ?_
                refine ops_nil ?_
                intro a hA
                cases hG3
                exact ⟨_, rfl, ⟨hA.part ⟨rfl, rfl, trivial⟩, ((hS).sel [0] rfl).selR [] rfl⟩⟩
          · replace hG3 := iteF hc2 hG3
            refine cw_exit ?_
            refine xcons_hit ?_
            cases hG3
            have ho := hr3 _ rfl; subst ho
            exact ⟨rfl, hA.part trivial, ((hS).sel [] rfl).selR [] rfl⟩
        · skip
          clear hA hS hl2
          rintro a w ⟨heq, hA, hS⟩
          replace hF : spec_ListsOk_j3 = some r := by rw [heq] at hF; exact hF
          clear heq
          unfold spec_ListsOk_j3 at hF
          refine cw_seq ?_
          refine cw_ops hA ?_
          clear hA
          refine ops_v (rv_assign rfl rfl) (want_yes rfl) rfl rfl ?_
          refine ops_nil ?_
          intro a hA
          refine cw_ret ?_
          cases hF
          exact fin1 Try.results33 hA (res_tmp rfl) ⟨rfl, (hS.sel [] rfl).weaken (R' := []) (fun _ h => nomatch h)⟩

set_option maxHeartbeats 4000000 in
set_option maxRecDepth 100000 in
theorem c_spec_l7Class {w0 : World} {h : Heap} {slot : Int} {s1 : Value} {s2 : Value} {r : Int} (h1 : Rep.rd (All w0) w0 [s1] (h.Bytes : List Int)) (h2 : Rep.rd (All w0) w0 [s2] (h.Class : List Int)) (hF : spec_l7Class h slot = some r) :
    Calls Try.prog 58 #[.agg #[s1, s2], .int .i64 (slot)] w0 (Ret fun v w' => v = .int .i64 (r) ∧ St (cxAll w0) w' [] []) := by
  have hS : St (cxAll w0) w0 [] [fRd [s1] (h.Bytes : List Int), fRd [s2] (h.Class : List Int)] := St.enter (by
    intro f hf
    simp only [List.mem_cons, List.not_mem_nil, or_false] at hf
    rcases hf with rfl | rfl
    · exact h1
    · exact h2)
  refine calls_cw (args := [_, _]) Try.func58 rfl Try.ntmps58 rfl ?_
  unfold spec_l7Class at hF
  intro a hA
  refine cw_seq ?_
  refine cw_ops hA ?_
  clear hA
  refine ops_mv (rv_box (cs := [s1, s2]) hS rfl rfl rfl) (want_yes rfl) rfl rfl ?_
  clear hS
  rintro _ w ⟨b1, rfl, hS⟩
  refine ops_v (rv_assign rfl rfl) (want_yes rfl) rfl rfl ?_
  refine ops_nil ?_
  intro a hA
  refine cw_seq ?_
  refine cw_ops hA ?_
  clear hA
  refine ops_v (rv_move rfl rfl) (want_yes rfl) rfl rfl ?_
  obtain ⟨x1, hx1, hF⟩ := bindE hF
  refine ops_c (rc_call Try.call77 rfl rfl) (want_yes rfl) rfl rfl (c_spec_PageOf (slot := slot)  hx1) ?_
  rintro _ w ⟨rfl, hk⟩
  replace hS := hS.after hk; clear hk
  refine ops_v (rv_assign rfl rfl) (want_yes rfl) rfl rfl ?_
  refine ops_nil ?_
  intro a hA
  refine cw_seq ?_
  refine cw_seq ?_
  refine cw_cut (J := fun a' w' => ∃ (x2 : Bool), spec_l7Class_j1 h x1 x2 = some r ∧ AEnv 34 [(2, .pointer (some ⟨b1, 0, none⟩)), (5, .int .i64 (x1)), (28, .bool (x2))] a' ∧ St (cxAll w0) w' [cBox b1 [s1, s2]] [fRd [s1] (h.Bytes : List Int), fRd [s2] (h.Class : List Int)]) ?_ ?_
  · skip
    refine cw_any (Keeps (cxAll w0) [cBox b1 [s1, s2]] [fRd [s1] (h.Bytes : List Int), fRd [s2] (h.Class : List Int)]) mixed_Try hA hS ?_
    clear hA hS; intro w hS
    have hK : Keeps (cxAll w0) [cBox b1 [s1, s2]] [fRd [s1] (h.Bytes : List Int), fRd [s2] (h.Class : List Int)] w := ⟨_, (hS.sel [0] rfl).selR [0, 1] rfl⟩
    refine any_v 0 (by kernel_rfl) rfl (by kernel_rfl) (by kernel_rfl) hK (fun _ _ => (rv_move rfl rfl)) (want_yes rfl) rfl rfl ?_
    refine any_v 1 (by kernel_rfl) rfl (by kernel_rfl) (by kernel_rfl) hK (fun _ _ => (rv_lss rfl rfl rfl)) (want_yes rfl) rfl rfl ?_
    refine any_v 2 (by kernel_rfl) rfl (by kernel_rfl) (by kernel_rfl) hK (fun _ _ => (rv_move rfl rfl)) (want_yes rfl) rfl rfl ?_
    refine any_case (s := 10) rfl (fun hc2 => ?_) (fun hc2 => ?_)
    · replace hF := iteT hc2 hF
      refine any_off 3 (by kernel_rfl) rfl (by kernel_rfl) (by kernel_rfl) hK (want_if rfl rfl rfl (by rw [hc2]; rfl)) rfl rfl ?_
      refine any_off 4 (by kernel_rfl) rfl (by kernel_rfl) (by kernel_rfl) hK (want_if rfl rfl rfl (by rw [hc2]; rfl)) rfl rfl ?_
      refine any_off 5 (by kernel_rfl) rfl (by kernel_rfl) (by kernel_rfl) hK (want_if rfl rfl rfl (by rw [hc2]; rfl)) rfl rfl ?_
      refine any_off 6 (by kernel_rfl) rfl (by kernel_rfl) (by kernel_rfl) hK (want_if rfl rfl rfl (by rw [hc2]; rfl)) rfl rfl ?_
      refine any_off 7 (by kernel_rfl) rfl (by kernel_rfl) (by kernel_rfl) hK (want_if rfl rfl rfl (by rw [hc2]; rfl)) rfl rfl ?_
      refine any_off 8 (by kernel_rfl) rfl (by kernel_rfl) (by kernel_rfl) hK (want_if rfl rfl rfl (by rw [hc2]; rfl)) rfl rfl ?_
      refine any_v 9 (by kernel_rfl) rfl (by kernel_rfl) (by kernel_rfl) hK (fun _ _ => (rv_pick_t rfl rfl hc2 rfl)) (want_yes rfl) rfl rfl ?_
      refine any_v 10 (by kernel_rfl) rfl (by kernel_rfl) (by kernel_rfl) hK (fun _ _ => (rv_move rfl rfl)) (want_yes rfl) rfl rfl ?_
      refine any_off 11 (by kernel_rfl) rfl (by kernel_rfl) (by kernel_rfl) hK (want_if rfl rfl rfl rfl) rfl rfl ?_
      refine any_off 12 (by kernel_rfl) rfl (by kernel_rfl) (by kernel_rfl) hK (want_if rfl rfl rfl rfl) rfl rfl ?_
      refine any_off 13 (by kernel_rfl) rfl (by kernel_rfl) (by kernel_rfl) hK (want_if rfl rfl rfl rfl) rfl rfl ?_
      refine any_off 14 (by kernel_rfl) rfl (by kernel_rfl) (by kernel_rfl) hK (want_if rfl rfl rfl rfl) rfl rfl ?_
      refine any_off 15 (by kernel_rfl) rfl (by kernel_rfl) (by kernel_rfl) hK (want_if rfl rfl rfl rfl) rfl rfl ?_
      refine any_off 16 (by kernel_rfl) rfl (by kernel_rfl) (by kernel_rfl) hK (want_if rfl rfl rfl rfl) rfl rfl ?_
      refine any_off 17 (by kernel_rfl) rfl (by kernel_rfl) (by kernel_rfl) hK (want_if rfl rfl rfl rfl) rfl rfl ?_
      refine any_off 18 (by kernel_rfl) rfl (by kernel_rfl) (by kernel_rfl) hK (want_if rfl rfl rfl rfl) rfl rfl ?_
      refine any_off 19 (by kernel_rfl) rfl (by kernel_rfl) (by kernel_rfl) hK (want_if rfl rfl rfl rfl) rfl rfl ?_
      refine any_v 20 (by kernel_rfl) rfl (by kernel_rfl) (by kernel_rfl) hK (fun _ _ => (rv_pick_t rfl rfl rfl rfl)) (want_yes rfl) rfl rfl ?_
      refine any_done (by kernel_rfl) ?_
      intro a hA
      exact ⟨true, hF, hA.part ⟨rfl, rfl, rfl, trivial⟩, ((hS).sel [0] rfl).selR [0, 1] rfl⟩
    · replace hF := iteF hc2 hF
      refine any_v 3 (by kernel_rfl) rfl (by kernel_rfl) (by kernel_rfl) hK (fun _ _ => (rv_fld (m := 0) Try.underlying32 rfl rfl Try.sizeOf22 rfl rfl)) (want_if rfl rfl rfl (by rw [hc2]; rfl)) rfl rfl ?_
      refine any_v 4 (by kernel_rfl) rfl (by kernel_rfl) (by kernel_rfl) hK (fun w hk => by obtain ⟨_, hS⟩ := hk; exact (rv_load1 rfl rfl Try.isAgg22 (hS.cell 0 rfl rfl))) (want_if rfl rfl rfl (by rw [hc2]; rfl)) rfl rfl ?_
      refine any_v 5 (by kernel_rfl) rfl (by kernel_rfl) (by kernel_rfl) hK (fun _ _ => (rv_move rfl rfl)) (want_if rfl rfl rfl (by rw [hc2]; rfl)) rfl rfl ?_
      obtain ⟨x4, hx4, hF⟩ := bindE hF
      refine any_v 6 (by kernel_rfl) rfl (by kernel_rfl) (by kernel_rfl) hK (fun w hk => by obtain ⟨_, hS⟩ := hk; exact (rv_idx (m := 1) (hS.rd 1 rfl) rfl hx4 Try.underlying22 Try.sizeOf3 rfl rfl rfl)) (want_if rfl rfl rfl (by rw [hc2]; rfl)) rfl rfl ?_
      refine any_v 7 (by kernel_rfl) rfl (by kernel_rfl) (by kernel_rfl) hK (fun w hk => by obtain ⟨_, hS⟩ := hk; exact (rv_load1 rfl rfl Try.isAgg3 (cell1 (el_Int (hS.rd 1 rfl) (idx_some hx4).2.2)))) (want_if rfl rfl rfl (by rw [hc2]; rfl)) rfl rfl ?_
      refine any_v 8 (by kernel_rfl) rfl (by kernel_rfl) (by kernel_rfl) hK (fun _ _ => (rv_lss rfl rfl rfl)) (want_if rfl rfl rfl (by rw [hc2]; rfl)) rfl rfl ?_
      refine any_v 9 (by kernel_rfl) rfl (by kernel_rfl) (by kernel_rfl) hK (fun _ _ => (rv_pick_f rfl rfl hc2 rfl)) (want_yes rfl) rfl rfl ?_
      refine any_v 10 (by kernel_rfl) rfl (by kernel_rfl) (by kernel_rfl) hK (fun _ _ => (rv_move rfl rfl)) (want_yes rfl) rfl rfl ?_
      refine any_case (s := 18) rfl (fun hc3 => ?_) (fun hc3 => ?_)
      · replace hF := iteT hc3 hF
        refine any_off 11 (by kernel_rfl) rfl (by kernel_rfl) (by kernel_rfl) hK (want_if rfl rfl rfl (by rw [hc3]; rfl)) rfl rfl ?_
        refine any_off 12 (by kernel_rfl) rfl (by kernel_rfl) (by kernel_rfl) hK (want_if rfl rfl rfl (by rw [hc3]; rfl)) rfl rfl ?_
        refine any_off 13 (by kernel_rfl) rfl (by kernel_rfl) (by kernel_rfl) hK (want_if rfl rfl rfl (by rw [hc3]; rfl)) rfl rfl ?_
        refine any_off 14 (by kernel_rfl) rfl (by kernel_rfl) (by kernel_rfl) hK (want_if rfl rfl rfl (by rw [hc3]; rfl)) rfl rfl ?_
        refine any_off 15 (by kernel_rfl) rfl (by kernel_rfl) (by kernel_rfl) hK (want_if rfl rfl rfl (by rw [hc3]; rfl)) rfl rfl ?_
        refine any_off 16 (by kernel_rfl) rfl (by kernel_rfl) (by kernel_rfl) hK (want_if rfl rfl rfl (by rw [hc3]; rfl)) rfl rfl ?_
        refine any_off 17 (by kernel_rfl) rfl (by kernel_rfl) (by kernel_rfl) hK (want_if rfl rfl rfl (by rw [hc3]; rfl)) rfl rfl ?_
        refine any_off 18 (by kernel_rfl) rfl (by kernel_rfl) (by kernel_rfl) hK (want_if rfl rfl rfl (by rw [hc3]; rfl)) rfl rfl ?_
        refine any_off 19 (by kernel_rfl) rfl (by kernel_rfl) (by kernel_rfl) hK (want_if rfl rfl rfl (by rw [hc3]; rfl)) rfl rfl ?_
        refine any_v 20 (by kernel_rfl) rfl (by kernel_rfl) (by kernel_rfl) hK (fun _ _ => (rv_pick_t rfl rfl hc3 rfl)) (want_yes rfl) rfl rfl ?_
        refine any_done (by kernel_rfl) ?_
        intro a hA
        exact ⟨true, hF, hA.part ⟨rfl, rfl, rfl, trivial⟩, ((hS).sel [0] rfl).selR [0, 1] rfl⟩
      · replace hF := iteF hc3 hF
        refine any_v 11 (by kernel_rfl) rfl (by kernel_rfl) (by kernel_rfl) hK (fun _ _ => (rv_move rfl rfl)) (want_if rfl rfl rfl (by rw [hc3]; rfl)) rfl rfl ?_
        refine any_v 13 (by kernel_rfl) rfl (by kernel_rfl) (by kernel_rfl) hK (fun _ _ => (rv_fld (m := 0) Try.underlying32 rfl rfl Try.sizeOf22 rfl rfl)) (want_if rfl rfl rfl (by rw [hc3]; rfl)) rfl rfl ?_
        refine any_v 14 (by kernel_rfl) rfl (by kernel_rfl) (by kernel_rfl) hK (fun w hk => by obtain ⟨_, hS⟩ := hk; exact (rv_load1 rfl rfl Try.isAgg22 (hS.cell 0 rfl rfl))) (want_if rfl rfl rfl (by rw [hc3]; rfl)) rfl rfl ?_
        refine any_v 15 (by kernel_rfl) rfl (by kernel_rfl) (by kernel_rfl) hK (fun _ _ => (rv_move rfl rfl)) (want_if rfl rfl rfl (by rw [hc3]; rfl)) rfl rfl ?_
        obtain ⟨x5, hx5, hF⟩ := bindE hF
        refine any_v 16 (by kernel_rfl) rfl (by kernel_rfl) (by kernel_rfl) hK (fun w hk => by obtain ⟨_, hS⟩ := hk; exact (rv_idx (m := 1) (hS.rd 1 rfl) rfl hx5 Try.underlying22 Try.sizeOf3 rfl rfl rfl)) (want_if rfl rfl rfl (by rw [hc3]; rfl)) rfl rfl ?_
        refine any_v 17 (by kernel_rfl) rfl (by kernel_rfl) (by kernel_rfl) hK (fun w hk => by obtain ⟨_, hS⟩ := hk; exact (rv_load1 rfl rfl Try.isAgg3 (cell1 (el_Int (hS.rd 1 rfl) (idx_some hx5).2.2)))) (want_if rfl rfl rfl (by rw [hc3]; rfl)) rfl rfl ?_
        refine any_1 (i := 12) (by kernel_rfl) ?_
        obtain ⟨x6, hx6, hF⟩ := bindE hF
        refine as_c rfl (rc_call Try.call78 rfl rfl) (want_if rfl rfl rfl (by rw [hc3]; rfl)) rfl rfl (c_spec_IndexOf (slot := slot)  hx6) ?_
        clear hK; rintro _ w ⟨rfl, hk⟩
        replace hS := hS.after hk; clear hk
        have hK : Keeps (cxAll w0) [cBox b1 [s1, s2]] [fRd [s1] (h.Bytes : List Int), fRd [s2] (h.Class : List Int)] w := ⟨_, (hS.sel [0] rfl).selR [0, 1] rfl⟩
        refine ⟨hK, ?_⟩
        refine any_1 (i := 18) (by kernel_rfl) ?_
        obtain ⟨x7, hx7, hF⟩ := bindE hF
        refine as_c rfl (rc_call Try.call73 rfl rfl) (want_if rfl rfl rfl (by rw [hc3]; rfl)) rfl rfl (c_spec_PerPage (c := x5)  hx7) ?_
        clear hK; rintro _ w ⟨rfl, hk⟩
        replace hS := hS.after hk; clear hk
        have hK : Keeps (cxAll w0) [cBox b1 [s1, s2]] [fRd [s1] (h.Bytes : List Int), fRd [s2] (h.Class : List Int)] w := ⟨_, (hS.sel [0] rfl).selR [0, 1] rfl⟩
        refine ⟨hK, ?_⟩
        refine any_v 19 (by kernel_rfl) rfl (by kernel_rfl) (by kernel_rfl) hK (fun _ _ => (rv_geq rfl rfl rfl)) (want_if rfl rfl rfl (by rw [hc3]; rfl)) rfl rfl ?_
        refine any_v 20 (by kernel_rfl) rfl (by kernel_rfl) (by kernel_rfl) hK (fun _ _ => (rv_pick_f rfl rfl hc3 rfl)) (want_yes rfl) rfl rfl ?_
        refine any_done (by kernel_rfl) ?_
        intro a hA
        exact ⟨decide (x7 ≤ x6), hF, hA.part ⟨rfl, rfl, rfl, trivial⟩, ((hS).sel [0] rfl).selR [0, 1] rfl⟩
  · skip
    clear hA hS hF
    rintro a w ⟨x2, hF, hA, hS⟩
    unfold spec_l7Class_j1 at hF
    refine cw_cond hA rfl (fun hc1 => ?_) (fun hc1 => ?_)
    · replace hF := iteT hc1 hF
      refine cw_seq ?_
      refine cw_ops hA ?_
      clear hA
      refine ops_v (rv_assign rfl rfl) (want_yes rfl) rfl rfl ?_
      refine ops_nil ?_
      intro a hA
      refine cw_ret ?_
      cases hF
      exact fin1 Try.results58 hA (res_tmp rfl) ⟨rfl, (hS.sel [] rfl).weaken (R' := []) (fun _ h => nomatch h)⟩
    · replace hF := iteF hc1 hF
      refine cw_skip ?_
      refine cw_seq ?_
      refine cw_ops hA ?_
      clear hA
      refine ops_v (rv_fld (m := 0) Try.underlying32 rfl rfl Try.sizeOf22 rfl rfl) (want_yes rfl) rfl rfl ?_
      refine ops_v (rv_load1 rfl rfl Try.isAgg22 (hS.cell 0 rfl rfl)) (want_yes rfl) rfl rfl ?_
      refine ops_v (rv_move rfl rfl) (want_yes rfl) rfl rfl ?_
      obtain ⟨x3, hx3, hF⟩ := bindE hF
      refine ops_v (rv_idx (m := 1) (hS.rd 1 rfl) rfl hx3 Try.underlying22 Try.sizeOf3 rfl rfl rfl) (want_yes rfl) rfl rfl ?_
      refine ops_v (rv_load1 rfl rfl Try.isAgg3 (cell1 (el_Int (hS.rd 1 rfl) (idx_some hx3).2.2))) (want_yes rfl) rfl rfl ?_
      refine ops_v (rv_assign rfl rfl) (want_yes rfl) rfl rfl ?_
      refine ops_nil ?_
      intro a hA
      refine cw_ret ?_
      cases hF
      exact fin1 Try.results58 hA (res_tmp rfl) ⟨rfl, (hS.sel [] rfl).weaken (R' := []) (fun _ h => nomatch h)⟩

set_option maxHeartbeats 4000000 in
set_option maxRecDepth 100000 in
theorem c_spec_l7Gen {w0 : World} {h : Heap} {slot : Int} {s1 : Value} {s2 : Value} {r : Int} (h1 : Rep.rd (All w0) w0 [s1] (h.Bytes : List Int)) (h2 : Rep.rd (All w0) w0 [s2] (h.Class : List Int)) (hF : spec_l7Gen h slot = some r) :
    Calls Try.prog 59 #[.agg #[s1, s2], .int .i64 (slot)] w0 (Ret fun v w' => v = .int .i64 (r) ∧ St (cxAll w0) w' [] []) := by
  have hS : St (cxAll w0) w0 [] [fRd [s1] (h.Bytes : List Int), fRd [s2] (h.Class : List Int)] := St.enter (by
    intro f hf
    simp only [List.mem_cons, List.not_mem_nil, or_false] at hf
    rcases hf with rfl | rfl
    · exact h1
    · exact h2)
  refine calls_cw (args := [_, _]) Try.func59 rfl Try.ntmps59 rfl ?_
  unfold spec_l7Gen at hF
  intro a hA
  refine cw_seq ?_
  refine cw_ops hA ?_
  clear hA
  refine ops_mv (rv_box (cs := [s1, s2]) hS rfl rfl rfl) (want_yes rfl) rfl rfl ?_
  clear hS
  rintro _ w ⟨b1, rfl, hS⟩
  refine ops_v (rv_assign rfl rfl) (want_yes rfl) rfl rfl ?_
  refine ops_nil ?_
  intro a hA
  refine cw_seq ?_
  refine cw_any (Keeps (cxAll w0) [cBox b1 [s1, s2]] [fRd [s1] (h.Bytes : List Int), fRd [s2] (h.Class : List Int)]) mixed_Try hA hS ?_
  clear hA hS; intro w hS
  have hK : Keeps (cxAll w0) [cBox b1 [s1, s2]] [fRd [s1] (h.Bytes : List Int), fRd [s2] (h.Class : List Int)] w := ⟨_, (hS.sel [0] rfl).selR [0, 1] rfl⟩
  refine any_v 0 (by kernel_rfl) rfl (by kernel_rfl) (by kernel_rfl) hK (fun _ _ => (rv_fld (m := 0) Try.underlying32 rfl rfl Try.sizeOf22 rfl rfl)) (want_yes rfl) rfl rfl ?_
  refine any_v 1 (by kernel_rfl) rfl (by kernel_rfl) (by kernel_rfl) hK (fun w hk => by obtain ⟨_, hS⟩ := hk; exact (rv_load1 rfl rfl Try.isAgg22 (hS.cell 0 rfl rfl))) (want_yes rfl) rfl rfl ?_
  refine any_v 2 (by kernel_rfl) rfl (by kernel_rfl) (by kernel_rfl) hK (fun _ _ => (rv_move rfl rfl)) (want_yes rfl) rfl rfl ?_
  refine any_v 3 (by kernel_rfl) rfl (by kernel_rfl) (by kernel_rfl) hK (fun w hk => by obtain ⟨_, hS⟩ := hk; exact (rv_loadN rfl rfl Try.isAgg32 Try.sizeOf32 rfl (hS.cells 0 0 (cs' := [s1, s2]) rfl rfl))) (want_yes rfl) rfl rfl ?_
  refine any_v 4 (by kernel_rfl) rfl (by kernel_rfl) (by kernel_rfl) hK (fun _ _ => (rv_move rfl rfl)) (want_yes rfl) rfl rfl ?_
  refine any_1 (i := 5) (by kernel_rfl) ?_
  obtain ⟨x1, hx1, hF⟩ := bindE hF
  refine as_c rfl (rc_call Try.call58 rfl rfl) (want_yes rfl) rfl rfl (c_spec_l7Class (h := h) (slot := slot) (hS.rd 0 rfl) (hS.rd 1 rfl) hx1) ?_
  clear hK; rintro _ w ⟨rfl, hk⟩
  replace hS := hS.after hk; clear hk
  have hK : Keeps (cxAll w0) [cBox b1 [s1, s2]] [fRd [s1] (h.Bytes : List Int), fRd [s2] (h.Class : List Int)] w := ⟨_, (hS.sel [0] rfl).selR [0, 1] rfl⟩
  refine ⟨hK, ?_⟩
  refine any_1 (i := 6) (by kernel_rfl) ?_
  obtain ⟨x2, hx2, hF⟩ := bindE hF
  refine as_c rfl (rc_call Try.call75 rfl rfl) (want_yes rfl) rfl rfl (c_spec_GenAt (slot := slot) (c := x1)  hx2) ?_
  clear hK; rintro _ w ⟨rfl, hk⟩
  replace hS := hS.after hk; clear hk
  have hK : Keeps (cxAll w0) [cBox b1 [s1, s2]] [fRd [s1] (h.Bytes : List Int), fRd [s2] (h.Class : List Int)] w := ⟨_, (hS.sel [0] rfl).selR [0, 1] rfl⟩
  refine ⟨hK, ?_⟩
  refine any_1 (i := 7) (by kernel_rfl) ?_
  obtain ⟨x3, hx3, hF⟩ := bindE hF
  refine as_c rfl (rc_call Try.call74 rfl rfl) (want_yes rfl) rfl rfl (c_spec_l3Load (b := h.Bytes) (at_ := x2) (width := 4) (hS.rd 0 rfl) hx3) ?_
  clear hK; rintro _ w ⟨rfl, hk⟩
  replace hS := hS.after hk; clear hk
  have hK : Keeps (cxAll w0) [cBox b1 [s1, s2]] [fRd [s1] (h.Bytes : List Int), fRd [s2] (h.Class : List Int)] w := ⟨_, (hS.sel [0] rfl).selR [0, 1] rfl⟩
  refine ⟨hK, ?_⟩
  refine any_v 8 (by kernel_rfl) rfl (by kernel_rfl) (by kernel_rfl) hK (fun _ _ => (rv_assign rfl rfl)) (want_yes rfl) rfl rfl ?_
  refine any_done (by kernel_rfl) ?_
  intro a hA
  refine cw_ret ?_
  cases hF
  exact fin1 Try.results59 hA (res_tmp rfl) ⟨rfl, (hS.sel [] rfl).weaken (R' := []) (fun _ h => nomatch h)⟩

set_option maxHeartbeats 4000000 in
set_option maxRecDepth 100000 in
theorem c_spec_l9Listed {w0 : World} {h : Heap} {l : List Int} {c : Int} {s1 : Value} {s2 : Value} {s3 : Value} {r : Bool} (h1 : Rep.rd (All w0) w0 [s1] (h.Bytes : List Int)) (h2 : Rep.rd (All w0) w0 [s2] (h.Class : List Int)) (h3 : Rep.rd (All w0) w0 [s3] (l : List Int)) (hF : spec_l9Listed h l c = some r) :
    Calls Try.prog 34 #[.agg #[s1, s2], s3, .int .i64 (c)] w0 (Ret fun v w' => v = .bool (r) ∧ St (cxAll w0) w' [] []) := by
  have hS : St (cxAll w0) w0 [] [fRd [s1] (h.Bytes : List Int), fRd [s2] (h.Class : List Int), fRd [s3] (l : List Int)] := St.enter (by
    intro f hf
    simp only [List.mem_cons, List.not_mem_nil, or_false] at hf
    rcases hf with rfl | rfl | rfl
    · exact h1
    · exact h2
    · exact h3)
  refine calls_cw (args := [_, _, _]) Try.func34 rfl Try.ntmps34 rfl ?_
  unfold spec_l9Listed at hF
  intro a hA
  refine cw_seq ?_
  refine cw_ops hA ?_
  clear hA
  refine ops_mv (rv_box (cs := [s1, s2]) hS rfl rfl rfl) (want_yes rfl) rfl rfl ?_
  clear hS
  rintro _ w ⟨b1, rfl, hS⟩
  refine ops_v (rv_assign rfl rfl) (want_yes rfl) rfl rfl ?_
  refine ops_nil ?_
  intro a hA
  refine cw_seq ?_
  refine cw_seq ?_
  refine cw_ops hA ?_
  clear hA
  refine ops_v (rv_assign rfl rfl) (want_yes rfl) rfl rfl ?_
  refine ops_nil ?_
  intro a hA
  obtain ⟨o1, hl1, hF⟩ := bindE hF
  refine cw_cut (J := fun a' w' => o1 = Out.brk (()) ∧ AEnv 31 [] a' ∧ St (cxAll w0) w' [] []) ?_ ?_
  · refine cw_block ?_
    refine cw_loop (body := spec_l9Listed_l1 h l c) (r := o1) (fun sg a' w' => AEnv 31 [(1, s3), (2, .int .i64 (c)), (3, .pointer (some ⟨b1, 0, none⟩)), (7, .int .i64 (sg))] a' ∧ St (cxAll w0) w' [cBox b1 [s1, s2]] [fRd [s3] (l : List Int), fRd [s1] (h.Bytes : List Int), fRd [s2] (h.Class : List Int)]) ?_ hl1 ⟨hA.part ⟨rfl, rfl, rfl, rfl, trivial⟩, ((hS).sel [0] rfl).selR [2, 0, 1] rfl⟩
    clear hA hS hl1
    rintro x2 a w q1 ⟨hA, hS⟩ hG1 hr1
    try dsimp only at hA hS
    unfold spec_l9Listed_l1 at hG1
    refine cw_seq ?_
    refine cw_seq ?_
    refine cw_ops hA ?_
    clear hA
    refine ops_v (rv_move rfl rfl) (want_yes rfl) rfl rfl ?_
    refine ops_v (rv_move rfl rfl) (want_yes rfl) rfl rfl ?_
    refine ops_v (rv_lenS (hS.rd 0 rfl) Try.underlying22 rfl rfl) (want_yes rfl) rfl rfl ?_
    refine ops_v (rv_lss rfl rfl rfl) (want_yes rfl) rfl rfl ?_
    refine ops_nil ?_
    intro a hA
    refine cw_cond hA rfl (fun hc1 => ?_) (fun hc1 => ?_)
    · replace hG1 := iteT hc1 hG1
      refine cw_skip ?_
      refine cw_seq ?_
      refine cw_block ?_
      refine cw_seq ?_
      refine cw_cut (J := fun a' w' => ∃ (x3 : Bool), spec_l9Listed_j2 x2 x3 = some q1 ∧ AEnv 31 [(1, s3), (2, .int .i64 (c)), (3, .pointer (some ⟨b1, 0, none⟩)), (7, .int .i64 (x2)), (30, .bool (x3))] a' ∧ St (cxAll w0) w' [cBox b1 [s1, s2]] [fRd [s3] (l : List Int), fRd [s1] (h.Bytes : List Int), fRd [s2] (h.Class : List Int)]) ?_ ?_
      · skip
        refine cw_any (Keeps (cxAll w0) [cBox b1 [s1, s2]] [fRd [s3] (l : List Int), fRd [s1] (h.Bytes : List Int), fRd [s2] (h.Class : List Int)]) mixed_Try hA hS ?_
        clear hA hS; intro w hS
        have hK : Keeps (cxAll w0) [cBox b1 [s1, s2]] [fRd [s3] (l : List Int), fRd [s1] (h.Bytes : List Int), fRd [s2] (h.Class : List Int)] w := ⟨_, (hS.sel [0] rfl).selR [0, 1, 2] rfl⟩
        refine any_v 0 (by kernel_rfl) rfl (by kernel_rfl) (by kernel_rfl) hK (fun w hk => by obtain ⟨_, hS⟩ := hk; exact (rv_loadN rfl rfl Try.isAgg32 Try.sizeOf32 rfl (hS.cells 0 0 (cs' := [s1, s2]) rfl rfl))) (want_yes rfl) rfl rfl ?_
        refine any_v 1 (by kernel_rfl) rfl (by kernel_rfl) (by kernel_rfl) hK (fun _ _ => (rv_move rfl rfl)) (want_yes rfl) rfl rfl ?_
        refine any_v 2 (by kernel_rfl) rfl (by kernel_rfl) (by kernel_rfl) hK (fun _ _ => (rv_move rfl rfl)) (want_yes rfl) rfl rfl ?_
        obtain ⟨x4, hx4, hG1⟩ := bindE hG1
        refine any_v 3 (by kernel_rfl) rfl (by kernel_rfl) (by kernel_rfl) hK (fun w hk => by obtain ⟨_, hS⟩ := hk; exact (rv_idx (m := 1) (hS.rd 0 rfl) rfl hx4 Try.underlying22 Try.sizeOf3 rfl rfl rfl)) (want_yes rfl) rfl rfl ?_
        refine any_v 4 (by kernel_rfl) rfl (by kernel_rfl) (by kernel_rfl) hK (fun w hk => by obtain ⟨_, hS⟩ := hk; exact (rv_load1 rfl rfl Try.isAgg3 (cell1 (el_Int (hS.rd 0 rfl) (idx_some hx4).2.2)))) (want_yes rfl) rfl rfl ?_
        refine any_v 6 (by kernel_rfl) rfl (by kernel_rfl) (by kernel_rfl) hK (fun _ _ => (rv_move rfl rfl)) (want_yes rfl) rfl rfl ?_
        refine any_1 (i := 5) (by kernel_rfl) ?_
        obtain ⟨x5, hx5, hG1⟩ := bindE hG1
        refine as_c rfl (rc_call Try.call58 rfl rfl) (want_yes rfl) rfl rfl (c_spec_l7Class (h := h) (slot := x4) (hS.rd 1 rfl) (hS.rd 2 rfl) hx5) ?_
        clear hK; rintro _ w ⟨rfl, hk⟩
        replace hS := hS.after hk; clear hk
        have hK : Keeps (cxAll w0) [cBox b1 [s1, s2]] [fRd [s3] (l : List Int), fRd [s1] (h.Bytes : List Int), fRd [s2] (h.Class : List Int)] w := ⟨_, (hS.sel [0] rfl).selR [0, 1, 2] rfl⟩
        refine ⟨hK, ?_⟩
        refine any_v 7 (by kernel_rfl) rfl (by kernel_rfl) (by kernel_rfl) hK (fun _ _ => (rv_neq rfl rfl rfl)) (want_yes rfl) rfl rfl ?_
        refine any_v 8 (by kernel_rfl) rfl (by kernel_rfl) (by kernel_rfl) hK (fun _ _ => (rv_move rfl rfl)) (want_yes rfl) rfl rfl ?_
        refine any_case (s := 22) rfl (fun hc3 => ?_) (fun hc3 => ?_)
        · replace hG1 := iteT hc3 hG1
          refine any_off 9 (by kernel_rfl) rfl (by kernel_rfl) (by kernel_rfl) hK (want_if rfl rfl rfl (by rw [hc3]; rfl)) rfl rfl ?_
          refine any_off 10 (by kernel_rfl) rfl (by kernel_rfl) (by kernel_rfl) hK (want_if rfl rfl rfl (by rw [hc3]; rfl)) rfl rfl ?_
          refine any_off 11 (by kernel_rfl) rfl (by kernel_rfl) (by kernel_rfl) hK (want_if rfl rfl rfl (by rw [hc3]; rfl)) rfl rfl ?_
          refine any_off 12 (by kernel_rfl) rfl (by kernel_rfl) (by kernel_rfl) hK (want_if rfl rfl rfl (by rw [hc3]; rfl)) rfl rfl ?_
          refine any_off 13 (by kernel_rfl) rfl (by kernel_rfl) (by kernel_rfl) hK (want_if rfl rfl rfl (by rw [hc3]; rfl)) rfl rfl ?_
          refine any_off 14 (by kernel_rfl) rfl (by kernel_rfl) (by kernel_rfl) hK (want_if rfl rfl rfl (by rw [hc3]; rfl)) rfl rfl ?_
          refine any_off 15 (by kernel_rfl) rfl (by kernel_rfl) (by kernel_rfl) hK (want_if rfl rfl rfl (by rw [hc3]; rfl)) rfl rfl ?_
          refine any_v 16 (by kernel_rfl) rfl (by kernel_rfl) (by kernel_rfl) hK (fun _ _ => (rv_pick_t rfl rfl hc3 rfl)) (want_yes rfl) rfl rfl ?_
          refine any_done (by kernel_rfl) ?_
          intro a hA
          exact ⟨true, hG1, hA.part ⟨rfl, rfl, rfl, rfl, rfl, trivial⟩, ((hS).sel [0] rfl).selR [0, 1, 2] rfl⟩
        · replace hG1 := iteF hc3 hG1
          refine any_v 9 (by kernel_rfl) rfl (by kernel_rfl) (by kernel_rfl) hK (fun w hk => by obtain ⟨_, hS⟩ := hk; exact (rv_loadN rfl rfl Try.isAgg32 Try.sizeOf32 rfl (hS.cells 0 0 (cs' := [s1, s2]) rfl rfl))) (want_if rfl rfl rfl (by rw [hc3]; rfl)) rfl rfl ?_
          refine any_v 10 (by kernel_rfl) rfl (by kernel_rfl) (by kernel_rfl) hK (fun _ _ => (rv_move rfl rfl)) (want_if rfl rfl rfl (by rw [hc3]; rfl)) rfl rfl ?_
          refine any_v 11 (by kernel_rfl) rfl (by kernel_rfl) (by kernel_rfl) hK (fun _ _ => (rv_move rfl rfl)) (want_if rfl rfl rfl (by rw [hc3]; rfl)) rfl rfl ?_
          obtain ⟨x6, hx6, hG1⟩ := bindE hG1
          refine any_v 12 (by kernel_rfl) rfl (by kernel_rfl) (by kernel_rfl) hK (fun w hk => by obtain ⟨_, hS⟩ := hk; exact (rv_idx (m := 1) (hS.rd 0 rfl) rfl hx6 Try.underlying22 Try.sizeOf3 rfl rfl rfl)) (want_if rfl rfl rfl (by rw [hc3]; rfl)) rfl rfl ?_
          refine any_v 13 (by kernel_rfl) rfl (by kernel_rfl) (by kernel_rfl) hK (fun w hk => by obtain ⟨_, hS⟩ := hk; exact (rv_load1 rfl rfl Try.isAgg3 (cell1 (el_Int (hS.rd 0 rfl) (idx_some hx6).2.2)))) (want_if rfl rfl rfl (by rw [hc3]; rfl)) rfl rfl ?_
          refine any_1 (i := 14) (by kernel_rfl) ?_
          obtain ⟨x7, hx7, hG1⟩ := bindE hG1
          refine as_c rfl (rc_call Try.call59 rfl rfl) (want_if rfl rfl rfl (by rw [hc3]; rfl)) rfl rfl (c_spec_l7Gen (h := h) (slot := x6) (hS.rd 1 rfl) (hS.rd 2 rfl) hx7) ?_
          clear hK; rintro _ w ⟨rfl, hk⟩
          replace hS := hS.after hk; clear hk
          have hK : Keeps (cxAll w0) [cBox b1 [s1, s2]] [fRd [s3] (l : List Int), fRd [s1] (h.Bytes : List Int), fRd [s2] (h.Class : List Int)] w := ⟨_, (hS.sel [0] rfl).selR [0, 1, 2] rfl⟩
          refine ⟨hK, ?_⟩
          refine any_v 15 (by kernel_rfl) rfl (by kernel_rfl) (by kernel_rfl) hK (fun _ _ => (rv_gtr rfl rfl rfl)) (want_if rfl rfl rfl (by rw [hc3]; rfl)) rfl rfl ?_
          refine any_v 16 (by kernel_rfl) rfl (by kernel_rfl) (by kernel_rfl) hK (fun _ _ => (rv_pick_f rfl rfl hc3 rfl)) (want_yes rfl) rfl rfl ?_
          refine any_done (by kernel_rfl) ?_
          intro a hA
          exact ⟨decide (6 < x7), hG1, hA.part ⟨rfl, rfl, rfl, rfl, rfl, trivial⟩, ((hS).sel [0] rfl).selR [0, 1, 2] rfl⟩
      · skip
        clear hA hS hG1
        rintro a w ⟨x3, hG1, hA, hS⟩
        unfold spec_l9Listed_j2 at hG1
        refine cw_cond hA rfl (fun hc2 => ?_) (fun hc2 => ?_)
        · replace hG1 := iteT hc2 hG1
          refine cw_seq ?_
          refine cw_ops hA ?_
          clear hA
          refine ops_v (rv_assign rfl rfl) (want_yes rfl) rfl rfl ?_
          refine ops_nil ?_
          intro a hA
          refine cw_ret ?_
          cases hG1
          have ho := hr1 _ rfl; subst ho
          replace hF : some false = some r := hF
          cases hF
          exact fin1 Try.results34 hA (res_tmp rfl) ⟨rfl, (hS.sel [] rfl).weaken (R' := []) (fun _ h => nomatch h)⟩
        · replace hG1 := iteF hc2 hG1
          refine cw_skip ?_
          refine cw_ops hA ?_
          clear hA
          refine ops_v (rv_move rfl rfl) (want_yes rfl) rfl rfl ?_
          refine ops_v (rv_add rfl rfl rfl) (want_yes rfl) rfl rfl ?_
          refine ops_v (rv_assign rfl rfl) (want_yes rfl) rfl rfl ?_
          refine ops_nil ?_
          intro a hA
          cases hG1
          exact ⟨_, rfl, ⟨hA.part ⟨rfl, rfl, rfl, rfl, trivial⟩, ((hS).sel [0] rfl).selR [0, 1, 2] rfl⟩⟩
    · replace hG1 := iteF hc1 hG1
      refine cw_exit ?_
      refine xcons_hit ?_
      cases hG1
      have ho := hr1 _ rfl; subst ho
      exact ⟨rfl, hA.part trivial, ((hS).sel [] rfl).selR [] rfl⟩
  · skip
    clear hA hS hl1
    rintro a w ⟨heq, hA, hS⟩
    replace hF : spec_l9Listed_j1 = some r := by rw [heq] at hF; exact hF
    clear heq
    unfold spec_l9Listed_j1 at hF
    refine cw_seq ?_
    refine cw_ops hA ?_
    clear hA
    refine ops_v (rv_assign rfl rfl) (want_yes rfl) rfl rfl ?_
    refine ops_nil ?_
    intro a hA
    refine cw_ret ?_
    cases hF
    exact fin1 Try.results34 hA (res_tmp rfl) ⟨rfl, (hS.sel [] rfl).weaken (R' := []) (fun _ h => nomatch h)⟩

set_option maxHeartbeats 4000000 in
set_option maxRecDepth 100000 in
theorem c_spec_OwnAt {w0 : World} {w_ : Int} {c : Int}  {r : Int}  (hF : spec_OwnAt w_ c = some r) :
    Calls Try.prog 35 #[.int .i64 (w_), .int .i64 (c)] w0 (Ret fun v w' => v = .int .i64 (r) ∧ St (cxAll w0) w' [] []) := by
  have hS : St (cxAll w0) w0 [] [] := St.enter (by
    intro f hf; cases hf)
  refine calls_cw (args := [_, _]) Try.func35 rfl Try.ntmps35 rfl ?_
  unfold spec_OwnAt at hF
  intro a hA
  refine cw_seq ?_
  refine cw_ops hA ?_
  clear hA
  refine ops_v (rv_assign rfl rfl) (want_yes rfl) rfl rfl ?_
  refine ops_nil ?_
  intro a hA
  refine cw_seq ?_
  refine cw_seq ?_
  refine cw_cut (J := fun a' w' => ∃ (x1 : Bool), spec_OwnAt_j1 w_ c x1 = some r ∧ AEnv 17 [(0, .int .i64 (w_)), (1, .int .i64 (c)), (12, .bool (x1))] a' ∧ St (cxAll w0) w' [] []) ?_ ?_
  · skip
    refine cw_ops hA ?_
    clear hA
    refine ops_v (rv_move rfl rfl) (want_yes rfl) rfl rfl ?_
    obtain ⟨x2, hx2, hF⟩ := bindE hF
    refine ops_c (rc_call Try.call56 rfl rfl) (want_yes rfl) rfl rfl (c_spec_l1In (x := w_) (low := 0) (high := 2)  hx2) ?_
    rintro _ w ⟨rfl, hk⟩
    replace hS := hS.after hk; clear hk
    refine ops_v (rv_not rfl rfl) (want_yes rfl) rfl rfl ?_
    refine ops_v (rv_move rfl rfl) (want_yes rfl) rfl rfl ?_
    refine ops_case (s := 8) rfl (fun hc2 => ?_) (fun hc2 => ?_)
    · replace hF := iteT hc2 hF
      refine ops_off (want_if rfl rfl rfl (by rw [hc2]; rfl)) rfl rfl ?_
      refine ops_off (want_if rfl rfl rfl (by rw [hc2]; rfl)) rfl rfl ?_
      refine ops_off (want_if rfl rfl rfl (by rw [hc2]; rfl)) rfl rfl ?_
      refine ops_v (rv_pick_t rfl rfl hc2 rfl) (want_yes rfl) rfl rfl ?_
      refine ops_nil ?_
      intro a hA
      exact ⟨true, hF, hA.part ⟨rfl, rfl, rfl, trivial⟩, ((hS).sel [] rfl).selR [] rfl⟩
    · replace hF := iteF hc2 hF
      refine ops_v (rv_move rfl rfl) (want_if rfl rfl rfl (by rw [hc2]; rfl)) rfl rfl ?_
      obtain ⟨x3, hx3, hF⟩ := bindE hF
      refine ops_c (rc_call Try.call56 rfl rfl) (want_if rfl rfl rfl (by rw [hc2]; rfl)) rfl rfl (c_spec_l1In (x := c) (low := 0) (high := 2)  hx3) ?_
      rintro _ w ⟨rfl, hk⟩
      replace hS := hS.after hk; clear hk
      refine ops_v (rv_not rfl rfl) (want_if rfl rfl rfl (by rw [hc2]; rfl)) rfl rfl ?_
      refine ops_v (rv_pick_f rfl rfl hc2 rfl) (want_yes rfl) rfl rfl ?_
      refine ops_nil ?_
      intro a hA
      exact ⟨!x3, hF, hA.part ⟨rfl, rfl, rfl, trivial⟩, ((hS).sel [] rfl).selR [] rfl⟩
  · skip
    clear hA hS hF
    rintro a w ⟨x1, hF, hA, hS⟩
    unfold spec_OwnAt_j1 at hF
    refine cw_cond hA rfl (fun hc1 => ?_) (fun hc1 => ?_)
    · replace hF := iteT hc1 hF
      refine cw_seq ?_
      refine cw_ops hA ?_
      clear hA
      refine ops_v (rv_assign rfl rfl) (want_yes rfl) rfl rfl ?_
      refine ops_nil ?_
      intro a hA
      refine cw_ret ?_
      cases hF
      exact fin1 Try.results35 hA (res_tmp rfl) ⟨rfl, (hS.sel [] rfl).weaken (R' := []) (fun _ h => nomatch h)⟩
    · replace hF := iteF hc1 hF
      refine cw_skip ?_
      refine cw_seq ?_
      refine cw_ops hA ?_
      clear hA
      refine ops_v (rv_move rfl rfl) (want_yes rfl) rfl rfl ?_
      refine ops_v (rv_mul rfl rfl rfl) (want_yes rfl) rfl rfl ?_
      refine ops_v (rv_move rfl rfl) (want_yes rfl) rfl rfl ?_
      refine ops_v (rv_add rfl rfl rfl) (want_yes rfl) rfl rfl ?_
      refine ops_v (rv_assign rfl rfl) (want_yes rfl) rfl rfl ?_
      refine ops_nil ?_
      intro a hA
      refine cw_ret ?_
      cases hF
      exact fin1 Try.results35 hA (res_tmp rfl) ⟨rfl, (hS.sel [] rfl).weaken (R' := []) (fun _ h => nomatch h)⟩

set_option maxHeartbeats 4000000 in
set_option maxRecDepth 100000 in
theorem c_spec_MemOk {w0 : World} {m : Mem} {s1 : Value} {s2 : Value} {s3 : Value} {s4 : Value} {r : Bool} (h1 : Rep.rd (All w0) w0 [s1] (m.Heap.Bytes : List Int)) (h2 : Rep.rd (All w0) w0 [s2] (m.Heap.Class : List Int)) (h3 : Rep.rd (All w0) w0 [s3] (m.Lists.Global : List SList)) (h4 : Rep.rd (All w0) w0 [s4] (m.Lists.Own : List SList)) (hF : spec_MemOk m = some r) :
    Calls Try.prog 16 #[.agg #[s1, s2, s3, s4]] w0 (Ret fun v w' => v = .bool (r) ∧ St (cxAll w0) w' [] []) := by
  have hS : St (cxAll w0) w0 [] [fRd [s1] (m.Heap.Bytes : List Int), fRd [s2] (m.Heap.Class : List Int), fRd [s3] (m.Lists.Global : List SList), fRd [s4] (m.Lists.Own : List SList)] := St.enter (by
    intro f hf
    simp only [List.mem_cons, List.not_mem_nil, or_false] at hf
    rcases hf with rfl | rfl | rfl | rfl
    · exact h1
    · exact h2
    · exact h3
    · exact h4)
  refine calls_cw (args := [_]) Try.func16 rfl Try.ntmps16 rfl ?_
  unfold spec_MemOk at hF
  intro a hA
  refine cw_seq ?_
  refine cw_ops hA ?_
  clear hA
  refine ops_mv (rv_box (cs := [s1, s2, s3, s4]) hS rfl rfl rfl) (want_yes rfl) rfl rfl ?_
  clear hS
  rintro _ w ⟨b1, rfl, hS⟩
  refine ops_v (rv_assign rfl rfl) (want_yes rfl) rfl rfl ?_
  refine ops_nil ?_
  intro a hA
  refine cw_seq ?_
  refine cw_seq ?_
  refine cw_cut (J := fun a' w' => ∃ (x1 : Bool), spec_MemOk_j1 m x1 = some r ∧ AEnv 49 [(1, .pointer (some ⟨b1, 0, none⟩)), (14, .bool (x1))] a' ∧ St (cxAll w0) w' [cBox b1 [s1, s2, s3, s4]] [fRd [s1] (m.Heap.Bytes : List Int), fRd [s2] (m.Heap.Class : List Int), fRd [s3] (m.Lists.Global : List SList), fRd [s4] (m.Lists.Own : List SList)]) ?_ ?_
  · skip
    refine cw_ops hA ?_
    clear hA
    refine ops_v (rv_fld (m := 1) Try.underlying37 rfl rfl Try.sizeOf32 rfl rfl) (want_yes rfl) rfl rfl ?_
    refine ops_v (rv_loadN rfl rfl Try.isAgg32 Try.sizeOf32 rfl (hS.cells 0 0 (cs' := [s1, s2]) rfl rfl)) (want_yes rfl) rfl rfl ?_
    obtain ⟨x11, hx11, hF⟩ := bindE hF
    refine ops_c (rc_call Try.call32 rfl rfl) (want_yes rfl) rfl rfl (c_spec_HeapOk (h := m.Heap) (hS.rd 0 rfl) (hS.rd 1 rfl) hx11) ?_
    rintro _ w ⟨rfl, hk⟩
    replace hS := hS.after hk; clear hk
    refine ops_v (rv_not rfl rfl) (want_yes rfl) rfl rfl ?_
    refine ops_v (rv_move rfl rfl) (want_yes rfl) rfl rfl ?_
    refine ops_case (s := 9) rfl (fun hc6 => ?_) (fun hc6 => ?_)
    · replace hF := iteT hc6 hF
      refine ops_off (want_if rfl rfl rfl (by rw [hc6]; rfl)) rfl rfl ?_
      refine ops_off (want_if rfl rfl rfl (by rw [hc6]; rfl)) rfl rfl ?_
      refine ops_off (want_if rfl rfl rfl (by rw [hc6]; rfl)) rfl rfl ?_
      refine ops_off (want_if rfl rfl rfl (by rw [hc6]; rfl)) rfl rfl ?_
      refine ops_v (rv_pick_t rfl rfl hc6 rfl) (want_yes rfl) rfl rfl ?_
      refine ops_nil ?_
      intro a hA
      exact ⟨true, hF, hA.part ⟨rfl, rfl, trivial⟩, ((hS).sel [0] rfl).selR [0, 1, 2, 3] rfl⟩
    · replace hF := iteF hc6 hF
      refine ops_v (rv_fld (m := 1) Try.underlying37 rfl rfl Try.sizeOf35 rfl rfl) (want_if rfl rfl rfl (by rw [hc6]; rfl)) rfl rfl ?_
      refine ops_v (rv_loadN rfl rfl Try.isAgg35 Try.sizeOf35 rfl (hS.cells 0 2 (cs' := [s3, s4]) rfl rfl)) (want_if rfl rfl rfl (by rw [hc6]; rfl)) rfl rfl ?_
      obtain ⟨x12, hx12, hF⟩ := bindE hF
      refine ops_c (rc_call Try.call33 rfl rfl) (want_if rfl rfl rfl (by rw [hc6]; rfl)) rfl rfl (c_spec_ListsOk (l := m.Lists) (hS.rd 2 rfl) (hS.rd 3 rfl) hx12) ?_
      rintro _ w ⟨rfl, hk⟩
      replace hS := hS.after hk; clear hk
      refine ops_v (rv_not rfl rfl) (want_if rfl rfl rfl (by rw [hc6]; rfl)) rfl rfl ?_
      refine ops_v (rv_pick_f rfl rfl hc6 rfl) (want_yes rfl) rfl rfl ?_
      refine ops_nil ?_
      intro a hA
      exact ⟨!x12, hF, hA.part ⟨rfl, rfl, trivial⟩, ((hS).sel [0] rfl).selR [0, 1, 2, 3] rfl⟩
  · skip
    clear hA hS hF
    rintro a w ⟨x1, hF, hA, hS⟩
    unfold spec_MemOk_j1 at hF
    refine cw_cond hA rfl (fun hc1 => ?_) (fun hc1 => ?_)
    · replace hF := iteT hc1 hF
      refine cw_seq ?_
      refine cw_ops hA ?_
      clear hA
      refine ops_v (rv_assign rfl rfl) (want_yes rfl) rfl rfl ?_
      refine ops_nil ?_
      intro a hA
      refine cw_ret ?_
      cases hF
      exact fin1 Try.results16 hA (res_tmp rfl) ⟨rfl, (hS.sel [] rfl).weaken (R' := []) (fun _ h => nomatch h)⟩
    · replace hF := iteF hc1 hF
      refine cw_skip ?_
      refine cw_seq ?_
      refine cw_seq ?_
      refine cw_ops hA ?_
      clear hA
      refine ops_v (rv_assign rfl rfl) (want_yes rfl) rfl rfl ?_
      refine ops_nil ?_
      intro a hA
      obtain ⟨o1, hl1, hF⟩ := bindE hF
      refine cw_cut (J := fun a' w' => o1 = Out.brk (()) ∧ AEnv 49 [] a' ∧ St (cxAll w0) w' [] []) ?_ ?_
      · refine cw_block ?_
        refine cw_loop (body := spec_MemOk_l2 m) (r := o1) (fun sg a' w' => AEnv 49 [(1, .pointer (some ⟨b1, 0, none⟩)), (3, .int .i64 (sg))] a' ∧ St (cxAll w0) w' [cBox b1 [s1, s2, s3, s4]] [fRd [s1] (m.Heap.Bytes : List Int), fRd [s2] (m.Heap.Class : List Int), fRd [s3] (m.Lists.Global : List SList), fRd [s4] (m.Lists.Own : List SList)]) ?_ hl1 ⟨hA.part ⟨rfl, rfl, trivial⟩, ((hS).sel [0] rfl).selR [0, 1, 2, 3] rfl⟩
        clear hA hS hl1
        rintro x3 a w q2 ⟨hA, hS⟩ hG2 hr2
        try dsimp only at hA hS
        unfold spec_MemOk_l2 at hG2
        refine cw_seq ?_
        refine cw_seq ?_
        refine cw_ops hA ?_
        clear hA
        refine ops_v (rv_move rfl rfl) (want_yes rfl) rfl rfl ?_
        refine ops_v (rv_lss rfl rfl rfl) (want_yes rfl) rfl rfl ?_
        refine ops_nil ?_
        intro a hA
        refine cw_cond hA rfl (fun hc2 => ?_) (fun hc2 => ?_)
        · replace hG2 := iteT hc2 hG2
          refine cw_skip ?_
          refine cw_seq ?_
          refine cw_block ?_
          refine cw_seq ?_
          refine cw_seq ?_
          refine cw_any (Keeps (cxAll w0) [cBox b1 [s1, s2, s3, s4]] [fRd [s1] (m.Heap.Bytes : List Int), fRd [s2] (m.Heap.Class : List Int), fRd [s3] (m.Lists.Global : List SList), fRd [s4] (m.Lists.Own : List SList)]) mixed_Try hA hS ?_
          clear hA hS; intro w hS
          have hK : Keeps (cxAll w0) [cBox b1 [s1, s2, s3, s4]] [fRd [s1] (m.Heap.Bytes : List Int), fRd [s2] (m.Heap.Class : List Int), fRd [s3] (m.Lists.Global : List SList), fRd [s4] (m.Lists.Own : List SList)] w := ⟨_, (hS.sel [0] rfl).selR [0, 1, 2, 3] rfl⟩
          refine any_v 0 (by kernel_rfl) rfl (by kernel_rfl) (by kernel_rfl) hK (fun _ _ => (rv_fld (m := 1) Try.underlying37 rfl rfl Try.sizeOf32 rfl rfl)) (want_yes rfl) rfl rfl ?_
          refine any_v 1 (by kernel_rfl) rfl (by kernel_rfl) (by kernel_rfl) hK (fun w hk => by obtain ⟨_, hS⟩ := hk; exact (rv_loadN rfl rfl Try.isAgg32 Try.sizeOf32 rfl (hS.cells 0 0 (cs' := [s1, s2]) rfl rfl))) (want_yes rfl) rfl rfl ?_
          refine any_v 2 (by kernel_rfl) rfl (by kernel_rfl) (by kernel_rfl) hK (fun _ _ => (rv_fld (m := 1) Try.underlying37 rfl rfl Try.sizeOf35 rfl rfl)) (want_yes rfl) rfl rfl ?_
          refine any_v 3 (by kernel_rfl) rfl (by kernel_rfl) (by kernel_rfl) hK (fun _ _ => (rv_fld (m := 0) Try.underlying35 rfl rfl Try.sizeOf33 rfl rfl)) (want_yes rfl) rfl rfl ?_
          refine any_v 4 (by kernel_rfl) rfl (by kernel_rfl) (by kernel_rfl) hK (fun w hk => by obtain ⟨_, hS⟩ := hk; exact (rv_load1 rfl rfl Try.isAgg33 (hS.cell 0 rfl rfl))) (want_yes rfl) rfl rfl ?_
          refine any_v 5 (by kernel_rfl) rfl (by kernel_rfl) (by kernel_rfl) hK (fun _ _ => (rv_move rfl rfl)) (want_yes rfl) rfl rfl ?_
          obtain ⟨x4, hx4, hG2⟩ := bindE hG2
          refine any_v 6 (by kernel_rfl) rfl (by kernel_rfl) (by kernel_rfl) hK (fun w hk => by obtain ⟨_, hS⟩ := hk; exact (rv_idx (m := 1) (hS.rd 2 rfl) rfl hx4 Try.underlying33 Try.sizeOf53 rfl rfl rfl)) (want_yes rfl) rfl rfl ?_
          refine any_v 7 (by kernel_rfl) rfl (by kernel_rfl) (by kernel_rfl) hK (fun _ _ => (rv_fld (m := 0) Try.underlying53 rfl rfl Try.sizeOf22 rfl rfl)) (want_yes rfl) rfl rfl ?_
          refine any_v 9 (by kernel_rfl) rfl (by kernel_rfl) (by kernel_rfl) hK (fun _ _ => (rv_move rfl rfl)) (want_yes rfl) rfl rfl ?_
          refine any_1 (i := 8) (by kernel_rfl) ?_
          obtain ⟨s5, hel, hS⟩ := hS.el_SList 2 rfl (idx_some hx4).2.2
          refine as_v rfl (rv_load1 rfl rfl Try.isAgg22 (cell1 (CellsAt.sub (cs' := [s5]) hel 0 rfl rfl))) (want_yes rfl) rfl rfl hK ?_
          refine any_1 (i := 10) (by kernel_rfl) ?_
          obtain ⟨x5, hx5, hG2⟩ := bindE hG2
          refine as_c rfl (rc_call Try.call34 rfl rfl) (want_yes rfl) rfl rfl (c_spec_l9Listed (h := m.Heap) (l := x4.Slots) (c := x3) (hS.rd 0 rfl) (hS.rd 1 rfl) (hS.rd 4 rfl) hx5) ?_
          clear hK; rintro _ w ⟨rfl, hk⟩
          replace hS := hS.after hk; clear hk
          have hK : Keeps (cxAll w0) [cBox b1 [s1, s2, s3, s4]] [fRd [s1] (m.Heap.Bytes : List Int), fRd [s2] (m.Heap.Class : List Int), fRd [s3] (m.Lists.Global : List SList), fRd [s4] (m.Lists.Own : List SList)] w := ⟨_, (hS.sel [0] rfl).selR [0, 1, 2, 3] rfl⟩
          refine ⟨hK, ?_⟩
          refine any_v 11 (by kernel_rfl) rfl (by kernel_rfl) (by kernel_rfl) hK (fun _ _ => (rv_not rfl rfl)) (want_yes rfl) rfl rfl ?_
          refine any_done (by kernel_rfl) ?_
          intro a hA
          refine cw_cond hA rfl (fun hc3 => ?_) (fun hc3 => ?_)
          · replace hG2 := iteT hc3 hG2
            refine cw_seq ?_
            refine cw_ops hA ?_
            clear hA
            refine ops_v (rv_assign rfl rfl) (want_yes rfl) rfl rfl ?_
            refine ops_nil ?_
            intro a hA
            refine cw_ret ?_
            cases hG2
            have ho := hr2 _ rfl; subst ho
            replace hF : some false = some r := hF
            cases hF
            exact fin1 Try.results16 hA (res_tmp rfl) ⟨rfl, (hS.sel [] rfl).weaken (R' := []) (fun _ h => nomatch h)⟩
          · replace hG2 := iteF hc3 hG2
            refine cw_skip ?_
            refine cw_seq ?_
            refine cw_ops hA ?_
            clear hA
            refine ops_v (rv_assign rfl rfl) (want_yes rfl) rfl rfl ?_
            refine ops_nil ?_
            intro a hA
            obtain ⟨o2, hl2, hG2⟩ := bindE hG2
            refine cw_cut (J := fun a' w' => o2 = Out.brk (()) ∧ AEnv 49 [(1, .pointer (some ⟨b1, 0, none⟩)), (3, .int .i64 (x3))] a' ∧ St (cxAll w0) w' [cBox b1 [s1, s2, s3, s4]] [fRd [s1] (m.Heap.Bytes : List Int), fRd [s2] (m.Heap.Class : List Int), fRd [s3] (m.Lists.Global : List SList), fRd [s4] (m.Lists.Own : List SList)]) ?_ ?_
            · refine cw_block ?_
              refine cw_loop (body := spec_MemOk_l3 m x3) (r := o2) (fun sg a' w' => AEnv 49 [(1, .pointer (some ⟨b1, 0, none⟩)), (3, .int .i64 (x3)), (4, .int .i64 (sg))] a' ∧ St (cxAll w0) w' [cBox b1 [s1, s2, s3, s4]] [fRd [s1] (m.Heap.Bytes : List Int), fRd [s2] (m.Heap.Class : List Int), fRd [s3] (m.Lists.Global : List SList), fRd [s4] (m.Lists.Own : List SList)]) ?_ hl2 ⟨hA.part ⟨rfl, rfl, rfl, trivial⟩, ((hS).sel [0] rfl).selR [0, 1, 2, 3] rfl⟩
              clear hA hS hl2
              rintro x7 a w q3 ⟨hA, hS⟩ hG3 hr3
              try dsimp only at hA hS
              unfold spec_MemOk_l3 at hG3
              refine cw_seq ?_
              refine cw_seq ?_
              refine cw_ops hA ?_
              clear hA
              refine ops_v (rv_move rfl rfl) (want_yes rfl) rfl rfl ?_
              refine ops_v (rv_lss rfl rfl rfl) (want_yes rfl) rfl rfl ?_
              refine ops_nil ?_
              intro a hA
              refine cw_cond hA rfl (fun hc4 => ?_) (fun hc4 => ?_)
              · replace hG3 := iteT hc4 hG3
                refine cw_skip ?_
                refine cw_seq ?_
                refine cw_block ?_
                refine cw_seq ?_
                refine cw_any (Keeps (cxAll w0) [cBox b1 [s1, s2, s3, s4]] [fRd [s1] (m.Heap.Bytes : List Int), fRd [s2] (m.Heap.Class : List Int), fRd [s3] (m.Lists.Global : List SList), fRd [s4] (m.Lists.Own : List SList)]) mixed_Try hA hS ?_
                clear hA hS; intro w hS
                have hK : Keeps (cxAll w0) [cBox b1 [s1, s2, s3, s4]] [fRd [s1] (m.Heap.Bytes : List Int), fRd [s2] (m.Heap.Class : List Int), fRd [s3] (m.Lists.Global : List SList), fRd [s4] (m.Lists.Own : List SList)] w := ⟨_, (hS.sel [0] rfl).selR [0, 1, 2, 3] rfl⟩
                refine any_v 0 (by kernel_rfl) rfl (by kernel_rfl) (by kernel_rfl) hK (fun _ _ => (rv_fld (m := 1) Try.underlying37 rfl rfl Try.sizeOf32 rfl rfl)) (want_yes rfl) rfl rfl ?_
                refine any_v 1 (by kernel_rfl) rfl (by kernel_rfl) (by kernel_rfl) hK (fun w hk => by obtain ⟨_, hS⟩ := hk; exact (rv_loadN rfl rfl Try.isAgg32 Try.sizeOf32 rfl (hS.cells 0 0 (cs' := [s1, s2]) rfl rfl))) (want_yes rfl) rfl rfl ?_
                refine any_v 2 (by kernel_rfl) rfl (by kernel_rfl) (by kernel_rfl) hK (fun _ _ => (rv_fld (m := 1) Try.underlying37 rfl rfl Try.sizeOf35 rfl rfl)) (want_yes rfl) rfl rfl ?_
                refine any_v 3 (by kernel_rfl) rfl (by kernel_rfl) (by kernel_rfl) hK (fun _ _ => (rv_fld (m := 0) Try.underlying35 rfl rfl Try.sizeOf33 rfl rfl)) (want_yes rfl) rfl rfl ?_
                refine any_v 4 (by kernel_rfl) rfl (by kernel_rfl) (by kernel_rfl) hK (fun w hk => by obtain ⟨_, hS⟩ := hk; exact (rv_load1 rfl rfl Try.isAgg33 (hS.cell 0 rfl rfl))) (want_yes rfl) rfl rfl ?_
                refine any_v 5 (by kernel_rfl) rfl (by kernel_rfl) (by kernel_rfl) hK (fun _ _ => (rv_move rfl rfl)) (want_yes rfl) rfl rfl ?_
                refine any_v 6 (by kernel_rfl) rfl (by kernel_rfl) (by kernel_rfl) hK (fun _ _ => (rv_move rfl rfl)) (want_yes rfl) rfl rfl ?_
                refine any_v 11 (by kernel_rfl) rfl (by kernel_rfl) (by kernel_rfl) hK (fun _ _ => (rv_move rfl rfl)) (want_yes rfl) rfl rfl ?_
                refine any_1 (i := 7) (by kernel_rfl) ?_
                obtain ⟨x8, hx8, hG3⟩ := bindE hG3
                refine as_c rfl (rc_call Try.call35 rfl rfl) (want_yes rfl) rfl rfl (c_spec_OwnAt (w_ := x7) (c := x3)  hx8) ?_
                clear hK; rintro _ w ⟨rfl, hk⟩
                replace hS := hS.after hk; clear hk
                have hK : Keeps (cxAll w0) [cBox b1 [s1, s2, s3, s4]] [fRd [s1] (m.Heap.Bytes : List Int), fRd [s2] (m.Heap.Class : List Int), fRd [s3] (m.Lists.Global : List SList), fRd [s4] (m.Lists.Own : List SList)] w := ⟨_, (hS.sel [0] rfl).selR [0, 1, 2, 3] rfl⟩
                refine ⟨hK, ?_⟩
                obtain ⟨x9, hx9, hG3⟩ := bindE hG3
                refine any_v 8 (by kernel_rfl) rfl (by kernel_rfl) (by kernel_rfl) hK (fun w hk => by obtain ⟨_, hS⟩ := hk; exact (rv_idx (m := 1) (hS.rd 3 rfl) rfl hx9 Try.underlying33 Try.sizeOf53 rfl rfl rfl)) (want_yes rfl) rfl rfl ?_
                refine any_v 9 (by kernel_rfl) rfl (by kernel_rfl) (by kernel_rfl) hK (fun _ _ => (rv_fld (m := 0) Try.underlying53 rfl rfl Try.sizeOf22 rfl rfl)) (want_yes rfl) rfl rfl ?_
                refine any_1 (i := 10) (by kernel_rfl) ?_
                obtain ⟨s6, hel, hS⟩ := hS.el_SList 3 rfl (idx_some hx9).2.2
                refine as_v rfl (rv_load1 rfl rfl Try.isAgg22 (cell1 (CellsAt.sub (cs' := [s6]) hel 0 rfl rfl))) (want_yes rfl) rfl rfl hK ?_
                refine any_1 (i := 12) (by kernel_rfl) ?_
                obtain ⟨x10, hx10, hG3⟩ := bindE hG3
                refine as_c rfl (rc_call Try.call34 rfl rfl) (want_yes rfl) rfl rfl (c_spec_l9Listed (h := m.Heap) (l := x9.Slots) (c := x3) (hS.rd 0 rfl) (hS.rd 1 rfl) (hS.rd 4 rfl) hx10) ?_
                clear hK; rintro _ w ⟨rfl, hk⟩
                replace hS := hS.after hk; clear hk
                have hK : Keeps (cxAll w0) [cBox b1 [s1, s2, s3, s4]] [fRd [s1] (m.Heap.Bytes : List Int), fRd [s2] (m.Heap.Class : List Int), fRd [s3] (m.Lists.Global : List SList), fRd [s4] (m.Lists.Own : List SList)] w := ⟨_, (hS.sel [0] rfl).selR [0, 1, 2, 3] rfl⟩
                refine ⟨hK, ?_⟩
                refine any_v 13 (by kernel_rfl) rfl (by kernel_rfl) (by kernel_rfl) hK (fun _ _ => (rv_not rfl rfl)) (want_yes rfl) rfl rfl ?_
                refine any_done (by kernel_rfl) ?_
                intro a hA
                refine cw_cond hA rfl (fun hc5 => ?_) (fun hc5 => ?_)
                · replace hG3 := iteT hc5 hG3
                  refine cw_seq ?_
                  refine cw_ops hA ?_
                  clear hA
                  refine ops_v (rv_assign rfl rfl) (want_yes rfl) rfl rfl ?_
                  refine ops_nil ?_
                  intro a hA
                  refine cw_ret ?_
                  cases hG3
                  have ho := hr3 _ rfl; subst ho
                  replace hG2 : some (.stop (Out.ret false)) = some q2 := hG2
                  cases hG2
                  have ho := hr2 _ rfl; subst ho
                  replace hF : some false = some r := hF
                  cases hF
                  exact fin1 Try.results16 hA (res_tmp rfl) ⟨rfl, (hS.sel [] rfl).weaken (R' := []) (fun _ h => nomatch h)⟩
                · replace hG3 := iteF hc5 hG3
                  refine cw_skip ?_
                  refine cw_ops hA ?_
                  clear hA
                  refine ops_v (rv_move rfl rfl) (want_yes rfl) rfl rfl ?_
                  refine ops_v (rv_add rfl rfl rfl) (want_yes rfl) rfl rfl ?_
                  refine ops_v (rv_assign rfl rfl) (want_yes rfl) rfl rfl ?_
                  refine ops_nil ?_
                  intro a hA
                  cases hG3
                  exact ⟨_, rfl, ⟨hA.part ⟨rfl, rfl, rfl, trivial⟩, ((hS).sel [0] rfl).selR [0, 1, 2, 3] rfl⟩⟩
              · replace hG3 := iteF hc4 hG3
                refine cw_exit ?_
                refine xcons_hit ?_
                cases hG3
                have ho := hr3 _ rfl; subst ho
                exact ⟨rfl, hA.part ⟨rfl, rfl, trivial⟩, ((hS).sel [0] rfl).selR [0, 1, 2, 3] rfl⟩
            · skip
              clear hA hS hl2
              rintro a w ⟨heq, hA, hS⟩
              replace hG2 : spec_MemOk_j3 x3 = some q2 := by rw [heq] at hG2; exact hG2
              clear heq
              unfold spec_MemOk_j3 at hG2
              refine cw_ops hA ?_
              clear hA
              refine ops_v (rv_move rfl rfl) (want_yes rfl) rfl rfl ?_
              refine ops_v (rv_add rfl rfl rfl) (want_yes rfl) rfl rfl ?_
              refine ops_v (rv_assign rfl rfl) (want_yes rfl) rfl rfl ?_
              refine ops_nil ?_
              intro a hA
              cases hG2
              exact ⟨_, rfl, ⟨hA.part ⟨rfl, rfl, trivial⟩, ((hS).sel [0] rfl).selR [0, 1, 2, 3] rfl⟩⟩
        · replace hG2 := iteF hc2 hG2
          refine cw_exit ?_
          refine xcons_hit ?_
          cases hG2
          have ho := hr2 _ rfl; subst ho
          exact ⟨rfl, hA.part trivial, ((hS).sel [] rfl).selR [] rfl⟩
      · skip
        clear hA hS hl1
        rintro a w ⟨heq, hA, hS⟩
        replace hF : spec_MemOk_j2 = some r := by rw [heq] at hF; exact hF
        clear heq
        unfold spec_MemOk_j2 at hF
        refine cw_seq ?_
        refine cw_ops hA ?_
        clear hA
        refine ops_v (rv_assign rfl rfl) (want_yes rfl) rfl rfl ?_
        refine ops_nil ?_
        intro a hA
        refine cw_ret ?_
        cases hF
        exact fin1 Try.results16 hA (res_tmp rfl) ⟨rfl, (hS.sel [] rfl).weaken (R' := []) (fun _ h => nomatch h)⟩

set_option maxHeartbeats 4000000 in
set_option maxRecDepth 100000 in
theorem c_spec_Var {w0 : World} {n : Int}  {r : (List UInt8)}  (hF : spec_Var n = some r) :
    Calls Try.prog 36 #[.int .i64 (n)] w0 (Ret fun v w' => v = sv (r) ∧ St (cxAll w0) w' [] []) := by
  have hS : St (cxAll w0) w0 [] [] := St.enter (by
    intro f hf; cases hf)
  refine calls_cw (args := [_]) Try.func36 rfl Try.ntmps36 rfl ?_
  unfold spec_Var at hF
  intro a hA
  refine cw_seq ?_
  refine cw_ops hA ?_
  clear hA
  refine ops_v (rv_assign rfl rfl) (want_yes rfl) rfl rfl ?_
  refine ops_nil ?_
  intro a hA
  refine cw_seq ?_
  refine cw_seq ?_
  refine cw_ops hA ?_
  clear hA
  refine ops_v (rv_move rfl rfl) (want_yes rfl) rfl rfl ?_
  obtain ⟨x1, hx1, hF⟩ := bindE hF
  refine ops_c (rc_call Try.call56 rfl rfl) (want_yes rfl) rfl rfl (c_spec_l1In (x := n) (low := 0) (high := 562949953421311)  hx1) ?_
  rintro _ w ⟨rfl, hk⟩
  replace hS := hS.after hk; clear hk
  refine ops_v (rv_not rfl rfl) (want_yes rfl) rfl rfl ?_
  refine ops_nil ?_
  intro a hA
  refine cw_cond hA rfl (fun hc1 => ?_) (fun hc1 => ?_)
  · replace hF := iteT hc1 hF
    refine cw_seq ?_
    refine cw_ops hA ?_
    clear hA
    refine ops_v (rv_assign rfl rfl) (want_yes rfl) rfl rfl ?_
    refine ops_nil ?_
    intro a hA
    refine cw_ret ?_
    cases hF
    exact fin1 Try.results36 hA (res_tmp rfl) ⟨rfl, (hS.sel [] rfl).weaken (R' := []) (fun _ h => nomatch h)⟩
  · replace hF := iteF hc1 hF
    refine cw_skip ?_
    refine cw_seq ?_
    refine cw_ops hA ?_
    clear hA
    refine ops_mv (rv_lit0 (α := UInt8) hS rfl Try.underlying48 inf_Try5 rfl) (want_yes rfl) rfl rfl ?_
    clear hS
    rintro s1 w hS
    refine ops_v (rv_assign rfl rfl) (want_yes rfl) rfl rfl ?_
    refine ops_nil ?_
    intro a hA
    refine cw_seq ?_
    obtain ⟨o1, hl1, hF⟩ := bindE hF
    refine cw_cut (J := fun a' w' => ∃ (x6 : Int) (x7 : List UInt8) (s4 : Value), o1 = (x6, x7) ∧ AEnv 25 [(0, .int .i64 (x6)), (3, s4)] a' ∧ St (cxAll w0) w' [cOwn [s4] (x7 : List UInt8)] []) ?_ ?_
    · refine cw_block ?_
      refine cw_loop (body := spec_Var_l1) (r := o1) (fun sg a' w' => ∃ (s3 : Value), AEnv 25 [(0, .int .i64 (sg.1)), (3, s3)] a' ∧ St (cxAll w0) w' [cOwn [s3] (sg.2 : List UInt8)] []) ?_ hl1 ⟨s1, hA.part ⟨rfl, rfl, trivial⟩, ((hS).sel [0] rfl).selR [] rfl⟩
      clear hA hS hl1
      rintro ⟨x4, x5⟩ a w q1 ⟨s3, hA, hS⟩ hG1 hr1
      try dsimp only at hA hS
      unfold spec_Var_l1 at hG1
      refine cw_seq ?_
      refine cw_seq ?_
      refine cw_ops hA ?_
      clear hA
      refine ops_v (rv_move rfl rfl) (want_yes rfl) rfl rfl ?_
      refine ops_v (rv_geq rfl rfl rfl) (want_yes rfl) rfl rfl ?_
      refine ops_nil ?_
      intro a hA
      refine cw_cond hA rfl (fun hc2 => ?_) (fun hc2 => ?_)
      · replace hG1 := iteT hc2 hG1
        refine cw_skip ?_
        refine cw_block ?_
        refine cw_seq ?_
        refine cw_ops hA ?_
        clear hA
        refine ops_v (rv_move rfl rfl) (want_yes rfl) rfl rfl ?_
        refine ops_v (rv_move rfl rfl) (want_yes rfl) rfl rfl ?_
        refine ops_v (rv_rem rfl rfl rfl (by decide)) (want_yes rfl) rfl rfl ?_
        refine ops_v (rv_add rfl rfl rfl) (want_yes rfl) rfl rfl ?_
        refine ops_v (rv_conv8 Try.underlying3 Try.underlying5 rfl rfl) (want_yes rfl) rfl rfl ?_
        refine ops_mv (rv_lit1 (u8 (w64 (128 + (Int.tmod x4 128))) : UInt8) hS rfl Try.underlying48 inf_Try5 rfl rfl rfl rfl) (want_yes rfl) rfl rfl ?_
        clear hS
        rintro s7 w hS
        obtain ⟨hn2, hG1⟩ := needE hG1
        refine ops_mv (rv_append (α := UInt8) 0 hS rfl (hS.rdOwn 1 rfl) rfl Try.underlying48 inf_Try5 rfl hn2 rfl rfl rfl) (want_yes rfl) rfl rfl ?_
        clear hS
        rintro s8 w hS
        refine ops_v (rv_assign rfl rfl) (want_yes rfl) rfl rfl ?_
        refine ops_nil ?_
        intro a hA
        refine cw_ops hA ?_
        clear hA
        refine ops_v (rv_move rfl rfl) (want_yes rfl) rfl rfl ?_
        refine ops_v (rv_quo rfl rfl rfl (by decide)) (want_yes rfl) rfl rfl ?_
        refine ops_v (rv_assign rfl rfl) (want_yes rfl) rfl rfl ?_
        refine ops_nil ?_
        intro a hA
        cases hG1
        exact ⟨_, rfl, ⟨s8, hA.part ⟨rfl, rfl, trivial⟩, ((hS).sel [0] rfl).selR [] rfl⟩⟩
      · replace hG1 := iteF hc2 hG1
        refine cw_exit ?_
        refine xcons_hit ?_
        cases hG1
        have ho := hr1 _ rfl; subst ho
        exact ⟨x4, x5, s3, rfl, hA.part ⟨rfl, rfl, trivial⟩, ((hS).sel [0] rfl).selR [] rfl⟩
    · skip
      clear hA hS hl1
      rintro a w ⟨x6, x7, s4, heq, hA, hS⟩
      replace hF : spec_Var_j1 x6 x7 = some r := by rw [heq] at hF; exact hF
      clear heq
      unfold spec_Var_j1 at hF
      refine cw_seq ?_
      refine cw_ops hA ?_
      clear hA
      refine ops_v (rv_move rfl rfl) (want_yes rfl) rfl rfl ?_
      refine ops_v (rv_move rfl rfl) (want_yes rfl) rfl rfl ?_
      refine ops_v (rv_conv8 Try.underlying3 Try.underlying5 rfl rfl) (want_yes rfl) rfl rfl ?_
      refine ops_mv (rv_lit1 (u8 x6 : UInt8) hS rfl Try.underlying48 inf_Try5 rfl rfl rfl rfl) (want_yes rfl) rfl rfl ?_
      clear hS
      rintro s5 w hS
      obtain ⟨hn1, hF⟩ := needE hF
      refine ops_mv (rv_append (α := UInt8) 0 hS rfl (hS.rdOwn 1 rfl) rfl Try.underlying48 inf_Try5 rfl hn1 rfl rfl rfl) (want_yes rfl) rfl rfl ?_
      clear hS
      rintro s6 w hS
      refine ops_v (rv_b2s (hS.rdOwn 0 rfl) Try.underlying48 Try.underlying5 Try.underlying9 rfl rfl) (want_yes rfl) rfl rfl ?_
      refine ops_v (rv_assign rfl rfl) (want_yes rfl) rfl rfl ?_
      refine ops_nil ?_
      intro a hA
      refine cw_ret ?_
      cases hF
      exact fin1 Try.results36 hA (res_tmp rfl) ⟨rfl, (hS.sel [] rfl).weaken (R' := []) (fun _ h => nomatch h)⟩

set_option maxHeartbeats 4000000 in
set_option maxRecDepth 100000 in
theorem c_spec_l30Slots {w0 : World} {l : List SList} {s1 : Value} {r : (List UInt8)} (h1 : Rep.rd (All w0) w0 [s1] (l : List SList)) (hF : spec_l30Slots l = some r) :
    Calls Try.prog 17 #[s1] w0 (Ret fun v w' => v = sv (r) ∧ St (cxAll w0) w' [] []) := by
  have hS : St (cxAll w0) w0 [] [fRd [s1] (l : List SList)] := St.enter (by
    intro f hf
    simp only [List.mem_cons, List.not_mem_nil, or_false] at hf
    subst hf; exact h1)
  refine calls_cw (args := [_]) Try.func17 rfl Try.ntmps17 rfl ?_
  unfold spec_l30Slots at hF
  intro a hA
  refine cw_seq ?_
  refine cw_ops hA ?_
  clear hA
  refine ops_v (rv_assign rfl rfl) (want_yes rfl) rfl rfl ?_
  refine ops_nil ?_
  intro a hA
  refine cw_seq ?_
  refine cw_ops hA ?_
  clear hA
  refine ops_v (rv_assign rfl rfl) (want_yes rfl) rfl rfl ?_
  refine ops_nil ?_
  intro a hA
  refine cw_seq ?_
  refine cw_seq ?_
  refine cw_ops hA ?_
  clear hA
  refine ops_v (rv_assign rfl rfl) (want_yes rfl) rfl rfl ?_
  refine ops_nil ?_
  intro a hA
  obtain ⟨o1, hl1, hF⟩ := bindE hF
  refine cw_cut (J := fun a' w' => ∃ (x5 : List UInt8), o1 = x5 ∧ AEnv 43 [(3, sv (x5))] a' ∧ St (cxAll w0) w' [] []) ?_ ?_
  · refine cw_block ?_
    refine cw_loop (body := spec_l30Slots_l1 l) (r := o1) (fun sg a' w' => AEnv 43 [(0, s1), (3, sv (sg.1)), (4, .int .i64 (sg.2))] a' ∧ St (cxAll w0) w' [] [fRd [s1] (l : List SList)]) ?_ hl1 ⟨hA.part ⟨rfl, rfl, rfl, trivial⟩, ((hS).sel [] rfl).selR [0] rfl⟩
    clear hA hS hl1
    rintro ⟨x3, x4⟩ a w q1 ⟨hA, hS⟩ hG1 hr1
    try dsimp only at hA hS
    unfold spec_l30Slots_l1 at hG1
    refine cw_seq ?_
    refine cw_seq ?_
    refine cw_ops hA ?_
    clear hA
    refine ops_v (rv_move rfl rfl) (want_yes rfl) rfl rfl ?_
    refine ops_v (rv_move rfl rfl) (want_yes rfl) rfl rfl ?_
    refine ops_v (rv_lenS (hS.rd 0 rfl) Try.underlying33 rfl rfl) (want_yes rfl) rfl rfl ?_
    refine ops_v (rv_lss rfl rfl rfl) (want_yes rfl) rfl rfl ?_
    refine ops_nil ?_
    intro a hA
    refine cw_cond hA rfl (fun hc1 => ?_) (fun hc1 => ?_)
    · replace hG1 := iteT hc1 hG1
      refine cw_skip ?_
      refine cw_seq ?_
      refine cw_block ?_
      refine cw_seq ?_
      refine cw_ops hA ?_
      clear hA
      refine ops_v (rv_move rfl rfl) (want_yes rfl) rfl rfl ?_
      refine ops_v (rv_move rfl rfl) (want_yes rfl) rfl rfl ?_
      refine ops_v (rv_move rfl rfl) (want_yes rfl) rfl rfl ?_
      obtain ⟨x6, hx6, hG1⟩ := bindE hG1
      refine ops_v (rv_idx (m := 1) (hS.rd 0 rfl) rfl hx6 Try.underlying33 Try.sizeOf53 rfl rfl rfl) (want_yes rfl) rfl rfl ?_
      refine ops_v (rv_fld (m := 0) Try.underlying53 rfl rfl Try.sizeOf22 rfl rfl) (want_yes rfl) rfl rfl ?_
      obtain ⟨s2, hel, hS⟩ := hS.el_SList 0 rfl (idx_some hx6).2.2
      refine ops_v (rv_load1 rfl rfl Try.isAgg22 (cell1 (CellsAt.sub (cs' := [s2]) hel 0 rfl rfl))) (want_yes rfl) rfl rfl ?_
      refine ops_v (rv_lenS (hS.rd 1 rfl) Try.underlying22 rfl rfl) (want_yes rfl) rfl rfl ?_
      obtain ⟨x7, hx7, hG1⟩ := bindE hG1
      refine ops_c (rc_call Try.call36 rfl rfl) (want_yes rfl) rfl rfl (c_spec_Var (n := (x6.Slots.length : Int))  hx7) ?_
      rintro _ w ⟨rfl, hk⟩
      replace hS := hS.after hk; clear hk
      obtain ⟨hn1, hG1⟩ := needE hG1
      refine ops_v (rv_cat rfl rfl rfl hn1) (want_yes rfl) rfl rfl ?_
      refine ops_v (rv_assign rfl rfl) (want_yes rfl) rfl rfl ?_
      refine ops_nil ?_
      intro a hA
      refine cw_seq ?_
      refine cw_ops hA ?_
      clear hA
      refine ops_v (rv_assign rfl rfl) (want_yes rfl) rfl rfl ?_
      refine ops_nil ?_
      intro a hA
      obtain ⟨o2, hl2, hG1⟩ := bindE hG1
      refine cw_cut (J := fun a' w' => ∃ (x12 : List UInt8), o2 = x12 ∧ AEnv 43 [(0, s1), (3, sv (x12)), (4, .int .i64 (x4))] a' ∧ St (cxAll w0) w' [] [fRd [s1] (l : List SList)]) ?_ ?_
      · refine cw_block ?_
        refine cw_loop (body := spec_l30Slots_l2 l x4) (r := o2) (fun sg a' w' => AEnv 43 [(0, s1), (3, sv (sg.1)), (4, .int .i64 (x4)), (5, .int .i64 (sg.2))] a' ∧ St (cxAll w0) w' [] [fRd [s1] (l : List SList)]) ?_ hl2 ⟨hA.part ⟨rfl, rfl, rfl, rfl, trivial⟩, ((hS).sel [] rfl).selR [0] rfl⟩
        clear hA hS hl2
        rintro ⟨x10, x11⟩ a w q2 ⟨hA, hS⟩ hG2 hr2
        try dsimp only at hA hS
        unfold spec_l30Slots_l2 at hG2
        refine cw_seq ?_
        refine cw_seq ?_
        refine cw_ops hA ?_
        clear hA
        refine ops_v (rv_move rfl rfl) (want_yes rfl) rfl rfl ?_
        refine ops_v (rv_move rfl rfl) (want_yes rfl) rfl rfl ?_
        refine ops_v (rv_move rfl rfl) (want_yes rfl) rfl rfl ?_
        obtain ⟨x13, hx13, hG2⟩ := bindE hG2
        refine ops_v (rv_idx (m := 1) (hS.rd 0 rfl) rfl hx13 Try.underlying33 Try.sizeOf53 rfl rfl rfl) (want_yes rfl) rfl rfl ?_
        refine ops_v (rv_fld (m := 0) Try.underlying53 rfl rfl Try.sizeOf22 rfl rfl) (want_yes rfl) rfl rfl ?_
        obtain ⟨s3, hel, hS⟩ := hS.el_SList 0 rfl (idx_some hx13).2.2
        refine ops_v (rv_load1 rfl rfl Try.isAgg22 (cell1 (CellsAt.sub (cs' := [s3]) hel 0 rfl rfl))) (want_yes rfl) rfl rfl ?_
        refine ops_v (rv_lenS (hS.rd 1 rfl) Try.underlying22 rfl rfl) (want_yes rfl) rfl rfl ?_
        refine ops_v (rv_lss rfl rfl rfl) (want_yes rfl) rfl rfl ?_
        refine ops_nil ?_
        intro a hA
        refine cw_cond hA rfl (fun hc2 => ?_) (fun hc2 => ?_)
        · replace hG2 := iteT hc2 hG2
          refine cw_skip ?_
          refine cw_seq ?_
          refine cw_block ?_
          refine cw_ops hA ?_
          clear hA
          refine ops_v (rv_move rfl rfl) (want_yes rfl) rfl rfl ?_
          refine ops_v (rv_move rfl rfl) (want_yes rfl) rfl rfl ?_
          refine ops_v (rv_move rfl rfl) (want_yes rfl) rfl rfl ?_
          obtain ⟨x14, hx14, hG2⟩ := bindE hG2
          refine ops_v (rv_idx (m := 1) (hS.rd 0 rfl) rfl hx14 Try.underlying33 Try.sizeOf53 rfl rfl rfl) (want_yes rfl) rfl rfl ?_
          refine ops_v (rv_fld (m := 0) Try.underlying53 rfl rfl Try.sizeOf22 rfl rfl) (want_yes rfl) rfl rfl ?_
          obtain ⟨s4, hel, hS⟩ := hS.el_SList 0 rfl (idx_some hx14).2.2
          refine ops_v (rv_load1 rfl rfl Try.isAgg22 (cell1 (CellsAt.sub (cs' := [s4]) hel 0 rfl rfl))) (want_yes rfl) rfl rfl ?_
          refine ops_v (rv_move rfl rfl) (want_yes rfl) rfl rfl ?_
          obtain ⟨x15, hx15, hG2⟩ := bindE hG2
          refine ops_v (rv_idx (m := 1) (hS.rd 2 rfl) rfl hx15 Try.underlying22 Try.sizeOf3 rfl rfl rfl) (want_yes rfl) rfl rfl ?_
          refine ops_v (rv_load1 rfl rfl Try.isAgg3 (cell1 (el_Int (hS.rd 2 rfl) (idx_some hx15).2.2))) (want_yes rfl) rfl rfl ?_
          obtain ⟨x16, hx16, hG2⟩ := bindE hG2
          refine ops_c (rc_call Try.call36 rfl rfl) (want_yes rfl) rfl rfl (c_spec_Var (n := x15)  hx16) ?_
          rintro _ w ⟨rfl, hk⟩
          replace hS := hS.after hk; clear hk
          obtain ⟨hn2, hG2⟩ := needE hG2
          refine ops_v (rv_cat rfl rfl rfl hn2) (want_yes rfl) rfl rfl ?_
          refine ops_v (rv_assign rfl rfl) (want_yes rfl) rfl rfl ?_
          refine ops_nil ?_
          intro a hA
          refine cw_ops hA ?_
          clear hA
          refine ops_v (rv_move rfl rfl) (want_yes rfl) rfl rfl ?_
          refine ops_v (rv_add rfl rfl rfl) (want_yes rfl) rfl rfl ?_
          refine ops_v (rv_assign rfl rfl) (want_yes rfl) rfl rfl ?_
          refine ops_nil ?_
          intro a hA
          cases hG2
          exact ⟨_, rfl, ⟨hA.part ⟨rfl, rfl, rfl, rfl, trivial⟩, ((hS).sel [] rfl).selR [0] rfl⟩⟩
        · replace hG2 := iteF hc2 hG2
          refine cw_exit ?_
          refine xcons_hit ?_
          cases hG2
          have ho := hr2 _ rfl; subst ho
          exact ⟨x10, rfl, hA.part ⟨rfl, rfl, rfl, trivial⟩, ((hS).sel [] rfl).selR [0] rfl⟩
      · skip
        clear hA hS hl2
        rintro a w ⟨x12, heq, hA, hS⟩
        replace hG1 : spec_l30Slots_j2 x4 x12 = some q1 := by rw [heq] at hG1; exact hG1
        clear heq
        unfold spec_l30Slots_j2 at hG1
        refine cw_ops hA ?_
        clear hA
        refine ops_v (rv_move rfl rfl) (want_yes rfl) rfl rfl ?_
        refine ops_v (rv_add rfl rfl rfl) (want_yes rfl) rfl rfl ?_
        refine ops_v (rv_assign rfl rfl) (want_yes rfl) rfl rfl ?_
        refine ops_nil ?_
        intro a hA
        cases hG1
        exact ⟨_, rfl, ⟨hA.part ⟨rfl, rfl, rfl, trivial⟩, ((hS).sel [] rfl).selR [0] rfl⟩⟩
    · replace hG1 := iteF hc1 hG1
      refine cw_exit ?_
      refine xcons_hit ?_
      cases hG1
      have ho := hr1 _ rfl; subst ho
      exact ⟨x3, rfl, hA.part ⟨rfl, trivial⟩, ((hS).sel [] rfl).selR [] rfl⟩
  · skip
    clear hA hS hl1
    rintro a w ⟨x5, heq, hA, hS⟩
    replace hF : spec_l30Slots_j1 x5 = some r := by rw [heq] at hF; exact hF
    clear heq
    unfold spec_l30Slots_j1 at hF
    refine cw_seq ?_
    refine cw_ops hA ?_
    clear hA
    refine ops_v (rv_move rfl rfl) (want_yes rfl) rfl rfl ?_
    refine ops_v (rv_assign rfl rfl) (want_yes rfl) rfl rfl ?_
    refine ops_nil ?_
    intro a hA
    refine cw_ret ?_
    cases hF
    exact fin1 Try.results17 hA (res_tmp rfl) ⟨rfl, (hS.sel [] rfl).weaken (R' := []) (fun _ h => nomatch h)⟩

set_option maxHeartbeats 4000000 in
set_option maxRecDepth 100000 in
theorem c_spec_ShowMem {w0 : World} {m : Mem} {s1 : Value} {s2 : Value} {s3 : Value} {s4 : Value} {r : (List UInt8)} (h1 : Rep.rd (All w0) w0 [s1] (m.Heap.Bytes : List Int)) (h2 : Rep.rd (All w0) w0 [s2] (m.Heap.Class : List Int)) (h3 : Rep.rd (All w0) w0 [s3] (m.Lists.Global : List SList)) (h4 : Rep.rd (All w0) w0 [s4] (m.Lists.Own : List SList)) (hF : spec_ShowMem m = some r) :
    Calls Try.prog 6 #[.agg #[s1, s2, s3, s4]] w0 (Ret fun v w' => v = sv (r) ∧ St (cxAll w0) w' [] []) := by
  have hS : St (cxAll w0) w0 [] [fRd [s1] (m.Heap.Bytes : List Int), fRd [s2] (m.Heap.Class : List Int), fRd [s3] (m.Lists.Global : List SList), fRd [s4] (m.Lists.Own : List SList)] := St.enter (by
    intro f hf
    simp only [List.mem_cons, List.not_mem_nil, or_false] at hf
    rcases hf with rfl | rfl | rfl | rfl
    · exact h1
    · exact h2
    · exact h3
    · exact h4)
  refine calls_cw (args := [_]) Try.func6 rfl Try.ntmps6 rfl ?_
  unfold spec_ShowMem at hF
  intro a hA
  refine cw_seq ?_
  refine cw_ops hA ?_
  clear hA
  refine ops_mv (rv_box (cs := [s1, s2, s3, s4]) hS rfl rfl rfl) (want_yes rfl) rfl rfl ?_
  clear hS
  rintro _ w ⟨b1, rfl, hS⟩
  refine ops_v (rv_assign rfl rfl) (want_yes rfl) rfl rfl ?_
  refine ops_nil ?_
  intro a hA
  refine cw_seq ?_
  refine cw_seq ?_
  refine cw_ops hA ?_
  clear hA
  refine ops_v (rv_loadN rfl rfl Try.isAgg37 Try.sizeOf37 rfl (hS.cells 0 0 (cs' := [s1, s2, s3, s4]) rfl rfl)) (want_yes rfl) rfl rfl ?_
  obtain ⟨x1, hx1, hF⟩ := bindE hF
  refine ops_c (rc_call Try.call16 rfl rfl) (want_yes rfl) rfl rfl (c_spec_MemOk (m := m) (hS.rd 0 rfl) (hS.rd 1 rfl) (hS.rd 2 rfl) (hS.rd 3 rfl) hx1) ?_
  rintro _ w ⟨rfl, hk⟩
  replace hS := hS.after hk; clear hk
  refine ops_v (rv_not rfl rfl) (want_yes rfl) rfl rfl ?_
  refine ops_nil ?_
  intro a hA
  refine cw_cond hA rfl (fun hc1 => ?_) (fun hc1 => ?_)
  · replace hF := iteT hc1 hF
    refine cw_seq ?_
    refine cw_ops hA ?_
    clear hA
    refine ops_v (rv_assign rfl rfl) (want_yes rfl) rfl rfl ?_
    refine ops_nil ?_
    intro a hA
    refine cw_ret ?_
    cases hF
    exact fin1 Try.results6 hA (res_tmp rfl) ⟨rfl, (hS.sel [] rfl).weaken (R' := []) (fun _ h => nomatch h)⟩
  · replace hF := iteF hc1 hF
    refine cw_skip ?_
    refine cw_seq ?_
    refine cw_ops hA ?_
    clear hA
    refine ops_mv (rv_lit0 (α := UInt8) hS rfl Try.underlying48 inf_Try5 rfl) (want_yes rfl) rfl rfl ?_
    clear hS
    rintro s5 w hS
    refine ops_v (rv_assign rfl rfl) (want_yes rfl) rfl rfl ?_
    refine ops_nil ?_
    intro a hA
    refine cw_seq ?_
    refine cw_seq ?_
    refine cw_ops hA ?_
    clear hA
    refine ops_v (rv_assign rfl rfl) (want_yes rfl) rfl rfl ?_
    refine ops_nil ?_
    intro a hA
    obtain ⟨o1, hl1, hF⟩ := bindE hF
    refine cw_cut (J := fun a' w' => ∃ (x6 : List UInt8) (s8 : Value), o1 = x6 ∧ AEnv 55 [(1, .pointer (some ⟨b1, 0, none⟩)), (3, s8)] a' ∧ St (cxAll w0) w' [cOwn [s8] (x6 : List UInt8), cBox b1 [s1, s2, s3, s4]] [fRd [s1] (m.Heap.Bytes : List Int), fRd [s2] (m.Heap.Class : List Int), fRd [s3] (m.Lists.Global : List SList), fRd [s4] (m.Lists.Own : List SList)]) ?_ ?_
    · refine cw_block ?_
      refine cw_loop (body := spec_ShowMem_l1 m) (r := o1) (fun sg a' w' => ∃ (s7 : Value), AEnv 55 [(1, .pointer (some ⟨b1, 0, none⟩)), (3, s7), (4, .int .i64 (sg.2))] a' ∧ St (cxAll w0) w' [cOwn [s7] (sg.1 : List UInt8), cBox b1 [s1, s2, s3, s4]] [fRd [s1] (m.Heap.Bytes : List Int), fRd [s2] (m.Heap.Class : List Int), fRd [s3] (m.Lists.Global : List SList), fRd [s4] (m.Lists.Own : List SList)]) ?_ hl1 ⟨s5, hA.part ⟨rfl, rfl, rfl, trivial⟩, ((hS).sel [1, 0] rfl).selR [0, 1, 2, 3] rfl⟩
      clear hA hS hl1
      rintro ⟨x4, x5⟩ a w q1 ⟨s7, hA, hS⟩ hG1 hr1
      try dsimp only at hA hS
      unfold spec_ShowMem_l1 at hG1
      refine cw_seq ?_
      refine cw_seq ?_
      refine cw_ops hA ?_
      clear hA
      refine ops_v (rv_move rfl rfl) (want_yes rfl) rfl rfl ?_
      refine ops_v (rv_fld (m := 1) Try.underlying37 rfl rfl Try.sizeOf32 rfl rfl) (want_yes rfl) rfl rfl ?_
      refine ops_v (rv_fld (m := 0) Try.underlying32 rfl rfl Try.sizeOf22 rfl rfl) (want_yes rfl) rfl rfl ?_
      refine ops_v (rv_load1 rfl rfl Try.isAgg22 (hS.cell 1 rfl rfl)) (want_yes rfl) rfl rfl ?_
      refine ops_v (rv_lenS (hS.rd 0 rfl) Try.underlying22 rfl rfl) (want_yes rfl) rfl rfl ?_
      refine ops_v (rv_lss rfl rfl rfl) (want_yes rfl) rfl rfl ?_
      refine ops_nil ?_
      intro a hA
      refine cw_cond hA rfl (fun hc3 => ?_) (fun hc3 => ?_)
      · replace hG1 := iteT hc3 hG1
        refine cw_skip ?_
        refine cw_seq ?_
        refine cw_block ?_
        refine cw_ops hA ?_
        clear hA
        refine ops_v (rv_move rfl rfl) (want_yes rfl) rfl rfl ?_
        refine ops_v (rv_fld (m := 1) Try.underlying37 rfl rfl Try.sizeOf32 rfl rfl) (want_yes rfl) rfl rfl ?_
        refine ops_v (rv_fld (m := 0) Try.underlying32 rfl rfl Try.sizeOf22 rfl rfl) (want_yes rfl) rfl rfl ?_
        refine ops_v (rv_load1 rfl rfl Try.isAgg22 (hS.cell 1 rfl rfl)) (want_yes rfl) rfl rfl ?_
        refine ops_v (rv_move rfl rfl) (want_yes rfl) rfl rfl ?_
        obtain ⟨x15, hx15, hG1⟩ := bindE hG1
        refine ops_v (rv_idx (m := 1) (hS.rd 0 rfl) rfl hx15 Try.underlying22 Try.sizeOf3 rfl rfl rfl) (want_yes rfl) rfl rfl ?_
        refine ops_v (rv_load1 rfl rfl Try.isAgg3 (cell1 (el_Int (hS.rd 0 rfl) (idx_some hx15).2.2))) (want_yes rfl) rfl rfl ?_
        refine ops_v (rv_conv8 Try.underlying3 Try.underlying5 rfl rfl) (want_yes rfl) rfl rfl ?_
        refine ops_mv (rv_lit1 (u8 x15 : UInt8) hS rfl Try.underlying48 inf_Try5 rfl rfl rfl rfl) (want_yes rfl) rfl rfl ?_
        clear hS
        rintro s14 w hS
        obtain ⟨hn4, hG1⟩ := needE hG1
        refine ops_mv (rv_append (α := UInt8) 0 hS rfl (hS.rdOwn 2 rfl) rfl Try.underlying48 inf_Try5 rfl hn4 rfl rfl rfl) (want_yes rfl) rfl rfl ?_
        clear hS
        rintro s15 w hS
        refine ops_v (rv_assign rfl rfl) (want_yes rfl) rfl rfl ?_
        refine ops_nil ?_
        intro a hA
        refine cw_ops hA ?_
        clear hA
        refine ops_v (rv_move rfl rfl) (want_yes rfl) rfl rfl ?_
        refine ops_v (rv_add rfl rfl rfl) (want_yes rfl) rfl rfl ?_
        refine ops_v (rv_assign rfl rfl) (want_yes rfl) rfl rfl ?_
        refine ops_nil ?_
        intro a hA
        cases hG1
        exact ⟨_, rfl, ⟨s15, hA.part ⟨rfl, rfl, rfl, trivial⟩, ((hS).sel [0, 1] rfl).selR [0, 1, 2, 3] rfl⟩⟩
      · replace hG1 := iteF hc3 hG1
        refine cw_exit ?_
        refine xcons_hit ?_
        cases hG1
        have ho := hr1 _ rfl; subst ho
        exact ⟨x4, s7, rfl, hA.part ⟨rfl, rfl, trivial⟩, ((hS).sel [0, 1] rfl).selR [0, 1, 2, 3] rfl⟩
    · skip
      clear hA hS hl1
      rintro a w ⟨x6, s8, heq, hA, hS⟩
      replace hF : spec_ShowMem_j1 m x6 = some r := by rw [heq] at hF; exact hF
      clear heq
      unfold spec_ShowMem_j1 at hF
      refine cw_seq ?_
      refine cw_seq ?_
      refine cw_ops hA ?_
      clear hA
      refine ops_v (rv_assign rfl rfl) (want_yes rfl) rfl rfl ?_
      refine ops_nil ?_
      intro a hA
      obtain ⟨o2, hl2, hF⟩ := bindE hF
      refine cw_cut (J := fun a' w' => ∃ (x11 : List UInt8) (s11 : Value), o2 = x11 ∧ AEnv 55 [(1, .pointer (some ⟨b1, 0, none⟩)), (3, s11)] a' ∧ St (cxAll w0) w' [cOwn [s11] (x11 : List UInt8), cBox b1 [s1, s2, s3, s4]] [fRd [s1] (m.Heap.Bytes : List Int), fRd [s2] (m.Heap.Class : List Int), fRd [s3] (m.Lists.Global : List SList), fRd [s4] (m.Lists.Own : List SList)]) ?_ ?_
      · refine cw_block ?_
        refine cw_loop (body := spec_ShowMem_l2 m) (r := o2) (fun sg a' w' => ∃ (s10 : Value), AEnv 55 [(1, .pointer (some ⟨b1, 0, none⟩)), (3, s10), (5, .int .i64 (sg.2))] a' ∧ St (cxAll w0) w' [cOwn [s10] (sg.1 : List UInt8), cBox b1 [s1, s2, s3, s4]] [fRd [s1] (m.Heap.Bytes : List Int), fRd [s2] (m.Heap.Class : List Int), fRd [s3] (m.Lists.Global : List SList), fRd [s4] (m.Lists.Own : List SList)]) ?_ hl2 ⟨s8, hA.part ⟨rfl, rfl, rfl, trivial⟩, ((hS).sel [0, 1] rfl).selR [0, 1, 2, 3] rfl⟩
        clear hA hS hl2
        rintro ⟨x9, x10⟩ a w q2 ⟨s10, hA, hS⟩ hG2 hr2
        try dsimp only at hA hS
        unfold spec_ShowMem_l2 at hG2
        refine cw_seq ?_
        refine cw_seq ?_
        refine cw_ops hA ?_
        clear hA
        refine ops_v (rv_move rfl rfl) (want_yes rfl) rfl rfl ?_
        refine ops_v (rv_lss rfl rfl rfl) (want_yes rfl) rfl rfl ?_
        refine ops_nil ?_
        intro a hA
        refine cw_cond hA rfl (fun hc2 => ?_) (fun hc2 => ?_)
        · replace hG2 := iteT hc2 hG2
          refine cw_skip ?_
          refine cw_seq ?_
          refine cw_block ?_
          refine cw_ops hA ?_
          clear hA
          refine ops_v (rv_move rfl rfl) (want_yes rfl) rfl rfl ?_
          refine ops_v (rv_fld (m := 1) Try.underlying37 rfl rfl Try.sizeOf32 rfl rfl) (want_yes rfl) rfl rfl ?_
          refine ops_v (rv_fld (m := 0) Try.underlying32 rfl rfl Try.sizeOf22 rfl rfl) (want_yes rfl) rfl rfl ?_
          refine ops_v (rv_load1 rfl rfl Try.isAgg22 (hS.cell 1 rfl rfl)) (want_yes rfl) rfl rfl ?_
          refine ops_v (rv_move rfl rfl) (want_yes rfl) rfl rfl ?_
          obtain ⟨x14, hx14, hG2⟩ := bindE hG2
          refine ops_v (rv_idx (m := 1) (hS.rd 1 rfl) rfl hx14 Try.underlying22 Try.sizeOf3 rfl rfl rfl) (want_yes rfl) rfl rfl ?_
          refine ops_v (rv_load1 rfl rfl Try.isAgg3 (cell1 (el_Int (hS.rd 1 rfl) (idx_some hx14).2.2))) (want_yes rfl) rfl rfl ?_
          refine ops_v (rv_add rfl rfl rfl) (want_yes rfl) rfl rfl ?_
          refine ops_v (rv_conv8 Try.underlying3 Try.underlying5 rfl rfl) (want_yes rfl) rfl rfl ?_
          refine ops_mv (rv_lit1 (u8 (w64 (x14 + 1)) : UInt8) hS rfl Try.underlying48 inf_Try5 rfl rfl rfl rfl) (want_yes rfl) rfl rfl ?_
          clear hS
          rintro s12 w hS
          obtain ⟨hn3, hG2⟩ := needE hG2
          refine ops_mv (rv_append (α := UInt8) 0 hS rfl (hS.rdOwn 2 rfl) rfl Try.underlying48 inf_Try5 rfl hn3 rfl rfl rfl) (want_yes rfl) rfl rfl ?_
          clear hS
          rintro s13 w hS
          refine ops_v (rv_assign rfl rfl) (want_yes rfl) rfl rfl ?_
          refine ops_nil ?_
          intro a hA
          refine cw_ops hA ?_
          clear hA
          refine ops_v (rv_move rfl rfl) (want_yes rfl) rfl rfl ?_
          refine ops_v (rv_add rfl rfl rfl) (want_yes rfl) rfl rfl ?_
          refine ops_v (rv_assign rfl rfl) (want_yes rfl) rfl rfl ?_
          refine ops_nil ?_
          intro a hA
          cases hG2
          exact ⟨_, rfl, ⟨s13, hA.part ⟨rfl, rfl, rfl, trivial⟩, ((hS).sel [0, 1] rfl).selR [0, 1, 2, 3] rfl⟩⟩
        · replace hG2 := iteF hc2 hG2
          refine cw_exit ?_
          refine xcons_hit ?_
          cases hG2
          have ho := hr2 _ rfl; subst ho
          exact ⟨x9, s10, rfl, hA.part ⟨rfl, rfl, trivial⟩, ((hS).sel [0, 1] rfl).selR [0, 1, 2, 3] rfl⟩
      · skip
        clear hA hS hl2
        rintro a w ⟨x11, s11, heq, hA, hS⟩
        replace hF : spec_ShowMem_j2 m x11 = some r := by rw [heq] at hF; exact hF
        clear heq
        unfold spec_ShowMem_j2 at hF
        refine cw_seq ?_
        refine cw_any (Keeps (cxAll w0) [cOwn [s11] (x11 : List UInt8), cBox b1 [s1, s2, s3, s4]] [fRd [s1] (m.Heap.Bytes : List Int), fRd [s2] (m.Heap.Class : List Int), fRd [s3] (m.Lists.Global : List SList), fRd [s4] (m.Lists.Own : List SList)]) mixed_Try hA hS ?_
        clear hA hS; intro w hS
        have hK : Keeps (cxAll w0) [cOwn [s11] (x11 : List UInt8), cBox b1 [s1, s2, s3, s4]] [fRd [s1] (m.Heap.Bytes : List Int), fRd [s2] (m.Heap.Class : List Int), fRd [s3] (m.Lists.Global : List SList), fRd [s4] (m.Lists.Own : List SList)] w := ⟨_, (hS.sel [0, 1] rfl).selR [0, 1, 2, 3] rfl⟩
        refine any_v 0 (by kernel_rfl) rfl (by kernel_rfl) (by kernel_rfl) hK (fun _ _ => (rv_move rfl rfl)) (want_yes rfl) rfl rfl ?_
        refine any_v 1 (by kernel_rfl) rfl (by kernel_rfl) (by kernel_rfl) hK (fun w hk => by obtain ⟨_, hS⟩ := hk; exact (rv_b2s (hS.rdOwn 0 rfl) Try.underlying48 Try.underlying5 Try.underlying9 rfl rfl)) (want_yes rfl) rfl rfl ?_
        refine any_v 2 (by kernel_rfl) rfl (by kernel_rfl) (by kernel_rfl) hK (fun _ _ => (rv_fld (m := 1) Try.underlying37 rfl rfl Try.sizeOf35 rfl rfl)) (want_yes rfl) rfl rfl ?_
        refine any_v 3 (by kernel_rfl) rfl (by kernel_rfl) (by kernel_rfl) hK (fun _ _ => (rv_fld (m := 0) Try.underlying35 rfl rfl Try.sizeOf33 rfl rfl)) (want_yes rfl) rfl rfl ?_
        refine any_v 4 (by kernel_rfl) rfl (by kernel_rfl) (by kernel_rfl) hK (fun w hk => by obtain ⟨_, hS⟩ := hk; exact (rv_load1 rfl rfl Try.isAgg33 (hS.cell 1 rfl rfl))) (want_yes rfl) rfl rfl ?_
        refine any_v 7 (by kernel_rfl) rfl (by kernel_rfl) (by kernel_rfl) hK (fun _ _ => (rv_fld (m := 1) Try.underlying37 rfl rfl Try.sizeOf35 rfl rfl)) (want_yes rfl) rfl rfl ?_
        refine any_v 8 (by kernel_rfl) rfl (by kernel_rfl) (by kernel_rfl) hK (fun _ _ => (rv_fld (m := 0) Try.underlying35 rfl rfl Try.sizeOf33 rfl rfl)) (want_yes rfl) rfl rfl ?_
        refine any_v 9 (by kernel_rfl) rfl (by kernel_rfl) (by kernel_rfl) hK (fun w hk => by obtain ⟨_, hS⟩ := hk; exact (rv_load1 rfl rfl Try.isAgg33 (hS.cell 1 rfl rfl))) (want_yes rfl) rfl rfl ?_
        refine any_1 (i := 5) (by kernel_rfl) ?_
        obtain ⟨x12, hx12, hF⟩ := bindE hF
        refine as_c rfl (rc_call Try.call17 rfl rfl) (want_yes rfl) rfl rfl (c_spec_l30Slots (l := m.Lists.Global) (hS.rd 2 rfl) hx12) ?_
        clear hK; rintro _ w ⟨rfl, hk⟩
        replace hS := hS.after hk; clear hk
        have hK : Keeps (cxAll w0) [cOwn [s11] (x11 : List UInt8), cBox b1 [s1, s2, s3, s4]] [fRd [s1] (m.Heap.Bytes : List Int), fRd [s2] (m.Heap.Class : List Int), fRd [s3] (m.Lists.Global : List SList), fRd [s4] (m.Lists.Own : List SList)] w := ⟨_, (hS.sel [0, 1] rfl).selR [0, 1, 2, 3] rfl⟩
        refine ⟨hK, ?_⟩
        obtain ⟨hn1, hF⟩ := needE hF
        refine any_v 6 (by kernel_rfl) rfl (by kernel_rfl) (by kernel_rfl) hK (fun _ _ => (rv_cat rfl rfl rfl hn1)) (want_yes rfl) rfl rfl ?_
        refine any_1 (i := 10) (by kernel_rfl) ?_
        obtain ⟨x13, hx13, hF⟩ := bindE hF
        refine as_c rfl (rc_call Try.call17 rfl rfl) (want_yes rfl) rfl rfl (c_spec_l30Slots (l := m.Lists.Own) (hS.rd 3 rfl) hx13) ?_
        clear hK; rintro _ w ⟨rfl, hk⟩
        replace hS := hS.after hk; clear hk
        have hK : Keeps (cxAll w0) [cOwn [s11] (x11 : List UInt8), cBox b1 [s1, s2, s3, s4]] [fRd [s1] (m.Heap.Bytes : List Int), fRd [s2] (m.Heap.Class : List Int), fRd [s3] (m.Lists.Global : List SList), fRd [s4] (m.Lists.Own : List SList)] w := ⟨_, (hS.sel [0, 1] rfl).selR [0, 1, 2, 3] rfl⟩
        refine ⟨hK, ?_⟩
        obtain ⟨hn2, hF⟩ := needE hF
        refine any_v 11 (by kernel_rfl) rfl (by kernel_rfl) (by kernel_rfl) hK (fun _ _ => (rv_cat rfl rfl rfl hn2)) (want_yes rfl) rfl rfl ?_
        refine any_v 12 (by kernel_rfl) rfl (by kernel_rfl) (by kernel_rfl) hK (fun _ _ => (rv_assign rfl rfl)) (want_yes rfl) rfl rfl ?_
        refine any_done (by kernel_rfl) ?_
        intro a hA
        refine cw_ret ?_
        cases hF
        exact fin1 Try.results6 hA (res_tmp rfl) ⟨rfl, (hS.sel [] rfl).weaken (R' := []) (fun _ h => nomatch h)⟩

set_option maxHeartbeats 4000000 in
set_option maxRecDepth 100000 in
theorem c_slices_IndexFunc_int {w0 : World} {s : List Int} {f : (Int → Option Bool)} {s1 : Value} {g_f : FuncId} {cap_f : List Value} {r : Int} (h1 : Rep.rd (All w0) w0 [s1] (s : List Int)) (hg_f : ∀ args w, (callFunc g_f args).run Try.prog w = .ok (.enter g_f args) w) (hp_f : ∀ (w' : World) (x0 : Int)  (q : Bool), Keep F0 w0 w' → f x0 = some q → Calls Try.prog g_f (([.int .i64 (x0)] : List Value) ++ cap_f).toArray w' (Ret fun v w'' => v = .bool (q) ∧ St (cxAll w') w'' [] [])) (hF : slices_IndexFunc_int s f = some r) :
    Calls Try.prog 94 #[s1, .func (.func g_f) #[] cap_f.toArray] w0 (Ret fun v w' => v = .int .i64 (r) ∧ St (cxAll w0) w' [] []) := by
  have hS : St (cxAll w0) w0 [] [fRd [s1] (s : List Int)] := St.enter (by
    intro f hf
    simp only [List.mem_cons, List.not_mem_nil, or_false] at hf
    subst hf; exact h1)
  refine calls_cw (args := [_, _]) Try.func94 rfl Try.ntmps94 rfl ?_
  unfold slices_IndexFunc_int at hF
  intro a hA
  refine cw_seq ?_
  refine cw_ops hA ?_
  clear hA
  refine ops_v (rv_assign rfl rfl) (want_yes rfl) rfl rfl ?_
  refine ops_nil ?_
  intro a hA
  refine cw_seq ?_
  refine cw_seq ?_
  refine cw_ops hA ?_
  clear hA
  refine ops_v (rv_move rfl rfl) (want_yes rfl) rfl rfl ?_
  refine ops_v (rv_lenS (hS.rd 0 rfl) Try.underlying22 rfl rfl) (want_yes rfl) rfl rfl ?_
  refine ops_v (rv_move rfl rfl) (want_yes rfl) rfl rfl ?_
  refine ops_nil ?_
  intro a hA
  obtain ⟨o1, hl1, hF⟩ := bindE hF
  refine cw_cut (J := fun a' w' => o1 = Out.brk (()) ∧ AEnv 19 [] a' ∧ St (cxAll w0) w' [] []) ?_ ?_
  · refine cw_block ?_
    refine cw_loop (body := slices_IndexFunc_int_l1 s f) (r := o1) (fun sg a' w' => AEnv 19 [(0, s1), (1, .func (.func g_f) #[] cap_f.toArray), (7, .int .i64 ((s.length : Int))), (8, .int .i64 (sg))] a' ∧ St (cxAll w0) w' [] [fRd [s1] (s : List Int)]) ?_ hl1 ⟨hA.part ⟨rfl, rfl, rfl, rfl, trivial⟩, ((hS).sel [] rfl).selR [0] rfl⟩
    clear hA hS hl1
    rintro x2 a w q1 ⟨hA, hS⟩ hG1 hr1
    try dsimp only at hA hS
    unfold slices_IndexFunc_int_l1 at hG1
    refine cw_seq ?_
    refine cw_ops hA ?_
    clear hA
    refine ops_v (rv_lss rfl rfl rfl) (want_yes rfl) rfl rfl ?_
    refine ops_nil ?_
    intro a hA
    refine cw_seq ?_
    refine cw_cond hA rfl (fun hc1 => ?_) (fun hc1 => ?_)
    · replace hG1 := iteT hc1 hG1
      refine cw_skip ?_
      refine cw_seq ?_
      refine cw_block ?_
      refine cw_seq ?_
      refine cw_ops hA ?_
      clear hA
      refine ops_v (rv_move rfl rfl) (want_yes rfl) rfl rfl ?_
      refine ops_v (rv_assign rfl rfl) (want_yes rfl) rfl rfl ?_
      refine ops_nil ?_
      intro a hA
      refine cw_seq ?_
      refine cw_ops hA ?_
      clear hA
      refine ops_v (rv_move rfl rfl) (want_yes rfl) rfl rfl ?_
      refine ops_v (rv_move rfl rfl) (want_yes rfl) rfl rfl ?_
      refine ops_v (rv_move rfl rfl) (want_yes rfl) rfl rfl ?_
      obtain ⟨x3, hx3, hG1⟩ := bindE hG1
      refine ops_v (rv_idx (m := 1) (hS.rd 0 rfl) rfl hx3 Try.underlying22 Try.sizeOf3 rfl rfl rfl) (want_yes rfl) rfl rfl ?_
      refine ops_v (rv_load1 rfl rfl Try.isAgg3 (cell1 (el_Int (hS.rd 0 rfl) (idx_some hx3).2.2))) (want_yes rfl) rfl rfl ?_
      obtain ⟨x4, hx4, hG1⟩ := bindE hG1
      refine ops_c (rc_callv hg_f rfl rfl rfl) (want_yes rfl) rfl rfl (hp_f _ x3  _ hS.keep  hx4) ?_
      rintro _ w ⟨rfl, hk⟩
      replace hS := hS.after hk; clear hk
      refine ops_nil ?_
      intro a hA
      refine cw_cond hA rfl (fun hc2 => ?_) (fun hc2 => ?_)
      · replace hG1 := iteT hc2 hG1
        refine cw_seq ?_
        refine cw_ops hA ?_
        clear hA
        refine ops_v (rv_move rfl rfl) (want_yes rfl) rfl rfl ?_
        refine ops_v (rv_assign rfl rfl) (want_yes rfl) rfl rfl ?_
        refine ops_nil ?_
        intro a hA
        refine cw_ret ?_
        cases hG1
        have ho := hr1 _ rfl; subst ho
        replace hF : some x2 = some r := hF
        cases hF
        exact fin1 Try.results94 hA (res_tmp rfl) ⟨rfl, (hS.sel [] rfl).weaken (R' := []) (fun _ h => nomatch h)⟩
      · replace hG1 := iteF hc2 hG1
        refine cw_skip ?_
        refine cw_ops hA ?_
        clear hA
        refine ops_v (rv_add rfl rfl rfl) (want_yes rfl) rfl rfl ?_
        refine ops_v (rv_move rfl rfl) (want_yes rfl) rfl rfl ?_
        refine ops_nil ?_
        intro a hA
        cases hG1
        exact ⟨_, rfl, ⟨hA.part ⟨rfl, rfl, rfl, rfl, trivial⟩, ((hS).sel [] rfl).selR [0] rfl⟩⟩
    · replace hG1 := iteF hc1 hG1
      refine cw_exit ?_
      refine xcons_hit ?_
      cases hG1
      have ho := hr1 _ rfl; subst ho
      exact ⟨rfl, hA.part trivial, ((hS).sel [] rfl).selR [] rfl⟩
  · skip
    clear hA hS hl1
    rintro a w ⟨heq, hA, hS⟩
    replace hF : slices_IndexFunc_int_j1 = some r := by rw [heq] at hF; exact hF
    clear heq
    unfold slices_IndexFunc_int_j1 at hF
    refine cw_seq ?_
    refine cw_ops hA ?_
    clear hA
    refine ops_v (rv_assign rfl rfl) (want_yes rfl) rfl rfl ?_
    refine ops_nil ?_
    intro a hA
    refine cw_ret ?_
    cases hF
    exact fin1 Try.results94 hA (res_tmp rfl) ⟨rfl, (hS.sel [] rfl).weaken (R' := []) (fun _ h => nomatch h)⟩

set_option maxHeartbeats 4000000 in
set_option maxRecDepth 100000 in
theorem c_slices_ContainsFunc_int {w0 : World} {s : List Int} {f : (Int → Option Bool)} {s1 : Value} {g_f : FuncId} {cap_f : List Value} {r : Bool} (h1 : Rep.rd (All w0) w0 [s1] (s : List Int)) (hg_f : ∀ args w, (callFunc g_f args).run Try.prog w = .ok (.enter g_f args) w) (hp_f : ∀ (w' : World) (x0 : Int)  (q : Bool), Keep F0 w0 w' → f x0 = some q → Calls Try.prog g_f (([.int .i64 (x0)] : List Value) ++ cap_f).toArray w' (Ret fun v w'' => v = .bool (q) ∧ St (cxAll w') w'' [] [])) (hF : slices_ContainsFunc_int s f = some r) :
    Calls Try.prog 80 #[s1, .func (.func g_f) #[] cap_f.toArray] w0 (Ret fun v w' => v = .bool (r) ∧ St (cxAll w0) w' [] []) := by
  have hS : St (cxAll w0) w0 [] [fRd [s1] (s : List Int)] := St.enter (by
    intro f hf
    simp only [List.mem_cons, List.not_mem_nil, or_false] at hf
    subst hf; exact h1)
  refine calls_cw (args := [_, _]) Try.func80 rfl Try.ntmps80 rfl ?_
  unfold slices_ContainsFunc_int at hF
  intro a hA
  refine cw_seq ?_
  refine cw_ops hA ?_
  clear hA
  refine ops_v (rv_assign rfl rfl) (want_yes rfl) rfl rfl ?_
  refine ops_nil ?_
  intro a hA
  refine cw_seq ?_
  refine cw_ops hA ?_
  clear hA
  refine ops_v (rv_move rfl rfl) (want_yes rfl) rfl rfl ?_
  refine ops_v (rv_move rfl rfl) (want_yes rfl) rfl rfl ?_
  obtain ⟨x1, hx1, hF⟩ := bindE hF
  refine ops_c (rc_call Try.call94 rfl rfl) (want_yes rfl) rfl rfl (c_slices_IndexFunc_int (s := s) (f := f) (hS.rd 0 rfl) hg_f (fun w1 y0 q hk => hp_f w1 y0 q (hS.keep.trans hk fun _ _ _ h => h)) hx1) ?_
  rintro _ w ⟨rfl, hk⟩
  replace hS := hS.after hk; clear hk
  refine ops_v (rv_geq rfl rfl rfl) (want_yes rfl) rfl rfl ?_
  refine ops_v (rv_assign rfl rfl) (want_yes rfl) rfl rfl ?_
  refine ops_nil ?_
  intro a hA
  refine cw_ret ?_
  cases hF
  exact fin1 Try.results80 hA (res_tmp rfl) ⟨rfl, (hS.sel [] rfl).weaken (R' := []) (fun _ h => nomatch h)⟩

set_option maxHeartbeats 4000000 in
set_option maxRecDepth 100000 in
theorem c_impl_within {w0 : World} {n : Int} {low : Int} {high : Int}  {r : Bool}  (hF : impl_within n low high = some r) :
    Calls Try.prog 67 #[.int .i64 (n), .int .i64 (low), .int .i64 (high)] w0 (Ret fun v w' => v = .bool (r) ∧ St (cxAll w0) w' [] []) := by
  have hS : St (cxAll w0) w0 [] [] := St.enter (by
    intro f hf; cases hf)
  refine calls_cw (args := [_, _, _]) Try.func67 rfl Try.ntmps67 rfl ?_
  unfold impl_within at hF
  intro a hA
  refine cw_seq ?_
  refine cw_ops hA ?_
  clear hA
  refine ops_v (rv_assign rfl rfl) (want_yes rfl) rfl rfl ?_
  refine ops_nil ?_
  intro a hA
  refine cw_seq ?_
  refine cw_cut (J := fun a' w' => ∃ (x1 : Bool), impl_within_j1 x1 = some r ∧ AEnv 15 [(6, .bool (x1))] a' ∧ St (cxAll w0) w' [] []) ?_ ?_
  · skip
    refine cw_ops hA ?_
    clear hA
    refine ops_v (rv_move rfl rfl) (want_yes rfl) rfl rfl ?_
    refine ops_v (rv_move rfl rfl) (want_yes rfl) rfl rfl ?_
    refine ops_v (rv_geq rfl rfl rfl) (want_yes rfl) rfl rfl ?_
    refine ops_v (rv_move rfl rfl) (want_yes rfl) rfl rfl ?_
    refine ops_case (s := 10) rfl (fun hc1 => ?_) (fun hc1 => ?_)
    · replace hF := iteT hc1 hF
      refine ops_v (rv_move rfl rfl) (want_if rfl rfl rfl (by rw [hc1]; rfl)) rfl rfl ?_
      refine ops_v (rv_move rfl rfl) (want_if rfl rfl rfl (by rw [hc1]; rfl)) rfl rfl ?_
      refine ops_v (rv_leq rfl rfl rfl) (want_if rfl rfl rfl (by rw [hc1]; rfl)) rfl rfl ?_
      refine ops_v (rv_pick_t rfl rfl hc1 rfl) (want_yes rfl) rfl rfl ?_
      refine ops_v (rv_assign rfl rfl) (want_yes rfl) rfl rfl ?_
      refine ops_nil ?_
      intro a hA
      exact ⟨decide (n ≤ high), hF, hA.part ⟨rfl, trivial⟩, ((hS).sel [] rfl).selR [] rfl⟩
    · replace hF := iteF hc1 hF
      refine ops_off (want_if rfl rfl rfl (by rw [hc1]; rfl)) rfl rfl ?_
      refine ops_off (want_if rfl rfl rfl (by rw [hc1]; rfl)) rfl rfl ?_
      refine ops_off (want_if rfl rfl rfl (by rw [hc1]; rfl)) rfl rfl ?_
      refine ops_v (rv_pick_f rfl rfl hc1 rfl) (want_yes rfl) rfl rfl ?_
      refine ops_v (rv_assign rfl rfl) (want_yes rfl) rfl rfl ?_
      refine ops_nil ?_
      intro a hA
      exact ⟨false, hF, hA.part ⟨rfl, trivial⟩, ((hS).sel [] rfl).selR [] rfl⟩
  · skip
    clear hA hS hF
    rintro a w ⟨x1, hF, hA, hS⟩
    unfold impl_within_j1 at hF
    refine cw_ret ?_
    cases hF
    exact fin1 Try.results67 hA (res_tmp rfl) ⟨rfl, (hS.sel [] rfl).weaken (R' := []) (fun _ h => nomatch h)⟩

set_option maxHeartbeats 4000000 in
set_option maxRecDepth 100000 in
theorem c_impl_isByte {w0 : World} {x : Int}  {r : Bool}  (hF : impl_isByte x = some r) :
    Calls Try.prog 93 #[.int .i64 (x)] w0 (Ret fun v w' => v = .bool (r) ∧ St (cxAll w0) w' [] []) := by
  have hS : St (cxAll w0) w0 [] [] := St.enter (by
    intro f hf; cases hf)
  refine calls_cw (args := [_]) Try.func93 rfl Try.ntmps93 rfl ?_
  unfold impl_isByte at hF
  intro a hA
  refine cw_seq ?_
  refine cw_ops hA ?_
  clear hA
  refine ops_v (rv_assign rfl rfl) (want_yes rfl) rfl rfl ?_
  refine ops_nil ?_
  intro a hA
  refine cw_seq ?_
  refine cw_ops hA ?_
  clear hA
  refine ops_v (rv_move rfl rfl) (want_yes rfl) rfl rfl ?_
  obtain ⟨x1, hx1, hF⟩ := bindE hF
  refine ops_c (rc_call Try.call67 rfl rfl) (want_yes rfl) rfl rfl (c_impl_within (n := x) (low := 0) (high := 255)  hx1) ?_
  rintro _ w ⟨rfl, hk⟩
  replace hS := hS.after hk; clear hk
  refine ops_v (rv_assign rfl rfl) (want_yes rfl) rfl rfl ?_
  refine ops_nil ?_
  intro a hA
  refine cw_ret ?_
  cases hF
  exact fin1 Try.results93 hA (res_tmp rfl) ⟨rfl, (hS.sel [] rfl).weaken (R' := []) (fun _ h => nomatch h)⟩

set_option maxHeartbeats 4000000 in
set_option maxRecDepth 100000 in
theorem c_impl_BytesOk_1 {w0 : World} {x : Int}  {r : Bool}  (hF : impl_BytesOk_1 x = some r) :
    Calls Try.prog 92 #[.int .i64 (x)] w0 (Ret fun v w' => v = .bool (r) ∧ St (cxAll w0) w' [] []) := by
  have hS : St (cxAll w0) w0 [] [] := St.enter (by
    intro f hf; cases hf)
  refine calls_cw (args := [_]) Try.func92 rfl Try.ntmps92 rfl ?_
  unfold impl_BytesOk_1 at hF
  intro a hA
  refine cw_seq ?_
  refine cw_ops hA ?_
  clear hA
  refine ops_v (rv_assign rfl rfl) (want_yes rfl) rfl rfl ?_
  refine ops_nil ?_
  intro a hA
  refine cw_seq ?_
  refine cw_ops hA ?_
  clear hA
  refine ops_v (rv_move rfl rfl) (want_yes rfl) rfl rfl ?_
  obtain ⟨x1, hx1, hF⟩ := bindE hF
  refine ops_c (rc_call Try.call93 rfl rfl) (want_yes rfl) rfl rfl (c_impl_isByte (x := x)  hx1) ?_
  rintro _ w ⟨rfl, hk⟩
  replace hS := hS.after hk; clear hk
  refine ops_v (rv_not rfl rfl) (want_yes rfl) rfl rfl ?_
  refine ops_v (rv_assign rfl rfl) (want_yes rfl) rfl rfl ?_
  refine ops_nil ?_
  intro a hA
  refine cw_ret ?_
  cases hF
  exact fin1 Try.results92 hA (res_tmp rfl) ⟨rfl, (hS.sel [] rfl).weaken (R' := []) (fun _ h => nomatch h)⟩

set_option maxHeartbeats 4000000 in
set_option maxRecDepth 100000 in
theorem c_impl_BytesOk {w0 : World} {b : List Int} {s1 : Value} {r : Bool} (h1 : Rep.rd (All w0) w0 [s1] (b : List Int)) (hF : impl_BytesOk b = some r) :
    Calls Try.prog 79 #[s1] w0 (Ret fun v w' => v = .bool (r) ∧ St (cxAll w0) w' [] []) := by
  have hS : St (cxAll w0) w0 [] [fRd [s1] (b : List Int)] := St.enter (by
    intro f hf
    simp only [List.mem_cons, List.not_mem_nil, or_false] at hf
    subst hf; exact h1)
  refine calls_cw (args := [_]) Try.func79 rfl Try.ntmps79 rfl ?_
  unfold impl_BytesOk at hF
  intro a hA
  refine cw_seq ?_
  refine cw_ops hA ?_
  clear hA
  refine ops_v (rv_assign rfl rfl) (want_yes rfl) rfl rfl ?_
  refine ops_nil ?_
  intro a hA
  refine cw_seq ?_
  refine cw_cut (J := fun a' w' => ∃ (x1 : Bool), impl_BytesOk_j1 x1 = some r ∧ AEnv 11 [(2, .bool (x1))] a' ∧ St (cxAll w0) w' [] []) ?_ ?_
  · skip
    refine cw_ops hA ?_
    clear hA
    refine ops_v (rv_move rfl rfl) (want_yes rfl) rfl rfl ?_
    refine ops_v (rv_lenS (hS.rd 0 rfl) Try.underlying22 rfl rfl) (want_yes rfl) rfl rfl ?_
    refine ops_v (rv_leq rfl rfl rfl) (want_yes rfl) rfl rfl ?_
    refine ops_v (rv_move rfl rfl) (want_yes rfl) rfl rfl ?_
    refine ops_case (s := 6) rfl (fun hc1 => ?_) (fun hc1 => ?_)
    · replace hF := iteT hc1 hF
      refine ops_v (rv_move rfl rfl) (want_if rfl rfl rfl (by rw [hc1]; rfl)) rfl rfl ?_
      obtain ⟨x2, hx2, hF⟩ := bindE hF
      refine ops_c (rc_call Try.call80 rfl rfl) (want_if rfl rfl rfl (by rw [hc1]; rfl)) rfl rfl (c_slices_ContainsFunc_int (s := b) (f := (fun y0 => impl_BytesOk_1 y0 )) (cap_f := []) (hS.rd 0 rfl) Try.call92 (fun w1 y0  q hk  hq => c_impl_BytesOk_1    hq) hx2) ?_
      rintro _ w ⟨rfl, hk⟩
      replace hS := hS.after hk; clear hk
      refine ops_v (rv_not rfl rfl) (want_if rfl rfl rfl (by rw [hc1]; rfl)) rfl rfl ?_
      refine ops_v (rv_pick_t rfl rfl hc1 rfl) (want_yes rfl) rfl rfl ?_
      refine ops_v (rv_assign rfl rfl) (want_yes rfl) rfl rfl ?_
      refine ops_nil ?_
      intro a hA
      exact ⟨!x2, hF, hA.part ⟨rfl, trivial⟩, ((hS).sel [] rfl).selR [] rfl⟩
    · replace hF := iteF hc1 hF
      refine ops_off (want_if rfl rfl rfl (by rw [hc1]; rfl)) rfl rfl ?_
      refine ops_off (want_if rfl rfl rfl (by rw [hc1]; rfl)) rfl rfl ?_
      refine ops_off (want_if rfl rfl rfl (by rw [hc1]; rfl)) rfl rfl ?_
      refine ops_v (rv_pick_f rfl rfl hc1 rfl) (want_yes rfl) rfl rfl ?_
      refine ops_v (rv_assign rfl rfl) (want_yes rfl) rfl rfl ?_
      refine ops_nil ?_
      intro a hA
      exact ⟨false, hF, hA.part ⟨rfl, trivial⟩, ((hS).sel [] rfl).selR [] rfl⟩
  · skip
    clear hA hS hF
    rintro a w ⟨x1, hF, hA, hS⟩
    unfold impl_BytesOk_j1 at hF
    refine cw_ret ?_
    cases hF
    exact fin1 Try.results79 hA (res_tmp rfl) ⟨rfl, (hS.sel [] rfl).weaken (R' := []) (fun _ h => nomatch h)⟩

set_option maxHeartbeats 4000000 in
set_option maxRecDepth 100000 in
theorem c_impl_shaped_1 {w0 : World} {c : Int}  {r : Bool}  (hF : impl_shaped_1 c = some r) :
    Calls Try.prog 81 #[.int .i64 (c)] w0 (Ret fun v w' => v = .bool (r) ∧ St (cxAll w0) w' [] []) := by
  have hS : St (cxAll w0) w0 [] [] := St.enter (by
    intro f hf; cases hf)
  refine calls_cw (args := [_]) Try.func81 rfl Try.ntmps81 rfl ?_
  unfold impl_shaped_1 at hF
  intro a hA
  refine cw_seq ?_
  refine cw_ops hA ?_
  clear hA
  refine ops_v (rv_assign rfl rfl) (want_yes rfl) rfl rfl ?_
  refine ops_nil ?_
  intro a hA
  refine cw_seq ?_
  refine cw_ops hA ?_
  clear hA
  refine ops_v (rv_move rfl rfl) (want_yes rfl) rfl rfl ?_
  obtain ⟨x1, hx1, hF⟩ := bindE hF
  refine ops_c (rc_call Try.call67 rfl rfl) (want_yes rfl) rfl rfl (c_impl_within (n := c) (low := (-1)) (high := 2)  hx1) ?_
  rintro _ w ⟨rfl, hk⟩
  replace hS := hS.after hk; clear hk
  refine ops_v (rv_not rfl rfl) (want_yes rfl) rfl rfl ?_
  refine ops_v (rv_assign rfl rfl) (want_yes rfl) rfl rfl ?_
  refine ops_nil ?_
  intro a hA
  refine cw_ret ?_
  cases hF
  exact fin1 Try.results81 hA (res_tmp rfl) ⟨rfl, (hS.sel [] rfl).weaken (R' := []) (fun _ h => nomatch h)⟩

set_option maxHeartbeats 4000000 in
set_option maxRecDepth 100000 in
theorem c_impl_shaped {w0 : World} {h : Heap} {s1 : Value} {s2 : Value} {r : Bool} (h1 : Rep.rd (All w0) w0 [s1] (h.Bytes : List Int)) (h2 : Rep.rd (All w0) w0 [s2] (h.Class : List Int)) (hF : impl_shaped h = some r) :
    Calls Try.prog 61 #[.agg #[s1, s2]] w0 (Ret fun v w' => v = .bool (r) ∧ St (cxAll w0) w' [] []) := by
  have hS : St (cxAll w0) w0 [] [fRd [s1] (h.Bytes : List Int), fRd [s2] (h.Class : List Int)] := St.enter (by
    intro f hf
    simp only [List.mem_cons, List.not_mem_nil, or_false] at hf
    rcases hf with rfl | rfl
    · exact h1
    · exact h2)
  refine calls_cw (args := [_]) Try.func61 rfl Try.ntmps61 rfl ?_
  unfold impl_shaped at hF
  intro a hA
  refine cw_seq ?_
  refine cw_ops hA ?_
  clear hA
  refine ops_mv (rv_box (cs := [s1, s2]) hS rfl rfl rfl) (want_yes rfl) rfl rfl ?_
  clear hS
  rintro _ w ⟨b1, rfl, hS⟩
  refine ops_v (rv_assign rfl rfl) (want_yes rfl) rfl rfl ?_
  refine ops_nil ?_
  intro a hA
  refine cw_seq ?_
  refine cw_cut (J := fun a' w' => ∃ (x1 : Bool), impl_shaped_j1 x1 = some r ∧ AEnv 24 [(2, .bool (x1))] a' ∧ St (cxAll w0) w' [] []) ?_ ?_
  · skip
    refine cw_ops hA ?_
    clear hA
    refine ops_v (rv_fld (m := 0) Try.underlying32 rfl rfl Try.sizeOf22 rfl rfl) (want_yes rfl) rfl rfl ?_
    refine ops_v (rv_load1 rfl rfl Try.isAgg22 (hS.cell 0 rfl rfl)) (want_yes rfl) rfl rfl ?_
    refine ops_v (rv_lenS (hS.rd 0 rfl) Try.underlying22 rfl rfl) (want_yes rfl) rfl rfl ?_
    refine ops_v (rv_eql rfl rfl rfl) (want_yes rfl) rfl rfl ?_
    refine ops_v (rv_move rfl rfl) (want_yes rfl) rfl rfl ?_
    refine ops_case (s := 7) rfl (fun hc1 => ?_) (fun hc1 => ?_)
    · replace hF := iteT hc1 hF
      refine ops_v (rv_fld (m := 0) Try.underlying32 rfl rfl Try.sizeOf22 rfl rfl) (want_if rfl rfl rfl (by rw [hc1]; rfl)) rfl rfl ?_
      refine ops_v (rv_load1 rfl rfl Try.isAgg22 (hS.cell 0 rfl rfl)) (want_if rfl rfl rfl (by rw [hc1]; rfl)) rfl rfl ?_
      obtain ⟨x2, hx2, hF⟩ := bindE hF
      refine ops_c (rc_call Try.call79 rfl rfl) (want_if rfl rfl rfl (by rw [hc1]; rfl)) rfl rfl (c_impl_BytesOk (b := h.Bytes) (hS.rd 0 rfl) hx2) ?_
      rintro _ w ⟨rfl, hk⟩
      replace hS := hS.after hk; clear hk
      refine ops_v (rv_pick_t rfl rfl hc1 rfl) (want_yes rfl) rfl rfl ?_
      refine ops_v (rv_move rfl rfl) (want_yes rfl) rfl rfl ?_
      refine ops_case (s := 12) rfl (fun hc2 => ?_) (fun hc2 => ?_)
      · replace hF := iteT hc2 hF
        refine ops_v (rv_fld (m := 0) Try.underlying32 rfl rfl Try.sizeOf22 rfl rfl) (want_if rfl rfl rfl (by rw [hc2]; rfl)) rfl rfl ?_
        refine ops_v (rv_load1 rfl rfl Try.isAgg22 (hS.cell 0 rfl rfl)) (want_if rfl rfl rfl (by rw [hc2]; rfl)) rfl rfl ?_
        refine ops_v (rv_lenS (hS.rd 1 rfl) Try.underlying22 rfl rfl) (want_if rfl rfl rfl (by rw [hc2]; rfl)) rfl rfl ?_
        refine ops_v (rv_eql rfl rfl rfl) (want_if rfl rfl rfl (by rw [hc2]; rfl)) rfl rfl ?_
        refine ops_v (rv_pick_t rfl rfl hc2 rfl) (want_yes rfl) rfl rfl ?_
        refine ops_v (rv_move rfl rfl) (want_yes rfl) rfl rfl ?_
        refine ops_case (s := 18) rfl (fun hc3 => ?_) (fun hc3 => ?_)
        · replace hF := iteT hc3 hF
          refine ops_v (rv_fld (m := 0) Try.underlying32 rfl rfl Try.sizeOf22 rfl rfl) (want_if rfl rfl rfl (by rw [hc3]; rfl)) rfl rfl ?_
          refine ops_v (rv_load1 rfl rfl Try.isAgg22 (hS.cell 0 rfl rfl)) (want_if rfl rfl rfl (by rw [hc3]; rfl)) rfl rfl ?_
          obtain ⟨x3, hx3, hF⟩ := bindE hF
          refine ops_c (rc_call Try.call80 rfl rfl) (want_if rfl rfl rfl (by rw [hc3]; rfl)) rfl rfl (c_slices_ContainsFunc_int (s := h.Class) (f := (fun y0 => impl_shaped_1 y0 )) (cap_f := []) (hS.rd 1 rfl) Try.call81 (fun w1 y0  q hk  hq => c_impl_shaped_1    hq) hx3) ?_
          rintro _ w ⟨rfl, hk⟩
          replace hS := hS.after hk; clear hk
          refine ops_v (rv_not rfl rfl) (want_if rfl rfl rfl (by rw [hc3]; rfl)) rfl rfl ?_
          refine ops_v (rv_pick_t rfl rfl hc3 rfl) (want_yes rfl) rfl rfl ?_
          refine ops_v (rv_assign rfl rfl) (want_yes rfl) rfl rfl ?_
          refine ops_nil ?_
          intro a hA
          exact ⟨!x3, hF, hA.part ⟨rfl, trivial⟩, ((hS).sel [] rfl).selR [] rfl⟩
        · replace hF := iteF hc3 hF
          refine ops_off (want_if rfl rfl rfl (by rw [hc3]; rfl)) rfl rfl ?_
          refine ops_off (want_if rfl rfl rfl (by rw [hc3]; rfl)) rfl rfl ?_
          refine ops_off (want_if rfl rfl rfl (by rw [hc3]; rfl)) rfl rfl ?_
          refine ops_off (want_if rfl rfl rfl (by rw [hc3]; rfl)) rfl rfl ?_
          refine ops_v (rv_pick_f rfl rfl hc3 rfl) (want_yes rfl) rfl rfl ?_
          refine ops_v (rv_assign rfl rfl) (want_yes rfl) rfl rfl ?_
          refine ops_nil ?_
          intro a hA
          exact ⟨false, hF, hA.part ⟨rfl, trivial⟩, ((hS).sel [] rfl).selR [] rfl⟩
      · replace hF := iteF hc2 hF
        refine ops_off (want_if rfl rfl rfl (by rw [hc2]; rfl)) rfl rfl ?_
        refine ops_off (want_if rfl rfl rfl (by rw [hc2]; rfl)) rfl rfl ?_
        refine ops_off (want_if rfl rfl rfl (by rw [hc2]; rfl)) rfl rfl ?_
        refine ops_off (want_if rfl rfl rfl (by rw [hc2]; rfl)) rfl rfl ?_
        refine ops_v (rv_pick_f rfl rfl hc2 rfl) (want_yes rfl) rfl rfl ?_
        refine ops_v (rv_move rfl rfl) (want_yes rfl) rfl rfl ?_
        refine ops_off (want_if rfl rfl rfl rfl) rfl rfl ?_
        refine ops_off (want_if rfl rfl rfl rfl) rfl rfl ?_
        refine ops_off (want_if rfl rfl rfl rfl) rfl rfl ?_
        refine ops_off (want_if rfl rfl rfl rfl) rfl rfl ?_
        refine ops_v (rv_pick_f rfl rfl rfl rfl) (want_yes rfl) rfl rfl ?_
        refine ops_v (rv_assign rfl rfl) (want_yes rfl) rfl rfl ?_
        refine ops_nil ?_
        intro a hA
        exact ⟨false, hF, hA.part ⟨rfl, trivial⟩, ((hS).sel [] rfl).selR [] rfl⟩
    · replace hF := iteF hc1 hF
      refine ops_off (want_if rfl rfl rfl (by rw [hc1]; rfl)) rfl rfl ?_
      refine ops_off (want_if rfl rfl rfl (by rw [hc1]; rfl)) rfl rfl ?_
      refine ops_off (want_if rfl rfl rfl (by rw [hc1]; rfl)) rfl rfl ?_
      refine ops_v (rv_pick_f rfl rfl hc1 rfl) (want_yes rfl) rfl rfl ?_
      refine ops_v (rv_move rfl rfl) (want_yes rfl) rfl rfl ?_
      refine ops_off (want_if rfl rfl rfl rfl) rfl rfl ?_
      refine ops_off (want_if rfl rfl rfl rfl) rfl rfl ?_
      refine ops_off (want_if rfl rfl rfl rfl) rfl rfl ?_
      refine ops_off (want_if rfl rfl rfl rfl) rfl rfl ?_
      refine ops_v (rv_pick_f rfl rfl rfl rfl) (want_yes rfl) rfl rfl ?_
      refine ops_v (rv_move rfl rfl) (want_yes rfl) rfl rfl ?_
      refine ops_off (want_if rfl rfl rfl rfl) rfl rfl ?_
      refine ops_off (want_if rfl rfl rfl rfl) rfl rfl ?_
      refine ops_off (want_if rfl rfl rfl rfl) rfl rfl ?_
      refine ops_off (want_if rfl rfl rfl rfl) rfl rfl ?_
      refine ops_v (rv_pick_f rfl rfl rfl rfl) (want_yes rfl) rfl rfl ?_
      refine ops_v (rv_assign rfl rfl) (want_yes rfl) rfl rfl ?_
      refine ops_nil ?_
      intro a hA
      exact ⟨false, hF, hA.part ⟨rfl, trivial⟩, ((hS).sel [] rfl).selR [] rfl⟩
  · skip
    clear hA hS hF
    rintro a w ⟨x1, hF, hA, hS⟩
    unfold impl_shaped_j1 at hF
    refine cw_ret ?_
    cases hF
    exact fin1 Try.results61 hA (res_tmp rfl) ⟨rfl, (hS.sel [] rfl).weaken (R' := []) (fun _ h => nomatch h)⟩

set_option maxHeartbeats 4000000 in
set_option maxRecDepth 100000 in
theorem c_impl_isZero_1 {w0 : World} {x : Int}  {r : Bool}  (hF : impl_isZero_1 x = some r) :
    Calls Try.prog 95 #[.int .i64 (x)] w0 (Ret fun v w' => v = .bool (r) ∧ St (cxAll w0) w' [] []) := by
  have hS : St (cxAll w0) w0 [] [] := St.enter (by
    intro f hf; cases hf)
  refine calls_cw (args := [_]) Try.func95 rfl Try.ntmps95 rfl ?_
  unfold impl_isZero_1 at hF
  intro a hA
  refine cw_seq ?_
  refine cw_ops hA ?_
  clear hA
  refine ops_v (rv_assign rfl rfl) (want_yes rfl) rfl rfl ?_
  refine ops_nil ?_
  intro a hA
  refine cw_seq ?_
  refine cw_ops hA ?_
  clear hA
  refine ops_v (rv_move rfl rfl) (want_yes rfl) rfl rfl ?_
  refine ops_v (rv_neq rfl rfl rfl) (want_yes rfl) rfl rfl ?_
  refine ops_v (rv_assign rfl rfl) (want_yes rfl) rfl rfl ?_
  refine ops_nil ?_
  intro a hA
  refine cw_ret ?_
  cases hF
  exact fin1 Try.results95 hA (res_tmp rfl) ⟨rfl, (hS.sel [] rfl).weaken (R' := []) (fun _ h => nomatch h)⟩

set_option maxHeartbeats 4000000 in
set_option maxRecDepth 100000 in
theorem c_impl_isZero {w0 : World} {b : List Int} {s1 : Value} {r : Bool} (h1 : Rep.rd (All w0) w0 [s1] (b : List Int)) (hF : impl_isZero b = some r) :
    Calls Try.prog 82 #[s1] w0 (Ret fun v w' => v = .bool (r) ∧ St (cxAll w0) w' [] []) := by
  have hS : St (cxAll w0) w0 [] [fRd [s1] (b : List Int)] := St.enter (by
    intro f hf
    simp only [List.mem_cons, List.not_mem_nil, or_false] at hf
    subst hf; exact h1)
  refine calls_cw (args := [_]) Try.func82 rfl Try.ntmps82 rfl ?_
  unfold impl_isZero at hF
  intro a hA
  refine cw_seq ?_
  refine cw_ops hA ?_
  clear hA
  refine ops_v (rv_assign rfl rfl) (want_yes rfl) rfl rfl ?_
  refine ops_nil ?_
  intro a hA
  refine cw_seq ?_
  refine cw_ops hA ?_
  clear hA
  refine ops_v (rv_move rfl rfl) (want_yes rfl) rfl rfl ?_
  obtain ⟨x1, hx1, hF⟩ := bindE hF
  refine ops_c (rc_call Try.call80 rfl rfl) (want_yes rfl) rfl rfl (c_slices_ContainsFunc_int (s := b) (f := (fun y0 => impl_isZero_1 y0 )) (cap_f := []) (hS.rd 0 rfl) Try.call95 (fun w1 y0  q hk  hq => c_impl_isZero_1    hq) hx1) ?_
  rintro _ w ⟨rfl, hk⟩
  replace hS := hS.after hk; clear hk
  refine ops_v (rv_not rfl rfl) (want_yes rfl) rfl rfl ?_
  refine ops_v (rv_assign rfl rfl) (want_yes rfl) rfl rfl ?_
  refine ops_nil ?_
  intro a hA
  refine cw_ret ?_
  cases hF
  exact fin1 Try.results82 hA (res_tmp rfl) ⟨rfl, (hS.sel [] rfl).weaken (R' := []) (fun _ h => nomatch h)⟩

set_option maxHeartbeats 4000000 in
set_option maxRecDepth 100000 in
theorem c_impl_isClass {w0 : World} {c : Int}  {r : Bool}  (hF : impl_isClass c = some r) :
    Calls Try.prog 96 #[.int .i64 (c)] w0 (Ret fun v w' => v = .bool (r) ∧ St (cxAll w0) w' [] []) := by
  have hS : St (cxAll w0) w0 [] [] := St.enter (by
    intro f hf; cases hf)
  refine calls_cw (args := [_]) Try.func96 rfl Try.ntmps96 rfl ?_
  unfold impl_isClass at hF
  intro a hA
  refine cw_seq ?_
  refine cw_ops hA ?_
  clear hA
  refine ops_v (rv_assign rfl rfl) (want_yes rfl) rfl rfl ?_
  refine ops_nil ?_
  intro a hA
  refine cw_seq ?_
  refine cw_ops hA ?_
  clear hA
  refine ops_v (rv_move rfl rfl) (want_yes rfl) rfl rfl ?_
  obtain ⟨x1, hx1, hF⟩ := bindE hF
  refine ops_c (rc_call Try.call67 rfl rfl) (want_yes rfl) rfl rfl (c_impl_within (n := c) (low := 0) (high := 2)  hx1) ?_
  rintro _ w ⟨rfl, hk⟩
  replace hS := hS.after hk; clear hk
  refine ops_v (rv_assign rfl rfl) (want_yes rfl) rfl rfl ?_
  refine ops_nil ?_
  intro a hA
  refine cw_ret ?_
  cases hF
  exact fin1 Try.results96 hA (res_tmp rfl) ⟨rfl, (hS.sel [] rfl).weaken (R' := []) (fun _ h => nomatch h)⟩
end Go.Proofs.Ytpndngnohcffnaa
