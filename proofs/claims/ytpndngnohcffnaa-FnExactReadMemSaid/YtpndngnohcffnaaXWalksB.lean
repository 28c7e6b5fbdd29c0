import Derived.Test.YtpndngnohcffnaaXWalksA
namespace Go.Proofs.Ytpndngnohcffnaa
open Go.Gv
set_option maxHeartbeats 4000000 in
set_option maxRecDepth 100000 in
theorem c_impl_SizeOf {w0 : World} {c : Int}  {r : Int}  (hF : impl_SizeOf c = some r) :
    Calls Try.prog 97 #[.int .i64 (c)] w0 (Ret fun v w' => v = .int .i64 (r) ∧ St (cxAll w0) w' [] []) := by
  have hS : St (cxAll w0) w0 [] [] := St.enter (by
    intro f hf; cases hf)
  refine calls_cw (args := [_]) Try.func97 rfl Try.ntmps97 rfl ?_
  unfold impl_SizeOf at hF
  intro a hA
  refine cw_seq ?_
  refine cw_ops hA ?_
  clear hA
  refine ops_v (rv_assign rfl rfl) (want_yes rfl) rfl rfl ?_
  refine ops_nil ?_
  intro a hA
  refine cw_seq ?_
  refine cw_seq ?_
  refine cw_ops hA ?_
  clear hA
  refine ops_v (rv_move rfl rfl) (want_yes rfl) rfl rfl ?_
  obtain ⟨x1, hx1, hF⟩ := bindE hF
  refine ops_c (rc_call Try.call96 rfl rfl) (want_yes rfl) rfl rfl (c_impl_isClass (c := c)  hx1) ?_
  rintro _ w ⟨rfl, hk⟩
  replace hS := hS.after hk; clear hk
  refine ops_v (rv_not rfl rfl) (want_yes rfl) rfl rfl ?_
  refine ops_nil ?_
  intro a hA
  refine cw_cond hA rfl (fun hc1 => ?_) (fun hc1 => ?_)
  · replace hF := iteT hc1 hF
    refine cw_seq ?_
    refine cw_ops hA ?_
    clear hA
    refine ops_v (rv_assign rfl rfl) (want_yes rfl) rfl rfl ?_
    refine ops_nil ?_
    intro a hA
    refine cw_ret ?_
    cases hF
    exact fin1 Try.results97 hA (res_tmp rfl) ⟨rfl, (hS.sel [] rfl).weaken (R' := []) (fun _ h => nomatch h)⟩
  · replace hF := iteF hc1 hF
    refine cw_skip ?_
    refine cw_seq ?_
    refine cw_ops hA ?_
    clear hA
    refine ops_v (rv_buildA (cells := #[.int .i64 (8), .int .i64 (16), .int .i64 (40)]) rfl Try.zeroValue104 Try.underlying104 Try.sizeOf3 rfl rfl) (want_yes rfl) rfl rfl ?_
    refine ops_v (rv_move rfl rfl) (want_yes rfl) rfl rfl ?_
    obtain ⟨x2, hx2, hF⟩ := bindE hF
    refine ops_v (rv_arr (fun q : Int => .int .i64 q) Try.underlying104 Try.sizeOf3 Try.isAgg3 hx2 rfl rfl rfl rfl rfl) (want_yes rfl) rfl rfl ?_
    refine ops_v (rv_assign rfl rfl) (want_yes rfl) rfl rfl ?_
    refine ops_nil ?_
    intro a hA
    refine cw_ret ?_
    cases hF
    exact fin1 Try.results97 hA (res_tmp rfl) ⟨rfl, (hS.sel [] rfl).weaken (R' := []) (fun _ h => nomatch h)⟩

set_option maxHeartbeats 4000000 in
set_option maxRecDepth 100000 in
theorem c_impl_StrideOf {w0 : World} {c : Int}  {r : Int}  (hF : impl_StrideOf c = some r) :
    Calls Try.prog 85 #[.int .i64 (c)] w0 (Ret fun v w' => v = .int .i64 (r) ∧ St (cxAll w0) w' [] []) := by
  have hS : St (cxAll w0) w0 [] [] := St.enter (by
    intro f hf; cases hf)
  refine calls_cw (args := [_]) Try.func85 rfl Try.ntmps85 rfl ?_
  unfold impl_StrideOf at hF
  intro a hA
  refine cw_seq ?_
  refine cw_ops hA ?_
  clear hA
  refine ops_v (rv_assign rfl rfl) (want_yes rfl) rfl rfl ?_
  refine ops_nil ?_
  intro a hA
  refine cw_seq ?_
  refine cw_seq ?_
  refine cw_ops hA ?_
  clear hA
  refine ops_v (rv_move rfl rfl) (want_yes rfl) rfl rfl ?_
  obtain ⟨x1, hx1, hF⟩ := bindE hF
  refine ops_c (rc_call Try.call96 rfl rfl) (want_yes rfl) rfl rfl (c_impl_isClass (c := c)  hx1) ?_
  rintro _ w ⟨rfl, hk⟩
  replace hS := hS.after hk; clear hk
  refine ops_v (rv_not rfl rfl) (want_yes rfl) rfl rfl ?_
  refine ops_nil ?_
  intro a hA
  refine cw_cond hA rfl (fun hc1 => ?_) (fun hc1 => ?_)
  · replace hF := iteT hc1 hF
    refine cw_seq ?_
    refine cw_ops hA ?_
    clear hA
    refine ops_v (rv_assign rfl rfl) (want_yes rfl) rfl rfl ?_
    refine ops_nil ?_
    intro a hA
    refine cw_ret ?_
    cases hF
    exact fin1 Try.results85 hA (res_tmp rfl) ⟨rfl, (hS.sel [] rfl).weaken (R' := []) (fun _ h => nomatch h)⟩
  · replace hF := iteF hc1 hF
    refine cw_skip ?_
    refine cw_seq ?_
    refine cw_ops hA ?_
    clear hA
    refine ops_v (rv_move rfl rfl) (want_yes rfl) rfl rfl ?_
    obtain ⟨x2, hx2, hF⟩ := bindE hF
    refine ops_c (rc_call Try.call97 rfl rfl) (want_yes rfl) rfl rfl (c_impl_SizeOf (c := c)  hx2) ?_
    rintro _ w ⟨rfl, hk⟩
    replace hS := hS.after hk; clear hk
    refine ops_v (rv_add rfl rfl rfl) (want_yes rfl) rfl rfl ?_
    refine ops_v (rv_assign rfl rfl) (want_yes rfl) rfl rfl ?_
    refine ops_nil ?_
    intro a hA
    refine cw_ret ?_
    cases hF
    exact fin1 Try.results85 hA (res_tmp rfl) ⟨rfl, (hS.sel [] rfl).weaken (R' := []) (fun _ h => nomatch h)⟩

set_option maxHeartbeats 4000000 in
set_option maxRecDepth 100000 in
theorem c_impl_PerPage {w0 : World} {c : Int}  {r : Int}  (hF : impl_PerPage c = some r) :
    Calls Try.prog 83 #[.int .i64 (c)] w0 (Ret fun v w' => v = .int .i64 (r) ∧ St (cxAll w0) w' [] []) := by
  have hS : St (cxAll w0) w0 [] [] := St.enter (by
    intro f hf; cases hf)
  refine calls_cw (args := [_]) Try.func83 rfl Try.ntmps83 rfl ?_
  unfold impl_PerPage at hF
  intro a hA
  refine cw_seq ?_
  refine cw_ops hA ?_
  clear hA
  refine ops_v (rv_assign rfl rfl) (want_yes rfl) rfl rfl ?_
  refine ops_nil ?_
  intro a hA
  refine cw_seq ?_
  refine cw_seq ?_
  refine cw_ops hA ?_
  clear hA
  refine ops_v (rv_move rfl rfl) (want_yes rfl) rfl rfl ?_
  obtain ⟨x1, hx1, hF⟩ := bindE hF
  refine ops_c (rc_call Try.call96 rfl rfl) (want_yes rfl) rfl rfl (c_impl_isClass (c := c)  hx1) ?_
  rintro _ w ⟨rfl, hk⟩
  replace hS := hS.after hk; clear hk
  refine ops_v (rv_not rfl rfl) (want_yes rfl) rfl rfl ?_
  refine ops_nil ?_
  intro a hA
  refine cw_cond hA rfl (fun hc1 => ?_) (fun hc1 => ?_)
  · replace hF := iteT hc1 hF
    refine cw_seq ?_
    refine cw_ops hA ?_
    clear hA
    refine ops_v (rv_assign rfl rfl) (want_yes rfl) rfl rfl ?_
    refine ops_nil ?_
    intro a hA
    refine cw_ret ?_
    cases hF
    exact fin1 Try.results83 hA (res_tmp rfl) ⟨rfl, (hS.sel [] rfl).weaken (R' := []) (fun _ h => nomatch h)⟩
  · replace hF := iteF hc1 hF
    refine cw_skip ?_
    refine cw_seq ?_
    refine cw_ops hA ?_
    clear hA
    refine ops_v (rv_move rfl rfl) (want_yes rfl) rfl rfl ?_
    obtain ⟨x2, hx2, hF⟩ := bindE hF
    refine ops_c (rc_call Try.call85 rfl rfl) (want_yes rfl) rfl rfl (c_impl_StrideOf (c := c)  hx2) ?_
    rintro _ w ⟨rfl, hk⟩
    replace hS := hS.after hk; clear hk
    obtain ⟨hn1, hF⟩ := needE hF
    refine ops_v (rv_quo rfl rfl rfl hn1) (want_yes rfl) rfl rfl ?_
    refine ops_v (rv_assign rfl rfl) (want_yes rfl) rfl rfl ?_
    refine ops_nil ?_
    intro a hA
    refine cw_ret ?_
    cases hF
    exact fin1 Try.results83 hA (res_tmp rfl) ⟨rfl, (hS.sel [] rfl).weaken (R' := []) (fun _ h => nomatch h)⟩

set_option maxHeartbeats 4000000 in
set_option maxRecDepth 100000 in
theorem c_impl_loadNum {w0 : World} {b : List Int} {at_ : Int} {width : Int} {s1 : Value} {r : Int} (h1 : Rep.rd (All w0) w0 [s1] (b : List Int)) (hF : impl_loadNum b at_ width = some r) :
    Calls Try.prog 84 #[s1, .int .i64 (at_), .int .i64 (width)] w0 (Ret fun v w' => v = .int .i64 (r) ∧ St (cxAll w0) w' [] []) := by
  have hS : St (cxAll w0) w0 [] [fRd [s1] (b : List Int)] := St.enter (by
    intro f hf
    simp only [List.mem_cons, List.not_mem_nil, or_false] at hf
    subst hf; exact h1)
  refine calls_cw (args := [_, _, _]) Try.func84 rfl Try.ntmps84 rfl ?_
  unfold impl_loadNum at hF
  intro a hA
  refine cw_seq ?_
  refine cw_ops hA ?_
  clear hA
  refine ops_v (rv_assign rfl rfl) (want_yes rfl) rfl rfl ?_
  refine ops_nil ?_
  intro a hA
  refine cw_seq ?_
  refine cw_ops hA ?_
  clear hA
  refine ops_v (rv_assign rfl rfl) (want_yes rfl) rfl rfl ?_
  refine ops_nil ?_
  intro a hA
  refine cw_seq ?_
  refine cw_seq ?_
  refine cw_ops hA ?_
  clear hA
  refine ops_v (rv_move rfl rfl) (want_yes rfl) rfl rfl ?_
  refine ops_v (rv_move rfl rfl) (want_yes rfl) rfl rfl ?_
  refine ops_v (rv_move rfl rfl) (want_yes rfl) rfl rfl ?_
  refine ops_v (rv_move rfl rfl) (want_yes rfl) rfl rfl ?_
  refine ops_v (rv_add rfl rfl rfl) (want_yes rfl) rfl rfl ?_
  obtain ⟨hn1, hF⟩ := needE hF
  replace hS := hS.subF (n := 1) (a := at_.toNat) (b := (w64 (at_ + width)).toNat) 0 rfl rfl (by omega) (by omega)
  refine ops_v (rv_sub_lh (n := 1) (hS.rd 0 rfl) rfl Try.underlying22 Try.sizeOf3 hn1 rfl rfl rfl rfl) (want_yes rfl) rfl rfl ?_
  refine ops_v (rv_lenS (hS.rd 1 rfl) Try.underlying22 rfl rfl) (want_yes rfl) rfl rfl ?_
  refine ops_v (rv_move rfl rfl) (want_yes rfl) rfl rfl ?_
  refine ops_nil ?_
  intro a hA
  obtain ⟨o1, hl1, hF⟩ := bindE hF
  refine cw_cut (J := fun a' w' => ∃ (x5 : Int), o1 = x5 ∧ AEnv 27 [(7, .int .i64 (x5))] a' ∧ St (cxAll w0) w' [] []) ?_ ?_
  · refine cw_block ?_
    refine cw_loop (body := impl_loadNum_l1 b at_ width) (r := o1) (fun sg a' w' => AEnv 27 [(7, .int .i64 (sg.1)), (15, (subV 1 at_.toNat ((w64 (at_ + width)).toNat) s1)), (16, .int .i64 ((((b.take ((w64 (at_ + width)).toNat)).drop at_.toNat).length : Int))), (17, .int .i64 (sg.2))] a' ∧ St (cxAll w0) w' [] [fRd [(subV 1 at_.toNat ((w64 (at_ + width)).toNat) s1)] ((b.take ((w64 (at_ + width)).toNat)).drop at_.toNat : List Int)]) ?_ hl1 ⟨hA.part ⟨rfl, rfl, rfl, rfl, trivial⟩, ((hS).sel [] rfl).selR [1] rfl⟩
    clear hA hS hl1
    rintro ⟨x3, x4⟩ a w q1 ⟨hA, hS⟩ hG1 hr1
    try dsimp only at hA hS
    unfold impl_loadNum_l1 at hG1
    refine cw_seq ?_
    refine cw_ops hA ?_
    clear hA
    refine ops_v (rv_lss rfl rfl rfl) (want_yes rfl) rfl rfl ?_
    refine ops_nil ?_
    intro a hA
    refine cw_seq ?_
    refine cw_cond hA rfl (fun hc1 => ?_) (fun hc1 => ?_)
    · replace hG1 := iteT hc1 hG1
      refine cw_skip ?_
      refine cw_seq ?_
      refine cw_block ?_
      refine cw_seq ?_
      refine cw_ops hA ?_
      clear hA
      obtain ⟨x6, hx6, hG1⟩ := bindE hG1
      refine ops_v (rv_idx (m := 1) (hS.rd 0 rfl) rfl hx6 Try.underlying22 Try.sizeOf3 rfl rfl rfl) (want_yes rfl) rfl rfl ?_
      refine ops_v (rv_load1 rfl rfl Try.isAgg3 (cell1 (el_Int (hS.rd 0 rfl) (idx_some hx6).2.2))) (want_yes rfl) rfl rfl ?_
      refine ops_v (rv_assign rfl rfl) (want_yes rfl) rfl rfl ?_
      refine ops_nil ?_
      intro a hA
      refine cw_ops hA ?_
      clear hA
      refine ops_v (rv_move rfl rfl) (want_yes rfl) rfl rfl ?_
      refine ops_v (rv_mul rfl rfl rfl) (want_yes rfl) rfl rfl ?_
      refine ops_v (rv_move rfl rfl) (want_yes rfl) rfl rfl ?_
      refine ops_v (rv_add rfl rfl rfl) (want_yes rfl) rfl rfl ?_
      refine ops_v (rv_assign rfl rfl) (want_yes rfl) rfl rfl ?_
      refine ops_nil ?_
      intro a hA
      refine cw_ops hA ?_
      clear hA
      refine ops_v (rv_add rfl rfl rfl) (want_yes rfl) rfl rfl ?_
      refine ops_v (rv_move rfl rfl) (want_yes rfl) rfl rfl ?_
      refine ops_nil ?_
      intro a hA
      cases hG1
      exact ⟨_, rfl, ⟨hA.part ⟨rfl, rfl, rfl, rfl, trivial⟩, ((hS).sel [] rfl).selR [0] rfl⟩⟩
    · replace hG1 := iteF hc1 hG1
      refine cw_exit ?_
      refine xcons_hit ?_
      cases hG1
      have ho := hr1 _ rfl; subst ho
      exact ⟨x3, rfl, hA.part ⟨rfl, trivial⟩, ((hS).sel [] rfl).selR [] rfl⟩
  · skip
    clear hA hS hl1
    rintro a w ⟨x5, heq, hA, hS⟩
    replace hF : impl_loadNum_j1 x5 = some r := by rw [heq] at hF; exact hF
    clear heq
    unfold impl_loadNum_j1 at hF
    refine cw_seq ?_
    refine cw_ops hA ?_
    clear hA
    refine ops_v (rv_move rfl rfl) (want_yes rfl) rfl rfl ?_
    refine ops_v (rv_assign rfl rfl) (want_yes rfl) rfl rfl ?_
    refine ops_nil ?_
    intro a hA
    refine cw_ret ?_
    cases hF
    exact fin1 Try.results84 hA (res_tmp rfl) ⟨rfl, (hS.sel [] rfl).weaken (R' := []) (fun _ h => nomatch h)⟩

set_option maxHeartbeats 4000000 in
set_option maxRecDepth 100000 in
theorem c_impl_pageOk {w0 : World} {h : Heap} {page : Int} {s1 : Value} {s2 : Value} {r : Bool} (h1 : Rep.rd (All w0) w0 [s1] (h.Bytes : List Int)) (h2 : Rep.rd (All w0) w0 [s2] (h.Class : List Int)) (hF : impl_pageOk h page = some r) :
    Calls Try.prog 62 #[.agg #[s1, s2], .int .i64 (page)] w0 (Ret fun v w' => v = .bool (r) ∧ St (cxAll w0) w' [] []) := by
  have hS : St (cxAll w0) w0 [] [fRd [s1] (h.Bytes : List Int), fRd [s2] (h.Class : List Int)] := St.enter (by
    intro f hf
    simp only [List.mem_cons, List.not_mem_nil, or_false] at hf
    rcases hf with rfl | rfl
    · exact h1
    · exact h2)
  refine calls_cw (args := [_, _]) Try.func62 rfl Try.ntmps62 rfl ?_
  unfold impl_pageOk at hF
  intro a hA
  refine cw_seq ?_
  refine cw_ops hA ?_
  clear hA
  refine ops_mv (rv_box (cs := [s1, s2]) hS rfl rfl rfl) (want_yes rfl) rfl rfl ?_
  clear hS
  rintro _ w ⟨b1, rfl, hS⟩
  refine ops_v (rv_assign rfl rfl) (want_yes rfl) rfl rfl ?_
  refine ops_nil ?_
  intro a hA
  refine cw_seq ?_
  refine cw_any (Keeps (cxAll w0) [cBox b1 [s1, s2]] [fRd [s1] (h.Bytes : List Int), fRd [s2] (h.Class : List Int)]) mixed_Try hA hS ?_
  clear hA hS; intro w hS
  have hK : Keeps (cxAll w0) [cBox b1 [s1, s2]] [fRd [s1] (h.Bytes : List Int), fRd [s2] (h.Class : List Int)] w := ⟨_, (hS.sel [0] rfl).selR [0, 1] rfl⟩
  refine any_v 0 (by kernel_rfl) rfl (by kernel_rfl) (by kernel_rfl) hK (fun _ _ => (rv_fld (m := 0) Try.underlying32 rfl rfl Try.sizeOf22 rfl rfl)) (want_yes rfl) rfl rfl ?_
  refine any_v 1 (by kernel_rfl) rfl (by kernel_rfl) (by kernel_rfl) hK (fun w hk => by obtain ⟨_, hS⟩ := hk; exact (rv_load1 rfl rfl Try.isAgg22 (hS.cell 0 rfl rfl))) (want_yes rfl) rfl rfl ?_
  refine any_v 2 (by kernel_rfl) rfl (by kernel_rfl) (by kernel_rfl) hK (fun _ _ => (rv_move rfl rfl)) (want_yes rfl) rfl rfl ?_
  obtain ⟨x1, hx1, hF⟩ := bindE hF
  refine any_v 3 (by kernel_rfl) rfl (by kernel_rfl) (by kernel_rfl) hK (fun w hk => by obtain ⟨_, hS⟩ := hk; exact (rv_idx (m := 1) (hS.rd 1 rfl) rfl hx1 Try.underlying22 Try.sizeOf3 rfl rfl rfl)) (want_yes rfl) rfl rfl ?_
  refine any_v 4 (by kernel_rfl) rfl (by kernel_rfl) (by kernel_rfl) hK (fun w hk => by obtain ⟨_, hS⟩ := hk; exact (rv_load1 rfl rfl Try.isAgg3 (cell1 (el_Int (hS.rd 1 rfl) (idx_some hx1).2.2)))) (want_yes rfl) rfl rfl ?_
  refine any_v 5 (by kernel_rfl) rfl (by kernel_rfl) (by kernel_rfl) hK (fun _ _ => (rv_fld (m := 0) Try.underlying32 rfl rfl Try.sizeOf22 rfl rfl)) (want_yes rfl) rfl rfl ?_
  refine any_v 6 (by kernel_rfl) rfl (by kernel_rfl) (by kernel_rfl) hK (fun w hk => by obtain ⟨_, hS⟩ := hk; exact (rv_load1 rfl rfl Try.isAgg22 (hS.cell 0 rfl rfl))) (want_yes rfl) rfl rfl ?_
  refine any_v 7 (by kernel_rfl) rfl (by kernel_rfl) (by kernel_rfl) hK (fun _ _ => (rv_move rfl rfl)) (want_yes rfl) rfl rfl ?_
  refine any_v 8 (by kernel_rfl) rfl (by kernel_rfl) (by kernel_rfl) hK (fun _ _ => (rv_mul rfl rfl rfl)) (want_yes rfl) rfl rfl ?_
  refine any_v 9 (by kernel_rfl) rfl (by kernel_rfl) (by kernel_rfl) hK (fun _ _ => (rv_move rfl rfl)) (want_yes rfl) rfl rfl ?_
  refine any_v 10 (by kernel_rfl) rfl (by kernel_rfl) (by kernel_rfl) hK (fun _ _ => (rv_add rfl rfl rfl)) (want_yes rfl) rfl rfl ?_
  refine any_v 11 (by kernel_rfl) rfl (by kernel_rfl) (by kernel_rfl) hK (fun _ _ => (rv_mul rfl rfl rfl)) (want_yes rfl) rfl rfl ?_
  obtain ⟨hn1, hF⟩ := needE hF
  replace hS := hS.subF (n := 1) (a := (w64 (page * 64)).toNat) (b := (w64 ((w64 (page + 1)) * 64)).toNat) 0 rfl rfl (by omega) (by omega)
  refine any_v 12 (by kernel_rfl) rfl (by kernel_rfl) (by kernel_rfl) hK (fun w hk => by obtain ⟨_, hS⟩ := hk; exact (rv_sub_lh (n := 1) (hS.rd 0 rfl) rfl Try.underlying22 Try.sizeOf3 hn1 rfl rfl rfl rfl)) (want_yes rfl) rfl rfl ?_
  refine any_v 13 (by kernel_rfl) rfl (by kernel_rfl) (by kernel_rfl) hK (fun _ _ => (rv_assign rfl rfl)) (want_yes rfl) rfl rfl ?_
  refine any_v 14 (by kernel_rfl) rfl (by kernel_rfl) (by kernel_rfl) hK (fun _ _ => (rv_assign rfl rfl)) (want_yes rfl) rfl rfl ?_
  refine any_done (by kernel_rfl) ?_
  intro a hA
  refine cw_seq ?_
  refine cw_seq ?_
  refine cw_ops hA ?_
  clear hA
  refine ops_v (rv_move rfl rfl) (want_yes rfl) rfl rfl ?_
  refine ops_v (rv_lss rfl rfl rfl) (want_yes rfl) rfl rfl ?_
  refine ops_nil ?_
  intro a hA
  refine cw_cond hA rfl (fun hc1 => ?_) (fun hc1 => ?_)
  · replace hF := iteT hc1 hF
    refine cw_seq ?_
    refine cw_ops hA ?_
    clear hA
    refine ops_v (rv_move rfl rfl) (want_yes rfl) rfl rfl ?_
    obtain ⟨x2, hx2, hF⟩ := bindE hF
    refine ops_c (rc_call Try.call82 rfl rfl) (want_yes rfl) rfl rfl (c_impl_isZero (b := (h.Bytes.take ((w64 ((w64 (page + 1)) * 64)).toNat)).drop ((w64 (page * 64)).toNat)) (hS.rd 2 rfl) hx2) ?_
    rintro _ w ⟨rfl, hk⟩
    replace hS := hS.after hk; clear hk
    refine ops_v (rv_assign rfl rfl) (want_yes rfl) rfl rfl ?_
    refine ops_nil ?_
    intro a hA
    refine cw_ret ?_
    cases hF
    exact fin1 Try.results62 hA (res_tmp rfl) ⟨rfl, (hS.sel [] rfl).weaken (R' := []) (fun _ h => nomatch h)⟩
  · replace hF := iteF hc1 hF
    refine cw_skip ?_
    refine cw_seq ?_
    refine cw_seq ?_
    refine cw_cut (J := fun a' w' => ∃ (x3 : Bool), impl_pageOk_j1 h page x1 x3 = some r ∧ AEnv 65 [(5, .int .i64 (x1)), (6, (subV 1 ((w64 (page * 64)).toNat) ((w64 ((w64 (page + 1)) * 64)).toNat) s1)), (49, .bool (x3))] a' ∧ St (cxAll w0) w' [] [fRd [(subV 1 ((w64 (page * 64)).toNat) ((w64 ((w64 (page + 1)) * 64)).toNat) s1)] ((h.Bytes.take ((w64 ((w64 (page + 1)) * 64)).toNat)).drop ((w64 (page * 64)).toNat) : List Int)]) ?_ ?_
    · skip
      refine cw_any (Keeps (cxAll w0) [cBox b1 [s1, s2]] [fRd [s1] (h.Bytes : List Int), fRd [s2] (h.Class : List Int), fRd [(subV 1 ((w64 (page * 64)).toNat) ((w64 ((w64 (page + 1)) * 64)).toNat) s1)] ((h.Bytes.take ((w64 ((w64 (page + 1)) * 64)).toNat)).drop ((w64 (page * 64)).toNat) : List Int)]) mixed_Try hA hS ?_
      clear hA hS; intro w hS
      have hK : Keeps (cxAll w0) [cBox b1 [s1, s2]] [fRd [s1] (h.Bytes : List Int), fRd [s2] (h.Class : List Int), fRd [(subV 1 ((w64 (page * 64)).toNat) ((w64 ((w64 (page + 1)) * 64)).toNat) s1)] ((h.Bytes.take ((w64 ((w64 (page + 1)) * 64)).toNat)).drop ((w64 (page * 64)).toNat) : List Int)] w := ⟨_, (hS.sel [0] rfl).selR [0, 1, 2] rfl⟩
      refine any_v 0 (by kernel_rfl) rfl (by kernel_rfl) (by kernel_rfl) hK (fun _ _ => (rv_move rfl rfl)) (want_yes rfl) rfl rfl ?_
      obtain ⟨x10, hx10, hF⟩ := bindE hF
      refine any_v 1 (by kernel_rfl) rfl (by kernel_rfl) (by kernel_rfl) hK (fun w hk => by obtain ⟨_, hS⟩ := hk; exact (rv_idx (m := 1) (hS.rd 2 rfl) rfl hx10 Try.underlying22 Try.sizeOf3 rfl rfl rfl)) (want_yes rfl) rfl rfl ?_
      refine any_v 2 (by kernel_rfl) rfl (by kernel_rfl) (by kernel_rfl) hK (fun w hk => by obtain ⟨_, hS⟩ := hk; exact (rv_load1 rfl rfl Try.isAgg3 (cell1 (el_Int (hS.rd 2 rfl) (idx_some hx10).2.2)))) (want_yes rfl) rfl rfl ?_
      refine any_v 3 (by kernel_rfl) rfl (by kernel_rfl) (by kernel_rfl) hK (fun _ _ => (rv_neq rfl rfl rfl)) (want_yes rfl) rfl rfl ?_
      refine any_v 4 (by kernel_rfl) rfl (by kernel_rfl) (by kernel_rfl) hK (fun _ _ => (rv_move rfl rfl)) (want_yes rfl) rfl rfl ?_
      refine any_case (s := 29) rfl (fun hc5 => ?_) (fun hc5 => ?_)
      · replace hF := iteT hc5 hF
        refine any_off 5 (by kernel_rfl) rfl (by kernel_rfl) (by kernel_rfl) hK (want_if rfl rfl rfl (by rw [hc5]; rfl)) rfl rfl ?_
        refine any_off 6 (by kernel_rfl) rfl (by kernel_rfl) (by kernel_rfl) hK (want_if rfl rfl rfl (by rw [hc5]; rfl)) rfl rfl ?_
        refine any_off 7 (by kernel_rfl) rfl (by kernel_rfl) (by kernel_rfl) hK (want_if rfl rfl rfl (by rw [hc5]; rfl)) rfl rfl ?_
        refine any_off 8 (by kernel_rfl) rfl (by kernel_rfl) (by kernel_rfl) hK (want_if rfl rfl rfl (by rw [hc5]; rfl)) rfl rfl ?_
        refine any_off 9 (by kernel_rfl) rfl (by kernel_rfl) (by kernel_rfl) hK (want_if rfl rfl rfl (by rw [hc5]; rfl)) rfl rfl ?_
        refine any_v 10 (by kernel_rfl) rfl (by kernel_rfl) (by kernel_rfl) hK (fun _ _ => (rv_pick_t rfl rfl hc5 rfl)) (want_yes rfl) rfl rfl ?_
        refine any_v 11 (by kernel_rfl) rfl (by kernel_rfl) (by kernel_rfl) hK (fun _ _ => (rv_move rfl rfl)) (want_yes rfl) rfl rfl ?_
        refine any_off 12 (by kernel_rfl) rfl (by kernel_rfl) (by kernel_rfl) hK (want_if rfl rfl rfl rfl) rfl rfl ?_
        refine any_off 13 (by kernel_rfl) rfl (by kernel_rfl) (by kernel_rfl) hK (want_if rfl rfl rfl rfl) rfl rfl ?_
        refine any_off 14 (by kernel_rfl) rfl (by kernel_rfl) (by kernel_rfl) hK (want_if rfl rfl rfl rfl) rfl rfl ?_
        refine any_off 15 (by kernel_rfl) rfl (by kernel_rfl) (by kernel_rfl) hK (want_if rfl rfl rfl rfl) rfl rfl ?_
        refine any_off 16 (by kernel_rfl) rfl (by kernel_rfl) (by kernel_rfl) hK (want_if rfl rfl rfl rfl) rfl rfl ?_
        refine any_off 17 (by kernel_rfl) rfl (by kernel_rfl) (by kernel_rfl) hK (want_if rfl rfl rfl rfl) rfl rfl ?_
        refine any_v 18 (by kernel_rfl) rfl (by kernel_rfl) (by kernel_rfl) hK (fun _ _ => (rv_pick_t rfl rfl rfl rfl)) (want_yes rfl) rfl rfl ?_
        refine any_v 19 (by kernel_rfl) rfl (by kernel_rfl) (by kernel_rfl) hK (fun _ _ => (rv_move rfl rfl)) (want_yes rfl) rfl rfl ?_
        refine any_off 20 (by kernel_rfl) rfl (by kernel_rfl) (by kernel_rfl) hK (want_if rfl rfl rfl rfl) rfl rfl ?_
        refine any_off 21 (by kernel_rfl) rfl (by kernel_rfl) (by kernel_rfl) hK (want_if rfl rfl rfl rfl) rfl rfl ?_
        refine any_off 22 (by kernel_rfl) rfl (by kernel_rfl) (by kernel_rfl) hK (want_if rfl rfl rfl rfl) rfl rfl ?_
        refine any_off 23 (by kernel_rfl) rfl (by kernel_rfl) (by kernel_rfl) hK (want_if rfl rfl rfl rfl) rfl rfl ?_
        refine any_v 24 (by kernel_rfl) rfl (by kernel_rfl) (by kernel_rfl) hK (fun _ _ => (rv_pick_t rfl rfl rfl rfl)) (want_yes rfl) rfl rfl ?_
        refine any_done (by kernel_rfl) ?_
        intro a hA
        exact ⟨true, hF, hA.part ⟨rfl, rfl, rfl, trivial⟩, ((hS).sel [] rfl).selR [2] rfl⟩
      · replace hF := iteF hc5 hF
        refine any_v 5 (by kernel_rfl) rfl (by kernel_rfl) (by kernel_rfl) hK (fun _ _ => (rv_move rfl rfl)) (want_if rfl rfl rfl (by rw [hc5]; rfl)) rfl rfl ?_
        obtain ⟨x11, hx11, hF⟩ := bindE hF
        refine any_v 6 (by kernel_rfl) rfl (by kernel_rfl) (by kernel_rfl) hK (fun w hk => by obtain ⟨_, hS⟩ := hk; exact (rv_idx (m := 1) (hS.rd 2 rfl) rfl hx11 Try.underlying22 Try.sizeOf3 rfl rfl rfl)) (want_if rfl rfl rfl (by rw [hc5]; rfl)) rfl rfl ?_
        refine any_v 7 (by kernel_rfl) rfl (by kernel_rfl) (by kernel_rfl) hK (fun w hk => by obtain ⟨_, hS⟩ := hk; exact (rv_load1 rfl rfl Try.isAgg3 (cell1 (el_Int (hS.rd 2 rfl) (idx_some hx11).2.2)))) (want_if rfl rfl rfl (by rw [hc5]; rfl)) rfl rfl ?_
        refine any_v 8 (by kernel_rfl) rfl (by kernel_rfl) (by kernel_rfl) hK (fun _ _ => (rv_move rfl rfl)) (want_if rfl rfl rfl (by rw [hc5]; rfl)) rfl rfl ?_
        refine any_v 9 (by kernel_rfl) rfl (by kernel_rfl) (by kernel_rfl) hK (fun _ _ => (rv_neq rfl rfl rfl)) (want_if rfl rfl rfl (by rw [hc5]; rfl)) rfl rfl ?_
        refine any_v 10 (by kernel_rfl) rfl (by kernel_rfl) (by kernel_rfl) hK (fun _ _ => (rv_pick_f rfl rfl hc5 rfl)) (want_yes rfl) rfl rfl ?_
        refine any_v 11 (by kernel_rfl) rfl (by kernel_rfl) (by kernel_rfl) hK (fun _ _ => (rv_move rfl rfl)) (want_yes rfl) rfl rfl ?_
        refine any_case (s := 36) rfl (fun hc6 => ?_) (fun hc6 => ?_)
        · replace hF := iteT hc6 hF
          refine any_off 12 (by kernel_rfl) rfl (by kernel_rfl) (by kernel_rfl) hK (want_if rfl rfl rfl (by rw [hc6]; rfl)) rfl rfl ?_
          refine any_off 13 (by kernel_rfl) rfl (by kernel_rfl) (by kernel_rfl) hK (want_if rfl rfl rfl (by rw [hc6]; rfl)) rfl rfl ?_
          refine any_off 14 (by kernel_rfl) rfl (by kernel_rfl) (by kernel_rfl) hK (want_if rfl rfl rfl (by rw [hc6]; rfl)) rfl rfl ?_
          refine any_off 15 (by kernel_rfl) rfl (by kernel_rfl) (by kernel_rfl) hK (want_if rfl rfl rfl (by rw [hc6]; rfl)) rfl rfl ?_
          refine any_off 16 (by kernel_rfl) rfl (by kernel_rfl) (by kernel_rfl) hK (want_if rfl rfl rfl (by rw [hc6]; rfl)) rfl rfl ?_
          refine any_off 17 (by kernel_rfl) rfl (by kernel_rfl) (by kernel_rfl) hK (want_if rfl rfl rfl (by rw [hc6]; rfl)) rfl rfl ?_
          refine any_v 18 (by kernel_rfl) rfl (by kernel_rfl) (by kernel_rfl) hK (fun _ _ => (rv_pick_t rfl rfl hc6 rfl)) (want_yes rfl) rfl rfl ?_
          refine any_v 19 (by kernel_rfl) rfl (by kernel_rfl) (by kernel_rfl) hK (fun _ _ => (rv_move rfl rfl)) (want_yes rfl) rfl rfl ?_
          refine any_off 20 (by kernel_rfl) rfl (by kernel_rfl) (by kernel_rfl) hK (want_if rfl rfl rfl rfl) rfl rfl ?_
          refine any_off 21 (by kernel_rfl) rfl (by kernel_rfl) (by kernel_rfl) hK (want_if rfl rfl rfl rfl) rfl rfl ?_
          refine any_off 22 (by kernel_rfl) rfl (by kernel_rfl) (by kernel_rfl) hK (want_if rfl rfl rfl rfl) rfl rfl ?_
          refine any_off 23 (by kernel_rfl) rfl (by kernel_rfl) (by kernel_rfl) hK (want_if rfl rfl rfl rfl) rfl rfl ?_
          refine any_v 24 (by kernel_rfl) rfl (by kernel_rfl) (by kernel_rfl) hK (fun _ _ => (rv_pick_t rfl rfl rfl rfl)) (want_yes rfl) rfl rfl ?_
          refine any_done (by kernel_rfl) ?_
          intro a hA
          exact ⟨true, hF, hA.part ⟨rfl, rfl, rfl, trivial⟩, ((hS).sel [] rfl).selR [2] rfl⟩
        · replace hF := iteF hc6 hF
          refine any_v 12 (by kernel_rfl) rfl (by kernel_rfl) (by kernel_rfl) hK (fun _ _ => (rv_move rfl rfl)) (want_if rfl rfl rfl (by rw [hc6]; rfl)) rfl rfl ?_
          obtain ⟨x12, hx12, hF⟩ := bindE hF
          refine any_v 13 (by kernel_rfl) rfl (by kernel_rfl) (by kernel_rfl) hK (fun w hk => by obtain ⟨_, hS⟩ := hk; exact (rv_idx (m := 1) (hS.rd 2 rfl) rfl hx12 Try.underlying22 Try.sizeOf3 rfl rfl rfl)) (want_if rfl rfl rfl (by rw [hc6]; rfl)) rfl rfl ?_
          refine any_v 14 (by kernel_rfl) rfl (by kernel_rfl) (by kernel_rfl) hK (fun w hk => by obtain ⟨_, hS⟩ := hk; exact (rv_load1 rfl rfl Try.isAgg3 (cell1 (el_Int (hS.rd 2 rfl) (idx_some hx12).2.2)))) (want_if rfl rfl rfl (by rw [hc6]; rfl)) rfl rfl ?_
          refine any_v 15 (by kernel_rfl) rfl (by kernel_rfl) (by kernel_rfl) hK (fun _ _ => (rv_move rfl rfl)) (want_if rfl rfl rfl (by rw [hc6]; rfl)) rfl rfl ?_
          refine any_1 (i := 16) (by kernel_rfl) ?_
          obtain ⟨x13, hx13, hF⟩ := bindE hF
          refine as_c rfl (rc_call Try.call83 rfl rfl) (want_if rfl rfl rfl (by rw [hc6]; rfl)) rfl rfl (c_impl_PerPage (c := x1)  hx13) ?_
          clear hK; rintro _ w ⟨rfl, hk⟩
          replace hS := hS.after hk; clear hk
          have hK : Keeps (cxAll w0) [cBox b1 [s1, s2]] [fRd [s1] (h.Bytes : List Int), fRd [s2] (h.Class : List Int), fRd [(subV 1 ((w64 (page * 64)).toNat) ((w64 ((w64 (page + 1)) * 64)).toNat) s1)] ((h.Bytes.take ((w64 ((w64 (page + 1)) * 64)).toNat)).drop ((w64 (page * 64)).toNat) : List Int)] w := ⟨_, (hS.sel [0] rfl).selR [0, 1, 2] rfl⟩
          refine ⟨hK, ?_⟩
          refine any_v 17 (by kernel_rfl) rfl (by kernel_rfl) (by kernel_rfl) hK (fun _ _ => (rv_neq rfl rfl rfl)) (want_if rfl rfl rfl (by rw [hc6]; rfl)) rfl rfl ?_
          refine any_v 18 (by kernel_rfl) rfl (by kernel_rfl) (by kernel_rfl) hK (fun _ _ => (rv_pick_f rfl rfl hc6 rfl)) (want_yes rfl) rfl rfl ?_
          refine any_v 19 (by kernel_rfl) rfl (by kernel_rfl) (by kernel_rfl) hK (fun _ _ => (rv_move rfl rfl)) (want_yes rfl) rfl rfl ?_
          refine any_case (s := 44) rfl (fun hc7 => ?_) (fun hc7 => ?_)
          · replace hF := iteT hc7 hF
            refine any_off 20 (by kernel_rfl) rfl (by kernel_rfl) (by kernel_rfl) hK (want_if rfl rfl rfl (by rw [hc7]; rfl)) rfl rfl ?_
            refine any_off 21 (by kernel_rfl) rfl (by kernel_rfl) (by kernel_rfl) hK (want_if rfl rfl rfl (by rw [hc7]; rfl)) rfl rfl ?_
            refine any_off 22 (by kernel_rfl) rfl (by kernel_rfl) (by kernel_rfl) hK (want_if rfl rfl rfl (by rw [hc7]; rfl)) rfl rfl ?_
            refine any_off 23 (by kernel_rfl) rfl (by kernel_rfl) (by kernel_rfl) hK (want_if rfl rfl rfl (by rw [hc7]; rfl)) rfl rfl ?_
            refine any_v 24 (by kernel_rfl) rfl (by kernel_rfl) (by kernel_rfl) hK (fun _ _ => (rv_pick_t rfl rfl hc7 rfl)) (want_yes rfl) rfl rfl ?_
            refine any_done (by kernel_rfl) ?_
            intro a hA
            exact ⟨true, hF, hA.part ⟨rfl, rfl, rfl, trivial⟩, ((hS).sel [] rfl).selR [2] rfl⟩
          · replace hF := iteF hc7 hF
            refine any_v 20 (by kernel_rfl) rfl (by kernel_rfl) (by kernel_rfl) hK (fun _ _ => (rv_move rfl rfl)) (want_if rfl rfl rfl (by rw [hc7]; rfl)) rfl rfl ?_
            obtain ⟨hn2, hF⟩ := needE hF
            replace hS := hS.subF (n := 1) (a := (3 : Int).toNat) (b := (8 : Int).toNat) 2 rfl rfl (by omega) (by omega)
            refine any_v 21 (by kernel_rfl) rfl (by kernel_rfl) (by kernel_rfl) hK (fun w hk => by obtain ⟨_, hS⟩ := hk; exact (rv_sub_lh (n := 1) (hS.rd 2 rfl) rfl Try.underlying22 Try.sizeOf3 hn2 rfl rfl rfl rfl)) (want_if rfl rfl rfl (by rw [hc7]; rfl)) rfl rfl ?_
            refine any_1 (i := 22) (by kernel_rfl) ?_
            obtain ⟨x14, hx14, hF⟩ := bindE hF
            refine as_c rfl (rc_call Try.call82 rfl rfl) (want_if rfl rfl rfl (by rw [hc7]; rfl)) rfl rfl (c_impl_isZero (b := (((h.Bytes.take ((w64 ((w64 (page + 1)) * 64)).toNat)).drop ((w64 (page * 64)).toNat)).take ((8 : Int).toNat)).drop ((3 : Int).toNat)) (hS.rd 3 rfl) hx14) ?_
            clear hK; rintro _ w ⟨rfl, hk⟩
            replace hS := hS.after hk; clear hk
            have hK : Keeps (cxAll w0) [cBox b1 [s1, s2]] [fRd [s1] (h.Bytes : List Int), fRd [s2] (h.Class : List Int), fRd [(subV 1 ((w64 (page * 64)).toNat) ((w64 ((w64 (page + 1)) * 64)).toNat) s1)] ((h.Bytes.take ((w64 ((w64 (page + 1)) * 64)).toNat)).drop ((w64 (page * 64)).toNat) : List Int)] w := ⟨_, (hS.sel [0] rfl).selR [0, 1, 2] rfl⟩
            refine ⟨hK, ?_⟩
            refine any_v 23 (by kernel_rfl) rfl (by kernel_rfl) (by kernel_rfl) hK (fun _ _ => (rv_not rfl rfl)) (want_if rfl rfl rfl (by rw [hc7]; rfl)) rfl rfl ?_
            refine any_v 24 (by kernel_rfl) rfl (by kernel_rfl) (by kernel_rfl) hK (fun _ _ => (rv_pick_f rfl rfl hc7 rfl)) (want_yes rfl) rfl rfl ?_
            refine any_done (by kernel_rfl) ?_
            intro a hA
            exact ⟨!x14, hF, hA.part ⟨rfl, rfl, rfl, trivial⟩, ((hS).sel [] rfl).selR [2] rfl⟩
    · skip
      clear hA hS hF
      rintro a w ⟨x3, hF, hA, hS⟩
      unfold impl_pageOk_j1 at hF
      refine cw_cond hA rfl (fun hc2 => ?_) (fun hc2 => ?_)
      · replace hF := iteT hc2 hF
        refine cw_seq ?_
        refine cw_ops hA ?_
        clear hA
        refine ops_v (rv_assign rfl rfl) (want_yes rfl) rfl rfl ?_
        refine ops_nil ?_
        intro a hA
        refine cw_ret ?_
        cases hF
        exact fin1 Try.results62 hA (res_tmp rfl) ⟨rfl, (hS.sel [] rfl).weaken (R' := []) (fun _ h => nomatch h)⟩
      · replace hF := iteF hc2 hF
        refine cw_skip ?_
        refine cw_seq ?_
        refine cw_seq ?_
        refine cw_ops hA ?_
        clear hA
        refine ops_v (rv_move rfl rfl) (want_yes rfl) rfl rfl ?_
        obtain ⟨x4, hx4, hF⟩ := bindE hF
        refine ops_c (rc_call Try.call83 rfl rfl) (want_yes rfl) rfl rfl (c_impl_PerPage (c := x1)  hx4) ?_
        rintro _ w ⟨rfl, hk⟩
        replace hS := hS.after hk; clear hk
        refine ops_v (rv_move rfl rfl) (want_yes rfl) rfl rfl ?_
        refine ops_nil ?_
        intro a hA
        obtain ⟨o1, hl1, hF⟩ := bindE hF
        refine cw_cut (J := fun a' w' => o1 = Out.brk (()) ∧ AEnv 65 [] a' ∧ St (cxAll w0) w' [] []) ?_ ?_
        · refine cw_block ?_
          refine cw_loop (body := impl_pageOk_l2 h page x1 x4) (r := o1) (fun sg a' w' => AEnv 65 [(5, .int .i64 (x1)), (6, (subV 1 ((w64 (page * 64)).toNat) ((w64 ((w64 (page + 1)) * 64)).toNat) s1)), (51, .int .i64 (x4)), (52, .int .i64 (sg))] a' ∧ St (cxAll w0) w' [] [fRd [(subV 1 ((w64 (page * 64)).toNat) ((w64 ((w64 (page + 1)) * 64)).toNat) s1)] ((h.Bytes.take ((w64 ((w64 (page + 1)) * 64)).toNat)).drop ((w64 (page * 64)).toNat) : List Int)]) ?_ hl1 ⟨hA.part ⟨rfl, rfl, rfl, rfl, trivial⟩, ((hS).sel [] rfl).selR [0] rfl⟩
          clear hA hS hl1
          rintro x6 a w q2 ⟨hA, hS⟩ hG2 hr2
          try dsimp only at hA hS
          unfold impl_pageOk_l2 at hG2
          refine cw_seq ?_
          refine cw_ops hA ?_
          clear hA
          refine ops_v (rv_lss rfl rfl rfl) (want_yes rfl) rfl rfl ?_
          refine ops_nil ?_
          intro a hA
          refine cw_seq ?_
          refine cw_cond hA rfl (fun hc3 => ?_) (fun hc3 => ?_)
          · replace hG2 := iteT hc3 hG2
            refine cw_skip ?_
            refine cw_seq ?_
            refine cw_block ?_
            refine cw_seq ?_
            refine cw_ops hA ?_
            clear hA
            refine ops_v (rv_move rfl rfl) (want_yes rfl) rfl rfl ?_
            refine ops_v (rv_assign rfl rfl) (want_yes rfl) rfl rfl ?_
            refine ops_nil ?_
            intro a hA
            refine cw_seq ?_
            refine cw_ops hA ?_
            clear hA
            refine ops_v (rv_move rfl rfl) (want_yes rfl) rfl rfl ?_
            refine ops_v (rv_move rfl rfl) (want_yes rfl) rfl rfl ?_
            refine ops_v (rv_move rfl rfl) (want_yes rfl) rfl rfl ?_
            obtain ⟨x7, hx7, hG2⟩ := bindE hG2
            refine ops_c (rc_call Try.call85 rfl rfl) (want_yes rfl) rfl rfl (c_impl_StrideOf (c := x1)  hx7) ?_
            rintro _ w ⟨rfl, hk⟩
            replace hS := hS.after hk; clear hk
            refine ops_v (rv_mul rfl rfl rfl) (want_yes rfl) rfl rfl ?_
            refine ops_v (rv_add rfl rfl rfl) (want_yes rfl) rfl rfl ?_
            obtain ⟨x8, hx8, hG2⟩ := bindE hG2
            refine ops_c (rc_call Try.call84 rfl rfl) (want_yes rfl) rfl rfl (c_impl_loadNum (b := (h.Bytes.take ((w64 ((w64 (page + 1)) * 64)).toNat)).drop ((w64 (page * 64)).toNat)) (at_ := w64 (8 + (w64 (x6 * x7)))) (width := 4) (hS.rd 0 rfl) hx8) ?_
            rintro _ w ⟨rfl, hk⟩
            replace hS := hS.after hk; clear hk
            obtain ⟨x9, hx9, hG2⟩ := bindE hG2
            refine ops_c (rc_call Try.call67 rfl rfl) (want_yes rfl) rfl rfl (c_impl_within (n := x8) (low := 1) (high := 7)  hx9) ?_
            rintro _ w ⟨rfl, hk⟩
            replace hS := hS.after hk; clear hk
            refine ops_v (rv_not rfl rfl) (want_yes rfl) rfl rfl ?_
            refine ops_nil ?_
            intro a hA
            refine cw_cond hA rfl (fun hc4 => ?_) (fun hc4 => ?_)
            · replace hG2 := iteT hc4 hG2
              refine cw_seq ?_
              refine cw_ops hA ?_
              clear hA
              refine ops_v (rv_assign rfl rfl) (want_yes rfl) rfl rfl ?_
              refine ops_nil ?_
              intro a hA
              refine cw_ret ?_
              cases hG2
              have ho := hr2 _ rfl; subst ho
              replace hF : some false = some r := hF
              cases hF
              exact fin1 Try.results62 hA (res_tmp rfl) ⟨rfl, (hS.sel [] rfl).weaken (R' := []) (fun _ h => nomatch h)⟩
            · replace hG2 := iteF hc4 hG2
              refine cw_skip ?_
              refine cw_ops hA ?_
              clear hA
              refine ops_v (rv_add rfl rfl rfl) (want_yes rfl) rfl rfl ?_
              refine ops_v (rv_move rfl rfl) (want_yes rfl) rfl rfl ?_
              refine ops_nil ?_
              intro a hA
              cases hG2
              exact ⟨_, rfl, ⟨hA.part ⟨rfl, rfl, rfl, rfl, trivial⟩, ((hS).sel [] rfl).selR [0] rfl⟩⟩
          · replace hG2 := iteF hc3 hG2
            refine cw_exit ?_
            refine xcons_hit ?_
            cases hG2
            have ho := hr2 _ rfl; subst ho
            exact ⟨rfl, hA.part trivial, ((hS).sel [] rfl).selR [] rfl⟩
        · skip
          clear hA hS hl1
          rintro a w ⟨heq, hA, hS⟩
          replace hF : impl_pageOk_j2 = some r := by rw [heq] at hF; exact hF
          clear heq
          unfold impl_pageOk_j2 at hF
          refine cw_seq ?_
          refine cw_ops hA ?_
          clear hA
          refine ops_v (rv_assign rfl rfl) (want_yes rfl) rfl rfl ?_
          refine ops_nil ?_
          intro a hA
          refine cw_ret ?_
          cases hF
          exact fin1 Try.results62 hA (res_tmp rfl) ⟨rfl, (hS.sel [] rfl).weaken (R' := []) (fun _ h => nomatch h)⟩

set_option maxHeartbeats 4000000 in
set_option maxRecDepth 100000 in
theorem c_impl_HeapOk {w0 : World} {h : Heap} {s1 : Value} {s2 : Value} {r : Bool} (h1 : Rep.rd (All w0) w0 [s1] (h.Bytes : List Int)) (h2 : Rep.rd (All w0) w0 [s2] (h.Class : List Int)) (hF : impl_HeapOk h = some r) :
    Calls Try.prog 39 #[.agg #[s1, s2]] w0 (Ret fun v w' => v = .bool (r) ∧ St (cxAll w0) w' [] []) := by
  have hS : St (cxAll w0) w0 [] [fRd [s1] (h.Bytes : List Int), fRd [s2] (h.Class : List Int)] := St.enter (by
    intro f hf
    simp only [List.mem_cons, List.not_mem_nil, or_false] at hf
    rcases hf with rfl | rfl
    · exact h1
    · exact h2)
  refine calls_cw (args := [_]) Try.func39 rfl Try.ntmps39 rfl ?_
  unfold impl_HeapOk at hF
  intro a hA
  refine cw_seq ?_
  refine cw_ops hA ?_
  clear hA
  refine ops_mv (rv_box (cs := [s1, s2]) hS rfl rfl rfl) (want_yes rfl) rfl rfl ?_
  clear hS
  rintro _ w ⟨b1, rfl, hS⟩
  refine ops_v (rv_assign rfl rfl) (want_yes rfl) rfl rfl ?_
  refine ops_nil ?_
  intro a hA
  refine cw_seq ?_
  refine cw_seq ?_
  refine cw_ops hA ?_
  clear hA
  refine ops_v (rv_loadN rfl rfl Try.isAgg32 Try.sizeOf32 rfl (hS.cells 0 0 (cs' := [s1, s2]) rfl rfl)) (want_yes rfl) rfl rfl ?_
  obtain ⟨x1, hx1, hF⟩ := bindE hF
  refine ops_c (rc_call Try.call61 rfl rfl) (want_yes rfl) rfl rfl (c_impl_shaped (h := h) (hS.rd 0 rfl) (hS.rd 1 rfl) hx1) ?_
  rintro _ w ⟨rfl, hk⟩
  replace hS := hS.after hk; clear hk
  refine ops_v (rv_not rfl rfl) (want_yes rfl) rfl rfl ?_
  refine ops_nil ?_
  intro a hA
  refine cw_cond hA rfl (fun hc1 => ?_) (fun hc1 => ?_)
  · replace hF := iteT hc1 hF
    refine cw_seq ?_
    refine cw_ops hA ?_
    clear hA
    refine ops_v (rv_assign rfl rfl) (want_yes rfl) rfl rfl ?_
    refine ops_nil ?_
    intro a hA
    refine cw_ret ?_
    cases hF
    exact fin1 Try.results39 hA (res_tmp rfl) ⟨rfl, (hS.sel [] rfl).weaken (R' := []) (fun _ h => nomatch h)⟩
  · replace hF := iteF hc1 hF
    refine cw_skip ?_
    refine cw_seq ?_
    refine cw_seq ?_
    refine cw_ops hA ?_
    clear hA
    refine ops_v (rv_move rfl rfl) (want_yes rfl) rfl rfl ?_
    refine ops_nil ?_
    intro a hA
    obtain ⟨o1, hl1, hF⟩ := bindE hF
    refine cw_cut (J := fun a' w' => o1 = Out.brk (()) ∧ AEnv 15 [] a' ∧ St (cxAll w0) w' [] []) ?_ ?_
    · refine cw_block ?_
      refine cw_loop (body := impl_HeapOk_l1 h) (r := o1) (fun sg a' w' => AEnv 15 [(1, .pointer (some ⟨b1, 0, none⟩)), (7, .int .i64 (sg))] a' ∧ St (cxAll w0) w' [cBox b1 [s1, s2]] [fRd [s1] (h.Bytes : List Int), fRd [s2] (h.Class : List Int)]) ?_ hl1 ⟨hA.part ⟨rfl, rfl, trivial⟩, ((hS).sel [0] rfl).selR [0, 1] rfl⟩
      clear hA hS hl1
      rintro x3 a w q1 ⟨hA, hS⟩ hG1 hr1
      try dsimp only at hA hS
      unfold impl_HeapOk_l1 at hG1
      refine cw_seq ?_
      refine cw_ops hA ?_
      clear hA
      refine ops_v (rv_lss rfl rfl rfl) (want_yes rfl) rfl rfl ?_
      refine ops_nil ?_
      intro a hA
      refine cw_seq ?_
      refine cw_cond hA rfl (fun hc2 => ?_) (fun hc2 => ?_)
      · replace hG1 := iteT hc2 hG1
        refine cw_skip ?_
        refine cw_seq ?_
        refine cw_block ?_
        refine cw_seq ?_
        refine cw_ops hA ?_
        clear hA
        refine ops_v (rv_move rfl rfl) (want_yes rfl) rfl rfl ?_
        refine ops_v (rv_assign rfl rfl) (want_yes rfl) rfl rfl ?_
        refine ops_nil ?_
        intro a hA
        refine cw_seq ?_
        refine cw_ops hA ?_
        clear hA
        refine ops_v (rv_loadN rfl rfl Try.isAgg32 Try.sizeOf32 rfl (hS.cells 0 0 (cs' := [s1, s2]) rfl rfl)) (want_yes rfl) rfl rfl ?_
        refine ops_v (rv_move rfl rfl) (want_yes rfl) rfl rfl ?_
        obtain ⟨x4, hx4, hG1⟩ := bindE hG1
        refine ops_c (rc_call Try.call62 rfl rfl) (want_yes rfl) rfl rfl (c_impl_pageOk (h := h) (page := x3) (hS.rd 0 rfl) (hS.rd 1 rfl) hx4) ?_
        rintro _ w ⟨rfl, hk⟩
        replace hS := hS.after hk; clear hk
        refine ops_v (rv_not rfl rfl) (want_yes rfl) rfl rfl ?_
        refine ops_nil ?_
        intro a hA
        refine cw_cond hA rfl (fun hc3 => ?_) (fun hc3 => ?_)
        · replace hG1 := iteT hc3 hG1
          refine cw_seq ?_
          refine cw_ops hA ?_
          clear hA
          refine ops_v (rv_assign rfl rfl) (want_yes rfl) rfl rfl ?_
          refine ops_nil ?_
          intro a hA
          refine cw_ret ?_
          cases hG1
          have ho := hr1 _ rfl; subst ho
          replace hF : some false = some r := hF
          cases hF
          exact fin1 Try.results39 hA (res_tmp rfl) ⟨rfl, (hS.sel [] rfl).weaken (R' := []) (fun _ h => nomatch h)⟩
        · replace hG1 := iteF hc3 hG1
          refine cw_skip ?_
          refine cw_ops hA ?_
          clear hA
          refine ops_v (rv_add rfl rfl rfl) (want_yes rfl) rfl rfl ?_
          refine ops_v (rv_move rfl rfl) (want_yes rfl) rfl rfl ?_
          refine ops_nil ?_
          intro a hA
          cases hG1
          exact ⟨_, rfl, ⟨hA.part ⟨rfl, rfl, trivial⟩, ((hS).sel [0] rfl).selR [0, 1] rfl⟩⟩
      · replace hG1 := iteF hc2 hG1
        refine cw_exit ?_
        refine xcons_hit ?_
        cases hG1
        have ho := hr1 _ rfl; subst ho
        exact ⟨rfl, hA.part trivial, ((hS).sel [] rfl).selR [] rfl⟩
    · skip
      clear hA hS hl1
      rintro a w ⟨heq, hA, hS⟩
      replace hF : impl_HeapOk_j1 = some r := by rw [heq] at hF; exact hF
      clear heq
      unfold impl_HeapOk_j1 at hF
      refine cw_seq ?_
      refine cw_ops hA ?_
      clear hA
      refine ops_v (rv_assign rfl rfl) (want_yes rfl) rfl rfl ?_
      refine ops_nil ?_
      intro a hA
      refine cw_ret ?_
      cases hF
      exact fin1 Try.results39 hA (res_tmp rfl) ⟨rfl, (hS.sel [] rfl).weaken (R' := []) (fun _ h => nomatch h)⟩

set_option maxRecDepth 100000 in
theorem c_slices_Grow_SList_nil {w0 : World} {n : Int} (hn : 0 ≤ n ∧ n ≤ 1073741824) :
    Calls Try.prog 86 #[.slice none 0 0, .int .i64 n] w0 (Ret fun v w' => ∃ s0_0 : Value, v = s0_0 ∧ St (cxAll w0) w' [cOwn [s0_0] ([] : List Raw)] []) := by
  have hS : St (cxAll w0) w0 [] [] := St.enter (by intro f hf; cases hf)
  have hw : w64 (n - w64 (0 - 0)) = n := by
    rw [w64_id (x := 0 - 0) (by omega), w64_id (by omega)]; omega
  refine calls_cw (args := [_, _]) Try.func86 rfl Try.ntmps86 rfl ?_
  intro a hA
  refine cw_seq ?_
  refine cw_ops hA ?_
  clear hA
  refine ops_v (rv_assign rfl rfl) (want_yes rfl) rfl rfl ?_
  refine ops_nil ?_
  intro a hA
  refine cw_seq ?_
  refine cw_seq ?_
  refine cw_ops hA ?_
  clear hA
  refine ops_v (rv_move rfl rfl) (want_yes rfl) rfl rfl ?_
  refine ops_v (rv_lss rfl rfl rfl) (want_yes rfl) rfl rfl ?_
  refine ops_nil ?_
  intro a hA
  refine cw_cond hA rfl (fun hc => ?_) (fun hc => ?_)
  · exfalso; simp at hc; omega
  refine cw_skip ?_
  refine cw_seq ?_
  refine cw_seq ?_
  refine cw_ops hA ?_
  clear hA
  refine ops_v (rv_move rfl rfl) (want_yes rfl) rfl rfl ?_
  refine ops_v (rv_move rfl rfl) (want_yes rfl) rfl rfl ?_
  refine ops_v (rv_capnil Try.underlying33 rfl rfl) (want_yes rfl) rfl rfl ?_
  refine ops_v (rv_move rfl rfl) (want_yes rfl) rfl rfl ?_
  refine ops_v (rv_lenS (rd_nil (α := Raw) (S := F0)) Try.underlying33 rfl rfl) (want_yes rfl) rfl rfl ?_
  refine ops_v (rv_sub rfl rfl rfl) (want_yes rfl) rfl rfl ?_
  refine ops_v (rv_sub rfl rfl rfl) (want_yes rfl) rfl rfl ?_
  refine ops_v (rv_assign rfl rfl) (want_yes rfl) rfl rfl ?_
  refine ops_nil ?_
  intro a hA
  refine cw_seq ?_
  refine cw_ops hA ?_
  clear hA
  refine ops_v (rv_move rfl rfl) (want_yes rfl) rfl rfl ?_
  refine ops_v (rv_gtr rfl rfl rfl) (want_yes rfl) rfl rfl ?_
  refine ops_nil ?_
  intro a hA
  refine cw_cond hA rfl (fun hc => ?_) (fun hc => ?_)
  · have hn1 : 0 < n := by
      have h2 : decide (0 < w64 (n - w64 (0 - 0))) = true := hc
      rw [hw] at h2; simpa using h2
    refine cw_ops hA ?_
    clear hA
    refine ops_v (rv_move rfl rfl) (want_yes rfl) rfl rfl ?_
    refine ops_v (rv_move rfl rfl) (want_yes rfl) rfl rfl ?_
    refine ops_v (rv_capnil Try.underlying33 rfl rfl) (want_yes rfl) rfl rfl ?_
    refine ops_v (rv_sub0 (s := .slice none 0 0) ⟨_, _, _, rfl⟩ Try.underlying33 Try.sizeOf53 rfl rfl rfl) (want_yes rfl) rfl rfl ?_
    refine ops_v (rv_move rfl rfl) (want_yes rfl) rfl rfl ?_
    refine ops_mv (rv_appZ (i := w64 (n - w64 (0 - 0))) hS Try.underlying33 Try.underlying3 inf_Try53 rfl rfl (by rw [hw]; omega) rfl rfl rfl) (want_yes rfl) rfl rfl ?_
    clear hS
    intro s w hS
    refine ops_v (rv_move rfl rfl) (want_yes rfl) rfl rfl ?_
    refine ops_v (rv_lenS (rd_nil (α := Raw) (S := F0)) Try.underlying33 rfl rfl) (want_yes rfl) rfl rfl ?_
    refine ops_v (rv_sub0 (hS.rowShape 0 rfl) Try.underlying33 Try.sizeOf53 rfl rfl rfl) (want_yes rfl) rfl rfl ?_
    refine ops_v (rv_assign rfl rfl) (want_yes rfl) rfl rfl ?_
    refine ops_nil ?_
    intro a hA
    replace hS := hS.rowNil (α := Raw) 0 rfl rfl
    refine cw_seq ?_
    refine cw_ops hA ?_
    clear hA
    refine ops_v (rv_move rfl rfl) (want_yes rfl) rfl rfl ?_
    refine ops_v (rv_assign rfl rfl) (want_yes rfl) rfl rfl ?_
    refine ops_nil ?_
    intro a hA
    refine cw_ret ?_
    exact fin1 Try.results86 hA (res_tmp rfl) ⟨_, rfl, (hS.sel [0] rfl).weaken (R' := []) (fun _ h => nomatch h)⟩
  · refine cw_skip ?_
    replace hS := hS.nilOwn (α := Raw)
    refine cw_seq ?_
    refine cw_ops hA ?_
    clear hA
    refine ops_v (rv_move rfl rfl) (want_yes rfl) rfl rfl ?_
    refine ops_v (rv_assign rfl rfl) (want_yes rfl) rfl rfl ?_
    refine ops_nil ?_
    intro a hA
    refine cw_ret ?_
    exact fin1 Try.results86 hA (res_tmp rfl) ⟨_, rfl, (hS.sel [0] rfl).weaken (R' := []) (fun _ h => nomatch h)⟩

set_option maxHeartbeats 4000000 in
set_option maxRecDepth 100000 in
theorem c_slices_Concat_SList {w0 : World} {slices : List (List Raw)} {s1 : Value} {r : (List Raw)} (h1 : Rep.rd (All w0) w0 [s1] (slices : List (List Raw))) (hF : slices_Concat_SList slices = some r) :
    Calls Try.prog 63 #[s1] w0 (Ret fun v w' => ∃ (s0_0 : Value), v = s0_0 ∧ St (cxAll w0) w' [cOwn [s0_0] (r : List Raw)] []) := by
  have hS : St (cxAll w0) w0 [] [fRd [s1] (slices : List (List Raw))] := St.enter (by
    intro f hf
    simp only [List.mem_cons, List.not_mem_nil, or_false] at hf
    subst hf; exact h1)
  refine calls_cw (args := [_]) Try.func63 rfl Try.ntmps63 rfl ?_
  unfold slices_Concat_SList at hF
  intro a hA
  refine cw_seq ?_
  refine cw_ops hA ?_
  clear hA
  refine ops_v (rv_assign rfl rfl) (want_yes rfl) rfl rfl ?_
  refine ops_nil ?_
  intro a hA
  refine cw_seq ?_
  refine cw_ops hA ?_
  clear hA
  refine ops_v (rv_assign rfl rfl) (want_yes rfl) rfl rfl ?_
  refine ops_nil ?_
  intro a hA
  refine cw_seq ?_
  refine cw_seq ?_
  refine cw_ops hA ?_
  clear hA
  refine ops_v (rv_move rfl rfl) (want_yes rfl) rfl rfl ?_
  refine ops_v (rv_lenS (hS.rd 0 rfl) Try.underlying100 rfl rfl) (want_yes rfl) rfl rfl ?_
  refine ops_v (rv_move rfl rfl) (want_yes rfl) rfl rfl ?_
  refine ops_nil ?_
  intro a hA
  obtain ⟨o1, hl1, hF⟩ := bindE hF
  refine cw_cut (J := fun a' w' => ∃ (x5 : Int), o1 = x5 ∧ AEnv 36 [(0, s1), (3, .int .i64 (x5))] a' ∧ St (cxAll w0) w' [] [fRd [s1] (slices : List (List Raw))]) ?_ ?_
  · refine cw_block ?_
    refine cw_loop (body := slices_Concat_SList_l1 slices) (r := o1) (fun sg a' w' => AEnv 36 [(0, s1), (3, .int .i64 (sg.1)), (9, s1), (10, .int .i64 ((slices.length : Int))), (11, .int .i64 (sg.2))] a' ∧ St (cxAll w0) w' [] [fRd [s1] (slices : List (List Raw))]) ?_ hl1 ⟨hA.part ⟨rfl, rfl, rfl, rfl, rfl, trivial⟩, ((hS).sel [] rfl).selR [0] rfl⟩
    clear hA hS hl1
    rintro ⟨x3, x4⟩ a w q1 ⟨hA, hS⟩ hG1 hr1
    try dsimp only at hA hS
    unfold slices_Concat_SList_l1 at hG1
    refine cw_seq ?_
    refine cw_ops hA ?_
    clear hA
    refine ops_v (rv_lss rfl rfl rfl) (want_yes rfl) rfl rfl ?_
    refine ops_nil ?_
    intro a hA
    refine cw_seq ?_
    refine cw_cond hA rfl (fun hc2 => ?_) (fun hc2 => ?_)
    · replace hG1 := iteT hc2 hG1
      refine cw_skip ?_
      refine cw_seq ?_
      refine cw_block ?_
      refine cw_seq ?_
      refine cw_ops hA ?_
      clear hA
      obtain ⟨x12, hx12, hG1⟩ := bindE hG1
      refine ops_v (rv_idx (m := 1) (hS.rd 0 rfl) rfl hx12 Try.underlying100 Try.sizeOf33 rfl rfl rfl) (want_yes rfl) rfl rfl ?_
      obtain ⟨s8, hel, hS⟩ := hS.el_Slice 0 rfl (idx_some hx12).2.2
      refine ops_v (rv_load1 rfl rfl Try.isAgg33 (cell1 hel)) (want_yes rfl) rfl rfl ?_
      refine ops_v (rv_assign rfl rfl) (want_yes rfl) rfl rfl ?_
      refine ops_nil ?_
      intro a hA
      refine cw_seq ?_
      refine cw_ops hA ?_
      clear hA
      refine ops_v (rv_move rfl rfl) (want_yes rfl) rfl rfl ?_
      refine ops_v (rv_move rfl rfl) (want_yes rfl) rfl rfl ?_
      refine ops_v (rv_lenS (hS.rd 1 rfl) Try.underlying33 rfl rfl) (want_yes rfl) rfl rfl ?_
      refine ops_v (rv_add rfl rfl rfl) (want_yes rfl) rfl rfl ?_
      refine ops_v (rv_assign rfl rfl) (want_yes rfl) rfl rfl ?_
      refine ops_nil ?_
      intro a hA
      refine cw_seq ?_
      refine cw_ops hA ?_
      clear hA
      refine ops_v (rv_move rfl rfl) (want_yes rfl) rfl rfl ?_
      refine ops_v (rv_lss rfl rfl rfl) (want_yes rfl) rfl rfl ?_
      refine ops_nil ?_
      intro a hA
      refine cw_cond hA rfl (fun hc3 => ?_) (fun hc3 => ?_)
      · replace hG1 := iteT hc3 hG1
        refine cw_ops hA ?_
        clear hA
        cases hG1
      · replace hG1 := iteF hc3 hG1
        refine cw_skip ?_
        refine cw_ops hA ?_
        clear hA
        refine ops_v (rv_add rfl rfl rfl) (want_yes rfl) rfl rfl ?_
        refine ops_v (rv_move rfl rfl) (want_yes rfl) rfl rfl ?_
        refine ops_nil ?_
        intro a hA
        cases hG1
        exact ⟨_, rfl, ⟨hA.part ⟨rfl, rfl, rfl, rfl, rfl, trivial⟩, ((hS).sel [] rfl).selR [0] rfl⟩⟩
    · replace hG1 := iteF hc2 hG1
      refine cw_exit ?_
      refine xcons_hit ?_
      cases hG1
      have ho := hr1 _ rfl; subst ho
      exact ⟨x3, rfl, hA.part ⟨rfl, rfl, trivial⟩, ((hS).sel [] rfl).selR [0] rfl⟩
  · skip
    clear hA hS hl1
    rintro a w ⟨x5, heq, hA, hS⟩
    replace hF : slices_Concat_SList_j1 slices x5 = some r := by rw [heq] at hF; exact hF
    clear heq
    unfold slices_Concat_SList_j1 at hF
    refine cw_seq ?_
    refine cw_ops hA ?_
    clear hA
    refine ops_v (rv_move rfl rfl) (want_yes rfl) rfl rfl ?_
    obtain ⟨hn1, hF⟩ := needE hF
    refine ops_c (rc_call Try.call86 rfl rfl) (want_yes rfl) rfl rfl (c_slices_Grow_SList_nil hn1) ?_
    rintro s2 w ⟨_, rfl, hk⟩
    replace hS := hS.after hk; clear hk
    refine ops_v (rv_assign rfl rfl) (want_yes rfl) rfl rfl ?_
    refine ops_nil ?_
    intro a hA
    refine cw_seq ?_
    refine cw_seq ?_
    refine cw_ops hA ?_
    clear hA
    refine ops_v (rv_move rfl rfl) (want_yes rfl) rfl rfl ?_
    refine ops_v (rv_lenS (hS.rd 0 rfl) Try.underlying100 rfl rfl) (want_yes rfl) rfl rfl ?_
    refine ops_v (rv_move rfl rfl) (want_yes rfl) rfl rfl ?_
    refine ops_nil ?_
    intro a hA
    obtain ⟨o2, hl2, hF⟩ := bindE hF
    refine cw_cut (J := fun a' w' => ∃ (x10 : List Raw) (s5 : Value), o2 = x10 ∧ AEnv 36 [(6, s5)] a' ∧ St (cxAll w0) w' [cOwn [s5] (x10 : List Raw)] []) ?_ ?_
    · refine cw_block ?_
      refine cw_loop (body := slices_Concat_SList_l2 slices) (r := o2) (fun sg a' w' => ∃ (s4 : Value), AEnv 36 [(6, s4), (25, s1), (26, .int .i64 ((slices.length : Int))), (27, .int .i64 (sg.2))] a' ∧ St (cxAll w0) w' [cOwn [s4] (sg.1 : List Raw)] [fRd [s1] (slices : List (List Raw))]) ?_ hl2 ⟨s2, hA.part ⟨rfl, rfl, rfl, rfl, trivial⟩, ((hS).sel [0] rfl).selR [0] rfl⟩
      clear hA hS hl2
      rintro ⟨x8, x9⟩ a w q2 ⟨s4, hA, hS⟩ hG2 hr2
      try dsimp only at hA hS
      unfold slices_Concat_SList_l2 at hG2
      refine cw_seq ?_
      refine cw_ops hA ?_
      clear hA
      refine ops_v (rv_lss rfl rfl rfl) (want_yes rfl) rfl rfl ?_
      refine ops_nil ?_
      intro a hA
      refine cw_seq ?_
      refine cw_cond hA rfl (fun hc1 => ?_) (fun hc1 => ?_)
      · replace hG2 := iteT hc1 hG2
        refine cw_skip ?_
        refine cw_seq ?_
        refine cw_block ?_
        refine cw_seq ?_
        refine cw_ops hA ?_
        clear hA
        obtain ⟨x11, hx11, hG2⟩ := bindE hG2
        refine ops_v (rv_idx (m := 1) (hS.rd 0 rfl) rfl hx11 Try.underlying100 Try.sizeOf33 rfl rfl rfl) (want_yes rfl) rfl rfl ?_
        obtain ⟨s6, hel, hS⟩ := hS.el_Slice 0 rfl (idx_some hx11).2.2
        refine ops_v (rv_load1 rfl rfl Try.isAgg33 (cell1 hel)) (want_yes rfl) rfl rfl ?_
        refine ops_v (rv_assign rfl rfl) (want_yes rfl) rfl rfl ?_
        refine ops_nil ?_
        intro a hA
        refine cw_ops hA ?_
        clear hA
        refine ops_v (rv_move rfl rfl) (want_yes rfl) rfl rfl ?_
        refine ops_v (rv_move rfl rfl) (want_yes rfl) rfl rfl ?_
        obtain ⟨hn2, hG2⟩ := needE hG2
        refine ops_mv (rv_append (α := Raw) 0 hS rfl (hS.rd 1 rfl) rfl Try.underlying33 inf_Try53 rfl hn2 rfl rfl rfl) (want_yes rfl) rfl rfl ?_
        clear hS
        rintro s7 w hS
        refine ops_v (rv_assign rfl rfl) (want_yes rfl) rfl rfl ?_
        refine ops_nil ?_
        intro a hA
        refine cw_ops hA ?_
        clear hA
        refine ops_v (rv_add rfl rfl rfl) (want_yes rfl) rfl rfl ?_
        refine ops_v (rv_move rfl rfl) (want_yes rfl) rfl rfl ?_
        refine ops_nil ?_
        intro a hA
        cases hG2
        exact ⟨_, rfl, ⟨s7, hA.part ⟨rfl, rfl, rfl, rfl, trivial⟩, ((hS).sel [0] rfl).selR [0] rfl⟩⟩
      · replace hG2 := iteF hc1 hG2
        refine cw_exit ?_
        refine xcons_hit ?_
        cases hG2
        have ho := hr2 _ rfl; subst ho
        exact ⟨x8, s4, rfl, hA.part ⟨rfl, trivial⟩, ((hS).sel [0] rfl).selR [] rfl⟩
    · skip
      clear hA hS hl2
      rintro a w ⟨x10, s5, heq, hA, hS⟩
      replace hF : slices_Concat_SList_j2 x10 = some r := by rw [heq] at hF; exact hF
      clear heq
      unfold slices_Concat_SList_j2 at hF
      refine cw_seq ?_
      refine cw_ops hA ?_
      clear hA
      refine ops_v (rv_move rfl rfl) (want_yes rfl) rfl rfl ?_
      refine ops_v (rv_assign rfl rfl) (want_yes rfl) rfl rfl ?_
      refine ops_nil ?_
      intro a hA
      refine cw_ret ?_
      cases hF
      exact fin1 Try.results63 hA (res_tmp rfl) ⟨s5, rfl, (hS.sel [0] rfl).weaken (R' := []) (fun _ h => nomatch h)⟩

set_option maxHeartbeats 4000000 in
set_option maxRecDepth 100000 in
theorem c_impl_isSlot {w0 : World} {slot : Int}  {r : Bool}  (hF : impl_isSlot slot = some r) :
    Calls Try.prog 64 #[.int .i64 (slot)] w0 (Ret fun v w' => v = .bool (r) ∧ St (cxAll w0) w' [] []) := by
  have hS : St (cxAll w0) w0 [] [] := St.enter (by
    intro f hf; cases hf)
  refine calls_cw (args := [_]) Try.func64 rfl Try.ntmps64 rfl ?_
  unfold impl_isSlot at hF
  intro a hA
  refine cw_seq ?_
  refine cw_ops hA ?_
  clear hA
  refine ops_v (rv_assign rfl rfl) (want_yes rfl) rfl rfl ?_
  refine ops_nil ?_
  intro a hA
  refine cw_seq ?_
  refine cw_ops hA ?_
  clear hA
  refine ops_v (rv_move rfl rfl) (want_yes rfl) rfl rfl ?_
  obtain ⟨x1, hx1, hF⟩ := bindE hF
  refine ops_c (rc_call Try.call67 rfl rfl) (want_yes rfl) rfl rfl (c_impl_within (n := slot) (low := 0) (high := 23)  hx1) ?_
  rintro _ w ⟨rfl, hk⟩
  replace hS := hS.after hk; clear hk
  refine ops_v (rv_assign rfl rfl) (want_yes rfl) rfl rfl ?_
  refine ops_nil ?_
  intro a hA
  refine cw_ret ?_
  cases hF
  exact fin1 Try.results64 hA (res_tmp rfl) ⟨rfl, (hS.sel [] rfl).weaken (R' := []) (fun _ h => nomatch h)⟩

set_option maxHeartbeats 4000000 in
set_option maxRecDepth 100000 in
theorem c_impl_ListsOk {w0 : World} {l : Lists} {s1 : Value} {s2 : Value} {r : Bool} (h1 : Rep.rd (All w0) w0 [s1] (l.Global : List SList)) (h2 : Rep.rd (All w0) w0 [s2] (l.Own : List SList)) (hF : impl_ListsOk l = some r) :
    Calls Try.prog 40 #[.agg #[s1, s2]] w0 (Ret fun v w' => v = .bool (r) ∧ St (cxAll w0) w' [] []) := by
  have hS : St (cxAll w0) w0 [] [fRd [s1] (l.Global : List SList), fRd [s2] (l.Own : List SList)] := St.enter (by
    intro f hf
    simp only [List.mem_cons, List.not_mem_nil, or_false] at hf
    rcases hf with rfl | rfl
    · exact h1
    · exact h2)
  refine calls_cw (args := [_]) Try.func40 rfl Try.ntmps40 rfl ?_
  unfold impl_ListsOk at hF
  intro a hA
  refine cw_seq ?_
  refine cw_ops hA ?_
  clear hA
  refine ops_mv (rv_box (cs := [s1, s2]) hS rfl rfl rfl) (want_yes rfl) rfl rfl ?_
  clear hS
  rintro _ w ⟨b1, rfl, hS⟩
  refine ops_v (rv_assign rfl rfl) (want_yes rfl) rfl rfl ?_
  refine ops_nil ?_
  intro a hA
  refine cw_seq ?_
  refine cw_seq ?_
  refine cw_cut (J := fun a' w' => ∃ (x1 : Bool), impl_ListsOk_j1 l x1 = some r ∧ AEnv 61 [(1, .pointer (some ⟨b1, 0, none⟩)), (17, .bool (x1))] a' ∧ St (cxAll w0) w' [cBox b1 [s1, s2]] [fRd [s1] (l.Global : List SList), fRd [s2] (l.Own : List SList)]) ?_ ?_
  · skip
    refine cw_ops hA ?_
    clear hA
    refine ops_v (rv_fld (m := 0) Try.underlying35 rfl rfl Try.sizeOf33 rfl rfl) (want_yes rfl) rfl rfl ?_
    refine ops_v (rv_load1 rfl rfl Try.isAgg33 (hS.cell 0 rfl rfl)) (want_yes rfl) rfl rfl ?_
    refine ops_v (rv_lenS (hS.rd 0 rfl) Try.underlying33 rfl rfl) (want_yes rfl) rfl rfl ?_
    refine ops_v (rv_neq rfl rfl rfl) (want_yes rfl) rfl rfl ?_
    refine ops_v (rv_move rfl rfl) (want_yes rfl) rfl rfl ?_
    refine ops_case (s := 12) rfl (fun hc8 => ?_) (fun hc8 => ?_)
    · replace hF := iteT hc8 hF
      refine ops_off (want_if rfl rfl rfl (by rw [hc8]; rfl)) rfl rfl ?_
      refine ops_off (want_if rfl rfl rfl (by rw [hc8]; rfl)) rfl rfl ?_
      refine ops_off (want_if rfl rfl rfl (by rw [hc8]; rfl)) rfl rfl ?_
      refine ops_off (want_if rfl rfl rfl (by rw [hc8]; rfl)) rfl rfl ?_
      refine ops_v (rv_pick_t rfl rfl hc8 rfl) (want_yes rfl) rfl rfl ?_
      refine ops_nil ?_
      intro a hA
      exact ⟨true, hF, hA.part ⟨rfl, rfl, trivial⟩, ((hS).sel [0] rfl).selR [0, 1] rfl⟩
    · replace hF := iteF hc8 hF
      refine ops_v (rv_fld (m := 0) Try.underlying35 rfl rfl Try.sizeOf33 rfl rfl) (want_if rfl rfl rfl (by rw [hc8]; rfl)) rfl rfl ?_
      refine ops_v (rv_load1 rfl rfl Try.isAgg33 (hS.cell 0 rfl rfl)) (want_if rfl rfl rfl (by rw [hc8]; rfl)) rfl rfl ?_
      refine ops_v (rv_lenS (hS.rd 1 rfl) Try.underlying33 rfl rfl) (want_if rfl rfl rfl (by rw [hc8]; rfl)) rfl rfl ?_
      refine ops_v (rv_neq rfl rfl rfl) (want_if rfl rfl rfl (by rw [hc8]; rfl)) rfl rfl ?_
      refine ops_v (rv_pick_f rfl rfl hc8 rfl) (want_yes rfl) rfl rfl ?_
      refine ops_nil ?_
      intro a hA
      exact ⟨((l.Own.length : Int)) != 9, hF, hA.part ⟨rfl, rfl, trivial⟩, ((hS).sel [0] rfl).selR [0, 1] rfl⟩
  · skip
    clear hA hS hF
    rintro a w ⟨x1, hF, hA, hS⟩
    unfold impl_ListsOk_j1 at hF
    refine cw_cond hA rfl (fun hc1 => ?_) (fun hc1 => ?_)
    · replace hF := iteT hc1 hF
      refine cw_seq ?_
      refine cw_ops hA ?_
      clear hA
      refine ops_v (rv_assign rfl rfl) (want_yes rfl) rfl rfl ?_
      refine ops_nil ?_
      intro a hA
      refine cw_ret ?_
      cases hF
      exact fin1 Try.results40 hA (res_tmp rfl) ⟨rfl, (hS.sel [] rfl).weaken (R' := []) (fun _ h => nomatch h)⟩
    · replace hF := iteF hc1 hF
      refine cw_skip ?_
      refine cw_seq ?_
      refine cw_ops hA ?_
      clear hA
      refine ops_v (rv_buildA (cells := #[.bool (false), .bool (false), .bool (false), .bool (false), .bool (false), .bool (false), .bool (false), .bool (false), .bool (false), .bool (false), .bool (false), .bool (false), .bool (false), .bool (false), .bool (false), .bool (false), .bool (false), .bool (false), .bool (false), .bool (false), .bool (false), .bool (false), .bool (false), .bool (false)]) rfl Try.zeroValue89 Try.underlying89 Try.sizeOf4 rfl rfl) (want_yes rfl) rfl rfl ?_
      refine ops_mv (rv_alloc (cs := List.map (fun q : Bool => Value.bool q) [false, false, false, false, false, false, false, false, false, false, false, false, false, false, false, false, false, false, false, false, false, false, false, false]) hS rfl Try.zeroValue89 rfl) (want_yes rfl) rfl rfl ?_
      clear hS
      rintro _ w ⟨b2, rfl, hS⟩
      refine ops_ms (rs_box (vs := [.bool (false), .bool (false), .bool (false), .bool (false), .bool (false), .bool (false), .bool (false), .bool (false), .bool (false), .bool (false), .bool (false), .bool (false), .bool (false), .bool (false), .bool (false), .bool (false), .bool (false), .bool (false), .bool (false), .bool (false), .bool (false), .bool (false), .bool (false), .bool (false)]) hS (i := 1) rfl rfl rfl rfl rfl Try.sizeOf89 rfl rfl rfl) (want_yes rfl) rfl ?_
      clear hS
      intro w hS
      refine ops_nil ?_
      intro a hA
      refine cw_seq ?_
      refine cw_seq ?_
      refine cw_ops hA ?_
      clear hA
      refine ops_v (rv_fld (m := 0) Try.underlying35 rfl rfl Try.sizeOf33 rfl rfl) (want_yes rfl) rfl rfl ?_
      refine ops_v (rv_load1 rfl rfl Try.isAgg33 (hS.cell 0 rfl rfl)) (want_yes rfl) rfl rfl ?_
      refine ops_v (rv_fld (m := 0) Try.underlying35 rfl rfl Try.sizeOf33 rfl rfl) (want_yes rfl) rfl rfl ?_
      refine ops_v (rv_load1 rfl rfl Try.isAgg33 (hS.cell 0 rfl rfl)) (want_yes rfl) rfl rfl ?_
      refine ops_mv (rv_litRaw2 hS (hS.rd 1 rfl) (hS.rd 0 rfl) Try.underlying100 inf_Try33 rfl rfl rfl) (want_yes rfl) rfl rfl ?_
      clear hS
      rintro s3 w hS
      obtain ⟨hn1, hF⟩ := needE hF
      replace hS := hS.leak 2 rfl
      obtain ⟨u1, u2, hu1, hl1, hS⟩ := hS.concat2 rfl 2 1 0 rfl rfl rfl
      refine ops_c (rc_call Try.call63 rfl rfl) (want_yes rfl) rfl rfl (c_slices_Concat_SList hu1 (slices_Concat_SList_two hl1 hn1)) ?_
      rintro s4 w ⟨_, rfl, hk⟩
      replace hS := hS.after hk; clear hk
      replace hS := hS.leak 3 rfl
      replace hS := hS.unraw rfl 4 3 rfl rfl
      refine ops_v (rv_lenS (hS.rd 5 rfl) Try.underlying33 rfl rfl) (want_yes rfl) rfl rfl ?_
      refine ops_v (rv_move rfl rfl) (want_yes rfl) rfl rfl ?_
      refine ops_nil ?_
      intro a hA
      obtain ⟨o1, hl2, hF⟩ := bindE hF
      refine cw_cut (J := fun a' w' => o1 = Out.brk (()) ∧ AEnv 61 [] a' ∧ St (cxAll w0) w' [] []) ?_ ?_
      · refine cw_block ?_
        refine cw_loop (body := impl_ListsOk_l2 l) (r := o1) (fun sg a' w' => AEnv 61 [(1, .pointer (some ⟨b1, 0, none⟩)), (3, .pointer (some ⟨b2, 0, none⟩)), (24, s4), (25, .int .i64 (((l.Own ++ l.Global).length : Int))), (26, .int .i64 (sg.1))] a' ∧ St (cxAll w0) w' [cBox b1 [s1, s2], cBox b2 (List.map (fun q : Bool => Value.bool q) (sg.2 : List Bool))] [fRd [s4] (l.Own ++ l.Global : List SList), fRd [s1] (l.Global : List SList), fRd [s2] (l.Own : List SList)]) ?_ hl2 ⟨hA.part ⟨rfl, rfl, rfl, rfl, rfl, trivial⟩, ((hS).sel [0, 1] rfl).selR [5, 0, 1] rfl⟩
        clear hA hS hl2
        rintro ⟨x4, x5⟩ a w q2 ⟨hA, hS⟩ hG2 hr2
        try dsimp only at hA hS
        unfold impl_ListsOk_l2 at hG2
        refine cw_seq ?_
        refine cw_ops hA ?_
        clear hA
        refine ops_v (rv_lss rfl rfl rfl) (want_yes rfl) rfl rfl ?_
        refine ops_nil ?_
        intro a hA
        refine cw_seq ?_
        refine cw_cond hA rfl (fun hc2 => ?_) (fun hc2 => ?_)
        · replace hG2 := iteT hc2 hG2
          refine cw_skip ?_
          refine cw_seq ?_
          refine cw_block ?_
          refine cw_seq ?_
          refine cw_ops hA ?_
          clear hA
          refine ops_v (rv_move rfl rfl) (want_yes rfl) rfl rfl ?_
          obtain ⟨x6, hx6, hG2⟩ := bindE hG2
          refine ops_v (rv_idx (m := 1) (hS.rd 0 rfl) rfl hx6 Try.underlying33 Try.sizeOf53 rfl rfl rfl) (want_yes rfl) rfl rfl ?_
          obtain ⟨s5, hel, hS⟩ := hS.el_SList 0 rfl (idx_some hx6).2.2
          refine ops_v (rv_loadN rfl rfl Try.isAgg53 Try.sizeOf53 rfl hel) (want_yes rfl) rfl rfl ?_
          refine ops_mv (rv_alloc (cs := [(.slice none 0 0)]) hS rfl Try.zeroValue53 rfl) (want_yes rfl) rfl rfl ?_
          clear hS
          rintro _ w ⟨b3, rfl, hS⟩
          refine ops_v (rv_assign rfl rfl) (want_yes rfl) rfl rfl ?_
          refine ops_ms (rs_box (vs := [s5]) hS (i := 2) rfl rfl rfl rfl rfl Try.sizeOf53 rfl rfl (all1 (one_rd (hS.rd 3 rfl)) rfl)) (want_yes rfl) rfl ?_
          clear hS
          intro w hS
          refine ops_nil ?_
          intro a hA
          refine cw_seq ?_
          refine cw_seq ?_
          refine cw_cut (J := fun a' w' => ∃ (x7 : Bool), impl_ListsOk_j3 x4 x5 x6 x7 = some q2 ∧ AEnv 61 [(1, .pointer (some ⟨b1, 0, none⟩)), (3, .pointer (some ⟨b2, 0, none⟩)), (5, .pointer (some ⟨b3, 0, none⟩)), (24, s4), (25, .int .i64 (((l.Own ++ l.Global).length : Int))), (26, .int .i64 (x4)), (41, .bool (x7))] a' ∧ St (cxAll w0) w' [cBox b1 [s1, s2], cBox b2 (List.map (fun q : Bool => Value.bool q) (x5 : List Bool)), cBox b3 [s5]] [fRd [s4] (l.Own ++ l.Global : List SList), fRd [s1] (l.Global : List SList), fRd [s2] (l.Own : List SList), fRd [s5] (x6.Slots : List Int)]) ?_ ?_
          · skip
            refine cw_ops hA ?_
            clear hA
            refine ops_v (rv_move rfl rfl) (want_yes rfl) rfl rfl ?_
            refine ops_v (rv_fld (m := 0) Try.underlying35 rfl rfl Try.sizeOf33 rfl rfl) (want_yes rfl) rfl rfl ?_
            refine ops_v (rv_load1 rfl rfl Try.isAgg33 (hS.cell 0 rfl rfl)) (want_yes rfl) rfl rfl ?_
            refine ops_v (rv_lenS (hS.rd 2 rfl) Try.underlying33 rfl rfl) (want_yes rfl) rfl rfl ?_
            refine ops_v (rv_lss rfl rfl rfl) (want_yes rfl) rfl rfl ?_
            refine ops_v (rv_move rfl rfl) (want_yes rfl) rfl rfl ?_
            refine ops_case (s := 36) rfl (fun hc7 => ?_) (fun hc7 => ?_)
            · replace hG2 := iteT hc7 hG2
              refine ops_v (rv_fld (m := 0) Try.underlying53 rfl rfl Try.sizeOf22 rfl rfl) (want_if rfl rfl rfl (by rw [hc7]; rfl)) rfl rfl ?_
              refine ops_v (rv_load1 rfl rfl Try.isAgg22 (hS.cell 2 rfl rfl)) (want_if rfl rfl rfl (by rw [hc7]; rfl)) rfl rfl ?_
              refine ops_v (rv_lenS (hS.rd 3 rfl) Try.underlying22 rfl rfl) (want_if rfl rfl rfl (by rw [hc7]; rfl)) rfl rfl ?_
              refine ops_v (rv_gtr rfl rfl rfl) (want_if rfl rfl rfl (by rw [hc7]; rfl)) rfl rfl ?_
              refine ops_v (rv_pick_t rfl rfl hc7 rfl) (want_yes rfl) rfl rfl ?_
              refine ops_nil ?_
              intro a hA
              exact ⟨decide (2 < ((x6.Slots.length : Int))), hG2, hA.part ⟨rfl, rfl, rfl, rfl, rfl, rfl, rfl, trivial⟩, ((hS).sel [0, 1, 2] rfl).selR [0, 1, 2, 3] rfl⟩
            · replace hG2 := iteF hc7 hG2
              refine ops_off (want_if rfl rfl rfl (by rw [hc7]; rfl)) rfl rfl ?_
              refine ops_off (want_if rfl rfl rfl (by rw [hc7]; rfl)) rfl rfl ?_
              refine ops_off (want_if rfl rfl rfl (by rw [hc7]; rfl)) rfl rfl ?_
              refine ops_off (want_if rfl rfl rfl (by rw [hc7]; rfl)) rfl rfl ?_
              refine ops_v (rv_pick_f rfl rfl hc7 rfl) (want_yes rfl) rfl rfl ?_
              refine ops_nil ?_
              intro a hA
              exact ⟨false, hG2, hA.part ⟨rfl, rfl, rfl, rfl, rfl, rfl, rfl, trivial⟩, ((hS).sel [0, 1, 2] rfl).selR [0, 1, 2, 3] rfl⟩
          · skip
            clear hA hS hG2
            rintro a w ⟨x7, hG2, hA, hS⟩
            unfold impl_ListsOk_j3 at hG2
            refine cw_cond hA rfl (fun hc3 => ?_) (fun hc3 => ?_)
            · replace hG2 := iteT hc3 hG2
              refine cw_seq ?_
              refine cw_ops hA ?_
              clear hA
              refine ops_v (rv_assign rfl rfl) (want_yes rfl) rfl rfl ?_
              refine ops_nil ?_
              intro a hA
              refine cw_ret ?_
              cases hG2
              have ho := hr2 _ rfl; subst ho
              replace hF : some false = some r := hF
              cases hF
              exact fin1 Try.results40 hA (res_tmp rfl) ⟨rfl, (hS.sel [] rfl).weaken (R' := []) (fun _ h => nomatch h)⟩
            · replace hG2 := iteF hc3 hG2
              refine cw_skip ?_
              refine cw_seq ?_
              refine cw_ops hA ?_
              clear hA
              refine ops_v (rv_fld (m := 0) Try.underlying53 rfl rfl Try.sizeOf22 rfl rfl) (want_yes rfl) rfl rfl ?_
              refine ops_v (rv_load1 rfl rfl Try.isAgg22 (hS.cell 2 rfl rfl)) (want_yes rfl) rfl rfl ?_
              refine ops_v (rv_lenS (hS.rd 3 rfl) Try.underlying22 rfl rfl) (want_yes rfl) rfl rfl ?_
              refine ops_v (rv_move rfl rfl) (want_yes rfl) rfl rfl ?_
              refine ops_nil ?_
              intro a hA
              obtain ⟨o2, hl3, hG2⟩ := bindE hG2
              refine cw_cut (J := fun a' w' => ∃ (x12 : List Bool), o2 = Out.brk x12 ∧ AEnv 61 [(1, .pointer (some ⟨b1, 0, none⟩)), (3, .pointer (some ⟨b2, 0, none⟩)), (24, s4), (25, .int .i64 (((l.Own ++ l.Global).length : Int))), (26, .int .i64 (x4))] a' ∧ St (cxAll w0) w' [cBox b1 [s1, s2], cBox b2 (List.map (fun q : Bool => Value.bool q) (x12 : List Bool))] [fRd [s4] (l.Own ++ l.Global : List SList), fRd [s1] (l.Global : List SList), fRd [s2] (l.Own : List SList)]) ?_ ?_
              · refine cw_block ?_
                refine cw_loop (body := impl_ListsOk_l4 x6) (r := o2) (fun sg a' w' => AEnv 61 [(1, .pointer (some ⟨b1, 0, none⟩)), (3, .pointer (some ⟨b2, 0, none⟩)), (24, s4), (25, .int .i64 (((l.Own ++ l.Global).length : Int))), (26, .int .i64 (x4)), (43, s5), (44, .int .i64 ((x6.Slots.length : Int))), (45, .int .i64 (sg.1))] a' ∧ St (cxAll w0) w' [cBox b1 [s1, s2], cBox b2 (List.map (fun q : Bool => Value.bool q) (sg.2 : List Bool))] [fRd [s4] (l.Own ++ l.Global : List SList), fRd [s5] (x6.Slots : List Int), fRd [s1] (l.Global : List SList), fRd [s2] (l.Own : List SList)]) ?_ hl3 ⟨hA.part ⟨rfl, rfl, rfl, rfl, rfl, rfl, rfl, rfl, trivial⟩, ((hS).sel [0, 1] rfl).selR [0, 3, 1, 2] rfl⟩
                clear hA hS hl3
                rintro ⟨x10, x11⟩ a w q4 ⟨hA, hS⟩ hG4 hr4
                try dsimp only at hA hS
                unfold impl_ListsOk_l4 at hG4
                refine cw_seq ?_
                refine cw_ops hA ?_
                clear hA
                refine ops_v (rv_lss rfl rfl rfl) (want_yes rfl) rfl rfl ?_
                refine ops_nil ?_
                intro a hA
                refine cw_seq ?_
                refine cw_cond hA rfl (fun hc4 => ?_) (fun hc4 => ?_)
                · replace hG4 := iteT hc4 hG4
                  refine cw_skip ?_
                  refine cw_seq ?_
                  refine cw_block ?_
                  refine cw_seq ?_
                  refine cw_ops hA ?_
                  clear hA
                  obtain ⟨x13, hx13, hG4⟩ := bindE hG4
                  refine ops_v (rv_idx (m := 1) (hS.rd 1 rfl) rfl hx13 Try.underlying22 Try.sizeOf3 rfl rfl rfl) (want_yes rfl) rfl rfl ?_
                  refine ops_v (rv_load1 rfl rfl Try.isAgg3 (cell1 (el_Int (hS.rd 1 rfl) (idx_some hx13).2.2))) (want_yes rfl) rfl rfl ?_
                  refine ops_v (rv_assign rfl rfl) (want_yes rfl) rfl rfl ?_
                  refine ops_nil ?_
                  intro a hA
                  refine cw_seq ?_
                  refine cw_seq ?_
                  refine cw_cut (J := fun a' w' => ∃ (x14 : Bool), impl_ListsOk_j5 x10 x11 x13 x14 = some q4 ∧ AEnv 61 [(1, .pointer (some ⟨b1, 0, none⟩)), (3, .pointer (some ⟨b2, 0, none⟩)), (7, .int .i64 (x13)), (24, s4), (25, .int .i64 (((l.Own ++ l.Global).length : Int))), (26, .int .i64 (x4)), (43, s5), (44, .int .i64 ((x6.Slots.length : Int))), (45, .int .i64 (x10)), (56, .bool (x14))] a' ∧ St (cxAll w0) w' [cBox b1 [s1, s2], cBox b2 (List.map (fun q : Bool => Value.bool q) (x11 : List Bool))] [fRd [s4] (l.Own ++ l.Global : List SList), fRd [s5] (x6.Slots : List Int), fRd [s1] (l.Global : List SList), fRd [s2] (l.Own : List SList)]) ?_ ?_
                  · skip
                    refine cw_ops hA ?_
                    clear hA
                    refine ops_v (rv_move rfl rfl) (want_yes rfl) rfl rfl ?_
                    obtain ⟨x16, hx16, hG4⟩ := bindE hG4
                    refine ops_c (rc_call Try.call64 rfl rfl) (want_yes rfl) rfl rfl (c_impl_isSlot (slot := x13)  hx16) ?_
                    rintro _ w ⟨rfl, hk⟩
                    replace hS := hS.after hk; clear hk
                    refine ops_v (rv_not rfl rfl) (want_yes rfl) rfl rfl ?_
                    refine ops_v (rv_move rfl rfl) (want_yes rfl) rfl rfl ?_
                    refine ops_case (s := 52) rfl (fun hc6 => ?_) (fun hc6 => ?_)
                    · replace hG4 := iteT hc6 hG4
                      refine ops_off (want_if rfl rfl rfl (by rw [hc6]; rfl)) rfl rfl ?_
                      refine ops_off (want_if rfl rfl rfl (by rw [hc6]; rfl)) rfl rfl ?_
                      refine ops_off (want_if rfl rfl rfl (by rw [hc6]; rfl)) rfl rfl ?_
                      refine ops_v (rv_pick_t rfl rfl hc6 rfl) (want_yes rfl) rfl rfl ?_
                      refine ops_nil ?_
                      intro a hA
                      exact ⟨true, hG4, hA.part ⟨rfl, rfl, rfl, rfl, rfl, rfl, rfl, rfl, rfl, rfl, trivial⟩, ((hS).sel [0, 1] rfl).selR [0, 1, 2, 3] rfl⟩
                    · replace hG4 := iteF hc6 hG4
                      refine ops_v (rv_move rfl rfl) (want_if rfl rfl rfl (by rw [hc6]; rfl)) rfl rfl ?_
                      obtain ⟨hn3, hG4⟩ := needE hG4
                      refine ops_v (rv_idxA Try.underlying89 Try.sizeOf4 hn3 rfl rfl rfl) (want_if rfl rfl rfl (by rw [hc6]; rfl)) rfl rfl ?_
                      obtain ⟨x17, hx17, hG4⟩ := bindE hG4
                      refine ops_v (rv_load1 rfl rfl Try.isAgg4 (hS.arrcell 1 rfl hx17)) (want_if rfl rfl rfl (by rw [hc6]; rfl)) rfl rfl ?_
                      refine ops_v (rv_pick_f rfl rfl hc6 rfl) (want_yes rfl) rfl rfl ?_
                      refine ops_nil ?_
                      intro a hA
                      exact ⟨x17, hG4, hA.part ⟨rfl, rfl, rfl, rfl, rfl, rfl, rfl, rfl, rfl, rfl, trivial⟩, ((hS).sel [0, 1] rfl).selR [0, 1, 2, 3] rfl⟩
                  · skip
                    clear hA hS hG4
                    rintro a w ⟨x14, hG4, hA, hS⟩
                    unfold impl_ListsOk_j5 at hG4
                    refine cw_cond hA rfl (fun hc5 => ?_) (fun hc5 => ?_)
                    · replace hG4 := iteT hc5 hG4
                      refine cw_seq ?_
                      refine cw_ops hA ?_
                      clear hA
                      refine ops_v (rv_assign rfl rfl) (want_yes rfl) rfl rfl ?_
                      refine ops_nil ?_
                      intro a hA
                      refine cw_ret ?_
                      cases hG4
                      have ho := hr4 _ rfl; subst ho
                      replace hG2 : some (.stop (Out.ret false)) = some q2 := hG2
                      cases hG2
                      have ho := hr2 _ rfl; subst ho
                      replace hF : some false = some r := hF
                      cases hF
                      exact fin1 Try.results40 hA (res_tmp rfl) ⟨rfl, (hS.sel [] rfl).weaken (R' := []) (fun _ h => nomatch h)⟩
                    · replace hG4 := iteF hc5 hG4
                      refine cw_skip ?_
                      refine cw_ops hA ?_
                      clear hA
                      refine ops_v (rv_move rfl rfl) (want_yes rfl) rfl rfl ?_
                      obtain ⟨hn2, hG4⟩ := needE hG4
                      refine ops_v (rv_idxA Try.underlying89 Try.sizeOf4 hn2 rfl rfl rfl) (want_yes rfl) rfl rfl ?_
                      obtain ⟨x15, hx15, hG4⟩ := bindE hG4
                      refine ops_ms (rs_arr (xd := true) hS (m := 1) rfl hx15 Try.sizeOf4 rfl rfl rfl rfl rfl rfl) (want_yes rfl) rfl ?_
                      clear hS
                      intro w hS
                      refine ops_nil ?_
                      intro a hA
                      refine cw_ops hA ?_
                      clear hA
                      refine ops_v (rv_add rfl rfl rfl) (want_yes rfl) rfl rfl ?_
                      refine ops_v (rv_move rfl rfl) (want_yes rfl) rfl rfl ?_
                      refine ops_nil ?_
                      intro a hA
                      cases hG4
                      exact ⟨_, rfl, ⟨hA.part ⟨rfl, rfl, rfl, rfl, rfl, rfl, rfl, rfl, trivial⟩, ((hS).sel [0, 1] rfl).selR [0, 1, 2, 3] rfl⟩⟩
                · replace hG4 := iteF hc4 hG4
                  refine cw_exit ?_
                  refine xcons_hit ?_
                  cases hG4
                  have ho := hr4 _ rfl; subst ho
                  exact ⟨x11, rfl, hA.part ⟨rfl, rfl, rfl, rfl, rfl, trivial⟩, ((hS).sel [0, 1] rfl).selR [0, 2, 3] rfl⟩
              · skip
                clear hA hS hl3
                rintro a w ⟨x12, heq, hA, hS⟩
                replace hG2 : impl_ListsOk_j4 x4 x12 = some q2 := by rw [heq] at hG2; exact hG2
                clear heq
                unfold impl_ListsOk_j4 at hG2
                refine cw_ops hA ?_
                clear hA
                refine ops_v (rv_add rfl rfl rfl) (want_yes rfl) rfl rfl ?_
                refine ops_v (rv_move rfl rfl) (want_yes rfl) rfl rfl ?_
                refine ops_nil ?_
                intro a hA
                cases hG2
                exact ⟨_, rfl, ⟨hA.part ⟨rfl, rfl, rfl, rfl, rfl, trivial⟩, ((hS).sel [0, 1] rfl).selR [0, 1, 2] rfl⟩⟩
        · replace hG2 := iteF hc2 hG2
          refine cw_exit ?_
          refine xcons_hit ?_
          cases hG2
          have ho := hr2 _ rfl; subst ho
          exact ⟨rfl, hA.part trivial, ((hS).sel [] rfl).selR [] rfl⟩
      · skip
        clear hA hS hl2
        rintro a w ⟨heq, hA, hS⟩
        replace hF : impl_ListsOk_j2 = some r := by rw [heq] at hF; exact hF
        clear heq
        unfold impl_ListsOk_j2 at hF
        refine cw_seq ?_
        refine cw_ops hA ?_
        clear hA
        refine ops_v (rv_assign rfl rfl) (want_yes rfl) rfl rfl ?_
        refine ops_nil ?_
        intro a hA
        refine cw_ret ?_
        cases hF
        exact fin1 Try.results40 hA (res_tmp rfl) ⟨rfl, (hS.sel [] rfl).weaken (R' := []) (fun _ h => nomatch h)⟩

set_option maxHeartbeats 4000000 in
set_option maxRecDepth 100000 in
theorem c_impl_GenAt {w0 : World} {slot : Int} {c : Int}  {r : Int}  (hF : impl_GenAt slot c = some r) :
    Calls Try.prog 87 #[.int .i64 (slot), .int .i64 (c)] w0 (Ret fun v w' => v = .int .i64 (r) ∧ St (cxAll w0) w' [] []) := by
  have hS : St (cxAll w0) w0 [] [] := St.enter (by
    intro f hf; cases hf)
  refine calls_cw (args := [_, _]) Try.func87 rfl Try.ntmps87 rfl ?_
  unfold impl_GenAt at hF
  intro a hA
  refine cw_seq ?_
  refine cw_ops hA ?_
  clear hA
  refine ops_v (rv_assign rfl rfl) (want_yes rfl) rfl rfl ?_
  refine ops_nil ?_
  intro a hA
  refine cw_seq ?_
  refine cw_seq ?_
  refine cw_cut (J := fun a' w' => ∃ (x1 : Bool), impl_GenAt_j1 slot c x1 = some r ∧ AEnv 30 [(0, .int .i64 (slot)), (1, .int .i64 (c)), (19, .bool (x1))] a' ∧ St (cxAll w0) w' [] []) ?_ ?_
  · skip
    refine cw_ops hA ?_
    clear hA
    refine ops_v (rv_move rfl rfl) (want_yes rfl) rfl rfl ?_
    obtain ⟨x3, hx3, hF⟩ := bindE hF
    refine ops_c (rc_call Try.call64 rfl rfl) (want_yes rfl) rfl rfl (c_impl_isSlot (slot := slot)  hx3) ?_
    rintro _ w ⟨rfl, hk⟩
    replace hS := hS.after hk; clear hk
    refine ops_v (rv_not rfl rfl) (want_yes rfl) rfl rfl ?_
    refine ops_v (rv_move rfl rfl) (want_yes rfl) rfl rfl ?_
    refine ops_case (s := 8) rfl (fun hc2 => ?_) (fun hc2 => ?_)
    · replace hF := iteT hc2 hF
      refine ops_off (want_if rfl rfl rfl (by rw [hc2]; rfl)) rfl rfl ?_
      refine ops_off (want_if rfl rfl rfl (by rw [hc2]; rfl)) rfl rfl ?_
      refine ops_off (want_if rfl rfl rfl (by rw [hc2]; rfl)) rfl rfl ?_
      refine ops_v (rv_pick_t rfl rfl hc2 rfl) (want_yes rfl) rfl rfl ?_
      refine ops_v (rv_move rfl rfl) (want_yes rfl) rfl rfl ?_
      refine ops_off (want_if rfl rfl rfl rfl) rfl rfl ?_
      refine ops_off (want_if rfl rfl rfl rfl) rfl rfl ?_
      refine ops_off (want_if rfl rfl rfl rfl) rfl rfl ?_
      refine ops_off (want_if rfl rfl rfl rfl) rfl rfl ?_
      refine ops_off (want_if rfl rfl rfl rfl) rfl rfl ?_
      refine ops_v (rv_pick_t rfl rfl rfl rfl) (want_yes rfl) rfl rfl ?_
      refine ops_nil ?_
      intro a hA
      exact ⟨true, hF, hA.part ⟨rfl, rfl, rfl, trivial⟩, ((hS).sel [] rfl).selR [] rfl⟩
    · replace hF := iteF hc2 hF
      refine ops_v (rv_move rfl rfl) (want_if rfl rfl rfl (by rw [hc2]; rfl)) rfl rfl ?_
      obtain ⟨x4, hx4, hF⟩ := bindE hF
      refine ops_c (rc_call Try.call96 rfl rfl) (want_if rfl rfl rfl (by rw [hc2]; rfl)) rfl rfl (c_impl_isClass (c := c)  hx4) ?_
      rintro _ w ⟨rfl, hk⟩
      replace hS := hS.after hk; clear hk
      refine ops_v (rv_not rfl rfl) (want_if rfl rfl rfl (by rw [hc2]; rfl)) rfl rfl ?_
      refine ops_v (rv_pick_f rfl rfl hc2 rfl) (want_yes rfl) rfl rfl ?_
      refine ops_v (rv_move rfl rfl) (want_yes rfl) rfl rfl ?_
      refine ops_case (s := 13) rfl (fun hc3 => ?_) (fun hc3 => ?_)
      · replace hF := iteT hc3 hF
        refine ops_off (want_if rfl rfl rfl (by rw [hc3]; rfl)) rfl rfl ?_
        refine ops_off (want_if rfl rfl rfl (by rw [hc3]; rfl)) rfl rfl ?_
        refine ops_off (want_if rfl rfl rfl (by rw [hc3]; rfl)) rfl rfl ?_
        refine ops_off (want_if rfl rfl rfl (by rw [hc3]; rfl)) rfl rfl ?_
        refine ops_off (want_if rfl rfl rfl (by rw [hc3]; rfl)) rfl rfl ?_
        refine ops_v (rv_pick_t rfl rfl hc3 rfl) (want_yes rfl) rfl rfl ?_
        refine ops_nil ?_
        intro a hA
        exact ⟨true, hF, hA.part ⟨rfl, rfl, rfl, trivial⟩, ((hS).sel [] rfl).selR [] rfl⟩
      · replace hF := iteF hc3 hF
        refine ops_v (rv_move rfl rfl) (want_if rfl rfl rfl (by rw [hc3]; rfl)) rfl rfl ?_
        refine ops_v (rv_rem rfl rfl rfl (by decide)) (want_if rfl rfl rfl (by rw [hc3]; rfl)) rfl rfl ?_
        refine ops_v (rv_move rfl rfl) (want_if rfl rfl rfl (by rw [hc3]; rfl)) rfl rfl ?_
        obtain ⟨x5, hx5, hF⟩ := bindE hF
        refine ops_c (rc_call Try.call83 rfl rfl) (want_if rfl rfl rfl (by rw [hc3]; rfl)) rfl rfl (c_impl_PerPage (c := c)  hx5) ?_
        rintro _ w ⟨rfl, hk⟩
        replace hS := hS.after hk; clear hk
        refine ops_v (rv_geq rfl rfl rfl) (want_if rfl rfl rfl (by rw [hc3]; rfl)) rfl rfl ?_
        refine ops_v (rv_pick_f rfl rfl hc3 rfl) (want_yes rfl) rfl rfl ?_
        refine ops_nil ?_
        intro a hA
        exact ⟨decide (x5 ≤ (Int.tmod slot 4)), hF, hA.part ⟨rfl, rfl, rfl, trivial⟩, ((hS).sel [] rfl).selR [] rfl⟩
  · skip
    clear hA hS hF
    rintro a w ⟨x1, hF, hA, hS⟩
    unfold impl_GenAt_j1 at hF
    refine cw_cond hA rfl (fun hc1 => ?_) (fun hc1 => ?_)
    · replace hF := iteT hc1 hF
      refine cw_seq ?_
      refine cw_ops hA ?_
      clear hA
      refine ops_v (rv_assign rfl rfl) (want_yes rfl) rfl rfl ?_
      refine ops_nil ?_
      intro a hA
      refine cw_ret ?_
      cases hF
      exact fin1 Try.results87 hA (res_tmp rfl) ⟨rfl, (hS.sel [] rfl).weaken (R' := []) (fun _ h => nomatch h)⟩
    · replace hF := iteF hc1 hF
      refine cw_skip ?_
      refine cw_seq ?_
      refine cw_ops hA ?_
      clear hA
      refine ops_v (rv_move rfl rfl) (want_yes rfl) rfl rfl ?_
      refine ops_v (rv_quo rfl rfl rfl (by decide)) (want_yes rfl) rfl rfl ?_
      refine ops_v (rv_mul rfl rfl rfl) (want_yes rfl) rfl rfl ?_
      refine ops_v (rv_add rfl rfl rfl) (want_yes rfl) rfl rfl ?_
      refine ops_v (rv_move rfl rfl) (want_yes rfl) rfl rfl ?_
      refine ops_v (rv_rem rfl rfl rfl (by decide)) (want_yes rfl) rfl rfl ?_
      refine ops_v (rv_move rfl rfl) (want_yes rfl) rfl rfl ?_
      obtain ⟨x2, hx2, hF⟩ := bindE hF
      refine ops_c (rc_call Try.call85 rfl rfl) (want_yes rfl) rfl rfl (c_impl_StrideOf (c := c)  hx2) ?_
      rintro _ w ⟨rfl, hk⟩
      replace hS := hS.after hk; clear hk
      refine ops_v (rv_mul rfl rfl rfl) (want_yes rfl) rfl rfl ?_
      refine ops_v (rv_add rfl rfl rfl) (want_yes rfl) rfl rfl ?_
      refine ops_v (rv_assign rfl rfl) (want_yes rfl) rfl rfl ?_
      refine ops_nil ?_
      intro a hA
      refine cw_ret ?_
      cases hF
      exact fin1 Try.results87 hA (res_tmp rfl) ⟨rfl, (hS.sel [] rfl).weaken (R' := []) (fun _ h => nomatch h)⟩

set_option maxHeartbeats 4000000 in
set_option maxRecDepth 100000 in
theorem c_impl_classIn {w0 : World} {h : Heap} {slot : Int} {s1 : Value} {s2 : Value} {r : Int} (h1 : Rep.rd (All w0) w0 [s1] (h.Bytes : List Int)) (h2 : Rep.rd (All w0) w0 [s2] (h.Class : List Int)) (hF : impl_classIn h slot = some r) :
    Calls Try.prog 65 #[.agg #[s1, s2], .int .i64 (slot)] w0 (Ret fun v w' => v = .int .i64 (r) ∧ St (cxAll w0) w' [] []) := by
  have hS : St (cxAll w0) w0 [] [fRd [s1] (h.Bytes : List Int), fRd [s2] (h.Class : List Int)] := St.enter (by
    intro f hf
    simp only [List.mem_cons, List.not_mem_nil, or_false] at hf
    rcases hf with rfl | rfl
    · exact h1
    · exact h2)
  refine calls_cw (args := [_, _]) Try.func65 rfl Try.ntmps65 rfl ?_
  unfold impl_classIn at hF
  intro a hA
  refine cw_seq ?_
  refine cw_ops hA ?_
  clear hA
  refine ops_mv (rv_box (cs := [s1, s2]) hS rfl rfl rfl) (want_yes rfl) rfl rfl ?_
  clear hS
  rintro _ w ⟨b1, rfl, hS⟩
  refine ops_v (rv_assign rfl rfl) (want_yes rfl) rfl rfl ?_
  refine ops_nil ?_
  intro a hA
  refine cw_seq ?_
  refine cw_seq ?_
  refine cw_cut (J := fun a' w' => ∃ (x1 : Bool), impl_classIn_j1 h slot x1 = some r ∧ AEnv 25 [(1, .int .i64 (slot)), (2, .pointer (some ⟨b1, 0, none⟩)), (18, .bool (x1))] a' ∧ St (cxAll w0) w' [cBox b1 [s1, s2]] [fRd [s1] (h.Bytes : List Int), fRd [s2] (h.Class : List Int)]) ?_ ?_
  · skip
    refine cw_ops hA ?_
    clear hA
    refine ops_v (rv_move rfl rfl) (want_yes rfl) rfl rfl ?_
    obtain ⟨x3, hx3, hF⟩ := bindE hF
    refine ops_c (rc_call Try.call64 rfl rfl) (want_yes rfl) rfl rfl (c_impl_isSlot (slot := slot)  hx3) ?_
    rintro _ w ⟨rfl, hk⟩
    replace hS := hS.after hk; clear hk
    refine ops_v (rv_not rfl rfl) (want_yes rfl) rfl rfl ?_
    refine ops_v (rv_move rfl rfl) (want_yes rfl) rfl rfl ?_
    refine ops_case (s := 8) rfl (fun hc2 => ?_) (fun hc2 => ?_)
    · replace hF := iteT hc2 hF
      refine ops_off (want_if rfl rfl rfl (by rw [hc2]; rfl)) rfl rfl ?_
      refine ops_off (want_if rfl rfl rfl (by rw [hc2]; rfl)) rfl rfl ?_
      refine ops_off (want_if rfl rfl rfl (by rw [hc2]; rfl)) rfl rfl ?_
      refine ops_off (want_if rfl rfl rfl (by rw [hc2]; rfl)) rfl rfl ?_
      refine ops_off (want_if rfl rfl rfl (by rw [hc2]; rfl)) rfl rfl ?_
      refine ops_off (want_if rfl rfl rfl (by rw [hc2]; rfl)) rfl rfl ?_
      refine ops_off (want_if rfl rfl rfl (by rw [hc2]; rfl)) rfl rfl ?_
      refine ops_off (want_if rfl rfl rfl (by rw [hc2]; rfl)) rfl rfl ?_
      refine ops_off (want_if rfl rfl rfl (by rw [hc2]; rfl)) rfl rfl ?_
      refine ops_v (rv_pick_t rfl rfl hc2 rfl) (want_yes rfl) rfl rfl ?_
      refine ops_nil ?_
      intro a hA
      exact ⟨true, hF, hA.part ⟨rfl, rfl, rfl, trivial⟩, ((hS).sel [0] rfl).selR [0, 1] rfl⟩
    · replace hF := iteF hc2 hF
      refine ops_v (rv_move rfl rfl) (want_if rfl rfl rfl (by rw [hc2]; rfl)) rfl rfl ?_
      refine ops_v (rv_fld (m := 0) Try.underlying32 rfl rfl Try.sizeOf22 rfl rfl) (want_if rfl rfl rfl (by rw [hc2]; rfl)) rfl rfl ?_
      refine ops_v (rv_load1 rfl rfl Try.isAgg22 (hS.cell 0 rfl rfl)) (want_if rfl rfl rfl (by rw [hc2]; rfl)) rfl rfl ?_
      refine ops_v (rv_move rfl rfl) (want_if rfl rfl rfl (by rw [hc2]; rfl)) rfl rfl ?_
      refine ops_v (rv_quo rfl rfl rfl (by decide)) (want_if rfl rfl rfl (by rw [hc2]; rfl)) rfl rfl ?_
      obtain ⟨x4, hx4, hF⟩ := bindE hF
      refine ops_v (rv_idx (m := 1) (hS.rd 1 rfl) rfl hx4 Try.underlying22 Try.sizeOf3 rfl rfl rfl) (want_if rfl rfl rfl (by rw [hc2]; rfl)) rfl rfl ?_
      refine ops_v (rv_load1 rfl rfl Try.isAgg3 (cell1 (el_Int (hS.rd 1 rfl) (idx_some hx4).2.2))) (want_if rfl rfl rfl (by rw [hc2]; rfl)) rfl rfl ?_
      obtain ⟨x5, hx5, hF⟩ := bindE hF
      refine ops_c (rc_call Try.call87 rfl rfl) (want_if rfl rfl rfl (by rw [hc2]; rfl)) rfl rfl (c_impl_GenAt (slot := slot) (c := x4)  hx5) ?_
      rintro _ w ⟨rfl, hk⟩
      replace hS := hS.after hk; clear hk
      refine ops_v (rv_lss rfl rfl rfl) (want_if rfl rfl rfl (by rw [hc2]; rfl)) rfl rfl ?_
      refine ops_v (rv_pick_f rfl rfl hc2 rfl) (want_yes rfl) rfl rfl ?_
      refine ops_nil ?_
      intro a hA
      exact ⟨decide (x5 < 0), hF, hA.part ⟨rfl, rfl, rfl, trivial⟩, ((hS).sel [0] rfl).selR [0, 1] rfl⟩
  · skip
    clear hA hS hF
    rintro a w ⟨x1, hF, hA, hS⟩
    unfold impl_classIn_j1 at hF
    refine cw_cond hA rfl (fun hc1 => ?_) (fun hc1 => ?_)
    · replace hF := iteT hc1 hF
      refine cw_seq ?_
      refine cw_ops hA ?_
      clear hA
      refine ops_v (rv_assign rfl rfl) (want_yes rfl) rfl rfl ?_
      refine ops_nil ?_
      intro a hA
      refine cw_ret ?_
      cases hF
      exact fin1 Try.results65 hA (res_tmp rfl) ⟨rfl, (hS.sel [] rfl).weaken (R' := []) (fun _ h => nomatch h)⟩
    · replace hF := iteF hc1 hF
      refine cw_skip ?_
      refine cw_seq ?_
      refine cw_ops hA ?_
      clear hA
      refine ops_v (rv_fld (m := 0) Try.underlying32 rfl rfl Try.sizeOf22 rfl rfl) (want_yes rfl) rfl rfl ?_
      refine ops_v (rv_load1 rfl rfl Try.isAgg22 (hS.cell 0 rfl rfl)) (want_yes rfl) rfl rfl ?_
      refine ops_v (rv_move rfl rfl) (want_yes rfl) rfl rfl ?_
      refine ops_v (rv_quo rfl rfl rfl (by decide)) (want_yes rfl) rfl rfl ?_
      obtain ⟨x2, hx2, hF⟩ := bindE hF
      refine ops_v (rv_idx (m := 1) (hS.rd 1 rfl) rfl hx2 Try.underlying22 Try.sizeOf3 rfl rfl rfl) (want_yes rfl) rfl rfl ?_
      refine ops_v (rv_load1 rfl rfl Try.isAgg3 (cell1 (el_Int (hS.rd 1 rfl) (idx_some hx2).2.2))) (want_yes rfl) rfl rfl ?_
      refine ops_v (rv_assign rfl rfl) (want_yes rfl) rfl rfl ?_
      refine ops_nil ?_
      intro a hA
      refine cw_ret ?_
      cases hF
      exact fin1 Try.results65 hA (res_tmp rfl) ⟨rfl, (hS.sel [] rfl).weaken (R' := []) (fun _ h => nomatch h)⟩

set_option maxHeartbeats 4000000 in
set_option maxRecDepth 100000 in
theorem c_impl_ClassAt {w0 : World} {h : Heap} {slot : Int} {s1 : Value} {s2 : Value} {r : Int} (h1 : Rep.rd (All w0) w0 [s1] (h.Bytes : List Int)) (h2 : Rep.rd (All w0) w0 [s2] (h.Class : List Int)) (hF : impl_ClassAt h slot = some r) :
    Calls Try.prog 88 #[.agg #[s1, s2], .int .i64 (slot)] w0 (Ret fun v w' => v = .int .i64 (r) ∧ St (cxAll w0) w' [] []) := by
  have hS : St (cxAll w0) w0 [] [fRd [s1] (h.Bytes : List Int), fRd [s2] (h.Class : List Int)] := St.enter (by
    intro f hf
    simp only [List.mem_cons, List.not_mem_nil, or_false] at hf
    rcases hf with rfl | rfl
    · exact h1
    · exact h2)
  refine calls_cw (args := [_, _]) Try.func88 rfl Try.ntmps88 rfl ?_
  unfold impl_ClassAt at hF
  intro a hA
  refine cw_seq ?_
  refine cw_ops hA ?_
  clear hA
  refine ops_mv (rv_box (cs := [s1, s2]) hS rfl rfl rfl) (want_yes rfl) rfl rfl ?_
  clear hS
  rintro _ w ⟨b1, rfl, hS⟩
  refine ops_v (rv_assign rfl rfl) (want_yes rfl) rfl rfl ?_
  refine ops_nil ?_
  intro a hA
  refine cw_seq ?_
  refine cw_seq ?_
  refine cw_ops hA ?_
  clear hA
  refine ops_v (rv_loadN rfl rfl Try.isAgg32 Try.sizeOf32 rfl (hS.cells 0 0 (cs' := [s1, s2]) rfl rfl)) (want_yes rfl) rfl rfl ?_
  obtain ⟨x1, hx1, hF⟩ := bindE hF
  refine ops_c (rc_call Try.call61 rfl rfl) (want_yes rfl) rfl rfl (c_impl_shaped (h := h) (hS.rd 0 rfl) (hS.rd 1 rfl) hx1) ?_
  rintro _ w ⟨rfl, hk⟩
  replace hS := hS.after hk; clear hk
  refine ops_v (rv_not rfl rfl) (want_yes rfl) rfl rfl ?_
  refine ops_nil ?_
  intro a hA
  refine cw_cond hA rfl (fun hc1 => ?_) (fun hc1 => ?_)
  · replace hF := iteT hc1 hF
    refine cw_seq ?_
    refine cw_ops hA ?_
    clear hA
    refine ops_v (rv_assign rfl rfl) (want_yes rfl) rfl rfl ?_
    refine ops_nil ?_
    intro a hA
    refine cw_ret ?_
    cases hF
    exact fin1 Try.results88 hA (res_tmp rfl) ⟨rfl, (hS.sel [] rfl).weaken (R' := []) (fun _ h => nomatch h)⟩
  · replace hF := iteF hc1 hF
    refine cw_skip ?_
    refine cw_seq ?_
    refine cw_ops hA ?_
    clear hA
    refine ops_v (rv_loadN rfl rfl Try.isAgg32 Try.sizeOf32 rfl (hS.cells 0 0 (cs' := [s1, s2]) rfl rfl)) (want_yes rfl) rfl rfl ?_
    refine ops_v (rv_move rfl rfl) (want_yes rfl) rfl rfl ?_
    obtain ⟨x2, hx2, hF⟩ := bindE hF
    refine ops_c (rc_call Try.call65 rfl rfl) (want_yes rfl) rfl rfl (c_impl_classIn (h := h) (slot := slot) (hS.rd 0 rfl) (hS.rd 1 rfl) hx2) ?_
    rintro _ w ⟨rfl, hk⟩
    replace hS := hS.after hk; clear hk
    refine ops_v (rv_assign rfl rfl) (want_yes rfl) rfl rfl ?_
    refine ops_nil ?_
    intro a hA
    refine cw_ret ?_
    cases hF
    exact fin1 Try.results88 hA (res_tmp rfl) ⟨rfl, (hS.sel [] rfl).weaken (R' := []) (fun _ h => nomatch h)⟩

set_option maxHeartbeats 4000000 in
set_option maxRecDepth 100000 in
theorem c_impl_GenIn {w0 : World} {h : Heap} {slot : Int} {s1 : Value} {s2 : Value} {r : Int} (h1 : Rep.rd (All w0) w0 [s1] (h.Bytes : List Int)) (h2 : Rep.rd (All w0) w0 [s2] (h.Class : List Int)) (hF : impl_GenIn h slot = some r) :
    Calls Try.prog 66 #[.agg #[s1, s2], .int .i64 (slot)] w0 (Ret fun v w' => v = .int .i64 (r) ∧ St (cxAll w0) w' [] []) := by
  have hS : St (cxAll w0) w0 [] [fRd [s1] (h.Bytes : List Int), fRd [s2] (h.Class : List Int)] := St.enter (by
    intro f hf
    simp only [List.mem_cons, List.not_mem_nil, or_false] at hf
    rcases hf with rfl | rfl
    · exact h1
    · exact h2)
  refine calls_cw (args := [_, _]) Try.func66 rfl Try.ntmps66 rfl ?_
  unfold impl_GenIn at hF
  intro a hA
  refine cw_seq ?_
  refine cw_ops hA ?_
  clear hA
  refine ops_mv (rv_box (cs := [s1, s2]) hS rfl rfl rfl) (want_yes rfl) rfl rfl ?_
  clear hS
  rintro _ w ⟨b1, rfl, hS⟩
  refine ops_v (rv_assign rfl rfl) (want_yes rfl) rfl rfl ?_
  refine ops_nil ?_
  intro a hA
  refine cw_seq ?_
  refine cw_ops hA ?_
  clear hA
  refine ops_v (rv_loadN rfl rfl Try.isAgg32 Try.sizeOf32 rfl (hS.cells 0 0 (cs' := [s1, s2]) rfl rfl)) (want_yes rfl) rfl rfl ?_
  refine ops_v (rv_move rfl rfl) (want_yes rfl) rfl rfl ?_
  obtain ⟨x1, hx1, hF⟩ := bindE hF
  refine ops_c (rc_call Try.call88 rfl rfl) (want_yes rfl) rfl rfl (c_impl_ClassAt (h := h) (slot := slot) (hS.rd 0 rfl) (hS.rd 1 rfl) hx1) ?_
  rintro _ w ⟨rfl, hk⟩
  replace hS := hS.after hk; clear hk
  refine ops_v (rv_assign rfl rfl) (want_yes rfl) rfl rfl ?_
  refine ops_nil ?_
  intro a hA
  refine cw_seq ?_
  refine cw_seq ?_
  refine cw_ops hA ?_
  clear hA
  refine ops_v (rv_move rfl rfl) (want_yes rfl) rfl rfl ?_
  refine ops_v (rv_lss rfl rfl rfl) (want_yes rfl) rfl rfl ?_
  refine ops_nil ?_
  intro a hA
  refine cw_cond hA rfl (fun hc1 => ?_) (fun hc1 => ?_)
  · replace hF := iteT hc1 hF
    refine cw_seq ?_
    refine cw_ops hA ?_
    clear hA
    refine ops_v (rv_assign rfl rfl) (want_yes rfl) rfl rfl ?_
    refine ops_nil ?_
    intro a hA
    refine cw_ret ?_
    cases hF
    exact fin1 Try.results66 hA (res_tmp rfl) ⟨rfl, (hS.sel [] rfl).weaken (R' := []) (fun _ h => nomatch h)⟩
  · replace hF := iteF hc1 hF
    refine cw_skip ?_
    refine cw_seq ?_
    refine cw_any (Keeps (cxAll w0) [cBox b1 [s1, s2]] [fRd [s1] (h.Bytes : List Int), fRd [s2] (h.Class : List Int)]) mixed_Try hA hS ?_
    clear hA hS; intro w hS
    have hK : Keeps (cxAll w0) [cBox b1 [s1, s2]] [fRd [s1] (h.Bytes : List Int), fRd [s2] (h.Class : List Int)] w := ⟨_, (hS.sel [0] rfl).selR [0, 1] rfl⟩
    refine any_v 0 (by kernel_rfl) rfl (by kernel_rfl) (by kernel_rfl) hK (fun _ _ => (rv_fld (m := 0) Try.underlying32 rfl rfl Try.sizeOf22 rfl rfl)) (want_yes rfl) rfl rfl ?_
    refine any_v 1 (by kernel_rfl) rfl (by kernel_rfl) (by kernel_rfl) hK (fun w hk => by obtain ⟨_, hS⟩ := hk; exact (rv_load1 rfl rfl Try.isAgg22 (hS.cell 0 rfl rfl))) (want_yes rfl) rfl rfl ?_
    refine any_v 2 (by kernel_rfl) rfl (by kernel_rfl) (by kernel_rfl) hK (fun _ _ => (rv_move rfl rfl)) (want_yes rfl) rfl rfl ?_
    refine any_v 3 (by kernel_rfl) rfl (by kernel_rfl) (by kernel_rfl) hK (fun _ _ => (rv_move rfl rfl)) (want_yes rfl) rfl rfl ?_
    refine any_1 (i := 4) (by kernel_rfl) ?_
    obtain ⟨x2, hx2, hF⟩ := bindE hF
    refine as_c rfl (rc_call Try.call87 rfl rfl) (want_yes rfl) rfl rfl (c_impl_GenAt (slot := slot) (c := x1)  hx2) ?_
    clear hK; rintro _ w ⟨rfl, hk⟩
    replace hS := hS.after hk; clear hk
    have hK : Keeps (cxAll w0) [cBox b1 [s1, s2]] [fRd [s1] (h.Bytes : List Int), fRd [s2] (h.Class : List Int)] w := ⟨_, (hS.sel [0] rfl).selR [0, 1] rfl⟩
    refine ⟨hK, ?_⟩
    refine any_1 (i := 5) (by kernel_rfl) ?_
    obtain ⟨x3, hx3, hF⟩ := bindE hF
    refine as_c rfl (rc_call Try.call84 rfl rfl) (want_yes rfl) rfl rfl (c_impl_loadNum (b := h.Bytes) (at_ := x2) (width := 4) (hS.rd 0 rfl) hx3) ?_
    clear hK; rintro _ w ⟨rfl, hk⟩
    replace hS := hS.after hk; clear hk
    have hK : Keeps (cxAll w0) [cBox b1 [s1, s2]] [fRd [s1] (h.Bytes : List Int), fRd [s2] (h.Class : List Int)] w := ⟨_, (hS.sel [0] rfl).selR [0, 1] rfl⟩
    refine ⟨hK, ?_⟩
    refine any_v 6 (by kernel_rfl) rfl (by kernel_rfl) (by kernel_rfl) hK (fun _ _ => (rv_assign rfl rfl)) (want_yes rfl) rfl rfl ?_
    refine any_done (by kernel_rfl) ?_
    intro a hA
    refine cw_ret ?_
    cases hF
    exact fin1 Try.results66 hA (res_tmp rfl) ⟨rfl, (hS.sel [] rfl).weaken (R' := []) (fun _ h => nomatch h)⟩

set_option maxHeartbeats 4000000 in
set_option maxRecDepth 100000 in
theorem c_impl_listFits {w0 : World} {h : Heap} {s : SList} {c : Int} {s1 : Value} {s2 : Value} {s3 : Value} {r : Bool} (h1 : Rep.rd (All w0) w0 [s1] (h.Bytes : List Int)) (h2 : Rep.rd (All w0) w0 [s2] (h.Class : List Int)) (h3 : Rep.rd (All w0) w0 [s3] (s.Slots : List Int)) (hF : impl_listFits h s c = some r) :
    Calls Try.prog 41 #[.agg #[s1, s2], .agg #[s3], .int .i64 (c)] w0 (Ret fun v w' => v = .bool (r) ∧ St (cxAll w0) w' [] []) := by
  have hS : St (cxAll w0) w0 [] [fRd [s1] (h.Bytes : List Int), fRd [s2] (h.Class : List Int), fRd [s3] (s.Slots : List Int)] := St.enter (by
    intro f hf
    simp only [List.mem_cons, List.not_mem_nil, or_false] at hf
    rcases hf with rfl | rfl | rfl
    · exact h1
    · exact h2
    · exact h3)
  refine calls_cw (args := [_, _, _]) Try.func41 rfl Try.ntmps41 rfl ?_
  unfold impl_listFits at hF
  intro a hA
  refine cw_seq ?_
  refine cw_ops hA ?_
  clear hA
  refine ops_mv (rv_box (cs := [s1, s2]) hS rfl rfl rfl) (want_yes rfl) rfl rfl ?_
  clear hS
  rintro _ w ⟨b1, rfl, hS⟩
  refine ops_mv (rv_box (cs := [s3]) hS rfl rfl rfl) (want_yes rfl) rfl rfl ?_
  clear hS
  rintro _ w ⟨b2, rfl, hS⟩
  refine ops_v (rv_assign rfl rfl) (want_yes rfl) rfl rfl ?_
  refine ops_nil ?_
  intro a hA
  refine cw_seq ?_
  refine cw_seq ?_
  refine cw_ops hA ?_
  clear hA
  refine ops_v (rv_fld (m := 0) Try.underlying53 rfl rfl Try.sizeOf22 rfl rfl) (want_yes rfl) rfl rfl ?_
  refine ops_v (rv_load1 rfl rfl Try.isAgg22 (hS.cell 1 rfl rfl)) (want_yes rfl) rfl rfl ?_
  refine ops_v (rv_lenS (hS.rd 2 rfl) Try.underlying22 rfl rfl) (want_yes rfl) rfl rfl ?_
  refine ops_v (rv_move rfl rfl) (want_yes rfl) rfl rfl ?_
  refine ops_nil ?_
  intro a hA
  obtain ⟨o1, hl1, hF⟩ := bindE hF
  refine cw_cut (J := fun a' w' => o1 = Out.brk (()) ∧ AEnv 28 [] a' ∧ St (cxAll w0) w' [] []) ?_ ?_
  · refine cw_block ?_
    refine cw_loop (body := impl_listFits_l1 h s c) (r := o1) (fun sg a' w' => AEnv 28 [(2, .int .i64 (c)), (3, .pointer (some ⟨b1, 0, none⟩)), (10, s3), (11, .int .i64 ((s.Slots.length : Int))), (12, .int .i64 (sg))] a' ∧ St (cxAll w0) w' [cBox b1 [s1, s2]] [fRd [s3] (s.Slots : List Int), fRd [s1] (h.Bytes : List Int), fRd [s2] (h.Class : List Int)]) ?_ hl1 ⟨hA.part ⟨rfl, rfl, rfl, rfl, rfl, trivial⟩, ((hS).sel [0] rfl).selR [2, 0, 1] rfl⟩
    clear hA hS hl1
    rintro x2 a w q1 ⟨hA, hS⟩ hG1 hr1
    try dsimp only at hA hS
    unfold impl_listFits_l1 at hG1
    refine cw_seq ?_
    refine cw_ops hA ?_
    clear hA
    refine ops_v (rv_lss rfl rfl rfl) (want_yes rfl) rfl rfl ?_
    refine ops_nil ?_
    intro a hA
    refine cw_seq ?_
    refine cw_cond hA rfl (fun hc1 => ?_) (fun hc1 => ?_)
    · replace hG1 := iteT hc1 hG1
      refine cw_skip ?_
      refine cw_seq ?_
      refine cw_block ?_
      refine cw_seq ?_
      refine cw_ops hA ?_
      clear hA
      obtain ⟨x3, hx3, hG1⟩ := bindE hG1
      refine ops_v (rv_idx (m := 1) (hS.rd 0 rfl) rfl hx3 Try.underlying22 Try.sizeOf3 rfl rfl rfl) (want_yes rfl) rfl rfl ?_
      refine ops_v (rv_load1 rfl rfl Try.isAgg3 (cell1 (el_Int (hS.rd 0 rfl) (idx_some hx3).2.2))) (want_yes rfl) rfl rfl ?_
      refine ops_v (rv_assign rfl rfl) (want_yes rfl) rfl rfl ?_
      refine ops_nil ?_
      intro a hA
      refine cw_seq ?_
      refine cw_cut (J := fun a' w' => ∃ (x4 : Bool), impl_listFits_j2 x2 x4 = some q1 ∧ AEnv 28 [(2, .int .i64 (c)), (3, .pointer (some ⟨b1, 0, none⟩)), (10, s3), (11, .int .i64 ((s.Slots.length : Int))), (12, .int .i64 (x2)), (26, .bool (x4))] a' ∧ St (cxAll w0) w' [cBox b1 [s1, s2]] [fRd [s3] (s.Slots : List Int), fRd [s1] (h.Bytes : List Int), fRd [s2] (h.Class : List Int)]) ?_ ?_
      · skip
        refine cw_ops hA ?_
        clear hA
        refine ops_v (rv_loadN rfl rfl Try.isAgg32 Try.sizeOf32 rfl (hS.cells 0 0 (cs' := [s1, s2]) rfl rfl)) (want_yes rfl) rfl rfl ?_
        refine ops_v (rv_move rfl rfl) (want_yes rfl) rfl rfl ?_
        obtain ⟨x5, hx5, hG1⟩ := bindE hG1
        refine ops_c (rc_call Try.call65 rfl rfl) (want_yes rfl) rfl rfl (c_impl_classIn (h := h) (slot := x3) (hS.rd 1 rfl) (hS.rd 2 rfl) hx5) ?_
        rintro _ w ⟨rfl, hk⟩
        replace hS := hS.after hk; clear hk
        refine ops_v (rv_move rfl rfl) (want_yes rfl) rfl rfl ?_
        refine ops_v (rv_neq rfl rfl rfl) (want_yes rfl) rfl rfl ?_
        refine ops_v (rv_move rfl rfl) (want_yes rfl) rfl rfl ?_
        refine ops_case (s := 21) rfl (fun hc3 => ?_) (fun hc3 => ?_)
        · replace hG1 := iteT hc3 hG1
          refine ops_off (want_if rfl rfl rfl (by rw [hc3]; rfl)) rfl rfl ?_
          refine ops_off (want_if rfl rfl rfl (by rw [hc3]; rfl)) rfl rfl ?_
          refine ops_off (want_if rfl rfl rfl (by rw [hc3]; rfl)) rfl rfl ?_
          refine ops_off (want_if rfl rfl rfl (by rw [hc3]; rfl)) rfl rfl ?_
          refine ops_v (rv_pick_t rfl rfl hc3 rfl) (want_yes rfl) rfl rfl ?_
          refine ops_nil ?_
          intro a hA
          exact ⟨true, hG1, hA.part ⟨rfl, rfl, rfl, rfl, rfl, rfl, trivial⟩, ((hS).sel [0] rfl).selR [0, 1, 2] rfl⟩
        · replace hG1 := iteF hc3 hG1
          refine ops_v (rv_loadN rfl rfl Try.isAgg32 Try.sizeOf32 rfl (hS.cells 0 0 (cs' := [s1, s2]) rfl rfl)) (want_if rfl rfl rfl (by rw [hc3]; rfl)) rfl rfl ?_
          refine ops_v (rv_move rfl rfl) (want_if rfl rfl rfl (by rw [hc3]; rfl)) rfl rfl ?_
          obtain ⟨x6, hx6, hG1⟩ := bindE hG1
          refine ops_c (rc_call Try.call66 rfl rfl) (want_if rfl rfl rfl (by rw [hc3]; rfl)) rfl rfl (c_impl_GenIn (h := h) (slot := x3) (hS.rd 1 rfl) (hS.rd 2 rfl) hx6) ?_
          rintro _ w ⟨rfl, hk⟩
          replace hS := hS.after hk; clear hk
          refine ops_v (rv_gtr rfl rfl rfl) (want_if rfl rfl rfl (by rw [hc3]; rfl)) rfl rfl ?_
          refine ops_v (rv_pick_f rfl rfl hc3 rfl) (want_yes rfl) rfl rfl ?_
          refine ops_nil ?_
          intro a hA
          exact ⟨decide (6 < x6), hG1, hA.part ⟨rfl, rfl, rfl, rfl, rfl, rfl, trivial⟩, ((hS).sel [0] rfl).selR [0, 1, 2] rfl⟩
      · skip
        clear hA hS hG1
        rintro a w ⟨x4, hG1, hA, hS⟩
        unfold impl_listFits_j2 at hG1
        refine cw_cond hA rfl (fun hc2 => ?_) (fun hc2 => ?_)
        · replace hG1 := iteT hc2 hG1
          refine cw_seq ?_
          refine cw_ops hA ?_
          clear hA
          refine ops_v (rv_assign rfl rfl) (want_yes rfl) rfl rfl ?_
          refine ops_nil ?_
          intro a hA
          refine cw_ret ?_
          cases hG1
          have ho := hr1 _ rfl; subst ho
          replace hF : some false = some r := hF
          cases hF
          exact fin1 Try.results41 hA (res_tmp rfl) ⟨rfl, (hS.sel [] rfl).weaken (R' := []) (fun _ h => nomatch h)⟩
        · replace hG1 := iteF hc2 hG1
          refine cw_skip ?_
          refine cw_ops hA ?_
          clear hA
          refine ops_v (rv_add rfl rfl rfl) (want_yes rfl) rfl rfl ?_
          refine ops_v (rv_move rfl rfl) (want_yes rfl) rfl rfl ?_
          refine ops_nil ?_
          intro a hA
          cases hG1
          exact ⟨_, rfl, ⟨hA.part ⟨rfl, rfl, rfl, rfl, rfl, trivial⟩, ((hS).sel [0] rfl).selR [0, 1, 2] rfl⟩⟩
    · replace hG1 := iteF hc1 hG1
      refine cw_exit ?_
      refine xcons_hit ?_
      cases hG1
      have ho := hr1 _ rfl; subst ho
      exact ⟨rfl, hA.part trivial, ((hS).sel [] rfl).selR [] rfl⟩
  · skip
    clear hA hS hl1
    rintro a w ⟨heq, hA, hS⟩
    replace hF : impl_listFits_j1 = some r := by rw [heq] at hF; exact hF
    clear heq
    unfold impl_listFits_j1 at hF
    refine cw_seq ?_
    refine cw_ops hA ?_
    clear hA
    refine ops_v (rv_assign rfl rfl) (want_yes rfl) rfl rfl ?_
    refine ops_nil ?_
    intro a hA
    refine cw_ret ?_
    cases hF
    exact fin1 Try.results41 hA (res_tmp rfl) ⟨rfl, (hS.sel [] rfl).weaken (R' := []) (fun _ h => nomatch h)⟩

set_option maxHeartbeats 4000000 in
set_option maxRecDepth 100000 in
theorem c_impl_MemOk {w0 : World} {m : Mem} {s1 : Value} {s2 : Value} {s3 : Value} {s4 : Value} {r : Bool} (h1 : Rep.rd (All w0) w0 [s1] (m.Heap.Bytes : List Int)) (h2 : Rep.rd (All w0) w0 [s2] (m.Heap.Class : List Int)) (h3 : Rep.rd (All w0) w0 [s3] (m.Lists.Global : List SList)) (h4 : Rep.rd (All w0) w0 [s4] (m.Lists.Own : List SList)) (hF : impl_MemOk m = some r) :
    Calls Try.prog 20 #[.agg #[s1, s2, s3, s4]] w0 (Ret fun v w' => v = .bool (r) ∧ St (cxAll w0) w' [] []) := by
  have hS : St (cxAll w0) w0 [] [fRd [s1] (m.Heap.Bytes : List Int), fRd [s2] (m.Heap.Class : List Int), fRd [s3] (m.Lists.Global : List SList), fRd [s4] (m.Lists.Own : List SList)] := St.enter (by
    intro f hf
    simp only [List.mem_cons, List.not_mem_nil, or_false] at hf
    rcases hf with rfl | rfl | rfl | rfl
    · exact h1
    · exact h2
    · exact h3
    · exact h4)
  refine calls_cw (args := [_]) Try.func20 rfl Try.ntmps20 rfl ?_
  unfold impl_MemOk at hF
  intro a hA
  refine cw_seq ?_
  refine cw_ops hA ?_
  clear hA
  refine ops_mv (rv_box (cs := [s1, s2, s3, s4]) hS rfl rfl rfl) (want_yes rfl) rfl rfl ?_
  clear hS
  rintro _ w ⟨b1, rfl, hS⟩
  refine ops_v (rv_assign rfl rfl) (want_yes rfl) rfl rfl ?_
  refine ops_nil ?_
  intro a hA
  refine cw_seq ?_
  refine cw_seq ?_
  refine cw_cut (J := fun a' w' => ∃ (x1 : Bool), impl_MemOk_j1 m x1 = some r ∧ AEnv 50 [(1, .pointer (some ⟨b1, 0, none⟩)), (16, .bool (x1))] a' ∧ St (cxAll w0) w' [cBox b1 [s1, s2, s3, s4]] [fRd [s1] (m.Heap.Bytes : List Int), fRd [s2] (m.Heap.Class : List Int), fRd [s3] (m.Lists.Global : List SList), fRd [s4] (m.Lists.Own : List SList)]) ?_ ?_
  · skip
    refine cw_ops hA ?_
    clear hA
    refine ops_v (rv_fld (m := 1) Try.underlying37 rfl rfl Try.sizeOf32 rfl rfl) (want_yes rfl) rfl rfl ?_
    refine ops_v (rv_loadN rfl rfl Try.isAgg32 Try.sizeOf32 rfl (hS.cells 0 0 (cs' := [s1, s2]) rfl rfl)) (want_yes rfl) rfl rfl ?_
    obtain ⟨x10, hx10, hF⟩ := bindE hF
    refine ops_c (rc_call Try.call39 rfl rfl) (want_yes rfl) rfl rfl (c_impl_HeapOk (h := m.Heap) (hS.rd 0 rfl) (hS.rd 1 rfl) hx10) ?_
    rintro _ w ⟨rfl, hk⟩
    replace hS := hS.after hk; clear hk
    refine ops_v (rv_not rfl rfl) (want_yes rfl) rfl rfl ?_
    refine ops_v (rv_move rfl rfl) (want_yes rfl) rfl rfl ?_
    refine ops_case (s := 11) rfl (fun hc6 => ?_) (fun hc6 => ?_)
    · replace hF := iteT hc6 hF
      refine ops_off (want_if rfl rfl rfl (by rw [hc6]; rfl)) rfl rfl ?_
      refine ops_off (want_if rfl rfl rfl (by rw [hc6]; rfl)) rfl rfl ?_
      refine ops_off (want_if rfl rfl rfl (by rw [hc6]; rfl)) rfl rfl ?_
      refine ops_off (want_if rfl rfl rfl (by rw [hc6]; rfl)) rfl rfl ?_
      refine ops_v (rv_pick_t rfl rfl hc6 rfl) (want_yes rfl) rfl rfl ?_
      refine ops_nil ?_
      intro a hA
      exact ⟨true, hF, hA.part ⟨rfl, rfl, trivial⟩, ((hS).sel [0] rfl).selR [0, 1, 2, 3] rfl⟩
    · replace hF := iteF hc6 hF
      refine ops_v (rv_fld (m := 1) Try.underlying37 rfl rfl Try.sizeOf35 rfl rfl) (want_if rfl rfl rfl (by rw [hc6]; rfl)) rfl rfl ?_
      refine ops_v (rv_loadN rfl rfl Try.isAgg35 Try.sizeOf35 rfl (hS.cells 0 2 (cs' := [s3, s4]) rfl rfl)) (want_if rfl rfl rfl (by rw [hc6]; rfl)) rfl rfl ?_
      obtain ⟨x11, hx11, hF⟩ := bindE hF
      refine ops_c (rc_call Try.call40 rfl rfl) (want_if rfl rfl rfl (by rw [hc6]; rfl)) rfl rfl (c_impl_ListsOk (l := m.Lists) (hS.rd 2 rfl) (hS.rd 3 rfl) hx11) ?_
      rintro _ w ⟨rfl, hk⟩
      replace hS := hS.after hk; clear hk
      refine ops_v (rv_not rfl rfl) (want_if rfl rfl rfl (by rw [hc6]; rfl)) rfl rfl ?_
      refine ops_v (rv_pick_f rfl rfl hc6 rfl) (want_yes rfl) rfl rfl ?_
      refine ops_nil ?_
      intro a hA
      exact ⟨!x11, hF, hA.part ⟨rfl, rfl, trivial⟩, ((hS).sel [0] rfl).selR [0, 1, 2, 3] rfl⟩
  · skip
    clear hA hS hF
    rintro a w ⟨x1, hF, hA, hS⟩
    unfold impl_MemOk_j1 at hF
    refine cw_cond hA rfl (fun hc1 => ?_) (fun hc1 => ?_)
    · replace hF := iteT hc1 hF
      refine cw_seq ?_
      refine cw_ops hA ?_
      clear hA
      refine ops_v (rv_assign rfl rfl) (want_yes rfl) rfl rfl ?_
      refine ops_nil ?_
      intro a hA
      refine cw_ret ?_
      cases hF
      exact fin1 Try.results20 hA (res_tmp rfl) ⟨rfl, (hS.sel [] rfl).weaken (R' := []) (fun _ h => nomatch h)⟩
    · replace hF := iteF hc1 hF
      refine cw_skip ?_
      refine cw_seq ?_
      refine cw_seq ?_
      refine cw_ops hA ?_
      clear hA
      refine ops_v (rv_fld (m := 1) Try.underlying37 rfl rfl Try.sizeOf35 rfl rfl) (want_yes rfl) rfl rfl ?_
      refine ops_v (rv_fld (m := 0) Try.underlying35 rfl rfl Try.sizeOf33 rfl rfl) (want_yes rfl) rfl rfl ?_
      refine ops_v (rv_load1 rfl rfl Try.isAgg33 (hS.cell 0 rfl rfl)) (want_yes rfl) rfl rfl ?_
      refine ops_v (rv_lenS (hS.rd 2 rfl) Try.underlying33 rfl rfl) (want_yes rfl) rfl rfl ?_
      refine ops_v (rv_move rfl rfl) (want_yes rfl) rfl rfl ?_
      refine ops_nil ?_
      intro a hA
      obtain ⟨o1, hl1, hF⟩ := bindE hF
      refine cw_cut (J := fun a' w' => o1 = Out.brk (()) ∧ AEnv 50 [(1, .pointer (some ⟨b1, 0, none⟩))] a' ∧ St (cxAll w0) w' [cBox b1 [s1, s2, s3, s4]] [fRd [s1] (m.Heap.Bytes : List Int), fRd [s2] (m.Heap.Class : List Int), fRd [s3] (m.Lists.Global : List SList), fRd [s4] (m.Lists.Own : List SList)]) ?_ ?_
      · refine cw_block ?_
        refine cw_loop (body := impl_MemOk_l2 m) (r := o1) (fun sg a' w' => AEnv 50 [(1, .pointer (some ⟨b1, 0, none⟩)), (19, s3), (20, .int .i64 ((m.Lists.Global.length : Int))), (21, .int .i64 (sg))] a' ∧ St (cxAll w0) w' [cBox b1 [s1, s2, s3, s4]] [fRd [s3] (m.Lists.Global : List SList), fRd [s1] (m.Heap.Bytes : List Int), fRd [s2] (m.Heap.Class : List Int), fRd [s4] (m.Lists.Own : List SList)]) ?_ hl1 ⟨hA.part ⟨rfl, rfl, rfl, rfl, trivial⟩, ((hS).sel [0] rfl).selR [2, 0, 1, 3] rfl⟩
        clear hA hS hl1
        rintro x3 a w q2 ⟨hA, hS⟩ hG2 hr2
        try dsimp only at hA hS
        unfold impl_MemOk_l2 at hG2
        refine cw_seq ?_
        refine cw_ops hA ?_
        clear hA
        refine ops_v (rv_lss rfl rfl rfl) (want_yes rfl) rfl rfl ?_
        refine ops_nil ?_
        intro a hA
        refine cw_seq ?_
        refine cw_cond hA rfl (fun hc4 => ?_) (fun hc4 => ?_)
        · replace hG2 := iteT hc4 hG2
          refine cw_skip ?_
          refine cw_seq ?_
          refine cw_block ?_
          refine cw_seq ?_
          refine cw_ops hA ?_
          clear hA
          refine ops_v (rv_move rfl rfl) (want_yes rfl) rfl rfl ?_
          obtain ⟨x8, hx8, hG2⟩ := bindE hG2
          refine ops_v (rv_idx (m := 1) (hS.rd 0 rfl) rfl hx8 Try.underlying33 Try.sizeOf53 rfl rfl rfl) (want_yes rfl) rfl rfl ?_
          obtain ⟨s6, hel, hS⟩ := hS.el_SList 0 rfl (idx_some hx8).2.2
          refine ops_v (rv_loadN rfl rfl Try.isAgg53 Try.sizeOf53 rfl hel) (want_yes rfl) rfl rfl ?_
          refine ops_mv (rv_alloc (cs := [(.slice none 0 0)]) hS rfl Try.zeroValue53 rfl) (want_yes rfl) rfl rfl ?_
          clear hS
          rintro _ w ⟨b3, rfl, hS⟩
          refine ops_v (rv_assign rfl rfl) (want_yes rfl) rfl rfl ?_
          refine ops_ms (rs_box (vs := [s6]) hS (i := 1) rfl rfl rfl rfl rfl Try.sizeOf53 rfl rfl (all1 (one_rd (hS.rd 4 rfl)) rfl)) (want_yes rfl) rfl ?_
          clear hS
          intro w hS
          refine ops_nil ?_
          intro a hA
          refine cw_seq ?_
          refine cw_ops hA ?_
          clear hA
          refine ops_v (rv_fld (m := 1) Try.underlying37 rfl rfl Try.sizeOf32 rfl rfl) (want_yes rfl) rfl rfl ?_
          refine ops_v (rv_loadN rfl rfl Try.isAgg32 Try.sizeOf32 rfl (hS.cells 0 0 (cs' := [s1, s2]) rfl rfl)) (want_yes rfl) rfl rfl ?_
          refine ops_v (rv_loadN rfl rfl Try.isAgg53 Try.sizeOf53 rfl (hS.cells 1 0 (cs' := [s6]) rfl rfl)) (want_yes rfl) rfl rfl ?_
          refine ops_v (rv_move rfl rfl) (want_yes rfl) rfl rfl ?_
          obtain ⟨x9, hx9, hG2⟩ := bindE hG2
          refine ops_c (rc_call Try.call41 rfl rfl) (want_yes rfl) rfl rfl (c_impl_listFits (h := m.Heap) (s := x8) (c := x3) (hS.rd 1 rfl) (hS.rd 2 rfl) (hS.rd 4 rfl) hx9) ?_
          rintro _ w ⟨rfl, hk⟩
          replace hS := hS.after hk; clear hk
          refine ops_v (rv_not rfl rfl) (want_yes rfl) rfl rfl ?_
          refine ops_nil ?_
          intro a hA
          refine cw_cond hA rfl (fun hc5 => ?_) (fun hc5 => ?_)
          · replace hG2 := iteT hc5 hG2
            refine cw_seq ?_
            refine cw_ops hA ?_
            clear hA
            refine ops_v (rv_assign rfl rfl) (want_yes rfl) rfl rfl ?_
            refine ops_nil ?_
            intro a hA
            refine cw_ret ?_
            cases hG2
            have ho := hr2 _ rfl; subst ho
            replace hF : some false = some r := hF
            cases hF
            exact fin1 Try.results20 hA (res_tmp rfl) ⟨rfl, (hS.sel [] rfl).weaken (R' := []) (fun _ h => nomatch h)⟩
          · replace hG2 := iteF hc5 hG2
            refine cw_skip ?_
            refine cw_ops hA ?_
            clear hA
            refine ops_v (rv_add rfl rfl rfl) (want_yes rfl) rfl rfl ?_
            refine ops_v (rv_move rfl rfl) (want_yes rfl) rfl rfl ?_
            refine ops_nil ?_
            intro a hA
            cases hG2
            exact ⟨_, rfl, ⟨hA.part ⟨rfl, rfl, rfl, rfl, trivial⟩, ((hS).sel [0] rfl).selR [0, 1, 2, 3] rfl⟩⟩
        · replace hG2 := iteF hc4 hG2
          refine cw_exit ?_
          refine xcons_hit ?_
          cases hG2
          have ho := hr2 _ rfl; subst ho
          exact ⟨rfl, hA.part ⟨rfl, trivial⟩, ((hS).sel [0] rfl).selR [1, 2, 0, 3] rfl⟩
      · skip
        clear hA hS hl1
        rintro a w ⟨heq, hA, hS⟩
        replace hF : impl_MemOk_j2 m = some r := by rw [heq] at hF; exact hF
        clear heq
        unfold impl_MemOk_j2 at hF
        refine cw_seq ?_
        refine cw_seq ?_
        refine cw_ops hA ?_
        clear hA
        refine ops_v (rv_fld (m := 1) Try.underlying37 rfl rfl Try.sizeOf35 rfl rfl) (want_yes rfl) rfl rfl ?_
        refine ops_v (rv_fld (m := 0) Try.underlying35 rfl rfl Try.sizeOf33 rfl rfl) (want_yes rfl) rfl rfl ?_
        refine ops_v (rv_load1 rfl rfl Try.isAgg33 (hS.cell 0 rfl rfl)) (want_yes rfl) rfl rfl ?_
        refine ops_v (rv_lenS (hS.rd 3 rfl) Try.underlying33 rfl rfl) (want_yes rfl) rfl rfl ?_
        refine ops_v (rv_move rfl rfl) (want_yes rfl) rfl rfl ?_
        refine ops_nil ?_
        intro a hA
        obtain ⟨o2, hl2, hF⟩ := bindE hF
        refine cw_cut (J := fun a' w' => o2 = Out.brk (()) ∧ AEnv 50 [] a' ∧ St (cxAll w0) w' [] []) ?_ ?_
        · refine cw_block ?_
          refine cw_loop (body := impl_MemOk_l3 m) (r := o2) (fun sg a' w' => AEnv 50 [(1, .pointer (some ⟨b1, 0, none⟩)), (35, s4), (36, .int .i64 ((m.Lists.Own.length : Int))), (37, .int .i64 (sg))] a' ∧ St (cxAll w0) w' [cBox b1 [s1, s2, s3, s4]] [fRd [s4] (m.Lists.Own : List SList), fRd [s1] (m.Heap.Bytes : List Int), fRd [s2] (m.Heap.Class : List Int), fRd [s3] (m.Lists.Global : List SList)]) ?_ hl2 ⟨hA.part ⟨rfl, rfl, rfl, rfl, trivial⟩, ((hS).sel [0] rfl).selR [3, 0, 1, 2] rfl⟩
          clear hA hS hl2
          rintro x5 a w q3 ⟨hA, hS⟩ hG3 hr3
          try dsimp only at hA hS
          unfold impl_MemOk_l3 at hG3
          refine cw_seq ?_
          refine cw_ops hA ?_
          clear hA
          refine ops_v (rv_lss rfl rfl rfl) (want_yes rfl) rfl rfl ?_
          refine ops_nil ?_
          intro a hA
          refine cw_seq ?_
          refine cw_cond hA rfl (fun hc2 => ?_) (fun hc2 => ?_)
          · replace hG3 := iteT hc2 hG3
            refine cw_skip ?_
            refine cw_seq ?_
            refine cw_block ?_
            refine cw_seq ?_
            refine cw_ops hA ?_
            clear hA
            refine ops_v (rv_move rfl rfl) (want_yes rfl) rfl rfl ?_
            obtain ⟨x6, hx6, hG3⟩ := bindE hG3
            refine ops_v (rv_idx (m := 1) (hS.rd 0 rfl) rfl hx6 Try.underlying33 Try.sizeOf53 rfl rfl rfl) (want_yes rfl) rfl rfl ?_
            obtain ⟨s5, hel, hS⟩ := hS.el_SList 0 rfl (idx_some hx6).2.2
            refine ops_v (rv_loadN rfl rfl Try.isAgg53 Try.sizeOf53 rfl hel) (want_yes rfl) rfl rfl ?_
            refine ops_mv (rv_alloc (cs := [(.slice none 0 0)]) hS rfl Try.zeroValue53 rfl) (want_yes rfl) rfl rfl ?_
            clear hS
            rintro _ w ⟨b2, rfl, hS⟩
            refine ops_v (rv_assign rfl rfl) (want_yes rfl) rfl rfl ?_
            refine ops_ms (rs_box (vs := [s5]) hS (i := 1) rfl rfl rfl rfl rfl Try.sizeOf53 rfl rfl (all1 (one_rd (hS.rd 4 rfl)) rfl)) (want_yes rfl) rfl ?_
            clear hS
            intro w hS
            refine ops_nil ?_
            intro a hA
            refine cw_seq ?_
            refine cw_ops hA ?_
            clear hA
            refine ops_v (rv_fld (m := 1) Try.underlying37 rfl rfl Try.sizeOf32 rfl rfl) (want_yes rfl) rfl rfl ?_
            refine ops_v (rv_loadN rfl rfl Try.isAgg32 Try.sizeOf32 rfl (hS.cells 0 0 (cs' := [s1, s2]) rfl rfl)) (want_yes rfl) rfl rfl ?_
            refine ops_v (rv_loadN rfl rfl Try.isAgg53 Try.sizeOf53 rfl (hS.cells 1 0 (cs' := [s5]) rfl rfl)) (want_yes rfl) rfl rfl ?_
            refine ops_v (rv_move rfl rfl) (want_yes rfl) rfl rfl ?_
            refine ops_v (rv_rem rfl rfl rfl (by decide)) (want_yes rfl) rfl rfl ?_
            obtain ⟨x7, hx7, hG3⟩ := bindE hG3
            refine ops_c (rc_call Try.call41 rfl rfl) (want_yes rfl) rfl rfl (c_impl_listFits (h := m.Heap) (s := x6) (c := Int.tmod x5 3) (hS.rd 1 rfl) (hS.rd 2 rfl) (hS.rd 4 rfl) hx7) ?_
            rintro _ w ⟨rfl, hk⟩
            replace hS := hS.after hk; clear hk
            refine ops_v (rv_not rfl rfl) (want_yes rfl) rfl rfl ?_
            refine ops_nil ?_
            intro a hA
            refine cw_cond hA rfl (fun hc3 => ?_) (fun hc3 => ?_)
            · replace hG3 := iteT hc3 hG3
              refine cw_seq ?_
              refine cw_ops hA ?_
              clear hA
              refine ops_v (rv_assign rfl rfl) (want_yes rfl) rfl rfl ?_
              refine ops_nil ?_
              intro a hA
              refine cw_ret ?_
              cases hG3
              have ho := hr3 _ rfl; subst ho
              replace hF : some false = some r := hF
              cases hF
              exact fin1 Try.results20 hA (res_tmp rfl) ⟨rfl, (hS.sel [] rfl).weaken (R' := []) (fun _ h => nomatch h)⟩
            · replace hG3 := iteF hc3 hG3
              refine cw_skip ?_
              refine cw_ops hA ?_
              clear hA
              refine ops_v (rv_add rfl rfl rfl) (want_yes rfl) rfl rfl ?_
              refine ops_v (rv_move rfl rfl) (want_yes rfl) rfl rfl ?_
              refine ops_nil ?_
              intro a hA
              cases hG3
              exact ⟨_, rfl, ⟨hA.part ⟨rfl, rfl, rfl, rfl, trivial⟩, ((hS).sel [0] rfl).selR [0, 1, 2, 3] rfl⟩⟩
          · replace hG3 := iteF hc2 hG3
            refine cw_exit ?_
            refine xcons_hit ?_
            cases hG3
            have ho := hr3 _ rfl; subst ho
            exact ⟨rfl, hA.part trivial, ((hS).sel [] rfl).selR [] rfl⟩
        · skip
          clear hA hS hl2
          rintro a w ⟨heq, hA, hS⟩
          replace hF : impl_MemOk_j3 = some r := by rw [heq] at hF; exact hF
          clear heq
          unfold impl_MemOk_j3 at hF
          refine cw_seq ?_
          refine cw_ops hA ?_
          clear hA
          refine ops_v (rv_assign rfl rfl) (want_yes rfl) rfl rfl ?_
          refine ops_nil ?_
          intro a hA
          refine cw_ret ?_
          cases hF
          exact fin1 Try.results20 hA (res_tmp rfl) ⟨rfl, (hS.sel [] rfl).weaken (R' := []) (fun _ h => nomatch h)⟩

set_option maxHeartbeats 4000000 in
set_option maxRecDepth 100000 in
theorem c_impl_Var {w0 : World} {n : Int}  {r : (List UInt8)}  (hF : impl_Var n = some r) :
    Calls Try.prog 42 #[.int .i64 (n)] w0 (Ret fun v w' => v = sv (r) ∧ St (cxAll w0) w' [] []) := by
  have hS : St (cxAll w0) w0 [] [] := St.enter (by
    intro f hf; cases hf)
  refine calls_cw (args := [_]) Try.func42 rfl Try.ntmps42 rfl ?_
  unfold impl_Var at hF
  intro a hA
  refine cw_seq ?_
  refine cw_ops hA ?_
  clear hA
  refine ops_v (rv_assign rfl rfl) (want_yes rfl) rfl rfl ?_
  refine ops_nil ?_
  intro a hA
  refine cw_seq ?_
  refine cw_seq ?_
  refine cw_ops hA ?_
  clear hA
  refine ops_v (rv_move rfl rfl) (want_yes rfl) rfl rfl ?_
  obtain ⟨x1, hx1, hF⟩ := bindE hF
  refine ops_c (rc_call Try.call67 rfl rfl) (want_yes rfl) rfl rfl (c_impl_within (n := n) (low := 0) (high := 562949953421311)  hx1) ?_
  rintro _ w ⟨rfl, hk⟩
  replace hS := hS.after hk; clear hk
  refine ops_v (rv_not rfl rfl) (want_yes rfl) rfl rfl ?_
  refine ops_nil ?_
  intro a hA
  refine cw_cond hA rfl (fun hc1 => ?_) (fun hc1 => ?_)
  · replace hF := iteT hc1 hF
    refine cw_seq ?_
    refine cw_ops hA ?_
    clear hA
    refine ops_v (rv_assign rfl rfl) (want_yes rfl) rfl rfl ?_
    refine ops_nil ?_
    intro a hA
    refine cw_ret ?_
    cases hF
    exact fin1 Try.results42 hA (res_tmp rfl) ⟨rfl, (hS.sel [] rfl).weaken (R' := []) (fun _ h => nomatch h)⟩
  · replace hF := iteF hc1 hF
    refine cw_skip ?_
    refine cw_seq ?_
    refine cw_ops hA ?_
    clear hA
    refine ops_mv (rv_lit0 (α := UInt8) hS rfl Try.underlying48 inf_Try5 rfl) (want_yes rfl) rfl rfl ?_
    clear hS
    rintro s1 w hS
    refine ops_v (rv_assign rfl rfl) (want_yes rfl) rfl rfl ?_
    refine ops_nil ?_
    intro a hA
    refine cw_seq ?_
    obtain ⟨o1, hl1, hF⟩ := bindE hF
    refine cw_cut (J := fun a' w' => ∃ (x6 : Int) (x7 : List UInt8) (s4 : Value), o1 = (x6, x7) ∧ AEnv 25 [(0, .int .i64 (x6)), (3, s4)] a' ∧ St (cxAll w0) w' [cOwn [s4] (x7 : List UInt8)] []) ?_ ?_
    · refine cw_block ?_
      refine cw_loop (body := impl_Var_l1) (r := o1) (fun sg a' w' => ∃ (s3 : Value), AEnv 25 [(0, .int .i64 (sg.1)), (3, s3)] a' ∧ St (cxAll w0) w' [cOwn [s3] (sg.2 : List UInt8)] []) ?_ hl1 ⟨s1, hA.part ⟨rfl, rfl, trivial⟩, ((hS).sel [0] rfl).selR [] rfl⟩
      clear hA hS hl1
      rintro ⟨x4, x5⟩ a w q1 ⟨s3, hA, hS⟩ hG1 hr1
      try dsimp only at hA hS
      unfold impl_Var_l1 at hG1
      refine cw_seq ?_
      refine cw_seq ?_
      refine cw_ops hA ?_
      clear hA
      refine ops_v (rv_move rfl rfl) (want_yes rfl) rfl rfl ?_
      refine ops_v (rv_gtr rfl rfl rfl) (want_yes rfl) rfl rfl ?_
      refine ops_nil ?_
      intro a hA
      refine cw_cond hA rfl (fun hc2 => ?_) (fun hc2 => ?_)
      · replace hG1 := iteT hc2 hG1
        refine cw_skip ?_
        refine cw_block ?_
        refine cw_seq ?_
        refine cw_ops hA ?_
        clear hA
        refine ops_v (rv_move rfl rfl) (want_yes rfl) rfl rfl ?_
        refine ops_v (rv_move rfl rfl) (want_yes rfl) rfl rfl ?_
        refine ops_v (rv_and rfl rfl rfl) (want_yes rfl) rfl rfl ?_
        refine ops_v (rv_or rfl rfl rfl) (want_yes rfl) rfl rfl ?_
        refine ops_v (rv_conv8 Try.underlying3 Try.underlying5 rfl rfl) (want_yes rfl) rfl rfl ?_
        refine ops_mv (rv_lit1 (u8 (bitsOp .or .i64 (bitsOp .and .i64 x4 127) 128) : UInt8) hS rfl Try.underlying48 inf_Try5 rfl rfl rfl rfl) (want_yes rfl) rfl rfl ?_
        clear hS
        rintro s7 w hS
        obtain ⟨hn2, hG1⟩ := needE hG1
        refine ops_mv (rv_append (α := UInt8) 0 hS rfl (hS.rdOwn 1 rfl) rfl Try.underlying48 inf_Try5 rfl hn2 rfl rfl rfl) (want_yes rfl) rfl rfl ?_
        clear hS
        rintro s8 w hS
        refine ops_v (rv_assign rfl rfl) (want_yes rfl) rfl rfl ?_
        refine ops_nil ?_
        intro a hA
        refine cw_ops hA ?_
        clear hA
        refine ops_v (rv_move rfl rfl) (want_yes rfl) rfl rfl ?_
        refine ops_v (rv_shr rfl rfl rfl (by decide)) (want_yes rfl) rfl rfl ?_
        refine ops_v (rv_assign rfl rfl) (want_yes rfl) rfl rfl ?_
        refine ops_nil ?_
        intro a hA
        cases hG1
        exact ⟨_, rfl, ⟨s8, hA.part ⟨rfl, rfl, trivial⟩, ((hS).sel [0] rfl).selR [] rfl⟩⟩
      · replace hG1 := iteF hc2 hG1
        refine cw_exit ?_
        refine xcons_hit ?_
        cases hG1
        have ho := hr1 _ rfl; subst ho
        exact ⟨x4, x5, s3, rfl, hA.part ⟨rfl, rfl, trivial⟩, ((hS).sel [0] rfl).selR [] rfl⟩
    · skip
      clear hA hS hl1
      rintro a w ⟨x6, x7, s4, heq, hA, hS⟩
      replace hF : impl_Var_j1 x6 x7 = some r := by rw [heq] at hF; exact hF
      clear heq
      unfold impl_Var_j1 at hF
      refine cw_seq ?_
      refine cw_ops hA ?_
      clear hA
      refine ops_v (rv_move rfl rfl) (want_yes rfl) rfl rfl ?_
      refine ops_v (rv_move rfl rfl) (want_yes rfl) rfl rfl ?_
      refine ops_v (rv_conv8 Try.underlying3 Try.underlying5 rfl rfl) (want_yes rfl) rfl rfl ?_
      refine ops_mv (rv_lit1 (u8 x6 : UInt8) hS rfl Try.underlying48 inf_Try5 rfl rfl rfl rfl) (want_yes rfl) rfl rfl ?_
      clear hS
      rintro s5 w hS
      obtain ⟨hn1, hF⟩ := needE hF
      refine ops_mv (rv_append (α := UInt8) 0 hS rfl (hS.rdOwn 1 rfl) rfl Try.underlying48 inf_Try5 rfl hn1 rfl rfl rfl) (want_yes rfl) rfl rfl ?_
      clear hS
      rintro s6 w hS
      refine ops_v (rv_b2s (hS.rdOwn 0 rfl) Try.underlying48 Try.underlying5 Try.underlying9 rfl rfl) (want_yes rfl) rfl rfl ?_
      refine ops_v (rv_assign rfl rfl) (want_yes rfl) rfl rfl ?_
      refine ops_nil ?_
      intro a hA
      refine cw_ret ?_
      cases hF
      exact fin1 Try.results42 hA (res_tmp rfl) ⟨rfl, (hS.sel [] rfl).weaken (R' := []) (fun _ h => nomatch h)⟩

set_option maxHeartbeats 4000000 in
set_option maxRecDepth 100000 in
theorem c_impl_showList {w0 : World} {s : SList} {s1 : Value} {r : (List UInt8)} (h1 : Rep.rd (All w0) w0 [s1] (s.Slots : List Int)) (hF : impl_showList s = some r) :
    Calls Try.prog 21 #[.agg #[s1]] w0 (Ret fun v w' => v = sv (r) ∧ St (cxAll w0) w' [] []) := by
  have hS : St (cxAll w0) w0 [] [fRd [s1] (s.Slots : List Int)] := St.enter (by
    intro f hf
    simp only [List.mem_cons, List.not_mem_nil, or_false] at hf
    subst hf; exact h1)
  refine calls_cw (args := [_]) Try.func21 rfl Try.ntmps21 rfl ?_
  unfold impl_showList at hF
  intro a hA
  refine cw_seq ?_
  refine cw_ops hA ?_
  clear hA
  refine ops_mv (rv_box (cs := [s1]) hS rfl rfl rfl) (want_yes rfl) rfl rfl ?_
  clear hS
  rintro _ w ⟨b1, rfl, hS⟩
  refine ops_v (rv_assign rfl rfl) (want_yes rfl) rfl rfl ?_
  refine ops_nil ?_
  intro a hA
  refine cw_seq ?_
  refine cw_ops hA ?_
  clear hA
  refine ops_v (rv_fld (m := 0) Try.underlying53 rfl rfl Try.sizeOf22 rfl rfl) (want_yes rfl) rfl rfl ?_
  refine ops_v (rv_load1 rfl rfl Try.isAgg22 (hS.cell 0 rfl rfl)) (want_yes rfl) rfl rfl ?_
  refine ops_v (rv_lenS (hS.rd 0 rfl) Try.underlying22 rfl rfl) (want_yes rfl) rfl rfl ?_
  obtain ⟨x1, hx1, hF⟩ := bindE hF
  refine ops_c (rc_call Try.call42 rfl rfl) (want_yes rfl) rfl rfl (c_impl_Var (n := (s.Slots.length : Int))  hx1) ?_
  rintro _ w ⟨rfl, hk⟩
  replace hS := hS.after hk; clear hk
  refine ops_v (rv_assign rfl rfl) (want_yes rfl) rfl rfl ?_
  refine ops_nil ?_
  intro a hA
  refine cw_seq ?_
  refine cw_seq ?_
  refine cw_ops hA ?_
  clear hA
  refine ops_v (rv_fld (m := 0) Try.underlying53 rfl rfl Try.sizeOf22 rfl rfl) (want_yes rfl) rfl rfl ?_
  refine ops_v (rv_load1 rfl rfl Try.isAgg22 (hS.cell 0 rfl rfl)) (want_yes rfl) rfl rfl ?_
  refine ops_v (rv_lenS (hS.rd 0 rfl) Try.underlying22 rfl rfl) (want_yes rfl) rfl rfl ?_
  refine ops_v (rv_move rfl rfl) (want_yes rfl) rfl rfl ?_
  refine ops_nil ?_
  intro a hA
  obtain ⟨o1, hl1, hF⟩ := bindE hF
  refine cw_cut (J := fun a' w' => ∃ (x6 : List UInt8), o1 = x6 ∧ AEnv 23 [(3, sv (x6))] a' ∧ St (cxAll w0) w' [] []) ?_ ?_
  · refine cw_block ?_
    refine cw_loop (body := impl_showList_l1 s) (r := o1) (fun sg a' w' => AEnv 23 [(3, sv (sg.1)), (11, s1), (12, .int .i64 ((s.Slots.length : Int))), (13, .int .i64 (sg.2))] a' ∧ St (cxAll w0) w' [] [fRd [s1] (s.Slots : List Int)]) ?_ hl1 ⟨hA.part ⟨rfl, rfl, rfl, rfl, trivial⟩, ((hS).sel [] rfl).selR [0] rfl⟩
    clear hA hS hl1
    rintro ⟨x4, x5⟩ a w q1 ⟨hA, hS⟩ hG1 hr1
    try dsimp only at hA hS
    unfold impl_showList_l1 at hG1
    refine cw_seq ?_
    refine cw_ops hA ?_
    clear hA
    refine ops_v (rv_lss rfl rfl rfl) (want_yes rfl) rfl rfl ?_
    refine ops_nil ?_
    intro a hA
    refine cw_seq ?_
    refine cw_cond hA rfl (fun hc1 => ?_) (fun hc1 => ?_)
    · replace hG1 := iteT hc1 hG1
      refine cw_skip ?_
      refine cw_seq ?_
      refine cw_block ?_
      refine cw_seq ?_
      refine cw_ops hA ?_
      clear hA
      obtain ⟨x7, hx7, hG1⟩ := bindE hG1
      refine ops_v (rv_idx (m := 1) (hS.rd 0 rfl) rfl hx7 Try.underlying22 Try.sizeOf3 rfl rfl rfl) (want_yes rfl) rfl rfl ?_
      refine ops_v (rv_load1 rfl rfl Try.isAgg3 (cell1 (el_Int (hS.rd 0 rfl) (idx_some hx7).2.2))) (want_yes rfl) rfl rfl ?_
      refine ops_v (rv_assign rfl rfl) (want_yes rfl) rfl rfl ?_
      refine ops_nil ?_
      intro a hA
      refine cw_ops hA ?_
      clear hA
      refine ops_v (rv_move rfl rfl) (want_yes rfl) rfl rfl ?_
      refine ops_v (rv_move rfl rfl) (want_yes rfl) rfl rfl ?_
      obtain ⟨x8, hx8, hG1⟩ := bindE hG1
      refine ops_c (rc_call Try.call42 rfl rfl) (want_yes rfl) rfl rfl (c_impl_Var (n := x7)  hx8) ?_
      rintro _ w ⟨rfl, hk⟩
      replace hS := hS.after hk; clear hk
      obtain ⟨hn1, hG1⟩ := needE hG1
      refine ops_v (rv_cat rfl rfl rfl hn1) (want_yes rfl) rfl rfl ?_
      refine ops_v (rv_assign rfl rfl) (want_yes rfl) rfl rfl ?_
      refine ops_nil ?_
      intro a hA
      refine cw_ops hA ?_
      clear hA
      refine ops_v (rv_add rfl rfl rfl) (want_yes rfl) rfl rfl ?_
      refine ops_v (rv_move rfl rfl) (want_yes rfl) rfl rfl ?_
      refine ops_nil ?_
      intro a hA
      cases hG1
      exact ⟨_, rfl, ⟨hA.part ⟨rfl, rfl, rfl, rfl, trivial⟩, ((hS).sel [] rfl).selR [0] rfl⟩⟩
    · replace hG1 := iteF hc1 hG1
      refine cw_exit ?_
      refine xcons_hit ?_
      cases hG1
      have ho := hr1 _ rfl; subst ho
      exact ⟨x4, rfl, hA.part ⟨rfl, trivial⟩, ((hS).sel [] rfl).selR [] rfl⟩
  · skip
    clear hA hS hl1
    rintro a w ⟨x6, heq, hA, hS⟩
    replace hF : impl_showList_j1 x6 = some r := by rw [heq] at hF; exact hF
    clear heq
    unfold impl_showList_j1 at hF
    refine cw_seq ?_
    refine cw_ops hA ?_
    clear hA
    refine ops_v (rv_move rfl rfl) (want_yes rfl) rfl rfl ?_
    refine ops_v (rv_assign rfl rfl) (want_yes rfl) rfl rfl ?_
    refine ops_nil ?_
    intro a hA
    refine cw_ret ?_
    cases hF
    exact fin1 Try.results21 hA (res_tmp rfl) ⟨rfl, (hS.sel [] rfl).weaken (R' := []) (fun _ h => nomatch h)⟩

set_option maxHeartbeats 4000000 in
set_option maxRecDepth 100000 in
theorem c_impl_ShowMem {w0 : World} {m : Mem} {s1 : Value} {s2 : Value} {s3 : Value} {s4 : Value} {r : (List UInt8)} (h1 : Rep.rd (All w0) w0 [s1] (m.Heap.Bytes : List Int)) (h2 : Rep.rd (All w0) w0 [s2] (m.Heap.Class : List Int)) (h3 : Rep.rd (All w0) w0 [s3] (m.Lists.Global : List SList)) (h4 : Rep.rd (All w0) w0 [s4] (m.Lists.Own : List SList)) (hF : impl_ShowMem m = some r) :
    Calls Try.prog 8 #[.agg #[s1, s2, s3, s4]] w0 (Ret fun v w' => v = sv (r) ∧ St (cxAll w0) w' [] []) := by
  have hS : St (cxAll w0) w0 [] [fRd [s1] (m.Heap.Bytes : List Int), fRd [s2] (m.Heap.Class : List Int), fRd [s3] (m.Lists.Global : List SList), fRd [s4] (m.Lists.Own : List SList)] := St.enter (by
    intro f hf
    simp only [List.mem_cons, List.not_mem_nil, or_false] at hf
    rcases hf with rfl | rfl | rfl | rfl
    · exact h1
    · exact h2
    · exact h3
    · exact h4)
  refine calls_cw (args := [_]) Try.func8 rfl Try.ntmps8 rfl ?_
  unfold impl_ShowMem at hF
  intro a hA
  refine cw_seq ?_
  refine cw_ops hA ?_
  clear hA
  refine ops_mv (rv_box (cs := [s1, s2, s3, s4]) hS rfl rfl rfl) (want_yes rfl) rfl rfl ?_
  clear hS
  rintro _ w ⟨b1, rfl, hS⟩
  refine ops_v (rv_assign rfl rfl) (want_yes rfl) rfl rfl ?_
  refine ops_nil ?_
  intro a hA
  refine cw_seq ?_
  refine cw_seq ?_
  refine cw_ops hA ?_
  clear hA
  refine ops_v (rv_loadN rfl rfl Try.isAgg37 Try.sizeOf37 rfl (hS.cells 0 0 (cs' := [s1, s2, s3, s4]) rfl rfl)) (want_yes rfl) rfl rfl ?_
  obtain ⟨x1, hx1, hF⟩ := bindE hF
  refine ops_c (rc_call Try.call20 rfl rfl) (want_yes rfl) rfl rfl (c_impl_MemOk (m := m) (hS.rd 0 rfl) (hS.rd 1 rfl) (hS.rd 2 rfl) (hS.rd 3 rfl) hx1) ?_
  rintro _ w ⟨rfl, hk⟩
  replace hS := hS.after hk; clear hk
  refine ops_v (rv_not rfl rfl) (want_yes rfl) rfl rfl ?_
  refine ops_nil ?_
  intro a hA
  refine cw_cond hA rfl (fun hc1 => ?_) (fun hc1 => ?_)
  · replace hF := iteT hc1 hF
    refine cw_seq ?_
    refine cw_ops hA ?_
    clear hA
    refine ops_v (rv_assign rfl rfl) (want_yes rfl) rfl rfl ?_
    refine ops_nil ?_
    intro a hA
    refine cw_ret ?_
    cases hF
    exact fin1 Try.results8 hA (res_tmp rfl) ⟨rfl, (hS.sel [] rfl).weaken (R' := []) (fun _ h => nomatch h)⟩
  · replace hF := iteF hc1 hF
    refine cw_skip ?_
    refine cw_seq ?_
    refine cw_ops hA ?_
    clear hA
    refine ops_mv (rv_lit0 (α := UInt8) hS rfl Try.underlying48 inf_Try5 rfl) (want_yes rfl) rfl rfl ?_
    clear hS
    rintro s5 w hS
    refine ops_v (rv_assign rfl rfl) (want_yes rfl) rfl rfl ?_
    refine ops_nil ?_
    intro a hA
    refine cw_seq ?_
    refine cw_seq ?_
    refine cw_ops hA ?_
    clear hA
    refine ops_v (rv_fld (m := 1) Try.underlying37 rfl rfl Try.sizeOf32 rfl rfl) (want_yes rfl) rfl rfl ?_
    refine ops_v (rv_fld (m := 0) Try.underlying32 rfl rfl Try.sizeOf22 rfl rfl) (want_yes rfl) rfl rfl ?_
    refine ops_v (rv_load1 rfl rfl Try.isAgg22 (hS.cell 0 rfl rfl)) (want_yes rfl) rfl rfl ?_
    refine ops_v (rv_lenS (hS.rd 0 rfl) Try.underlying22 rfl rfl) (want_yes rfl) rfl rfl ?_
    refine ops_v (rv_move rfl rfl) (want_yes rfl) rfl rfl ?_
    refine ops_nil ?_
    intro a hA
    obtain ⟨o1, hl1, hF⟩ := bindE hF
    refine cw_cut (J := fun a' w' => ∃ (x6 : List UInt8) (s8 : Value), o1 = x6 ∧ AEnv 75 [(1, .pointer (some ⟨b1, 0, none⟩)), (3, s8)] a' ∧ St (cxAll w0) w' [cOwn [s8] (x6 : List UInt8), cBox b1 [s1, s2, s3, s4]] [fRd [s1] (m.Heap.Bytes : List Int), fRd [s2] (m.Heap.Class : List Int), fRd [s3] (m.Lists.Global : List SList), fRd [s4] (m.Lists.Own : List SList)]) ?_ ?_
    · refine cw_block ?_
      refine cw_loop (body := impl_ShowMem_l1 m) (r := o1) (fun sg a' w' => ∃ (s7 : Value), AEnv 75 [(1, .pointer (some ⟨b1, 0, none⟩)), (3, s7), (19, s1), (20, .int .i64 ((m.Heap.Bytes.length : Int))), (21, .int .i64 (sg.2))] a' ∧ St (cxAll w0) w' [cOwn [s7] (sg.1 : List UInt8), cBox b1 [s1, s2, s3, s4]] [fRd [s1] (m.Heap.Bytes : List Int), fRd [s2] (m.Heap.Class : List Int), fRd [s3] (m.Lists.Global : List SList), fRd [s4] (m.Lists.Own : List SList)]) ?_ hl1 ⟨s5, hA.part ⟨rfl, rfl, rfl, rfl, rfl, trivial⟩, ((hS).sel [1, 0] rfl).selR [0, 1, 2, 3] rfl⟩
      clear hA hS hl1
      rintro ⟨x4, x5⟩ a w q1 ⟨s7, hA, hS⟩ hG1 hr1
      try dsimp only at hA hS
      unfold impl_ShowMem_l1 at hG1
      refine cw_seq ?_
      refine cw_ops hA ?_
      clear hA
      refine ops_v (rv_lss rfl rfl rfl) (want_yes rfl) rfl rfl ?_
      refine ops_nil ?_
      intro a hA
      refine cw_seq ?_
      refine cw_cond hA rfl (fun hc5 => ?_) (fun hc5 => ?_)
      · replace hG1 := iteT hc5 hG1
        refine cw_skip ?_
        refine cw_seq ?_
        refine cw_block ?_
        refine cw_seq ?_
        refine cw_ops hA ?_
        clear hA
        obtain ⟨x27, hx27, hG1⟩ := bindE hG1
        refine ops_v (rv_idx (m := 1) (hS.rd 0 rfl) rfl hx27 Try.underlying22 Try.sizeOf3 rfl rfl rfl) (want_yes rfl) rfl rfl ?_
        refine ops_v (rv_load1 rfl rfl Try.isAgg3 (cell1 (el_Int (hS.rd 0 rfl) (idx_some hx27).2.2))) (want_yes rfl) rfl rfl ?_
        refine ops_v (rv_assign rfl rfl) (want_yes rfl) rfl rfl ?_
        refine ops_nil ?_
        intro a hA
        refine cw_ops hA ?_
        clear hA
        refine ops_v (rv_move rfl rfl) (want_yes rfl) rfl rfl ?_
        refine ops_v (rv_move rfl rfl) (want_yes rfl) rfl rfl ?_
        refine ops_v (rv_conv8 Try.underlying3 Try.underlying5 rfl rfl) (want_yes rfl) rfl rfl ?_
        refine ops_mv (rv_lit1 (u8 x27 : UInt8) hS rfl Try.underlying48 inf_Try5 rfl rfl rfl rfl) (want_yes rfl) rfl rfl ?_
        clear hS
        rintro s16 w hS
        obtain ⟨hn4, hG1⟩ := needE hG1
        refine ops_mv (rv_append (α := UInt8) 0 hS rfl (hS.rdOwn 2 rfl) rfl Try.underlying48 inf_Try5 rfl hn4 rfl rfl rfl) (want_yes rfl) rfl rfl ?_
        clear hS
        rintro s17 w hS
        refine ops_v (rv_assign rfl rfl) (want_yes rfl) rfl rfl ?_
        refine ops_nil ?_
        intro a hA
        refine cw_ops hA ?_
        clear hA
        refine ops_v (rv_add rfl rfl rfl) (want_yes rfl) rfl rfl ?_
        refine ops_v (rv_move rfl rfl) (want_yes rfl) rfl rfl ?_
        refine ops_nil ?_
        intro a hA
        cases hG1
        exact ⟨_, rfl, ⟨s17, hA.part ⟨rfl, rfl, rfl, rfl, rfl, trivial⟩, ((hS).sel [0, 1] rfl).selR [0, 1, 2, 3] rfl⟩⟩
      · replace hG1 := iteF hc5 hG1
        refine cw_exit ?_
        refine xcons_hit ?_
        cases hG1
        have ho := hr1 _ rfl; subst ho
        exact ⟨x4, s7, rfl, hA.part ⟨rfl, rfl, trivial⟩, ((hS).sel [0, 1] rfl).selR [0, 1, 2, 3] rfl⟩
    · skip
      clear hA hS hl1
      rintro a w ⟨x6, s8, heq, hA, hS⟩
      replace hF : impl_ShowMem_j1 m x6 = some r := by rw [heq] at hF; exact hF
      clear heq
      unfold impl_ShowMem_j1 at hF
      refine cw_seq ?_
      refine cw_seq ?_
      refine cw_ops hA ?_
      clear hA
      refine ops_v (rv_fld (m := 1) Try.underlying37 rfl rfl Try.sizeOf32 rfl rfl) (want_yes rfl) rfl rfl ?_
      refine ops_v (rv_fld (m := 0) Try.underlying32 rfl rfl Try.sizeOf22 rfl rfl) (want_yes rfl) rfl rfl ?_
      refine ops_v (rv_load1 rfl rfl Try.isAgg22 (hS.cell 1 rfl rfl)) (want_yes rfl) rfl rfl ?_
      refine ops_v (rv_lenS (hS.rd 1 rfl) Try.underlying22 rfl rfl) (want_yes rfl) rfl rfl ?_
      refine ops_v (rv_move rfl rfl) (want_yes rfl) rfl rfl ?_
      refine ops_nil ?_
      intro a hA
      obtain ⟨o2, hl2, hF⟩ := bindE hF
      refine cw_cut (J := fun a' w' => ∃ (x11 : List UInt8) (s11 : Value), o2 = x11 ∧ AEnv 75 [(1, .pointer (some ⟨b1, 0, none⟩)), (3, s11)] a' ∧ St (cxAll w0) w' [cOwn [s11] (x11 : List UInt8), cBox b1 [s1, s2, s3, s4]] [fRd [s1] (m.Heap.Bytes : List Int), fRd [s2] (m.Heap.Class : List Int), fRd [s3] (m.Lists.Global : List SList), fRd [s4] (m.Lists.Own : List SList)]) ?_ ?_
      · refine cw_block ?_
        refine cw_loop (body := impl_ShowMem_l2 m) (r := o2) (fun sg a' w' => ∃ (s10 : Value), AEnv 75 [(1, .pointer (some ⟨b1, 0, none⟩)), (3, s10), (33, s2), (34, .int .i64 ((m.Heap.Class.length : Int))), (35, .int .i64 (sg.2))] a' ∧ St (cxAll w0) w' [cOwn [s10] (sg.1 : List UInt8), cBox b1 [s1, s2, s3, s4]] [fRd [s2] (m.Heap.Class : List Int), fRd [s1] (m.Heap.Bytes : List Int), fRd [s3] (m.Lists.Global : List SList), fRd [s4] (m.Lists.Own : List SList)]) ?_ hl2 ⟨s8, hA.part ⟨rfl, rfl, rfl, rfl, rfl, trivial⟩, ((hS).sel [0, 1] rfl).selR [1, 0, 2, 3] rfl⟩
        clear hA hS hl2
        rintro ⟨x9, x10⟩ a w q2 ⟨s10, hA, hS⟩ hG2 hr2
        try dsimp only at hA hS
        unfold impl_ShowMem_l2 at hG2
        refine cw_seq ?_
        refine cw_ops hA ?_
        clear hA
        refine ops_v (rv_lss rfl rfl rfl) (want_yes rfl) rfl rfl ?_
        refine ops_nil ?_
        intro a hA
        refine cw_seq ?_
        refine cw_cond hA rfl (fun hc4 => ?_) (fun hc4 => ?_)
        · replace hG2 := iteT hc4 hG2
          refine cw_skip ?_
          refine cw_seq ?_
          refine cw_block ?_
          refine cw_seq ?_
          refine cw_ops hA ?_
          clear hA
          obtain ⟨x26, hx26, hG2⟩ := bindE hG2
          refine ops_v (rv_idx (m := 1) (hS.rd 0 rfl) rfl hx26 Try.underlying22 Try.sizeOf3 rfl rfl rfl) (want_yes rfl) rfl rfl ?_
          refine ops_v (rv_load1 rfl rfl Try.isAgg3 (cell1 (el_Int (hS.rd 0 rfl) (idx_some hx26).2.2))) (want_yes rfl) rfl rfl ?_
          refine ops_v (rv_assign rfl rfl) (want_yes rfl) rfl rfl ?_
          refine ops_nil ?_
          intro a hA
          refine cw_ops hA ?_
          clear hA
          refine ops_v (rv_move rfl rfl) (want_yes rfl) rfl rfl ?_
          refine ops_v (rv_move rfl rfl) (want_yes rfl) rfl rfl ?_
          refine ops_v (rv_add rfl rfl rfl) (want_yes rfl) rfl rfl ?_
          refine ops_v (rv_conv8 Try.underlying3 Try.underlying5 rfl rfl) (want_yes rfl) rfl rfl ?_
          refine ops_mv (rv_lit1 (u8 (w64 (x26 + 1)) : UInt8) hS rfl Try.underlying48 inf_Try5 rfl rfl rfl rfl) (want_yes rfl) rfl rfl ?_
          clear hS
          rintro s14 w hS
          obtain ⟨hn3, hG2⟩ := needE hG2
          refine ops_mv (rv_append (α := UInt8) 0 hS rfl (hS.rdOwn 2 rfl) rfl Try.underlying48 inf_Try5 rfl hn3 rfl rfl rfl) (want_yes rfl) rfl rfl ?_
          clear hS
          rintro s15 w hS
          refine ops_v (rv_assign rfl rfl) (want_yes rfl) rfl rfl ?_
          refine ops_nil ?_
          intro a hA
          refine cw_ops hA ?_
          clear hA
          refine ops_v (rv_add rfl rfl rfl) (want_yes rfl) rfl rfl ?_
          refine ops_v (rv_move rfl rfl) (want_yes rfl) rfl rfl ?_
          refine ops_nil ?_
          intro a hA
          cases hG2
          exact ⟨_, rfl, ⟨s15, hA.part ⟨rfl, rfl, rfl, rfl, rfl, trivial⟩, ((hS).sel [0, 1] rfl).selR [0, 1, 2, 3] rfl⟩⟩
        · replace hG2 := iteF hc4 hG2
          refine cw_exit ?_
          refine xcons_hit ?_
          cases hG2
          have ho := hr2 _ rfl; subst ho
          exact ⟨x9, s10, rfl, hA.part ⟨rfl, rfl, trivial⟩, ((hS).sel [0, 1] rfl).selR [1, 0, 2, 3] rfl⟩
      · skip
        clear hA hS hl2
        rintro a w ⟨x11, s11, heq, hA, hS⟩
        replace hF : impl_ShowMem_j2 m x11 = some r := by rw [heq] at hF; exact hF
        clear heq
        unfold impl_ShowMem_j2 at hF
        refine cw_seq ?_
        refine cw_ops hA ?_
        clear hA
        refine ops_v (rv_move rfl rfl) (want_yes rfl) rfl rfl ?_
        refine ops_v (rv_b2s (hS.rdOwn 0 rfl) Try.underlying48 Try.underlying5 Try.underlying9 rfl rfl) (want_yes rfl) rfl rfl ?_
        refine ops_v (rv_assign rfl rfl) (want_yes rfl) rfl rfl ?_
        refine ops_nil ?_
        intro a hA
        refine cw_seq ?_
        refine cw_seq ?_
        refine cw_ops hA ?_
        clear hA
        refine ops_v (rv_fld (m := 1) Try.underlying37 rfl rfl Try.sizeOf35 rfl rfl) (want_yes rfl) rfl rfl ?_
        refine ops_v (rv_fld (m := 0) Try.underlying35 rfl rfl Try.sizeOf33 rfl rfl) (want_yes rfl) rfl rfl ?_
        refine ops_v (rv_load1 rfl rfl Try.isAgg33 (hS.cell 1 rfl rfl)) (want_yes rfl) rfl rfl ?_
        refine ops_v (rv_lenS (hS.rd 2 rfl) Try.underlying33 rfl rfl) (want_yes rfl) rfl rfl ?_
        refine ops_v (rv_move rfl rfl) (want_yes rfl) rfl rfl ?_
        refine ops_nil ?_
        intro a hA
        obtain ⟨o3, hl3, hF⟩ := bindE hF
        refine cw_cut (J := fun a' w' => ∃ (x16 : List UInt8), o3 = x16 ∧ AEnv 75 [(1, .pointer (some ⟨b1, 0, none⟩)), (8, sv (x16))] a' ∧ St (cxAll w0) w' [cBox b1 [s1, s2, s3, s4]] [fRd [s1] (m.Heap.Bytes : List Int), fRd [s2] (m.Heap.Class : List Int), fRd [s3] (m.Lists.Global : List SList), fRd [s4] (m.Lists.Own : List SList)]) ?_ ?_
        · refine cw_block ?_
          refine cw_loop (body := impl_ShowMem_l3 m) (r := o3) (fun sg a' w' => AEnv 75 [(1, .pointer (some ⟨b1, 0, none⟩)), (8, sv (sg.1)), (50, s3), (51, .int .i64 ((m.Lists.Global.length : Int))), (52, .int .i64 (sg.2))] a' ∧ St (cxAll w0) w' [cBox b1 [s1, s2, s3, s4]] [fRd [s3] (m.Lists.Global : List SList), fRd [s1] (m.Heap.Bytes : List Int), fRd [s2] (m.Heap.Class : List Int), fRd [s4] (m.Lists.Own : List SList)]) ?_ hl3 ⟨hA.part ⟨rfl, rfl, rfl, rfl, rfl, trivial⟩, ((hS).sel [1] rfl).selR [2, 0, 1, 3] rfl⟩
          clear hA hS hl3
          rintro ⟨x14, x15⟩ a w q3 ⟨hA, hS⟩ hG3 hr3
          try dsimp only at hA hS
          unfold impl_ShowMem_l3 at hG3
          refine cw_seq ?_
          refine cw_ops hA ?_
          clear hA
          refine ops_v (rv_lss rfl rfl rfl) (want_yes rfl) rfl rfl ?_
          refine ops_nil ?_
          intro a hA
          refine cw_seq ?_
          refine cw_cond hA rfl (fun hc3 => ?_) (fun hc3 => ?_)
          · replace hG3 := iteT hc3 hG3
            refine cw_skip ?_
            refine cw_seq ?_
            refine cw_block ?_
            refine cw_seq ?_
            refine cw_ops hA ?_
            clear hA
            obtain ⟨x24, hx24, hG3⟩ := bindE hG3
            refine ops_v (rv_idx (m := 1) (hS.rd 0 rfl) rfl hx24 Try.underlying33 Try.sizeOf53 rfl rfl rfl) (want_yes rfl) rfl rfl ?_
            obtain ⟨s13, hel, hS⟩ := hS.el_SList 0 rfl (idx_some hx24).2.2
            refine ops_v (rv_loadN rfl rfl Try.isAgg53 Try.sizeOf53 rfl hel) (want_yes rfl) rfl rfl ?_
            refine ops_mv (rv_alloc (cs := [(.slice none 0 0)]) hS rfl Try.zeroValue53 rfl) (want_yes rfl) rfl rfl ?_
            clear hS
            rintro _ w ⟨b3, rfl, hS⟩
            refine ops_ms (rs_box (vs := [s13]) hS (i := 1) rfl rfl rfl rfl rfl Try.sizeOf53 rfl rfl (all1 (one_rd (hS.rd 4 rfl)) rfl)) (want_yes rfl) rfl ?_
            clear hS
            intro w hS
            refine ops_nil ?_
            intro a hA
            refine cw_ops hA ?_
            clear hA
            refine ops_v (rv_move rfl rfl) (want_yes rfl) rfl rfl ?_
            refine ops_v (rv_loadN rfl rfl Try.isAgg53 Try.sizeOf53 rfl (hS.cells 1 0 (cs' := [s13]) rfl rfl)) (want_yes rfl) rfl rfl ?_
            obtain ⟨x25, hx25, hG3⟩ := bindE hG3
            refine ops_c (rc_call Try.call21 rfl rfl) (want_yes rfl) rfl rfl (c_impl_showList (s := x24) (hS.rd 4 rfl) hx25) ?_
            rintro _ w ⟨rfl, hk⟩
            replace hS := hS.after hk; clear hk
            obtain ⟨hn2, hG3⟩ := needE hG3
            refine ops_v (rv_cat rfl rfl rfl hn2) (want_yes rfl) rfl rfl ?_
            refine ops_v (rv_assign rfl rfl) (want_yes rfl) rfl rfl ?_
            refine ops_nil ?_
            intro a hA
            refine cw_ops hA ?_
            clear hA
            refine ops_v (rv_add rfl rfl rfl) (want_yes rfl) rfl rfl ?_
            refine ops_v (rv_move rfl rfl) (want_yes rfl) rfl rfl ?_
            refine ops_nil ?_
            intro a hA
            cases hG3
            exact ⟨_, rfl, ⟨hA.part ⟨rfl, rfl, rfl, rfl, rfl, trivial⟩, ((hS).sel [0] rfl).selR [0, 1, 2, 3] rfl⟩⟩
          · replace hG3 := iteF hc3 hG3
            refine cw_exit ?_
            refine xcons_hit ?_
            cases hG3
            have ho := hr3 _ rfl; subst ho
            exact ⟨x14, rfl, hA.part ⟨rfl, rfl, trivial⟩, ((hS).sel [0] rfl).selR [1, 2, 0, 3] rfl⟩
        · skip
          clear hA hS hl3
          rintro a w ⟨x16, heq, hA, hS⟩
          replace hF : impl_ShowMem_j3 m x16 = some r := by rw [heq] at hF; exact hF
          clear heq
          unfold impl_ShowMem_j3 at hF
          refine cw_seq ?_
          refine cw_seq ?_
          refine cw_ops hA ?_
          clear hA
          refine ops_v (rv_fld (m := 1) Try.underlying37 rfl rfl Try.sizeOf35 rfl rfl) (want_yes rfl) rfl rfl ?_
          refine ops_v (rv_fld (m := 0) Try.underlying35 rfl rfl Try.sizeOf33 rfl rfl) (want_yes rfl) rfl rfl ?_
          refine ops_v (rv_load1 rfl rfl Try.isAgg33 (hS.cell 0 rfl rfl)) (want_yes rfl) rfl rfl ?_
          refine ops_v (rv_lenS (hS.rd 3 rfl) Try.underlying33 rfl rfl) (want_yes rfl) rfl rfl ?_
          refine ops_v (rv_move rfl rfl) (want_yes rfl) rfl rfl ?_
          refine ops_nil ?_
          intro a hA
          obtain ⟨o4, hl4, hF⟩ := bindE hF
          refine cw_cut (J := fun a' w' => ∃ (x21 : List UInt8), o4 = x21 ∧ AEnv 75 [(8, sv (x21))] a' ∧ St (cxAll w0) w' [] []) ?_ ?_
          · refine cw_block ?_
            refine cw_loop (body := impl_ShowMem_l4 m) (r := o4) (fun sg a' w' => AEnv 75 [(8, sv (sg.1)), (63, s4), (64, .int .i64 ((m.Lists.Own.length : Int))), (65, .int .i64 (sg.2))] a' ∧ St (cxAll w0) w' [] [fRd [s4] (m.Lists.Own : List SList)]) ?_ hl4 ⟨hA.part ⟨rfl, rfl, rfl, rfl, trivial⟩, ((hS).sel [] rfl).selR [3] rfl⟩
            clear hA hS hl4
            rintro ⟨x19, x20⟩ a w q4 ⟨hA, hS⟩ hG4 hr4
            try dsimp only at hA hS
            unfold impl_ShowMem_l4 at hG4
            refine cw_seq ?_
            refine cw_ops hA ?_
            clear hA
            refine ops_v (rv_lss rfl rfl rfl) (want_yes rfl) rfl rfl ?_
            refine ops_nil ?_
            intro a hA
            refine cw_seq ?_
            refine cw_cond hA rfl (fun hc2 => ?_) (fun hc2 => ?_)
            · replace hG4 := iteT hc2 hG4
              refine cw_skip ?_
              refine cw_seq ?_
              refine cw_block ?_
              refine cw_seq ?_
              refine cw_ops hA ?_
              clear hA
              obtain ⟨x22, hx22, hG4⟩ := bindE hG4
              refine ops_v (rv_idx (m := 1) (hS.rd 0 rfl) rfl hx22 Try.underlying33 Try.sizeOf53 rfl rfl rfl) (want_yes rfl) rfl rfl ?_
              obtain ⟨s12, hel, hS⟩ := hS.el_SList 0 rfl (idx_some hx22).2.2
              refine ops_v (rv_loadN rfl rfl Try.isAgg53 Try.sizeOf53 rfl hel) (want_yes rfl) rfl rfl ?_
              refine ops_mv (rv_alloc (cs := [(.slice none 0 0)]) hS rfl Try.zeroValue53 rfl) (want_yes rfl) rfl rfl ?_
              clear hS
              rintro _ w ⟨b2, rfl, hS⟩
              refine ops_ms (rs_box (vs := [s12]) hS (i := 0) rfl rfl rfl rfl rfl Try.sizeOf53 rfl rfl (all1 (one_rd (hS.rd 1 rfl)) rfl)) (want_yes rfl) rfl ?_
              clear hS
              intro w hS
              refine ops_nil ?_
              intro a hA
              refine cw_ops hA ?_
              clear hA
              refine ops_v (rv_move rfl rfl) (want_yes rfl) rfl rfl ?_
              refine ops_v (rv_loadN rfl rfl Try.isAgg53 Try.sizeOf53 rfl (hS.cells 0 0 (cs' := [s12]) rfl rfl)) (want_yes rfl) rfl rfl ?_
              obtain ⟨x23, hx23, hG4⟩ := bindE hG4
              refine ops_c (rc_call Try.call21 rfl rfl) (want_yes rfl) rfl rfl (c_impl_showList (s := x22) (hS.rd 1 rfl) hx23) ?_
              rintro _ w ⟨rfl, hk⟩
              replace hS := hS.after hk; clear hk
              obtain ⟨hn1, hG4⟩ := needE hG4
              refine ops_v (rv_cat rfl rfl rfl hn1) (want_yes rfl) rfl rfl ?_
              refine ops_v (rv_assign rfl rfl) (want_yes rfl) rfl rfl ?_
              refine ops_nil ?_
              intro a hA
              refine cw_ops hA ?_
              clear hA
              refine ops_v (rv_add rfl rfl rfl) (want_yes rfl) rfl rfl ?_
              refine ops_v (rv_move rfl rfl) (want_yes rfl) rfl rfl ?_
              refine ops_nil ?_
              intro a hA
              cases hG4
              exact ⟨_, rfl, ⟨hA.part ⟨rfl, rfl, rfl, rfl, trivial⟩, ((hS).sel [] rfl).selR [0] rfl⟩⟩
            · replace hG4 := iteF hc2 hG4
              refine cw_exit ?_
              refine xcons_hit ?_
              cases hG4
              have ho := hr4 _ rfl; subst ho
              exact ⟨x19, rfl, hA.part ⟨rfl, trivial⟩, ((hS).sel [] rfl).selR [] rfl⟩
          · skip
            clear hA hS hl4
            rintro a w ⟨x21, heq, hA, hS⟩
            replace hF : impl_ShowMem_j4 x21 = some r := by rw [heq] at hF; exact hF
            clear heq
            unfold impl_ShowMem_j4 at hF
            refine cw_seq ?_
            refine cw_ops hA ?_
            clear hA
            refine ops_v (rv_move rfl rfl) (want_yes rfl) rfl rfl ?_
            refine ops_v (rv_assign rfl rfl) (want_yes rfl) rfl rfl ?_
            refine ops_nil ?_
            intro a hA
            refine cw_ret ?_
            cases hF
            exact fin1 Try.results8 hA (res_tmp rfl) ⟨rfl, (hS.sel [] rfl).weaken (R' := []) (fun _ h => nomatch h)⟩

set_option maxHeartbeats 4000000 in
set_option maxRecDepth 100000 in
theorem c_laws_eqIntS {w0 : World} {a_ : List Int} {b : List Int} {s1 : Value} {s2 : Value} {r : Bool} (h1 : Rep.rd (All w0) w0 [s1] (a_ : List Int)) (h2 : Rep.rd (All w0) w0 [s2] (b : List Int)) (hF : laws_eqIntS a_ b = some r) :
    Calls Try.prog 43 #[s1, s2] w0 (Ret fun v w' => v = .bool (r) ∧ St (cxAll w0) w' [] []) := by
  have hS : St (cxAll w0) w0 [] [fRd [s1] (a_ : List Int), fRd [s2] (b : List Int)] := St.enter (by
    intro f hf
    simp only [List.mem_cons, List.not_mem_nil, or_false] at hf
    rcases hf with rfl | rfl
    · exact h1
    · exact h2)
  refine calls_cw (args := [_, _]) Try.func43 rfl Try.ntmps43 rfl ?_
  unfold laws_eqIntS at hF
  intro a hA
  refine cw_seq ?_
  refine cw_ops hA ?_
  clear hA
  refine ops_v (rv_assign rfl rfl) (want_yes rfl) rfl rfl ?_
  refine ops_nil ?_
  intro a hA
  refine cw_seq ?_
  refine cw_seq ?_
  refine cw_ops hA ?_
  clear hA
  refine ops_v (rv_move rfl rfl) (want_yes rfl) rfl rfl ?_
  refine ops_v (rv_lenS (hS.rd 0 rfl) Try.underlying22 rfl rfl) (want_yes rfl) rfl rfl ?_
  refine ops_v (rv_move rfl rfl) (want_yes rfl) rfl rfl ?_
  refine ops_v (rv_lenS (hS.rd 1 rfl) Try.underlying22 rfl rfl) (want_yes rfl) rfl rfl ?_
  refine ops_v (rv_neq rfl rfl rfl) (want_yes rfl) rfl rfl ?_
  refine ops_nil ?_
  intro a hA
  refine cw_cond hA rfl (fun hc1 => ?_) (fun hc1 => ?_)
  · replace hF := iteT hc1 hF
    refine cw_seq ?_
    refine cw_ops hA ?_
    clear hA
    refine ops_v (rv_assign rfl rfl) (want_yes rfl) rfl rfl ?_
    refine ops_nil ?_
    intro a hA
    refine cw_ret ?_
    cases hF
    exact fin1 Try.results43 hA (res_tmp rfl) ⟨rfl, (hS.sel [] rfl).weaken (R' := []) (fun _ h => nomatch h)⟩
  · replace hF := iteF hc1 hF
    refine cw_skip ?_
    refine cw_seq ?_
    refine cw_seq ?_
    refine cw_ops hA ?_
    clear hA
    refine ops_v (rv_assign rfl rfl) (want_yes rfl) rfl rfl ?_
    refine ops_nil ?_
    intro a hA
    obtain ⟨o1, hl1, hF⟩ := bindE hF
    refine cw_cut (J := fun a' w' => o1 = Out.brk (()) ∧ AEnv 26 [] a' ∧ St (cxAll w0) w' [] []) ?_ ?_
    · refine cw_block ?_
      refine cw_loop (body := laws_eqIntS_l1 a_ b) (r := o1) (fun sg a' w' => AEnv 26 [(0, s1), (1, s2), (5, .int .i64 (sg))] a' ∧ St (cxAll w0) w' [] [fRd [s1] (a_ : List Int), fRd [s2] (b : List Int)]) ?_ hl1 ⟨hA.part ⟨rfl, rfl, rfl, trivial⟩, ((hS).sel [] rfl).selR [0, 1] rfl⟩
      clear hA hS hl1
      rintro x2 a w q1 ⟨hA, hS⟩ hG1 hr1
      try dsimp only at hA hS
      unfold laws_eqIntS_l1 at hG1
      refine cw_seq ?_
      refine cw_seq ?_
      refine cw_ops hA ?_
      clear hA
      refine ops_v (rv_move rfl rfl) (want_yes rfl) rfl rfl ?_
      refine ops_v (rv_move rfl rfl) (want_yes rfl) rfl rfl ?_
      refine ops_v (rv_lenS (hS.rd 0 rfl) Try.underlying22 rfl rfl) (want_yes rfl) rfl rfl ?_
      refine ops_v (rv_lss rfl rfl rfl) (want_yes rfl) rfl rfl ?_
      refine ops_nil ?_
      intro a hA
      refine cw_cond hA rfl (fun hc2 => ?_) (fun hc2 => ?_)
      · replace hG1 := iteT hc2 hG1
        refine cw_skip ?_
        refine cw_seq ?_
        refine cw_block ?_
        refine cw_seq ?_
        refine cw_any (Keeps (cxAll w0) [] [fRd [s1] (a_ : List Int), fRd [s2] (b : List Int)]) mixed_Try hA hS ?_
        clear hA hS; intro w hS
        have hK : Keeps (cxAll w0) [] [fRd [s1] (a_ : List Int), fRd [s2] (b : List Int)] w := ⟨_, (hS.sel [] rfl).selR [0, 1] rfl⟩
        refine any_v 0 (by kernel_rfl) rfl (by kernel_rfl) (by kernel_rfl) hK (fun _ _ => (rv_move rfl rfl)) (want_yes rfl) rfl rfl ?_
        refine any_v 1 (by kernel_rfl) rfl (by kernel_rfl) (by kernel_rfl) hK (fun _ _ => (rv_move rfl rfl)) (want_yes rfl) rfl rfl ?_
        obtain ⟨x3, hx3, hG1⟩ := bindE hG1
        refine any_v 2 (by kernel_rfl) rfl (by kernel_rfl) (by kernel_rfl) hK (fun w hk => by obtain ⟨_, hS⟩ := hk; exact (rv_idx (m := 1) (hS.rd 0 rfl) rfl hx3 Try.underlying22 Try.sizeOf3 rfl rfl rfl)) (want_yes rfl) rfl rfl ?_
        refine any_v 3 (by kernel_rfl) rfl (by kernel_rfl) (by kernel_rfl) hK (fun w hk => by obtain ⟨_, hS⟩ := hk; exact (rv_load1 rfl rfl Try.isAgg3 (cell1 (el_Int (hS.rd 0 rfl) (idx_some hx3).2.2)))) (want_yes rfl) rfl rfl ?_
        refine any_v 4 (by kernel_rfl) rfl (by kernel_rfl) (by kernel_rfl) hK (fun _ _ => (rv_move rfl rfl)) (want_yes rfl) rfl rfl ?_
        refine any_v 5 (by kernel_rfl) rfl (by kernel_rfl) (by kernel_rfl) hK (fun _ _ => (rv_move rfl rfl)) (want_yes rfl) rfl rfl ?_
        obtain ⟨x4, hx4, hG1⟩ := bindE hG1
        refine any_v 6 (by kernel_rfl) rfl (by kernel_rfl) (by kernel_rfl) hK (fun w hk => by obtain ⟨_, hS⟩ := hk; exact (rv_idx (m := 1) (hS.rd 1 rfl) rfl hx4 Try.underlying22 Try.sizeOf3 rfl rfl rfl)) (want_yes rfl) rfl rfl ?_
        refine any_v 7 (by kernel_rfl) rfl (by kernel_rfl) (by kernel_rfl) hK (fun w hk => by obtain ⟨_, hS⟩ := hk; exact (rv_load1 rfl rfl Try.isAgg3 (cell1 (el_Int (hS.rd 1 rfl) (idx_some hx4).2.2)))) (want_yes rfl) rfl rfl ?_
        refine any_v 8 (by kernel_rfl) rfl (by kernel_rfl) (by kernel_rfl) hK (fun _ _ => (rv_neq rfl rfl rfl)) (want_yes rfl) rfl rfl ?_
        refine any_done (by kernel_rfl) ?_
        intro a hA
        refine cw_cond hA rfl (fun hc3 => ?_) (fun hc3 => ?_)
        · replace hG1 := iteT hc3 hG1
          refine cw_seq ?_
          refine cw_ops hA ?_
          clear hA
          refine ops_v (rv_assign rfl rfl) (want_yes rfl) rfl rfl ?_
          refine ops_nil ?_
          intro a hA
          refine cw_ret ?_
          cases hG1
          have ho := hr1 _ rfl; subst ho
          replace hF : some false = some r := hF
          cases hF
          exact fin1 Try.results43 hA (res_tmp rfl) ⟨rfl, (hS.sel [] rfl).weaken (R' := []) (fun _ h => nomatch h)⟩
        · replace hG1 := iteF hc3 hG1
          refine cw_skip ?_
          refine cw_ops hA ?_
          clear hA
          refine ops_v (rv_move rfl rfl) (want_yes rfl) rfl rfl ?_
          refine ops_v (rv_add rfl rfl rfl) (want_yes rfl) rfl rfl ?_
          refine ops_v (rv_assign rfl rfl) (want_yes rfl) rfl rfl ?_
          refine ops_nil ?_
          intro a hA
          cases hG1
          exact ⟨_, rfl, ⟨hA.part ⟨rfl, rfl, rfl, trivial⟩, ((hS).sel [] rfl).selR [0, 1] rfl⟩⟩
      · replace hG1 := iteF hc2 hG1
        refine cw_exit ?_
        refine xcons_hit ?_
        cases hG1
        have ho := hr1 _ rfl; subst ho
        exact ⟨rfl, hA.part trivial, ((hS).sel [] rfl).selR [] rfl⟩
    · skip
      clear hA hS hl1
      rintro a w ⟨heq, hA, hS⟩
      replace hF : laws_eqIntS_j1 = some r := by rw [heq] at hF; exact hF
      clear heq
      unfold laws_eqIntS_j1 at hF
      refine cw_seq ?_
      refine cw_ops hA ?_
      clear hA
      refine ops_v (rv_assign rfl rfl) (want_yes rfl) rfl rfl ?_
      refine ops_nil ?_
      intro a hA
      refine cw_ret ?_
      cases hF
      exact fin1 Try.results43 hA (res_tmp rfl) ⟨rfl, (hS.sel [] rfl).weaken (R' := []) (fun _ h => nomatch h)⟩

set_option maxHeartbeats 4000000 in
set_option maxRecDepth 100000 in
theorem c_laws_eqHeap {w0 : World} {a_ : Heap} {b : Heap} {s1 : Value} {s2 : Value} {s3 : Value} {s4 : Value} {r : Bool} (h1 : Rep.rd (All w0) w0 [s1] (a_.Bytes : List Int)) (h2 : Rep.rd (All w0) w0 [s2] (a_.Class : List Int)) (h3 : Rep.rd (All w0) w0 [s3] (b.Bytes : List Int)) (h4 : Rep.rd (All w0) w0 [s4] (b.Class : List Int)) (hF : laws_eqHeap a_ b = some r) :
    Calls Try.prog 22 #[.agg #[s1, s2], .agg #[s3, s4]] w0 (Ret fun v w' => v = .bool (r) ∧ St (cxAll w0) w' [] []) := by
  have hS : St (cxAll w0) w0 [] [fRd [s1] (a_.Bytes : List Int), fRd [s2] (a_.Class : List Int), fRd [s3] (b.Bytes : List Int), fRd [s4] (b.Class : List Int)] := St.enter (by
    intro f hf
    simp only [List.mem_cons, List.not_mem_nil, or_false] at hf
    rcases hf with rfl | rfl | rfl | rfl
    · exact h1
    · exact h2
    · exact h3
    · exact h4)
  refine calls_cw (args := [_, _]) Try.func22 rfl Try.ntmps22 rfl ?_
  unfold laws_eqHeap at hF
  intro a hA
  refine cw_seq ?_
  refine cw_ops hA ?_
  clear hA
  refine ops_mv (rv_box (cs := [s1, s2]) hS rfl rfl rfl) (want_yes rfl) rfl rfl ?_
  clear hS
  rintro _ w ⟨b1, rfl, hS⟩
  refine ops_mv (rv_box (cs := [s3, s4]) hS rfl rfl rfl) (want_yes rfl) rfl rfl ?_
  clear hS
  rintro _ w ⟨b2, rfl, hS⟩
  refine ops_v (rv_assign rfl rfl) (want_yes rfl) rfl rfl ?_
  refine ops_nil ?_
  intro a hA
  refine cw_seq ?_
  refine cw_seq ?_
  refine cw_ops hA ?_
  clear hA
  refine ops_v (rv_fld (m := 0) Try.underlying32 rfl rfl Try.sizeOf22 rfl rfl) (want_yes rfl) rfl rfl ?_
  refine ops_v (rv_load1 rfl rfl Try.isAgg22 (hS.cell 0 rfl rfl)) (want_yes rfl) rfl rfl ?_
  refine ops_v (rv_fld (m := 0) Try.underlying32 rfl rfl Try.sizeOf22 rfl rfl) (want_yes rfl) rfl rfl ?_
  refine ops_v (rv_load1 rfl rfl Try.isAgg22 (hS.cell 1 rfl rfl)) (want_yes rfl) rfl rfl ?_
  obtain ⟨x1, hx1, hF⟩ := bindE hF
  refine ops_c (rc_call Try.call43 rfl rfl) (want_yes rfl) rfl rfl (c_laws_eqIntS (a_ := a_.Bytes) (b := b.Bytes) (hS.rd 0 rfl) (hS.rd 2 rfl) hx1) ?_
  rintro _ w ⟨rfl, hk⟩
  replace hS := hS.after hk; clear hk
  refine ops_v (rv_not rfl rfl) (want_yes rfl) rfl rfl ?_
  refine ops_nil ?_
  intro a hA
  refine cw_cond hA rfl (fun hc1 => ?_) (fun hc1 => ?_)
  · replace hF := iteT hc1 hF
    refine cw_seq ?_
    refine cw_ops hA ?_
    clear hA
    refine ops_v (rv_assign rfl rfl) (want_yes rfl) rfl rfl ?_
    refine ops_nil ?_
    intro a hA
    refine cw_ret ?_
    cases hF
    exact fin1 Try.results22 hA (res_tmp rfl) ⟨rfl, (hS.sel [] rfl).weaken (R' := []) (fun _ h => nomatch h)⟩
  · replace hF := iteF hc1 hF
    refine cw_skip ?_
    refine cw_seq ?_
    refine cw_seq ?_
    refine cw_ops hA ?_
    clear hA
    refine ops_v (rv_fld (m := 0) Try.underlying32 rfl rfl Try.sizeOf22 rfl rfl) (want_yes rfl) rfl rfl ?_
    refine ops_v (rv_load1 rfl rfl Try.isAgg22 (hS.cell 0 rfl rfl)) (want_yes rfl) rfl rfl ?_
    refine ops_v (rv_fld (m := 0) Try.underlying32 rfl rfl Try.sizeOf22 rfl rfl) (want_yes rfl) rfl rfl ?_
    refine ops_v (rv_load1 rfl rfl Try.isAgg22 (hS.cell 1 rfl rfl)) (want_yes rfl) rfl rfl ?_
    obtain ⟨x2, hx2, hF⟩ := bindE hF
    refine ops_c (rc_call Try.call43 rfl rfl) (want_yes rfl) rfl rfl (c_laws_eqIntS (a_ := a_.Class) (b := b.Class) (hS.rd 1 rfl) (hS.rd 3 rfl) hx2) ?_
    rintro _ w ⟨rfl, hk⟩
    replace hS := hS.after hk; clear hk
    refine ops_v (rv_not rfl rfl) (want_yes rfl) rfl rfl ?_
    refine ops_nil ?_
    intro a hA
    refine cw_cond hA rfl (fun hc2 => ?_) (fun hc2 => ?_)
    · replace hF := iteT hc2 hF
      refine cw_seq ?_
      refine cw_ops hA ?_
      clear hA
      refine ops_v (rv_assign rfl rfl) (want_yes rfl) rfl rfl ?_
      refine ops_nil ?_
      intro a hA
      refine cw_ret ?_
      cases hF
      exact fin1 Try.results22 hA (res_tmp rfl) ⟨rfl, (hS.sel [] rfl).weaken (R' := []) (fun _ h => nomatch h)⟩
    · replace hF := iteF hc2 hF
      refine cw_skip ?_
      refine cw_seq ?_
      refine cw_ops hA ?_
      clear hA
      refine ops_v (rv_assign rfl rfl) (want_yes rfl) rfl rfl ?_
      refine ops_nil ?_
      intro a hA
      refine cw_ret ?_
      cases hF
      exact fin1 Try.results22 hA (res_tmp rfl) ⟨rfl, (hS.sel [] rfl).weaken (R' := []) (fun _ h => nomatch h)⟩

set_option maxHeartbeats 4000000 in
set_option maxRecDepth 100000 in
theorem c_laws_eqSList {w0 : World} {a_ : SList} {b : SList} {s1 : Value} {s2 : Value} {r : Bool} (h1 : Rep.rd (All w0) w0 [s1] (a_.Slots : List Int)) (h2 : Rep.rd (All w0) w0 [s2] (b.Slots : List Int)) (hF : laws_eqSList a_ b = some r) :
    Calls Try.prog 68 #[.agg #[s1], .agg #[s2]] w0 (Ret fun v w' => v = .bool (r) ∧ St (cxAll w0) w' [] []) := by
  have hS : St (cxAll w0) w0 [] [fRd [s1] (a_.Slots : List Int), fRd [s2] (b.Slots : List Int)] := St.enter (by
    intro f hf
    simp only [List.mem_cons, List.not_mem_nil, or_false] at hf
    rcases hf with rfl | rfl
    · exact h1
    · exact h2)
  refine calls_cw (args := [_, _]) Try.func68 rfl Try.ntmps68 rfl ?_
  unfold laws_eqSList at hF
  intro a hA
  refine cw_seq ?_
  refine cw_ops hA ?_
  clear hA
  refine ops_mv (rv_box (cs := [s1]) hS rfl rfl rfl) (want_yes rfl) rfl rfl ?_
  clear hS
  rintro _ w ⟨b1, rfl, hS⟩
  refine ops_mv (rv_box (cs := [s2]) hS rfl rfl rfl) (want_yes rfl) rfl rfl ?_
  clear hS
  rintro _ w ⟨b2, rfl, hS⟩
  refine ops_v (rv_assign rfl rfl) (want_yes rfl) rfl rfl ?_
  refine ops_nil ?_
  intro a hA
  refine cw_seq ?_
  refine cw_seq ?_
  refine cw_ops hA ?_
  clear hA
  refine ops_v (rv_fld (m := 0) Try.underlying53 rfl rfl Try.sizeOf22 rfl rfl) (want_yes rfl) rfl rfl ?_
  refine ops_v (rv_load1 rfl rfl Try.isAgg22 (hS.cell 0 rfl rfl)) (want_yes rfl) rfl rfl ?_
  refine ops_v (rv_fld (m := 0) Try.underlying53 rfl rfl Try.sizeOf22 rfl rfl) (want_yes rfl) rfl rfl ?_
  refine ops_v (rv_load1 rfl rfl Try.isAgg22 (hS.cell 1 rfl rfl)) (want_yes rfl) rfl rfl ?_
  obtain ⟨x1, hx1, hF⟩ := bindE hF
  refine ops_c (rc_call Try.call43 rfl rfl) (want_yes rfl) rfl rfl (c_laws_eqIntS (a_ := a_.Slots) (b := b.Slots) (hS.rd 0 rfl) (hS.rd 1 rfl) hx1) ?_
  rintro _ w ⟨rfl, hk⟩
  replace hS := hS.after hk; clear hk
  refine ops_v (rv_not rfl rfl) (want_yes rfl) rfl rfl ?_
  refine ops_nil ?_
  intro a hA
  refine cw_cond hA rfl (fun hc1 => ?_) (fun hc1 => ?_)
  · replace hF := iteT hc1 hF
    refine cw_seq ?_
    refine cw_ops hA ?_
    clear hA
    refine ops_v (rv_assign rfl rfl) (want_yes rfl) rfl rfl ?_
    refine ops_nil ?_
    intro a hA
    refine cw_ret ?_
    cases hF
    exact fin1 Try.results68 hA (res_tmp rfl) ⟨rfl, (hS.sel [] rfl).weaken (R' := []) (fun _ h => nomatch h)⟩
  · replace hF := iteF hc1 hF
    refine cw_skip ?_
    refine cw_seq ?_
    refine cw_ops hA ?_
    clear hA
    refine ops_v (rv_assign rfl rfl) (want_yes rfl) rfl rfl ?_
    refine ops_nil ?_
    intro a hA
    refine cw_ret ?_
    cases hF
    exact fin1 Try.results68 hA (res_tmp rfl) ⟨rfl, (hS.sel [] rfl).weaken (R' := []) (fun _ h => nomatch h)⟩

set_option maxHeartbeats 4000000 in
set_option maxRecDepth 100000 in
theorem c_laws_eqSListS {w0 : World} {a_ : List SList} {b : List SList} {s1 : Value} {s2 : Value} {r : Bool} (h1 : Rep.rd (All w0) w0 [s1] (a_ : List SList)) (h2 : Rep.rd (All w0) w0 [s2] (b : List SList)) (hF : laws_eqSListS a_ b = some r) :
    Calls Try.prog 44 #[s1, s2] w0 (Ret fun v w' => v = .bool (r) ∧ St (cxAll w0) w' [] []) := by
  have hS : St (cxAll w0) w0 [] [fRd [s1] (a_ : List SList), fRd [s2] (b : List SList)] := St.enter (by
    intro f hf
    simp only [List.mem_cons, List.not_mem_nil, or_false] at hf
    rcases hf with rfl | rfl
    · exact h1
    · exact h2)
  refine calls_cw (args := [_, _]) Try.func44 rfl Try.ntmps44 rfl ?_
  unfold laws_eqSListS at hF
  intro a hA
  refine cw_seq ?_
  refine cw_ops hA ?_
  clear hA
  refine ops_v (rv_assign rfl rfl) (want_yes rfl) rfl rfl ?_
  refine ops_nil ?_
  intro a hA
  refine cw_seq ?_
  refine cw_seq ?_
  refine cw_ops hA ?_
  clear hA
  refine ops_v (rv_move rfl rfl) (want_yes rfl) rfl rfl ?_
  refine ops_v (rv_lenS (hS.rd 0 rfl) Try.underlying33 rfl rfl) (want_yes rfl) rfl rfl ?_
  refine ops_v (rv_move rfl rfl) (want_yes rfl) rfl rfl ?_
  refine ops_v (rv_lenS (hS.rd 1 rfl) Try.underlying33 rfl rfl) (want_yes rfl) rfl rfl ?_
  refine ops_v (rv_neq rfl rfl rfl) (want_yes rfl) rfl rfl ?_
  refine ops_nil ?_
  intro a hA
  refine cw_cond hA rfl (fun hc1 => ?_) (fun hc1 => ?_)
  · replace hF := iteT hc1 hF
    refine cw_seq ?_
    refine cw_ops hA ?_
    clear hA
    refine ops_v (rv_assign rfl rfl) (want_yes rfl) rfl rfl ?_
    refine ops_nil ?_
    intro a hA
    refine cw_ret ?_
    cases hF
    exact fin1 Try.results44 hA (res_tmp rfl) ⟨rfl, (hS.sel [] rfl).weaken (R' := []) (fun _ h => nomatch h)⟩
  · replace hF := iteF hc1 hF
    refine cw_skip ?_
    refine cw_seq ?_
    refine cw_seq ?_
    refine cw_ops hA ?_
    clear hA
    refine ops_v (rv_assign rfl rfl) (want_yes rfl) rfl rfl ?_
    refine ops_nil ?_
    intro a hA
    obtain ⟨o1, hl1, hF⟩ := bindE hF
    refine cw_cut (J := fun a' w' => o1 = Out.brk (()) ∧ AEnv 27 [] a' ∧ St (cxAll w0) w' [] []) ?_ ?_
    · refine cw_block ?_
      refine cw_loop (body := laws_eqSListS_l1 a_ b) (r := o1) (fun sg a' w' => AEnv 27 [(0, s1), (1, s2), (5, .int .i64 (sg))] a' ∧ St (cxAll w0) w' [] [fRd [s1] (a_ : List SList), fRd [s2] (b : List SList)]) ?_ hl1 ⟨hA.part ⟨rfl, rfl, rfl, trivial⟩, ((hS).sel [] rfl).selR [0, 1] rfl⟩
      clear hA hS hl1
      rintro x2 a w q1 ⟨hA, hS⟩ hG1 hr1
      try dsimp only at hA hS
      unfold laws_eqSListS_l1 at hG1
      refine cw_seq ?_
      refine cw_seq ?_
      refine cw_ops hA ?_
      clear hA
      refine ops_v (rv_move rfl rfl) (want_yes rfl) rfl rfl ?_
      refine ops_v (rv_move rfl rfl) (want_yes rfl) rfl rfl ?_
      refine ops_v (rv_lenS (hS.rd 0 rfl) Try.underlying33 rfl rfl) (want_yes rfl) rfl rfl ?_
      refine ops_v (rv_lss rfl rfl rfl) (want_yes rfl) rfl rfl ?_
      refine ops_nil ?_
      intro a hA
      refine cw_cond hA rfl (fun hc2 => ?_) (fun hc2 => ?_)
      · replace hG1 := iteT hc2 hG1
        refine cw_skip ?_
        refine cw_seq ?_
        refine cw_block ?_
        refine cw_seq ?_
        refine cw_cut (J := fun a' w' => ∃ (x3 : Bool), laws_eqSListS_j2 x2 x3 = some q1 ∧ AEnv 27 [(0, s1), (1, s2), (5, .int .i64 (x2)), (26, .bool (x3))] a' ∧ St (cxAll w0) w' [] [fRd [s1] (a_ : List SList), fRd [s2] (b : List SList)]) ?_ ?_
        · skip
          refine cw_any (Keeps (cxAll w0) [] [fRd [s1] (a_ : List SList), fRd [s2] (b : List SList)]) mixed_Try hA hS ?_
          clear hA hS; intro w hS
          have hK : Keeps (cxAll w0) [] [fRd [s1] (a_ : List SList), fRd [s2] (b : List SList)] w := ⟨_, (hS.sel [] rfl).selR [0, 1] rfl⟩
          refine any_v 0 (by kernel_rfl) rfl (by kernel_rfl) (by kernel_rfl) hK (fun _ _ => (rv_move rfl rfl)) (want_yes rfl) rfl rfl ?_
          refine any_v 1 (by kernel_rfl) rfl (by kernel_rfl) (by kernel_rfl) hK (fun _ _ => (rv_move rfl rfl)) (want_yes rfl) rfl rfl ?_
          obtain ⟨x4, hx4, hG1⟩ := bindE hG1
          refine any_v 2 (by kernel_rfl) rfl (by kernel_rfl) (by kernel_rfl) hK (fun w hk => by obtain ⟨_, hS⟩ := hk; exact (rv_idx (m := 1) (hS.rd 0 rfl) rfl hx4 Try.underlying33 Try.sizeOf53 rfl rfl rfl)) (want_yes rfl) rfl rfl ?_
          refine any_v 4 (by kernel_rfl) rfl (by kernel_rfl) (by kernel_rfl) hK (fun _ _ => (rv_move rfl rfl)) (want_yes rfl) rfl rfl ?_
          refine any_v 5 (by kernel_rfl) rfl (by kernel_rfl) (by kernel_rfl) hK (fun _ _ => (rv_move rfl rfl)) (want_yes rfl) rfl rfl ?_
          obtain ⟨x5, hx5, hG1⟩ := bindE hG1
          refine any_v 6 (by kernel_rfl) rfl (by kernel_rfl) (by kernel_rfl) hK (fun w hk => by obtain ⟨_, hS⟩ := hk; exact (rv_idx (m := 1) (hS.rd 1 rfl) rfl hx5 Try.underlying33 Try.sizeOf53 rfl rfl rfl)) (want_yes rfl) rfl rfl ?_
          obtain ⟨x6, hx6, hG1⟩ := bindE hG1
          refine any_2 (i := 3) (j := 7) (by kernel_rfl) ?_ ?_
          · skip
            obtain ⟨s3, hel, hS⟩ := hS.el_SList 0 rfl (idx_some hx4).2.2
            refine as_v rfl (rv_loadN rfl rfl Try.isAgg53 Try.sizeOf53 rfl hel) (want_yes rfl) rfl rfl hK ?_
            refine any_1 (i := 7) (by kernel_rfl) ?_
            obtain ⟨s4, hel, hS⟩ := hS.el_SList 1 rfl (idx_some hx5).2.2
            refine as_v rfl (rv_loadN rfl rfl Try.isAgg53 Try.sizeOf53 rfl hel) (want_yes rfl) rfl rfl hK ?_
            refine any_1 (i := 8) (by kernel_rfl) ?_
            refine as_c rfl (rc_call Try.call68 rfl rfl) (want_yes rfl) rfl rfl (c_laws_eqSList (a_ := x4) (b := x5) (hS.rd 2 rfl) (hS.rd 3 rfl) hx6) ?_
            clear hK; rintro _ w ⟨rfl, hk⟩
            replace hS := hS.after hk; clear hk
            have hK : Keeps (cxAll w0) [] [fRd [s1] (a_ : List SList), fRd [s2] (b : List SList)] w := ⟨_, (hS.sel [] rfl).selR [0, 1] rfl⟩
            refine ⟨hK, ?_⟩
            refine any_v 9 (by kernel_rfl) rfl (by kernel_rfl) (by kernel_rfl) hK (fun _ _ => (rv_not rfl rfl)) (want_yes rfl) rfl rfl ?_
            refine any_done (by kernel_rfl) ?_
            intro a hA
            exact ⟨!x6, hG1, hA.part ⟨rfl, rfl, rfl, rfl, trivial⟩, ((hS).sel [] rfl).selR [0, 1] rfl⟩
          · skip
            obtain ⟨s3, hel, hS⟩ := hS.el_SList 1 rfl (idx_some hx5).2.2
            refine as_v rfl (rv_loadN rfl rfl Try.isAgg53 Try.sizeOf53 rfl hel) (want_yes rfl) rfl rfl hK ?_
            refine any_1 (i := 3) (by kernel_rfl) ?_
            obtain ⟨s4, hel, hS⟩ := hS.el_SList 0 rfl (idx_some hx4).2.2
            refine as_v rfl (rv_loadN rfl rfl Try.isAgg53 Try.sizeOf53 rfl hel) (want_yes rfl) rfl rfl hK ?_
            refine any_1 (i := 8) (by kernel_rfl) ?_
            refine as_c rfl (rc_call Try.call68 rfl rfl) (want_yes rfl) rfl rfl (c_laws_eqSList (a_ := x4) (b := x5) (hS.rd 3 rfl) (hS.rd 2 rfl) hx6) ?_
            clear hK; rintro _ w ⟨rfl, hk⟩
            replace hS := hS.after hk; clear hk
            have hK : Keeps (cxAll w0) [] [fRd [s1] (a_ : List SList), fRd [s2] (b : List SList)] w := ⟨_, (hS.sel [] rfl).selR [0, 1] rfl⟩
            refine ⟨hK, ?_⟩
            refine any_v 9 (by kernel_rfl) rfl (by kernel_rfl) (by kernel_rfl) hK (fun _ _ => (rv_not rfl rfl)) (want_yes rfl) rfl rfl ?_
            refine any_done (by kernel_rfl) ?_
            intro a hA
            exact ⟨!x6, hG1, hA.part ⟨rfl, rfl, rfl, rfl, trivial⟩, ((hS).sel [] rfl).selR [0, 1] rfl⟩
        · skip
          clear hA hS hG1
          rintro a w ⟨x3, hG1, hA, hS⟩
          unfold laws_eqSListS_j2 at hG1
          refine cw_cond hA rfl (fun hc3 => ?_) (fun hc3 => ?_)
          · replace hG1 := iteT hc3 hG1
            refine cw_seq ?_
            refine cw_ops hA ?_
            clear hA
            refine ops_v (rv_assign rfl rfl) (want_yes rfl) rfl rfl ?_
            refine ops_nil ?_
            intro a hA
            refine cw_ret ?_
            cases hG1
            have ho := hr1 _ rfl; subst ho
            replace hF : some false = some r := hF
            cases hF
            exact fin1 Try.results44 hA (res_tmp rfl) ⟨rfl, (hS.sel [] rfl).weaken (R' := []) (fun _ h => nomatch h)⟩
          · replace hG1 := iteF hc3 hG1
            refine cw_skip ?_
            refine cw_ops hA ?_
            clear hA
            refine ops_v (rv_move rfl rfl) (want_yes rfl) rfl rfl ?_
            refine ops_v (rv_add rfl rfl rfl) (want_yes rfl) rfl rfl ?_
            refine ops_v (rv_assign rfl rfl) (want_yes rfl) rfl rfl ?_
            refine ops_nil ?_
            intro a hA
            cases hG1
            exact ⟨_, rfl, ⟨hA.part ⟨rfl, rfl, rfl, trivial⟩, ((hS).sel [] rfl).selR [0, 1] rfl⟩⟩
      · replace hG1 := iteF hc2 hG1
        refine cw_exit ?_
        refine xcons_hit ?_
        cases hG1
        have ho := hr1 _ rfl; subst ho
        exact ⟨rfl, hA.part trivial, ((hS).sel [] rfl).selR [] rfl⟩
    · skip
      clear hA hS hl1
      rintro a w ⟨heq, hA, hS⟩
      replace hF : laws_eqSListS_j1 = some r := by rw [heq] at hF; exact hF
      clear heq
      unfold laws_eqSListS_j1 at hF
      refine cw_seq ?_
      refine cw_ops hA ?_
      clear hA
      refine ops_v (rv_assign rfl rfl) (want_yes rfl) rfl rfl ?_
      refine ops_nil ?_
      intro a hA
      refine cw_ret ?_
      cases hF
      exact fin1 Try.results44 hA (res_tmp rfl) ⟨rfl, (hS.sel [] rfl).weaken (R' := []) (fun _ h => nomatch h)⟩

set_option maxHeartbeats 4000000 in
set_option maxRecDepth 100000 in
theorem c_laws_eqLists {w0 : World} {a_ : Lists} {b : Lists} {s1 : Value} {s2 : Value} {s3 : Value} {s4 : Value} {r : Bool} (h1 : Rep.rd (All w0) w0 [s1] (a_.Global : List SList)) (h2 : Rep.rd (All w0) w0 [s2] (a_.Own : List SList)) (h3 : Rep.rd (All w0) w0 [s3] (b.Global : List SList)) (h4 : Rep.rd (All w0) w0 [s4] (b.Own : List SList)) (hF : laws_eqLists a_ b = some r) :
    Calls Try.prog 23 #[.agg #[s1, s2], .agg #[s3, s4]] w0 (Ret fun v w' => v = .bool (r) ∧ St (cxAll w0) w' [] []) := by
  have hS : St (cxAll w0) w0 [] [fRd [s1] (a_.Global : List SList), fRd [s2] (a_.Own : List SList), fRd [s3] (b.Global : List SList), fRd [s4] (b.Own : List SList)] := St.enter (by
    intro f hf
    simp only [List.mem_cons, List.not_mem_nil, or_false] at hf
    rcases hf with rfl | rfl | rfl | rfl
    · exact h1
    · exact h2
    · exact h3
    · exact h4)
  refine calls_cw (args := [_, _]) Try.func23 rfl Try.ntmps23 rfl ?_
  unfold laws_eqLists at hF
  intro a hA
  refine cw_seq ?_
  refine cw_ops hA ?_
  clear hA
  refine ops_mv (rv_box (cs := [s1, s2]) hS rfl rfl rfl) (want_yes rfl) rfl rfl ?_
  clear hS
  rintro _ w ⟨b1, rfl, hS⟩
  refine ops_mv (rv_box (cs := [s3, s4]) hS rfl rfl rfl) (want_yes rfl) rfl rfl ?_
  clear hS
  rintro _ w ⟨b2, rfl, hS⟩
  refine ops_v (rv_assign rfl rfl) (want_yes rfl) rfl rfl ?_
  refine ops_nil ?_
  intro a hA
  refine cw_seq ?_
  refine cw_seq ?_
  refine cw_ops hA ?_
  clear hA
  refine ops_v (rv_fld (m := 0) Try.underlying35 rfl rfl Try.sizeOf33 rfl rfl) (want_yes rfl) rfl rfl ?_
  refine ops_v (rv_load1 rfl rfl Try.isAgg33 (hS.cell 0 rfl rfl)) (want_yes rfl) rfl rfl ?_
  refine ops_v (rv_fld (m := 0) Try.underlying35 rfl rfl Try.sizeOf33 rfl rfl) (want_yes rfl) rfl rfl ?_
  refine ops_v (rv_load1 rfl rfl Try.isAgg33 (hS.cell 1 rfl rfl)) (want_yes rfl) rfl rfl ?_
  obtain ⟨x1, hx1, hF⟩ := bindE hF
  refine ops_c (rc_call Try.call44 rfl rfl) (want_yes rfl) rfl rfl (c_laws_eqSListS (a_ := a_.Global) (b := b.Global) (hS.rd 0 rfl) (hS.rd 2 rfl) hx1) ?_
  rintro _ w ⟨rfl, hk⟩
  replace hS := hS.after hk; clear hk
  refine ops_v (rv_not rfl rfl) (want_yes rfl) rfl rfl ?_
  refine ops_nil ?_
  intro a hA
  refine cw_cond hA rfl (fun hc1 => ?_) (fun hc1 => ?_)
  · replace hF := iteT hc1 hF
    refine cw_seq ?_
    refine cw_ops hA ?_
    clear hA
    refine ops_v (rv_assign rfl rfl) (want_yes rfl) rfl rfl ?_
    refine ops_nil ?_
    intro a hA
    refine cw_ret ?_
    cases hF
    exact fin1 Try.results23 hA (res_tmp rfl) ⟨rfl, (hS.sel [] rfl).weaken (R' := []) (fun _ h => nomatch h)⟩
  · replace hF := iteF hc1 hF
    refine cw_skip ?_
    refine cw_seq ?_
    refine cw_seq ?_
    refine cw_ops hA ?_
    clear hA
    refine ops_v (rv_fld (m := 0) Try.underlying35 rfl rfl Try.sizeOf33 rfl rfl) (want_yes rfl) rfl rfl ?_
    refine ops_v (rv_load1 rfl rfl Try.isAgg33 (hS.cell 0 rfl rfl)) (want_yes rfl) rfl rfl ?_
    refine ops_v (rv_fld (m := 0) Try.underlying35 rfl rfl Try.sizeOf33 rfl rfl) (want_yes rfl) rfl rfl ?_
    refine ops_v (rv_load1 rfl rfl Try.isAgg33 (hS.cell 1 rfl rfl)) (want_yes rfl) rfl rfl ?_
    obtain ⟨x2, hx2, hF⟩ := bindE hF
    refine ops_c (rc_call Try.call44 rfl rfl) (want_yes rfl) rfl rfl (c_laws_eqSListS (a_ := a_.Own) (b := b.Own) (hS.rd 1 rfl) (hS.rd 3 rfl) hx2) ?_
    rintro _ w ⟨rfl, hk⟩
    replace hS := hS.after hk; clear hk
    refine ops_v (rv_not rfl rfl) (want_yes rfl) rfl rfl ?_
    refine ops_nil ?_
    intro a hA
    refine cw_cond hA rfl (fun hc2 => ?_) (fun hc2 => ?_)
    · replace hF := iteT hc2 hF
      refine cw_seq ?_
      refine cw_ops hA ?_
      clear hA
      refine ops_v (rv_assign rfl rfl) (want_yes rfl) rfl rfl ?_
      refine ops_nil ?_
      intro a hA
      refine cw_ret ?_
      cases hF
      exact fin1 Try.results23 hA (res_tmp rfl) ⟨rfl, (hS.sel [] rfl).weaken (R' := []) (fun _ h => nomatch h)⟩
    · replace hF := iteF hc2 hF
      refine cw_skip ?_
      refine cw_seq ?_
      refine cw_ops hA ?_
      clear hA
      refine ops_v (rv_assign rfl rfl) (want_yes rfl) rfl rfl ?_
      refine ops_nil ?_
      intro a hA
      refine cw_ret ?_
      cases hF
      exact fin1 Try.results23 hA (res_tmp rfl) ⟨rfl, (hS.sel [] rfl).weaken (R' := []) (fun _ h => nomatch h)⟩

set_option maxHeartbeats 4000000 in
set_option maxRecDepth 100000 in
theorem c_laws_eqMem {w0 : World} {a_ : Mem} {b : Mem} {s1 : Value} {s2 : Value} {s3 : Value} {s4 : Value} {s5 : Value} {s6 : Value} {s7 : Value} {s8 : Value} {r : Bool} (h1 : Rep.rd (All w0) w0 [s1] (a_.Heap.Bytes : List Int)) (h2 : Rep.rd (All w0) w0 [s2] (a_.Heap.Class : List Int)) (h3 : Rep.rd (All w0) w0 [s3] (a_.Lists.Global : List SList)) (h4 : Rep.rd (All w0) w0 [s4] (a_.Lists.Own : List SList)) (h5 : Rep.rd (All w0) w0 [s5] (b.Heap.Bytes : List Int)) (h6 : Rep.rd (All w0) w0 [s6] (b.Heap.Class : List Int)) (h7 : Rep.rd (All w0) w0 [s7] (b.Lists.Global : List SList)) (h8 : Rep.rd (All w0) w0 [s8] (b.Lists.Own : List SList)) (hF : laws_eqMem a_ b = some r) :
    Calls Try.prog 9 #[.agg #[s1, s2, s3, s4], .agg #[s5, s6, s7, s8]] w0 (Ret fun v w' => v = .bool (r) ∧ St (cxAll w0) w' [] []) := by
  have hS : St (cxAll w0) w0 [] [fRd [s1] (a_.Heap.Bytes : List Int), fRd [s2] (a_.Heap.Class : List Int), fRd [s3] (a_.Lists.Global : List SList), fRd [s4] (a_.Lists.Own : List SList), fRd [s5] (b.Heap.Bytes : List Int), fRd [s6] (b.Heap.Class : List Int), fRd [s7] (b.Lists.Global : List SList), fRd [s8] (b.Lists.Own : List SList)] := St.enter (by
    intro f hf
    simp only [List.mem_cons, List.not_mem_nil, or_false] at hf
    rcases hf with rfl | rfl | rfl | rfl | rfl | rfl | rfl | rfl
    · exact h1
    · exact h2
    · exact h3
    · exact h4
    · exact h5
    · exact h6
    · exact h7
    · exact h8)
  refine calls_cw (args := [_, _]) Try.func9 rfl Try.ntmps9 rfl ?_
  unfold laws_eqMem at hF
  intro a hA
  refine cw_seq ?_
  refine cw_ops hA ?_
  clear hA
  refine ops_mv (rv_box (cs := [s1, s2, s3, s4]) hS rfl rfl rfl) (want_yes rfl) rfl rfl ?_
  clear hS
  rintro _ w ⟨b1, rfl, hS⟩
  refine ops_mv (rv_box (cs := [s5, s6, s7, s8]) hS rfl rfl rfl) (want_yes rfl) rfl rfl ?_
  clear hS
  rintro _ w ⟨b2, rfl, hS⟩
  refine ops_v (rv_assign rfl rfl) (want_yes rfl) rfl rfl ?_
  refine ops_nil ?_
  intro a hA
  refine cw_seq ?_
  refine cw_seq ?_
  refine cw_ops hA ?_
  clear hA
  refine ops_v (rv_fld (m := 1) Try.underlying37 rfl rfl Try.sizeOf32 rfl rfl) (want_yes rfl) rfl rfl ?_
  refine ops_v (rv_loadN rfl rfl Try.isAgg32 Try.sizeOf32 rfl (hS.cells 0 0 (cs' := [s1, s2]) rfl rfl)) (want_yes rfl) rfl rfl ?_
  refine ops_v (rv_fld (m := 1) Try.underlying37 rfl rfl Try.sizeOf32 rfl rfl) (want_yes rfl) rfl rfl ?_
  refine ops_v (rv_loadN rfl rfl Try.isAgg32 Try.sizeOf32 rfl (hS.cells 1 0 (cs' := [s5, s6]) rfl rfl)) (want_yes rfl) rfl rfl ?_
  obtain ⟨x1, hx1, hF⟩ := bindE hF
  refine ops_c (rc_call Try.call22 rfl rfl) (want_yes rfl) rfl rfl (c_laws_eqHeap (a_ := a_.Heap) (b := b.Heap) (hS.rd 0 rfl) (hS.rd 1 rfl) (hS.rd 4 rfl) (hS.rd 5 rfl) hx1) ?_
  rintro _ w ⟨rfl, hk⟩
  replace hS := hS.after hk; clear hk
  refine ops_v (rv_not rfl rfl) (want_yes rfl) rfl rfl ?_
  refine ops_nil ?_
  intro a hA
  refine cw_cond hA rfl (fun hc1 => ?_) (fun hc1 => ?_)
  · replace hF := iteT hc1 hF
    refine cw_seq ?_
    refine cw_ops hA ?_
    clear hA
    refine ops_v (rv_assign rfl rfl) (want_yes rfl) rfl rfl ?_
    refine ops_nil ?_
    intro a hA
    refine cw_ret ?_
    cases hF
    exact fin1 Try.results9 hA (res_tmp rfl) ⟨rfl, (hS.sel [] rfl).weaken (R' := []) (fun _ h => nomatch h)⟩
  · replace hF := iteF hc1 hF
    refine cw_skip ?_
    refine cw_seq ?_
    refine cw_seq ?_
    refine cw_ops hA ?_
    clear hA
    refine ops_v (rv_fld (m := 1) Try.underlying37 rfl rfl Try.sizeOf35 rfl rfl) (want_yes rfl) rfl rfl ?_
    refine ops_v (rv_loadN rfl rfl Try.isAgg35 Try.sizeOf35 rfl (hS.cells 0 2 (cs' := [s3, s4]) rfl rfl)) (want_yes rfl) rfl rfl ?_
    refine ops_v (rv_fld (m := 1) Try.underlying37 rfl rfl Try.sizeOf35 rfl rfl) (want_yes rfl) rfl rfl ?_
    refine ops_v (rv_loadN rfl rfl Try.isAgg35 Try.sizeOf35 rfl (hS.cells 1 2 (cs' := [s7, s8]) rfl rfl)) (want_yes rfl) rfl rfl ?_
    obtain ⟨x2, hx2, hF⟩ := bindE hF
    refine ops_c (rc_call Try.call23 rfl rfl) (want_yes rfl) rfl rfl (c_laws_eqLists (a_ := a_.Lists) (b := b.Lists) (hS.rd 2 rfl) (hS.rd 3 rfl) (hS.rd 6 rfl) (hS.rd 7 rfl) hx2) ?_
    rintro _ w ⟨rfl, hk⟩
    replace hS := hS.after hk; clear hk
    refine ops_v (rv_not rfl rfl) (want_yes rfl) rfl rfl ?_
    refine ops_nil ?_
    intro a hA
    refine cw_cond hA rfl (fun hc2 => ?_) (fun hc2 => ?_)
    · replace hF := iteT hc2 hF
      refine cw_seq ?_
      refine cw_ops hA ?_
      clear hA
      refine ops_v (rv_assign rfl rfl) (want_yes rfl) rfl rfl ?_
      refine ops_nil ?_
      intro a hA
      refine cw_ret ?_
      cases hF
      exact fin1 Try.results9 hA (res_tmp rfl) ⟨rfl, (hS.sel [] rfl).weaken (R' := []) (fun _ h => nomatch h)⟩
    · replace hF := iteF hc2 hF
      refine cw_skip ?_
      refine cw_seq ?_
      refine cw_ops hA ?_
      clear hA
      refine ops_v (rv_assign rfl rfl) (want_yes rfl) rfl rfl ?_
      refine ops_nil ?_
      intro a hA
      refine cw_ret ?_
      cases hF
      exact fin1 Try.results9 hA (res_tmp rfl) ⟨rfl, (hS.sel [] rfl).weaken (R' := []) (fun _ h => nomatch h)⟩

set_option maxHeartbeats 4000000 in
set_option maxRecDepth 100000 in
theorem c_laws_FnExactShowMem {w0 : World} {aM : Mem} {s1 : Value} {s2 : Value} {s3 : Value} {s4 : Value} {r : Bool} (h1 : Rep.rd (All w0) w0 [s1] (aM.Heap.Bytes : List Int)) (h2 : Rep.rd (All w0) w0 [s2] (aM.Heap.Class : List Int)) (h3 : Rep.rd (All w0) w0 [s3] (aM.Lists.Global : List SList)) (h4 : Rep.rd (All w0) w0 [s4] (aM.Lists.Own : List SList)) (hF : laws_FnExactShowMem aM = some r) :
    Calls Try.prog 3 #[.agg #[s1, s2, s3, s4]] w0 (Ret fun v w' => v = .bool (r) ∧ St (cxAll w0) w' [] []) := by
  have hS : St (cxAll w0) w0 [] [fRd [s1] (aM.Heap.Bytes : List Int), fRd [s2] (aM.Heap.Class : List Int), fRd [s3] (aM.Lists.Global : List SList), fRd [s4] (aM.Lists.Own : List SList)] := St.enter (by
    intro f hf
    simp only [List.mem_cons, List.not_mem_nil, or_false] at hf
    rcases hf with rfl | rfl | rfl | rfl
    · exact h1
    · exact h2
    · exact h3
    · exact h4)
  refine calls_cw (args := [_]) Try.func3 rfl Try.ntmps3 rfl ?_
  unfold laws_FnExactShowMem at hF
  intro a hA
  refine cw_seq ?_
  refine cw_ops hA ?_
  clear hA
  refine ops_mv (rv_box (cs := [s1, s2, s3, s4]) hS rfl rfl rfl) (want_yes rfl) rfl rfl ?_
  clear hS
  rintro _ w ⟨b1, rfl, hS⟩
  refine ops_v (rv_assign rfl rfl) (want_yes rfl) rfl rfl ?_
  refine ops_nil ?_
  intro a hA
  refine cw_seq ?_
  refine cw_ops hA ?_
  clear hA
  refine ops_v (rv_assign rfl rfl) (want_yes rfl) rfl rfl ?_
  refine ops_nil ?_
  intro a hA
  refine cw_seq ?_
  refine cw_ops hA ?_
  clear hA
  refine ops_v (rv_loadN rfl rfl Try.isAgg29 Try.sizeOf29 rfl (hS.cells 0 0 (cs' := [s1, s2, s3, s4]) rfl rfl)) (want_yes rfl) rfl rfl ?_
  refine ops_v (rv_move rfl rfl) (want_yes rfl) rfl rfl ?_
  obtain ⟨x1, hx1, hF⟩ := bindE hF
  refine ops_c (rc_call Try.call5 rfl rfl) (want_yes rfl) rfl rfl (c_laws_szMem (a_ := aM) (left := 1048576) (hS.rd 0 rfl) (hS.rd 1 rfl) (hS.rd 2 rfl) (hS.rd 3 rfl) hx1) ?_
  rintro _ w ⟨rfl, hk⟩
  replace hS := hS.after hk; clear hk
  refine ops_v (rv_assign rfl rfl) (want_yes rfl) rfl rfl ?_
  refine ops_nil ?_
  intro a hA
  refine cw_seq ?_
  refine cw_seq ?_
  refine cw_ops hA ?_
  clear hA
  refine ops_v (rv_move rfl rfl) (want_yes rfl) rfl rfl ?_
  refine ops_v (rv_lss rfl rfl rfl) (want_yes rfl) rfl rfl ?_
  refine ops_nil ?_
  intro a hA
  refine cw_cond hA rfl (fun hc1 => ?_) (fun hc1 => ?_)
  · replace hF := iteT hc1 hF
    refine cw_seq ?_
    refine cw_ops hA ?_
    clear hA
    refine ops_v (rv_assign rfl rfl) (want_yes rfl) rfl rfl ?_
    refine ops_nil ?_
    intro a hA
    refine cw_ret ?_
    cases hF
    exact fin1 Try.results3 hA (res_tmp rfl) ⟨rfl, (hS.sel [] rfl).weaken (R' := []) (fun _ h => nomatch h)⟩
  · replace hF := iteF hc1 hF
    refine cw_skip ?_
    refine cw_seq ?_
    refine cw_ops hA ?_
    clear hA
    refine ops_v (rv_loadN rfl rfl Try.isAgg29 Try.sizeOf29 rfl (hS.cells 0 0 (cs' := [s1, s2, s3, s4]) rfl rfl)) (want_yes rfl) rfl rfl ?_
    obtain ⟨x2, hx2, hF⟩ := bindE hF
    refine ops_c (rc_call Try.call7 rfl rfl) (want_yes rfl) rfl rfl (c_laws_toMem (a_ := aM) (hS.rd 0 rfl) (hS.rd 1 rfl) (hS.rd 2 rfl) (hS.rd 3 rfl) hx2) ?_
    rintro _ w ⟨s5, s6, s7, s8, rfl, hk⟩
    replace hS := hS.after hk; clear hk
    obtain ⟨x3, hx3, hF⟩ := bindE hF
    refine ops_c (rc_call Try.call6 rfl rfl) (want_yes rfl) rfl rfl (c_spec_ShowMem (m := x2) (hS.rdOwn 1 rfl) (hS.rdOwn 2 rfl) (hS.rdOwn 3 rfl) (hS.rdOwn 4 rfl) hx3) ?_
    rintro _ w ⟨rfl, hk⟩
    replace hS := hS.after hk; clear hk
    refine ops_v (rv_assign rfl rfl) (want_yes rfl) rfl rfl ?_
    refine ops_nil ?_
    intro a hA
    refine cw_seq ?_
    refine cw_ops hA ?_
    clear hA
    refine ops_v (rv_loadN rfl rfl Try.isAgg29 Try.sizeOf29 rfl (hS.cells 0 0 (cs' := [s1, s2, s3, s4]) rfl rfl)) (want_yes rfl) rfl rfl ?_
    obtain ⟨x4, hx4, hF⟩ := bindE hF
    refine ops_c (rc_call Try.call7 rfl rfl) (want_yes rfl) rfl rfl (c_laws_toMem (a_ := aM) (hS.rd 0 rfl) (hS.rd 1 rfl) (hS.rd 2 rfl) (hS.rd 3 rfl) hx4) ?_
    rintro _ w ⟨s9, s10, s11, s12, rfl, hk⟩
    replace hS := hS.after hk; clear hk
    refine ops_mv (rv_alloc (cs := [(.slice none 0 0), (.slice none 0 0), (.slice none 0 0), (.slice none 0 0)]) hS rfl Try.zeroValue37 rfl) (want_yes rfl) rfl rfl ?_
    clear hS
    rintro _ w ⟨b2, rfl, hS⟩
    refine ops_ms (rs_box (vs := [s9, s10, s11, s12]) hS (i := 9) rfl rfl rfl rfl rfl Try.sizeOf37 rfl rfl (all1 (one_rd (hS.rdOwn 5 rfl)) (all1 (one_rd (hS.rdOwn 6 rfl)) (all1 (one_rd (hS.rdOwn 7 rfl)) (all1 (one_rd (hS.rdOwn 8 rfl)) rfl))))) (want_yes rfl) rfl ?_
    clear hS
    intro w hS
    refine ops_nil ?_
    intro a hA
    refine cw_seq ?_
    refine cw_ops hA ?_
    clear hA
    refine ops_v (rv_loadN rfl rfl Try.isAgg37 Try.sizeOf37 rfl (hS.cells 9 0 (cs' := [s9, s10, s11, s12]) rfl rfl)) (want_yes rfl) rfl rfl ?_
    obtain ⟨x5, hx5, hF⟩ := bindE hF
    refine ops_c (rc_call Try.call8 rfl rfl) (want_yes rfl) rfl rfl (c_impl_ShowMem (m := x4) (hS.rdOwn 5 rfl) (hS.rdOwn 6 rfl) (hS.rdOwn 7 rfl) (hS.rdOwn 8 rfl) hx5) ?_
    rintro _ w ⟨rfl, hk⟩
    replace hS := hS.after hk; clear hk
    refine ops_v (rv_assign rfl rfl) (want_yes rfl) rfl rfl ?_
    refine ops_nil ?_
    intro a hA
    refine cw_seq ?_
    refine cw_seq ?_
    refine cw_ops hA ?_
    clear hA
    refine ops_v (rv_move rfl rfl) (want_yes rfl) rfl rfl ?_
    refine ops_v (rv_move rfl rfl) (want_yes rfl) rfl rfl ?_
    refine ops_v (rv_neqs rfl rfl rfl) (want_yes rfl) rfl rfl ?_
    refine ops_nil ?_
    intro a hA
    refine cw_cond hA rfl (fun hc2 => ?_) (fun hc2 => ?_)
    · replace hF := iteT hc2 hF
      refine cw_seq ?_
      refine cw_ops hA ?_
      clear hA
      refine ops_v (rv_assign rfl rfl) (want_yes rfl) rfl rfl ?_
      refine ops_nil ?_
      intro a hA
      refine cw_ret ?_
      cases hF
      exact fin1 Try.results3 hA (res_tmp rfl) ⟨rfl, (hS.sel [] rfl).weaken (R' := []) (fun _ h => nomatch h)⟩
    · replace hF := iteF hc2 hF
      refine cw_skip ?_
      refine cw_seq ?_
      refine cw_seq ?_
      refine cw_any (Keeps (cxAll w0) [cBox b1 [s1, s2, s3, s4], cOwn [s5] (x2.Heap.Bytes : List Int), cOwn [s6] (x2.Heap.Class : List Int), cOwn [s7] (x2.Lists.Global : List SList), cOwn [s8] (x2.Lists.Own : List SList), cOwn [s9] (x4.Heap.Bytes : List Int), cOwn [s10] (x4.Heap.Class : List Int), cOwn [s11] (x4.Lists.Global : List SList), cOwn [s12] (x4.Lists.Own : List SList), cBox b2 [s9, s10, s11, s12]] [fRd [s1] (aM.Heap.Bytes : List Int), fRd [s2] (aM.Heap.Class : List Int), fRd [s3] (aM.Lists.Global : List SList), fRd [s4] (aM.Lists.Own : List SList)]) mixed_Try hA hS ?_
      clear hA hS; intro w hS
      have hK : Keeps (cxAll w0) [cBox b1 [s1, s2, s3, s4], cOwn [s5] (x2.Heap.Bytes : List Int), cOwn [s6] (x2.Heap.Class : List Int), cOwn [s7] (x2.Lists.Global : List SList), cOwn [s8] (x2.Lists.Own : List SList), cOwn [s9] (x4.Heap.Bytes : List Int), cOwn [s10] (x4.Heap.Class : List Int), cOwn [s11] (x4.Lists.Global : List SList), cOwn [s12] (x4.Lists.Own : List SList), cBox b2 [s9, s10, s11, s12]] [fRd [s1] (aM.Heap.Bytes : List Int), fRd [s2] (aM.Heap.Class : List Int), fRd [s3] (aM.Lists.Global : List SList), fRd [s4] (aM.Lists.Own : List SList)] w := ⟨_, (hS.sel [0, 1, 2, 3, 4, 5, 6, 7, 8, 9] rfl).selR [0, 1, 2, 3] rfl⟩
      refine any_v 0 (by kernel_rfl) rfl (by kernel_rfl) (by kernel_rfl) hK (fun w hk => by obtain ⟨_, hS⟩ := hk; exact (rv_loadN rfl rfl Try.isAgg37 Try.sizeOf37 rfl (hS.cells 9 0 (cs' := [s9, s10, s11, s12]) rfl rfl))) (want_yes rfl) rfl rfl ?_
      refine any_v 1 (by kernel_rfl) rfl (by kernel_rfl) (by kernel_rfl) hK (fun w hk => by obtain ⟨_, hS⟩ := hk; exact (rv_loadN rfl rfl Try.isAgg29 Try.sizeOf29 rfl (hS.cells 0 0 (cs' := [s1, s2, s3, s4]) rfl rfl))) (want_yes rfl) rfl rfl ?_
      refine any_1 (i := 2) (by kernel_rfl) ?_
      obtain ⟨x6, hx6, hF⟩ := bindE hF
      refine as_c rfl (rc_call Try.call7 rfl rfl) (want_yes rfl) rfl rfl (c_laws_toMem (a_ := aM) (hS.rd 0 rfl) (hS.rd 1 rfl) (hS.rd 2 rfl) (hS.rd 3 rfl) hx6) ?_
      clear hK; rintro _ w ⟨s13, s14, s15, s16, rfl, hk⟩
      replace hS := hS.after hk; clear hk
      have hK : Keeps (cxAll w0) [cBox b1 [s1, s2, s3, s4], cOwn [s5] (x2.Heap.Bytes : List Int), cOwn [s6] (x2.Heap.Class : List Int), cOwn [s7] (x2.Lists.Global : List SList), cOwn [s8] (x2.Lists.Own : List SList), cOwn [s9] (x4.Heap.Bytes : List Int), cOwn [s10] (x4.Heap.Class : List Int), cOwn [s11] (x4.Lists.Global : List SList), cOwn [s12] (x4.Lists.Own : List SList), cBox b2 [s9, s10, s11, s12]] [fRd [s1] (aM.Heap.Bytes : List Int), fRd [s2] (aM.Heap.Class : List Int), fRd [s3] (aM.Lists.Global : List SList), fRd [s4] (aM.Lists.Own : List SList)] w := ⟨_, (hS.sel [0, 1, 2, 3, 4, 5, 6, 7, 8, 9] rfl).selR [0, 1, 2, 3] rfl⟩
      refine ⟨hK, ?_⟩
      refine any_1 (i := 3) (by kernel_rfl) ?_
      obtain ⟨x7, hx7, hF⟩ := bindE hF
      refine as_c rfl (rc_call Try.call9 rfl rfl) (want_yes rfl) rfl rfl (c_laws_eqMem (a_ := x4) (b := x6) (hS.rdOwn 5 rfl) (hS.rdOwn 6 rfl) (hS.rdOwn 7 rfl) (hS.rdOwn 8 rfl) (hS.rdOwn 10 rfl) (hS.rdOwn 11 rfl) (hS.rdOwn 12 rfl) (hS.rdOwn 13 rfl) hx7) ?_
      clear hK; rintro _ w ⟨rfl, hk⟩
      replace hS := hS.after hk; clear hk
      have hK : Keeps (cxAll w0) [cBox b1 [s1, s2, s3, s4], cOwn [s5] (x2.Heap.Bytes : List Int), cOwn [s6] (x2.Heap.Class : List Int), cOwn [s7] (x2.Lists.Global : List SList), cOwn [s8] (x2.Lists.Own : List SList), cOwn [s9] (x4.Heap.Bytes : List Int), cOwn [s10] (x4.Heap.Class : List Int), cOwn [s11] (x4.Lists.Global : List SList), cOwn [s12] (x4.Lists.Own : List SList), cBox b2 [s9, s10, s11, s12]] [fRd [s1] (aM.Heap.Bytes : List Int), fRd [s2] (aM.Heap.Class : List Int), fRd [s3] (aM.Lists.Global : List SList), fRd [s4] (aM.Lists.Own : List SList)] w := ⟨_, (hS.sel [0, 1, 2, 3, 4, 5, 6, 7, 8, 9] rfl).selR [0, 1, 2, 3] rfl⟩
      refine ⟨hK, ?_⟩
      refine any_v 4 (by kernel_rfl) rfl (by kernel_rfl) (by kernel_rfl) hK (fun _ _ => (rv_not rfl rfl)) (want_yes rfl) rfl rfl ?_
      refine any_done (by kernel_rfl) ?_
      intro a hA
      refine cw_cond hA rfl (fun hc3 => ?_) (fun hc3 => ?_)
      · replace hF := iteT hc3 hF
        refine cw_seq ?_
        refine cw_ops hA ?_
        clear hA
        refine ops_v (rv_assign rfl rfl) (want_yes rfl) rfl rfl ?_
        refine ops_nil ?_
        intro a hA
        refine cw_ret ?_
        cases hF
        exact fin1 Try.results3 hA (res_tmp rfl) ⟨rfl, (hS.sel [] rfl).weaken (R' := []) (fun _ h => nomatch h)⟩
      · replace hF := iteF hc3 hF
        refine cw_skip ?_
        refine cw_seq ?_
        refine cw_ops hA ?_
        clear hA
        refine ops_v (rv_assign rfl rfl) (want_yes rfl) rfl rfl ?_
        refine ops_nil ?_
        intro a hA
        refine cw_ret ?_
        cases hF
        exact fin1 Try.results3 hA (res_tmp rfl) ⟨rfl, (hS.sel [] rfl).weaken (R' := []) (fun _ h => nomatch h)⟩

set_option maxHeartbeats 4000000 in
set_option maxRecDepth 100000 in
theorem c_spec_ReadVar {w0 : World} {s : List UInt8}  {r : Int × Int}  (hF : spec_ReadVar s = some r) :
    Calls Try.prog 89 #[sv (s)] w0 (Ret fun v w' => v = .tuple #[.int .i64 (r.1), .int .i64 (r.2)] ∧ St (cxAll w0) w' [] []) := by
  have hS : St (cxAll w0) w0 [] [] := St.enter (by
    intro f hf; cases hf)
  refine calls_cw (args := [_]) Try.func89 rfl Try.ntmps89 rfl ?_
  unfold spec_ReadVar at hF
  intro a hA
  refine cw_seq ?_
  refine cw_ops hA ?_
  clear hA
  refine ops_v (rv_assign rfl rfl) (want_yes rfl) rfl rfl ?_
  refine ops_v (rv_assign rfl rfl) (want_yes rfl) rfl rfl ?_
  refine ops_nil ?_
  intro a hA
  refine cw_seq ?_
  refine cw_seq ?_
  refine cw_ops hA ?_
  clear hA
  refine ops_v (rv_assign rfl rfl) (want_yes rfl) rfl rfl ?_
  refine ops_nil ?_
  intro a hA
  obtain ⟨o1, hl1, hF⟩ := bindE hF
  refine cw_cut (J := fun a' w' => o1 = Out.brk (()) ∧ AEnv 39 [] a' ∧ St (cxAll w0) w' [] []) ?_ ?_
  · refine cw_block ?_
    refine cw_loop (body := spec_ReadVar_l1 s) (r := o1) (fun sg a' w' => AEnv 39 [(0, sv (s)), (4, .int .i64 (sg))] a' ∧ St (cxAll w0) w' [] []) ?_ hl1 ⟨hA.part ⟨rfl, rfl, trivial⟩, ((hS).sel [] rfl).selR [] rfl⟩
    clear hA hS hl1
    rintro x2 a w q1 ⟨hA, hS⟩ hG1 hr1
    try dsimp only at hA hS
    unfold spec_ReadVar_l1 at hG1
    refine cw_seq ?_
    refine cw_seq ?_
    refine cw_cut (J := fun a' w' => ∃ (x3 : Bool), spec_ReadVar_j2 s x2 x3 = some q1 ∧ AEnv 39 [(0, sv (s)), (4, .int .i64 (x2)), (14, .bool (x3))] a' ∧ St (cxAll w0) w' [] []) ?_ ?_
    · skip
      refine cw_ops hA ?_
      clear hA
      refine ops_v (rv_move rfl rfl) (want_yes rfl) rfl rfl ?_
      refine ops_v (rv_leq rfl rfl rfl) (want_yes rfl) rfl rfl ?_
      refine ops_v (rv_move rfl rfl) (want_yes rfl) rfl rfl ?_
      refine ops_case (s := 9) rfl (fun hc4 => ?_) (fun hc4 => ?_)
      · replace hG1 := iteT hc4 hG1
        refine ops_v (rv_move rfl rfl) (want_if rfl rfl rfl (by rw [hc4]; rfl)) rfl rfl ?_
        refine ops_v (rv_move rfl rfl) (want_if rfl rfl rfl (by rw [hc4]; rfl)) rfl rfl ?_
        refine ops_v (rv_lens Try.underlying9 rfl rfl) (want_if rfl rfl rfl (by rw [hc4]; rfl)) rfl rfl ?_
        refine ops_v (rv_leq rfl rfl rfl) (want_if rfl rfl rfl (by rw [hc4]; rfl)) rfl rfl ?_
        refine ops_v (rv_pick_t rfl rfl hc4 rfl) (want_yes rfl) rfl rfl ?_
        refine ops_nil ?_
        intro a hA
        exact ⟨decide (x2 ≤ ((s.length : Int))), hG1, hA.part ⟨rfl, rfl, rfl, trivial⟩, ((hS).sel [] rfl).selR [] rfl⟩
      · replace hG1 := iteF hc4 hG1
        refine ops_off (want_if rfl rfl rfl (by rw [hc4]; rfl)) rfl rfl ?_
        refine ops_off (want_if rfl rfl rfl (by rw [hc4]; rfl)) rfl rfl ?_
        refine ops_off (want_if rfl rfl rfl (by rw [hc4]; rfl)) rfl rfl ?_
        refine ops_off (want_if rfl rfl rfl (by rw [hc4]; rfl)) rfl rfl ?_
        refine ops_v (rv_pick_f rfl rfl hc4 rfl) (want_yes rfl) rfl rfl ?_
        refine ops_nil ?_
        intro a hA
        exact ⟨false, hG1, hA.part ⟨rfl, rfl, rfl, trivial⟩, ((hS).sel [] rfl).selR [] rfl⟩
    · skip
      clear hA hS hG1
      rintro a w ⟨x3, hG1, hA, hS⟩
      unfold spec_ReadVar_j2 at hG1
      refine cw_cond hA rfl (fun hc1 => ?_) (fun hc1 => ?_)
      · replace hG1 := iteT hc1 hG1
        refine cw_skip ?_
        refine cw_seq ?_
        refine cw_block ?_
        refine cw_seq ?_
        refine cw_ops hA ?_
        clear hA
        refine ops_v (rv_assign rfl rfl) (want_yes rfl) rfl rfl ?_
        refine ops_nil ?_
        intro a hA
        refine cw_seq ?_
        refine cw_seq ?_
        refine cw_ops hA ?_
        clear hA
        refine ops_v (rv_move rfl rfl) (want_yes rfl) rfl rfl ?_
        refine ops_v (rv_sub rfl rfl rfl) (want_yes rfl) rfl rfl ?_
        refine ops_v (rv_assign rfl rfl) (want_yes rfl) rfl rfl ?_
        refine ops_nil ?_
        intro a hA
        obtain ⟨o2, hl2, hG1⟩ := bindE hG1
        refine cw_cut (J := fun a' w' => ∃ (x8 : Int), o2 = x8 ∧ AEnv 39 [(0, sv (s)), (4, .int .i64 (x2)), (5, .int .i64 (x8))] a' ∧ St (cxAll w0) w' [] []) ?_ ?_
        · refine cw_block ?_
          refine cw_loop (body := spec_ReadVar_l3 s) (r := o2) (fun sg a' w' => AEnv 39 [(0, sv (s)), (4, .int .i64 (x2)), (5, .int .i64 (sg.1)), (6, .int .i64 (sg.2))] a' ∧ St (cxAll w0) w' [] []) ?_ hl2 ⟨hA.part ⟨rfl, rfl, rfl, rfl, trivial⟩, ((hS).sel [] rfl).selR [] rfl⟩
          clear hA hS hl2
          rintro ⟨x6, x7⟩ a w q3 ⟨hA, hS⟩ hG3 hr3
          try dsimp only at hA hS
          unfold spec_ReadVar_l3 at hG3
          refine cw_seq ?_
          refine cw_seq ?_
          refine cw_ops hA ?_
          clear hA
          refine ops_v (rv_move rfl rfl) (want_yes rfl) rfl rfl ?_
          refine ops_v (rv_geq rfl rfl rfl) (want_yes rfl) rfl rfl ?_
          refine ops_nil ?_
          intro a hA
          refine cw_cond hA rfl (fun hc3 => ?_) (fun hc3 => ?_)
          · replace hG3 := iteT hc3 hG3
            refine cw_skip ?_
            refine cw_seq ?_
            refine cw_block ?_
            refine cw_ops hA ?_
            clear hA
            refine ops_v (rv_move rfl rfl) (want_yes rfl) rfl rfl ?_
            refine ops_v (rv_mul rfl rfl rfl) (want_yes rfl) rfl rfl ?_
            refine ops_v (rv_move rfl rfl) (want_yes rfl) rfl rfl ?_
            refine ops_v (rv_move rfl rfl) (want_yes rfl) rfl rfl ?_
            obtain ⟨x10, hx10, hG3⟩ := bindE hG3
            refine ops_v (rv_stri Try.underlying9 hx10 rfl rfl rfl) (want_yes rfl) rfl rfl ?_
            refine ops_v (rv_convU Try.underlying5 Try.underlying3 rfl rfl) (want_yes rfl) rfl rfl ?_
            refine ops_v (rv_rem rfl rfl rfl (by decide)) (want_yes rfl) rfl rfl ?_
            refine ops_v (rv_add rfl rfl rfl) (want_yes rfl) rfl rfl ?_
            refine ops_v (rv_assign rfl rfl) (want_yes rfl) rfl rfl ?_
            refine ops_nil ?_
            intro a hA
            refine cw_ops hA ?_
            clear hA
            refine ops_v (rv_move rfl rfl) (want_yes rfl) rfl rfl ?_
            refine ops_v (rv_sub rfl rfl rfl) (want_yes rfl) rfl rfl ?_
            refine ops_v (rv_assign rfl rfl) (want_yes rfl) rfl rfl ?_
            refine ops_nil ?_
            intro a hA
            cases hG3
            exact ⟨_, rfl, ⟨hA.part ⟨rfl, rfl, rfl, rfl, trivial⟩, ((hS).sel [] rfl).selR [] rfl⟩⟩
          · replace hG3 := iteF hc3 hG3
            refine cw_exit ?_
            refine xcons_hit ?_
            cases hG3
            have ho := hr3 _ rfl; subst ho
            exact ⟨x6, rfl, hA.part ⟨rfl, rfl, rfl, trivial⟩, ((hS).sel [] rfl).selR [] rfl⟩
        · skip
          clear hA hS hl2
          rintro a w ⟨x8, heq, hA, hS⟩
          replace hG1 : spec_ReadVar_j3 s x2 x8 = some q1 := by rw [heq] at hG1; exact hG1
          clear heq
          unfold spec_ReadVar_j3 at hG1
          refine cw_seq ?_
          refine cw_any (Keeps (cxAll w0) [] []) mixed_Try hA hS ?_
          clear hA hS; intro w hS
          have hK : Keeps (cxAll w0) [] [] w := ⟨_, (hS.sel [] rfl).selR [] rfl⟩
          refine any_v 0 (by kernel_rfl) rfl (by kernel_rfl) (by kernel_rfl) hK (fun _ _ => (rv_move rfl rfl)) (want_yes rfl) rfl rfl ?_
          refine any_v 2 (by kernel_rfl) rfl (by kernel_rfl) (by kernel_rfl) hK (fun _ _ => (rv_move rfl rfl)) (want_yes rfl) rfl rfl ?_
          refine any_v 3 (by kernel_rfl) rfl (by kernel_rfl) (by kernel_rfl) hK (fun _ _ => (rv_move rfl rfl)) (want_yes rfl) rfl rfl ?_
          obtain ⟨hn1, hG1⟩ := needE hG1
          refine any_v 4 (by kernel_rfl) rfl (by kernel_rfl) (by kernel_rfl) hK (fun _ _ => (rv_str_h Try.underlying9 hn1 rfl rfl rfl)) (want_yes rfl) rfl rfl ?_
          refine any_1 (i := 1) (by kernel_rfl) ?_
          obtain ⟨x9, hx9, hG1⟩ := bindE hG1
          refine as_c rfl (rc_call Try.call36 rfl rfl) (want_yes rfl) rfl rfl (c_spec_Var (n := x8)  hx9) ?_
          clear hK; rintro _ w ⟨rfl, hk⟩
          replace hS := hS.after hk; clear hk
          have hK : Keeps (cxAll w0) [] [] w := ⟨_, (hS.sel [] rfl).selR [] rfl⟩
          refine ⟨hK, ?_⟩
          refine any_v 5 (by kernel_rfl) rfl (by kernel_rfl) (by kernel_rfl) hK (fun _ _ => (rv_eqls rfl rfl rfl)) (want_yes rfl) rfl rfl ?_
          refine any_done (by kernel_rfl) ?_
          intro a hA
          refine cw_cond hA rfl (fun hc2 => ?_) (fun hc2 => ?_)
          · replace hG1 := iteT hc2 hG1
            refine cw_seq ?_
            refine cw_ops hA ?_
            clear hA
            refine ops_v (rv_move rfl rfl) (want_yes rfl) rfl rfl ?_
            refine ops_v (rv_move rfl rfl) (want_yes rfl) rfl rfl ?_
            refine ops_v (rv_assign rfl rfl) (want_yes rfl) rfl rfl ?_
            refine ops_v (rv_assign rfl rfl) (want_yes rfl) rfl rfl ?_
            refine ops_nil ?_
            intro a hA
            refine cw_ret ?_
            cases hG1
            have ho := hr1 _ rfl; subst ho
            replace hF : some ((x8, x2)) = some r := hF
            cases hF
            exact fin2 Try.results89 hA (res_tmp rfl) (res_tmp rfl) ⟨rfl, (hS.sel [] rfl).weaken (R' := []) (fun _ h => nomatch h)⟩
          · replace hG1 := iteF hc2 hG1
            refine cw_skip ?_
            refine cw_ops hA ?_
            clear hA
            refine ops_v (rv_move rfl rfl) (want_yes rfl) rfl rfl ?_
            refine ops_v (rv_add rfl rfl rfl) (want_yes rfl) rfl rfl ?_
            refine ops_v (rv_assign rfl rfl) (want_yes rfl) rfl rfl ?_
            refine ops_nil ?_
            intro a hA
            cases hG1
            exact ⟨_, rfl, ⟨hA.part ⟨rfl, rfl, trivial⟩, ((hS).sel [] rfl).selR [] rfl⟩⟩
      · replace hG1 := iteF hc1 hG1
        refine cw_exit ?_
        refine xcons_hit ?_
        cases hG1
        have ho := hr1 _ rfl; subst ho
        exact ⟨rfl, hA.part trivial, ((hS).sel [] rfl).selR [] rfl⟩
  · skip
    clear hA hS hl1
    rintro a w ⟨heq, hA, hS⟩
    replace hF : spec_ReadVar_j1 = some r := by rw [heq] at hF; exact hF
    clear heq
    unfold spec_ReadVar_j1 at hF
    refine cw_seq ?_
    refine cw_ops hA ?_
    clear hA
    refine ops_v (rv_assign rfl rfl) (want_yes rfl) rfl rfl ?_
    refine ops_v (rv_assign rfl rfl) (want_yes rfl) rfl rfl ?_
    refine ops_nil ?_
    intro a hA
    refine cw_ret ?_
    cases hF
    exact fin2 Try.results89 hA (res_tmp rfl) (res_tmp rfl) ⟨rfl, (hS.sel [] rfl).weaken (R' := []) (fun _ h => nomatch h)⟩

set_option maxHeartbeats 4000000 in
set_option maxRecDepth 100000 in
theorem c_spec_l30Num {w0 : World} {s : List UInt8} {at_ : Int}  {r : Int × Int}  (hF : spec_l30Num s at_ = some r) :
    Calls Try.prog 69 #[sv (s), .int .i64 (at_)] w0 (Ret fun v w' => v = .tuple #[.int .i64 (r.1), .int .i64 (r.2)] ∧ St (cxAll w0) w' [] []) := by
  have hS : St (cxAll w0) w0 [] [] := St.enter (by
    intro f hf; cases hf)
  refine calls_cw (args := [_, _]) Try.func69 rfl Try.ntmps69 rfl ?_
  unfold spec_l30Num at hF
  intro a hA
  refine cw_seq ?_
  refine cw_ops hA ?_
  clear hA
  refine ops_v (rv_assign rfl rfl) (want_yes rfl) rfl rfl ?_
  refine ops_v (rv_assign rfl rfl) (want_yes rfl) rfl rfl ?_
  refine ops_nil ?_
  intro a hA
  refine cw_seq ?_
  refine cw_seq ?_
  refine cw_ops hA ?_
  clear hA
  refine ops_v (rv_move rfl rfl) (want_yes rfl) rfl rfl ?_
  refine ops_v (rv_lss rfl rfl rfl) (want_yes rfl) rfl rfl ?_
  refine ops_nil ?_
  intro a hA
  refine cw_cond hA rfl (fun hc1 => ?_) (fun hc1 => ?_)
  · replace hF := iteT hc1 hF
    refine cw_seq ?_
    refine cw_ops hA ?_
    clear hA
    refine ops_v (rv_assign rfl rfl) (want_yes rfl) rfl rfl ?_
    refine ops_v (rv_assign rfl rfl) (want_yes rfl) rfl rfl ?_
    refine ops_nil ?_
    intro a hA
    refine cw_ret ?_
    cases hF
    exact fin2 Try.results69 hA (res_tmp rfl) (res_tmp rfl) ⟨rfl, (hS.sel [] rfl).weaken (R' := []) (fun _ h => nomatch h)⟩
  · replace hF := iteF hc1 hF
    refine cw_skip ?_
    refine cw_seq ?_
    refine cw_ops hA ?_
    clear hA
    refine ops_v (rv_move rfl rfl) (want_yes rfl) rfl rfl ?_
    refine ops_v (rv_move rfl rfl) (want_yes rfl) rfl rfl ?_
    obtain ⟨hn1, hF⟩ := needE hF
    refine ops_v (rv_str_l Try.underlying9 hn1 rfl rfl rfl) (want_yes rfl) rfl rfl ?_
    obtain ⟨x1, hx1, hF⟩ := bindE hF
    refine ops_c (rc_call Try.call89 rfl rfl) (want_yes rfl) rfl rfl (c_spec_ReadVar (s := s.drop (at_.toNat))  hx1) ?_
    rintro _ w ⟨rfl, hk⟩
    replace hS := hS.after hk; clear hk
    refine ops_v (rv_move rfl rfl) (want_yes rfl) rfl rfl ?_
    refine ops_v (rv_extract rfl rfl rfl) (want_yes rfl) rfl rfl ?_
    refine ops_v (rv_extract rfl rfl rfl) (want_yes rfl) rfl rfl ?_
    refine ops_v (rv_assign rfl rfl) (want_yes rfl) rfl rfl ?_
    refine ops_v (rv_assign rfl rfl) (want_yes rfl) rfl rfl ?_
    refine ops_nil ?_
    intro a hA
    refine cw_seq ?_
    refine cw_seq ?_
    refine cw_ops hA ?_
    clear hA
    refine ops_v (rv_move rfl rfl) (want_yes rfl) rfl rfl ?_
    refine ops_v (rv_eql rfl rfl rfl) (want_yes rfl) rfl rfl ?_
    refine ops_nil ?_
    intro a hA
    refine cw_cond hA rfl (fun hc2 => ?_) (fun hc2 => ?_)
    · replace hF := iteT hc2 hF
      refine cw_seq ?_
      refine cw_ops hA ?_
      clear hA
      refine ops_v (rv_assign rfl rfl) (want_yes rfl) rfl rfl ?_
      refine ops_v (rv_assign rfl rfl) (want_yes rfl) rfl rfl ?_
      refine ops_nil ?_
      intro a hA
      refine cw_ret ?_
      cases hF
      exact fin2 Try.results69 hA (res_tmp rfl) (res_tmp rfl) ⟨rfl, (hS.sel [] rfl).weaken (R' := []) (fun _ h => nomatch h)⟩
    · replace hF := iteF hc2 hF
      refine cw_skip ?_
      refine cw_seq ?_
      refine cw_ops hA ?_
      clear hA
      refine ops_v (rv_move rfl rfl) (want_yes rfl) rfl rfl ?_
      refine ops_v (rv_move rfl rfl) (want_yes rfl) rfl rfl ?_
      refine ops_v (rv_move rfl rfl) (want_yes rfl) rfl rfl ?_
      refine ops_v (rv_add rfl rfl rfl) (want_yes rfl) rfl rfl ?_
      refine ops_v (rv_assign rfl rfl) (want_yes rfl) rfl rfl ?_
      refine ops_v (rv_assign rfl rfl) (want_yes rfl) rfl rfl ?_
      refine ops_nil ?_
      intro a hA
      refine cw_ret ?_
      cases hF
      exact fin2 Try.results69 hA (res_tmp rfl) (res_tmp rfl) ⟨rfl, (hS.sel [] rfl).weaken (R' := []) (fun _ h => nomatch h)⟩

set_option maxHeartbeats 4000000 in
set_option maxRecDepth 100000 in
theorem c_spec_l30Lists {w0 : World} {s : List UInt8} {at_ : Int} {n : Int}  {r : (List SList) × Int}  (hF : spec_l30Lists s at_ n = some r) :
    Calls Try.prog 45 #[sv (s), .int .i64 (at_), .int .i64 (n)] w0 (Ret fun v w' => ∃ (s0_0 : Value), v = .tuple #[s0_0, .int .i64 (r.2)] ∧ St (cxAll w0) w' [cOwn [s0_0] (r.1 : List SList)] []) := by
  have hS : St (cxAll w0) w0 [] [] := St.enter (by
    intro f hf; cases hf)
  refine calls_cw (args := [_, _, _]) Try.func45 rfl Try.ntmps45 rfl ?_
  unfold spec_l30Lists at hF
  intro a hA
  refine cw_seq ?_
  refine cw_ops hA ?_
  clear hA
  refine ops_v (rv_assign rfl rfl) (want_yes rfl) rfl rfl ?_
  refine ops_v (rv_assign rfl rfl) (want_yes rfl) rfl rfl ?_
  refine ops_nil ?_
  intro a hA
  refine cw_seq ?_
  refine cw_ops hA ?_
  clear hA
  refine ops_mv (rv_lit0 (α := SList) hS rfl Try.underlying33 inf_Try53 rfl) (want_yes rfl) rfl rfl ?_
  clear hS
  rintro s1 w hS
  refine ops_v (rv_assign rfl rfl) (want_yes rfl) rfl rfl ?_
  refine ops_nil ?_
  intro a hA
  refine cw_seq ?_
  refine cw_seq ?_
  refine cw_ops hA ?_
  clear hA
  refine ops_v (rv_assign rfl rfl) (want_yes rfl) rfl rfl ?_
  refine ops_nil ?_
  intro a hA
  obtain ⟨o1, hl1, hF⟩ := bindE hF
  refine cw_cut (J := fun a' w' => ∃ (x7 : Int) (x8 : List SList) (s4 : Value), o1 = (x7, x8) ∧ AEnv 58 [(1, .int .i64 (x7)), (8, s4)] a' ∧ St (cxAll w0) w' [cOwn [s4] (x8 : List SList)] []) ?_ ?_
  · refine cw_block ?_
    refine cw_loop (body := spec_l30Lists_l1 s n) (r := o1) (fun sg a' w' => ∃ (s3 : Value), AEnv 58 [(0, sv (s)), (1, .int .i64 (sg.1)), (2, .int .i64 (n)), (8, s3), (9, .int .i64 (sg.2.2))] a' ∧ St (cxAll w0) w' [cOwn [s3] (sg.2.1 : List SList)] []) ?_ hl1 ⟨s1, hA.part ⟨rfl, rfl, rfl, rfl, rfl, trivial⟩, ((hS).sel [0] rfl).selR [] rfl⟩
    clear hA hS hl1
    rintro ⟨x4, x5, x6⟩ a w q1 ⟨s3, hA, hS⟩ hG1 hr1
    try dsimp only at hA hS
    unfold spec_l30Lists_l1 at hG1
    refine cw_seq ?_
    refine cw_seq ?_
    refine cw_ops hA ?_
    clear hA
    refine ops_v (rv_move rfl rfl) (want_yes rfl) rfl rfl ?_
    refine ops_v (rv_move rfl rfl) (want_yes rfl) rfl rfl ?_
    refine ops_v (rv_lss rfl rfl rfl) (want_yes rfl) rfl rfl ?_
    refine ops_nil ?_
    intro a hA
    refine cw_cond hA rfl (fun hc1 => ?_) (fun hc1 => ?_)
    · replace hG1 := iteT hc1 hG1
      refine cw_skip ?_
      refine cw_seq ?_
      refine cw_block ?_
      refine cw_seq ?_
      refine cw_ops hA ?_
      clear hA
      refine ops_v (rv_build (cells := #[(.slice none 0 0)]) rfl Try.zeroValue53 Try.underlying53 (by have h := places_Try53; rw [Try.underlying53] at h; exact h) rfl rfl) (want_yes rfl) rfl rfl ?_
      refine ops_mv (rv_alloc (cs := [(.slice none 0 0)]) hS rfl Try.zeroValue53 rfl) (want_yes rfl) rfl rfl ?_
      clear hS
      rintro _ w ⟨b1, rfl, hS⟩
      refine ops_ms (rs_box (vs := [(.slice none 0 0)]) hS (i := 1) rfl rfl rfl rfl rfl Try.sizeOf53 rfl rfl rfl) (want_yes rfl) rfl ?_
      clear hS
      intro w hS
      refine ops_nil ?_
      intro a hA
      refine cw_seq ?_
      refine cw_ops hA ?_
      clear hA
      refine ops_v (rv_move rfl rfl) (want_yes rfl) rfl rfl ?_
      refine ops_v (rv_move rfl rfl) (want_yes rfl) rfl rfl ?_
      obtain ⟨x9, hx9, hG1⟩ := bindE hG1
      refine ops_c (rc_call Try.call69 rfl rfl) (want_yes rfl) rfl rfl (c_spec_l30Num (s := s) (at_ := x4)  hx9) ?_
      rintro _ w ⟨rfl, hk⟩
      replace hS := hS.after hk; clear hk
      refine ops_v (rv_move rfl rfl) (want_yes rfl) rfl rfl ?_
      refine ops_v (rv_extract rfl rfl rfl) (want_yes rfl) rfl rfl ?_
      refine ops_v (rv_extract rfl rfl rfl) (want_yes rfl) rfl rfl ?_
      refine ops_v (rv_assign rfl rfl) (want_yes rfl) rfl rfl ?_
      refine ops_v (rv_assign rfl rfl) (want_yes rfl) rfl rfl ?_
      refine ops_nil ?_
      intro a hA
      refine cw_seq ?_
      refine cw_ops hA ?_
      clear hA
      refine ops_v (rv_move rfl rfl) (want_yes rfl) rfl rfl ?_
      refine ops_v (rv_assign rfl rfl) (want_yes rfl) rfl rfl ?_
      refine ops_nil ?_
      intro a hA
      refine cw_seq ?_
      refine cw_seq ?_
      refine cw_ops hA ?_
      clear hA
      refine ops_v (rv_assign rfl rfl) (want_yes rfl) rfl rfl ?_
      refine ops_nil ?_
      intro a hA
      obtain ⟨o2, hl2, hG1⟩ := bindE hG1
      refine cw_cut (J := fun a' w' => ∃ (x16 : Int) (x17 : List Int) (s7 : Value), o2 = (x16, x17) ∧ AEnv 58 [(0, sv (s)), (1, .int .i64 (x16)), (2, .int .i64 (n)), (8, s3), (9, .int .i64 (x6)), (10, .pointer (some ⟨b1, 0, none⟩))] a' ∧ St (cxAll w0) w' [cOwn [s3] (x5 : List SList), cOwn [s7] (x17 : List Int), cBox b1 [s7]] []) ?_ ?_
      · refine cw_block ?_
        refine cw_loop (body := spec_l30Lists_l2 s x9) (r := o2) (fun sg a' w' => ∃ (s6 : Value), AEnv 58 [(0, sv (s)), (1, .int .i64 (sg.1)), (2, .int .i64 (n)), (8, s3), (9, .int .i64 (x6)), (10, .pointer (some ⟨b1, 0, none⟩)), (11, .int .i64 (x9.1)), (13, .int .i64 (sg.2.1))] a' ∧ St (cxAll w0) w' [cOwn [s3] (x5 : List SList), cOwn [s6] (sg.2.2 : List Int), cBox b1 [s6]] []) ?_ hl2 ⟨(.slice none 0 0), hA.part ⟨rfl, rfl, rfl, rfl, rfl, rfl, rfl, rfl, trivial⟩, (((hS).nilOwn (α := Int)).sel [0, 2, 1] rfl).selR [] rfl⟩
        clear hA hS hl2
        rintro ⟨x13, x14, x15⟩ a w q2 ⟨s6, hA, hS⟩ hG2 hr2
        try dsimp only at hA hS
        unfold spec_l30Lists_l2 at hG2
        refine cw_seq ?_
        refine cw_seq ?_
        refine cw_cut (J := fun a' w' => ∃ (x18 : Bool), spec_l30Lists_j3 s x13 x14 x15 x18 = some q2 ∧ AEnv 58 [(0, sv (s)), (1, .int .i64 (x13)), (2, .int .i64 (n)), (8, s3), (9, .int .i64 (x6)), (10, .pointer (some ⟨b1, 0, none⟩)), (11, .int .i64 (x9.1)), (13, .int .i64 (x14)), (36, .bool (x18))] a' ∧ St (cxAll w0) w' [cOwn [s3] (x5 : List SList), cOwn [s6] (x15 : List Int), cBox b1 [s6]] []) ?_ ?_
        · skip
          refine cw_ops hA ?_
          clear hA
          refine ops_v (rv_move rfl rfl) (want_yes rfl) rfl rfl ?_
          refine ops_v (rv_move rfl rfl) (want_yes rfl) rfl rfl ?_
          refine ops_v (rv_lss rfl rfl rfl) (want_yes rfl) rfl rfl ?_
          refine ops_v (rv_move rfl rfl) (want_yes rfl) rfl rfl ?_
          refine ops_case (s := 33) rfl (fun hc3 => ?_) (fun hc3 => ?_)
          · replace hG2 := iteT hc3 hG2
            refine ops_v (rv_move rfl rfl) (want_if rfl rfl rfl (by rw [hc3]; rfl)) rfl rfl ?_
            refine ops_v (rv_lss rfl rfl rfl) (want_if rfl rfl rfl (by rw [hc3]; rfl)) rfl rfl ?_
            refine ops_v (rv_pick_t rfl rfl hc3 rfl) (want_yes rfl) rfl rfl ?_
            refine ops_nil ?_
            intro a hA
            exact ⟨decide (x14 < 24), hG2, hA.part ⟨rfl, rfl, rfl, rfl, rfl, rfl, rfl, rfl, rfl, trivial⟩, ((hS).sel [0, 1, 2] rfl).selR [] rfl⟩
          · replace hG2 := iteF hc3 hG2
            refine ops_off (want_if rfl rfl rfl (by rw [hc3]; rfl)) rfl rfl ?_
            refine ops_off (want_if rfl rfl rfl (by rw [hc3]; rfl)) rfl rfl ?_
            refine ops_v (rv_pick_f rfl rfl hc3 rfl) (want_yes rfl) rfl rfl ?_
            refine ops_nil ?_
            intro a hA
            exact ⟨false, hG2, hA.part ⟨rfl, rfl, rfl, rfl, rfl, rfl, rfl, rfl, rfl, trivial⟩, ((hS).sel [0, 1, 2] rfl).selR [] rfl⟩
        · skip
          clear hA hS hG2
          rintro a w ⟨x18, hG2, hA, hS⟩
          unfold spec_l30Lists_j3 at hG2
          refine cw_cond hA rfl (fun hc2 => ?_) (fun hc2 => ?_)
          · replace hG2 := iteT hc2 hG2
            refine cw_skip ?_
            refine cw_seq ?_
            refine cw_block ?_
            refine cw_seq ?_
            refine cw_ops hA ?_
            clear hA
            refine ops_v (rv_move rfl rfl) (want_yes rfl) rfl rfl ?_
            refine ops_v (rv_move rfl rfl) (want_yes rfl) rfl rfl ?_
            obtain ⟨x19, hx19, hG2⟩ := bindE hG2
            refine ops_c (rc_call Try.call69 rfl rfl) (want_yes rfl) rfl rfl (c_spec_l30Num (s := s) (at_ := x13)  hx19) ?_
            rintro _ w ⟨rfl, hk⟩
            replace hS := hS.after hk; clear hk
            refine ops_v (rv_move rfl rfl) (want_yes rfl) rfl rfl ?_
            refine ops_v (rv_extract rfl rfl rfl) (want_yes rfl) rfl rfl ?_
            refine ops_v (rv_extract rfl rfl rfl) (want_yes rfl) rfl rfl ?_
            refine ops_v (rv_assign rfl rfl) (want_yes rfl) rfl rfl ?_
            refine ops_v (rv_assign rfl rfl) (want_yes rfl) rfl rfl ?_
            refine ops_nil ?_
            intro a hA
            refine cw_seq ?_
            refine cw_ops hA ?_
            clear hA
            refine ops_v (rv_fld (m := 0) Try.underlying53 rfl rfl Try.sizeOf22 rfl rfl) (want_yes rfl) rfl rfl ?_
            refine ops_v (rv_load1 rfl rfl Try.isAgg22 (hS.cell 2 rfl rfl)) (want_yes rfl) rfl rfl ?_
            refine ops_v (rv_move rfl rfl) (want_yes rfl) rfl rfl ?_
            refine ops_mv (rv_lit1 (x19.1 : Int) hS rfl Try.underlying22 inf_Try3 rfl rfl rfl rfl) (want_yes rfl) rfl rfl ?_
            clear hS
            rintro s10 w hS
            obtain ⟨hn2, hG2⟩ := needE hG2
            refine ops_mv (rv_append (α := Int) 1 hS rfl (hS.rdOwn 3 rfl) rfl Try.underlying22 inf_Try3 rfl hn2 rfl rfl rfl) (want_yes rfl) rfl rfl ?_
            clear hS
            rintro s11 w hS
            refine ops_v (rv_fld (m := 0) Try.underlying53 rfl rfl Try.sizeOf22 rfl rfl) (want_yes rfl) rfl rfl ?_
            refine ops_ms (rs_box (vs := [s11]) hS (i := 2) rfl rfl rfl rfl (cells_rd (hS.rdOwn 1 rfl)) Try.sizeOf22 rfl rfl (all1 (one_rd (hS.rdOwn 1 rfl)) rfl)) (want_yes rfl) rfl ?_
            clear hS
            intro w hS
            refine ops_nil ?_
            intro a hA
            refine cw_ops hA ?_
            clear hA
            refine ops_v (rv_move rfl rfl) (want_yes rfl) rfl rfl ?_
            refine ops_v (rv_assign rfl rfl) (want_yes rfl) rfl rfl ?_
            refine ops_nil ?_
            intro a hA
            refine cw_ops hA ?_
            clear hA
            refine ops_v (rv_move rfl rfl) (want_yes rfl) rfl rfl ?_
            refine ops_v (rv_add rfl rfl rfl) (want_yes rfl) rfl rfl ?_
            refine ops_v (rv_assign rfl rfl) (want_yes rfl) rfl rfl ?_
            refine ops_nil ?_
            intro a hA
            cases hG2
            exact ⟨_, rfl, ⟨s11, hA.part ⟨rfl, rfl, rfl, rfl, rfl, rfl, rfl, rfl, trivial⟩, ((hS).sel [0, 1, 2] rfl).selR [] rfl⟩⟩
          · replace hG2 := iteF hc2 hG2
            refine cw_exit ?_
            refine xcons_hit ?_
            cases hG2
            have ho := hr2 _ rfl; subst ho
            exact ⟨x13, x15, s6, rfl, hA.part ⟨rfl, rfl, rfl, rfl, rfl, rfl, trivial⟩, ((hS).sel [0, 1, 2] rfl).selR [] rfl⟩
      · skip
        clear hA hS hl2
        rintro a w ⟨x16, x17, s7, heq, hA, hS⟩
        replace hG1 : spec_l30Lists_j2 x5 x6 x16 x17 = some q1 := by rw [heq] at hG1; exact hG1
        clear heq
        unfold spec_l30Lists_j2 at hG1
        refine cw_ops hA ?_
        clear hA
        refine ops_v (rv_move rfl rfl) (want_yes rfl) rfl rfl ?_
        refine ops_v (rv_loadN rfl rfl Try.isAgg53 Try.sizeOf53 rfl (hS.cells 2 0 (cs' := [s7]) rfl rfl)) (want_yes rfl) rfl rfl ?_
        replace hS := hS.pack [1] rfl rfl (op_SList ((⟨x17⟩ : SList)))
        refine ops_mv (rv_litN1 ((⟨x17⟩ : SList) : SList) hS [3] rfl ⟨_, rfl, rfl, ⟨rfl, rfl⟩⟩ rfl Try.underlying33 inf_Try53 rfl rfl rfl) (want_yes rfl) rfl rfl ?_
        clear hS
        rintro s8 w hS
        obtain ⟨hn1, hG1⟩ := needE hG1
        refine ops_mv (rv_appN (α := SList) [0, 4] hS rfl rfl rfl Try.underlying33 inf_Try53 rfl hn1 rfl rfl rfl) (want_yes rfl) rfl rfl ?_
        clear hS
        rintro s9 w hS
        refine ops_v (rv_assign rfl rfl) (want_yes rfl) rfl rfl ?_
        refine ops_nil ?_
        intro a hA
        refine cw_ops hA ?_
        clear hA
        refine ops_v (rv_move rfl rfl) (want_yes rfl) rfl rfl ?_
        refine ops_v (rv_add rfl rfl rfl) (want_yes rfl) rfl rfl ?_
        refine ops_v (rv_assign rfl rfl) (want_yes rfl) rfl rfl ?_
        refine ops_nil ?_
        intro a hA
        cases hG1
        exact ⟨_, rfl, ⟨s9, hA.part ⟨rfl, rfl, rfl, rfl, rfl, trivial⟩, ((hS).sel [5] rfl).selR [] rfl⟩⟩
    · replace hG1 := iteF hc1 hG1
      refine cw_exit ?_
      refine xcons_hit ?_
      cases hG1
      have ho := hr1 _ rfl; subst ho
      exact ⟨x4, x5, s3, rfl, hA.part ⟨rfl, rfl, trivial⟩, ((hS).sel [0] rfl).selR [] rfl⟩
  · skip
    clear hA hS hl1
    rintro a w ⟨x7, x8, s4, heq, hA, hS⟩
    replace hF : spec_l30Lists_j1 x7 x8 = some r := by rw [heq] at hF; exact hF
    clear heq
    unfold spec_l30Lists_j1 at hF
    refine cw_seq ?_
    refine cw_ops hA ?_
    clear hA
    refine ops_v (rv_move rfl rfl) (want_yes rfl) rfl rfl ?_
    refine ops_v (rv_move rfl rfl) (want_yes rfl) rfl rfl ?_
    refine ops_v (rv_assign rfl rfl) (want_yes rfl) rfl rfl ?_
    refine ops_v (rv_assign rfl rfl) (want_yes rfl) rfl rfl ?_
    refine ops_nil ?_
    intro a hA
    refine cw_ret ?_
    cases hF
    exact fin2 Try.results45 hA (res_tmp rfl) (res_tmp rfl) ⟨s4, rfl, (hS.sel [0] rfl).weaken (R' := []) (fun _ h => nomatch h)⟩

set_option maxHeartbeats 4000000 in
set_option maxRecDepth 100000 in
theorem c_spec_l30Mem {w0 : World} {s : List UInt8}  {r : Mem × Int}  (hF : spec_l30Mem s = some r) :
    Calls Try.prog 24 #[sv (s)] w0 (Ret fun v w' => ∃ (s0_0 : Value) (s0_1 : Value) (s0_2 : Value) (s0_3 : Value), v = .tuple #[.agg #[s0_0, s0_1, s0_2, s0_3], .int .i64 (r.2)] ∧ St (cxAll w0) w' [cOwn [s0_0] (r.1.Heap.Bytes : List Int), cOwn [s0_1] (r.1.Heap.Class : List Int), cOwn [s0_2] (r.1.Lists.Global : List SList), cOwn [s0_3] (r.1.Lists.Own : List SList)] []) := by
  have hS : St (cxAll w0) w0 [] [] := St.enter (by
    intro f hf; cases hf)
  refine calls_cw (args := [_]) Try.func24 rfl Try.ntmps24 rfl ?_
  unfold spec_l30Mem at hF
  intro a hA
  refine cw_seq ?_
  refine cw_ops hA ?_
  clear hA
  refine ops_mv (rv_alloc (cs := [(.slice none 0 0), (.slice none 0 0), (.slice none 0 0), (.slice none 0 0)]) hS rfl Try.zeroValue37 rfl) (want_yes rfl) rfl rfl ?_
  clear hS
  rintro _ w ⟨b1, rfl, hS⟩
  refine ops_v (rv_assign rfl rfl) (want_yes rfl) rfl rfl ?_
  refine ops_nil ?_
  intro a hA
  refine cw_seq ?_
  refine cw_ops hA ?_
  clear hA
  refine ops_v (rv_build (cells := #[(.slice none 0 0), (.slice none 0 0), (.slice none 0 0), (.slice none 0 0)]) rfl Try.zeroValue37 Try.underlying37 (by have h := places_Try37; rw [Try.underlying37] at h; exact h) rfl rfl) (want_yes rfl) rfl rfl ?_
  refine ops_mv (rv_alloc (cs := [(.slice none 0 0), (.slice none 0 0), (.slice none 0 0), (.slice none 0 0)]) hS rfl Try.zeroValue37 rfl) (want_yes rfl) rfl rfl ?_
  clear hS
  rintro _ w ⟨b2, rfl, hS⟩
  refine ops_ms (rs_box (vs := [(.slice none 0 0), (.slice none 0 0), (.slice none 0 0), (.slice none 0 0)]) hS (i := 1) rfl rfl rfl rfl rfl Try.sizeOf37 rfl rfl rfl) (want_yes rfl) rfl ?_
  clear hS
  intro w hS
  refine ops_nil ?_
  intro a hA
  refine cw_seq ?_
  refine cw_seq ?_
  refine cw_ops hA ?_
  clear hA
  refine ops_v (rv_move rfl rfl) (want_yes rfl) rfl rfl ?_
  refine ops_v (rv_lens Try.underlying9 rfl rfl) (want_yes rfl) rfl rfl ?_
  refine ops_v (rv_lss rfl rfl rfl) (want_yes rfl) rfl rfl ?_
  refine ops_nil ?_
  intro a hA
  refine cw_cond hA rfl (fun hc1 => ?_) (fun hc1 => ?_)
  · replace hF := iteT hc1 hF
    refine cw_seq ?_
    refine cw_ops hA ?_
    clear hA
    refine ops_v (rv_loadN rfl rfl Try.isAgg37 Try.sizeOf37 rfl (hS.cells 1 0 (cs' := [(.slice none 0 0), (.slice none 0 0), (.slice none 0 0), (.slice none 0 0)]) rfl rfl)) (want_yes rfl) rfl rfl ?_
    refine ops_ms (rs_box (vs := [(.slice none 0 0), (.slice none 0 0), (.slice none 0 0), (.slice none 0 0)]) hS (i := 0) rfl rfl rfl rfl rfl Try.sizeOf37 rfl rfl rfl) (want_yes rfl) rfl ?_
    clear hS
    intro w hS
    refine ops_v (rv_assign rfl rfl) (want_yes rfl) rfl rfl ?_
    refine ops_nil ?_
    intro a hA
    refine cw_ret ?_
    replace hS := hS.nilOwn (α := Int)
    replace hS := hS.nilOwn (α := Int)
    replace hS := hS.nilOwn (α := SList)
    replace hS := hS.nilOwn (α := SList)
    cases hF
    exact fin2 Try.results24 hA (res_cell rfl Try.isAgg37 Try.sizeOf37 rfl (hS.cells 0 0 (cs' := [(.slice none 0 0), (.slice none 0 0), (.slice none 0 0), (.slice none 0 0)]) rfl rfl)) (res_tmp rfl) ⟨(.slice none 0 0), (.slice none 0 0), (.slice none 0 0), (.slice none 0 0), rfl, (hS.sel [2, 3, 4, 5] rfl).weaken (R' := []) (fun _ h => nomatch h)⟩
  · replace hF := iteF hc1 hF
    refine cw_skip ?_
    refine cw_seq ?_
    refine cw_seq ?_
    refine cw_ops hA ?_
    clear hA
    refine ops_v (rv_assign rfl rfl) (want_yes rfl) rfl rfl ?_
    refine ops_nil ?_
    intro a hA
    obtain ⟨o1, hl1, hF⟩ := bindE hF
    refine cw_cut (J := fun a' w' => ∃ (x5 : List Int) (s3 : Value), o1 = x5 ∧ AEnv 63 [(0, sv (s)), (2, .pointer (some ⟨b1, 0, none⟩)), (4, .pointer (some ⟨b2, 0, none⟩))] a' ∧ St (cxAll w0) w' [cBox b1 [(.slice none 0 0), (.slice none 0 0), (.slice none 0 0), (.slice none 0 0)], cOwn [s3] (x5 : List Int), cBox b2 [s3, (.slice none 0 0), (.slice none 0 0), (.slice none 0 0)]] []) ?_ ?_
    · refine cw_block ?_
      refine cw_loop (body := spec_l30Mem_l1 s) (r := o1) (fun sg a' w' => ∃ (s2 : Value), AEnv 63 [(0, sv (s)), (2, .pointer (some ⟨b1, 0, none⟩)), (4, .pointer (some ⟨b2, 0, none⟩)), (5, .int .i64 (sg.1))] a' ∧ St (cxAll w0) w' [cBox b1 [(.slice none 0 0), (.slice none 0 0), (.slice none 0 0), (.slice none 0 0)], cOwn [s2] (sg.2 : List Int), cBox b2 [s2, (.slice none 0 0), (.slice none 0 0), (.slice none 0 0)]] []) ?_ hl1 ⟨(.slice none 0 0), hA.part ⟨rfl, rfl, rfl, rfl, trivial⟩, (((hS).nilOwn (α := Int)).sel [0, 2, 1] rfl).selR [] rfl⟩
      clear hA hS hl1
      rintro ⟨x3, x4⟩ a w q1 ⟨s2, hA, hS⟩ hG1 hr1
      try dsimp only at hA hS
      unfold spec_l30Mem_l1 at hG1
      refine cw_seq ?_
      refine cw_seq ?_
      refine cw_ops hA ?_
      clear hA
      refine ops_v (rv_move rfl rfl) (want_yes rfl) rfl rfl ?_
      refine ops_v (rv_lss rfl rfl rfl) (want_yes rfl) rfl rfl ?_
      refine ops_nil ?_
      intro a hA
      refine cw_cond hA rfl (fun hc3 => ?_) (fun hc3 => ?_)
      · replace hG1 := iteT hc3 hG1
        refine cw_skip ?_
        refine cw_seq ?_
        refine cw_cut (J := fun a' w' => ∃ (x15 : List Int) (s12 : Value), spec_l30Mem_j4 x3 x15 = some q1 ∧ AEnv 63 [(0, sv (s)), (2, .pointer (some ⟨b1, 0, none⟩)), (4, .pointer (some ⟨b2, 0, none⟩)), (5, .int .i64 (x3))] a' ∧ St (cxAll w0) w' [cBox b1 [(.slice none 0 0), (.slice none 0 0), (.slice none 0 0), (.slice none 0 0)], cOwn [s12] (x15 : List Int), cBox b2 [s12, (.slice none 0 0), (.slice none 0 0), (.slice none 0 0)]] []) ?_ ?_
        · skip
          refine cw_block ?_
          refine cw_any (Keeps (cxAll w0) [cBox b1 [(.slice none 0 0), (.slice none 0 0), (.slice none 0 0), (.slice none 0 0)], cNo, cNo] []) mixed_Try hA hS ?_
          clear hA hS; intro w hS
          have hK : Keeps (cxAll w0) [cBox b1 [(.slice none 0 0), (.slice none 0 0), (.slice none 0 0), (.slice none 0 0)], cNo, cNo] [] w := ⟨_, (hS.sel [0, 900001, 900002] rfl).selR [] rfl⟩
          refine any_v 0 (by kernel_rfl) rfl (by kernel_rfl) (by kernel_rfl) hK (fun _ _ => (rv_fld (m := 1) Try.underlying37 rfl rfl Try.sizeOf32 rfl rfl)) (want_yes rfl) rfl rfl ?_
          refine any_v 1 (by kernel_rfl) rfl (by kernel_rfl) (by kernel_rfl) hK (fun _ _ => (rv_fld (m := 0) Try.underlying32 rfl rfl Try.sizeOf22 rfl rfl)) (want_yes rfl) rfl rfl ?_
          refine any_v 3 (by kernel_rfl) rfl (by kernel_rfl) (by kernel_rfl) hK (fun _ _ => (rv_move rfl rfl)) (want_yes rfl) rfl rfl ?_
          refine any_v 4 (by kernel_rfl) rfl (by kernel_rfl) (by kernel_rfl) hK (fun _ _ => (rv_move rfl rfl)) (want_yes rfl) rfl rfl ?_
          obtain ⟨x16, hx16, hG1⟩ := bindE hG1
          refine any_v 5 (by kernel_rfl) rfl (by kernel_rfl) (by kernel_rfl) hK (fun _ _ => (rv_stri Try.underlying9 hx16 rfl rfl rfl)) (want_yes rfl) rfl rfl ?_
          refine any_v 6 (by kernel_rfl) rfl (by kernel_rfl) (by kernel_rfl) hK (fun _ _ => (rv_convU Try.underlying5 Try.underlying3 rfl rfl)) (want_yes rfl) rfl rfl ?_
          obtain ⟨hn2, hG1⟩ := needE hG1
          refine any_2 (i := 2) (j := 7) (by kernel_rfl) ?_ ?_
          · skip
            refine as_v rfl (rv_load1 rfl rfl Try.isAgg22 (hS.cell 2 rfl rfl)) (want_yes rfl) rfl rfl hK ?_
            refine any_1 (i := 7) (by kernel_rfl) ?_
            refine as_mv rfl (rv_lit1 ((x16.toNat : Int) : Int) hS rfl Try.underlying22 inf_Try3 rfl rfl rfl rfl) (want_yes rfl) rfl rfl ?_
            clear hS
            clear hK; rintro s13 w hS
            have hK : Keeps (cxAll w0) [cBox b1 [(.slice none 0 0), (.slice none 0 0), (.slice none 0 0), (.slice none 0 0)], cNo, cNo] [] w := ⟨_, (hS.sel [0, 900001, 900002] rfl).selR [] rfl⟩
            refine ⟨hK, ?_⟩
            refine any_1 (i := 8) (by kernel_rfl) ?_
            refine as_mv rfl (rv_append (α := Int) 1 hS rfl (hS.rdOwn 3 rfl) rfl Try.underlying22 inf_Try3 rfl hn2 rfl rfl rfl) (want_yes rfl) rfl rfl ?_
            clear hS
            clear hK; rintro s14 w hS
            have hK : Keeps (cxAll w0) [cBox b1 [(.slice none 0 0), (.slice none 0 0), (.slice none 0 0), (.slice none 0 0)], cNo, cNo] [] w := ⟨_, (hS.sel [0, 900001, 900002] rfl).selR [] rfl⟩
            refine ⟨hK, ?_⟩
            refine any_v 9 (by kernel_rfl) rfl (by kernel_rfl) (by kernel_rfl) hK (fun _ _ => (rv_fld (m := 1) Try.underlying37 rfl rfl Try.sizeOf32 rfl rfl)) (want_yes rfl) rfl rfl ?_
            refine any_v 10 (by kernel_rfl) rfl (by kernel_rfl) (by kernel_rfl) hK (fun _ _ => (rv_fld (m := 0) Try.underlying32 rfl rfl Try.sizeOf22 rfl rfl)) (want_yes rfl) rfl rfl ?_
            refine any_1 (i := 11) (by kernel_rfl) ?_
            refine as_ms rfl (rs_box (vs := [s14]) hS (i := 2) rfl rfl rfl rfl (cells_rd (hS.rdOwn 1 rfl)) Try.sizeOf22 rfl rfl (all1 (one_rd (hS.rdOwn 1 rfl)) rfl)) (want_yes rfl) rfl ?_
            clear hS
            clear hK; intro w hS
            have hK : Keeps (cxAll w0) [cBox b1 [(.slice none 0 0), (.slice none 0 0), (.slice none 0 0), (.slice none 0 0)], cNo, cNo] [] w := ⟨_, (hS.sel [0, 900001, 900002] rfl).selR [] rfl⟩
            refine ⟨hK, ?_⟩
            refine any_done (by kernel_rfl) ?_
            intro a hA
            exact ⟨x4 ++ ([(x16.toNat : Int)]), s14, hG1, hA.part ⟨rfl, rfl, rfl, rfl, trivial⟩, ((hS).sel [0, 1, 2] rfl).selR [] rfl⟩
          · skip
            refine as_mv rfl (rv_lit1 ((x16.toNat : Int) : Int) hS rfl Try.underlying22 inf_Try3 rfl rfl rfl rfl) (want_yes rfl) rfl rfl ?_
            clear hS
            clear hK; rintro s13 w hS
            have hK : Keeps (cxAll w0) [cBox b1 [(.slice none 0 0), (.slice none 0 0), (.slice none 0 0), (.slice none 0 0)], cNo, cNo] [] w := ⟨_, (hS.sel [0, 900001, 900002] rfl).selR [] rfl⟩
            refine ⟨hK, ?_⟩
            refine any_1 (i := 2) (by kernel_rfl) ?_
            refine as_v rfl (rv_load1 rfl rfl Try.isAgg22 (hS.cell 2 rfl rfl)) (want_yes rfl) rfl rfl hK ?_
            refine any_1 (i := 8) (by kernel_rfl) ?_
            refine as_mv rfl (rv_append (α := Int) 1 hS rfl (hS.rdOwn 3 rfl) rfl Try.underlying22 inf_Try3 rfl hn2 rfl rfl rfl) (want_yes rfl) rfl rfl ?_
            clear hS
            clear hK; rintro s14 w hS
            have hK : Keeps (cxAll w0) [cBox b1 [(.slice none 0 0), (.slice none 0 0), (.slice none 0 0), (.slice none 0 0)], cNo, cNo] [] w := ⟨_, (hS.sel [0, 900001, 900002] rfl).selR [] rfl⟩
            refine ⟨hK, ?_⟩
            refine any_v 9 (by kernel_rfl) rfl (by kernel_rfl) (by kernel_rfl) hK (fun _ _ => (rv_fld (m := 1) Try.underlying37 rfl rfl Try.sizeOf32 rfl rfl)) (want_yes rfl) rfl rfl ?_
            refine any_v 10 (by kernel_rfl) rfl (by kernel_rfl) (by kernel_rfl) hK (fun _ _ => (rv_fld (m := 0) Try.underlying32 rfl rfl Try.sizeOf22 rfl rfl)) (want_yes rfl) rfl rfl ?_
            refine any_1 (i := 11) (by kernel_rfl) ?_
            refine as_ms rfl (rs_box (vs := [s14]) hS (i := 2) rfl rfl rfl rfl (cells_rd (hS.rdOwn 1 rfl)) Try.sizeOf22 rfl rfl (all1 (one_rd (hS.rdOwn 1 rfl)) rfl)) (want_yes rfl) rfl ?_
            clear hS
            clear hK; intro w hS
            have hK : Keeps (cxAll w0) [cBox b1 [(.slice none 0 0), (.slice none 0 0), (.slice none 0 0), (.slice none 0 0)], cNo, cNo] [] w := ⟨_, (hS.sel [0, 900001, 900002] rfl).selR [] rfl⟩
            refine ⟨hK, ?_⟩
            refine any_done (by kernel_rfl) ?_
            intro a hA
            exact ⟨x4 ++ ([(x16.toNat : Int)]), s14, hG1, hA.part ⟨rfl, rfl, rfl, rfl, trivial⟩, ((hS).sel [0, 1, 2] rfl).selR [] rfl⟩
        · skip
          clear hA hS hG1
          rintro a w ⟨x15, s12, hG1, hA, hS⟩
          unfold spec_l30Mem_j4 at hG1
          refine cw_ops hA ?_
          clear hA
          refine ops_v (rv_move rfl rfl) (want_yes rfl) rfl rfl ?_
          refine ops_v (rv_add rfl rfl rfl) (want_yes rfl) rfl rfl ?_
          refine ops_v (rv_assign rfl rfl) (want_yes rfl) rfl rfl ?_
          refine ops_nil ?_
          intro a hA
          cases hG1
          exact ⟨_, rfl, ⟨s12, hA.part ⟨rfl, rfl, rfl, rfl, trivial⟩, ((hS).sel [0, 1, 2] rfl).selR [] rfl⟩⟩
      · replace hG1 := iteF hc3 hG1
        refine cw_exit ?_
        refine xcons_hit ?_
        cases hG1
        have ho := hr1 _ rfl; subst ho
        exact ⟨x4, s2, rfl, hA.part ⟨rfl, rfl, rfl, trivial⟩, ((hS).sel [0, 1, 2] rfl).selR [] rfl⟩
    · skip
      clear hA hS hl1
      rintro a w ⟨x5, s3, heq, hA, hS⟩
      replace hF : spec_l30Mem_j1 s x5 = some r := by rw [heq] at hF; exact hF
      clear heq
      unfold spec_l30Mem_j1 at hF
      refine cw_seq ?_
      refine cw_seq ?_
      refine cw_ops hA ?_
      clear hA
      refine ops_v (rv_assign rfl rfl) (want_yes rfl) rfl rfl ?_
      refine ops_nil ?_
      intro a hA
      obtain ⟨o2, hl2, hF⟩ := bindE hF
      refine cw_cut (J := fun a' w' => ∃ (x10 : List Int) (s6 : Value), o2 = x10 ∧ AEnv 63 [(0, sv (s)), (2, .pointer (some ⟨b1, 0, none⟩)), (4, .pointer (some ⟨b2, 0, none⟩))] a' ∧ St (cxAll w0) w' [cBox b1 [(.slice none 0 0), (.slice none 0 0), (.slice none 0 0), (.slice none 0 0)], cOwn [s3] (x5 : List Int), cOwn [s6] (x10 : List Int), cBox b2 [s3, s6, (.slice none 0 0), (.slice none 0 0)]] []) ?_ ?_
      · refine cw_block ?_
        refine cw_loop (body := spec_l30Mem_l2 s) (r := o2) (fun sg a' w' => ∃ (s5 : Value), AEnv 63 [(0, sv (s)), (2, .pointer (some ⟨b1, 0, none⟩)), (4, .pointer (some ⟨b2, 0, none⟩)), (6, .int .i64 (sg.1))] a' ∧ St (cxAll w0) w' [cBox b1 [(.slice none 0 0), (.slice none 0 0), (.slice none 0 0), (.slice none 0 0)], cOwn [s3] (x5 : List Int), cOwn [s5] (sg.2 : List Int), cBox b2 [s3, s5, (.slice none 0 0), (.slice none 0 0)]] []) ?_ hl2 ⟨(.slice none 0 0), hA.part ⟨rfl, rfl, rfl, rfl, trivial⟩, (((hS).nilOwn (α := Int)).sel [0, 1, 3, 2] rfl).selR [] rfl⟩
        clear hA hS hl2
        rintro ⟨x8, x9⟩ a w q2 ⟨s5, hA, hS⟩ hG2 hr2
        try dsimp only at hA hS
        unfold spec_l30Mem_l2 at hG2
        refine cw_seq ?_
        refine cw_seq ?_
        refine cw_ops hA ?_
        clear hA
        refine ops_v (rv_move rfl rfl) (want_yes rfl) rfl rfl ?_
        refine ops_v (rv_lss rfl rfl rfl) (want_yes rfl) rfl rfl ?_
        refine ops_nil ?_
        intro a hA
        refine cw_cond hA rfl (fun hc2 => ?_) (fun hc2 => ?_)
        · replace hG2 := iteT hc2 hG2
          refine cw_skip ?_
          refine cw_seq ?_
          refine cw_cut (J := fun a' w' => ∃ (x13 : List Int) (s9 : Value), spec_l30Mem_j3 x8 x13 = some q2 ∧ AEnv 63 [(0, sv (s)), (2, .pointer (some ⟨b1, 0, none⟩)), (4, .pointer (some ⟨b2, 0, none⟩)), (6, .int .i64 (x8))] a' ∧ St (cxAll w0) w' [cBox b1 [(.slice none 0 0), (.slice none 0 0), (.slice none 0 0), (.slice none 0 0)], cOwn [s3] (x5 : List Int), cOwn [s9] (x13 : List Int), cBox b2 [s3, s9, (.slice none 0 0), (.slice none 0 0)]] []) ?_ ?_
          · skip
            refine cw_block ?_
            refine cw_any (Keeps (cxAll w0) [cBox b1 [(.slice none 0 0), (.slice none 0 0), (.slice none 0 0), (.slice none 0 0)], cOwn [s3] (x5 : List Int), cNo, cNo] []) mixed_Try hA hS ?_
            clear hA hS; intro w hS
            have hK : Keeps (cxAll w0) [cBox b1 [(.slice none 0 0), (.slice none 0 0), (.slice none 0 0), (.slice none 0 0)], cOwn [s3] (x5 : List Int), cNo, cNo] [] w := ⟨_, (hS.sel [0, 1, 900002, 900003] rfl).selR [] rfl⟩
            refine any_v 0 (by kernel_rfl) rfl (by kernel_rfl) (by kernel_rfl) hK (fun _ _ => (rv_fld (m := 1) Try.underlying37 rfl rfl Try.sizeOf32 rfl rfl)) (want_yes rfl) rfl rfl ?_
            refine any_v 1 (by kernel_rfl) rfl (by kernel_rfl) (by kernel_rfl) hK (fun _ _ => (rv_fld (m := 0) Try.underlying32 rfl rfl Try.sizeOf22 rfl rfl)) (want_yes rfl) rfl rfl ?_
            refine any_v 3 (by kernel_rfl) rfl (by kernel_rfl) (by kernel_rfl) hK (fun _ _ => (rv_move rfl rfl)) (want_yes rfl) rfl rfl ?_
            refine any_v 4 (by kernel_rfl) rfl (by kernel_rfl) (by kernel_rfl) hK (fun _ _ => (rv_move rfl rfl)) (want_yes rfl) rfl rfl ?_
            refine any_v 5 (by kernel_rfl) rfl (by kernel_rfl) (by kernel_rfl) hK (fun _ _ => (rv_add rfl rfl rfl)) (want_yes rfl) rfl rfl ?_
            obtain ⟨x14, hx14, hG2⟩ := bindE hG2
            refine any_v 6 (by kernel_rfl) rfl (by kernel_rfl) (by kernel_rfl) hK (fun _ _ => (rv_stri Try.underlying9 hx14 rfl rfl rfl)) (want_yes rfl) rfl rfl ?_
            refine any_v 7 (by kernel_rfl) rfl (by kernel_rfl) (by kernel_rfl) hK (fun _ _ => (rv_convU Try.underlying5 Try.underlying3 rfl rfl)) (want_yes rfl) rfl rfl ?_
            refine any_v 8 (by kernel_rfl) rfl (by kernel_rfl) (by kernel_rfl) hK (fun _ _ => (rv_sub rfl rfl rfl)) (want_yes rfl) rfl rfl ?_
            obtain ⟨hn1, hG2⟩ := needE hG2
            refine any_2 (i := 2) (j := 9) (by kernel_rfl) ?_ ?_
            · skip
              refine as_v rfl (rv_load1 rfl rfl Try.isAgg22 (hS.cell 3 rfl rfl)) (want_yes rfl) rfl rfl hK ?_
              refine any_1 (i := 9) (by kernel_rfl) ?_
              refine as_mv rfl (rv_lit1 (w64 (((x14.toNat : Int)) - 1) : Int) hS rfl Try.underlying22 inf_Try3 rfl rfl rfl rfl) (want_yes rfl) rfl rfl ?_
              clear hS
              clear hK; rintro s10 w hS
              have hK : Keeps (cxAll w0) [cBox b1 [(.slice none 0 0), (.slice none 0 0), (.slice none 0 0), (.slice none 0 0)], cOwn [s3] (x5 : List Int), cNo, cNo] [] w := ⟨_, (hS.sel [0, 1, 900002, 900003] rfl).selR [] rfl⟩
              refine ⟨hK, ?_⟩
              refine any_1 (i := 10) (by kernel_rfl) ?_
              refine as_mv rfl (rv_append (α := Int) 2 hS rfl (hS.rdOwn 4 rfl) rfl Try.underlying22 inf_Try3 rfl hn1 rfl rfl rfl) (want_yes rfl) rfl rfl ?_
              clear hS
              clear hK; rintro s11 w hS
              have hK : Keeps (cxAll w0) [cBox b1 [(.slice none 0 0), (.slice none 0 0), (.slice none 0 0), (.slice none 0 0)], cOwn [s3] (x5 : List Int), cNo, cNo] [] w := ⟨_, (hS.sel [0, 1, 900002, 900003] rfl).selR [] rfl⟩
              refine ⟨hK, ?_⟩
              refine any_v 11 (by kernel_rfl) rfl (by kernel_rfl) (by kernel_rfl) hK (fun _ _ => (rv_fld (m := 1) Try.underlying37 rfl rfl Try.sizeOf32 rfl rfl)) (want_yes rfl) rfl rfl ?_
              refine any_v 12 (by kernel_rfl) rfl (by kernel_rfl) (by kernel_rfl) hK (fun _ _ => (rv_fld (m := 0) Try.underlying32 rfl rfl Try.sizeOf22 rfl rfl)) (want_yes rfl) rfl rfl ?_
              refine any_1 (i := 13) (by kernel_rfl) ?_
              refine as_ms rfl (rs_box (vs := [s11]) hS (i := 3) rfl rfl rfl rfl (cells_rd (hS.rdOwn 2 rfl)) Try.sizeOf22 rfl rfl (all1 (one_rd (hS.rdOwn 2 rfl)) rfl)) (want_yes rfl) rfl ?_
              clear hS
              clear hK; intro w hS
              have hK : Keeps (cxAll w0) [cBox b1 [(.slice none 0 0), (.slice none 0 0), (.slice none 0 0), (.slice none 0 0)], cOwn [s3] (x5 : List Int), cNo, cNo] [] w := ⟨_, (hS.sel [0, 1, 900002, 900003] rfl).selR [] rfl⟩
              refine ⟨hK, ?_⟩
              refine any_done (by kernel_rfl) ?_
              intro a hA
              exact ⟨x9 ++ ([w64 (((x14.toNat : Int)) - 1)]), s11, hG2, hA.part ⟨rfl, rfl, rfl, rfl, trivial⟩, ((hS).sel [0, 1, 2, 3] rfl).selR [] rfl⟩
            · skip
              refine as_mv rfl (rv_lit1 (w64 (((x14.toNat : Int)) - 1) : Int) hS rfl Try.underlying22 inf_Try3 rfl rfl rfl rfl) (want_yes rfl) rfl rfl ?_
              clear hS
              clear hK; rintro s10 w hS
              have hK : Keeps (cxAll w0) [cBox b1 [(.slice none 0 0), (.slice none 0 0), (.slice none 0 0), (.slice none 0 0)], cOwn [s3] (x5 : List Int), cNo, cNo] [] w := ⟨_, (hS.sel [0, 1, 900002, 900003] rfl).selR [] rfl⟩
              refine ⟨hK, ?_⟩
              refine any_1 (i := 2) (by kernel_rfl) ?_
              refine as_v rfl (rv_load1 rfl rfl Try.isAgg22 (hS.cell 3 rfl rfl)) (want_yes rfl) rfl rfl hK ?_
              refine any_1 (i := 10) (by kernel_rfl) ?_
              refine as_mv rfl (rv_append (α := Int) 2 hS rfl (hS.rdOwn 4 rfl) rfl Try.underlying22 inf_Try3 rfl hn1 rfl rfl rfl) (want_yes rfl) rfl rfl ?_
              clear hS
              clear hK; rintro s11 w hS
              have hK : Keeps (cxAll w0) [cBox b1 [(.slice none 0 0), (.slice none 0 0), (.slice none 0 0), (.slice none 0 0)], cOwn [s3] (x5 : List Int), cNo, cNo] [] w := ⟨_, (hS.sel [0, 1, 900002, 900003] rfl).selR [] rfl⟩
              refine ⟨hK, ?_⟩
              refine any_v 11 (by kernel_rfl) rfl (by kernel_rfl) (by kernel_rfl) hK (fun _ _ => (rv_fld (m := 1) Try.underlying37 rfl rfl Try.sizeOf32 rfl rfl)) (want_yes rfl) rfl rfl ?_
              refine any_v 12 (by kernel_rfl) rfl (by kernel_rfl) (by kernel_rfl) hK (fun _ _ => (rv_fld (m := 0) Try.underlying32 rfl rfl Try.sizeOf22 rfl rfl)) (want_yes rfl) rfl rfl ?_
              refine any_1 (i := 13) (by kernel_rfl) ?_
              refine as_ms rfl (rs_box (vs := [s11]) hS (i := 3) rfl rfl rfl rfl (cells_rd (hS.rdOwn 2 rfl)) Try.sizeOf22 rfl rfl (all1 (one_rd (hS.rdOwn 2 rfl)) rfl)) (want_yes rfl) rfl ?_
              clear hS
              clear hK; intro w hS
              have hK : Keeps (cxAll w0) [cBox b1 [(.slice none 0 0), (.slice none 0 0), (.slice none 0 0), (.slice none 0 0)], cOwn [s3] (x5 : List Int), cNo, cNo] [] w := ⟨_, (hS.sel [0, 1, 900002, 900003] rfl).selR [] rfl⟩
              refine ⟨hK, ?_⟩
              refine any_done (by kernel_rfl) ?_
              intro a hA
              exact ⟨x9 ++ ([w64 (((x14.toNat : Int)) - 1)]), s11, hG2, hA.part ⟨rfl, rfl, rfl, rfl, trivial⟩, ((hS).sel [0, 1, 2, 3] rfl).selR [] rfl⟩
          · skip
            clear hA hS hG2
            rintro a w ⟨x13, s9, hG2, hA, hS⟩
            unfold spec_l30Mem_j3 at hG2
            refine cw_ops hA ?_
            clear hA
            refine ops_v (rv_move rfl rfl) (want_yes rfl) rfl rfl ?_
            refine ops_v (rv_add rfl rfl rfl) (want_yes rfl) rfl rfl ?_
            refine ops_v (rv_assign rfl rfl) (want_yes rfl) rfl rfl ?_
            refine ops_nil ?_
            intro a hA
            cases hG2
            exact ⟨_, rfl, ⟨s9, hA.part ⟨rfl, rfl, rfl, rfl, trivial⟩, ((hS).sel [0, 1, 2, 3] rfl).selR [] rfl⟩⟩
        · replace hG2 := iteF hc2 hG2
          refine cw_exit ?_
          refine xcons_hit ?_
          cases hG2
          have ho := hr2 _ rfl; subst ho
          exact ⟨x9, s5, rfl, hA.part ⟨rfl, rfl, rfl, trivial⟩, ((hS).sel [0, 1, 2, 3] rfl).selR [] rfl⟩
      · skip
        clear hA hS hl2
        rintro a w ⟨x10, s6, heq, hA, hS⟩
        replace hF : spec_l30Mem_j2 s x5 x10 = some r := by rw [heq] at hF; exact hF
        clear heq
        unfold spec_l30Mem_j2 at hF
        refine cw_seq ?_
        refine cw_ops hA ?_
        clear hA
        refine ops_v (rv_assign rfl rfl) (want_yes rfl) rfl rfl ?_
        refine ops_nil ?_
        intro a hA
        refine cw_seq ?_
        refine cw_ops hA ?_
        clear hA
        refine ops_v (rv_move rfl rfl) (want_yes rfl) rfl rfl ?_
        refine ops_v (rv_move rfl rfl) (want_yes rfl) rfl rfl ?_
        obtain ⟨x11, hx11, hF⟩ := bindE hF
        refine ops_c (rc_call Try.call45 rfl rfl) (want_yes rfl) rfl rfl (c_spec_l30Lists (s := s) (at_ := 390) (n := 3)  hx11) ?_
        rintro _ w ⟨s7, rfl, hk⟩
        replace hS := hS.after hk; clear hk
        refine ops_v (rv_move rfl rfl) (want_yes rfl) rfl rfl ?_
        refine ops_v (rv_extract rfl rfl rfl) (want_yes rfl) rfl rfl ?_
        refine ops_v (rv_extract rfl rfl rfl) (want_yes rfl) rfl rfl ?_
        refine ops_v (rv_fld (m := 1) Try.underlying37 rfl rfl Try.sizeOf35 rfl rfl) (want_yes rfl) rfl rfl ?_
        refine ops_v (rv_fld (m := 0) Try.underlying35 rfl rfl Try.sizeOf33 rfl rfl) (want_yes rfl) rfl rfl ?_
        refine ops_ms (rs_box (vs := [s7]) hS (i := 3) rfl rfl rfl rfl (cells_rd (hS.rdOwn 4 rfl)) Try.sizeOf33 rfl rfl (all1 (one_rd (hS.rdOwn 4 rfl)) rfl)) (want_yes rfl) rfl ?_
        clear hS
        intro w hS
        refine ops_v (rv_assign rfl rfl) (want_yes rfl) rfl rfl ?_
        refine ops_nil ?_
        intro a hA
        refine cw_seq ?_
        refine cw_ops hA ?_
        clear hA
        refine ops_v (rv_move rfl rfl) (want_yes rfl) rfl rfl ?_
        refine ops_v (rv_move rfl rfl) (want_yes rfl) rfl rfl ?_
        obtain ⟨x12, hx12, hF⟩ := bindE hF
        refine ops_c (rc_call Try.call45 rfl rfl) (want_yes rfl) rfl rfl (c_spec_l30Lists (s := s) (at_ := x11.2) (n := 9)  hx12) ?_
        rintro _ w ⟨s8, rfl, hk⟩
        replace hS := hS.after hk; clear hk
        refine ops_v (rv_move rfl rfl) (want_yes rfl) rfl rfl ?_
        refine ops_v (rv_extract rfl rfl rfl) (want_yes rfl) rfl rfl ?_
        refine ops_v (rv_extract rfl rfl rfl) (want_yes rfl) rfl rfl ?_
        refine ops_v (rv_fld (m := 1) Try.underlying37 rfl rfl Try.sizeOf35 rfl rfl) (want_yes rfl) rfl rfl ?_
        refine ops_v (rv_fld (m := 0) Try.underlying35 rfl rfl Try.sizeOf33 rfl rfl) (want_yes rfl) rfl rfl ?_
        refine ops_ms (rs_box (vs := [s8]) hS (i := 3) rfl rfl rfl rfl (cells_rd (hS.rdOwn 5 rfl)) Try.sizeOf33 rfl rfl (all1 (one_rd (hS.rdOwn 5 rfl)) rfl)) (want_yes rfl) rfl ?_
        clear hS
        intro w hS
        refine ops_v (rv_assign rfl rfl) (want_yes rfl) rfl rfl ?_
        refine ops_nil ?_
        intro a hA
        refine cw_seq ?_
        refine cw_ops hA ?_
        clear hA
        refine ops_v (rv_loadN rfl rfl Try.isAgg37 Try.sizeOf37 rfl (hS.cells 3 0 (cs' := [s3, s6, s7, s8]) rfl rfl)) (want_yes rfl) rfl rfl ?_
        refine ops_v (rv_move rfl rfl) (want_yes rfl) rfl rfl ?_
        refine ops_ms (rs_box (vs := [s3, s6, s7, s8]) hS (i := 0) rfl rfl rfl rfl rfl Try.sizeOf37 rfl rfl (all1 (one_rd (hS.rdOwn 1 rfl)) (all1 (one_rd (hS.rdOwn 2 rfl)) (all1 (one_rd (hS.rdOwn 4 rfl)) (all1 (one_rd (hS.rdOwn 5 rfl)) rfl))))) (want_yes rfl) rfl ?_
        clear hS
        intro w hS
        refine ops_v (rv_assign rfl rfl) (want_yes rfl) rfl rfl ?_
        refine ops_nil ?_
        intro a hA
        refine cw_ret ?_
        cases hF
        exact fin2 Try.results24 hA (res_cell rfl Try.isAgg37 Try.sizeOf37 rfl (hS.cells 0 0 (cs' := [s3, s6, s7, s8]) rfl rfl)) (res_tmp rfl) ⟨s3, s6, s7, s8, rfl, (hS.sel [1, 2, 4, 5] rfl).weaken (R' := []) (fun _ h => nomatch h)⟩

set_option maxHeartbeats 4000000 in
set_option maxRecDepth 100000 in
theorem c_spec_ReadMem {w0 : World} {s : List UInt8}  {r : Mem × Bool}  (hF : spec_ReadMem s = some r) :
    Calls Try.prog 10 #[sv (s)] w0 (Ret fun v w' => ∃ (s0_0 : Value) (s0_1 : Value) (s0_2 : Value) (s0_3 : Value), v = .tuple #[.agg #[s0_0, s0_1, s0_2, s0_3], .bool (r.2)] ∧ St (cxAll w0) w' [cOwn [s0_0] (r.1.Heap.Bytes : List Int), cOwn [s0_1] (r.1.Heap.Class : List Int), cOwn [s0_2] (r.1.Lists.Global : List SList), cOwn [s0_3] (r.1.Lists.Own : List SList)] []) := by
  have hS : St (cxAll w0) w0 [] [] := St.enter (by
    intro f hf; cases hf)
  refine calls_cw (args := [_]) Try.func10 rfl Try.ntmps10 rfl ?_
  unfold spec_ReadMem at hF
  intro a hA
  refine cw_seq ?_
  refine cw_ops hA ?_
  clear hA
  refine ops_mv (rv_alloc (cs := [(.slice none 0 0), (.slice none 0 0), (.slice none 0 0), (.slice none 0 0)]) hS rfl Try.zeroValue37 rfl) (want_yes rfl) rfl rfl ?_
  clear hS
  rintro _ w ⟨b1, rfl, hS⟩
  refine ops_v (rv_assign rfl rfl) (want_yes rfl) rfl rfl ?_
  refine ops_nil ?_
  intro a hA
  refine cw_seq ?_
  refine cw_ops hA ?_
  clear hA
  refine ops_v (rv_move rfl rfl) (want_yes rfl) rfl rfl ?_
  obtain ⟨x1, hx1, hF⟩ := bindE hF
  refine ops_c (rc_call Try.call24 rfl rfl) (want_yes rfl) rfl rfl (c_spec_l30Mem (s := s)  hx1) ?_
  rintro _ w ⟨s1, s2, s3, s4, rfl, hk⟩
  replace hS := hS.after hk; clear hk
  refine ops_v (rv_move rfl rfl) (want_yes rfl) rfl rfl ?_
  refine ops_v (rv_extract rfl rfl rfl) (want_yes rfl) rfl rfl ?_
  refine ops_v (rv_extract rfl rfl rfl) (want_yes rfl) rfl rfl ?_
  refine ops_mv (rv_alloc (cs := [(.slice none 0 0), (.slice none 0 0), (.slice none 0 0), (.slice none 0 0)]) hS rfl Try.zeroValue37 rfl) (want_yes rfl) rfl rfl ?_
  clear hS
  rintro _ w ⟨b2, rfl, hS⟩
  refine ops_ms (rs_box (vs := [s1, s2, s3, s4]) hS (i := 5) rfl rfl rfl rfl rfl Try.sizeOf37 rfl rfl (all1 (one_rd (hS.rdOwn 1 rfl)) (all1 (one_rd (hS.rdOwn 2 rfl)) (all1 (one_rd (hS.rdOwn 3 rfl)) (all1 (one_rd (hS.rdOwn 4 rfl)) rfl))))) (want_yes rfl) rfl ?_
  clear hS
  intro w hS
  refine ops_v (rv_assign rfl rfl) (want_yes rfl) rfl rfl ?_
  refine ops_nil ?_
  intro a hA
  refine cw_seq ?_
  refine cw_seq ?_
  refine cw_cut (J := fun a' w' => ∃ (x2 : Bool), spec_ReadMem_j1 x1 x2 = some r ∧ AEnv 28 [(2, .pointer (some ⟨b1, 0, none⟩)), (4, .pointer (some ⟨b2, 0, none⟩)), (25, .bool (x2))] a' ∧ St (cxAll w0) w' [cBox b1 [(.slice none 0 0), (.slice none 0 0), (.slice none 0 0), (.slice none 0 0)], cOwn [s1] (x1.1.Heap.Bytes : List Int), cOwn [s2] (x1.1.Heap.Class : List Int), cOwn [s3] (x1.1.Lists.Global : List SList), cOwn [s4] (x1.1.Lists.Own : List SList), cBox b2 [s1, s2, s3, s4]] []) ?_ ?_
  · skip
    refine cw_ops hA ?_
    clear hA
    refine ops_v (rv_move rfl rfl) (want_yes rfl) rfl rfl ?_
    refine ops_v (rv_move rfl rfl) (want_yes rfl) rfl rfl ?_
    refine ops_v (rv_lens Try.underlying9 rfl rfl) (want_yes rfl) rfl rfl ?_
    refine ops_v (rv_neq rfl rfl rfl) (want_yes rfl) rfl rfl ?_
    refine ops_v (rv_move rfl rfl) (want_yes rfl) rfl rfl ?_
    refine ops_case (s := 15) rfl (fun hc2 => ?_) (fun hc2 => ?_)
    · replace hF := iteT hc2 hF
      refine ops_off (want_if rfl rfl rfl (by rw [hc2]; rfl)) rfl rfl ?_
      refine ops_off (want_if rfl rfl rfl (by rw [hc2]; rfl)) rfl rfl ?_
      refine ops_off (want_if rfl rfl rfl (by rw [hc2]; rfl)) rfl rfl ?_
      refine ops_v (rv_pick_t rfl rfl hc2 rfl) (want_yes rfl) rfl rfl ?_
      refine ops_v (rv_move rfl rfl) (want_yes rfl) rfl rfl ?_
      refine ops_off (want_if rfl rfl rfl rfl) rfl rfl ?_
      refine ops_off (want_if rfl rfl rfl rfl) rfl rfl ?_
      refine ops_off (want_if rfl rfl rfl rfl) rfl rfl ?_
      refine ops_off (want_if rfl rfl rfl rfl) rfl rfl ?_
      refine ops_v (rv_pick_t rfl rfl rfl rfl) (want_yes rfl) rfl rfl ?_
      refine ops_nil ?_
      intro a hA
      exact ⟨true, hF, hA.part ⟨rfl, rfl, rfl, trivial⟩, ((hS).sel [0, 1, 2, 3, 4, 5] rfl).selR [] rfl⟩
    · replace hF := iteF hc2 hF
      refine ops_v (rv_loadN rfl rfl Try.isAgg37 Try.sizeOf37 rfl (hS.cells 5 0 (cs' := [s1, s2, s3, s4]) rfl rfl)) (want_if rfl rfl rfl (by rw [hc2]; rfl)) rfl rfl ?_
      obtain ⟨x3, hx3, hF⟩ := bindE hF
      refine ops_c (rc_call Try.call16 rfl rfl) (want_if rfl rfl rfl (by rw [hc2]; rfl)) rfl rfl (c_spec_MemOk (m := x1.1) (hS.rdOwn 1 rfl) (hS.rdOwn 2 rfl) (hS.rdOwn 3 rfl) (hS.rdOwn 4 rfl) hx3) ?_
      rintro _ w ⟨rfl, hk⟩
      replace hS := hS.after hk; clear hk
      refine ops_v (rv_not rfl rfl) (want_if rfl rfl rfl (by rw [hc2]; rfl)) rfl rfl ?_
      refine ops_v (rv_pick_f rfl rfl hc2 rfl) (want_yes rfl) rfl rfl ?_
      refine ops_v (rv_move rfl rfl) (want_yes rfl) rfl rfl ?_
      refine ops_case (s := 20) rfl (fun hc3 => ?_) (fun hc3 => ?_)
      · replace hF := iteT hc3 hF
        refine ops_off (want_if rfl rfl rfl (by rw [hc3]; rfl)) rfl rfl ?_
        refine ops_off (want_if rfl rfl rfl (by rw [hc3]; rfl)) rfl rfl ?_
        refine ops_off (want_if rfl rfl rfl (by rw [hc3]; rfl)) rfl rfl ?_
        refine ops_off (want_if rfl rfl rfl (by rw [hc3]; rfl)) rfl rfl ?_
        refine ops_v (rv_pick_t rfl rfl hc3 rfl) (want_yes rfl) rfl rfl ?_
        refine ops_nil ?_
        intro a hA
        exact ⟨true, hF, hA.part ⟨rfl, rfl, rfl, trivial⟩, ((hS).sel [0, 1, 2, 3, 4, 5] rfl).selR [] rfl⟩
      · replace hF := iteF hc3 hF
        refine ops_v (rv_loadN rfl rfl Try.isAgg37 Try.sizeOf37 rfl (hS.cells 5 0 (cs' := [s1, s2, s3, s4]) rfl rfl)) (want_if rfl rfl rfl (by rw [hc3]; rfl)) rfl rfl ?_
        obtain ⟨x4, hx4, hF⟩ := bindE hF
        refine ops_c (rc_call Try.call6 rfl rfl) (want_if rfl rfl rfl (by rw [hc3]; rfl)) rfl rfl (c_spec_ShowMem (m := x1.1) (hS.rdOwn 1 rfl) (hS.rdOwn 2 rfl) (hS.rdOwn 3 rfl) (hS.rdOwn 4 rfl) hx4) ?_
        rintro _ w ⟨rfl, hk⟩
        replace hS := hS.after hk; clear hk
        refine ops_v (rv_move rfl rfl) (want_if rfl rfl rfl (by rw [hc3]; rfl)) rfl rfl ?_
        refine ops_v (rv_neqs rfl rfl rfl) (want_if rfl rfl rfl (by rw [hc3]; rfl)) rfl rfl ?_
        refine ops_v (rv_pick_f rfl rfl hc3 rfl) (want_yes rfl) rfl rfl ?_
        refine ops_nil ?_
        intro a hA
        exact ⟨!(x4 == s), hF, hA.part ⟨rfl, rfl, rfl, trivial⟩, ((hS).sel [0, 1, 2, 3, 4, 5] rfl).selR [] rfl⟩
  · skip
    clear hA hS hF
    rintro a w ⟨x2, hF, hA, hS⟩
    unfold spec_ReadMem_j1 at hF
    refine cw_cond hA rfl (fun hc1 => ?_) (fun hc1 => ?_)
    · replace hF := iteT hc1 hF
      refine cw_seq ?_
      refine cw_ops hA ?_
      clear hA
      refine ops_v (rv_build (cells := #[(.slice none 0 0), (.slice none 0 0), (.slice none 0 0), (.slice none 0 0)]) rfl Try.zeroValue37 Try.underlying37 (by have h := places_Try37; rw [Try.underlying37] at h; exact h) rfl rfl) (want_yes rfl) rfl rfl ?_
      refine ops_ms (rs_box (vs := [(.slice none 0 0), (.slice none 0 0), (.slice none 0 0), (.slice none 0 0)]) hS (i := 0) rfl rfl rfl rfl rfl Try.sizeOf37 rfl rfl rfl) (want_yes rfl) rfl ?_
      clear hS
      intro w hS
      refine ops_v (rv_assign rfl rfl) (want_yes rfl) rfl rfl ?_
      refine ops_nil ?_
      intro a hA
      refine cw_ret ?_
      replace hS := hS.nilOwn (α := Int)
      replace hS := hS.nilOwn (α := Int)
      replace hS := hS.nilOwn (α := SList)
      replace hS := hS.nilOwn (α := SList)
      cases hF
      exact fin2 Try.results10 hA (res_cell rfl Try.isAgg37 Try.sizeOf37 rfl (hS.cells 0 0 (cs' := [(.slice none 0 0), (.slice none 0 0), (.slice none 0 0), (.slice none 0 0)]) rfl rfl)) (res_tmp rfl) ⟨(.slice none 0 0), (.slice none 0 0), (.slice none 0 0), (.slice none 0 0), rfl, (hS.sel [6, 7, 8, 9] rfl).weaken (R' := []) (fun _ h => nomatch h)⟩
    · replace hF := iteF hc1 hF
      refine cw_skip ?_
      refine cw_seq ?_
      refine cw_ops hA ?_
      clear hA
      refine ops_v (rv_loadN rfl rfl Try.isAgg37 Try.sizeOf37 rfl (hS.cells 5 0 (cs' := [s1, s2, s3, s4]) rfl rfl)) (want_yes rfl) rfl rfl ?_
      refine ops_ms (rs_box (vs := [s1, s2, s3, s4]) hS (i := 0) rfl rfl rfl rfl rfl Try.sizeOf37 rfl rfl (all1 (one_rd (hS.rdOwn 1 rfl)) (all1 (one_rd (hS.rdOwn 2 rfl)) (all1 (one_rd (hS.rdOwn 3 rfl)) (all1 (one_rd (hS.rdOwn 4 rfl)) rfl))))) (want_yes rfl) rfl ?_
      clear hS
      intro w hS
      refine ops_v (rv_assign rfl rfl) (want_yes rfl) rfl rfl ?_
      refine ops_nil ?_
      intro a hA
      refine cw_ret ?_
      cases hF
      exact fin2 Try.results10 hA (res_cell rfl Try.isAgg37 Try.sizeOf37 rfl (hS.cells 0 0 (cs' := [s1, s2, s3, s4]) rfl rfl)) (res_tmp rfl) ⟨s1, s2, s3, s4, rfl, (hS.sel [1, 2, 3, 4] rfl).weaken (R' := []) (fun _ h => nomatch h)⟩

set_option maxHeartbeats 4000000 in
set_option maxRecDepth 100000 in
theorem c_impl_reader_byte {c : Ctx} {w0 : World} {r_ : Reader} {b1 z1 : Nat} {r : Int × Reader} (hS : St c w0 [cAt b1 z1 [sv (r_.left.b), .bool (r_.bad)]] []) (hF : impl_reader_byte r_ = some r) :
    Calls Try.prog 46 #[.pointer (some ⟨b1, z1, none⟩)] w0 (Ret fun v w' => v = .int .i64 (r.1) ∧ St (c) w' [cAt b1 z1 [sv (r.2.left.b), .bool (r.2.bad)]] []) := by
  refine calls_cw (args := [_]) Try.func46 rfl Try.ntmps46 rfl ?_
  unfold impl_reader_byte at hF
  intro a hA
  refine cw_seq ?_
  refine cw_ops hA ?_
  clear hA
  refine ops_v (rv_assign rfl rfl) (want_yes rfl) rfl rfl ?_
  refine ops_nil ?_
  intro a hA
  refine cw_seq ?_
  refine cw_seq ?_
  refine cw_ops hA ?_
  clear hA
  refine ops_v (rv_move rfl rfl) (want_yes rfl) rfl rfl ?_
  refine ops_v (rv_nil rfl rfl) (want_yes rfl) rfl rfl ?_
  refine ops_v (rv_fld (m := 0) Try.underlying60 rfl rfl Try.sizeOf9 rfl rfl) (want_yes rfl) rfl rfl ?_
  refine ops_v (rv_load1 rfl rfl Try.isAgg9 (hS.acell (q := z1) (j := 0) 0 rfl rfl)) (want_yes rfl) rfl rfl ?_
  refine ops_v (rv_eqls rfl rfl rfl) (want_yes rfl) rfl rfl ?_
  refine ops_nil ?_
  intro a hA
  refine cw_cond hA rfl (fun hc1 => ?_) (fun hc1 => ?_)
  · replace hF := iteT hc1 hF
    refine cw_seq ?_
    refine cw_ops hA ?_
    clear hA
    refine ops_v (rv_move rfl rfl) (want_yes rfl) rfl rfl ?_
    refine ops_v (rv_nil rfl rfl) (want_yes rfl) rfl rfl ?_
    refine ops_v (rv_fld (m := 0) Try.underlying60 rfl rfl Try.sizeOf4 rfl rfl) (want_yes rfl) rfl rfl ?_
    refine ops_ms (rs_at (vs := [.bool (true)]) (q := z1) (j := 1) hS (i := 0) rfl rfl rfl rfl rfl Try.sizeOf4 rfl rfl rfl) (want_yes rfl) rfl ?_
    clear hS
    intro w hS
    refine ops_nil ?_
    intro a hA
    refine cw_seq ?_
    refine cw_ops hA ?_
    clear hA
    refine ops_v (rv_assign rfl rfl) (want_yes rfl) rfl rfl ?_
    refine ops_nil ?_
    intro a hA
    refine cw_ret ?_
    cases hF
    exact fin1 Try.results46 hA (res_tmp rfl) ⟨rfl, (hS.sel [0] rfl).weaken (R' := []) (fun _ h => nomatch h)⟩
  · replace hF := iteF hc1 hF
    refine cw_skip ?_
    refine cw_seq ?_
    refine cw_ops hA ?_
    clear hA
    refine ops_v (rv_move rfl rfl) (want_yes rfl) rfl rfl ?_
    refine ops_v (rv_nil rfl rfl) (want_yes rfl) rfl rfl ?_
    refine ops_v (rv_fld (m := 0) Try.underlying60 rfl rfl Try.sizeOf9 rfl rfl) (want_yes rfl) rfl rfl ?_
    refine ops_v (rv_load1 rfl rfl Try.isAgg9 (hS.acell (q := z1) (j := 0) 0 rfl rfl)) (want_yes rfl) rfl rfl ?_
    obtain ⟨x1, hx1, hF⟩ := bindE hF
    refine ops_v (rv_stri Try.underlying9 hx1 rfl rfl rfl) (want_yes rfl) rfl rfl ?_
    refine ops_v (rv_convU Try.underlying5 Try.underlying3 rfl rfl) (want_yes rfl) rfl rfl ?_
    refine ops_v (rv_assign rfl rfl) (want_yes rfl) rfl rfl ?_
    refine ops_nil ?_
    intro a hA
    refine cw_seq ?_
    refine cw_ops hA ?_
    clear hA
    refine ops_v (rv_move rfl rfl) (want_yes rfl) rfl rfl ?_
    refine ops_v (rv_move rfl rfl) (want_yes rfl) rfl rfl ?_
    refine ops_v (rv_nil rfl rfl) (want_yes rfl) rfl rfl ?_
    refine ops_v (rv_fld (m := 0) Try.underlying60 rfl rfl Try.sizeOf9 rfl rfl) (want_yes rfl) rfl rfl ?_
    refine ops_v (rv_load1 rfl rfl Try.isAgg9 (hS.acell (q := z1) (j := 0) 0 rfl rfl)) (want_yes rfl) rfl rfl ?_
    obtain ⟨hn1, hF⟩ := needE hF
    refine ops_v (rv_str_l Try.underlying9 hn1 rfl rfl rfl) (want_yes rfl) rfl rfl ?_
    refine ops_v (rv_nil rfl rfl) (want_yes rfl) rfl rfl ?_
    refine ops_v (rv_fld (m := 0) Try.underlying60 rfl rfl Try.sizeOf9 rfl rfl) (want_yes rfl) rfl rfl ?_
    refine ops_ms (rs_at (vs := [sv (r_.left.b.drop ((1 : Int).toNat))]) (q := z1) (j := 0) hS (i := 0) rfl rfl rfl rfl rfl Try.sizeOf9 rfl rfl rfl) (want_yes rfl) rfl ?_
    clear hS
    intro w hS
    refine ops_nil ?_
    intro a hA
    refine cw_seq ?_
    refine cw_ops hA ?_
    clear hA
    refine ops_v (rv_move rfl rfl) (want_yes rfl) rfl rfl ?_
    refine ops_v (rv_assign rfl rfl) (want_yes rfl) rfl rfl ?_
    refine ops_nil ?_
    intro a hA
    refine cw_ret ?_
    cases hF
    exact fin1 Try.results46 hA (res_tmp rfl) ⟨rfl, (hS.sel [0] rfl).weaken (R' := []) (fun _ h => nomatch h)⟩
end Go.Proofs.Ytpndngnohcffnaa
