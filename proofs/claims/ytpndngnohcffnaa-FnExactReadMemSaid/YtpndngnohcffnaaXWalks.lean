import Derived.Test.YtpndngnohcffnaaXWalksB
namespace Go.Proofs.Ytpndngnohcffnaa
open Go.Gv
set_option maxHeartbeats 4000000 in
set_option maxRecDepth 100000 in
theorem c_impl_ReadVar {w0 : World} {s : List UInt8}  {r : Int × Int}  (hF : impl_ReadVar s = some r) :
    Calls Try.prog 90 #[sv (s)] w0 (Ret fun v w' => v = .tuple #[.int .i64 (r.1), .int .i64 (r.2)] ∧ St (cxAll w0) w' [] []) := by
  have hS : St (cxAll w0) w0 [] [] := St.enter (by
    intro f hf; cases hf)
  refine calls_cw (args := [_]) Try.func90 rfl Try.ntmps90 rfl ?_
  unfold impl_ReadVar at hF
  intro a hA
  refine cw_seq ?_
  refine cw_ops hA ?_
  clear hA
  refine ops_v (rv_assign rfl rfl) (want_yes rfl) rfl rfl ?_
  refine ops_v (rv_assign rfl rfl) (want_yes rfl) rfl rfl ?_
  refine ops_nil ?_
  intro a hA
  refine cw_seq ?_
  refine cw_ops hA ?_
  clear hA
  refine ops_v (rv_assign rfl rfl) (want_yes rfl) rfl rfl ?_
  refine ops_nil ?_
  intro a hA
  refine cw_seq ?_
  refine cw_seq ?_
  refine cw_ops hA ?_
  clear hA
  refine ops_v (rv_move rfl rfl) (want_yes rfl) rfl rfl ?_
  refine ops_v (rv_lens Try.underlying9 rfl rfl) (want_yes rfl) rfl rfl ?_
  refine ops_v (rv_min rfl rfl rfl) (want_yes rfl) rfl rfl ?_
  refine ops_v (rv_move rfl rfl) (want_yes rfl) rfl rfl ?_
  refine ops_nil ?_
  intro a hA
  obtain ⟨o1, hl1, hF⟩ := bindE hF
  refine cw_cut (J := fun a' w' => o1 = Out.brk (()) ∧ AEnv 39 [] a' ∧ St (cxAll w0) w' [] []) ?_ ?_
  · refine cw_block ?_
    refine cw_loop (body := impl_ReadVar_l1 s) (r := o1) (fun sg a' w' => AEnv 39 [(0, sv (s)), (4, .int .i64 (sg.1)), (8, .int .i64 (if 7 < ((s.length : Int)) then 7 else ((s.length : Int)))), (9, .int .i64 (sg.2))] a' ∧ St (cxAll w0) w' [] []) ?_ hl1 ⟨hA.part ⟨rfl, rfl, rfl, rfl, trivial⟩, ((hS).sel [] rfl).selR [] rfl⟩
    clear hA hS hl1
    rintro ⟨x3, x4⟩ a w q1 ⟨hA, hS⟩ hG1 hr1
    try dsimp only at hA hS
    unfold impl_ReadVar_l1 at hG1
    refine cw_seq ?_
    refine cw_ops hA ?_
    clear hA
    refine ops_v (rv_lss rfl rfl rfl) (want_yes rfl) rfl rfl ?_
    refine ops_nil ?_
    intro a hA
    refine cw_seq ?_
    refine cw_cond hA rfl (fun hc1 => ?_) (fun hc1 => ?_)
    · replace hG1 := iteT hc1 hG1
      refine cw_skip ?_
      refine cw_seq ?_
      refine cw_block ?_
      refine cw_seq ?_
      refine cw_ops hA ?_
      clear hA
      refine ops_v (rv_move rfl rfl) (want_yes rfl) rfl rfl ?_
      refine ops_v (rv_assign rfl rfl) (want_yes rfl) rfl rfl ?_
      refine ops_nil ?_
      intro a hA
      refine cw_seq ?_
      refine cw_ops hA ?_
      clear hA
      refine ops_v (rv_move rfl rfl) (want_yes rfl) rfl rfl ?_
      refine ops_v (rv_move rfl rfl) (want_yes rfl) rfl rfl ?_
      refine ops_v (rv_move rfl rfl) (want_yes rfl) rfl rfl ?_
      obtain ⟨x5, hx5, hG1⟩ := bindE hG1
      refine ops_v (rv_stri Try.underlying9 hx5 rfl rfl rfl) (want_yes rfl) rfl rfl ?_
      refine ops_v (rv_and rfl rfl rfl) (want_yes rfl) rfl rfl ?_
      refine ops_v (rv_conv Try.underlying5 Try.underlying3 rfl rfl) (want_yes rfl) rfl rfl ?_
      refine ops_v (rv_move rfl rfl) (want_yes rfl) rfl rfl ?_
      refine ops_v (rv_mul rfl rfl rfl) (want_yes rfl) rfl rfl ?_
      refine ops_v (rv_conv Try.underlying3 Try.underlying92 rfl rfl) (want_yes rfl) rfl rfl ?_
      obtain ⟨hn1, hG1⟩ := needE hG1
      refine ops_v (rv_shl rfl rfl rfl hn1) (want_yes rfl) rfl rfl ?_
      refine ops_v (rv_or rfl rfl rfl) (want_yes rfl) rfl rfl ?_
      refine ops_v (rv_assign rfl rfl) (want_yes rfl) rfl rfl ?_
      refine ops_nil ?_
      intro a hA
      refine cw_seq ?_
      refine cw_ops hA ?_
      clear hA
      refine ops_v (rv_move rfl rfl) (want_yes rfl) rfl rfl ?_
      refine ops_v (rv_move rfl rfl) (want_yes rfl) rfl rfl ?_
      obtain ⟨x6, hx6, hG1⟩ := bindE hG1
      refine ops_v (rv_stri Try.underlying9 hx6 rfl rfl rfl) (want_yes rfl) rfl rfl ?_
      refine ops_v (rv_lss rfl rfl rfl) (want_yes rfl) rfl rfl ?_
      refine ops_nil ?_
      intro a hA
      refine cw_cond hA rfl (fun hc2 => ?_) (fun hc2 => ?_)
      · replace hG1 := iteT hc2 hG1
        refine cw_seq ?_
        refine cw_seq ?_
        refine cw_cut (J := fun a' w' => ∃ (x7 : Bool), impl_ReadVar_j2 x3 x4 x5 x7 = some q1 ∧ AEnv 39 [(4, .int .i64 (bitsOp .or .i64 x3 (shlOp .i64 (IntKind.i64.wrap (bitsOp .and .u8 ((x5.toNat : Int)) ((((127 : UInt8)).toNat : Int)))) (IntKind.u64.wrap (w64 (7 * x4)))))), (5, .int .i64 (x4)), (34, .bool (x7))] a' ∧ St (cxAll w0) w' [] []) ?_ ?_
        · skip
          refine cw_ops hA ?_
          clear hA
          refine ops_v (rv_move rfl rfl) (want_yes rfl) rfl rfl ?_
          refine ops_v (rv_gtr rfl rfl rfl) (want_yes rfl) rfl rfl ?_
          refine ops_v (rv_move rfl rfl) (want_yes rfl) rfl rfl ?_
          refine ops_case (s := 29) rfl (fun hc4 => ?_) (fun hc4 => ?_)
          · replace hG1 := iteT hc4 hG1
            refine ops_v (rv_move rfl rfl) (want_if rfl rfl rfl (by rw [hc4]; rfl)) rfl rfl ?_
            refine ops_v (rv_move rfl rfl) (want_if rfl rfl rfl (by rw [hc4]; rfl)) rfl rfl ?_
            obtain ⟨x8, hx8, hG1⟩ := bindE hG1
            refine ops_v (rv_stri Try.underlying9 hx8 rfl rfl rfl) (want_if rfl rfl rfl (by rw [hc4]; rfl)) rfl rfl ?_
            refine ops_v (rv_eql rfl rfl rfl) (want_if rfl rfl rfl (by rw [hc4]; rfl)) rfl rfl ?_
            refine ops_v (rv_pick_t rfl rfl hc4 rfl) (want_yes rfl) rfl rfl ?_
            refine ops_nil ?_
            intro a hA
            exact ⟨((x8.toNat : Int)) == ((((0 : UInt8)).toNat : Int)), hG1, hA.part ⟨rfl, rfl, rfl, trivial⟩, ((hS).sel [] rfl).selR [] rfl⟩
          · replace hG1 := iteF hc4 hG1
            refine ops_off (want_if rfl rfl rfl (by rw [hc4]; rfl)) rfl rfl ?_
            refine ops_off (want_if rfl rfl rfl (by rw [hc4]; rfl)) rfl rfl ?_
            refine ops_off (want_if rfl rfl rfl (by rw [hc4]; rfl)) rfl rfl ?_
            refine ops_off (want_if rfl rfl rfl (by rw [hc4]; rfl)) rfl rfl ?_
            refine ops_v (rv_pick_f rfl rfl hc4 rfl) (want_yes rfl) rfl rfl ?_
            refine ops_nil ?_
            intro a hA
            exact ⟨false, hG1, hA.part ⟨rfl, rfl, rfl, trivial⟩, ((hS).sel [] rfl).selR [] rfl⟩
        · skip
          clear hA hS hG1
          rintro a w ⟨x7, hG1, hA, hS⟩
          unfold impl_ReadVar_j2 at hG1
          refine cw_cond hA rfl (fun hc3 => ?_) (fun hc3 => ?_)
          · replace hG1 := iteT hc3 hG1
            refine cw_exit ?_
            refine xcons_miss rfl ?_
            refine xcons_hit ?_
            cases hG1
            have ho := hr1 _ rfl; subst ho
            exact ⟨rfl, hA.part trivial, ((hS).sel [] rfl).selR [] rfl⟩
          · replace hG1 := iteF hc3 hG1
            refine cw_skip ?_
            refine cw_seq ?_
            refine cw_ops hA ?_
            clear hA
            refine ops_v (rv_move rfl rfl) (want_yes rfl) rfl rfl ?_
            refine ops_v (rv_move rfl rfl) (want_yes rfl) rfl rfl ?_
            refine ops_v (rv_add rfl rfl rfl) (want_yes rfl) rfl rfl ?_
            refine ops_v (rv_assign rfl rfl) (want_yes rfl) rfl rfl ?_
            refine ops_v (rv_assign rfl rfl) (want_yes rfl) rfl rfl ?_
            refine ops_nil ?_
            intro a hA
            refine cw_ret ?_
            cases hG1
            have ho := hr1 _ rfl; subst ho
            replace hF : some ((bitsOp .or .i64 x3 (shlOp .i64 (IntKind.i64.wrap (bitsOp .and .u8 ((x5.toNat : Int)) ((((127 : UInt8)).toNat : Int)))) (IntKind.u64.wrap (w64 (7 * x4)))), w64 (x4 + 1))) = some r := hF
            cases hF
            exact fin2 Try.results90 hA (res_tmp rfl) (res_tmp rfl) ⟨rfl, (hS.sel [] rfl).weaken (R' := []) (fun _ h => nomatch h)⟩
      · replace hG1 := iteF hc2 hG1
        refine cw_skip ?_
        refine cw_ops hA ?_
        clear hA
        refine ops_v (rv_add rfl rfl rfl) (want_yes rfl) rfl rfl ?_
        refine ops_v (rv_move rfl rfl) (want_yes rfl) rfl rfl ?_
        refine ops_nil ?_
        intro a hA
        cases hG1
        exact ⟨_, rfl, ⟨hA.part ⟨rfl, rfl, rfl, rfl, trivial⟩, ((hS).sel [] rfl).selR [] rfl⟩⟩
    · replace hG1 := iteF hc1 hG1
      refine cw_exit ?_
      refine xcons_hit ?_
      cases hG1
      have ho := hr1 _ rfl; subst ho
      exact ⟨rfl, hA.part trivial, ((hS).sel [] rfl).selR [] rfl⟩
  · skip
    clear hA hS hl1
    rintro a w ⟨heq, hA, hS⟩
    replace hF : impl_ReadVar_j1 = some r := by rw [heq] at hF; exact hF
    clear heq
    unfold impl_ReadVar_j1 at hF
    refine cw_seq ?_
    refine cw_ops hA ?_
    clear hA
    refine ops_v (rv_assign rfl rfl) (want_yes rfl) rfl rfl ?_
    refine ops_v (rv_assign rfl rfl) (want_yes rfl) rfl rfl ?_
    refine ops_nil ?_
    intro a hA
    refine cw_ret ?_
    cases hF
    exact fin2 Try.results90 hA (res_tmp rfl) (res_tmp rfl) ⟨rfl, (hS.sel [] rfl).weaken (R' := []) (fun _ h => nomatch h)⟩

set_option maxHeartbeats 4000000 in
set_option maxRecDepth 100000 in
theorem c_impl_reader_number {c : Ctx} {w0 : World} {r_ : Reader} {b1 z1 : Nat} {r : Int × Reader} (hS : St c w0 [cAt b1 z1 [sv (r_.left.b), .bool (r_.bad)]] []) (hF : impl_reader_number r_ = some r) :
    Calls Try.prog 71 #[.pointer (some ⟨b1, z1, none⟩)] w0 (Ret fun v w' => v = .int .i64 (r.1) ∧ St (c) w' [cAt b1 z1 [sv (r.2.left.b), .bool (r.2.bad)]] []) := by
  refine calls_cw (args := [_]) Try.func71 rfl Try.ntmps71 rfl ?_
  unfold impl_reader_number at hF
  intro a hA
  refine cw_seq ?_
  refine cw_ops hA ?_
  clear hA
  refine ops_v (rv_assign rfl rfl) (want_yes rfl) rfl rfl ?_
  refine ops_nil ?_
  intro a hA
  refine cw_seq ?_
  refine cw_ops hA ?_
  clear hA
  refine ops_v (rv_move rfl rfl) (want_yes rfl) rfl rfl ?_
  refine ops_v (rv_nil rfl rfl) (want_yes rfl) rfl rfl ?_
  refine ops_v (rv_fld (m := 0) Try.underlying60 rfl rfl Try.sizeOf9 rfl rfl) (want_yes rfl) rfl rfl ?_
  refine ops_v (rv_load1 rfl rfl Try.isAgg9 (hS.acell (q := z1) (j := 0) 0 rfl rfl)) (want_yes rfl) rfl rfl ?_
  obtain ⟨x1, hx1, hF⟩ := bindE hF
  refine ops_c (rc_call Try.call90 rfl rfl) (want_yes rfl) rfl rfl (c_impl_ReadVar (s := r_.left.b)  hx1) ?_
  rintro _ w ⟨rfl, hk⟩
  replace hS := hS.after hk; clear hk
  refine ops_v (rv_move rfl rfl) (want_yes rfl) rfl rfl ?_
  refine ops_v (rv_extract rfl rfl rfl) (want_yes rfl) rfl rfl ?_
  refine ops_v (rv_extract rfl rfl rfl) (want_yes rfl) rfl rfl ?_
  refine ops_v (rv_assign rfl rfl) (want_yes rfl) rfl rfl ?_
  refine ops_v (rv_assign rfl rfl) (want_yes rfl) rfl rfl ?_
  refine ops_nil ?_
  intro a hA
  refine cw_seq ?_
  refine cw_cut (J := fun a' w' => ∃ (x2 : Bool), impl_reader_number_j1 r_ x1 x2 = some r ∧ AEnv 34 [(0, .pointer (some ⟨b1, z1, none⟩)), (3, .int .i64 (x1.1)), (4, .int .i64 (x1.2))] a' ∧ St (c) w' [cAt b1 z1 [sv (r_.left.b), .bool (x2)]] []) ?_ ?_
  · skip
    refine cw_ops hA ?_
    clear hA
    refine ops_v (rv_move rfl rfl) (want_yes rfl) rfl rfl ?_
    refine ops_v (rv_move rfl rfl) (want_yes rfl) rfl rfl ?_
    refine ops_v (rv_nil rfl rfl) (want_yes rfl) rfl rfl ?_
    refine ops_v (rv_fld (m := 0) Try.underlying60 rfl rfl Try.sizeOf4 rfl rfl) (want_yes rfl) rfl rfl ?_
    refine ops_v (rv_load1 rfl rfl Try.isAgg4 (hS.acell (q := z1) (j := 1) 0 rfl rfl)) (want_yes rfl) rfl rfl ?_
    refine ops_v (rv_move rfl rfl) (want_yes rfl) rfl rfl ?_
    refine ops_case (s := 18) rfl (fun hc1 => ?_) (fun hc1 => ?_)
    · replace hF := iteT hc1 hF
      refine ops_off (want_if rfl rfl rfl (by rw [hc1]; rfl)) rfl rfl ?_
      refine ops_off (want_if rfl rfl rfl (by rw [hc1]; rfl)) rfl rfl ?_
      refine ops_v (rv_pick_t rfl rfl hc1 rfl) (want_yes rfl) rfl rfl ?_
      refine ops_v (rv_nil rfl rfl) (want_yes rfl) rfl rfl ?_
      refine ops_v (rv_fld (m := 0) Try.underlying60 rfl rfl Try.sizeOf4 rfl rfl) (want_yes rfl) rfl rfl ?_
      refine ops_ms (rs_at (vs := [.bool (true)]) (q := z1) (j := 1) hS (i := 0) rfl rfl rfl rfl rfl Try.sizeOf4 rfl rfl rfl) (want_yes rfl) rfl ?_
      clear hS
      intro w hS
      refine ops_nil ?_
      intro a hA
      exact ⟨true, hF, hA.part ⟨rfl, rfl, rfl, trivial⟩, ((hS).sel [0] rfl).selR [] rfl⟩
    · replace hF := iteF hc1 hF
      refine ops_v (rv_move rfl rfl) (want_if rfl rfl rfl (by rw [hc1]; rfl)) rfl rfl ?_
      refine ops_v (rv_eql rfl rfl rfl) (want_if rfl rfl rfl (by rw [hc1]; rfl)) rfl rfl ?_
      refine ops_v (rv_pick_f rfl rfl hc1 rfl) (want_yes rfl) rfl rfl ?_
      refine ops_v (rv_nil rfl rfl) (want_yes rfl) rfl rfl ?_
      refine ops_v (rv_fld (m := 0) Try.underlying60 rfl rfl Try.sizeOf4 rfl rfl) (want_yes rfl) rfl rfl ?_
      refine ops_ms (rs_at (vs := [.bool (x1.2 == 0)]) (q := z1) (j := 1) hS (i := 0) rfl rfl rfl rfl rfl Try.sizeOf4 rfl rfl rfl) (want_yes rfl) rfl ?_
      clear hS
      intro w hS
      refine ops_nil ?_
      intro a hA
      exact ⟨x1.2 == 0, hF, hA.part ⟨rfl, rfl, rfl, trivial⟩, ((hS).sel [0] rfl).selR [] rfl⟩
  · skip
    clear hA hS hF
    rintro a w ⟨x2, hF, hA, hS⟩
    unfold impl_reader_number_j1 at hF
    refine cw_seq ?_
    refine cw_ops hA ?_
    clear hA
    refine ops_v (rv_move rfl rfl) (want_yes rfl) rfl rfl ?_
    refine ops_v (rv_move rfl rfl) (want_yes rfl) rfl rfl ?_
    refine ops_v (rv_nil rfl rfl) (want_yes rfl) rfl rfl ?_
    refine ops_v (rv_fld (m := 0) Try.underlying60 rfl rfl Try.sizeOf9 rfl rfl) (want_yes rfl) rfl rfl ?_
    refine ops_v (rv_load1 rfl rfl Try.isAgg9 (hS.acell (q := z1) (j := 0) 0 rfl rfl)) (want_yes rfl) rfl rfl ?_
    refine ops_v (rv_move rfl rfl) (want_yes rfl) rfl rfl ?_
    obtain ⟨hn1, hF⟩ := needE hF
    refine ops_v (rv_str_l Try.underlying9 hn1 rfl rfl rfl) (want_yes rfl) rfl rfl ?_
    refine ops_v (rv_nil rfl rfl) (want_yes rfl) rfl rfl ?_
    refine ops_v (rv_fld (m := 0) Try.underlying60 rfl rfl Try.sizeOf9 rfl rfl) (want_yes rfl) rfl rfl ?_
    refine ops_ms (rs_at (vs := [sv (r_.left.b.drop (x1.2.toNat))]) (q := z1) (j := 0) hS (i := 0) rfl rfl rfl rfl rfl Try.sizeOf9 rfl rfl rfl) (want_yes rfl) rfl ?_
    clear hS
    intro w hS
    refine ops_nil ?_
    intro a hA
    refine cw_seq ?_
    refine cw_ops hA ?_
    clear hA
    refine ops_v (rv_move rfl rfl) (want_yes rfl) rfl rfl ?_
    refine ops_v (rv_assign rfl rfl) (want_yes rfl) rfl rfl ?_
    refine ops_nil ?_
    intro a hA
    refine cw_ret ?_
    cases hF
    exact fin1 Try.results71 hA (res_tmp rfl) ⟨rfl, (hS.sel [0] rfl).weaken (R' := []) (fun _ h => nomatch h)⟩

set_option maxHeartbeats 4000000 in
set_option maxRecDepth 100000 in
theorem c_impl_reader_count {c : Ctx} {w0 : World} {r_ : Reader} {b1 z1 : Nat} {r : Int × Reader} (hS : St c w0 [cAt b1 z1 [sv (r_.left.b), .bool (r_.bad)]] []) (hF : impl_reader_count r_ = some r) :
    Calls Try.prog 70 #[.pointer (some ⟨b1, z1, none⟩)] w0 (Ret fun v w' => v = .int .i64 (r.1) ∧ St (c) w' [cAt b1 z1 [sv (r.2.left.b), .bool (r.2.bad)]] []) := by
  refine calls_cw (args := [_]) Try.func70 rfl Try.ntmps70 rfl ?_
  unfold impl_reader_count at hF
  intro a hA
  refine cw_seq ?_
  refine cw_ops hA ?_
  clear hA
  refine ops_v (rv_assign rfl rfl) (want_yes rfl) rfl rfl ?_
  refine ops_nil ?_
  intro a hA
  refine cw_seq ?_
  refine cw_ops hA ?_
  clear hA
  refine ops_v (rv_move rfl rfl) (want_yes rfl) rfl rfl ?_
  obtain ⟨c1, hg, hb⟩ := hS.give [0] rfl rfl
  obtain ⟨x1, hx1, hF⟩ := bindE hF
  refine ops_c (rc_call Try.call71 rfl rfl) (want_yes rfl) rfl rfl (c_impl_reader_number (c := c1) (r_ := r_) (b1 := b1) (z1 := z1) (hg _ all_nil) hx1) ?_
  rintro _ w ⟨rfl, hk⟩
  replace hS := hb _ _ _ hk; clear hk hg hb
  refine ops_v (rv_assign rfl rfl) (want_yes rfl) rfl rfl ?_
  refine ops_nil ?_
  intro a hA
  refine cw_seq ?_
  refine cw_seq ?_
  refine cw_ops hA ?_
  clear hA
  refine ops_v (rv_move rfl rfl) (want_yes rfl) rfl rfl ?_
  refine ops_v (rv_move rfl rfl) (want_yes rfl) rfl rfl ?_
  refine ops_v (rv_nil rfl rfl) (want_yes rfl) rfl rfl ?_
  refine ops_v (rv_fld (m := 0) Try.underlying60 rfl rfl Try.sizeOf9 rfl rfl) (want_yes rfl) rfl rfl ?_
  refine ops_v (rv_load1 rfl rfl Try.isAgg9 (hS.acell (q := z1) (j := 0) 1 rfl rfl)) (want_yes rfl) rfl rfl ?_
  refine ops_v (rv_lens Try.underlying9 rfl rfl) (want_yes rfl) rfl rfl ?_
  refine ops_v (rv_gtr rfl rfl rfl) (want_yes rfl) rfl rfl ?_
  refine ops_nil ?_
  intro a hA
  refine cw_cond hA rfl (fun hc1 => ?_) (fun hc1 => ?_)
  · replace hF := iteT hc1 hF
    refine cw_seq ?_
    refine cw_ops hA ?_
    clear hA
    refine ops_v (rv_move rfl rfl) (want_yes rfl) rfl rfl ?_
    refine ops_v (rv_nil rfl rfl) (want_yes rfl) rfl rfl ?_
    refine ops_v (rv_fld (m := 0) Try.underlying60 rfl rfl Try.sizeOf4 rfl rfl) (want_yes rfl) rfl rfl ?_
    refine ops_ms (rs_at (vs := [.bool (true)]) (q := z1) (j := 1) hS (i := 1) rfl rfl rfl rfl rfl Try.sizeOf4 rfl rfl rfl) (want_yes rfl) rfl ?_
    clear hS
    intro w hS
    refine ops_nil ?_
    intro a hA
    refine cw_seq ?_
    refine cw_ops hA ?_
    clear hA
    refine ops_v (rv_assign rfl rfl) (want_yes rfl) rfl rfl ?_
    refine ops_nil ?_
    intro a hA
    refine cw_ret ?_
    cases hF
    exact fin1 Try.results70 hA (res_tmp rfl) ⟨rfl, (hS.sel [1] rfl).weaken (R' := []) (fun _ h => nomatch h)⟩
  · replace hF := iteF hc1 hF
    refine cw_skip ?_
    refine cw_seq ?_
    refine cw_ops hA ?_
    clear hA
    refine ops_v (rv_move rfl rfl) (want_yes rfl) rfl rfl ?_
    refine ops_v (rv_assign rfl rfl) (want_yes rfl) rfl rfl ?_
    refine ops_nil ?_
    intro a hA
    refine cw_ret ?_
    cases hF
    exact fin1 Try.results70 hA (res_tmp rfl) ⟨rfl, (hS.sel [1] rfl).weaken (R' := []) (fun _ h => nomatch h)⟩

set_option maxHeartbeats 4000000 in
set_option maxRecDepth 100000 in
theorem c_impl_reader_list {c : Ctx} {w0 : World} {r_ : Reader} {b1 z1 : Nat} {r : SList × Reader} (hS : St c w0 [cAt b1 z1 [sv (r_.left.b), .bool (r_.bad)]] []) (hF : impl_reader_list r_ = some r) :
    Calls Try.prog 47 #[.pointer (some ⟨b1, z1, none⟩)] w0 (Ret fun v w' => ∃ (s0_0 : Value), v = .agg #[s0_0] ∧ St (c) w' [cOwn [s0_0] (r.1.Slots : List Int), cAt b1 z1 [sv (r.2.left.b), .bool (r.2.bad)]] []) := by
  refine calls_cw (args := [_]) Try.func47 rfl Try.ntmps47 rfl ?_
  unfold impl_reader_list at hF
  intro a hA
  refine cw_seq ?_
  refine cw_ops hA ?_
  clear hA
  refine ops_mv (rv_alloc (cs := [(.slice none 0 0)]) hS rfl Try.zeroValue53 rfl) (want_yes rfl) rfl rfl ?_
  clear hS
  rintro _ w ⟨b2, rfl, hS⟩
  refine ops_nil ?_
  intro a hA
  refine cw_seq ?_
  refine cw_ops hA ?_
  clear hA
  refine ops_v (rv_build (cells := #[(.slice none 0 0)]) rfl Try.zeroValue53 Try.underlying53 (by have h := places_Try53; rw [Try.underlying53] at h; exact h) rfl rfl) (want_yes rfl) rfl rfl ?_
  refine ops_mv (rv_alloc (cs := [(.slice none 0 0)]) hS rfl Try.zeroValue53 rfl) (want_yes rfl) rfl rfl ?_
  clear hS
  rintro _ w ⟨b3, rfl, hS⟩
  refine ops_ms (rs_box (vs := [(.slice none 0 0)]) hS (i := 2) rfl rfl rfl rfl rfl Try.sizeOf53 rfl rfl rfl) (want_yes rfl) rfl ?_
  clear hS
  intro w hS
  refine ops_nil ?_
  intro a hA
  refine cw_seq ?_
  refine cw_seq ?_
  refine cw_ops hA ?_
  clear hA
  refine ops_v (rv_move rfl rfl) (want_yes rfl) rfl rfl ?_
  obtain ⟨c1, hg, hb⟩ := hS.give [0] rfl rfl
  obtain ⟨x1, hx1, hF⟩ := bindE hF
  refine ops_c (rc_call Try.call70 rfl rfl) (want_yes rfl) rfl rfl (c_impl_reader_count (c := c1) (r_ := r_) (b1 := b1) (z1 := z1) (hg _ all_nil) hx1) ?_
  rintro _ w ⟨rfl, hk⟩
  replace hS := hb _ _ _ hk; clear hk hg hb
  refine ops_v (rv_move rfl rfl) (want_yes rfl) rfl rfl ?_
  refine ops_nil ?_
  intro a hA
  obtain ⟨o1, hl1, hF⟩ := bindE hF
  refine cw_cut (J := fun a' w' => ∃ (x10 : List UInt8) (x11 : Bool) (x12 : List Int) (s3 : Value), o1 = (x10, x11, x12) ∧ AEnv 18 [(0, .pointer (some ⟨b1, z1, none⟩)), (2, .pointer (some ⟨b2, 0, none⟩)), (3, .pointer (some ⟨b3, 0, none⟩))] a' ∧ St (c) w' [cAt b1 z1 [sv (x10), .bool (x11)], cBox b2 [(.slice none 0 0)], cOwn [s3] (x12 : List Int), cBox b3 [s3]] []) ?_ ?_
  · refine cw_block ?_
    refine cw_loop (body := impl_reader_list_l1 x1) (r := o1) (fun sg a' w' => ∃ (s2 : Value), AEnv 18 [(0, .pointer (some ⟨b1, z1, none⟩)), (2, .pointer (some ⟨b2, 0, none⟩)), (3, .pointer (some ⟨b3, 0, none⟩)), (6, .int .i64 (x1.1)), (7, .int .i64 (sg.1))] a' ∧ St (c) w' [cAt b1 z1 [sv (sg.2.1), .bool (sg.2.2.1)], cBox b2 [(.slice none 0 0)], cOwn [s2] (sg.2.2.2 : List Int), cBox b3 [s2]] []) ?_ hl1 ⟨(.slice none 0 0), hA.part ⟨rfl, rfl, rfl, rfl, rfl, trivial⟩, (((hS).nilOwn (α := Int)).sel [3, 1, 4, 2] rfl).selR [] rfl⟩
    clear hA hS hl1
    rintro ⟨x6, x7, x8, x9⟩ a w q1 ⟨s2, hA, hS⟩ hG1 hr1
    try dsimp only at hA hS
    unfold impl_reader_list_l1 at hG1
    refine cw_seq ?_
    refine cw_ops hA ?_
    clear hA
    refine ops_v (rv_lss rfl rfl rfl) (want_yes rfl) rfl rfl ?_
    refine ops_nil ?_
    intro a hA
    refine cw_seq ?_
    refine cw_cond hA rfl (fun hc1 => ?_) (fun hc1 => ?_)
    · replace hG1 := iteT hc1 hG1
      refine cw_skip ?_
      refine cw_seq ?_
      refine cw_cut (J := fun a' w' => ∃ (x13 : List UInt8) (x14 : Bool) (x15 : List Int) (s4 : Value), impl_reader_list_j2 x6 x13 x14 x15 = some q1 ∧ AEnv 18 [(0, .pointer (some ⟨b1, z1, none⟩)), (2, .pointer (some ⟨b2, 0, none⟩)), (3, .pointer (some ⟨b3, 0, none⟩)), (6, .int .i64 (x1.1)), (7, .int .i64 (x6))] a' ∧ St (c) w' [cAt b1 z1 [sv (x13), .bool (x14)], cBox b2 [(.slice none 0 0)], cOwn [s4] (x15 : List Int), cBox b3 [s4]] []) ?_ ?_
      · skip
        refine cw_block ?_
        refine cw_any (Keeps (c) [cNo, cBox b2 [(.slice none 0 0)], cNo, cNo] []) mixed_Try hA hS ?_
        clear hA hS; intro w hS
        have hK : Keeps (c) [cNo, cBox b2 [(.slice none 0 0)], cNo, cNo] [] w := ⟨_, (hS.sel [900000, 1, 900002, 900003] rfl).selR [] rfl⟩
        refine any_v 0 (by kernel_rfl) rfl (by kernel_rfl) (by kernel_rfl) hK (fun _ _ => (rv_fld (m := 0) Try.underlying53 rfl rfl Try.sizeOf22 rfl rfl)) (want_yes rfl) rfl rfl ?_
        refine any_v 2 (by kernel_rfl) rfl (by kernel_rfl) (by kernel_rfl) hK (fun _ _ => (rv_move rfl rfl)) (want_yes rfl) rfl rfl ?_
        obtain ⟨x16, hx16, hG1⟩ := bindE hG1
        obtain ⟨hn1, hG1⟩ := needE hG1
        refine any_2 (i := 1) (j := 3) (by kernel_rfl) ?_ ?_
        · skip
          refine as_v rfl (rv_load1 rfl rfl Try.isAgg22 (hS.cell 3 rfl rfl)) (want_yes rfl) rfl rfl hK ?_
          refine any_1 (i := 3) (by kernel_rfl) ?_
          obtain ⟨c2, hg, hb⟩ := hS.give [0] rfl rfl
          refine as_c rfl (rc_call Try.call71 rfl rfl) (want_yes rfl) rfl rfl (c_impl_reader_number (c := c2) (r_ := (⟨(⟨x7⟩ : GStr), x8⟩ : Reader)) (b1 := b1) (z1 := z1) (hg _ all_nil) hx16) ?_
          clear hK; rintro _ w ⟨rfl, hk⟩
          replace hS := hb _ _ _ hk; clear hk hg hb
          have hK : Keeps (c) [cNo, cBox b2 [(.slice none 0 0)], cNo, cNo] [] w := ⟨_, (hS.sel [900000, 1, 900002, 900003] rfl).selR [] rfl⟩
          refine ⟨hK, ?_⟩
          refine any_1 (i := 4) (by kernel_rfl) ?_
          refine as_mv rfl (rv_lit1 (x16.1 : Int) hS rfl Try.underlying22 inf_Try3 rfl rfl rfl rfl) (want_yes rfl) rfl rfl ?_
          clear hS
          clear hK; rintro s5 w hS
          have hK : Keeps (c) [cNo, cBox b2 [(.slice none 0 0)], cNo, cNo] [] w := ⟨_, (hS.sel [900000, 1, 900002, 900003] rfl).selR [] rfl⟩
          refine ⟨hK, ?_⟩
          refine any_1 (i := 5) (by kernel_rfl) ?_
          refine as_mv rfl (rv_append (α := Int) 2 hS rfl (hS.rdOwn 5 rfl) rfl Try.underlying22 inf_Try3 rfl hn1 rfl rfl rfl) (want_yes rfl) rfl rfl ?_
          clear hS
          clear hK; rintro s6 w hS
          have hK : Keeps (c) [cNo, cBox b2 [(.slice none 0 0)], cNo, cNo] [] w := ⟨_, (hS.sel [900000, 1, 900002, 900003] rfl).selR [] rfl⟩
          refine ⟨hK, ?_⟩
          refine any_v 6 (by kernel_rfl) rfl (by kernel_rfl) (by kernel_rfl) hK (fun _ _ => (rv_fld (m := 0) Try.underlying53 rfl rfl Try.sizeOf22 rfl rfl)) (want_yes rfl) rfl rfl ?_
          refine any_1 (i := 7) (by kernel_rfl) ?_
          refine as_ms rfl (rs_box (vs := [s6]) hS (i := 3) rfl rfl rfl rfl (cells_rd (hS.rdOwn 2 rfl)) Try.sizeOf22 rfl rfl (all1 (one_rd (hS.rdOwn 2 rfl)) rfl)) (want_yes rfl) rfl ?_
          clear hS
          clear hK; intro w hS
          have hK : Keeps (c) [cNo, cBox b2 [(.slice none 0 0)], cNo, cNo] [] w := ⟨_, (hS.sel [900000, 1, 900002, 900003] rfl).selR [] rfl⟩
          refine ⟨hK, ?_⟩
          refine any_done (by kernel_rfl) ?_
          intro a hA
          exact ⟨x16.2.left.b, x16.2.bad, x9 ++ ([x16.1]), s6, hG1, hA.part ⟨rfl, rfl, rfl, rfl, rfl, trivial⟩, ((hS).sel [4, 1, 2, 3] rfl).selR [] rfl⟩
        · skip
          obtain ⟨c2, hg, hb⟩ := hS.give [0] rfl rfl
          refine as_c rfl (rc_call Try.call71 rfl rfl) (want_yes rfl) rfl rfl (c_impl_reader_number (c := c2) (r_ := (⟨(⟨x7⟩ : GStr), x8⟩ : Reader)) (b1 := b1) (z1 := z1) (hg _ all_nil) hx16) ?_
          clear hK; rintro _ w ⟨rfl, hk⟩
          replace hS := hb _ _ _ hk; clear hk hg hb
          have hK : Keeps (c) [cNo, cBox b2 [(.slice none 0 0)], cNo, cNo] [] w := ⟨_, (hS.sel [900000, 1, 900002, 900003] rfl).selR [] rfl⟩
          refine ⟨hK, ?_⟩
          refine any_2 (i := 1) (j := 4) (by kernel_rfl) ?_ ?_
          · skip
            refine as_v rfl (rv_load1 rfl rfl Try.isAgg22 (hS.cell 3 rfl rfl)) (want_yes rfl) rfl rfl hK ?_
            refine any_1 (i := 4) (by kernel_rfl) ?_
            refine as_mv rfl (rv_lit1 (x16.1 : Int) hS rfl Try.underlying22 inf_Try3 rfl rfl rfl rfl) (want_yes rfl) rfl rfl ?_
            clear hS
            clear hK; rintro s5 w hS
            have hK : Keeps (c) [cNo, cBox b2 [(.slice none 0 0)], cNo, cNo] [] w := ⟨_, (hS.sel [900000, 1, 900002, 900003] rfl).selR [] rfl⟩
            refine ⟨hK, ?_⟩
            refine any_1 (i := 5) (by kernel_rfl) ?_
            refine as_mv rfl (rv_append (α := Int) 2 hS rfl (hS.rdOwn 5 rfl) rfl Try.underlying22 inf_Try3 rfl hn1 rfl rfl rfl) (want_yes rfl) rfl rfl ?_
            clear hS
            clear hK; rintro s6 w hS
            have hK : Keeps (c) [cNo, cBox b2 [(.slice none 0 0)], cNo, cNo] [] w := ⟨_, (hS.sel [900000, 1, 900002, 900003] rfl).selR [] rfl⟩
            refine ⟨hK, ?_⟩
            refine any_v 6 (by kernel_rfl) rfl (by kernel_rfl) (by kernel_rfl) hK (fun _ _ => (rv_fld (m := 0) Try.underlying53 rfl rfl Try.sizeOf22 rfl rfl)) (want_yes rfl) rfl rfl ?_
            refine any_1 (i := 7) (by kernel_rfl) ?_
            refine as_ms rfl (rs_box (vs := [s6]) hS (i := 3) rfl rfl rfl rfl (cells_rd (hS.rdOwn 2 rfl)) Try.sizeOf22 rfl rfl (all1 (one_rd (hS.rdOwn 2 rfl)) rfl)) (want_yes rfl) rfl ?_
            clear hS
            clear hK; intro w hS
            have hK : Keeps (c) [cNo, cBox b2 [(.slice none 0 0)], cNo, cNo] [] w := ⟨_, (hS.sel [900000, 1, 900002, 900003] rfl).selR [] rfl⟩
            refine ⟨hK, ?_⟩
            refine any_done (by kernel_rfl) ?_
            intro a hA
            exact ⟨x16.2.left.b, x16.2.bad, x9 ++ ([x16.1]), s6, hG1, hA.part ⟨rfl, rfl, rfl, rfl, rfl, trivial⟩, ((hS).sel [4, 1, 2, 3] rfl).selR [] rfl⟩
          · skip
            refine as_mv rfl (rv_lit1 (x16.1 : Int) hS rfl Try.underlying22 inf_Try3 rfl rfl rfl rfl) (want_yes rfl) rfl rfl ?_
            clear hS
            clear hK; rintro s5 w hS
            have hK : Keeps (c) [cNo, cBox b2 [(.slice none 0 0)], cNo, cNo] [] w := ⟨_, (hS.sel [900000, 1, 900002, 900003] rfl).selR [] rfl⟩
            refine ⟨hK, ?_⟩
            refine any_1 (i := 1) (by kernel_rfl) ?_
            refine as_v rfl (rv_load1 rfl rfl Try.isAgg22 (hS.cell 3 rfl rfl)) (want_yes rfl) rfl rfl hK ?_
            refine any_1 (i := 5) (by kernel_rfl) ?_
            refine as_mv rfl (rv_append (α := Int) 2 hS rfl (hS.rdOwn 5 rfl) rfl Try.underlying22 inf_Try3 rfl hn1 rfl rfl rfl) (want_yes rfl) rfl rfl ?_
            clear hS
            clear hK; rintro s6 w hS
            have hK : Keeps (c) [cNo, cBox b2 [(.slice none 0 0)], cNo, cNo] [] w := ⟨_, (hS.sel [900000, 1, 900002, 900003] rfl).selR [] rfl⟩
            refine ⟨hK, ?_⟩
            refine any_v 6 (by kernel_rfl) rfl (by kernel_rfl) (by kernel_rfl) hK (fun _ _ => (rv_fld (m := 0) Try.underlying53 rfl rfl Try.sizeOf22 rfl rfl)) (want_yes rfl) rfl rfl ?_
            refine any_1 (i := 7) (by kernel_rfl) ?_
            refine as_ms rfl (rs_box (vs := [s6]) hS (i := 3) rfl rfl rfl rfl (cells_rd (hS.rdOwn 2 rfl)) Try.sizeOf22 rfl rfl (all1 (one_rd (hS.rdOwn 2 rfl)) rfl)) (want_yes rfl) rfl ?_
            clear hS
            clear hK; intro w hS
            have hK : Keeps (c) [cNo, cBox b2 [(.slice none 0 0)], cNo, cNo] [] w := ⟨_, (hS.sel [900000, 1, 900002, 900003] rfl).selR [] rfl⟩
            refine ⟨hK, ?_⟩
            refine any_done (by kernel_rfl) ?_
            intro a hA
            exact ⟨x16.2.left.b, x16.2.bad, x9 ++ ([x16.1]), s6, hG1, hA.part ⟨rfl, rfl, rfl, rfl, rfl, trivial⟩, ((hS).sel [4, 1, 2, 3] rfl).selR [] rfl⟩
      · skip
        clear hA hS hG1
        rintro a w ⟨x13, x14, x15, s4, hG1, hA, hS⟩
        unfold impl_reader_list_j2 at hG1
        refine cw_ops hA ?_
        clear hA
        refine ops_v (rv_add rfl rfl rfl) (want_yes rfl) rfl rfl ?_
        refine ops_v (rv_move rfl rfl) (want_yes rfl) rfl rfl ?_
        refine ops_nil ?_
        intro a hA
        cases hG1
        exact ⟨_, rfl, ⟨s4, hA.part ⟨rfl, rfl, rfl, rfl, rfl, trivial⟩, ((hS).sel [0, 1, 2, 3] rfl).selR [] rfl⟩⟩
    · replace hG1 := iteF hc1 hG1
      refine cw_exit ?_
      refine xcons_hit ?_
      cases hG1
      have ho := hr1 _ rfl; subst ho
      exact ⟨x7, x8, x9, s2, rfl, hA.part ⟨rfl, rfl, rfl, trivial⟩, ((hS).sel [0, 1, 2, 3] rfl).selR [] rfl⟩
  · skip
    clear hA hS hl1
    rintro a w ⟨x10, x11, x12, s3, heq, hA, hS⟩
    replace hF : impl_reader_list_j1 x10 x11 x12 = some r := by rw [heq] at hF; exact hF
    clear heq
    unfold impl_reader_list_j1 at hF
    refine cw_seq ?_
    refine cw_ops hA ?_
    clear hA
    refine ops_v (rv_loadN rfl rfl Try.isAgg53 Try.sizeOf53 rfl (hS.cells 3 0 (cs' := [s3]) rfl rfl)) (want_yes rfl) rfl rfl ?_
    refine ops_ms (rs_box (vs := [s3]) hS (i := 1) rfl rfl rfl rfl rfl Try.sizeOf53 rfl rfl (all1 (one_rd (hS.rdOwn 2 rfl)) rfl)) (want_yes rfl) rfl ?_
    clear hS
    intro w hS
    refine ops_nil ?_
    intro a hA
    refine cw_ret ?_
    cases hF
    exact fin1 Try.results47 hA (res_cell rfl Try.isAgg53 Try.sizeOf53 rfl (hS.cells 1 0 (cs' := [s3]) rfl rfl)) ⟨s3, rfl, (hS.sel [2, 0] rfl).weaken (R' := []) (fun _ h => nomatch h)⟩

set_option maxHeartbeats 4000000 in
set_option maxRecDepth 100000 in
theorem c_impl_reader_mem {c : Ctx} {w0 : World} {r_ : Reader} {b1 z1 : Nat} {r : Mem × Reader} (hS : St c w0 [cAt b1 z1 [sv (r_.left.b), .bool (r_.bad)]] []) (hF : impl_reader_mem r_ = some r) :
    Calls Try.prog 25 #[.pointer (some ⟨b1, z1, none⟩)] w0 (Ret fun v w' => ∃ (s0_0 : Value) (s0_1 : Value) (s0_2 : Value) (s0_3 : Value), v = .agg #[s0_0, s0_1, s0_2, s0_3] ∧ St (c) w' [cOwn [s0_0] (r.1.Heap.Bytes : List Int), cOwn [s0_1] (r.1.Heap.Class : List Int), cOwn [s0_2] (r.1.Lists.Global : List SList), cOwn [s0_3] (r.1.Lists.Own : List SList), cAt b1 z1 [sv (r.2.left.b), .bool (r.2.bad)]] []) := by
  refine calls_cw (args := [_]) Try.func25 rfl Try.ntmps25 rfl ?_
  unfold impl_reader_mem at hF
  intro a hA
  refine cw_seq ?_
  refine cw_ops hA ?_
  clear hA
  refine ops_mv (rv_alloc (cs := [(.slice none 0 0), (.slice none 0 0), (.slice none 0 0), (.slice none 0 0)]) hS rfl Try.zeroValue37 rfl) (want_yes rfl) rfl rfl ?_
  clear hS
  rintro _ w ⟨b2, rfl, hS⟩
  refine ops_nil ?_
  intro a hA
  refine cw_seq ?_
  refine cw_ops hA ?_
  clear hA
  refine ops_v (rv_build (cells := #[(.slice none 0 0), (.slice none 0 0), (.slice none 0 0), (.slice none 0 0)]) rfl Try.zeroValue37 Try.underlying37 (by have h := places_Try37; rw [Try.underlying37] at h; exact h) rfl rfl) (want_yes rfl) rfl rfl ?_
  refine ops_mv (rv_alloc (cs := [(.slice none 0 0), (.slice none 0 0), (.slice none 0 0), (.slice none 0 0)]) hS rfl Try.zeroValue37 rfl) (want_yes rfl) rfl rfl ?_
  clear hS
  rintro _ w ⟨b3, rfl, hS⟩
  refine ops_ms (rs_box (vs := [(.slice none 0 0), (.slice none 0 0), (.slice none 0 0), (.slice none 0 0)]) hS (i := 2) rfl rfl rfl rfl rfl Try.sizeOf37 rfl rfl rfl) (want_yes rfl) rfl ?_
  clear hS
  intro w hS
  refine ops_nil ?_
  intro a hA
  refine cw_seq ?_
  refine cw_seq ?_
  refine cw_ops hA ?_
  clear hA
  refine ops_v (rv_move rfl rfl) (want_yes rfl) rfl rfl ?_
  refine ops_nil ?_
  intro a hA
  obtain ⟨o1, hl1, hF⟩ := bindE hF
  refine cw_cut (J := fun a' w' => ∃ (x9 : List UInt8) (x10 : Bool) (x11 : List Int) (s3 : Value), o1 = (x9, x10, x11) ∧ AEnv 55 [(0, .pointer (some ⟨b1, z1, none⟩)), (2, .pointer (some ⟨b2, 0, none⟩)), (3, .pointer (some ⟨b3, 0, none⟩))] a' ∧ St (c) w' [cAt b1 z1 [sv (x9), .bool (x10)], cBox b2 [(.slice none 0 0), (.slice none 0 0), (.slice none 0 0), (.slice none 0 0)], cOwn [s3] (x11 : List Int), cBox b3 [s3, (.slice none 0 0), (.slice none 0 0), (.slice none 0 0)]] []) ?_ ?_
  · refine cw_block ?_
    refine cw_loop (body := impl_reader_mem_l1) (r := o1) (fun sg a' w' => ∃ (s2 : Value), AEnv 55 [(0, .pointer (some ⟨b1, z1, none⟩)), (2, .pointer (some ⟨b2, 0, none⟩)), (3, .pointer (some ⟨b3, 0, none⟩)), (5, .int .i64 (sg.1))] a' ∧ St (c) w' [cAt b1 z1 [sv (sg.2.1), .bool (sg.2.2.1)], cBox b2 [(.slice none 0 0), (.slice none 0 0), (.slice none 0 0), (.slice none 0 0)], cOwn [s2] (sg.2.2.2 : List Int), cBox b3 [s2, (.slice none 0 0), (.slice none 0 0), (.slice none 0 0)]] []) ?_ hl1 ⟨(.slice none 0 0), hA.part ⟨rfl, rfl, rfl, rfl, trivial⟩, (((hS).nilOwn (α := Int)).sel [0, 1, 3, 2] rfl).selR [] rfl⟩
    clear hA hS hl1
    rintro ⟨x5, x6, x7, x8⟩ a w q1 ⟨s2, hA, hS⟩ hG1 hr1
    try dsimp only at hA hS
    unfold impl_reader_mem_l1 at hG1
    refine cw_seq ?_
    refine cw_ops hA ?_
    clear hA
    refine ops_v (rv_lss rfl rfl rfl) (want_yes rfl) rfl rfl ?_
    refine ops_nil ?_
    intro a hA
    refine cw_seq ?_
    refine cw_cond hA rfl (fun hc4 => ?_) (fun hc4 => ?_)
    · replace hG1 := iteT hc4 hG1
      refine cw_skip ?_
      refine cw_seq ?_
      refine cw_cut (J := fun a' w' => ∃ (x57 : List UInt8) (x58 : Bool) (x59 : List Int) (s24 : Value), impl_reader_mem_j8 x5 x57 x58 x59 = some q1 ∧ AEnv 55 [(0, .pointer (some ⟨b1, z1, none⟩)), (2, .pointer (some ⟨b2, 0, none⟩)), (3, .pointer (some ⟨b3, 0, none⟩)), (5, .int .i64 (x5))] a' ∧ St (c) w' [cAt b1 z1 [sv (x57), .bool (x58)], cBox b2 [(.slice none 0 0), (.slice none 0 0), (.slice none 0 0), (.slice none 0 0)], cOwn [s24] (x59 : List Int), cBox b3 [s24, (.slice none 0 0), (.slice none 0 0), (.slice none 0 0)]] []) ?_ ?_
      · skip
        refine cw_block ?_
        refine cw_any (Keeps (c) [cNo, cBox b2 [(.slice none 0 0), (.slice none 0 0), (.slice none 0 0), (.slice none 0 0)], cNo, cNo] []) mixed_Try hA hS ?_
        clear hA hS; intro w hS
        have hK : Keeps (c) [cNo, cBox b2 [(.slice none 0 0), (.slice none 0 0), (.slice none 0 0), (.slice none 0 0)], cNo, cNo] [] w := ⟨_, (hS.sel [900000, 1, 900002, 900003] rfl).selR [] rfl⟩
        refine any_v 0 (by kernel_rfl) rfl (by kernel_rfl) (by kernel_rfl) hK (fun _ _ => (rv_fld (m := 1) Try.underlying37 rfl rfl Try.sizeOf32 rfl rfl)) (want_yes rfl) rfl rfl ?_
        refine any_v 1 (by kernel_rfl) rfl (by kernel_rfl) (by kernel_rfl) hK (fun _ _ => (rv_fld (m := 0) Try.underlying32 rfl rfl Try.sizeOf22 rfl rfl)) (want_yes rfl) rfl rfl ?_
        refine any_v 3 (by kernel_rfl) rfl (by kernel_rfl) (by kernel_rfl) hK (fun _ _ => (rv_move rfl rfl)) (want_yes rfl) rfl rfl ?_
        obtain ⟨x60, hx60, hG1⟩ := bindE hG1
        obtain ⟨hn4, hG1⟩ := needE hG1
        refine any_2 (i := 2) (j := 4) (by kernel_rfl) ?_ ?_
        · skip
          refine as_v rfl (rv_load1 rfl rfl Try.isAgg22 (hS.cell 3 rfl rfl)) (want_yes rfl) rfl rfl hK ?_
          refine any_1 (i := 4) (by kernel_rfl) ?_
          obtain ⟨c4, hg, hb⟩ := hS.give [0] rfl rfl
          refine as_c rfl (rc_call Try.call46 rfl rfl) (want_yes rfl) rfl rfl (c_impl_reader_byte (c := c4) (r_ := (⟨(⟨x6⟩ : GStr), x7⟩ : Reader)) (b1 := b1) (z1 := z1) (hg _ all_nil) hx60) ?_
          clear hK; rintro _ w ⟨rfl, hk⟩
          replace hS := hb _ _ _ hk; clear hk hg hb
          have hK : Keeps (c) [cNo, cBox b2 [(.slice none 0 0), (.slice none 0 0), (.slice none 0 0), (.slice none 0 0)], cNo, cNo] [] w := ⟨_, (hS.sel [900000, 1, 900002, 900003] rfl).selR [] rfl⟩
          refine ⟨hK, ?_⟩
          refine any_1 (i := 5) (by kernel_rfl) ?_
          refine as_mv rfl (rv_lit1 (x60.1 : Int) hS rfl Try.underlying22 inf_Try3 rfl rfl rfl rfl) (want_yes rfl) rfl rfl ?_
          clear hS
          clear hK; rintro s25 w hS
          have hK : Keeps (c) [cNo, cBox b2 [(.slice none 0 0), (.slice none 0 0), (.slice none 0 0), (.slice none 0 0)], cNo, cNo] [] w := ⟨_, (hS.sel [900000, 1, 900002, 900003] rfl).selR [] rfl⟩
          refine ⟨hK, ?_⟩
          refine any_1 (i := 6) (by kernel_rfl) ?_
          refine as_mv rfl (rv_append (α := Int) 2 hS rfl (hS.rdOwn 5 rfl) rfl Try.underlying22 inf_Try3 rfl hn4 rfl rfl rfl) (want_yes rfl) rfl rfl ?_
          clear hS
          clear hK; rintro s26 w hS
          have hK : Keeps (c) [cNo, cBox b2 [(.slice none 0 0), (.slice none 0 0), (.slice none 0 0), (.slice none 0 0)], cNo, cNo] [] w := ⟨_, (hS.sel [900000, 1, 900002, 900003] rfl).selR [] rfl⟩
          refine ⟨hK, ?_⟩
          refine any_v 7 (by kernel_rfl) rfl (by kernel_rfl) (by kernel_rfl) hK (fun _ _ => (rv_fld (m := 1) Try.underlying37 rfl rfl Try.sizeOf32 rfl rfl)) (want_yes rfl) rfl rfl ?_
          refine any_v 8 (by kernel_rfl) rfl (by kernel_rfl) (by kernel_rfl) hK (fun _ _ => (rv_fld (m := 0) Try.underlying32 rfl rfl Try.sizeOf22 rfl rfl)) (want_yes rfl) rfl rfl ?_
          refine any_1 (i := 9) (by kernel_rfl) ?_
          refine as_ms rfl (rs_box (vs := [s26]) hS (i := 3) rfl rfl rfl rfl (cells_rd (hS.rdOwn 2 rfl)) Try.sizeOf22 rfl rfl (all1 (one_rd (hS.rdOwn 2 rfl)) rfl)) (want_yes rfl) rfl ?_
          clear hS
          clear hK; intro w hS
          have hK : Keeps (c) [cNo, cBox b2 [(.slice none 0 0), (.slice none 0 0), (.slice none 0 0), (.slice none 0 0)], cNo, cNo] [] w := ⟨_, (hS.sel [900000, 1, 900002, 900003] rfl).selR [] rfl⟩
          refine ⟨hK, ?_⟩
          refine any_done (by kernel_rfl) ?_
          intro a hA
          exact ⟨x60.2.left.b, x60.2.bad, x8 ++ ([x60.1]), s26, hG1, hA.part ⟨rfl, rfl, rfl, rfl, trivial⟩, ((hS).sel [4, 1, 2, 3] rfl).selR [] rfl⟩
        · skip
          obtain ⟨c4, hg, hb⟩ := hS.give [0] rfl rfl
          refine as_c rfl (rc_call Try.call46 rfl rfl) (want_yes rfl) rfl rfl (c_impl_reader_byte (c := c4) (r_ := (⟨(⟨x6⟩ : GStr), x7⟩ : Reader)) (b1 := b1) (z1 := z1) (hg _ all_nil) hx60) ?_
          clear hK; rintro _ w ⟨rfl, hk⟩
          replace hS := hb _ _ _ hk; clear hk hg hb
          have hK : Keeps (c) [cNo, cBox b2 [(.slice none 0 0), (.slice none 0 0), (.slice none 0 0), (.slice none 0 0)], cNo, cNo] [] w := ⟨_, (hS.sel [900000, 1, 900002, 900003] rfl).selR [] rfl⟩
          refine ⟨hK, ?_⟩
          refine any_2 (i := 2) (j := 5) (by kernel_rfl) ?_ ?_
          · skip
            refine as_v rfl (rv_load1 rfl rfl Try.isAgg22 (hS.cell 3 rfl rfl)) (want_yes rfl) rfl rfl hK ?_
            refine any_1 (i := 5) (by kernel_rfl) ?_
            refine as_mv rfl (rv_lit1 (x60.1 : Int) hS rfl Try.underlying22 inf_Try3 rfl rfl rfl rfl) (want_yes rfl) rfl rfl ?_
            clear hS
            clear hK; rintro s25 w hS
            have hK : Keeps (c) [cNo, cBox b2 [(.slice none 0 0), (.slice none 0 0), (.slice none 0 0), (.slice none 0 0)], cNo, cNo] [] w := ⟨_, (hS.sel [900000, 1, 900002, 900003] rfl).selR [] rfl⟩
            refine ⟨hK, ?_⟩
            refine any_1 (i := 6) (by kernel_rfl) ?_
            refine as_mv rfl (rv_append (α := Int) 2 hS rfl (hS.rdOwn 5 rfl) rfl Try.underlying22 inf_Try3 rfl hn4 rfl rfl rfl) (want_yes rfl) rfl rfl ?_
            clear hS
            clear hK; rintro s26 w hS
            have hK : Keeps (c) [cNo, cBox b2 [(.slice none 0 0), (.slice none 0 0), (.slice none 0 0), (.slice none 0 0)], cNo, cNo] [] w := ⟨_, (hS.sel [900000, 1, 900002, 900003] rfl).selR [] rfl⟩
            refine ⟨hK, ?_⟩
            refine any_v 7 (by kernel_rfl) rfl (by kernel_rfl) (by kernel_rfl) hK (fun _ _ => (rv_fld (m := 1) Try.underlying37 rfl rfl Try.sizeOf32 rfl rfl)) (want_yes rfl) rfl rfl ?_
            refine any_v 8 (by kernel_rfl) rfl (by kernel_rfl) (by kernel_rfl) hK (fun _ _ => (rv_fld (m := 0) Try.underlying32 rfl rfl Try.sizeOf22 rfl rfl)) (want_yes rfl) rfl rfl ?_
            refine any_1 (i := 9) (by kernel_rfl) ?_
            refine as_ms rfl (rs_box (vs := [s26]) hS (i := 3) rfl rfl rfl rfl (cells_rd (hS.rdOwn 2 rfl)) Try.sizeOf22 rfl rfl (all1 (one_rd (hS.rdOwn 2 rfl)) rfl)) (want_yes rfl) rfl ?_
            clear hS
            clear hK; intro w hS
            have hK : Keeps (c) [cNo, cBox b2 [(.slice none 0 0), (.slice none 0 0), (.slice none 0 0), (.slice none 0 0)], cNo, cNo] [] w := ⟨_, (hS.sel [900000, 1, 900002, 900003] rfl).selR [] rfl⟩
            refine ⟨hK, ?_⟩
            refine any_done (by kernel_rfl) ?_
            intro a hA
            exact ⟨x60.2.left.b, x60.2.bad, x8 ++ ([x60.1]), s26, hG1, hA.part ⟨rfl, rfl, rfl, rfl, trivial⟩, ((hS).sel [4, 1, 2, 3] rfl).selR [] rfl⟩
          · skip
            refine as_mv rfl (rv_lit1 (x60.1 : Int) hS rfl Try.underlying22 inf_Try3 rfl rfl rfl rfl) (want_yes rfl) rfl rfl ?_
            clear hS
            clear hK; rintro s25 w hS
            have hK : Keeps (c) [cNo, cBox b2 [(.slice none 0 0), (.slice none 0 0), (.slice none 0 0), (.slice none 0 0)], cNo, cNo] [] w := ⟨_, (hS.sel [900000, 1, 900002, 900003] rfl).selR [] rfl⟩
            refine ⟨hK, ?_⟩
            refine any_1 (i := 2) (by kernel_rfl) ?_
            refine as_v rfl (rv_load1 rfl rfl Try.isAgg22 (hS.cell 3 rfl rfl)) (want_yes rfl) rfl rfl hK ?_
            refine any_1 (i := 6) (by kernel_rfl) ?_
            refine as_mv rfl (rv_append (α := Int) 2 hS rfl (hS.rdOwn 5 rfl) rfl Try.underlying22 inf_Try3 rfl hn4 rfl rfl rfl) (want_yes rfl) rfl rfl ?_
            clear hS
            clear hK; rintro s26 w hS
            have hK : Keeps (c) [cNo, cBox b2 [(.slice none 0 0), (.slice none 0 0), (.slice none 0 0), (.slice none 0 0)], cNo, cNo] [] w := ⟨_, (hS.sel [900000, 1, 900002, 900003] rfl).selR [] rfl⟩
            refine ⟨hK, ?_⟩
            refine any_v 7 (by kernel_rfl) rfl (by kernel_rfl) (by kernel_rfl) hK (fun _ _ => (rv_fld (m := 1) Try.underlying37 rfl rfl Try.sizeOf32 rfl rfl)) (want_yes rfl) rfl rfl ?_
            refine any_v 8 (by kernel_rfl) rfl (by kernel_rfl) (by kernel_rfl) hK (fun _ _ => (rv_fld (m := 0) Try.underlying32 rfl rfl Try.sizeOf22 rfl rfl)) (want_yes rfl) rfl rfl ?_
            refine any_1 (i := 9) (by kernel_rfl) ?_
            refine as_ms rfl (rs_box (vs := [s26]) hS (i := 3) rfl rfl rfl rfl (cells_rd (hS.rdOwn 2 rfl)) Try.sizeOf22 rfl rfl (all1 (one_rd (hS.rdOwn 2 rfl)) rfl)) (want_yes rfl) rfl ?_
            clear hS
            clear hK; intro w hS
            have hK : Keeps (c) [cNo, cBox b2 [(.slice none 0 0), (.slice none 0 0), (.slice none 0 0), (.slice none 0 0)], cNo, cNo] [] w := ⟨_, (hS.sel [900000, 1, 900002, 900003] rfl).selR [] rfl⟩
            refine ⟨hK, ?_⟩
            refine any_done (by kernel_rfl) ?_
            intro a hA
            exact ⟨x60.2.left.b, x60.2.bad, x8 ++ ([x60.1]), s26, hG1, hA.part ⟨rfl, rfl, rfl, rfl, trivial⟩, ((hS).sel [4, 1, 2, 3] rfl).selR [] rfl⟩
      · skip
        clear hA hS hG1
        rintro a w ⟨x57, x58, x59, s24, hG1, hA, hS⟩
        unfold impl_reader_mem_j8 at hG1
        refine cw_ops hA ?_
        clear hA
        refine ops_v (rv_add rfl rfl rfl) (want_yes rfl) rfl rfl ?_
        refine ops_v (rv_move rfl rfl) (want_yes rfl) rfl rfl ?_
        refine ops_nil ?_
        intro a hA
        cases hG1
        exact ⟨_, rfl, ⟨s24, hA.part ⟨rfl, rfl, rfl, rfl, trivial⟩, ((hS).sel [0, 1, 2, 3] rfl).selR [] rfl⟩⟩
    · replace hG1 := iteF hc4 hG1
      refine cw_exit ?_
      refine xcons_hit ?_
      cases hG1
      have ho := hr1 _ rfl; subst ho
      exact ⟨x6, x7, x8, s2, rfl, hA.part ⟨rfl, rfl, rfl, trivial⟩, ((hS).sel [0, 1, 2, 3] rfl).selR [] rfl⟩
  · skip
    clear hA hS hl1
    rintro a w ⟨x9, x10, x11, s3, heq, hA, hS⟩
    replace hF : impl_reader_mem_j1 x9 x10 x11 = some r := by rw [heq] at hF; exact hF
    clear heq
    unfold impl_reader_mem_j1 at hF
    refine cw_seq ?_
    refine cw_seq ?_
    refine cw_ops hA ?_
    clear hA
    refine ops_v (rv_move rfl rfl) (want_yes rfl) rfl rfl ?_
    refine ops_nil ?_
    intro a hA
    obtain ⟨o2, hl2, hF⟩ := bindE hF
    refine cw_cut (J := fun a' w' => ∃ (x20 : List UInt8) (x21 : Bool) (x22 : List Int) (s6 : Value), o2 = (x20, x21, x22) ∧ AEnv 55 [(0, .pointer (some ⟨b1, z1, none⟩)), (2, .pointer (some ⟨b2, 0, none⟩)), (3, .pointer (some ⟨b3, 0, none⟩))] a' ∧ St (c) w' [cAt b1 z1 [sv (x20), .bool (x21)], cBox b2 [(.slice none 0 0), (.slice none 0 0), (.slice none 0 0), (.slice none 0 0)], cOwn [s3] (x11 : List Int), cOwn [s6] (x22 : List Int), cBox b3 [s3, s6, (.slice none 0 0), (.slice none 0 0)]] []) ?_ ?_
    · refine cw_block ?_
      refine cw_loop (body := impl_reader_mem_l2) (r := o2) (fun sg a' w' => ∃ (s5 : Value), AEnv 55 [(0, .pointer (some ⟨b1, z1, none⟩)), (2, .pointer (some ⟨b2, 0, none⟩)), (3, .pointer (some ⟨b3, 0, none⟩)), (17, .int .i64 (sg.1))] a' ∧ St (c) w' [cAt b1 z1 [sv (sg.2.1), .bool (sg.2.2.1)], cBox b2 [(.slice none 0 0), (.slice none 0 0), (.slice none 0 0), (.slice none 0 0)], cOwn [s3] (x11 : List Int), cOwn [s5] (sg.2.2.2 : List Int), cBox b3 [s3, s5, (.slice none 0 0), (.slice none 0 0)]] []) ?_ hl2 ⟨(.slice none 0 0), hA.part ⟨rfl, rfl, rfl, rfl, trivial⟩, (((hS).nilOwn (α := Int)).sel [0, 1, 2, 4, 3] rfl).selR [] rfl⟩
      clear hA hS hl2
      rintro ⟨x16, x17, x18, x19⟩ a w q2 ⟨s5, hA, hS⟩ hG2 hr2
      try dsimp only at hA hS
      unfold impl_reader_mem_l2 at hG2
      refine cw_seq ?_
      refine cw_ops hA ?_
      clear hA
      refine ops_v (rv_lss rfl rfl rfl) (want_yes rfl) rfl rfl ?_
      refine ops_nil ?_
      intro a hA
      refine cw_seq ?_
      refine cw_cond hA rfl (fun hc3 => ?_) (fun hc3 => ?_)
      · replace hG2 := iteT hc3 hG2
        refine cw_skip ?_
        refine cw_seq ?_
        refine cw_cut (J := fun a' w' => ∃ (x53 : List UInt8) (x54 : Bool) (x55 : List Int) (s21 : Value), impl_reader_mem_j7 x16 x53 x54 x55 = some q2 ∧ AEnv 55 [(0, .pointer (some ⟨b1, z1, none⟩)), (2, .pointer (some ⟨b2, 0, none⟩)), (3, .pointer (some ⟨b3, 0, none⟩)), (17, .int .i64 (x16))] a' ∧ St (c) w' [cAt b1 z1 [sv (x53), .bool (x54)], cBox b2 [(.slice none 0 0), (.slice none 0 0), (.slice none 0 0), (.slice none 0 0)], cOwn [s3] (x11 : List Int), cOwn [s21] (x55 : List Int), cBox b3 [s3, s21, (.slice none 0 0), (.slice none 0 0)]] []) ?_ ?_
        · skip
          refine cw_block ?_
          refine cw_any (Keeps (c) [cNo, cBox b2 [(.slice none 0 0), (.slice none 0 0), (.slice none 0 0), (.slice none 0 0)], cOwn [s3] (x11 : List Int), cNo, cNo] []) mixed_Try hA hS ?_
          clear hA hS; intro w hS
          have hK : Keeps (c) [cNo, cBox b2 [(.slice none 0 0), (.slice none 0 0), (.slice none 0 0), (.slice none 0 0)], cOwn [s3] (x11 : List Int), cNo, cNo] [] w := ⟨_, (hS.sel [900000, 1, 2, 900003, 900004] rfl).selR [] rfl⟩
          refine any_v 0 (by kernel_rfl) rfl (by kernel_rfl) (by kernel_rfl) hK (fun _ _ => (rv_fld (m := 1) Try.underlying37 rfl rfl Try.sizeOf32 rfl rfl)) (want_yes rfl) rfl rfl ?_
          refine any_v 1 (by kernel_rfl) rfl (by kernel_rfl) (by kernel_rfl) hK (fun _ _ => (rv_fld (m := 0) Try.underlying32 rfl rfl Try.sizeOf22 rfl rfl)) (want_yes rfl) rfl rfl ?_
          refine any_v 3 (by kernel_rfl) rfl (by kernel_rfl) (by kernel_rfl) hK (fun _ _ => (rv_move rfl rfl)) (want_yes rfl) rfl rfl ?_
          obtain ⟨x56, hx56, hG2⟩ := bindE hG2
          obtain ⟨hn3, hG2⟩ := needE hG2
          refine any_2 (i := 2) (j := 4) (by kernel_rfl) ?_ ?_
          · skip
            refine as_v rfl (rv_load1 rfl rfl Try.isAgg22 (hS.cell 4 rfl rfl)) (want_yes rfl) rfl rfl hK ?_
            refine any_1 (i := 4) (by kernel_rfl) ?_
            obtain ⟨c3, hg, hb⟩ := hS.give [0] rfl rfl
            refine as_c rfl (rc_call Try.call46 rfl rfl) (want_yes rfl) rfl rfl (c_impl_reader_byte (c := c3) (r_ := (⟨(⟨x17⟩ : GStr), x18⟩ : Reader)) (b1 := b1) (z1 := z1) (hg _ all_nil) hx56) ?_
            clear hK; rintro _ w ⟨rfl, hk⟩
            replace hS := hb _ _ _ hk; clear hk hg hb
            have hK : Keeps (c) [cNo, cBox b2 [(.slice none 0 0), (.slice none 0 0), (.slice none 0 0), (.slice none 0 0)], cOwn [s3] (x11 : List Int), cNo, cNo] [] w := ⟨_, (hS.sel [900000, 1, 2, 900003, 900004] rfl).selR [] rfl⟩
            refine ⟨hK, ?_⟩
            refine any_v 5 (by kernel_rfl) rfl (by kernel_rfl) (by kernel_rfl) hK (fun _ _ => (rv_sub rfl rfl rfl)) (want_yes rfl) rfl rfl ?_
            refine any_1 (i := 6) (by kernel_rfl) ?_
            refine as_mv rfl (rv_lit1 (w64 (x56.1 - 1) : Int) hS rfl Try.underlying22 inf_Try3 rfl rfl rfl rfl) (want_yes rfl) rfl rfl ?_
            clear hS
            clear hK; rintro s22 w hS
            have hK : Keeps (c) [cNo, cBox b2 [(.slice none 0 0), (.slice none 0 0), (.slice none 0 0), (.slice none 0 0)], cOwn [s3] (x11 : List Int), cNo, cNo] [] w := ⟨_, (hS.sel [900000, 1, 2, 900003, 900004] rfl).selR [] rfl⟩
            refine ⟨hK, ?_⟩
            refine any_1 (i := 7) (by kernel_rfl) ?_
            refine as_mv rfl (rv_append (α := Int) 3 hS rfl (hS.rdOwn 6 rfl) rfl Try.underlying22 inf_Try3 rfl hn3 rfl rfl rfl) (want_yes rfl) rfl rfl ?_
            clear hS
            clear hK; rintro s23 w hS
            have hK : Keeps (c) [cNo, cBox b2 [(.slice none 0 0), (.slice none 0 0), (.slice none 0 0), (.slice none 0 0)], cOwn [s3] (x11 : List Int), cNo, cNo] [] w := ⟨_, (hS.sel [900000, 1, 2, 900003, 900004] rfl).selR [] rfl⟩
            refine ⟨hK, ?_⟩
            refine any_v 8 (by kernel_rfl) rfl (by kernel_rfl) (by kernel_rfl) hK (fun _ _ => (rv_fld (m := 1) Try.underlying37 rfl rfl Try.sizeOf32 rfl rfl)) (want_yes rfl) rfl rfl ?_
            refine any_v 9 (by kernel_rfl) rfl (by kernel_rfl) (by kernel_rfl) hK (fun _ _ => (rv_fld (m := 0) Try.underlying32 rfl rfl Try.sizeOf22 rfl rfl)) (want_yes rfl) rfl rfl ?_
            refine any_1 (i := 10) (by kernel_rfl) ?_
            refine as_ms rfl (rs_box (vs := [s23]) hS (i := 4) rfl rfl rfl rfl (cells_rd (hS.rdOwn 3 rfl)) Try.sizeOf22 rfl rfl (all1 (one_rd (hS.rdOwn 3 rfl)) rfl)) (want_yes rfl) rfl ?_
            clear hS
            clear hK; intro w hS
            have hK : Keeps (c) [cNo, cBox b2 [(.slice none 0 0), (.slice none 0 0), (.slice none 0 0), (.slice none 0 0)], cOwn [s3] (x11 : List Int), cNo, cNo] [] w := ⟨_, (hS.sel [900000, 1, 2, 900003, 900004] rfl).selR [] rfl⟩
            refine ⟨hK, ?_⟩
            refine any_done (by kernel_rfl) ?_
            intro a hA
            exact ⟨x56.2.left.b, x56.2.bad, x19 ++ ([w64 (x56.1 - 1)]), s23, hG2, hA.part ⟨rfl, rfl, rfl, rfl, trivial⟩, ((hS).sel [5, 1, 2, 3, 4] rfl).selR [] rfl⟩
          · skip
            obtain ⟨c3, hg, hb⟩ := hS.give [0] rfl rfl
            refine as_c rfl (rc_call Try.call46 rfl rfl) (want_yes rfl) rfl rfl (c_impl_reader_byte (c := c3) (r_ := (⟨(⟨x17⟩ : GStr), x18⟩ : Reader)) (b1 := b1) (z1 := z1) (hg _ all_nil) hx56) ?_
            clear hK; rintro _ w ⟨rfl, hk⟩
            replace hS := hb _ _ _ hk; clear hk hg hb
            have hK : Keeps (c) [cNo, cBox b2 [(.slice none 0 0), (.slice none 0 0), (.slice none 0 0), (.slice none 0 0)], cOwn [s3] (x11 : List Int), cNo, cNo] [] w := ⟨_, (hS.sel [900000, 1, 2, 900003, 900004] rfl).selR [] rfl⟩
            refine ⟨hK, ?_⟩
            refine any_v 5 (by kernel_rfl) rfl (by kernel_rfl) (by kernel_rfl) hK (fun _ _ => (rv_sub rfl rfl rfl)) (want_yes rfl) rfl rfl ?_
            refine any_2 (i := 2) (j := 6) (by kernel_rfl) ?_ ?_
            · skip
              refine as_v rfl (rv_load1 rfl rfl Try.isAgg22 (hS.cell 4 rfl rfl)) (want_yes rfl) rfl rfl hK ?_
              refine any_1 (i := 6) (by kernel_rfl) ?_
              refine as_mv rfl (rv_lit1 (w64 (x56.1 - 1) : Int) hS rfl Try.underlying22 inf_Try3 rfl rfl rfl rfl) (want_yes rfl) rfl rfl ?_
              clear hS
              clear hK; rintro s22 w hS
              have hK : Keeps (c) [cNo, cBox b2 [(.slice none 0 0), (.slice none 0 0), (.slice none 0 0), (.slice none 0 0)], cOwn [s3] (x11 : List Int), cNo, cNo] [] w := ⟨_, (hS.sel [900000, 1, 2, 900003, 900004] rfl).selR [] rfl⟩
              refine ⟨hK, ?_⟩
              refine any_1 (i := 7) (by kernel_rfl) ?_
              refine as_mv rfl (rv_append (α := Int) 3 hS rfl (hS.rdOwn 6 rfl) rfl Try.underlying22 inf_Try3 rfl hn3 rfl rfl rfl) (want_yes rfl) rfl rfl ?_
              clear hS
              clear hK; rintro s23 w hS
              have hK : Keeps (c) [cNo, cBox b2 [(.slice none 0 0), (.slice none 0 0), (.slice none 0 0), (.slice none 0 0)], cOwn [s3] (x11 : List Int), cNo, cNo] [] w := ⟨_, (hS.sel [900000, 1, 2, 900003, 900004] rfl).selR [] rfl⟩
              refine ⟨hK, ?_⟩
              refine any_v 8 (by kernel_rfl) rfl (by kernel_rfl) (by kernel_rfl) hK (fun _ _ => (rv_fld (m := 1) Try.underlying37 rfl rfl Try.sizeOf32 rfl rfl)) (want_yes rfl) rfl rfl ?_
              refine any_v 9 (by kernel_rfl) rfl (by kernel_rfl) (by kernel_rfl) hK (fun _ _ => (rv_fld (m := 0) Try.underlying32 rfl rfl Try.sizeOf22 rfl rfl)) (want_yes rfl) rfl rfl ?_
              refine any_1 (i := 10) (by kernel_rfl) ?_
              refine as_ms rfl (rs_box (vs := [s23]) hS (i := 4) rfl rfl rfl rfl (cells_rd (hS.rdOwn 3 rfl)) Try.sizeOf22 rfl rfl (all1 (one_rd (hS.rdOwn 3 rfl)) rfl)) (want_yes rfl) rfl ?_
              clear hS
              clear hK; intro w hS
              have hK : Keeps (c) [cNo, cBox b2 [(.slice none 0 0), (.slice none 0 0), (.slice none 0 0), (.slice none 0 0)], cOwn [s3] (x11 : List Int), cNo, cNo] [] w := ⟨_, (hS.sel [900000, 1, 2, 900003, 900004] rfl).selR [] rfl⟩
              refine ⟨hK, ?_⟩
              refine any_done (by kernel_rfl) ?_
              intro a hA
              exact ⟨x56.2.left.b, x56.2.bad, x19 ++ ([w64 (x56.1 - 1)]), s23, hG2, hA.part ⟨rfl, rfl, rfl, rfl, trivial⟩, ((hS).sel [5, 1, 2, 3, 4] rfl).selR [] rfl⟩
            · skip
              refine as_mv rfl (rv_lit1 (w64 (x56.1 - 1) : Int) hS rfl Try.underlying22 inf_Try3 rfl rfl rfl rfl) (want_yes rfl) rfl rfl ?_
              clear hS
              clear hK; rintro s22 w hS
              have hK : Keeps (c) [cNo, cBox b2 [(.slice none 0 0), (.slice none 0 0), (.slice none 0 0), (.slice none 0 0)], cOwn [s3] (x11 : List Int), cNo, cNo] [] w := ⟨_, (hS.sel [900000, 1, 2, 900003, 900004] rfl).selR [] rfl⟩
              refine ⟨hK, ?_⟩
              refine any_1 (i := 2) (by kernel_rfl) ?_
              refine as_v rfl (rv_load1 rfl rfl Try.isAgg22 (hS.cell 4 rfl rfl)) (want_yes rfl) rfl rfl hK ?_
              refine any_1 (i := 7) (by kernel_rfl) ?_
              refine as_mv rfl (rv_append (α := Int) 3 hS rfl (hS.rdOwn 6 rfl) rfl Try.underlying22 inf_Try3 rfl hn3 rfl rfl rfl) (want_yes rfl) rfl rfl ?_
              clear hS
              clear hK; rintro s23 w hS
              have hK : Keeps (c) [cNo, cBox b2 [(.slice none 0 0), (.slice none 0 0), (.slice none 0 0), (.slice none 0 0)], cOwn [s3] (x11 : List Int), cNo, cNo] [] w := ⟨_, (hS.sel [900000, 1, 2, 900003, 900004] rfl).selR [] rfl⟩
              refine ⟨hK, ?_⟩
              refine any_v 8 (by kernel_rfl) rfl (by kernel_rfl) (by kernel_rfl) hK (fun _ _ => (rv_fld (m := 1) Try.underlying37 rfl rfl Try.sizeOf32 rfl rfl)) (want_yes rfl) rfl rfl ?_
              refine any_v 9 (by kernel_rfl) rfl (by kernel_rfl) (by kernel_rfl) hK (fun _ _ => (rv_fld (m := 0) Try.underlying32 rfl rfl Try.sizeOf22 rfl rfl)) (want_yes rfl) rfl rfl ?_
              refine any_1 (i := 10) (by kernel_rfl) ?_
              refine as_ms rfl (rs_box (vs := [s23]) hS (i := 4) rfl rfl rfl rfl (cells_rd (hS.rdOwn 3 rfl)) Try.sizeOf22 rfl rfl (all1 (one_rd (hS.rdOwn 3 rfl)) rfl)) (want_yes rfl) rfl ?_
              clear hS
              clear hK; intro w hS
              have hK : Keeps (c) [cNo, cBox b2 [(.slice none 0 0), (.slice none 0 0), (.slice none 0 0), (.slice none 0 0)], cOwn [s3] (x11 : List Int), cNo, cNo] [] w := ⟨_, (hS.sel [900000, 1, 2, 900003, 900004] rfl).selR [] rfl⟩
              refine ⟨hK, ?_⟩
              refine any_done (by kernel_rfl) ?_
              intro a hA
              exact ⟨x56.2.left.b, x56.2.bad, x19 ++ ([w64 (x56.1 - 1)]), s23, hG2, hA.part ⟨rfl, rfl, rfl, rfl, trivial⟩, ((hS).sel [5, 1, 2, 3, 4] rfl).selR [] rfl⟩
        · skip
          clear hA hS hG2
          rintro a w ⟨x53, x54, x55, s21, hG2, hA, hS⟩
          unfold impl_reader_mem_j7 at hG2
          refine cw_ops hA ?_
          clear hA
          refine ops_v (rv_add rfl rfl rfl) (want_yes rfl) rfl rfl ?_
          refine ops_v (rv_move rfl rfl) (want_yes rfl) rfl rfl ?_
          refine ops_nil ?_
          intro a hA
          cases hG2
          exact ⟨_, rfl, ⟨s21, hA.part ⟨rfl, rfl, rfl, rfl, trivial⟩, ((hS).sel [0, 1, 2, 3, 4] rfl).selR [] rfl⟩⟩
      · replace hG2 := iteF hc3 hG2
        refine cw_exit ?_
        refine xcons_hit ?_
        cases hG2
        have ho := hr2 _ rfl; subst ho
        exact ⟨x17, x18, x19, s5, rfl, hA.part ⟨rfl, rfl, rfl, trivial⟩, ((hS).sel [0, 1, 2, 3, 4] rfl).selR [] rfl⟩
    · skip
      clear hA hS hl2
      rintro a w ⟨x20, x21, x22, s6, heq, hA, hS⟩
      replace hF : impl_reader_mem_j2 x11 x20 x21 x22 = some r := by rw [heq] at hF; exact hF
      clear heq
      unfold impl_reader_mem_j2 at hF
      refine cw_seq ?_
      refine cw_seq ?_
      refine cw_ops hA ?_
      clear hA
      refine ops_v (rv_move rfl rfl) (want_yes rfl) rfl rfl ?_
      refine ops_nil ?_
      intro a hA
      obtain ⟨o3, hl3, hF⟩ := bindE hF
      refine cw_cut (J := fun a' w' => ∃ (x31 : List UInt8) (x32 : Bool) (x33 : List SList) (s9 : Value), o3 = (x31, x32, x33) ∧ AEnv 55 [(0, .pointer (some ⟨b1, z1, none⟩)), (2, .pointer (some ⟨b2, 0, none⟩)), (3, .pointer (some ⟨b3, 0, none⟩))] a' ∧ St (c) w' [cAt b1 z1 [sv (x31), .bool (x32)], cBox b2 [(.slice none 0 0), (.slice none 0 0), (.slice none 0 0), (.slice none 0 0)], cOwn [s3] (x11 : List Int), cOwn [s6] (x22 : List Int), cOwn [s9] (x33 : List SList), cBox b3 [s3, s6, s9, (.slice none 0 0)]] []) ?_ ?_
      · refine cw_block ?_
        refine cw_loop (body := impl_reader_mem_l3) (r := o3) (fun sg a' w' => ∃ (s8 : Value), AEnv 55 [(0, .pointer (some ⟨b1, z1, none⟩)), (2, .pointer (some ⟨b2, 0, none⟩)), (3, .pointer (some ⟨b3, 0, none⟩)), (30, .int .i64 (sg.1))] a' ∧ St (c) w' [cAt b1 z1 [sv (sg.2.1), .bool (sg.2.2.1)], cBox b2 [(.slice none 0 0), (.slice none 0 0), (.slice none 0 0), (.slice none 0 0)], cOwn [s3] (x11 : List Int), cOwn [s6] (x22 : List Int), cOwn [s8] (sg.2.2.2 : List SList), cBox b3 [s3, s6, s8, (.slice none 0 0)]] []) ?_ hl3 ⟨(.slice none 0 0), hA.part ⟨rfl, rfl, rfl, rfl, trivial⟩, (((hS).nilOwn (α := SList)).sel [0, 1, 2, 3, 5, 4] rfl).selR [] rfl⟩
        clear hA hS hl3
        rintro ⟨x27, x28, x29, x30⟩ a w q3 ⟨s8, hA, hS⟩ hG3 hr3
        try dsimp only at hA hS
        unfold impl_reader_mem_l3 at hG3
        refine cw_seq ?_
        refine cw_ops hA ?_
        clear hA
        refine ops_v (rv_lss rfl rfl rfl) (want_yes rfl) rfl rfl ?_
        refine ops_nil ?_
        intro a hA
        refine cw_seq ?_
        refine cw_cond hA rfl (fun hc2 => ?_) (fun hc2 => ?_)
        · replace hG3 := iteT hc2 hG3
          refine cw_skip ?_
          refine cw_seq ?_
          refine cw_cut (J := fun a' w' => ∃ (x49 : List UInt8) (x50 : Bool) (x51 : List SList) (s17 : Value), impl_reader_mem_j6 x27 x49 x50 x51 = some q3 ∧ AEnv 55 [(0, .pointer (some ⟨b1, z1, none⟩)), (2, .pointer (some ⟨b2, 0, none⟩)), (3, .pointer (some ⟨b3, 0, none⟩)), (30, .int .i64 (x27))] a' ∧ St (c) w' [cAt b1 z1 [sv (x49), .bool (x50)], cBox b2 [(.slice none 0 0), (.slice none 0 0), (.slice none 0 0), (.slice none 0 0)], cOwn [s3] (x11 : List Int), cOwn [s6] (x22 : List Int), cOwn [s17] (x51 : List SList), cBox b3 [s3, s6, s17, (.slice none 0 0)]] []) ?_ ?_
          · skip
            refine cw_block ?_
            refine cw_any (Keeps (c) [cNo, cBox b2 [(.slice none 0 0), (.slice none 0 0), (.slice none 0 0), (.slice none 0 0)], cOwn [s3] (x11 : List Int), cOwn [s6] (x22 : List Int), cNo, cNo] []) mixed_Try hA hS ?_
            clear hA hS; intro w hS
            have hK : Keeps (c) [cNo, cBox b2 [(.slice none 0 0), (.slice none 0 0), (.slice none 0 0), (.slice none 0 0)], cOwn [s3] (x11 : List Int), cOwn [s6] (x22 : List Int), cNo, cNo] [] w := ⟨_, (hS.sel [900000, 1, 2, 3, 900004, 900005] rfl).selR [] rfl⟩
            refine any_v 0 (by kernel_rfl) rfl (by kernel_rfl) (by kernel_rfl) hK (fun _ _ => (rv_fld (m := 1) Try.underlying37 rfl rfl Try.sizeOf35 rfl rfl)) (want_yes rfl) rfl rfl ?_
            refine any_v 1 (by kernel_rfl) rfl (by kernel_rfl) (by kernel_rfl) hK (fun _ _ => (rv_fld (m := 0) Try.underlying35 rfl rfl Try.sizeOf33 rfl rfl)) (want_yes rfl) rfl rfl ?_
            refine any_v 3 (by kernel_rfl) rfl (by kernel_rfl) (by kernel_rfl) hK (fun _ _ => (rv_move rfl rfl)) (want_yes rfl) rfl rfl ?_
            obtain ⟨x52, hx52, hG3⟩ := bindE hG3
            obtain ⟨hn2, hG3⟩ := needE hG3
            refine any_2 (i := 2) (j := 4) (by kernel_rfl) ?_ ?_
            · skip
              refine as_v rfl (rv_load1 rfl rfl Try.isAgg33 (hS.cell 5 rfl rfl)) (want_yes rfl) rfl rfl hK ?_
              refine any_1 (i := 4) (by kernel_rfl) ?_
              obtain ⟨c2, hg, hb⟩ := hS.give [0] rfl rfl
              refine as_c rfl (rc_call Try.call47 rfl rfl) (want_yes rfl) rfl rfl (c_impl_reader_list (c := c2) (r_ := (⟨(⟨x28⟩ : GStr), x29⟩ : Reader)) (b1 := b1) (z1 := z1) (hg _ all_nil) hx52) ?_
              clear hK; rintro _ w ⟨s18, rfl, hk⟩
              replace hS := hb _ _ _ hk; clear hk hg hb
              have hK : Keeps (c) [cNo, cBox b2 [(.slice none 0 0), (.slice none 0 0), (.slice none 0 0), (.slice none 0 0)], cOwn [s3] (x11 : List Int), cOwn [s6] (x22 : List Int), cNo, cNo] [] w := ⟨_, (hS.sel [900000, 1, 2, 3, 900004, 900005] rfl).selR [] rfl⟩
              refine ⟨hK, ?_⟩
              refine any_1 (i := 5) (by kernel_rfl) ?_
              replace hS := hS.pack [6] rfl rfl (op_SList x52.1)
              refine as_mv rfl (rv_litN1 (x52.1 : SList) hS [8] rfl ⟨_, rfl, rfl, ⟨rfl, rfl⟩⟩ rfl Try.underlying33 inf_Try53 rfl rfl rfl) (want_yes rfl) rfl rfl ?_
              clear hS
              clear hK; rintro s19 w hS
              have hK : Keeps (c) [cNo, cBox b2 [(.slice none 0 0), (.slice none 0 0), (.slice none 0 0), (.slice none 0 0)], cOwn [s3] (x11 : List Int), cOwn [s6] (x22 : List Int), cNo, cNo] [] w := ⟨_, (hS.sel [900000, 1, 2, 3, 900004, 900005] rfl).selR [] rfl⟩
              refine ⟨hK, ?_⟩
              refine any_1 (i := 6) (by kernel_rfl) ?_
              refine as_mv rfl (rv_appN (α := SList) [4, 9] hS rfl rfl rfl Try.underlying33 inf_Try53 rfl hn2 rfl rfl rfl) (want_yes rfl) rfl rfl ?_
              clear hS
              clear hK; rintro s20 w hS
              have hK : Keeps (c) [cNo, cBox b2 [(.slice none 0 0), (.slice none 0 0), (.slice none 0 0), (.slice none 0 0)], cOwn [s3] (x11 : List Int), cOwn [s6] (x22 : List Int), cNo, cNo] [] w := ⟨_, (hS.sel [900000, 1, 2, 3, 900004, 900005] rfl).selR [] rfl⟩
              refine ⟨hK, ?_⟩
              refine any_v 7 (by kernel_rfl) rfl (by kernel_rfl) (by kernel_rfl) hK (fun _ _ => (rv_fld (m := 1) Try.underlying37 rfl rfl Try.sizeOf35 rfl rfl)) (want_yes rfl) rfl rfl ?_
              refine any_v 8 (by kernel_rfl) rfl (by kernel_rfl) (by kernel_rfl) hK (fun _ _ => (rv_fld (m := 0) Try.underlying35 rfl rfl Try.sizeOf33 rfl rfl)) (want_yes rfl) rfl rfl ?_
              refine any_1 (i := 9) (by kernel_rfl) ?_
              refine as_ms rfl (rs_box (vs := [s20]) hS (i := 5) rfl rfl rfl rfl (cells_rd (hS.rdOwn 10 rfl)) Try.sizeOf33 rfl rfl (all1 (one_rd (hS.rdOwn 10 rfl)) rfl)) (want_yes rfl) rfl ?_
              clear hS
              clear hK; intro w hS
              have hK : Keeps (c) [cNo, cBox b2 [(.slice none 0 0), (.slice none 0 0), (.slice none 0 0), (.slice none 0 0)], cOwn [s3] (x11 : List Int), cOwn [s6] (x22 : List Int), cNo, cNo] [] w := ⟨_, (hS.sel [900000, 1, 2, 3, 900004, 900005] rfl).selR [] rfl⟩
              refine ⟨hK, ?_⟩
              refine any_done (by kernel_rfl) ?_
              intro a hA
              exact ⟨x52.2.left.b, x52.2.bad, x30 ++ ([x52.1]), s20, hG3, hA.part ⟨rfl, rfl, rfl, rfl, trivial⟩, ((hS).sel [7, 1, 2, 3, 10, 5] rfl).selR [] rfl⟩
            · skip
              obtain ⟨c2, hg, hb⟩ := hS.give [0] rfl rfl
              refine as_c rfl (rc_call Try.call47 rfl rfl) (want_yes rfl) rfl rfl (c_impl_reader_list (c := c2) (r_ := (⟨(⟨x28⟩ : GStr), x29⟩ : Reader)) (b1 := b1) (z1 := z1) (hg _ all_nil) hx52) ?_
              clear hK; rintro _ w ⟨s18, rfl, hk⟩
              replace hS := hb _ _ _ hk; clear hk hg hb
              have hK : Keeps (c) [cNo, cBox b2 [(.slice none 0 0), (.slice none 0 0), (.slice none 0 0), (.slice none 0 0)], cOwn [s3] (x11 : List Int), cOwn [s6] (x22 : List Int), cNo, cNo] [] w := ⟨_, (hS.sel [900000, 1, 2, 3, 900004, 900005] rfl).selR [] rfl⟩
              refine ⟨hK, ?_⟩
              refine any_2 (i := 2) (j := 5) (by kernel_rfl) ?_ ?_
              · skip
                refine as_v rfl (rv_load1 rfl rfl Try.isAgg33 (hS.cell 5 rfl rfl)) (want_yes rfl) rfl rfl hK ?_
                refine any_1 (i := 5) (by kernel_rfl) ?_
                replace hS := hS.pack [6] rfl rfl (op_SList x52.1)
                refine as_mv rfl (rv_litN1 (x52.1 : SList) hS [8] rfl ⟨_, rfl, rfl, ⟨rfl, rfl⟩⟩ rfl Try.underlying33 inf_Try53 rfl rfl rfl) (want_yes rfl) rfl rfl ?_
                clear hS
                clear hK; rintro s19 w hS
                have hK : Keeps (c) [cNo, cBox b2 [(.slice none 0 0), (.slice none 0 0), (.slice none 0 0), (.slice none 0 0)], cOwn [s3] (x11 : List Int), cOwn [s6] (x22 : List Int), cNo, cNo] [] w := ⟨_, (hS.sel [900000, 1, 2, 3, 900004, 900005] rfl).selR [] rfl⟩
                refine ⟨hK, ?_⟩
                refine any_1 (i := 6) (by kernel_rfl) ?_
                refine as_mv rfl (rv_appN (α := SList) [4, 9] hS rfl rfl rfl Try.underlying33 inf_Try53 rfl hn2 rfl rfl rfl) (want_yes rfl) rfl rfl ?_
                clear hS
                clear hK; rintro s20 w hS
                have hK : Keeps (c) [cNo, cBox b2 [(.slice none 0 0), (.slice none 0 0), (.slice none 0 0), (.slice none 0 0)], cOwn [s3] (x11 : List Int), cOwn [s6] (x22 : List Int), cNo, cNo] [] w := ⟨_, (hS.sel [900000, 1, 2, 3, 900004, 900005] rfl).selR [] rfl⟩
                refine ⟨hK, ?_⟩
                refine any_v 7 (by kernel_rfl) rfl (by kernel_rfl) (by kernel_rfl) hK (fun _ _ => (rv_fld (m := 1) Try.underlying37 rfl rfl Try.sizeOf35 rfl rfl)) (want_yes rfl) rfl rfl ?_
                refine any_v 8 (by kernel_rfl) rfl (by kernel_rfl) (by kernel_rfl) hK (fun _ _ => (rv_fld (m := 0) Try.underlying35 rfl rfl Try.sizeOf33 rfl rfl)) (want_yes rfl) rfl rfl ?_
                refine any_1 (i := 9) (by kernel_rfl) ?_
                refine as_ms rfl (rs_box (vs := [s20]) hS (i := 5) rfl rfl rfl rfl (cells_rd (hS.rdOwn 10 rfl)) Try.sizeOf33 rfl rfl (all1 (one_rd (hS.rdOwn 10 rfl)) rfl)) (want_yes rfl) rfl ?_
                clear hS
                clear hK; intro w hS
                have hK : Keeps (c) [cNo, cBox b2 [(.slice none 0 0), (.slice none 0 0), (.slice none 0 0), (.slice none 0 0)], cOwn [s3] (x11 : List Int), cOwn [s6] (x22 : List Int), cNo, cNo] [] w := ⟨_, (hS.sel [900000, 1, 2, 3, 900004, 900005] rfl).selR [] rfl⟩
                refine ⟨hK, ?_⟩
                refine any_done (by kernel_rfl) ?_
                intro a hA
                exact ⟨x52.2.left.b, x52.2.bad, x30 ++ ([x52.1]), s20, hG3, hA.part ⟨rfl, rfl, rfl, rfl, trivial⟩, ((hS).sel [7, 1, 2, 3, 10, 5] rfl).selR [] rfl⟩
              · skip
                replace hS := hS.pack [6] rfl rfl (op_SList x52.1)
                refine as_mv rfl (rv_litN1 (x52.1 : SList) hS [8] rfl ⟨_, rfl, rfl, ⟨rfl, rfl⟩⟩ rfl Try.underlying33 inf_Try53 rfl rfl rfl) (want_yes rfl) rfl rfl ?_
                clear hS
                clear hK; rintro s19 w hS
                have hK : Keeps (c) [cNo, cBox b2 [(.slice none 0 0), (.slice none 0 0), (.slice none 0 0), (.slice none 0 0)], cOwn [s3] (x11 : List Int), cOwn [s6] (x22 : List Int), cNo, cNo] [] w := ⟨_, (hS.sel [900000, 1, 2, 3, 900004, 900005] rfl).selR [] rfl⟩
                refine ⟨hK, ?_⟩
                refine any_1 (i := 2) (by kernel_rfl) ?_
                refine as_v rfl (rv_load1 rfl rfl Try.isAgg33 (hS.cell 5 rfl rfl)) (want_yes rfl) rfl rfl hK ?_
                refine any_1 (i := 6) (by kernel_rfl) ?_
                refine as_mv rfl (rv_appN (α := SList) [4, 9] hS rfl rfl rfl Try.underlying33 inf_Try53 rfl hn2 rfl rfl rfl) (want_yes rfl) rfl rfl ?_
                clear hS
                clear hK; rintro s20 w hS
                have hK : Keeps (c) [cNo, cBox b2 [(.slice none 0 0), (.slice none 0 0), (.slice none 0 0), (.slice none 0 0)], cOwn [s3] (x11 : List Int), cOwn [s6] (x22 : List Int), cNo, cNo] [] w := ⟨_, (hS.sel [900000, 1, 2, 3, 900004, 900005] rfl).selR [] rfl⟩
                refine ⟨hK, ?_⟩
                refine any_v 7 (by kernel_rfl) rfl (by kernel_rfl) (by kernel_rfl) hK (fun _ _ => (rv_fld (m := 1) Try.underlying37 rfl rfl Try.sizeOf35 rfl rfl)) (want_yes rfl) rfl rfl ?_
                refine any_v 8 (by kernel_rfl) rfl (by kernel_rfl) (by kernel_rfl) hK (fun _ _ => (rv_fld (m := 0) Try.underlying35 rfl rfl Try.sizeOf33 rfl rfl)) (want_yes rfl) rfl rfl ?_
                refine any_1 (i := 9) (by kernel_rfl) ?_
                refine as_ms rfl (rs_box (vs := [s20]) hS (i := 5) rfl rfl rfl rfl (cells_rd (hS.rdOwn 10 rfl)) Try.sizeOf33 rfl rfl (all1 (one_rd (hS.rdOwn 10 rfl)) rfl)) (want_yes rfl) rfl ?_
                clear hS
                clear hK; intro w hS
                have hK : Keeps (c) [cNo, cBox b2 [(.slice none 0 0), (.slice none 0 0), (.slice none 0 0), (.slice none 0 0)], cOwn [s3] (x11 : List Int), cOwn [s6] (x22 : List Int), cNo, cNo] [] w := ⟨_, (hS.sel [900000, 1, 2, 3, 900004, 900005] rfl).selR [] rfl⟩
                refine ⟨hK, ?_⟩
                refine any_done (by kernel_rfl) ?_
                intro a hA
                exact ⟨x52.2.left.b, x52.2.bad, x30 ++ ([x52.1]), s20, hG3, hA.part ⟨rfl, rfl, rfl, rfl, trivial⟩, ((hS).sel [7, 1, 2, 3, 10, 5] rfl).selR [] rfl⟩
          · skip
            clear hA hS hG3
            rintro a w ⟨x49, x50, x51, s17, hG3, hA, hS⟩
            unfold impl_reader_mem_j6 at hG3
            refine cw_ops hA ?_
            clear hA
            refine ops_v (rv_add rfl rfl rfl) (want_yes rfl) rfl rfl ?_
            refine ops_v (rv_move rfl rfl) (want_yes rfl) rfl rfl ?_
            refine ops_nil ?_
            intro a hA
            cases hG3
            exact ⟨_, rfl, ⟨s17, hA.part ⟨rfl, rfl, rfl, rfl, trivial⟩, ((hS).sel [0, 1, 2, 3, 4, 5] rfl).selR [] rfl⟩⟩
        · replace hG3 := iteF hc2 hG3
          refine cw_exit ?_
          refine xcons_hit ?_
          cases hG3
          have ho := hr3 _ rfl; subst ho
          exact ⟨x28, x29, x30, s8, rfl, hA.part ⟨rfl, rfl, rfl, trivial⟩, ((hS).sel [0, 1, 2, 3, 4, 5] rfl).selR [] rfl⟩
      · skip
        clear hA hS hl3
        rintro a w ⟨x31, x32, x33, s9, heq, hA, hS⟩
        replace hF : impl_reader_mem_j3 x11 x22 x31 x32 x33 = some r := by rw [heq] at hF; exact hF
        clear heq
        unfold impl_reader_mem_j3 at hF
        refine cw_seq ?_
        refine cw_seq ?_
        refine cw_ops hA ?_
        clear hA
        refine ops_v (rv_move rfl rfl) (want_yes rfl) rfl rfl ?_
        refine ops_nil ?_
        intro a hA
        obtain ⟨o4, hl4, hF⟩ := bindE hF
        refine cw_cut (J := fun a' w' => ∃ (x42 : List UInt8) (x43 : Bool) (x44 : List SList) (s12 : Value), o4 = (x42, x43, x44) ∧ AEnv 55 [(0, .pointer (some ⟨b1, z1, none⟩)), (2, .pointer (some ⟨b2, 0, none⟩)), (3, .pointer (some ⟨b3, 0, none⟩))] a' ∧ St (c) w' [cAt b1 z1 [sv (x42), .bool (x43)], cBox b2 [(.slice none 0 0), (.slice none 0 0), (.slice none 0 0), (.slice none 0 0)], cOwn [s3] (x11 : List Int), cOwn [s6] (x22 : List Int), cOwn [s9] (x33 : List SList), cOwn [s12] (x44 : List SList), cBox b3 [s3, s6, s9, s12]] []) ?_ ?_
        · refine cw_block ?_
          refine cw_loop (body := impl_reader_mem_l4) (r := o4) (fun sg a' w' => ∃ (s11 : Value), AEnv 55 [(0, .pointer (some ⟨b1, z1, none⟩)), (2, .pointer (some ⟨b2, 0, none⟩)), (3, .pointer (some ⟨b3, 0, none⟩)), (42, .int .i64 (sg.1))] a' ∧ St (c) w' [cAt b1 z1 [sv (sg.2.1), .bool (sg.2.2.1)], cBox b2 [(.slice none 0 0), (.slice none 0 0), (.slice none 0 0), (.slice none 0 0)], cOwn [s3] (x11 : List Int), cOwn [s6] (x22 : List Int), cOwn [s9] (x33 : List SList), cOwn [s11] (sg.2.2.2 : List SList), cBox b3 [s3, s6, s9, s11]] []) ?_ hl4 ⟨(.slice none 0 0), hA.part ⟨rfl, rfl, rfl, rfl, trivial⟩, (((hS).nilOwn (α := SList)).sel [0, 1, 2, 3, 4, 6, 5] rfl).selR [] rfl⟩
          clear hA hS hl4
          rintro ⟨x38, x39, x40, x41⟩ a w q4 ⟨s11, hA, hS⟩ hG4 hr4
          try dsimp only at hA hS
          unfold impl_reader_mem_l4 at hG4
          refine cw_seq ?_
          refine cw_ops hA ?_
          clear hA
          refine ops_v (rv_lss rfl rfl rfl) (want_yes rfl) rfl rfl ?_
          refine ops_nil ?_
          intro a hA
          refine cw_seq ?_
          refine cw_cond hA rfl (fun hc1 => ?_) (fun hc1 => ?_)
          · replace hG4 := iteT hc1 hG4
            refine cw_skip ?_
            refine cw_seq ?_
            refine cw_cut (J := fun a' w' => ∃ (x45 : List UInt8) (x46 : Bool) (x47 : List SList) (s13 : Value), impl_reader_mem_j5 x38 x45 x46 x47 = some q4 ∧ AEnv 55 [(0, .pointer (some ⟨b1, z1, none⟩)), (2, .pointer (some ⟨b2, 0, none⟩)), (3, .pointer (some ⟨b3, 0, none⟩)), (42, .int .i64 (x38))] a' ∧ St (c) w' [cAt b1 z1 [sv (x45), .bool (x46)], cBox b2 [(.slice none 0 0), (.slice none 0 0), (.slice none 0 0), (.slice none 0 0)], cOwn [s3] (x11 : List Int), cOwn [s6] (x22 : List Int), cOwn [s9] (x33 : List SList), cOwn [s13] (x47 : List SList), cBox b3 [s3, s6, s9, s13]] []) ?_ ?_
            · skip
              refine cw_block ?_
              refine cw_any (Keeps (c) [cNo, cBox b2 [(.slice none 0 0), (.slice none 0 0), (.slice none 0 0), (.slice none 0 0)], cOwn [s3] (x11 : List Int), cOwn [s6] (x22 : List Int), cOwn [s9] (x33 : List SList), cNo, cNo] []) mixed_Try hA hS ?_
              clear hA hS; intro w hS
              have hK : Keeps (c) [cNo, cBox b2 [(.slice none 0 0), (.slice none 0 0), (.slice none 0 0), (.slice none 0 0)], cOwn [s3] (x11 : List Int), cOwn [s6] (x22 : List Int), cOwn [s9] (x33 : List SList), cNo, cNo] [] w := ⟨_, (hS.sel [900000, 1, 2, 3, 4, 900005, 900006] rfl).selR [] rfl⟩
              refine any_v 0 (by kernel_rfl) rfl (by kernel_rfl) (by kernel_rfl) hK (fun _ _ => (rv_fld (m := 1) Try.underlying37 rfl rfl Try.sizeOf35 rfl rfl)) (want_yes rfl) rfl rfl ?_
              refine any_v 1 (by kernel_rfl) rfl (by kernel_rfl) (by kernel_rfl) hK (fun _ _ => (rv_fld (m := 0) Try.underlying35 rfl rfl Try.sizeOf33 rfl rfl)) (want_yes rfl) rfl rfl ?_
              refine any_v 3 (by kernel_rfl) rfl (by kernel_rfl) (by kernel_rfl) hK (fun _ _ => (rv_move rfl rfl)) (want_yes rfl) rfl rfl ?_
              obtain ⟨x48, hx48, hG4⟩ := bindE hG4
              obtain ⟨hn1, hG4⟩ := needE hG4
              refine any_2 (i := 2) (j := 4) (by kernel_rfl) ?_ ?_
              · skip
                refine as_v rfl (rv_load1 rfl rfl Try.isAgg33 (hS.cell 6 rfl rfl)) (want_yes rfl) rfl rfl hK ?_
                refine any_1 (i := 4) (by kernel_rfl) ?_
                obtain ⟨c1, hg, hb⟩ := hS.give [0] rfl rfl
                refine as_c rfl (rc_call Try.call47 rfl rfl) (want_yes rfl) rfl rfl (c_impl_reader_list (c := c1) (r_ := (⟨(⟨x39⟩ : GStr), x40⟩ : Reader)) (b1 := b1) (z1 := z1) (hg _ all_nil) hx48) ?_
                clear hK; rintro _ w ⟨s14, rfl, hk⟩
                replace hS := hb _ _ _ hk; clear hk hg hb
                have hK : Keeps (c) [cNo, cBox b2 [(.slice none 0 0), (.slice none 0 0), (.slice none 0 0), (.slice none 0 0)], cOwn [s3] (x11 : List Int), cOwn [s6] (x22 : List Int), cOwn [s9] (x33 : List SList), cNo, cNo] [] w := ⟨_, (hS.sel [900000, 1, 2, 3, 4, 900005, 900006] rfl).selR [] rfl⟩
                refine ⟨hK, ?_⟩
                refine any_1 (i := 5) (by kernel_rfl) ?_
                replace hS := hS.pack [7] rfl rfl (op_SList x48.1)
                refine as_mv rfl (rv_litN1 (x48.1 : SList) hS [9] rfl ⟨_, rfl, rfl, ⟨rfl, rfl⟩⟩ rfl Try.underlying33 inf_Try53 rfl rfl rfl) (want_yes rfl) rfl rfl ?_
                clear hS
                clear hK; rintro s15 w hS
                have hK : Keeps (c) [cNo, cBox b2 [(.slice none 0 0), (.slice none 0 0), (.slice none 0 0), (.slice none 0 0)], cOwn [s3] (x11 : List Int), cOwn [s6] (x22 : List Int), cOwn [s9] (x33 : List SList), cNo, cNo] [] w := ⟨_, (hS.sel [900000, 1, 2, 3, 4, 900005, 900006] rfl).selR [] rfl⟩
                refine ⟨hK, ?_⟩
                refine any_1 (i := 6) (by kernel_rfl) ?_
                refine as_mv rfl (rv_appN (α := SList) [5, 10] hS rfl rfl rfl Try.underlying33 inf_Try53 rfl hn1 rfl rfl rfl) (want_yes rfl) rfl rfl ?_
                clear hS
                clear hK; rintro s16 w hS
                have hK : Keeps (c) [cNo, cBox b2 [(.slice none 0 0), (.slice none 0 0), (.slice none 0 0), (.slice none 0 0)], cOwn [s3] (x11 : List Int), cOwn [s6] (x22 : List Int), cOwn [s9] (x33 : List SList), cNo, cNo] [] w := ⟨_, (hS.sel [900000, 1, 2, 3, 4, 900005, 900006] rfl).selR [] rfl⟩
                refine ⟨hK, ?_⟩
                refine any_v 7 (by kernel_rfl) rfl (by kernel_rfl) (by kernel_rfl) hK (fun _ _ => (rv_fld (m := 1) Try.underlying37 rfl rfl Try.sizeOf35 rfl rfl)) (want_yes rfl) rfl rfl ?_
                refine any_v 8 (by kernel_rfl) rfl (by kernel_rfl) (by kernel_rfl) hK (fun _ _ => (rv_fld (m := 0) Try.underlying35 rfl rfl Try.sizeOf33 rfl rfl)) (want_yes rfl) rfl rfl ?_
                refine any_1 (i := 9) (by kernel_rfl) ?_
                refine as_ms rfl (rs_box (vs := [s16]) hS (i := 6) rfl rfl rfl rfl (cells_rd (hS.rdOwn 11 rfl)) Try.sizeOf33 rfl rfl (all1 (one_rd (hS.rdOwn 11 rfl)) rfl)) (want_yes rfl) rfl ?_
                clear hS
                clear hK; intro w hS
                have hK : Keeps (c) [cNo, cBox b2 [(.slice none 0 0), (.slice none 0 0), (.slice none 0 0), (.slice none 0 0)], cOwn [s3] (x11 : List Int), cOwn [s6] (x22 : List Int), cOwn [s9] (x33 : List SList), cNo, cNo] [] w := ⟨_, (hS.sel [900000, 1, 2, 3, 4, 900005, 900006] rfl).selR [] rfl⟩
                refine ⟨hK, ?_⟩
                refine any_done (by kernel_rfl) ?_
                intro a hA
                exact ⟨x48.2.left.b, x48.2.bad, x41 ++ ([x48.1]), s16, hG4, hA.part ⟨rfl, rfl, rfl, rfl, trivial⟩, ((hS).sel [8, 1, 2, 3, 4, 11, 6] rfl).selR [] rfl⟩
              · skip
                obtain ⟨c1, hg, hb⟩ := hS.give [0] rfl rfl
                refine as_c rfl (rc_call Try.call47 rfl rfl) (want_yes rfl) rfl rfl (c_impl_reader_list (c := c1) (r_ := (⟨(⟨x39⟩ : GStr), x40⟩ : Reader)) (b1 := b1) (z1 := z1) (hg _ all_nil) hx48) ?_
                clear hK; rintro _ w ⟨s14, rfl, hk⟩
                replace hS := hb _ _ _ hk; clear hk hg hb
                have hK : Keeps (c) [cNo, cBox b2 [(.slice none 0 0), (.slice none 0 0), (.slice none 0 0), (.slice none 0 0)], cOwn [s3] (x11 : List Int), cOwn [s6] (x22 : List Int), cOwn [s9] (x33 : List SList), cNo, cNo] [] w := ⟨_, (hS.sel [900000, 1, 2, 3, 4, 900005, 900006] rfl).selR [] rfl⟩
                refine ⟨hK, ?_⟩
                refine any_2 (i := 2) (j := 5) (by kernel_rfl) ?_ ?_
                · skip
                  refine as_v rfl (rv_load1 rfl rfl Try.isAgg33 (hS.cell 6 rfl rfl)) (want_yes rfl) rfl rfl hK ?_
                  refine any_1 (i := 5) (by kernel_rfl) ?_
                  replace hS := hS.pack [7] rfl rfl (op_SList x48.1)
                  refine as_mv rfl (rv_litN1 (x48.1 : SList) hS [9] rfl ⟨_, rfl, rfl, ⟨rfl, rfl⟩⟩ rfl Try.underlying33 inf_Try53 rfl rfl rfl) (want_yes rfl) rfl rfl ?_
                  clear hS
                  clear hK; rintro s15 w hS
                  have hK : Keeps (c) [cNo, cBox b2 [(.slice none 0 0), (.slice none 0 0), (.slice none 0 0), (.slice none 0 0)], cOwn [s3] (x11 : List Int), cOwn [s6] (x22 : List Int), cOwn [s9] (x33 : List SList), cNo, cNo] [] w := ⟨_, (hS.sel [900000, 1, 2, 3, 4, 900005, 900006] rfl).selR [] rfl⟩
                  refine ⟨hK, ?_⟩
                  refine any_1 (i := 6) (by kernel_rfl) ?_
                  refine as_mv rfl (rv_appN (α := SList) [5, 10] hS rfl rfl rfl Try.underlying33 inf_Try53 rfl hn1 rfl rfl rfl) (want_yes rfl) rfl rfl ?_
                  clear hS
                  clear hK; rintro s16 w hS
                  have hK : Keeps (c) [cNo, cBox b2 [(.slice none 0 0), (.slice none 0 0), (.slice none 0 0), (.slice none 0 0)], cOwn [s3] (x11 : List Int), cOwn [s6] (x22 : List Int), cOwn [s9] (x33 : List SList), cNo, cNo] [] w := ⟨_, (hS.sel [900000, 1, 2, 3, 4, 900005, 900006] rfl).selR [] rfl⟩
                  refine ⟨hK, ?_⟩
                  refine any_v 7 (by kernel_rfl) rfl (by kernel_rfl) (by kernel_rfl) hK (fun _ _ => (rv_fld (m := 1) Try.underlying37 rfl rfl Try.sizeOf35 rfl rfl)) (want_yes rfl) rfl rfl ?_
                  refine any_v 8 (by kernel_rfl) rfl (by kernel_rfl) (by kernel_rfl) hK (fun _ _ => (rv_fld (m := 0) Try.underlying35 rfl rfl Try.sizeOf33 rfl rfl)) (want_yes rfl) rfl rfl ?_
                  refine any_1 (i := 9) (by kernel_rfl) ?_
                  refine as_ms rfl (rs_box (vs := [s16]) hS (i := 6) rfl rfl rfl rfl (cells_rd (hS.rdOwn 11 rfl)) Try.sizeOf33 rfl rfl (all1 (one_rd (hS.rdOwn 11 rfl)) rfl)) (want_yes rfl) rfl ?_
                  clear hS
                  clear hK; intro w hS
                  have hK : Keeps (c) [cNo, cBox b2 [(.slice none 0 0), (.slice none 0 0), (.slice none 0 0), (.slice none 0 0)], cOwn [s3] (x11 : List Int), cOwn [s6] (x22 : List Int), cOwn [s9] (x33 : List SList), cNo, cNo] [] w := ⟨_, (hS.sel [900000, 1, 2, 3, 4, 900005, 900006] rfl).selR [] rfl⟩
                  refine ⟨hK, ?_⟩
                  refine any_done (by kernel_rfl) ?_
                  intro a hA
                  exact ⟨x48.2.left.b, x48.2.bad, x41 ++ ([x48.1]), s16, hG4, hA.part ⟨rfl, rfl, rfl, rfl, trivial⟩, ((hS).sel [8, 1, 2, 3, 4, 11, 6] rfl).selR [] rfl⟩
                · skip
                  replace hS := hS.pack [7] rfl rfl (op_SList x48.1)
                  refine as_mv rfl (rv_litN1 (x48.1 : SList) hS [9] rfl ⟨_, rfl, rfl, ⟨rfl, rfl⟩⟩ rfl Try.underlying33 inf_Try53 rfl rfl rfl) (want_yes rfl) rfl rfl ?_
                  clear hS
                  clear hK; rintro s15 w hS
                  have hK : Keeps (c) [cNo, cBox b2 [(.slice none 0 0), (.slice none 0 0), (.slice none 0 0), (.slice none 0 0)], cOwn [s3] (x11 : List Int), cOwn [s6] (x22 : List Int), cOwn [s9] (x33 : List SList), cNo, cNo] [] w := ⟨_, (hS.sel [900000, 1, 2, 3, 4, 900005, 900006] rfl).selR [] rfl⟩
                  refine ⟨hK, ?_⟩
                  refine any_1 (i := 2) (by kernel_rfl) ?_
                  refine as_v rfl (rv_load1 rfl rfl Try.isAgg33 (hS.cell 6 rfl rfl)) (want_yes rfl) rfl rfl hK ?_
                  refine any_1 (i := 6) (by kernel_rfl) ?_
                  refine as_mv rfl (rv_appN (α := SList) [5, 10] hS rfl rfl rfl Try.underlying33 inf_Try53 rfl hn1 rfl rfl rfl) (want_yes rfl) rfl rfl ?_
                  clear hS
                  clear hK; rintro s16 w hS
                  have hK : Keeps (c) [cNo, cBox b2 [(.slice none 0 0), (.slice none 0 0), (.slice none 0 0), (.slice none 0 0)], cOwn [s3] (x11 : List Int), cOwn [s6] (x22 : List Int), cOwn [s9] (x33 : List SList), cNo, cNo] [] w := ⟨_, (hS.sel [900000, 1, 2, 3, 4, 900005, 900006] rfl).selR [] rfl⟩
                  refine ⟨hK, ?_⟩
                  refine any_v 7 (by kernel_rfl) rfl (by kernel_rfl) (by kernel_rfl) hK (fun _ _ => (rv_fld (m := 1) Try.underlying37 rfl rfl Try.sizeOf35 rfl rfl)) (want_yes rfl) rfl rfl ?_
                  refine any_v 8 (by kernel_rfl) rfl (by kernel_rfl) (by kernel_rfl) hK (fun _ _ => (rv_fld (m := 0) Try.underlying35 rfl rfl Try.sizeOf33 rfl rfl)) (want_yes rfl) rfl rfl ?_
                  refine any_1 (i := 9) (by kernel_rfl) ?_
                  refine as_ms rfl (rs_box (vs := [s16]) hS (i := 6) rfl rfl rfl rfl (cells_rd (hS.rdOwn 11 rfl)) Try.sizeOf33 rfl rfl (all1 (one_rd (hS.rdOwn 11 rfl)) rfl)) (want_yes rfl) rfl ?_
                  clear hS
                  clear hK; intro w hS
                  have hK : Keeps (c) [cNo, cBox b2 [(.slice none 0 0), (.slice none 0 0), (.slice none 0 0), (.slice none 0 0)], cOwn [s3] (x11 : List Int), cOwn [s6] (x22 : List Int), cOwn [s9] (x33 : List SList), cNo, cNo] [] w := ⟨_, (hS.sel [900000, 1, 2, 3, 4, 900005, 900006] rfl).selR [] rfl⟩
                  refine ⟨hK, ?_⟩
                  refine any_done (by kernel_rfl) ?_
                  intro a hA
                  exact ⟨x48.2.left.b, x48.2.bad, x41 ++ ([x48.1]), s16, hG4, hA.part ⟨rfl, rfl, rfl, rfl, trivial⟩, ((hS).sel [8, 1, 2, 3, 4, 11, 6] rfl).selR [] rfl⟩
            · skip
              clear hA hS hG4
              rintro a w ⟨x45, x46, x47, s13, hG4, hA, hS⟩
              unfold impl_reader_mem_j5 at hG4
              refine cw_ops hA ?_
              clear hA
              refine ops_v (rv_add rfl rfl rfl) (want_yes rfl) rfl rfl ?_
              refine ops_v (rv_move rfl rfl) (want_yes rfl) rfl rfl ?_
              refine ops_nil ?_
              intro a hA
              cases hG4
              exact ⟨_, rfl, ⟨s13, hA.part ⟨rfl, rfl, rfl, rfl, trivial⟩, ((hS).sel [0, 1, 2, 3, 4, 5, 6] rfl).selR [] rfl⟩⟩
          · replace hG4 := iteF hc1 hG4
            refine cw_exit ?_
            refine xcons_hit ?_
            cases hG4
            have ho := hr4 _ rfl; subst ho
            exact ⟨x39, x40, x41, s11, rfl, hA.part ⟨rfl, rfl, rfl, trivial⟩, ((hS).sel [0, 1, 2, 3, 4, 5, 6] rfl).selR [] rfl⟩
        · skip
          clear hA hS hl4
          rintro a w ⟨x42, x43, x44, s12, heq, hA, hS⟩
          replace hF : impl_reader_mem_j4 x11 x22 x33 x42 x43 x44 = some r := by rw [heq] at hF; exact hF
          clear heq
          unfold impl_reader_mem_j4 at hF
          refine cw_seq ?_
          refine cw_ops hA ?_
          clear hA
          refine ops_v (rv_loadN rfl rfl Try.isAgg37 Try.sizeOf37 rfl (hS.cells 6 0 (cs' := [s3, s6, s9, s12]) rfl rfl)) (want_yes rfl) rfl rfl ?_
          refine ops_ms (rs_box (vs := [s3, s6, s9, s12]) hS (i := 1) rfl rfl rfl rfl rfl Try.sizeOf37 rfl rfl (all1 (one_rd (hS.rdOwn 2 rfl)) (all1 (one_rd (hS.rdOwn 3 rfl)) (all1 (one_rd (hS.rdOwn 4 rfl)) (all1 (one_rd (hS.rdOwn 5 rfl)) rfl))))) (want_yes rfl) rfl ?_
          clear hS
          intro w hS
          refine ops_nil ?_
          intro a hA
          refine cw_ret ?_
          cases hF
          exact fin1 Try.results25 hA (res_cell rfl Try.isAgg37 Try.sizeOf37 rfl (hS.cells 1 0 (cs' := [s3, s6, s9, s12]) rfl rfl)) ⟨s3, s6, s9, s12, rfl, (hS.sel [2, 3, 4, 5, 0] rfl).weaken (R' := []) (fun _ h => nomatch h)⟩

set_option maxHeartbeats 4000000 in
set_option maxRecDepth 100000 in
theorem c_impl_ReadMem {w0 : World} {s : List UInt8}  {r : Mem × Bool}  (hF : impl_ReadMem s = some r) :
    Calls Try.prog 11 #[sv (s)] w0 (Ret fun v w' => ∃ (s0_0 : Value) (s0_1 : Value) (s0_2 : Value) (s0_3 : Value), v = .tuple #[.agg #[s0_0, s0_1, s0_2, s0_3], .bool (r.2)] ∧ St (cxAll w0) w' [cOwn [s0_0] (r.1.Heap.Bytes : List Int), cOwn [s0_1] (r.1.Heap.Class : List Int), cOwn [s0_2] (r.1.Lists.Global : List SList), cOwn [s0_3] (r.1.Lists.Own : List SList)] []) := by
  have hS : St (cxAll w0) w0 [] [] := St.enter (by
    intro f hf; cases hf)
  refine calls_cw (args := [_]) Try.func11 rfl Try.ntmps11 rfl ?_
  unfold impl_ReadMem at hF
  intro a hA
  refine cw_seq ?_
  refine cw_ops hA ?_
  clear hA
  refine ops_mv (rv_alloc (cs := [(.slice none 0 0), (.slice none 0 0), (.slice none 0 0), (.slice none 0 0)]) hS rfl Try.zeroValue37 rfl) (want_yes rfl) rfl rfl ?_
  clear hS
  rintro _ w ⟨b1, rfl, hS⟩
  refine ops_v (rv_assign rfl rfl) (want_yes rfl) rfl rfl ?_
  refine ops_nil ?_
  intro a hA
  refine cw_seq ?_
  refine cw_ops hA ?_
  clear hA
  refine ops_v (rv_move rfl rfl) (want_yes rfl) rfl rfl ?_
  refine ops_v (rv_build (cells := #[sv (s), .bool (false)]) rfl Try.zeroValue60 Try.underlying60 (by have h := places_Try60; rw [Try.underlying60] at h; exact h) rfl rfl) (want_yes rfl) rfl rfl ?_
  refine ops_mv (rv_alloc (cs := [sv ([]), .bool (false)]) hS rfl Try.zeroValue60 rfl) (want_yes rfl) rfl rfl ?_
  clear hS
  rintro _ w ⟨b2, rfl, hS⟩
  refine ops_ms (rs_box (vs := [sv (s), .bool (false)]) hS (i := 1) rfl rfl rfl rfl rfl Try.sizeOf60 rfl rfl rfl) (want_yes rfl) rfl ?_
  clear hS
  intro w hS
  refine ops_nil ?_
  intro a hA
  refine cw_seq ?_
  refine cw_ops hA ?_
  clear hA
  obtain ⟨c1, hg, hb⟩ := hS.give [1] rfl rfl
  obtain ⟨x1, hx1, hF⟩ := bindE hF
  refine ops_c (rc_call Try.call25 rfl rfl) (want_yes rfl) rfl rfl (c_impl_reader_mem (c := c1) (r_ := (⟨(⟨s⟩ : GStr), false⟩ : Reader)) (b1 := b2) (z1 := 0) (hg _ all_nil) hx1) ?_
  rintro _ w ⟨s1, s2, s3, s4, rfl, hk⟩
  replace hS := hb _ _ _ hk; clear hk hg hb
  refine ops_mv (rv_alloc (cs := [(.slice none 0 0), (.slice none 0 0), (.slice none 0 0), (.slice none 0 0)]) hS rfl Try.zeroValue37 rfl) (want_yes rfl) rfl rfl ?_
  clear hS
  rintro _ w ⟨b3, rfl, hS⟩
  refine ops_ms (rs_box (vs := [s1, s2, s3, s4]) hS (i := 7) rfl rfl rfl rfl rfl Try.sizeOf37 rfl rfl (all1 (one_rd (hS.rdOwn 2 rfl)) (all1 (one_rd (hS.rdOwn 3 rfl)) (all1 (one_rd (hS.rdOwn 4 rfl)) (all1 (one_rd (hS.rdOwn 5 rfl)) rfl))))) (want_yes rfl) rfl ?_
  clear hS
  intro w hS
  refine ops_nil ?_
  intro a hA
  refine cw_seq ?_
  refine cw_seq ?_
  refine cw_cut (J := fun a' w' => ∃ (x2 : Bool), impl_ReadMem_j1 x1 x2 = some r ∧ AEnv 24 [(2, .pointer (some ⟨b1, 0, none⟩)), (5, .pointer (some ⟨b3, 0, none⟩)), (21, .bool (x2))] a' ∧ St (cxAll w0) w' [cBox b1 [(.slice none 0 0), (.slice none 0 0), (.slice none 0 0), (.slice none 0 0)], cOwn [s1] (x1.1.Heap.Bytes : List Int), cOwn [s2] (x1.1.Heap.Class : List Int), cOwn [s3] (x1.1.Lists.Global : List SList), cOwn [s4] (x1.1.Lists.Own : List SList), cBox b3 [s1, s2, s3, s4]] []) ?_ ?_
  · skip
    refine cw_ops hA ?_
    clear hA
    refine ops_v (rv_fld (m := 0) Try.underlying60 rfl rfl Try.sizeOf4 rfl rfl) (want_yes rfl) rfl rfl ?_
    refine ops_v (rv_load1 rfl rfl Try.isAgg4 (hS.cell 6 rfl rfl)) (want_yes rfl) rfl rfl ?_
    refine ops_v (rv_move rfl rfl) (want_yes rfl) rfl rfl ?_
    refine ops_case (s := 11) rfl (fun hc2 => ?_) (fun hc2 => ?_)
    · replace hF := iteT hc2 hF
      refine ops_off (want_if rfl rfl rfl (by rw [hc2]; rfl)) rfl rfl ?_
      refine ops_off (want_if rfl rfl rfl (by rw [hc2]; rfl)) rfl rfl ?_
      refine ops_off (want_if rfl rfl rfl (by rw [hc2]; rfl)) rfl rfl ?_
      refine ops_v (rv_pick_t rfl rfl hc2 rfl) (want_yes rfl) rfl rfl ?_
      refine ops_v (rv_move rfl rfl) (want_yes rfl) rfl rfl ?_
      refine ops_off (want_if rfl rfl rfl rfl) rfl rfl ?_
      refine ops_off (want_if rfl rfl rfl rfl) rfl rfl ?_
      refine ops_off (want_if rfl rfl rfl rfl) rfl rfl ?_
      refine ops_off (want_if rfl rfl rfl rfl) rfl rfl ?_
      refine ops_v (rv_pick_t rfl rfl rfl rfl) (want_yes rfl) rfl rfl ?_
      refine ops_nil ?_
      intro a hA
      exact ⟨true, hF, hA.part ⟨rfl, rfl, rfl, trivial⟩, ((hS).sel [0, 2, 3, 4, 5, 7] rfl).selR [] rfl⟩
    · replace hF := iteF hc2 hF
      refine ops_v (rv_loadN rfl rfl Try.isAgg37 Try.sizeOf37 rfl (hS.cells 7 0 (cs' := [s1, s2, s3, s4]) rfl rfl)) (want_if rfl rfl rfl (by rw [hc2]; rfl)) rfl rfl ?_
      obtain ⟨x3, hx3, hF⟩ := bindE hF
      refine ops_c (rc_call Try.call20 rfl rfl) (want_if rfl rfl rfl (by rw [hc2]; rfl)) rfl rfl (c_impl_MemOk (m := x1.1) (hS.rdOwn 2 rfl) (hS.rdOwn 3 rfl) (hS.rdOwn 4 rfl) (hS.rdOwn 5 rfl) hx3) ?_
      rintro _ w ⟨rfl, hk⟩
      replace hS := hS.after hk; clear hk
      refine ops_v (rv_not rfl rfl) (want_if rfl rfl rfl (by rw [hc2]; rfl)) rfl rfl ?_
      refine ops_v (rv_pick_f rfl rfl hc2 rfl) (want_yes rfl) rfl rfl ?_
      refine ops_v (rv_move rfl rfl) (want_yes rfl) rfl rfl ?_
      refine ops_case (s := 16) rfl (fun hc3 => ?_) (fun hc3 => ?_)
      · replace hF := iteT hc3 hF
        refine ops_off (want_if rfl rfl rfl (by rw [hc3]; rfl)) rfl rfl ?_
        refine ops_off (want_if rfl rfl rfl (by rw [hc3]; rfl)) rfl rfl ?_
        refine ops_off (want_if rfl rfl rfl (by rw [hc3]; rfl)) rfl rfl ?_
        refine ops_off (want_if rfl rfl rfl (by rw [hc3]; rfl)) rfl rfl ?_
        refine ops_v (rv_pick_t rfl rfl hc3 rfl) (want_yes rfl) rfl rfl ?_
        refine ops_nil ?_
        intro a hA
        exact ⟨true, hF, hA.part ⟨rfl, rfl, rfl, trivial⟩, ((hS).sel [0, 2, 3, 4, 5, 7] rfl).selR [] rfl⟩
      · replace hF := iteF hc3 hF
        refine ops_v (rv_loadN rfl rfl Try.isAgg37 Try.sizeOf37 rfl (hS.cells 7 0 (cs' := [s1, s2, s3, s4]) rfl rfl)) (want_if rfl rfl rfl (by rw [hc3]; rfl)) rfl rfl ?_
        obtain ⟨x4, hx4, hF⟩ := bindE hF
        refine ops_c (rc_call Try.call8 rfl rfl) (want_if rfl rfl rfl (by rw [hc3]; rfl)) rfl rfl (c_impl_ShowMem (m := x1.1) (hS.rdOwn 2 rfl) (hS.rdOwn 3 rfl) (hS.rdOwn 4 rfl) (hS.rdOwn 5 rfl) hx4) ?_
        rintro _ w ⟨rfl, hk⟩
        replace hS := hS.after hk; clear hk
        refine ops_v (rv_move rfl rfl) (want_if rfl rfl rfl (by rw [hc3]; rfl)) rfl rfl ?_
        refine ops_v (rv_neqs rfl rfl rfl) (want_if rfl rfl rfl (by rw [hc3]; rfl)) rfl rfl ?_
        refine ops_v (rv_pick_f rfl rfl hc3 rfl) (want_yes rfl) rfl rfl ?_
        refine ops_nil ?_
        intro a hA
        exact ⟨!(x4 == s), hF, hA.part ⟨rfl, rfl, rfl, trivial⟩, ((hS).sel [0, 2, 3, 4, 5, 7] rfl).selR [] rfl⟩
  · skip
    clear hA hS hF
    rintro a w ⟨x2, hF, hA, hS⟩
    unfold impl_ReadMem_j1 at hF
    refine cw_cond hA rfl (fun hc1 => ?_) (fun hc1 => ?_)
    · replace hF := iteT hc1 hF
      refine cw_seq ?_
      refine cw_ops hA ?_
      clear hA
      refine ops_v (rv_build (cells := #[(.slice none 0 0), (.slice none 0 0), (.slice none 0 0), (.slice none 0 0)]) rfl Try.zeroValue37 Try.underlying37 (by have h := places_Try37; rw [Try.underlying37] at h; exact h) rfl rfl) (want_yes rfl) rfl rfl ?_
      refine ops_ms (rs_box (vs := [(.slice none 0 0), (.slice none 0 0), (.slice none 0 0), (.slice none 0 0)]) hS (i := 0) rfl rfl rfl rfl rfl Try.sizeOf37 rfl rfl rfl) (want_yes rfl) rfl ?_
      clear hS
      intro w hS
      refine ops_v (rv_assign rfl rfl) (want_yes rfl) rfl rfl ?_
      refine ops_nil ?_
      intro a hA
      refine cw_ret ?_
      replace hS := hS.nilOwn (α := Int)
      replace hS := hS.nilOwn (α := Int)
      replace hS := hS.nilOwn (α := SList)
      replace hS := hS.nilOwn (α := SList)
      cases hF
      exact fin2 Try.results11 hA (res_cell rfl Try.isAgg37 Try.sizeOf37 rfl (hS.cells 0 0 (cs' := [(.slice none 0 0), (.slice none 0 0), (.slice none 0 0), (.slice none 0 0)]) rfl rfl)) (res_tmp rfl) ⟨(.slice none 0 0), (.slice none 0 0), (.slice none 0 0), (.slice none 0 0), rfl, (hS.sel [6, 7, 8, 9] rfl).weaken (R' := []) (fun _ h => nomatch h)⟩
    · replace hF := iteF hc1 hF
      refine cw_skip ?_
      refine cw_seq ?_
      refine cw_ops hA ?_
      clear hA
      refine ops_v (rv_loadN rfl rfl Try.isAgg37 Try.sizeOf37 rfl (hS.cells 5 0 (cs' := [s1, s2, s3, s4]) rfl rfl)) (want_yes rfl) rfl rfl ?_
      refine ops_ms (rs_box (vs := [s1, s2, s3, s4]) hS (i := 0) rfl rfl rfl rfl rfl Try.sizeOf37 rfl rfl (all1 (one_rd (hS.rdOwn 1 rfl)) (all1 (one_rd (hS.rdOwn 2 rfl)) (all1 (one_rd (hS.rdOwn 3 rfl)) (all1 (one_rd (hS.rdOwn 4 rfl)) rfl))))) (want_yes rfl) rfl ?_
      clear hS
      intro w hS
      refine ops_v (rv_assign rfl rfl) (want_yes rfl) rfl rfl ?_
      refine ops_nil ?_
      intro a hA
      refine cw_ret ?_
      cases hF
      exact fin2 Try.results11 hA (res_cell rfl Try.isAgg37 Try.sizeOf37 rfl (hS.cells 0 0 (cs' := [s1, s2, s3, s4]) rfl rfl)) (res_tmp rfl) ⟨s1, s2, s3, s4, rfl, (hS.sel [1, 2, 3, 4] rfl).weaken (R' := []) (fun _ h => nomatch h)⟩

set_option maxHeartbeats 4000000 in
set_option maxRecDepth 100000 in
theorem c_laws_markIntS {c : Ctx} {w0 : World} {a_ : List Int} {k : Int} {s1 : Value} {r : Int × (List Int)} (hS : St c w0 [cOwn [s1] (a_ : List Int)] []) (hF : laws_markIntS a_ k = some r) :
    Calls Try.prog 48 #[s1, .int .i64 (k)] w0 (Ret fun v w' => v = .int .i64 (r.1) ∧ St (c) w' [cOwn [s1] (r.2 : List Int)] []) := by
  refine calls_cw (args := [_, _]) Try.func48 rfl Try.ntmps48 rfl ?_
  unfold laws_markIntS at hF
  intro a hA
  refine cw_seq ?_
  refine cw_ops hA ?_
  clear hA
  refine ops_v (rv_assign rfl rfl) (want_yes rfl) rfl rfl ?_
  refine ops_nil ?_
  intro a hA
  refine cw_seq ?_
  refine cw_seq ?_
  refine cw_ops hA ?_
  clear hA
  refine ops_v (rv_assign rfl rfl) (want_yes rfl) rfl rfl ?_
  refine ops_nil ?_
  intro a hA
  obtain ⟨o1, hl1, hF⟩ := bindE hF
  refine cw_cut (J := fun a' w' => ∃ (x7 : List Int) (x8 : Int), o1 = (x7, x8) ∧ AEnv 19 [(0, s1), (1, .int .i64 (x8))] a' ∧ St (c) w' [cOwn [s1] (x7 : List Int)] []) ?_ ?_
  · refine cw_block ?_
    refine cw_loop (body := laws_markIntS_l1) (r := o1) (fun sg a' w' => AEnv 19 [(0, s1), (1, .int .i64 (sg.2.1)), (5, .int .i64 (sg.2.2))] a' ∧ St (c) w' [cOwn [s1] (sg.1 : List Int)] []) ?_ hl1 ⟨hA.part ⟨rfl, rfl, rfl, trivial⟩, ((hS).sel [0] rfl).selR [] rfl⟩
    clear hA hS hl1
    rintro ⟨x4, x5, x6⟩ a w q1 ⟨hA, hS⟩ hG1 hr1
    try dsimp only at hA hS
    unfold laws_markIntS_l1 at hG1
    refine cw_seq ?_
    refine cw_seq ?_
    refine cw_ops hA ?_
    clear hA
    refine ops_v (rv_move rfl rfl) (want_yes rfl) rfl rfl ?_
    refine ops_v (rv_move rfl rfl) (want_yes rfl) rfl rfl ?_
    refine ops_v (rv_lenS (hS.rdOwn 0 rfl) Try.underlying22 rfl rfl) (want_yes rfl) rfl rfl ?_
    refine ops_v (rv_lss rfl rfl rfl) (want_yes rfl) rfl rfl ?_
    refine ops_nil ?_
    intro a hA
    refine cw_cond hA rfl (fun hc1 => ?_) (fun hc1 => ?_)
    · replace hG1 := iteT hc1 hG1
      refine cw_skip ?_
      refine cw_seq ?_
      refine cw_block ?_
      refine cw_seq ?_
      refine cw_ops hA ?_
      clear hA
      refine ops_v (rv_move rfl rfl) (want_yes rfl) rfl rfl ?_
      refine ops_v (rv_move rfl rfl) (want_yes rfl) rfl rfl ?_
      refine ops_v (rv_move rfl rfl) (want_yes rfl) rfl rfl ?_
      obtain ⟨x9, hx9, hG1⟩ := bindE hG1
      refine ops_v (rv_idx (m := 1) (hS.rdOwn 0 rfl) rfl hx9 Try.underlying22 Try.sizeOf3 rfl rfl rfl) (want_yes rfl) rfl rfl ?_
      refine ops_ms (rs_elem (vs := [.int .i64 (x5)]) (f := 0) (xd := x5) hS (i := 0) rfl hx9 rfl (el_Int (hS.rdOwn 0 rfl) (idx_some hx9).2.2) rfl rfl Try.sizeOf3 rfl rfl rfl rfl rfl rfl rfl) (want_yes rfl) rfl ?_
      clear hS
      intro w hS
      refine ops_nil ?_
      intro a hA
      refine cw_ops hA ?_
      clear hA
      refine ops_v (rv_move rfl rfl) (want_yes rfl) rfl rfl ?_
      refine ops_v (rv_add rfl rfl rfl) (want_yes rfl) rfl rfl ?_
      refine ops_v (rv_assign rfl rfl) (want_yes rfl) rfl rfl ?_
      refine ops_nil ?_
      intro a hA
      refine cw_ops hA ?_
      clear hA
      refine ops_v (rv_move rfl rfl) (want_yes rfl) rfl rfl ?_
      refine ops_v (rv_add rfl rfl rfl) (want_yes rfl) rfl rfl ?_
      refine ops_v (rv_assign rfl rfl) (want_yes rfl) rfl rfl ?_
      refine ops_nil ?_
      intro a hA
      cases hG1
      exact ⟨_, rfl, ⟨hA.part ⟨rfl, rfl, rfl, trivial⟩, ((hS).sel [0] rfl).selR [] rfl⟩⟩
    · replace hG1 := iteF hc1 hG1
      refine cw_exit ?_
      refine xcons_hit ?_
      cases hG1
      have ho := hr1 _ rfl; subst ho
      exact ⟨x4, x5, rfl, hA.part ⟨rfl, rfl, trivial⟩, ((hS).sel [0] rfl).selR [] rfl⟩
  · skip
    clear hA hS hl1
    rintro a w ⟨x7, x8, heq, hA, hS⟩
    replace hF : laws_markIntS_j1 x7 x8 = some r := by rw [heq] at hF; exact hF
    clear heq
    unfold laws_markIntS_j1 at hF
    refine cw_seq ?_
    refine cw_ops hA ?_
    clear hA
    refine ops_v (rv_move rfl rfl) (want_yes rfl) rfl rfl ?_
    refine ops_v (rv_assign rfl rfl) (want_yes rfl) rfl rfl ?_
    refine ops_nil ?_
    intro a hA
    refine cw_ret ?_
    cases hF
    exact fin1 Try.results48 hA (res_tmp rfl) ⟨rfl, (hS.sel [0] rfl).weaken (R' := []) (fun _ h => nomatch h)⟩

set_option maxHeartbeats 4000000 in
set_option maxRecDepth 100000 in
theorem c_laws_markHeap {c : Ctx} {w0 : World} {a_ : Heap} {k : Int} {s1 : Value} {s2 : Value} {r : Int × (List Int) × (List Int)} (hS : St c w0 [cOwn [s1] (a_.Bytes : List Int), cOwn [s2] (a_.Class : List Int)] []) (hF : laws_markHeap a_ k = some r) :
    Calls Try.prog 26 #[.agg #[s1, s2], .int .i64 (k)] w0 (Ret fun v w' => v = .int .i64 (r.1) ∧ St (c) w' [cOwn [s1] (r.2.1 : List Int), cOwn [s2] (r.2.2 : List Int)] []) := by
  refine calls_cw (args := [_, _]) Try.func26 rfl Try.ntmps26 rfl ?_
  unfold laws_markHeap at hF
  intro a hA
  refine cw_seq ?_
  refine cw_ops hA ?_
  clear hA
  refine ops_mv (rv_box (cs := [s1, s2]) hS rfl rfl rfl) (want_yes rfl) rfl rfl ?_
  clear hS
  rintro _ w ⟨b1, rfl, hS⟩
  refine ops_v (rv_assign rfl rfl) (want_yes rfl) rfl rfl ?_
  refine ops_nil ?_
  intro a hA
  refine cw_seq ?_
  refine cw_ops hA ?_
  clear hA
  refine ops_v (rv_fld (m := 0) Try.underlying32 rfl rfl Try.sizeOf22 rfl rfl) (want_yes rfl) rfl rfl ?_
  refine ops_v (rv_load1 rfl rfl Try.isAgg22 (hS.cell 2 rfl rfl)) (want_yes rfl) rfl rfl ?_
  refine ops_v (rv_move rfl rfl) (want_yes rfl) rfl rfl ?_
  obtain ⟨c1, hg, hb⟩ := hS.give [0] rfl rfl
  obtain ⟨x1, hx1, hF⟩ := bindE hF
  refine ops_c (rc_call Try.call48 rfl rfl) (want_yes rfl) rfl rfl (c_laws_markIntS (c := c1) (a_ := a_.Bytes) (s1 := s1) (k := k) (hg _ all_nil) hx1) ?_
  rintro _ w ⟨rfl, hk⟩
  replace hS := hb _ _ _ hk; clear hk hg hb
  refine ops_v (rv_assign rfl rfl) (want_yes rfl) rfl rfl ?_
  refine ops_nil ?_
  intro a hA
  refine cw_seq ?_
  refine cw_ops hA ?_
  clear hA
  refine ops_v (rv_fld (m := 0) Try.underlying32 rfl rfl Try.sizeOf22 rfl rfl) (want_yes rfl) rfl rfl ?_
  refine ops_v (rv_load1 rfl rfl Try.isAgg22 (hS.cell 2 rfl rfl)) (want_yes rfl) rfl rfl ?_
  refine ops_v (rv_move rfl rfl) (want_yes rfl) rfl rfl ?_
  obtain ⟨c2, hg, hb⟩ := hS.give [1] rfl rfl
  obtain ⟨x2, hx2, hF⟩ := bindE hF
  refine ops_c (rc_call Try.call48 rfl rfl) (want_yes rfl) rfl rfl (c_laws_markIntS (c := c2) (a_ := a_.Class) (s1 := s2) (k := x1.1) (hg _ all_nil) hx2) ?_
  rintro _ w ⟨rfl, hk⟩
  replace hS := hb _ _ _ hk; clear hk hg hb
  refine ops_v (rv_assign rfl rfl) (want_yes rfl) rfl rfl ?_
  refine ops_nil ?_
  intro a hA
  refine cw_seq ?_
  refine cw_ops hA ?_
  clear hA
  refine ops_v (rv_move rfl rfl) (want_yes rfl) rfl rfl ?_
  refine ops_v (rv_assign rfl rfl) (want_yes rfl) rfl rfl ?_
  refine ops_nil ?_
  intro a hA
  refine cw_ret ?_
  cases hF
  exact fin1 Try.results26 hA (res_tmp rfl) ⟨rfl, (hS.sel [3, 4] rfl).weaken (R' := []) (fun _ h => nomatch h)⟩

set_option maxHeartbeats 4000000 in
set_option maxRecDepth 100000 in
theorem c_laws_markSListS {c : Ctx} {w0 : World} {a_ : List SList} {k : Int} {s1 : Value} {r : Int × (List SList)} (hS : St c w0 [cOwn [s1] (a_ : List SList)] []) (hF : laws_markSListS a_ k = some r) :
    Calls Try.prog 49 #[s1, .int .i64 (k)] w0 (Ret fun v w' => v = .int .i64 (r.1) ∧ St (c) w' [cOwn [s1] (r.2 : List SList)] []) := by
  refine calls_cw (args := [_, _]) Try.func49 rfl Try.ntmps49 rfl ?_
  unfold laws_markSListS at hF
  intro a hA
  refine cw_seq ?_
  refine cw_ops hA ?_
  clear hA
  refine ops_v (rv_assign rfl rfl) (want_yes rfl) rfl rfl ?_
  refine ops_nil ?_
  intro a hA
  refine cw_seq ?_
  refine cw_seq ?_
  refine cw_ops hA ?_
  clear hA
  refine ops_v (rv_assign rfl rfl) (want_yes rfl) rfl rfl ?_
  refine ops_nil ?_
  intro a hA
  obtain ⟨o1, hl1, hF⟩ := bindE hF
  refine cw_cut (J := fun a' w' => ∃ (x7 : List SList) (x8 : Int), o1 = (x7, x8) ∧ AEnv 20 [(0, s1), (1, .int .i64 (x8))] a' ∧ St (c) w' [cOwn [s1] (x7 : List SList)] []) ?_ ?_
  · refine cw_block ?_
    refine cw_loop (body := laws_markSListS_l1) (r := o1) (fun sg a' w' => AEnv 20 [(0, s1), (1, .int .i64 (sg.2.1)), (5, .int .i64 (sg.2.2))] a' ∧ St (c) w' [cOwn [s1] (sg.1 : List SList)] []) ?_ hl1 ⟨hA.part ⟨rfl, rfl, rfl, trivial⟩, ((hS).sel [0] rfl).selR [] rfl⟩
    clear hA hS hl1
    rintro ⟨x4, x5, x6⟩ a w q1 ⟨hA, hS⟩ hG1 hr1
    try dsimp only at hA hS
    unfold laws_markSListS_l1 at hG1
    refine cw_seq ?_
    refine cw_seq ?_
    refine cw_ops hA ?_
    clear hA
    refine ops_v (rv_move rfl rfl) (want_yes rfl) rfl rfl ?_
    refine ops_v (rv_move rfl rfl) (want_yes rfl) rfl rfl ?_
    refine ops_v (rv_lenS (hS.rdOwn 0 rfl) Try.underlying33 rfl rfl) (want_yes rfl) rfl rfl ?_
    refine ops_v (rv_lss rfl rfl rfl) (want_yes rfl) rfl rfl ?_
    refine ops_nil ?_
    intro a hA
    refine cw_cond hA rfl (fun hc1 => ?_) (fun hc1 => ?_)
    · replace hG1 := iteT hc1 hG1
      refine cw_skip ?_
      refine cw_seq ?_
      refine cw_block ?_
      refine cw_ops hA ?_
      clear hA
      refine ops_v (rv_move rfl rfl) (want_yes rfl) rfl rfl ?_
      refine ops_v (rv_move rfl rfl) (want_yes rfl) rfl rfl ?_
      obtain ⟨x9, hx9, hG1⟩ := bindE hG1
      refine ops_v (rv_idx (m := 1) (hS.rdOwn 0 rfl) rfl hx9 Try.underlying33 Try.sizeOf53 rfl rfl rfl) (want_yes rfl) rfl rfl ?_
      refine ops_v (rv_fld (m := 0) Try.underlying53 rfl rfl Try.sizeOf22 rfl rfl) (want_yes rfl) rfl rfl ?_
      obtain ⟨ec, hS⟩ := hS.open 0 rfl (idx_some hx9).2.2
      obtain ⟨s2, he, _⟩ := rd_SList (hS.rdOwn 3 rfl)
      subst he
      replace hS := hS.unpack 3 rfl (op_SList x9)
      refine ops_v (rv_load1 rfl rfl Try.isAgg22 (hS.acell (q := elO 1 (x6.toNat) s1) (j := 0) 2 rfl rfl)) (want_yes rfl) rfl rfl ?_
      refine ops_v (rv_move rfl rfl) (want_yes rfl) rfl rfl ?_
      obtain ⟨c1, hg, hb⟩ := hS.give [4] rfl rfl
      obtain ⟨x10, hx10, hG1⟩ := bindE hG1
      refine ops_c (rc_call Try.call48 rfl rfl) (want_yes rfl) rfl rfl (c_laws_markIntS (c := c1) (a_ := x9.Slots) (s1 := s2) (k := x5) (hg _ all_nil) hx10) ?_
      rintro _ w ⟨rfl, hk⟩
      replace hS := hb _ _ _ hk; clear hk hg hb
      refine ops_v (rv_assign rfl rfl) (want_yes rfl) rfl rfl ?_
      refine ops_nil ?_
      intro a hA
      refine cw_ops hA ?_
      clear hA
      refine ops_v (rv_move rfl rfl) (want_yes rfl) rfl rfl ?_
      refine ops_v (rv_add rfl rfl rfl) (want_yes rfl) rfl rfl ?_
      refine ops_v (rv_assign rfl rfl) (want_yes rfl) rfl rfl ?_
      refine ops_nil ?_
      intro a hA
      replace hS := hS.pack [5] rfl rfl (op_SList ((⟨x10.2⟩ : SList)))
      replace hS := hS.close [1, 2, 6] rfl rfl
      cases hG1
      exact ⟨_, rfl, ⟨hA.part ⟨rfl, rfl, rfl, trivial⟩, ((hS).sel [7] rfl).selR [] rfl⟩⟩
    · replace hG1 := iteF hc1 hG1
      refine cw_exit ?_
      refine xcons_hit ?_
      cases hG1
      have ho := hr1 _ rfl; subst ho
      exact ⟨x4, x5, rfl, hA.part ⟨rfl, rfl, trivial⟩, ((hS).sel [0] rfl).selR [] rfl⟩
  · skip
    clear hA hS hl1
    rintro a w ⟨x7, x8, heq, hA, hS⟩
    replace hF : laws_markSListS_j1 x7 x8 = some r := by rw [heq] at hF; exact hF
    clear heq
    unfold laws_markSListS_j1 at hF
    refine cw_seq ?_
    refine cw_ops hA ?_
    clear hA
    refine ops_v (rv_move rfl rfl) (want_yes rfl) rfl rfl ?_
    refine ops_v (rv_assign rfl rfl) (want_yes rfl) rfl rfl ?_
    refine ops_nil ?_
    intro a hA
    refine cw_ret ?_
    cases hF
    exact fin1 Try.results49 hA (res_tmp rfl) ⟨rfl, (hS.sel [0] rfl).weaken (R' := []) (fun _ h => nomatch h)⟩

set_option maxHeartbeats 4000000 in
set_option maxRecDepth 100000 in
theorem c_laws_markLists {c : Ctx} {w0 : World} {a_ : Lists} {k : Int} {s1 : Value} {s2 : Value} {r : Int × (List SList) × (List SList)} (hS : St c w0 [cOwn [s1] (a_.Global : List SList), cOwn [s2] (a_.Own : List SList)] []) (hF : laws_markLists a_ k = some r) :
    Calls Try.prog 27 #[.agg #[s1, s2], .int .i64 (k)] w0 (Ret fun v w' => v = .int .i64 (r.1) ∧ St (c) w' [cOwn [s1] (r.2.1 : List SList), cOwn [s2] (r.2.2 : List SList)] []) := by
  refine calls_cw (args := [_, _]) Try.func27 rfl Try.ntmps27 rfl ?_
  unfold laws_markLists at hF
  intro a hA
  refine cw_seq ?_
  refine cw_ops hA ?_
  clear hA
  refine ops_mv (rv_box (cs := [s1, s2]) hS rfl rfl rfl) (want_yes rfl) rfl rfl ?_
  clear hS
  rintro _ w ⟨b1, rfl, hS⟩
  refine ops_v (rv_assign rfl rfl) (want_yes rfl) rfl rfl ?_
  refine ops_nil ?_
  intro a hA
  refine cw_seq ?_
  refine cw_ops hA ?_
  clear hA
  refine ops_v (rv_fld (m := 0) Try.underlying35 rfl rfl Try.sizeOf33 rfl rfl) (want_yes rfl) rfl rfl ?_
  refine ops_v (rv_load1 rfl rfl Try.isAgg33 (hS.cell 2 rfl rfl)) (want_yes rfl) rfl rfl ?_
  refine ops_v (rv_move rfl rfl) (want_yes rfl) rfl rfl ?_
  obtain ⟨c1, hg, hb⟩ := hS.give [0] rfl rfl
  obtain ⟨x1, hx1, hF⟩ := bindE hF
  refine ops_c (rc_call Try.call49 rfl rfl) (want_yes rfl) rfl rfl (c_laws_markSListS (c := c1) (a_ := a_.Global) (s1 := s1) (k := k) (hg _ all_nil) hx1) ?_
  rintro _ w ⟨rfl, hk⟩
  replace hS := hb _ _ _ hk; clear hk hg hb
  refine ops_v (rv_assign rfl rfl) (want_yes rfl) rfl rfl ?_
  refine ops_nil ?_
  intro a hA
  refine cw_seq ?_
  refine cw_ops hA ?_
  clear hA
  refine ops_v (rv_fld (m := 0) Try.underlying35 rfl rfl Try.sizeOf33 rfl rfl) (want_yes rfl) rfl rfl ?_
  refine ops_v (rv_load1 rfl rfl Try.isAgg33 (hS.cell 2 rfl rfl)) (want_yes rfl) rfl rfl ?_
  refine ops_v (rv_move rfl rfl) (want_yes rfl) rfl rfl ?_
  obtain ⟨c2, hg, hb⟩ := hS.give [1] rfl rfl
  obtain ⟨x2, hx2, hF⟩ := bindE hF
  refine ops_c (rc_call Try.call49 rfl rfl) (want_yes rfl) rfl rfl (c_laws_markSListS (c := c2) (a_ := a_.Own) (s1 := s2) (k := x1.1) (hg _ all_nil) hx2) ?_
  rintro _ w ⟨rfl, hk⟩
  replace hS := hb _ _ _ hk; clear hk hg hb
  refine ops_v (rv_assign rfl rfl) (want_yes rfl) rfl rfl ?_
  refine ops_nil ?_
  intro a hA
  refine cw_seq ?_
  refine cw_ops hA ?_
  clear hA
  refine ops_v (rv_move rfl rfl) (want_yes rfl) rfl rfl ?_
  refine ops_v (rv_assign rfl rfl) (want_yes rfl) rfl rfl ?_
  refine ops_nil ?_
  intro a hA
  refine cw_ret ?_
  cases hF
  exact fin1 Try.results27 hA (res_tmp rfl) ⟨rfl, (hS.sel [3, 4] rfl).weaken (R' := []) (fun _ h => nomatch h)⟩

set_option maxHeartbeats 4000000 in
set_option maxRecDepth 100000 in
theorem c_laws_markMem {c : Ctx} {w0 : World} {a_ : Mem} {k : Int} {s1 : Value} {s2 : Value} {s3 : Value} {s4 : Value} {r : Int × (List Int) × (List Int) × (List SList) × (List SList)} (hS : St c w0 [cOwn [s1] (a_.Heap.Bytes : List Int), cOwn [s2] (a_.Heap.Class : List Int), cOwn [s3] (a_.Lists.Global : List SList), cOwn [s4] (a_.Lists.Own : List SList)] []) (hF : laws_markMem a_ k = some r) :
    Calls Try.prog 12 #[.agg #[s1, s2, s3, s4], .int .i64 (k)] w0 (Ret fun v w' => v = .int .i64 (r.1) ∧ St (c) w' [cOwn [s1] (r.2.1 : List Int), cOwn [s2] (r.2.2.1 : List Int), cOwn [s3] (r.2.2.2.1 : List SList), cOwn [s4] (r.2.2.2.2 : List SList)] []) := by
  refine calls_cw (args := [_, _]) Try.func12 rfl Try.ntmps12 rfl ?_
  unfold laws_markMem at hF
  intro a hA
  refine cw_seq ?_
  refine cw_ops hA ?_
  clear hA
  refine ops_mv (rv_box (cs := [s1, s2, s3, s4]) hS rfl rfl rfl) (want_yes rfl) rfl rfl ?_
  clear hS
  rintro _ w ⟨b1, rfl, hS⟩
  refine ops_v (rv_assign rfl rfl) (want_yes rfl) rfl rfl ?_
  refine ops_nil ?_
  intro a hA
  refine cw_seq ?_
  refine cw_ops hA ?_
  clear hA
  refine ops_v (rv_fld (m := 1) Try.underlying37 rfl rfl Try.sizeOf32 rfl rfl) (want_yes rfl) rfl rfl ?_
  refine ops_v (rv_loadN rfl rfl Try.isAgg32 Try.sizeOf32 rfl (hS.cells 4 0 (cs' := [s1, s2]) rfl rfl)) (want_yes rfl) rfl rfl ?_
  refine ops_v (rv_move rfl rfl) (want_yes rfl) rfl rfl ?_
  obtain ⟨c1, hg, hb⟩ := hS.give [0, 1] rfl rfl
  obtain ⟨x1, hx1, hF⟩ := bindE hF
  refine ops_c (rc_call Try.call26 rfl rfl) (want_yes rfl) rfl rfl (c_laws_markHeap (c := c1) (a_ := a_.Heap) (s1 := s1) (s2 := s2) (k := k) (hg _ all_nil) hx1) ?_
  rintro _ w ⟨rfl, hk⟩
  replace hS := hb _ _ _ hk; clear hk hg hb
  refine ops_v (rv_assign rfl rfl) (want_yes rfl) rfl rfl ?_
  refine ops_nil ?_
  intro a hA
  refine cw_seq ?_
  refine cw_ops hA ?_
  clear hA
  refine ops_v (rv_fld (m := 1) Try.underlying37 rfl rfl Try.sizeOf35 rfl rfl) (want_yes rfl) rfl rfl ?_
  refine ops_v (rv_loadN rfl rfl Try.isAgg35 Try.sizeOf35 rfl (hS.cells 4 2 (cs' := [s3, s4]) rfl rfl)) (want_yes rfl) rfl rfl ?_
  refine ops_v (rv_move rfl rfl) (want_yes rfl) rfl rfl ?_
  obtain ⟨c2, hg, hb⟩ := hS.give [2, 3] rfl rfl
  obtain ⟨x2, hx2, hF⟩ := bindE hF
  refine ops_c (rc_call Try.call27 rfl rfl) (want_yes rfl) rfl rfl (c_laws_markLists (c := c2) (a_ := a_.Lists) (s1 := s3) (s2 := s4) (k := x1.1) (hg _ all_nil) hx2) ?_
  rintro _ w ⟨rfl, hk⟩
  replace hS := hb _ _ _ hk; clear hk hg hb
  refine ops_v (rv_assign rfl rfl) (want_yes rfl) rfl rfl ?_
  refine ops_nil ?_
  intro a hA
  refine cw_seq ?_
  refine cw_ops hA ?_
  clear hA
  refine ops_v (rv_move rfl rfl) (want_yes rfl) rfl rfl ?_
  refine ops_v (rv_assign rfl rfl) (want_yes rfl) rfl rfl ?_
  refine ops_nil ?_
  intro a hA
  refine cw_ret ?_
  cases hF
  exact fin1 Try.results12 hA (res_tmp rfl) ⟨rfl, (hS.sel [5, 6, 7, 8] rfl).weaken (R' := []) (fun _ h => nomatch h)⟩

set_option maxHeartbeats 4000000 in
set_option maxRecDepth 100000 in
theorem c_laws_heldIntS {w0 : World} {a_ : List Int} {k : Int} {s1 : Value} {r : Int} (h1 : Rep.rd (All w0) w0 [s1] (a_ : List Int)) (hF : laws_heldIntS a_ k = some r) :
    Calls Try.prog 50 #[s1, .int .i64 (k)] w0 (Ret fun v w' => v = .int .i64 (r) ∧ St (cxAll w0) w' [] []) := by
  have hS : St (cxAll w0) w0 [] [fRd [s1] (a_ : List Int)] := St.enter (by
    intro f hf
    simp only [List.mem_cons, List.not_mem_nil, or_false] at hf
    subst hf; exact h1)
  refine calls_cw (args := [_, _]) Try.func50 rfl Try.ntmps50 rfl ?_
  unfold laws_heldIntS at hF
  intro a hA
  refine cw_seq ?_
  refine cw_ops hA ?_
  clear hA
  refine ops_v (rv_assign rfl rfl) (want_yes rfl) rfl rfl ?_
  refine ops_nil ?_
  intro a hA
  refine cw_seq ?_
  refine cw_seq ?_
  refine cw_ops hA ?_
  clear hA
  refine ops_v (rv_assign rfl rfl) (want_yes rfl) rfl rfl ?_
  refine ops_nil ?_
  intro a hA
  obtain ⟨o1, hl1, hF⟩ := bindE hF
  refine cw_cut (J := fun a' w' => ∃ (x5 : Int), o1 = Out.brk x5 ∧ AEnv 21 [(1, .int .i64 (x5))] a' ∧ St (cxAll w0) w' [] []) ?_ ?_
  · refine cw_block ?_
    refine cw_loop (body := laws_heldIntS_l1 a_) (r := o1) (fun sg a' w' => AEnv 21 [(0, s1), (1, .int .i64 (sg.1)), (5, .int .i64 (sg.2))] a' ∧ St (cxAll w0) w' [] [fRd [s1] (a_ : List Int)]) ?_ hl1 ⟨hA.part ⟨rfl, rfl, rfl, trivial⟩, ((hS).sel [] rfl).selR [0] rfl⟩
    clear hA hS hl1
    rintro ⟨x3, x4⟩ a w q1 ⟨hA, hS⟩ hG1 hr1
    try dsimp only at hA hS
    unfold laws_heldIntS_l1 at hG1
    refine cw_seq ?_
    refine cw_seq ?_
    refine cw_ops hA ?_
    clear hA
    refine ops_v (rv_move rfl rfl) (want_yes rfl) rfl rfl ?_
    refine ops_v (rv_move rfl rfl) (want_yes rfl) rfl rfl ?_
    refine ops_v (rv_lenS (hS.rd 0 rfl) Try.underlying22 rfl rfl) (want_yes rfl) rfl rfl ?_
    refine ops_v (rv_lss rfl rfl rfl) (want_yes rfl) rfl rfl ?_
    refine ops_nil ?_
    intro a hA
    refine cw_cond hA rfl (fun hc1 => ?_) (fun hc1 => ?_)
    · replace hG1 := iteT hc1 hG1
      refine cw_skip ?_
      refine cw_seq ?_
      refine cw_block ?_
      refine cw_seq ?_
      refine cw_seq ?_
      refine cw_ops hA ?_
      clear hA
      refine ops_v (rv_move rfl rfl) (want_yes rfl) rfl rfl ?_
      refine ops_v (rv_move rfl rfl) (want_yes rfl) rfl rfl ?_
      obtain ⟨x6, hx6, hG1⟩ := bindE hG1
      refine ops_v (rv_idx (m := 1) (hS.rd 0 rfl) rfl hx6 Try.underlying22 Try.sizeOf3 rfl rfl rfl) (want_yes rfl) rfl rfl ?_
      refine ops_v (rv_load1 rfl rfl Try.isAgg3 (cell1 (el_Int (hS.rd 0 rfl) (idx_some hx6).2.2))) (want_yes rfl) rfl rfl ?_
      refine ops_v (rv_move rfl rfl) (want_yes rfl) rfl rfl ?_
      refine ops_v (rv_neq rfl rfl rfl) (want_yes rfl) rfl rfl ?_
      refine ops_nil ?_
      intro a hA
      refine cw_cond hA rfl (fun hc2 => ?_) (fun hc2 => ?_)
      · replace hG1 := iteT hc2 hG1
        refine cw_seq ?_
        refine cw_ops hA ?_
        clear hA
        refine ops_v (rv_assign rfl rfl) (want_yes rfl) rfl rfl ?_
        refine ops_nil ?_
        intro a hA
        refine cw_ret ?_
        cases hG1
        have ho := hr1 _ rfl; subst ho
        replace hF : some ((-1)) = some r := hF
        cases hF
        exact fin1 Try.results50 hA (res_tmp rfl) ⟨rfl, (hS.sel [] rfl).weaken (R' := []) (fun _ h => nomatch h)⟩
      · replace hG1 := iteF hc2 hG1
        refine cw_skip ?_
        refine cw_ops hA ?_
        clear hA
        refine ops_v (rv_move rfl rfl) (want_yes rfl) rfl rfl ?_
        refine ops_v (rv_add rfl rfl rfl) (want_yes rfl) rfl rfl ?_
        refine ops_v (rv_assign rfl rfl) (want_yes rfl) rfl rfl ?_
        refine ops_nil ?_
        intro a hA
        refine cw_ops hA ?_
        clear hA
        refine ops_v (rv_move rfl rfl) (want_yes rfl) rfl rfl ?_
        refine ops_v (rv_add rfl rfl rfl) (want_yes rfl) rfl rfl ?_
        refine ops_v (rv_assign rfl rfl) (want_yes rfl) rfl rfl ?_
        refine ops_nil ?_
        intro a hA
        cases hG1
        exact ⟨_, rfl, ⟨hA.part ⟨rfl, rfl, rfl, trivial⟩, ((hS).sel [] rfl).selR [0] rfl⟩⟩
    · replace hG1 := iteF hc1 hG1
      refine cw_exit ?_
      refine xcons_hit ?_
      cases hG1
      have ho := hr1 _ rfl; subst ho
      exact ⟨x3, rfl, hA.part ⟨rfl, trivial⟩, ((hS).sel [] rfl).selR [] rfl⟩
  · skip
    clear hA hS hl1
    rintro a w ⟨x5, heq, hA, hS⟩
    replace hF : laws_heldIntS_j1 x5 = some r := by rw [heq] at hF; exact hF
    clear heq
    unfold laws_heldIntS_j1 at hF
    refine cw_seq ?_
    refine cw_ops hA ?_
    clear hA
    refine ops_v (rv_move rfl rfl) (want_yes rfl) rfl rfl ?_
    refine ops_v (rv_assign rfl rfl) (want_yes rfl) rfl rfl ?_
    refine ops_nil ?_
    intro a hA
    refine cw_ret ?_
    cases hF
    exact fin1 Try.results50 hA (res_tmp rfl) ⟨rfl, (hS.sel [] rfl).weaken (R' := []) (fun _ h => nomatch h)⟩

set_option maxHeartbeats 4000000 in
set_option maxRecDepth 100000 in
theorem c_laws_heldHeap {w0 : World} {a_ : Heap} {k : Int} {s1 : Value} {s2 : Value} {r : Int} (h1 : Rep.rd (All w0) w0 [s1] (a_.Bytes : List Int)) (h2 : Rep.rd (All w0) w0 [s2] (a_.Class : List Int)) (hF : laws_heldHeap a_ k = some r) :
    Calls Try.prog 28 #[.agg #[s1, s2], .int .i64 (k)] w0 (Ret fun v w' => v = .int .i64 (r) ∧ St (cxAll w0) w' [] []) := by
  have hS : St (cxAll w0) w0 [] [fRd [s1] (a_.Bytes : List Int), fRd [s2] (a_.Class : List Int)] := St.enter (by
    intro f hf
    simp only [List.mem_cons, List.not_mem_nil, or_false] at hf
    rcases hf with rfl | rfl
    · exact h1
    · exact h2)
  refine calls_cw (args := [_, _]) Try.func28 rfl Try.ntmps28 rfl ?_
  unfold laws_heldHeap at hF
  intro a hA
  refine cw_seq ?_
  refine cw_ops hA ?_
  clear hA
  refine ops_mv (rv_box (cs := [s1, s2]) hS rfl rfl rfl) (want_yes rfl) rfl rfl ?_
  clear hS
  rintro _ w ⟨b1, rfl, hS⟩
  refine ops_v (rv_assign rfl rfl) (want_yes rfl) rfl rfl ?_
  refine ops_nil ?_
  intro a hA
  refine cw_seq ?_
  refine cw_ops hA ?_
  clear hA
  refine ops_v (rv_fld (m := 0) Try.underlying32 rfl rfl Try.sizeOf22 rfl rfl) (want_yes rfl) rfl rfl ?_
  refine ops_v (rv_load1 rfl rfl Try.isAgg22 (hS.cell 0 rfl rfl)) (want_yes rfl) rfl rfl ?_
  refine ops_v (rv_move rfl rfl) (want_yes rfl) rfl rfl ?_
  obtain ⟨x1, hx1, hF⟩ := bindE hF
  refine ops_c (rc_call Try.call50 rfl rfl) (want_yes rfl) rfl rfl (c_laws_heldIntS (a_ := a_.Bytes) (k := k) (hS.rd 0 rfl) hx1) ?_
  rintro _ w ⟨rfl, hk⟩
  replace hS := hS.after hk; clear hk
  refine ops_v (rv_assign rfl rfl) (want_yes rfl) rfl rfl ?_
  refine ops_nil ?_
  intro a hA
  refine cw_seq ?_
  refine cw_seq ?_
  refine cw_ops hA ?_
  clear hA
  refine ops_v (rv_move rfl rfl) (want_yes rfl) rfl rfl ?_
  refine ops_v (rv_lss rfl rfl rfl) (want_yes rfl) rfl rfl ?_
  refine ops_nil ?_
  intro a hA
  refine cw_cond hA rfl (fun hc1 => ?_) (fun hc1 => ?_)
  · replace hF := iteT hc1 hF
    refine cw_seq ?_
    refine cw_ops hA ?_
    clear hA
    refine ops_v (rv_assign rfl rfl) (want_yes rfl) rfl rfl ?_
    refine ops_nil ?_
    intro a hA
    refine cw_ret ?_
    cases hF
    exact fin1 Try.results28 hA (res_tmp rfl) ⟨rfl, (hS.sel [] rfl).weaken (R' := []) (fun _ h => nomatch h)⟩
  · replace hF := iteF hc1 hF
    refine cw_skip ?_
    refine cw_seq ?_
    refine cw_ops hA ?_
    clear hA
    refine ops_v (rv_fld (m := 0) Try.underlying32 rfl rfl Try.sizeOf22 rfl rfl) (want_yes rfl) rfl rfl ?_
    refine ops_v (rv_load1 rfl rfl Try.isAgg22 (hS.cell 0 rfl rfl)) (want_yes rfl) rfl rfl ?_
    refine ops_v (rv_move rfl rfl) (want_yes rfl) rfl rfl ?_
    obtain ⟨x2, hx2, hF⟩ := bindE hF
    refine ops_c (rc_call Try.call50 rfl rfl) (want_yes rfl) rfl rfl (c_laws_heldIntS (a_ := a_.Class) (k := x1) (hS.rd 1 rfl) hx2) ?_
    rintro _ w ⟨rfl, hk⟩
    replace hS := hS.after hk; clear hk
    refine ops_v (rv_assign rfl rfl) (want_yes rfl) rfl rfl ?_
    refine ops_nil ?_
    intro a hA
    refine cw_seq ?_
    refine cw_seq ?_
    refine cw_ops hA ?_
    clear hA
    refine ops_v (rv_move rfl rfl) (want_yes rfl) rfl rfl ?_
    refine ops_v (rv_lss rfl rfl rfl) (want_yes rfl) rfl rfl ?_
    refine ops_nil ?_
    intro a hA
    refine cw_cond hA rfl (fun hc2 => ?_) (fun hc2 => ?_)
    · replace hF := iteT hc2 hF
      refine cw_seq ?_
      refine cw_ops hA ?_
      clear hA
      refine ops_v (rv_assign rfl rfl) (want_yes rfl) rfl rfl ?_
      refine ops_nil ?_
      intro a hA
      refine cw_ret ?_
      cases hF
      exact fin1 Try.results28 hA (res_tmp rfl) ⟨rfl, (hS.sel [] rfl).weaken (R' := []) (fun _ h => nomatch h)⟩
    · replace hF := iteF hc2 hF
      refine cw_skip ?_
      refine cw_seq ?_
      refine cw_ops hA ?_
      clear hA
      refine ops_v (rv_move rfl rfl) (want_yes rfl) rfl rfl ?_
      refine ops_v (rv_assign rfl rfl) (want_yes rfl) rfl rfl ?_
      refine ops_nil ?_
      intro a hA
      refine cw_ret ?_
      cases hF
      exact fin1 Try.results28 hA (res_tmp rfl) ⟨rfl, (hS.sel [] rfl).weaken (R' := []) (fun _ h => nomatch h)⟩

set_option maxHeartbeats 4000000 in
set_option maxRecDepth 100000 in
theorem c_laws_heldSListS {w0 : World} {a_ : List SList} {k : Int} {s1 : Value} {r : Int} (h1 : Rep.rd (All w0) w0 [s1] (a_ : List SList)) (hF : laws_heldSListS a_ k = some r) :
    Calls Try.prog 51 #[s1, .int .i64 (k)] w0 (Ret fun v w' => v = .int .i64 (r) ∧ St (cxAll w0) w' [] []) := by
  have hS : St (cxAll w0) w0 [] [fRd [s1] (a_ : List SList)] := St.enter (by
    intro f hf
    simp only [List.mem_cons, List.not_mem_nil, or_false] at hf
    subst hf; exact h1)
  refine calls_cw (args := [_, _]) Try.func51 rfl Try.ntmps51 rfl ?_
  unfold laws_heldSListS at hF
  intro a hA
  refine cw_seq ?_
  refine cw_ops hA ?_
  clear hA
  refine ops_v (rv_assign rfl rfl) (want_yes rfl) rfl rfl ?_
  refine ops_nil ?_
  intro a hA
  refine cw_seq ?_
  refine cw_seq ?_
  refine cw_ops hA ?_
  clear hA
  refine ops_v (rv_assign rfl rfl) (want_yes rfl) rfl rfl ?_
  refine ops_nil ?_
  intro a hA
  obtain ⟨o1, hl1, hF⟩ := bindE hF
  refine cw_cut (J := fun a' w' => ∃ (x5 : Int), o1 = Out.brk x5 ∧ AEnv 22 [(1, .int .i64 (x5))] a' ∧ St (cxAll w0) w' [] []) ?_ ?_
  · refine cw_block ?_
    refine cw_loop (body := laws_heldSListS_l1 a_) (r := o1) (fun sg a' w' => AEnv 22 [(0, s1), (1, .int .i64 (sg.1)), (5, .int .i64 (sg.2))] a' ∧ St (cxAll w0) w' [] [fRd [s1] (a_ : List SList)]) ?_ hl1 ⟨hA.part ⟨rfl, rfl, rfl, trivial⟩, ((hS).sel [] rfl).selR [0] rfl⟩
    clear hA hS hl1
    rintro ⟨x3, x4⟩ a w q1 ⟨hA, hS⟩ hG1 hr1
    try dsimp only at hA hS
    unfold laws_heldSListS_l1 at hG1
    refine cw_seq ?_
    refine cw_seq ?_
    refine cw_ops hA ?_
    clear hA
    refine ops_v (rv_move rfl rfl) (want_yes rfl) rfl rfl ?_
    refine ops_v (rv_move rfl rfl) (want_yes rfl) rfl rfl ?_
    refine ops_v (rv_lenS (hS.rd 0 rfl) Try.underlying33 rfl rfl) (want_yes rfl) rfl rfl ?_
    refine ops_v (rv_lss rfl rfl rfl) (want_yes rfl) rfl rfl ?_
    refine ops_nil ?_
    intro a hA
    refine cw_cond hA rfl (fun hc1 => ?_) (fun hc1 => ?_)
    · replace hG1 := iteT hc1 hG1
      refine cw_skip ?_
      refine cw_seq ?_
      refine cw_block ?_
      refine cw_seq ?_
      refine cw_ops hA ?_
      clear hA
      refine ops_v (rv_move rfl rfl) (want_yes rfl) rfl rfl ?_
      refine ops_v (rv_move rfl rfl) (want_yes rfl) rfl rfl ?_
      obtain ⟨x6, hx6, hG1⟩ := bindE hG1
      refine ops_v (rv_idx (m := 1) (hS.rd 0 rfl) rfl hx6 Try.underlying33 Try.sizeOf53 rfl rfl rfl) (want_yes rfl) rfl rfl ?_
      refine ops_v (rv_fld (m := 0) Try.underlying53 rfl rfl Try.sizeOf22 rfl rfl) (want_yes rfl) rfl rfl ?_
      obtain ⟨s2, hel, hS⟩ := hS.el_SList 0 rfl (idx_some hx6).2.2
      refine ops_v (rv_load1 rfl rfl Try.isAgg22 (cell1 (CellsAt.sub (cs' := [s2]) hel 0 rfl rfl))) (want_yes rfl) rfl rfl ?_
      refine ops_v (rv_move rfl rfl) (want_yes rfl) rfl rfl ?_
      obtain ⟨x7, hx7, hG1⟩ := bindE hG1
      refine ops_c (rc_call Try.call50 rfl rfl) (want_yes rfl) rfl rfl (c_laws_heldIntS (a_ := x6.Slots) (k := x3) (hS.rd 1 rfl) hx7) ?_
      rintro _ w ⟨rfl, hk⟩
      replace hS := hS.after hk; clear hk
      refine ops_v (rv_assign rfl rfl) (want_yes rfl) rfl rfl ?_
      refine ops_nil ?_
      intro a hA
      refine cw_seq ?_
      refine cw_ops hA ?_
      clear hA
      refine ops_v (rv_move rfl rfl) (want_yes rfl) rfl rfl ?_
      refine ops_v (rv_lss rfl rfl rfl) (want_yes rfl) rfl rfl ?_
      refine ops_nil ?_
      intro a hA
      refine cw_cond hA rfl (fun hc2 => ?_) (fun hc2 => ?_)
      · replace hG1 := iteT hc2 hG1
        refine cw_seq ?_
        refine cw_ops hA ?_
        clear hA
        refine ops_v (rv_assign rfl rfl) (want_yes rfl) rfl rfl ?_
        refine ops_nil ?_
        intro a hA
        refine cw_ret ?_
        cases hG1
        have ho := hr1 _ rfl; subst ho
        replace hF : some ((-1)) = some r := hF
        cases hF
        exact fin1 Try.results51 hA (res_tmp rfl) ⟨rfl, (hS.sel [] rfl).weaken (R' := []) (fun _ h => nomatch h)⟩
      · replace hG1 := iteF hc2 hG1
        refine cw_skip ?_
        refine cw_ops hA ?_
        clear hA
        refine ops_v (rv_move rfl rfl) (want_yes rfl) rfl rfl ?_
        refine ops_v (rv_add rfl rfl rfl) (want_yes rfl) rfl rfl ?_
        refine ops_v (rv_assign rfl rfl) (want_yes rfl) rfl rfl ?_
        refine ops_nil ?_
        intro a hA
        cases hG1
        exact ⟨_, rfl, ⟨hA.part ⟨rfl, rfl, rfl, trivial⟩, ((hS).sel [] rfl).selR [0] rfl⟩⟩
    · replace hG1 := iteF hc1 hG1
      refine cw_exit ?_
      refine xcons_hit ?_
      cases hG1
      have ho := hr1 _ rfl; subst ho
      exact ⟨x3, rfl, hA.part ⟨rfl, trivial⟩, ((hS).sel [] rfl).selR [] rfl⟩
  · skip
    clear hA hS hl1
    rintro a w ⟨x5, heq, hA, hS⟩
    replace hF : laws_heldSListS_j1 x5 = some r := by rw [heq] at hF; exact hF
    clear heq
    unfold laws_heldSListS_j1 at hF
    refine cw_seq ?_
    refine cw_ops hA ?_
    clear hA
    refine ops_v (rv_move rfl rfl) (want_yes rfl) rfl rfl ?_
    refine ops_v (rv_assign rfl rfl) (want_yes rfl) rfl rfl ?_
    refine ops_nil ?_
    intro a hA
    refine cw_ret ?_
    cases hF
    exact fin1 Try.results51 hA (res_tmp rfl) ⟨rfl, (hS.sel [] rfl).weaken (R' := []) (fun _ h => nomatch h)⟩

set_option maxHeartbeats 4000000 in
set_option maxRecDepth 100000 in
theorem c_laws_heldLists {w0 : World} {a_ : Lists} {k : Int} {s1 : Value} {s2 : Value} {r : Int} (h1 : Rep.rd (All w0) w0 [s1] (a_.Global : List SList)) (h2 : Rep.rd (All w0) w0 [s2] (a_.Own : List SList)) (hF : laws_heldLists a_ k = some r) :
    Calls Try.prog 29 #[.agg #[s1, s2], .int .i64 (k)] w0 (Ret fun v w' => v = .int .i64 (r) ∧ St (cxAll w0) w' [] []) := by
  have hS : St (cxAll w0) w0 [] [fRd [s1] (a_.Global : List SList), fRd [s2] (a_.Own : List SList)] := St.enter (by
    intro f hf
    simp only [List.mem_cons, List.not_mem_nil, or_false] at hf
    rcases hf with rfl | rfl
    · exact h1
    · exact h2)
  refine calls_cw (args := [_, _]) Try.func29 rfl Try.ntmps29 rfl ?_
  unfold laws_heldLists at hF
  intro a hA
  refine cw_seq ?_
  refine cw_ops hA ?_
  clear hA
  refine ops_mv (rv_box (cs := [s1, s2]) hS rfl rfl rfl) (want_yes rfl) rfl rfl ?_
  clear hS
  rintro _ w ⟨b1, rfl, hS⟩
  refine ops_v (rv_assign rfl rfl) (want_yes rfl) rfl rfl ?_
  refine ops_nil ?_
  intro a hA
  refine cw_seq ?_
  refine cw_ops hA ?_
  clear hA
  refine ops_v (rv_fld (m := 0) Try.underlying35 rfl rfl Try.sizeOf33 rfl rfl) (want_yes rfl) rfl rfl ?_
  refine ops_v (rv_load1 rfl rfl Try.isAgg33 (hS.cell 0 rfl rfl)) (want_yes rfl) rfl rfl ?_
  refine ops_v (rv_move rfl rfl) (want_yes rfl) rfl rfl ?_
  obtain ⟨x1, hx1, hF⟩ := bindE hF
  refine ops_c (rc_call Try.call51 rfl rfl) (want_yes rfl) rfl rfl (c_laws_heldSListS (a_ := a_.Global) (k := k) (hS.rd 0 rfl) hx1) ?_
  rintro _ w ⟨rfl, hk⟩
  replace hS := hS.after hk; clear hk
  refine ops_v (rv_assign rfl rfl) (want_yes rfl) rfl rfl ?_
  refine ops_nil ?_
  intro a hA
  refine cw_seq ?_
  refine cw_seq ?_
  refine cw_ops hA ?_
  clear hA
  refine ops_v (rv_move rfl rfl) (want_yes rfl) rfl rfl ?_
  refine ops_v (rv_lss rfl rfl rfl) (want_yes rfl) rfl rfl ?_
  refine ops_nil ?_
  intro a hA
  refine cw_cond hA rfl (fun hc1 => ?_) (fun hc1 => ?_)
  · replace hF := iteT hc1 hF
    refine cw_seq ?_
    refine cw_ops hA ?_
    clear hA
    refine ops_v (rv_assign rfl rfl) (want_yes rfl) rfl rfl ?_
    refine ops_nil ?_
    intro a hA
    refine cw_ret ?_
    cases hF
    exact fin1 Try.results29 hA (res_tmp rfl) ⟨rfl, (hS.sel [] rfl).weaken (R' := []) (fun _ h => nomatch h)⟩
  · replace hF := iteF hc1 hF
    refine cw_skip ?_
    refine cw_seq ?_
    refine cw_ops hA ?_
    clear hA
    refine ops_v (rv_fld (m := 0) Try.underlying35 rfl rfl Try.sizeOf33 rfl rfl) (want_yes rfl) rfl rfl ?_
    refine ops_v (rv_load1 rfl rfl Try.isAgg33 (hS.cell 0 rfl rfl)) (want_yes rfl) rfl rfl ?_
    refine ops_v (rv_move rfl rfl) (want_yes rfl) rfl rfl ?_
    obtain ⟨x2, hx2, hF⟩ := bindE hF
    refine ops_c (rc_call Try.call51 rfl rfl) (want_yes rfl) rfl rfl (c_laws_heldSListS (a_ := a_.Own) (k := x1) (hS.rd 1 rfl) hx2) ?_
    rintro _ w ⟨rfl, hk⟩
    replace hS := hS.after hk; clear hk
    refine ops_v (rv_assign rfl rfl) (want_yes rfl) rfl rfl ?_
    refine ops_nil ?_
    intro a hA
    refine cw_seq ?_
    refine cw_seq ?_
    refine cw_ops hA ?_
    clear hA
    refine ops_v (rv_move rfl rfl) (want_yes rfl) rfl rfl ?_
    refine ops_v (rv_lss rfl rfl rfl) (want_yes rfl) rfl rfl ?_
    refine ops_nil ?_
    intro a hA
    refine cw_cond hA rfl (fun hc2 => ?_) (fun hc2 => ?_)
    · replace hF := iteT hc2 hF
      refine cw_seq ?_
      refine cw_ops hA ?_
      clear hA
      refine ops_v (rv_assign rfl rfl) (want_yes rfl) rfl rfl ?_
      refine ops_nil ?_
      intro a hA
      refine cw_ret ?_
      cases hF
      exact fin1 Try.results29 hA (res_tmp rfl) ⟨rfl, (hS.sel [] rfl).weaken (R' := []) (fun _ h => nomatch h)⟩
    · replace hF := iteF hc2 hF
      refine cw_skip ?_
      refine cw_seq ?_
      refine cw_ops hA ?_
      clear hA
      refine ops_v (rv_move rfl rfl) (want_yes rfl) rfl rfl ?_
      refine ops_v (rv_assign rfl rfl) (want_yes rfl) rfl rfl ?_
      refine ops_nil ?_
      intro a hA
      refine cw_ret ?_
      cases hF
      exact fin1 Try.results29 hA (res_tmp rfl) ⟨rfl, (hS.sel [] rfl).weaken (R' := []) (fun _ h => nomatch h)⟩

set_option maxHeartbeats 4000000 in
set_option maxRecDepth 100000 in
theorem c_laws_heldMem {w0 : World} {a_ : Mem} {k : Int} {s1 : Value} {s2 : Value} {s3 : Value} {s4 : Value} {r : Int} (h1 : Rep.rd (All w0) w0 [s1] (a_.Heap.Bytes : List Int)) (h2 : Rep.rd (All w0) w0 [s2] (a_.Heap.Class : List Int)) (h3 : Rep.rd (All w0) w0 [s3] (a_.Lists.Global : List SList)) (h4 : Rep.rd (All w0) w0 [s4] (a_.Lists.Own : List SList)) (hF : laws_heldMem a_ k = some r) :
    Calls Try.prog 13 #[.agg #[s1, s2, s3, s4], .int .i64 (k)] w0 (Ret fun v w' => v = .int .i64 (r) ∧ St (cxAll w0) w' [] []) := by
  have hS : St (cxAll w0) w0 [] [fRd [s1] (a_.Heap.Bytes : List Int), fRd [s2] (a_.Heap.Class : List Int), fRd [s3] (a_.Lists.Global : List SList), fRd [s4] (a_.Lists.Own : List SList)] := St.enter (by
    intro f hf
    simp only [List.mem_cons, List.not_mem_nil, or_false] at hf
    rcases hf with rfl | rfl | rfl | rfl
    · exact h1
    · exact h2
    · exact h3
    · exact h4)
  refine calls_cw (args := [_, _]) Try.func13 rfl Try.ntmps13 rfl ?_
  unfold laws_heldMem at hF
  intro a hA
  refine cw_seq ?_
  refine cw_ops hA ?_
  clear hA
  refine ops_mv (rv_box (cs := [s1, s2, s3, s4]) hS rfl rfl rfl) (want_yes rfl) rfl rfl ?_
  clear hS
  rintro _ w ⟨b1, rfl, hS⟩
  refine ops_v (rv_assign rfl rfl) (want_yes rfl) rfl rfl ?_
  refine ops_nil ?_
  intro a hA
  refine cw_seq ?_
  refine cw_ops hA ?_
  clear hA
  refine ops_v (rv_fld (m := 1) Try.underlying37 rfl rfl Try.sizeOf32 rfl rfl) (want_yes rfl) rfl rfl ?_
  refine ops_v (rv_loadN rfl rfl Try.isAgg32 Try.sizeOf32 rfl (hS.cells 0 0 (cs' := [s1, s2]) rfl rfl)) (want_yes rfl) rfl rfl ?_
  refine ops_v (rv_move rfl rfl) (want_yes rfl) rfl rfl ?_
  obtain ⟨x1, hx1, hF⟩ := bindE hF
  refine ops_c (rc_call Try.call28 rfl rfl) (want_yes rfl) rfl rfl (c_laws_heldHeap (a_ := a_.Heap) (k := k) (hS.rd 0 rfl) (hS.rd 1 rfl) hx1) ?_
  rintro _ w ⟨rfl, hk⟩
  replace hS := hS.after hk; clear hk
  refine ops_v (rv_assign rfl rfl) (want_yes rfl) rfl rfl ?_
  refine ops_nil ?_
  intro a hA
  refine cw_seq ?_
  refine cw_seq ?_
  refine cw_ops hA ?_
  clear hA
  refine ops_v (rv_move rfl rfl) (want_yes rfl) rfl rfl ?_
  refine ops_v (rv_lss rfl rfl rfl) (want_yes rfl) rfl rfl ?_
  refine ops_nil ?_
  intro a hA
  refine cw_cond hA rfl (fun hc1 => ?_) (fun hc1 => ?_)
  · replace hF := iteT hc1 hF
    refine cw_seq ?_
    refine cw_ops hA ?_
    clear hA
    refine ops_v (rv_assign rfl rfl) (want_yes rfl) rfl rfl ?_
    refine ops_nil ?_
    intro a hA
    refine cw_ret ?_
    cases hF
    exact fin1 Try.results13 hA (res_tmp rfl) ⟨rfl, (hS.sel [] rfl).weaken (R' := []) (fun _ h => nomatch h)⟩
  · replace hF := iteF hc1 hF
    refine cw_skip ?_
    refine cw_seq ?_
    refine cw_ops hA ?_
    clear hA
    refine ops_v (rv_fld (m := 1) Try.underlying37 rfl rfl Try.sizeOf35 rfl rfl) (want_yes rfl) rfl rfl ?_
    refine ops_v (rv_loadN rfl rfl Try.isAgg35 Try.sizeOf35 rfl (hS.cells 0 2 (cs' := [s3, s4]) rfl rfl)) (want_yes rfl) rfl rfl ?_
    refine ops_v (rv_move rfl rfl) (want_yes rfl) rfl rfl ?_
    obtain ⟨x2, hx2, hF⟩ := bindE hF
    refine ops_c (rc_call Try.call29 rfl rfl) (want_yes rfl) rfl rfl (c_laws_heldLists (a_ := a_.Lists) (k := x1) (hS.rd 2 rfl) (hS.rd 3 rfl) hx2) ?_
    rintro _ w ⟨rfl, hk⟩
    replace hS := hS.after hk; clear hk
    refine ops_v (rv_assign rfl rfl) (want_yes rfl) rfl rfl ?_
    refine ops_nil ?_
    intro a hA
    refine cw_seq ?_
    refine cw_seq ?_
    refine cw_ops hA ?_
    clear hA
    refine ops_v (rv_move rfl rfl) (want_yes rfl) rfl rfl ?_
    refine ops_v (rv_lss rfl rfl rfl) (want_yes rfl) rfl rfl ?_
    refine ops_nil ?_
    intro a hA
    refine cw_cond hA rfl (fun hc2 => ?_) (fun hc2 => ?_)
    · replace hF := iteT hc2 hF
      refine cw_seq ?_
      refine cw_ops hA ?_
      clear hA
      refine ops_v (rv_assign rfl rfl) (want_yes rfl) rfl rfl ?_
      refine ops_nil ?_
      intro a hA
      refine cw_ret ?_
      cases hF
      exact fin1 Try.results13 hA (res_tmp rfl) ⟨rfl, (hS.sel [] rfl).weaken (R' := []) (fun _ h => nomatch h)⟩
    · replace hF := iteF hc2 hF
      refine cw_skip ?_
      refine cw_seq ?_
      refine cw_ops hA ?_
      clear hA
      refine ops_v (rv_move rfl rfl) (want_yes rfl) rfl rfl ?_
      refine ops_v (rv_assign rfl rfl) (want_yes rfl) rfl rfl ?_
      refine ops_nil ?_
      intro a hA
      refine cw_ret ?_
      cases hF
      exact fin1 Try.results13 hA (res_tmp rfl) ⟨rfl, (hS.sel [] rfl).weaken (R' := []) (fun _ h => nomatch h)⟩

set_option maxHeartbeats 4000000 in
set_option maxRecDepth 100000 in
theorem c_laws_FnExactReadMem {w0 : World} {aS : List UInt8}  {r : Bool}  (hF : laws_FnExactReadMem aS = some r) :
    Calls Try.prog 4 #[sv (aS)] w0 (Ret fun v w' => v = .bool (r) ∧ St (cxAll w0) w' [] []) := by
  have hS : St (cxAll w0) w0 [] [] := St.enter (by
    intro f hf; cases hf)
  refine calls_cw (args := [_]) Try.func4 rfl Try.ntmps4 rfl ?_
  unfold laws_FnExactReadMem at hF
  intro a hA
  refine cw_seq ?_
  refine cw_ops hA ?_
  clear hA
  refine ops_v (rv_assign rfl rfl) (want_yes rfl) rfl rfl ?_
  refine ops_nil ?_
  intro a hA
  refine cw_seq ?_
  refine cw_seq ?_
  refine cw_ops hA ?_
  clear hA
  refine ops_v (rv_move rfl rfl) (want_yes rfl) rfl rfl ?_
  refine ops_v (rv_lens Try.underlying9 rfl rfl) (want_yes rfl) rfl rfl ?_
  refine ops_v (rv_gtr rfl rfl rfl) (want_yes rfl) rfl rfl ?_
  refine ops_nil ?_
  intro a hA
  refine cw_cond hA rfl (fun hc1 => ?_) (fun hc1 => ?_)
  · replace hF := iteT hc1 hF
    refine cw_seq ?_
    refine cw_ops hA ?_
    clear hA
    refine ops_v (rv_assign rfl rfl) (want_yes rfl) rfl rfl ?_
    refine ops_nil ?_
    intro a hA
    refine cw_ret ?_
    cases hF
    exact fin1 Try.results4 hA (res_tmp rfl) ⟨rfl, (hS.sel [] rfl).weaken (R' := []) (fun _ h => nomatch h)⟩
  · replace hF := iteF hc1 hF
    refine cw_skip ?_
    refine cw_seq ?_
    refine cw_ops hA ?_
    clear hA
    refine ops_v (rv_move rfl rfl) (want_yes rfl) rfl rfl ?_
    obtain ⟨x1, hx1, hF⟩ := bindE hF
    refine ops_c (rc_call Try.call10 rfl rfl) (want_yes rfl) rfl rfl (c_spec_ReadMem (s := aS)  hx1) ?_
    rintro _ w ⟨s1, s2, s3, s4, rfl, hk⟩
    replace hS := hS.after hk; clear hk
    refine ops_v (rv_move rfl rfl) (want_yes rfl) rfl rfl ?_
    refine ops_v (rv_extract rfl rfl rfl) (want_yes rfl) rfl rfl ?_
    refine ops_v (rv_extract rfl rfl rfl) (want_yes rfl) rfl rfl ?_
    refine ops_mv (rv_alloc (cs := [(.slice none 0 0), (.slice none 0 0), (.slice none 0 0), (.slice none 0 0)]) hS rfl Try.zeroValue37 rfl) (want_yes rfl) rfl rfl ?_
    clear hS
    rintro _ w ⟨b1, rfl, hS⟩
    refine ops_ms (rs_box (vs := [s1, s2, s3, s4]) hS (i := 4) rfl rfl rfl rfl rfl Try.sizeOf37 rfl rfl (all1 (one_rd (hS.rdOwn 0 rfl)) (all1 (one_rd (hS.rdOwn 1 rfl)) (all1 (one_rd (hS.rdOwn 2 rfl)) (all1 (one_rd (hS.rdOwn 3 rfl)) rfl))))) (want_yes rfl) rfl ?_
    clear hS
    intro w hS
    refine ops_v (rv_assign rfl rfl) (want_yes rfl) rfl rfl ?_
    refine ops_nil ?_
    intro a hA
    refine cw_seq ?_
    refine cw_ops hA ?_
    clear hA
    refine ops_v (rv_move rfl rfl) (want_yes rfl) rfl rfl ?_
    obtain ⟨x2, hx2, hF⟩ := bindE hF
    refine ops_c (rc_call Try.call11 rfl rfl) (want_yes rfl) rfl rfl (c_impl_ReadMem (s := aS)  hx2) ?_
    rintro _ w ⟨s5, s6, s7, s8, rfl, hk⟩
    replace hS := hS.after hk; clear hk
    refine ops_v (rv_move rfl rfl) (want_yes rfl) rfl rfl ?_
    refine ops_v (rv_extract rfl rfl rfl) (want_yes rfl) rfl rfl ?_
    refine ops_v (rv_extract rfl rfl rfl) (want_yes rfl) rfl rfl ?_
    refine ops_mv (rv_alloc (cs := [(.slice none 0 0), (.slice none 0 0), (.slice none 0 0), (.slice none 0 0)]) hS rfl Try.zeroValue37 rfl) (want_yes rfl) rfl rfl ?_
    clear hS
    rintro _ w ⟨b2, rfl, hS⟩
    refine ops_ms (rs_box (vs := [s5, s6, s7, s8]) hS (i := 9) rfl rfl rfl rfl rfl Try.sizeOf37 rfl rfl (all1 (one_rd (hS.rdOwn 5 rfl)) (all1 (one_rd (hS.rdOwn 6 rfl)) (all1 (one_rd (hS.rdOwn 7 rfl)) (all1 (one_rd (hS.rdOwn 8 rfl)) rfl))))) (want_yes rfl) rfl ?_
    clear hS
    intro w hS
    refine ops_v (rv_assign rfl rfl) (want_yes rfl) rfl rfl ?_
    refine ops_nil ?_
    intro a hA
    refine cw_seq ?_
    refine cw_seq ?_
    refine cw_cut (J := fun a' w' => ∃ (x3 : Bool), laws_FnExactReadMem_j1 aS x1 x2 x3 = some r ∧ AEnv 66 [(0, sv (aS)), (3, .pointer (some ⟨b1, 0, none⟩)), (4, .bool (x1.2)), (5, .pointer (some ⟨b2, 0, none⟩)), (32, .bool (x3))] a' ∧ St (cxAll w0) w' [cOwn [s1] (x1.1.Heap.Bytes : List Int), cOwn [s2] (x1.1.Heap.Class : List Int), cOwn [s3] (x1.1.Lists.Global : List SList), cOwn [s4] (x1.1.Lists.Own : List SList), cBox b1 [s1, s2, s3, s4], cOwn [s5] (x2.1.Heap.Bytes : List Int), cOwn [s6] (x2.1.Heap.Class : List Int), cOwn [s7] (x2.1.Lists.Global : List SList), cOwn [s8] (x2.1.Lists.Own : List SList), cBox b2 [s5, s6, s7, s8]] []) ?_ ?_
    · skip
      refine cw_ops hA ?_
      clear hA
      refine ops_v (rv_loadN rfl rfl Try.isAgg37 Try.sizeOf37 rfl (hS.cells 9 0 (cs' := [s5, s6, s7, s8]) rfl rfl)) (want_yes rfl) rfl rfl ?_
      refine ops_v (rv_loadN rfl rfl Try.isAgg37 Try.sizeOf37 rfl (hS.cells 4 0 (cs' := [s1, s2, s3, s4]) rfl rfl)) (want_yes rfl) rfl rfl ?_
      obtain ⟨x10, hx10, hF⟩ := bindE hF
      refine ops_c (rc_call Try.call9 rfl rfl) (want_yes rfl) rfl rfl (c_laws_eqMem (a_ := x2.1) (b := x1.1) (hS.rdOwn 5 rfl) (hS.rdOwn 6 rfl) (hS.rdOwn 7 rfl) (hS.rdOwn 8 rfl) (hS.rdOwn 0 rfl) (hS.rdOwn 1 rfl) (hS.rdOwn 2 rfl) (hS.rdOwn 3 rfl) hx10) ?_
      rintro _ w ⟨rfl, hk⟩
      replace hS := hS.after hk; clear hk
      refine ops_v (rv_not rfl rfl) (want_yes rfl) rfl rfl ?_
      refine ops_v (rv_move rfl rfl) (want_yes rfl) rfl rfl ?_
      refine ops_case (s := 28) rfl (fun hc9 => ?_) (fun hc9 => ?_)
      · replace hF := iteT hc9 hF
        refine ops_off (want_if rfl rfl rfl (by rw [hc9]; rfl)) rfl rfl ?_
        refine ops_off (want_if rfl rfl rfl (by rw [hc9]; rfl)) rfl rfl ?_
        refine ops_off (want_if rfl rfl rfl (by rw [hc9]; rfl)) rfl rfl ?_
        refine ops_v (rv_pick_t rfl rfl hc9 rfl) (want_yes rfl) rfl rfl ?_
        refine ops_nil ?_
        intro a hA
        exact ⟨true, hF, hA.part ⟨rfl, rfl, rfl, rfl, rfl, trivial⟩, ((hS).sel [0, 1, 2, 3, 4, 5, 6, 7, 8, 9] rfl).selR [] rfl⟩
      · replace hF := iteF hc9 hF
        refine ops_v (rv_move rfl rfl) (want_if rfl rfl rfl (by rw [hc9]; rfl)) rfl rfl ?_
        refine ops_v (rv_move rfl rfl) (want_if rfl rfl rfl (by rw [hc9]; rfl)) rfl rfl ?_
        refine ops_v (rv_neqb Try.underlying4 rfl rfl rfl) (want_if rfl rfl rfl (by rw [hc9]; rfl)) rfl rfl ?_
        refine ops_v (rv_pick_f rfl rfl hc9 rfl) (want_yes rfl) rfl rfl ?_
        refine ops_nil ?_
        intro a hA
        exact ⟨!(x2.2 == x1.2), hF, hA.part ⟨rfl, rfl, rfl, rfl, rfl, trivial⟩, ((hS).sel [0, 1, 2, 3, 4, 5, 6, 7, 8, 9] rfl).selR [] rfl⟩
    · skip
      clear hA hS hF
      rintro a w ⟨x3, hF, hA, hS⟩
      unfold laws_FnExactReadMem_j1 at hF
      refine cw_cond hA rfl (fun hc2 => ?_) (fun hc2 => ?_)
      · replace hF := iteT hc2 hF
        refine cw_seq ?_
        refine cw_ops hA ?_
        clear hA
        refine ops_v (rv_assign rfl rfl) (want_yes rfl) rfl rfl ?_
        refine ops_nil ?_
        intro a hA
        refine cw_ret ?_
        cases hF
        exact fin1 Try.results4 hA (res_tmp rfl) ⟨rfl, (hS.sel [] rfl).weaken (R' := []) (fun _ h => nomatch h)⟩
      · replace hF := iteF hc2 hF
        refine cw_skip ?_
        refine cw_seq ?_
        refine cw_ops hA ?_
        clear hA
        refine ops_v (rv_assign rfl rfl) (want_yes rfl) rfl rfl ?_
        refine ops_nil ?_
        intro a hA
        refine cw_seq ?_
        refine cw_ops hA ?_
        clear hA
        refine ops_v (rv_loadN rfl rfl Try.isAgg37 Try.sizeOf37 rfl (hS.cells 9 0 (cs' := [s5, s6, s7, s8]) rfl rfl)) (want_yes rfl) rfl rfl ?_
        refine ops_v (rv_move rfl rfl) (want_yes rfl) rfl rfl ?_
        obtain ⟨c1, hg, hb⟩ := hS.give [5, 6, 7, 8] rfl rfl
        obtain ⟨x4, hx4, hF⟩ := bindE hF
        refine ops_c (rc_call Try.call12 rfl rfl) (want_yes rfl) rfl rfl (c_laws_markMem (c := c1) (a_ := x2.1) (s1 := s5) (s2 := s6) (s3 := s7) (s4 := s8) (k := 1) (hg _ all_nil) hx4) ?_
        rintro _ w ⟨rfl, hk⟩
        replace hS := hb _ _ _ hk; clear hk hg hb
        refine ops_v (rv_assign rfl rfl) (want_yes rfl) rfl rfl ?_
        refine ops_nil ?_
        intro a hA
        refine cw_seq ?_
        refine cw_ops hA ?_
        clear hA
        refine ops_v (rv_assign rfl rfl) (want_yes rfl) rfl rfl ?_
        refine ops_nil ?_
        intro a hA
        refine cw_seq ?_
        refine cw_ops hA ?_
        clear hA
        refine ops_v (rv_loadN rfl rfl Try.isAgg37 Try.sizeOf37 rfl (hS.cells 9 0 (cs' := [s5, s6, s7, s8]) rfl rfl)) (want_yes rfl) rfl rfl ?_
        refine ops_v (rv_move rfl rfl) (want_yes rfl) rfl rfl ?_
        obtain ⟨x5, hx5, hF⟩ := bindE hF
        refine ops_c (rc_call Try.call13 rfl rfl) (want_yes rfl) rfl rfl (c_laws_heldMem (a_ := (⟨(⟨x4.2.1, x4.2.2.1⟩ : Heap), (⟨x4.2.2.2.1, x4.2.2.2.2⟩ : Lists)⟩ : Mem)) (k := 1) (hS.rdOwn 10 rfl) (hS.rdOwn 11 rfl) (hS.rdOwn 12 rfl) (hS.rdOwn 13 rfl) hx5) ?_
        rintro _ w ⟨rfl, hk⟩
        replace hS := hS.after hk; clear hk
        refine ops_v (rv_assign rfl rfl) (want_yes rfl) rfl rfl ?_
        refine ops_nil ?_
        intro a hA
        refine cw_seq ?_
        refine cw_seq ?_
        refine cw_ops hA ?_
        clear hA
        refine ops_v (rv_move rfl rfl) (want_yes rfl) rfl rfl ?_
        refine ops_v (rv_lss rfl rfl rfl) (want_yes rfl) rfl rfl ?_
        refine ops_nil ?_
        intro a hA
        refine cw_cond hA rfl (fun hc3 => ?_) (fun hc3 => ?_)
        · replace hF := iteT hc3 hF
          refine cw_seq ?_
          refine cw_ops hA ?_
          clear hA
          refine ops_v (rv_assign rfl rfl) (want_yes rfl) rfl rfl ?_
          refine ops_nil ?_
          intro a hA
          refine cw_ret ?_
          cases hF
          exact fin1 Try.results4 hA (res_tmp rfl) ⟨rfl, (hS.sel [] rfl).weaken (R' := []) (fun _ h => nomatch h)⟩
        · replace hF := iteF hc3 hF
          refine cw_skip ?_
          refine cw_seq ?_
          refine cw_seq ?_
          refine cw_ops hA ?_
          clear hA
          refine ops_v (rv_move rfl rfl) (want_yes rfl) rfl rfl ?_
          refine ops_v (rv_move rfl rfl) (want_yes rfl) rfl rfl ?_
          refine ops_v (rv_neq rfl rfl rfl) (want_yes rfl) rfl rfl ?_
          refine ops_nil ?_
          intro a hA
          refine cw_cond hA rfl (fun hc4 => ?_) (fun hc4 => ?_)
          · replace hF := iteT hc4 hF
            refine cw_seq ?_
            refine cw_ops hA ?_
            clear hA
            refine ops_v (rv_assign rfl rfl) (want_yes rfl) rfl rfl ?_
            refine ops_nil ?_
            intro a hA
            refine cw_ret ?_
            cases hF
            exact fin1 Try.results4 hA (res_tmp rfl) ⟨rfl, (hS.sel [] rfl).weaken (R' := []) (fun _ h => nomatch h)⟩
          · replace hF := iteF hc4 hF
            refine cw_skip ?_
            refine cw_seq ?_
            refine cw_ops hA ?_
            clear hA
            refine ops_v (rv_move rfl rfl) (want_yes rfl) rfl rfl ?_
            obtain ⟨x6, hx6, hF⟩ := bindE hF
            refine ops_c (rc_call Try.call11 rfl rfl) (want_yes rfl) rfl rfl (c_impl_ReadMem (s := aS)  hx6) ?_
            rintro _ w ⟨s9, s10, s11, s12, rfl, hk⟩
            replace hS := hS.after hk; clear hk
            refine ops_v (rv_move rfl rfl) (want_yes rfl) rfl rfl ?_
            refine ops_v (rv_extract rfl rfl rfl) (want_yes rfl) rfl rfl ?_
            refine ops_v (rv_extract rfl rfl rfl) (want_yes rfl) rfl rfl ?_
            refine ops_mv (rv_alloc (cs := [(.slice none 0 0), (.slice none 0 0), (.slice none 0 0), (.slice none 0 0)]) hS rfl Try.zeroValue37 rfl) (want_yes rfl) rfl rfl ?_
            clear hS
            rintro _ w ⟨b3, rfl, hS⟩
            refine ops_ms (rs_box (vs := [s9, s10, s11, s12]) hS (i := 18) rfl rfl rfl rfl rfl Try.sizeOf37 rfl rfl (all1 (one_rd (hS.rdOwn 14 rfl)) (all1 (one_rd (hS.rdOwn 15 rfl)) (all1 (one_rd (hS.rdOwn 16 rfl)) (all1 (one_rd (hS.rdOwn 17 rfl)) rfl))))) (want_yes rfl) rfl ?_
            clear hS
            intro w hS
            refine ops_v (rv_assign rfl rfl) (want_yes rfl) rfl rfl ?_
            refine ops_nil ?_
            intro a hA
            refine cw_seq ?_
            refine cw_seq ?_
            refine cw_cut (J := fun a' w' => ∃ (x7 : Bool), laws_FnExactReadMem_j2 x4 x7 = some r ∧ AEnv 66 [(5, .pointer (some ⟨b2, 0, none⟩)), (7, .int .i64 (x4.1)), (57, .bool (x7))] a' ∧ St (cxAll w0) w' [cOwn [s5] (x4.2.1 : List Int), cOwn [s6] (x4.2.2.1 : List Int), cOwn [s7] (x4.2.2.2.1 : List SList), cOwn [s8] (x4.2.2.2.2 : List SList), cBox b2 [s5, s6, s7, s8]] []) ?_ ?_
            · skip
              refine cw_ops hA ?_
              clear hA
              refine ops_v (rv_loadN rfl rfl Try.isAgg37 Try.sizeOf37 rfl (hS.cells 18 0 (cs' := [s9, s10, s11, s12]) rfl rfl)) (want_yes rfl) rfl rfl ?_
              refine ops_v (rv_loadN rfl rfl Try.isAgg37 Try.sizeOf37 rfl (hS.cells 4 0 (cs' := [s1, s2, s3, s4]) rfl rfl)) (want_yes rfl) rfl rfl ?_
              obtain ⟨x9, hx9, hF⟩ := bindE hF
              refine ops_c (rc_call Try.call9 rfl rfl) (want_yes rfl) rfl rfl (c_laws_eqMem (a_ := x6.1) (b := x1.1) (hS.rdOwn 14 rfl) (hS.rdOwn 15 rfl) (hS.rdOwn 16 rfl) (hS.rdOwn 17 rfl) (hS.rdOwn 0 rfl) (hS.rdOwn 1 rfl) (hS.rdOwn 2 rfl) (hS.rdOwn 3 rfl) hx9) ?_
              rintro _ w ⟨rfl, hk⟩
              replace hS := hS.after hk; clear hk
              refine ops_v (rv_not rfl rfl) (want_yes rfl) rfl rfl ?_
              refine ops_v (rv_move rfl rfl) (want_yes rfl) rfl rfl ?_
              refine ops_case (s := 53) rfl (fun hc8 => ?_) (fun hc8 => ?_)
              · replace hF := iteT hc8 hF
                refine ops_off (want_if rfl rfl rfl (by rw [hc8]; rfl)) rfl rfl ?_
                refine ops_off (want_if rfl rfl rfl (by rw [hc8]; rfl)) rfl rfl ?_
                refine ops_off (want_if rfl rfl rfl (by rw [hc8]; rfl)) rfl rfl ?_
                refine ops_v (rv_pick_t rfl rfl hc8 rfl) (want_yes rfl) rfl rfl ?_
                refine ops_nil ?_
                intro a hA
                exact ⟨true, hF, hA.part ⟨rfl, rfl, rfl, trivial⟩, ((hS).sel [10, 11, 12, 13, 9] rfl).selR [] rfl⟩
              · replace hF := iteF hc8 hF
                refine ops_v (rv_move rfl rfl) (want_if rfl rfl rfl (by rw [hc8]; rfl)) rfl rfl ?_
                refine ops_v (rv_move rfl rfl) (want_if rfl rfl rfl (by rw [hc8]; rfl)) rfl rfl ?_
                refine ops_v (rv_neqb Try.underlying4 rfl rfl rfl) (want_if rfl rfl rfl (by rw [hc8]; rfl)) rfl rfl ?_
                refine ops_v (rv_pick_f rfl rfl hc8 rfl) (want_yes rfl) rfl rfl ?_
                refine ops_nil ?_
                intro a hA
                exact ⟨!(x6.2 == x1.2), hF, hA.part ⟨rfl, rfl, rfl, trivial⟩, ((hS).sel [10, 11, 12, 13, 9] rfl).selR [] rfl⟩
            · skip
              clear hA hS hF
              rintro a w ⟨x7, hF, hA, hS⟩
              unfold laws_FnExactReadMem_j2 at hF
              refine cw_cond hA rfl (fun hc5 => ?_) (fun hc5 => ?_)
              · replace hF := iteT hc5 hF
                refine cw_seq ?_
                refine cw_ops hA ?_
                clear hA
                refine ops_v (rv_assign rfl rfl) (want_yes rfl) rfl rfl ?_
                refine ops_nil ?_
                intro a hA
                refine cw_ret ?_
                cases hF
                exact fin1 Try.results4 hA (res_tmp rfl) ⟨rfl, (hS.sel [] rfl).weaken (R' := []) (fun _ h => nomatch h)⟩
              · replace hF := iteF hc5 hF
                refine cw_skip ?_
                refine cw_seq ?_
                refine cw_ops hA ?_
                clear hA
                refine ops_v (rv_assign rfl rfl) (want_yes rfl) rfl rfl ?_
                refine ops_nil ?_
                intro a hA
                refine cw_seq ?_
                refine cw_ops hA ?_
                clear hA
                refine ops_v (rv_loadN rfl rfl Try.isAgg37 Try.sizeOf37 rfl (hS.cells 4 0 (cs' := [s5, s6, s7, s8]) rfl rfl)) (want_yes rfl) rfl rfl ?_
                refine ops_v (rv_move rfl rfl) (want_yes rfl) rfl rfl ?_
                obtain ⟨x8, hx8, hF⟩ := bindE hF
                refine ops_c (rc_call Try.call13 rfl rfl) (want_yes rfl) rfl rfl (c_laws_heldMem (a_ := (⟨(⟨x4.2.1, x4.2.2.1⟩ : Heap), (⟨x4.2.2.2.1, x4.2.2.2.2⟩ : Lists)⟩ : Mem)) (k := 1) (hS.rdOwn 0 rfl) (hS.rdOwn 1 rfl) (hS.rdOwn 2 rfl) (hS.rdOwn 3 rfl) hx8) ?_
                rintro _ w ⟨rfl, hk⟩
                replace hS := hS.after hk; clear hk
                refine ops_v (rv_assign rfl rfl) (want_yes rfl) rfl rfl ?_
                refine ops_nil ?_
                intro a hA
                refine cw_seq ?_
                refine cw_seq ?_
                refine cw_ops hA ?_
                clear hA
                refine ops_v (rv_move rfl rfl) (want_yes rfl) rfl rfl ?_
                refine ops_v (rv_lss rfl rfl rfl) (want_yes rfl) rfl rfl ?_
                refine ops_nil ?_
                intro a hA
                refine cw_cond hA rfl (fun hc6 => ?_) (fun hc6 => ?_)
                · replace hF := iteT hc6 hF
                  refine cw_seq ?_
                  refine cw_ops hA ?_
                  clear hA
                  refine ops_v (rv_assign rfl rfl) (want_yes rfl) rfl rfl ?_
                  refine ops_nil ?_
                  intro a hA
                  refine cw_ret ?_
                  cases hF
                  exact fin1 Try.results4 hA (res_tmp rfl) ⟨rfl, (hS.sel [] rfl).weaken (R' := []) (fun _ h => nomatch h)⟩
                · replace hF := iteF hc6 hF
                  refine cw_skip ?_
                  refine cw_seq ?_
                  refine cw_seq ?_
                  refine cw_ops hA ?_
                  clear hA
                  refine ops_v (rv_move rfl rfl) (want_yes rfl) rfl rfl ?_
                  refine ops_v (rv_move rfl rfl) (want_yes rfl) rfl rfl ?_
                  refine ops_v (rv_neq rfl rfl rfl) (want_yes rfl) rfl rfl ?_
                  refine ops_nil ?_
                  intro a hA
                  refine cw_cond hA rfl (fun hc7 => ?_) (fun hc7 => ?_)
                  · replace hF := iteT hc7 hF
                    refine cw_seq ?_
                    refine cw_ops hA ?_
                    clear hA
                    refine ops_v (rv_assign rfl rfl) (want_yes rfl) rfl rfl ?_
                    refine ops_nil ?_
                    intro a hA
                    refine cw_ret ?_
                    cases hF
                    exact fin1 Try.results4 hA (res_tmp rfl) ⟨rfl, (hS.sel [] rfl).weaken (R' := []) (fun _ h => nomatch h)⟩
                  · replace hF := iteF hc7 hF
                    refine cw_skip ?_
                    refine cw_seq ?_
                    refine cw_ops hA ?_
                    clear hA
                    refine ops_v (rv_assign rfl rfl) (want_yes rfl) rfl rfl ?_
                    refine ops_nil ?_
                    intro a hA
                    refine cw_ret ?_
                    cases hF
                    exact fin1 Try.results4 hA (res_tmp rfl) ⟨rfl, (hS.sel [] rfl).weaken (R' := []) (fun _ h => nomatch h)⟩
end Go.Proofs.Ytpndngnohcffnaa
