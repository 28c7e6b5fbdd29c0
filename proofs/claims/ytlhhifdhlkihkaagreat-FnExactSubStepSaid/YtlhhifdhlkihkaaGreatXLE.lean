import Derived.Test.YtlhhifdhlkihkaaGreatXLD
set_option linter.unusedVariables false
set_option linter.unusedSimpArgs false
set_option linter.unusedSectionVars false
set_option linter.constructorNameAsVariable false
set_option linter.unnecessarySimpa false
section
set_option linter.unusedVariables false
set_option maxHeartbeats 4000000
set_option maxRecDepth 100000
namespace Go.Proofs.YtlhhifdhlkihkaaGreat
open Go.Gv
theorem n_slices_IndexFunc_LRow {κ : Ctx} {s : List LRow} {f : (LRow → Option Bool)} {s1 : AC} {g_f : FuncId} {cap_f : List Value} {r : Int} (h1 : RdA κ s1 s) (h_f : Fu1 Tryz.prog κ (cLRow : Cel LRow) .b g_f cap_f f) (hF : slices_IndexFunc_LRow s f = some r) : Fn0 Tryz.prog 140 κ [.h s1 s.length, .k (.func (.func g_f) #[] cap_f.toArray)] I r :=
 en 19 Tryz.call140 Tryz.func140 tok rfl rfl rfl <| lp () [0, 1, 7] (fun (x2 : Int) (_ : Unit) => [(8, I x2)]) [] [] (fun x2 _ => []) Out.brk [] (fun (_ : Unit) (_ : Unit) => []) [] (fun _ _ => []) rfl hF rfl (fun o_ hF1 x2 _ o1 hG1 hr1 => cs [9] rfl rfl hG1 (fun hG1 => ix cLRow rfl h1 hG1 rfl rfl rfl fun x3 _ hG1 _ _ => fa1 h_f x3 () rfl rfl rfl rfl rfl trivial hG1 fun x4 _ hG1 => cs [16] rfl rfl hG1 (fun hG1 => rt () [] (re hG1 rfl hr1 hF1) rfl rfl Tryz.results140 rfl rfl rfl rfl) fun hG1 => nx () [] hG1 rfl rfl) fun hG1 => bk () [] hG1 hr1 rfl rfl) fun () _ hF => rt () [] hF rfl rfl Tryz.results140 rfl rfl rfl rfl
theorem n_slices_ContainsFunc_LRow {κ : Ctx} {s : List LRow} {f : (LRow → Option Bool)} {s1 : AC} {g_f : FuncId} {cap_f : List Value} {r : Bool} (h1 : RdA κ s1 s) (h_f : Fu1 Tryz.prog κ (cLRow : Cel LRow) .b g_f cap_f f) (hF : slices_ContainsFunc_LRow s f = some r) : Fn0 Tryz.prog 75 κ [.h s1 s.length, .k (.func (.func g_f) #[] cap_f.toArray)] .b r :=
 en 9 Tryz.call75 Tryz.func75 tok rfl rfl rfl <| cl0 rfl (fun h => n_slices_IndexFunc_LRow (h.a h1) (h.u1 h_f)) hF fun x1 _ hF => rt () [] hF rfl rfl Tryz.results75 rfl rfl rfl rfl
theorem n_slices_Index_int {κ : Ctx} {s : List Int} {v : Int} {s1 : AC} {r : Int} (h1 : RdA κ s1 s) (hF : slices_Index_int s v = some r) : Fn0 Tryz.prog 219 κ [.h s1 s.length, I v] I r :=
 en 19 Tryz.call219 Tryz.func219 tok rfl rfl rfl <| lp () [0, 1, 7] (fun (x2 : Int) (_ : Unit) => [(8, I x2)]) [] [] (fun x2 _ => []) Out.brk [] (fun (_ : Unit) (_ : Unit) => []) [] (fun _ _ => []) rfl hF rfl (fun o_ hF1 x2 _ o1 hG1 hr1 => cs [9] rfl rfl hG1 (fun hG1 => ix cI rfl h1 hG1 rfl rfl rfl fun x3 _ hG1 _ _ => cs [16] rfl rfl hG1 (fun hG1 => rt () [] (re hG1 rfl hr1 hF1) rfl rfl Tryz.results219 rfl rfl rfl rfl) fun hG1 => nx () [] hG1 rfl rfl) fun hG1 => bk () [] hG1 hr1 rfl rfl) fun () _ hF => rt () [] hF rfl rfl Tryz.results219 rfl rfl rfl rfl
theorem n_slices_Contains_int {κ : Ctx} {s : List Int} {v : Int} {s1 : AC} {r : Bool} (h1 : RdA κ s1 s) (hF : slices_Contains_int s v = some r) : Fn0 Tryz.prog 217 κ [.h s1 s.length, I v] .b r :=
 en 9 Tryz.call217 Tryz.func217 tok rfl rfl rfl <| cl0 rfl (fun h => n_slices_Index_int (h.a h1)) hF fun x1 _ hF => rt () [] hF rfl rfl Tryz.results217 rfl rfl rfl rfl
theorem n_impl_OnList_1 {κ : Ctx} {s : SList} {k0 : Int} {s1 : AC} {b0 : Nat × Nat} {r : Bool} (h1 : RdA κ s1 s.Slots) (hF : impl_OnList_1 s k0 = some r) : FnS Tryz.prog 216 κ [.g [.h s1 s.Slots.length], .p 0 0] [b0] [.ro 0 [I k0]] (fun r (_ : Unit) => .b r) (fun _ _ => []) r :=
 en 8 Tryz.call216 Tryz.func216 tok rfl rfl rfl <| cl0 rfl (fun h => n_slices_Contains_int (h.a h1)) hF fun x1 _ hF => rt () [] hF rfl rfl Tryz.results216 rfl rfl rfl rfl
theorem n_slices_IndexFunc_SList {κ : Ctx} {s : List SList} {f : (SList → Option Bool)} {s1 : AC} {g_f : FuncId} {cap_f : List Value} {r : Int} (h1 : RdA κ s1 s) (h_f : Fu1 Tryz.prog κ (cSList : Cel SList) .b g_f cap_f f) (hF : slices_IndexFunc_SList s f = some r) : Fn0 Tryz.prog 226 κ [.h s1 s.length, .k (.func (.func g_f) #[] cap_f.toArray)] I r :=
 en 19 Tryz.call226 Tryz.func226 tok rfl rfl rfl <| lp () [0, 1, 7] (fun (x2 : Int) (_ : Unit) => [(8, I x2)]) [] [] (fun x2 _ => []) Out.brk [] (fun (_ : Unit) (_ : Unit) => []) [] (fun _ _ => []) rfl hF rfl (fun o_ hF1 x2 _ o1 hG1 hr1 => cs [9] rfl rfl hG1 (fun hG1 => ix cSList rfl h1 hG1 rfl rfl rfl fun x3 _ hG1 s2 h2 => fa1 h_f x3 s2 rfl rfl rfl rfl rfl h2 hG1 fun x4 _ hG1 => cs [16] rfl rfl hG1 (fun hG1 => rt () [] (re hG1 rfl hr1 hF1) rfl rfl Tryz.results226 rfl rfl rfl rfl) fun hG1 => nx () [] hG1 rfl rfl) fun hG1 => bk () [] hG1 hr1 rfl rfl) fun () _ hF => rt () [] hF rfl rfl Tryz.results226 rfl rfl rfl rfl
theorem n_slices_ContainsFunc_SList {κ : Ctx} {s : List SList} {f : (SList → Option Bool)} {s1 : AC} {g_f : FuncId} {cap_f : List Value} {r : Bool} (h1 : RdA κ s1 s) (h_f : Fu1 Tryz.prog κ (cSList : Cel SList) .b g_f cap_f f) (hF : slices_ContainsFunc_SList s f = some r) : Fn0 Tryz.prog 218 κ [.h s1 s.length, .k (.func (.func g_f) #[] cap_f.toArray)] .b r :=
 en 9 Tryz.call218 Tryz.func218 tok rfl rfl rfl <| cl0 rfl (fun h => n_slices_IndexFunc_SList (h.a h1) (h.u1 h_f)) hF fun x1 _ hF => rt () [] hF rfl rfl Tryz.results218 rfl rfl rfl rfl
theorem n_impl_OnList {κ : Ctx} {l : Lists} {slot : Int} {s1 s2 : AC} {r : Bool} (h1 : RdA κ s1 l.Global) (h2 : RdA κ s2 l.Own) (hF : impl_OnList l slot = some r) : Fn0 Tryz.prog 186 κ [.g [.h s1 l.Global.length, .h s2 l.Own.length], I slot] .b r :=
 en 17 Tryz.call186 Tryz.func186 tok rfl rfl rfl <| mf [1] rfl rfl rfl <| cut 0 2 (fun (x1 : Bool) => impl_OnList_j1 x1 = some r) [] (fun (x1 : Bool) (_ : Unit) => [(4, .b x1)]) [] (fun x1 _ => []) rfl (clc1 [1] rfl rfl rfl rfl (fun h => fun hB => n_slices_ContainsFunc_SList (h.a h1) (fk1 (cs := [(1, [I slot])]) Tryz.call216 hB rfl (fun _ => rfl) fun _ hy => n_impl_OnList_1 hy)) hF fun x2 _ hF => ca [10, 11] rfl rfl hF (fun hF => jn () [] hF rfl rfl) fun hF => clc1 [1] rfl rfl rfl rfl (fun h => fun hB => n_slices_ContainsFunc_SList (h.a h2) (fk1 (cs := [(1, [I slot])]) Tryz.call216 hB rfl (fun _ => rfl) fun _ hy => n_impl_OnList_1 hy)) hF fun x3 _ hF => jn () [] hF rfl rfl) fun x1 _ hF => rt () [] hF rfl rfl Tryz.results186 rfl rfl rfl rfl
theorem n_impl_stateOf {κ : Ctx} {m : Mem} {slot : Int} {s1 s2 s3 s4 : AC} {r : Int} (h1 : RdA κ s1 m.Heap.Bytes) (h2 : RdA κ s2 m.Heap.Class) (h3 : RdA κ s3 m.Lists.Global) (h4 : RdA κ s4 m.Lists.Own) (hF : impl_stateOf m slot = some r) : Fn0 Tryz.prog 141 κ [.g [.h s1 m.Heap.Bytes.length, .h s2 m.Heap.Class.length, .h s3 m.Lists.Global.length, .h s4 m.Lists.Own.length], I slot] I r :=
 en 22 Tryz.call141 Tryz.func141 tok rfl rfl rfl <| cl0 rfl (fun h => n_impl_classIn (h.a h1) (h.a h2)) hF fun x1 _ hF => cs [5, 10] rfl rfl hF (fun hF => rt () [] hF rfl rfl Tryz.results141 rfl rfl rfl rfl) fun hF => cl0 rfl (fun h => n_impl_OnList (h.a h3) (h.a h4)) hF fun x2 _ hF => cs [11, 15] rfl rfl hF (fun hF => rt () [] hF rfl rfl Tryz.results141 rfl rfl rfl rfl) fun hF => cl0 rfl (fun h => n_impl_GenIn (h.a h1) (h.a h2)) hF fun x3 _ hF => cs [16, 21] rfl rfl hF (fun hF => rt () [] hF rfl rfl Tryz.results141 rfl rfl rfl rfl) fun hF => rt () [] hF rfl rfl Tryz.results141 rfl rfl rfl rfl
theorem n_impl_isLive {κ : Ctx} {m : Mem} {h : Int} {s1 s2 s3 s4 : AC} {r : Bool} (h1 : RdA κ s1 m.Heap.Bytes) (h2 : RdA κ s2 m.Heap.Class) (h3 : RdA κ s3 m.Lists.Global) (h4 : RdA κ s4 m.Lists.Own) (hF : impl_isLive m h = some r) : Fn0 Tryz.prog 77 κ [.g [.h s1 m.Heap.Bytes.length, .h s2 m.Heap.Class.length, .h s3 m.Lists.Global.length, .h s4 m.Lists.Own.length], I h] .b r :=
 en 24 Tryz.call77 Tryz.func77 tok rfl rfl rfl <| cut 0 1 (fun (x1 : Bool) => impl_isLive_j1 x1 = some r) [] (fun (x1 : Bool) (_ : Unit) => [(4, .b x1)]) [] (fun x1 _ => []) rfl (cl0 rfl (fun _ => n_impl_HandleOk) hF fun x2 _ hF => ca [6, 7] rfl rfl hF (fun hF => cl0 rfl (fun h => n_impl_stateOf (h.a h1) (h.a h2) (h.a h3) (h.a h4)) hF fun x3 _ hF => ca [12, 13, 14] rfl rfl hF (fun hF => cl0 rfl (fun h => n_impl_GenIn (h.a h1) (h.a h2)) hF fun x4 _ hF => jn () [] hF rfl rfl) fun hF => jn () [] hF rfl rfl) fun hF => jn () [] hF rfl rfl) fun x1 _ hF => rt () [] hF rfl rfl Tryz.results77 rfl rfl rfl rfl
theorem n_impl_BaseOk_1_1 {κ : Ctx} {r_ : LRow} {k0 : Base} {s1 s2 s3 s4 s5 s6 s7 : AC} {b0 : Nat × Nat} {r : Bool} (h1 : RdA κ s1 k0.Mem.Heap.Bytes) (h2 : RdA κ s2 k0.Mem.Heap.Class) (h3 : RdA κ s3 k0.Mem.Lists.Global) (h4 : RdA κ s4 k0.Mem.Lists.Own) (h5 : RdA κ s5 k0.Clock.Pins) (h6 : RdA κ s6 k0.Limbo) (h7 : RdA κ s7 k0.Haz) (hF : impl_BaseOk_1_1 r_ k0 = some r) : FnS Tryz.prog 76 κ [.g [I r_.Handle, I r_.Epoch], .p 0 0] [b0] [.ro 0 [.h s1 k0.Mem.Heap.Bytes.length, .h s2 k0.Mem.Heap.Class.length, .h s3 k0.Mem.Lists.Global.length, .h s4 k0.Mem.Lists.Own.length, I k0.Clock.Epoch, .h s5 k0.Clock.Pins.length, .h s6 k0.Limbo.length, .h s7 k0.Haz.length]] (fun r (_ : Unit) => .b r) (fun _ _ => []) r :=
 en 18 Tryz.call76 Tryz.func76 tok rfl rfl rfl <| cut 0 2 (fun (x1 : Bool) => impl_BaseOk_1_1_j1 x1 = some r) [] (fun (x1 : Bool) (_ : Unit) => [(3, .b x1)]) [] (fun x1 _ => []) rfl (cl0 rfl (fun h => n_impl_isLive (h.a h1) (h.a h2) (h.a h3) (h.a h4)) hF fun x2 _ hF => ca [9, 10] rfl rfl hF (fun hF => jn () [] hF rfl rfl) fun hF => jn () [] hF rfl rfl) fun x1 _ hF => rt () [] hF rfl rfl Tryz.results76 rfl rfl rfl rfl
theorem n_impl_BaseOk_1 {κ : Ctx} {l : LList} {k0 : Base} {s1 : AC} {s2 s3 s4 s5 s6 s7 s8 : AC} {b0 : Nat × Nat} {r : Bool} (h1 : RdA κ s1 l.Rows) (h2 : RdA κ s2 k0.Mem.Heap.Bytes) (h3 : RdA κ s3 k0.Mem.Heap.Class) (h4 : RdA κ s4 k0.Mem.Lists.Global) (h5 : RdA κ s5 k0.Mem.Lists.Own) (h6 : RdA κ s6 k0.Clock.Pins) (h7 : RdA κ s7 k0.Limbo) (h8 : RdA κ s8 k0.Haz) (hF : impl_BaseOk_1 l k0 = some r) : FnS Tryz.prog 74 κ [.g [.h s1 l.Rows.length], .p 0 0] [b0] [.ro 0 [.h s2 k0.Mem.Heap.Bytes.length, .h s3 k0.Mem.Heap.Class.length, .h s4 k0.Mem.Lists.Global.length, .h s5 k0.Mem.Lists.Own.length, I k0.Clock.Epoch, .h s6 k0.Clock.Pins.length, .h s7 k0.Limbo.length, .h s8 k0.Haz.length]] (fun r (_ : Unit) => .b r) (fun _ _ => []) r :=
 en 8 Tryz.call74 Tryz.func74 tok rfl rfl rfl <| mf [0] rfl rfl rfl <| clc1 [0] rfl rfl rfl rfl (fun h => fun hB => n_slices_ContainsFunc_LRow (h.a h1) (fk1 (cs := [(0, [.h s2 k0.Mem.Heap.Bytes.length, .h s3 k0.Mem.Heap.Class.length, .h s4 k0.Mem.Lists.Global.length, .h s5 k0.Mem.Lists.Own.length, I k0.Clock.Epoch, .h s6 k0.Clock.Pins.length, .h s7 k0.Limbo.length, .h s8 k0.Haz.length])]) Tryz.call76 hB rfl (fun _ => rfl) fun hk _ => n_impl_BaseOk_1_1 (rk hk (h.a h2)) (rk hk (h.a h3)) (rk hk (h.a h4)) (rk hk (h.a h5)) (rk hk (h.a h6)) (rk hk (h.a h7)) (rk hk (h.a h8)))) hF fun x1 _ hF => rt () [] hF rfl rfl Tryz.results74 rfl rfl rfl rfl
theorem n_impl_BaseOk {κ : Ctx} {b : Base} {s1 s2 s3 s4 s5 s6 s7 : AC} {r : Bool} (h1 : RdA κ s1 b.Mem.Heap.Bytes) (h2 : RdA κ s2 b.Mem.Heap.Class) (h3 : RdA κ s3 b.Mem.Lists.Global) (h4 : RdA κ s4 b.Mem.Lists.Own) (h5 : RdA κ s5 b.Clock.Pins) (h6 : RdA κ s6 b.Limbo) (h7 : RdA κ s7 b.Haz) (hF : impl_BaseOk b = some r) : Fn0 Tryz.prog 26 κ [.g [.h s1 b.Mem.Heap.Bytes.length, .h s2 b.Mem.Heap.Class.length, .h s3 b.Mem.Lists.Global.length, .h s4 b.Mem.Lists.Own.length, I b.Clock.Epoch, .h s5 b.Clock.Pins.length, .h s6 b.Limbo.length, .h s7 b.Haz.length]] .b r :=
 en 30 Tryz.call26 Tryz.func26 tok rfl rfl rfl <| cut 0 1 (fun (x1 : Bool) => impl_BaseOk_j1 b x1 = some r) [1] (fun (x1 : Bool) (_ : Unit) => [(24, .b x1)]) [0] (fun x1 _ => []) rfl (cl0 rfl (fun h => n_impl_MemOk (h.a h1) (h.a h2) (h.a h3) (h.a h4)) hF fun x3 _ hF => ca [6, 7] rfl rfl hF (fun hF => jn () [0] hF rfl rfl) fun hF => cl0 rfl (fun h => n_impl_ClockOk (h.a h5)) hF fun x4 _ hF => ca [11, 12, 13] rfl rfl hF (fun hF => jn () [0] hF rfl rfl) fun hF => cl0 rfl (fun h => n_impl_LimboOk (h.a h6)) hF fun x5 _ hF => ca [17, 18, 19] rfl rfl hF (fun hF => jn () [0] hF rfl rfl) fun hF => cl0 rfl (fun h => n_impl_HazOk (h.a h7)) hF fun x6 _ hF => jn () [0] hF rfl rfl) fun x1 _ hF => cs [24] rfl rfl hF (fun hF => rt () [] hF rfl rfl Tryz.results26 rfl rfl rfl rfl) fun hF => mf [0] rfl rfl rfl <| clc1 [0] rfl rfl rfl rfl (fun h => fun hB => n_slices_ContainsFunc_LList (h.a h6) (fk1 (cs := [(0, [.h s1 b.Mem.Heap.Bytes.length, .h s2 b.Mem.Heap.Class.length, .h s3 b.Mem.Lists.Global.length, .h s4 b.Mem.Lists.Own.length, I b.Clock.Epoch, .h s5 b.Clock.Pins.length, .h s6 b.Limbo.length, .h s7 b.Haz.length])]) Tryz.call74 hB rfl (fun _ => rfl) fun hk hy => n_impl_BaseOk_1 hy (rk hk (h.a h1)) (rk hk (h.a h2)) (rk hk (h.a h3)) (rk hk (h.a h4)) (rk hk (h.a h5)) (rk hk (h.a h6)) (rk hk (h.a h7)))) hF fun x2 _ hF => rt () [] hF rfl rfl Tryz.results26 rfl rfl rfl rfl
theorem n_impl_isWorker {κ : Ctx} {w_ : Int}  {r : Bool}  (hF : impl_isWorker w_ = some r) : Fn0 Tryz.prog 27 κ [I w_] .b r :=
 en 5 Tryz.call27 Tryz.func27 tok rfl rfl rfl <| cl0 rfl (fun _ => n_impl_within) hF fun x1 _ hF => rt () [] hF rfl rfl Tryz.results27 rfl rfl rfl rfl
theorem n_impl_Sub_finish {κ : Ctx} {s : Sub} {code : Int} {b0 : Nat × Nat} {r : Sub}  (hF : impl_Sub_finish s code = some r) : FnS Tryz.prog 84 κ [.p 0 0, I code] [b0] [.box 0 [I s.Kind, I s.A, I s.Pc, I s.E, I s.Row, I s.B, I s.H, I s.Out, I s.Code, .b s.Done]] (fun (r : Sub) (y : Unit) => .t []) (fun (r : Sub) (y : Unit) => [.box 0 [I r.Kind, I r.A, I r.Pc, I r.E, I r.Row, I r.B, I r.H, I r.Out, I r.Code, .b r.Done]]) r :=
 en 11 Tryz.call84 Tryz.func84 tok rfl rfl rfl <| rf () [0] hF rfl rfl Tryz.results84 rfl rfl rfl rfl
theorem n_impl_ClassOf {κ : Ctx} {size : Int}  {r : Int}  (hF : impl_ClassOf size = some r) : Fn0 Tryz.prog 143 κ [I size] I r :=
 en 17 Tryz.call143 Tryz.func143 tok rfl rfl rfl <| lp () [0] (fun (x2 : Int) (_ : Unit) => [(4, I x2)]) [] [] (fun x2 _ => []) Out.brk [] (fun (_ : Unit) (_ : Unit) => []) [] (fun _ _ => []) rfl hF rfl (fun o_ hF1 x2 _ o1 hG1 hr1 => cs [5] rfl rfl hG1 (fun hG1 => cut 0 0 (fun (x3 : Bool) => impl_ClassOf_j2 x2 x3 = some o1) [0, 3, 4] (fun (x3 : Bool) (_ : Unit) => [(14, .b x3)]) [] (fun x3 _ => []) rfl (ca [8, 9] rfl rfl hG1 (fun hG1 => cl0 rfl (fun _ => n_impl_SizeOf) hG1 fun x4 _ hG1 => jn () [] hG1 rfl rfl) fun hG1 => jn () [] hG1 rfl rfl) fun x3 _ hG1 => cs [14] rfl rfl hG1 (fun hG1 => rt () [] (re hG1 rfl hr1 hF1) rfl rfl Tryz.results143 rfl rfl rfl rfl) fun hG1 => nx () [] hG1 rfl rfl) fun hG1 => bk () [] hG1 hr1 rfl rfl) fun () _ hF => rt () [] hF rfl rfl Tryz.results143 rfl rfl rfl rfl
theorem n_impl_OwnAt {κ : Ctx} {w_ : Int} {c : Int}  {r : Int}  (hF : impl_OwnAt w_ c = some r) : Fn0 Tryz.prog 191 κ [I w_, I c] I r :=
 en 17 Tryz.call191 Tryz.func191 tok rfl rfl rfl <| cut 0 0 (fun (x1 : Bool) => impl_OwnAt_j1 w_ c x1 = some r) [0, 1] (fun (x1 : Bool) (_ : Unit) => [(12, .b x1)]) [] (fun x1 _ => []) rfl (cl0 rfl (fun _ => n_impl_isWorker) hF fun x2 _ hF => ca [7, 8] rfl rfl hF (fun hF => jn () [] hF rfl rfl) fun hF => cl0 rfl (fun _ => n_impl_isClass) hF fun x3 _ hF => jn () [] hF rfl rfl) fun x1 _ hF => cs [12] rfl rfl hF (fun hF => rt () [] hF rfl rfl Tryz.results191 rfl rfl rfl rfl) fun hF => rt () [] hF rfl rfl Tryz.results191 rfl rfl rfl rfl
theorem n_impl_SList_pop {κ : Ctx} {s : SList} {s1 : AC} {b0 : Nat × Nat} {r : Int × SList}  (hF : impl_SList_pop s = some r) : FnS Tryz.prog 192 κ [.p 0 0] [b0] [.box 0 [.h s1 s.Slots.length], ow s1 (s.Slots : List Int)] (fun (r : Int × SList) (y : AC) => I r.1) (fun (r : Int × SList) (y : AC) => [.box 0 [.h y r.2.Slots.length], ow y r.2.Slots]) r :=
 en 31 Tryz.call192 Tryz.func192 tok rfl rfl rfl <| cs [12] rfl rfl hF (fun hF => rt s1 [0, 1] hF rfl rfl Tryz.results192 rfl rfl rfl rfl) fun hF => oe oI 1 rfl rfl rfl hF fun x1 h1 hF _ h2 => ieW 1 h2 h1 rfl rfl rfl rfl rfl <| cqS oI 2 [] h1 () rfl rfl rfl rfl rfl rfl rfl rfl rfl <| cpc 5 rfl rfl fun hc1 => qp_hm hc1 rfl rfl rfl rfl rfl rfl rfl hF fun hF h3 => sR rfl <| pmR 5 ((w64 (((s.Slots.length : Int)) - 1)).toNat) ((w64 (((s.Slots.length : Int)) - 1)).toNat) rfl rfl h3 rfl <| rtR (hT := tok) ⟨(AC.sub s1 1 0).a, (w64 (((s.Slots.length : Int)) - 1)).toNat⟩ [0, 5] hF rfl Tryz.results192 rfl rfl rfl rfl
theorem n_impl_TakeOwn {κ : Ctx} {l : Lists} {w_ : Int} {c : Int} {s1 s2 : AC} {r : Lists × Int} (h1 : RdA κ s1 l.Global) (h2 : RdA κ s2 l.Own) (hF : impl_TakeOwn l w_ c = some r) : FnS Tryz.prog 144 κ [.g [.h s1 l.Global.length, .h s2 l.Own.length], I w_, I c] [] [] (fun r (y : AC × AC) => .t [.g [.h y.1 r.1.Global.length, .h y.2 r.1.Own.length], I r.2]) (fun r y => [ow y.1 r.1.Global, ow y.2 r.1.Own]) r :=
 en 31 Tryz.call144 Tryz.func144 tok rfl rfl rfl <| cl rfl (fun _ _ => rfl) (fun h => n_impl_copyLists (h.a h1) (h.a h2)) hF fun x1 _ hF s3 => cl0 rfl (fun _ => n_impl_OwnAt) hF fun x2 _ hF => cut 0 3 (fun (x3 : Bool) => impl_TakeOwn_j1 x1 x2 x3 = some r) [6, 8, 9] (fun (x3 : Bool) (_ : Unit) => [(22, .b x3)]) [1, 2, 3, 4] (fun x3 _ => []) rfl (cl0 rfl (fun h => n_impl_ListsOk (h.a h1) (h.a h2)) hF fun x6 _ hF => ca [18, 19] rfl rfl hF (fun hF => jn () [1, 2, 3, 4] hF rfl rfl) fun hF => jn () [1, 2, 3, 4] hF rfl rfl) fun x3 _ hF => cs [22] rfl rfl hF (fun hF => rt (s3.1, s3.2) [1, 2] hF rfl rfl Tryz.results144 rfl rfl rfl rfl) fun hF => oe oSList 2 rfl rfl rfl hF fun x4 h3 hF s4 h4 => ieW 3 h4 h3 rfl rfl rfl rfl rfl <| cw1 5 3 0 1 [7] rfl rfl rfl rfl rfl (fun _ _ => rfl) (fun _ => n_impl_SList_pop) hF fun x5 _ hF s5 => sR rfl <| ceR oSList 4 [8] [25] x5.2 s5 rfl rfl rfl rfl rfl rfl rfl rfl <| rhR s3.2 List.length_set.symm [(29, 1)] [(0, 1), (3, 1)] rfl rfl rfl <| fR rfl rfl <| rtR (hT := tok) (s3.1, s3.2) [1, 9] hF rfl Tryz.results144 rfl rfl rfl rfl
theorem n_impl_TakeGlobal {κ : Ctx} {l : Lists} {c : Int} {s1 s2 : AC} {r : Lists × Int} (h1 : RdA κ s1 l.Global) (h2 : RdA κ s2 l.Own) (hF : impl_TakeGlobal l c = some r) : FnS Tryz.prog 145 κ [.g [.h s1 l.Global.length, .h s2 l.Own.length], I c] [] [] (fun r (y : AC × AC) => .t [.g [.h y.1 r.1.Global.length, .h y.2 r.1.Own.length], I r.2]) (fun r y => [ow y.1 r.1.Global, ow y.2 r.1.Own]) r :=
 en 26 Tryz.call145 Tryz.func145 tok rfl rfl rfl <| cl rfl (fun _ _ => rfl) (fun h => n_impl_copyLists (h.a h1) (h.a h2)) hF fun x1 _ hF s3 => cut 0 3 (fun (x2 : Bool) => impl_TakeGlobal_j1 c x1 x2 = some r) [1, 4, 6] (fun (x2 : Bool) (_ : Unit) => [(17, .b x2)]) [1, 2, 3, 4] (fun x2 _ => []) rfl (cl0 rfl (fun h => n_impl_ListsOk (h.a h1) (h.a h2)) hF fun x5 _ hF => ca [12, 13] rfl rfl hF (fun hF => jn () [1, 2, 3, 4] hF rfl rfl) fun hF => cl0 rfl (fun _ => n_impl_isClass) hF fun x6 _ hF => jn () [1, 2, 3, 4] hF rfl rfl) fun x2 _ hF => cs [17] rfl rfl hF (fun hF => rt (s3.1, s3.2) [1, 2] hF rfl rfl Tryz.results145 rfl rfl rfl rfl) fun hF => oe oSList 1 rfl rfl rfl hF fun x3 h3 hF s4 h4 => ieW 3 h4 h3 rfl rfl rfl rfl rfl <| cw1 5 3 0 1 [7] rfl rfl rfl rfl rfl (fun _ _ => rfl) (fun _ => n_impl_SList_pop) hF fun x4 _ hF s5 => sR rfl <| ceR oSList 4 [8] [20] x4.2 s5 rfl rfl rfl rfl rfl rfl rfl rfl <| rhR s3.1 List.length_set.symm [(24, 0)] [(0, 0), (3, 0)] rfl rfl rfl <| fR rfl rfl <| rtR (hT := tok) (s3.1, s3.2) [9, 2] hF rfl Tryz.results145 rfl rfl rfl rfl
theorem n_impl_SlotAt {κ : Ctx} {page : Int} {index : Int}  {r : Int}  (hF : impl_SlotAt page index = some r) : Fn0 Tryz.prog 220 κ [I page, I index] I r :=
 en 17 Tryz.call220 Tryz.func220 tok rfl rfl rfl <| cut 0 0 (fun (x1 : Bool) => impl_SlotAt_j1 page index x1 = some r) [0, 1] (fun (x1 : Bool) (_ : Unit) => [(12, .b x1)]) [] (fun x1 _ => []) rfl (cl0 rfl (fun _ => n_impl_within) hF fun x2 _ hF => ca [7, 8] rfl rfl hF (fun hF => jn () [] hF rfl rfl) fun hF => cl0 rfl (fun _ => n_impl_within) hF fun x3 _ hF => jn () [] hF rfl rfl) fun x1 _ hF => cs [12] rfl rfl hF (fun hF => rt () [] hF rfl rfl Tryz.results220 rfl rfl rfl rfl) fun hF => rt () [] hF rfl rfl Tryz.results220 rfl rfl rfl rfl
theorem n_impl_putNum {κ : Ctx} {b : List Int} {at_ : Int} {text : List UInt8} {s1 : AC} {r : (List Int)} (hF : impl_putNum b at_ text = some r) : FnS Tryz.prog 221 κ [.h s1 b.length, I at_, .s text] [] [ow s1 b] (fun (r : (List Int)) (_ : Unit) => .t []) (fun (r : (List Int)) (_ : Unit) => [.o (cOwn [AC.v s1 b.length] r)]) r :=
 oldW Tryz.call221 fun hS vs hv => by cases hv; exact Calls.mono (c_impl_putNum hS hF) fun _ _ ⟨v, h1, h2, h3⟩ => ⟨v, h1, by rw [h2]; rfl, h3⟩
theorem n_impl_isWidth {κ : Ctx} {width : Int}  {r : Bool}  (hF : impl_isWidth width = some r) : Fn0 Tryz.prog 227 κ [I width] .b r :=
 en 5 Tryz.call227 Tryz.func227 tok rfl rfl rfl <| cl0 rfl (fun _ => n_impl_within) hF fun x1 _ hF => rt () [] hF rfl rfl Tryz.results227 rfl rfl rfl rfl
theorem n_impl_Fixed {κ : Ctx} {n : Int} {width : Int}  {r : (List UInt8)}  (hF : impl_Fixed n width = some r) : Fn0 Tryz.prog 222 κ [I n, I width] .s r :=
 en 39 Tryz.call222 Tryz.func222 tok rfl rfl rfl <| cut 0 0 (fun (x1 : Bool) => impl_Fixed_j1 n width x1 = some r) [0, 1] (fun (x1 : Bool) (_ : Unit) => [(21, .b x1)]) [] (fun x1 _ => []) rfl (cl0 rfl (fun _ => n_impl_isWidth) hF fun x10 _ hF => ca [9, 10] rfl rfl hF (fun hF => jn () [] hF rfl rfl) fun hF => ca [12, 13, 14] rfl rfl hF (fun hF => jn () [] hF rfl rfl) fun hF => qshl rfl rfl rfl rfl hF fun hF => jn () [] hF rfl rfl) fun x1 _ hF => cs [21] rfl rfl hF (fun hF => rt () [] hF rfl rfl Tryz.results222 rfl rfl rfl rfl) fun hF => mks (0 : UInt8) inf_Tryz5 (fun w => own0 rfl w) rfl rfl rfl rfl rfl rfl rfl hF fun hF s1 => lp s1 [] (fun (p : Int × (List UInt8) × Int) (s3 : AC) => [(0, I p.1), (5, .h s3 p.2.1.length), (6, I p.2.2)]) [0] [] (fun p s3 => [ow s3 (p.2.1 : List UInt8)]) id [] (fun (x8 : (List UInt8)) (s4 : AC) => [(5, .h s4 x8.length)]) [] (fun x8 s4 => [ow s4 (x8 : List UInt8)]) rfl hF rfl (fun o_ hF2 ⟨x5, x6, x7⟩ s3 o2 hG2 hr2 => cs [27] rfl rfl hG2 (fun hG2 => oe oU 0 rfl rfl rfl hG2 fun x9 h1 hG2 _ h2 => ieW 0 h2 h1 rfl rfl rfl rfl rfl <| sF rfl <| ceR oU 1 [] [5, 30] (u8 x5) () rfl rfl rfl rfl rfl rfl rfl rfl <| nxR s3 [4] hG2 rfl) fun hG2 => bk s3 [0] hG2 hr2 rfl rfl) fun x8 s4 hF => qbo 0 rfl rfl rfl rfl rfl rfl rfl <| rt () [] hF rfl rfl Tryz.results222 rfl rfl rfl rfl
theorem n_impl_Grant {κ : Ctx} {h : Heap} {c : Int} {s1 s2 : AC} {r : Heap × (List Int)} (h1 : RdA κ s1 h.Bytes) (h2 : RdA κ s2 h.Class) (hF : impl_Grant h c = some r) : FnS Tryz.prog 194 κ [.g [.h s1 h.Bytes.length, .h s2 h.Class.length], I c] [] [] (fun r (y : AC × AC × AC) => .t [.g [.h y.1 r.1.Bytes.length, .h y.2.1 r.1.Class.length], .h y.2.2 r.2.length]) (fun r y => [ow y.1 r.1.Bytes, ow y.2.1 r.1.Class, ow y.2.2 r.2]) r :=
 en 68 Tryz.call194 Tryz.func194 tok rfl rfl rfl <| cl rfl (fun _ _ => rfl) (fun h => n_impl_copyHeap (h.a h1) (h.a h2)) hF fun x1 _ hF s3 => lt0 (α := Int) inf_Tryz3 rfl rfl rfl rfl fun s4 => cl0 rfl (fun h => n_slices_Index_int (h.a h2)) hF fun x2 _ hF => cut 0 3 (fun (x3 : Bool) => impl_Grant_j1 c x1 x2 x3 = some r) [1, 4, 6, 7, 8] (fun (x3 : Bool) (_ : Unit) => [(28, .b x3)]) [4, 1, 2, 3, 5] (fun x3 _ => []) rfl (cl0 rfl (fun h => n_impl_HeapOk (h.a h1) (h.a h2)) hF fun x21 _ hF => ca [19, 20] rfl rfl hF (fun hF => jn () [4, 1, 2, 3, 5] hF rfl rfl) fun hF => cl0 rfl (fun _ => n_impl_isClass) hF fun x22 _ hF => ca [23, 24, 25] rfl rfl hF (fun hF => jn () [4, 1, 2, 3, 5] hF rfl rfl) fun hF => jn () [4, 1, 2, 3, 5] hF rfl rfl) fun x3 _ hF => cs [28] rfl rfl hF (fun hF => rt (s3.1, s3.2, s4) [2, 3, 0] hF rfl rfl Tryz.results194 rfl rfl rfl rfl) fun hF => oe oI 3 rfl rfl rfl hF fun x4 h3 hF _ h4 => ieW 3 h4 h3 rfl rfl rfl rfl rfl <| cut 0 4 (fun (x5 : (List Int)) => impl_Grant_j2 c x1 x2 x5 = some r) [1, 4, 6, 7, 8] (fun (x5 : (List Int)) (_ : Unit) => []) [0, 1] (fun x5 _ => [ow s3.1 (x5 : List Int), ow s3.2 (x1.Class.set x2.toNat c : List Int), .box 2 [.h s3.1 x5.length, .h s3.2 (x1.Class.set x2.toNat c).length]]) rfl (dr [1, 7] rfl mixed_Tryz (by kernel_rfl) fun _ => nd hF fun hA4 hF => bd hF fun x20 hA5 hF => alt2 rfl rfl (cpc 2 rfl rfl fun hc2 => have hq9 := rn hA4; qp_l hc2 rfl rfl rfl rfl rfl rfl hq9 fun hq9 h6 => have hq10 := rb hA5; cl0 rfl (fun _ => n_impl_PerPage) hq10 fun u9 _ hq10 => match u9, hq10 with | _, rfl => ltK oI () ([171, c, x20] : List Int) inf_Tryz3 rfl rfl rfl rfl rfl rfl rfl rfl rfl rfl (fun _ => rfl) fun s14 => cpy 2 ((w64 (x2 * 64)).toNat) h6 (fun h => (h.o 8 rfl)) rfl rfl rfl rfl rfl rfl rfl rfl <| rr s3.1 (blitL_len h6.1).symm [37] [] [(4, 0)] rfl rfl rfl rfl <| sF rfl <| ceR oI 5 [] [32] c () rfl rfl rfl rfl rfl rfl rfl rfl <| rhR s3.2 List.length_set.symm [] [(4, 1)] rfl rfl rfl <| fR rfl rfl <| jnR (p := (blitL x1.Bytes ((w64 (x2 * 64)).toNat) (([171, c, x20] : List Int)))) () [2, 9, 4, 0, 1] hF rfl) (have hq11 := rb hA5; cl0 rfl (fun _ => n_impl_PerPage) hq11 fun u10 _ hq11 => match u10, hq11 with | _, rfl => alt2 rfl rfl (cpc 2 rfl rfl fun hc3 => have hq12 := rn hA4; qp_l hc3 rfl rfl rfl rfl rfl rfl hq12 fun hq12 h7 => ltK oI () ([171, c, x20] : List Int) inf_Tryz3 rfl rfl rfl rfl rfl rfl rfl rfl rfl rfl (fun _ => rfl) fun s15 => cpy 2 ((w64 (x2 * 64)).toNat) h7 (fun h => (h.o 8 rfl)) rfl rfl rfl rfl rfl rfl rfl rfl <| rr s3.1 (blitL_len h7.1).symm [37] [] [(4, 0)] rfl rfl rfl rfl <| sF rfl <| ceR oI 5 [] [32] c () rfl rfl rfl rfl rfl rfl rfl rfl <| rhR s3.2 List.length_set.symm [] [(4, 1)] rfl rfl rfl <| fR rfl rfl <| jnR (p := (blitL x1.Bytes ((w64 (x2 * 64)).toNat) (([171, c, x20] : List Int)))) () [2, 9, 4, 0, 1] hF rfl) (ltK oI () ([171, c, x20] : List Int) inf_Tryz3 rfl rfl rfl rfl rfl rfl rfl rfl rfl rfl (fun _ => rfl) fun s16 => cpc 2 rfl rfl fun hc4 => have hq13 := rn hA4; qp_l hc4 rfl rfl rfl rfl rfl rfl hq13 fun hq13 h8 => cpy 2 ((w64 (x2 * 64)).toNat) h8 (fun h => (h.o 8 rfl)) rfl rfl rfl rfl rfl rfl rfl rfl <| rr s3.1 (blitL_len h8.1).symm [37] [] [(4, 0)] rfl rfl rfl rfl <| sF rfl <| ceR oI 5 [] [32] c () rfl rfl rfl rfl rfl rfl rfl rfl <| rhR s3.2 List.length_set.symm [] [(4, 1)] rfl rfl rfl <| fR rfl rfl <| jnR (p := (blitL x1.Bytes ((w64 (x2 * 64)).toNat) (([171, c, x20] : List Int)))) () [2, 9, 4, 0, 1] hF rfl))) fun x5 _ hF => cl0 rfl (fun _ => n_impl_PerPage) hF fun x6 _ hF => lp (s4, s3.1) [1, 4, 6, 8, 47] (fun (p : (List Int) × Int × (List Int)) (u : AC × AC) => [(7, .h u.1 p.1.length), (48, I p.2.1)]) [3, 0, 2, 4, 1] [4, 1] (fun p u => [ow u.1 (p.1 : List Int), ow u.2 (p.2.2 : List Int), .box 2 [.h u.2 p.2.2.length, .h s3.2 (x1.Class.set x2.toNat c).length]]) id [4, 6] (fun (p : (List Int) × (List Int)) (u : AC × AC) => [(7, .h u.1 p.1.length)]) [4, 1] (fun p u => [ow u.1 (p.1 : List Int), ow u.2 (p.2 : List Int), .box 2 [.h u.2 p.2.length, .h s3.2 (x1.Class.set x2.toNat c).length]]) rfl hF rfl (fun o_ hF3 ⟨x10, x11, x12⟩ ⟨s7, s8⟩ o3 hG3 hr3 => cs [49] rfl rfl hG3 (fun hG3 => cl0 rfl (fun _ => n_impl_SlotAt) hG3 fun x15 _ hG3 => cut 0 4 (fun (x16 : (List Int)) => impl_Grant_j4 x10 x11 x15 x16 = some o3) [1, 4, 6, 7, 8, 10, 47, 48] (fun (x16 : (List Int)) (_ : Unit) => []) [0, 3, 4] (fun x16 _ => [ow s8 (x16 : List Int), .box 2 [.h s8 x16.length, .h s3.2 (x1.Class.set x2.toNat c).length]]) rfl (dr [3] rfl mixed_Tryz (by kernel_rfl) fun _ => bd hG3 fun x17 hA1 hG3 => bd hG3 fun x18 hA2 hG3 => bd hG3 fun x19 hA3 hG3 => alt2 rfl rfl (have hq1 := rb hA1; cl0 rfl (fun _ => n_impl_GenAt) hq1 fun u1 _ hq1 => match u1, hq1 with | _, rfl => have hq2 := rb hA2; cl0 rfl (fun _ => n_impl_Fixed) hq2 fun u2 _ hq2 => match u2, hq2 with | _, rfl => have hq3 := rb hA3; cw0  [1] rfl rfl rfl rfl (fun _ _ => rfl) (fun _ => n_impl_putNum) hq3 fun u3 _ hq3 _ => un 5 [55] [] [(2, 0)] rfl rfl rfl rfl rfl rfl fun hl3 => match u3, hq3 with | _, rfl => jn (p := (x19)) () [5, 2, 0, 3, 4] hG3 rfl rfl) (have hq4 := rb hA1; cl0 rfl (fun _ => n_impl_GenAt) hq4 fun u4 _ hq4 => match u4, hq4 with | _, rfl => alt2 rfl rfl (have hq5 := rb hA2; cl0 rfl (fun _ => n_impl_Fixed) hq5 fun u5 _ hq5 => match u5, hq5 with | _, rfl => have hq6 := rb hA3; cw0  [1] rfl rfl rfl rfl (fun _ _ => rfl) (fun _ => n_impl_putNum) hq6 fun u6 _ hq6 _ => un 5 [55] [] [(2, 0)] rfl rfl rfl rfl rfl rfl fun hl4 => match u6, hq6 with | _, rfl => jn (p := (x19)) () [5, 2, 0, 3, 4] hG3 rfl rfl) (have hq7 := rb hA2; cl0 rfl (fun _ => n_impl_Fixed) hq7 fun u7 _ hq7 => match u7, hq7 with | _, rfl => have hq8 := rb hA3; cw0  [1] rfl rfl rfl rfl (fun _ _ => rfl) (fun _ => n_impl_putNum) hq8 fun u8 _ hq8 _ => un 5 [55] [] [(2, 0)] rfl rfl rfl rfl rfl rfl fun hl5 => match u8, hq8 with | _, rfl => jn (p := (x19)) () [5, 2, 0, 3, 4] hG3 rfl rfl))) fun x16 _ hG3 => lt1 rfl inf_Tryz3 rfl rfl rfl rfl fun s11 => ap 2 inf_Tryz3 rfl rfl rfl rfl rfl rfl rfl (fun h => (h.o 5 rfl)) rfl rfl hG3 fun hG3 s12 => nx (s12, s8) [2, 0, 1, 3, 4] hG3 rfl rfl) fun hG3 => bk (s7, s8) [0, 1, 2, 3, 4] hG3 hr3 rfl rfl) fun ⟨x13, x14⟩ ⟨s9, s10⟩ hF => rt (s10, s3.2, s9) [1, 4, 0] hF rfl rfl Tryz.results194 rfl rfl rfl rfl
theorem n_impl_granted {κ : Ctx} {m : Mem} {c : Int} {s1 s2 s3 s4 : AC} {r : Mem × Int} (h1 : RdA κ s1 m.Heap.Bytes) (h2 : RdA κ s2 m.Heap.Class) (h3 : RdA κ s3 m.Lists.Global) (h4 : RdA κ s4 m.Lists.Own) (hF : impl_granted m c = some r) : FnS Tryz.prog 146 κ [.g [.h s1 m.Heap.Bytes.length, .h s2 m.Heap.Class.length, .h s3 m.Lists.Global.length, .h s4 m.Lists.Own.length], I c] [] [] (fun r (y : AC × AC × AC × AC) => .t [.g [.h y.1 r.1.Heap.Bytes.length, .h y.2.1 r.1.Heap.Class.length, .h y.2.2.1 r.1.Lists.Global.length, .h y.2.2.2 r.1.Lists.Own.length], I r.2]) (fun r y => [ow y.1 r.1.Heap.Bytes, ow y.2.1 r.1.Heap.Class, ow y.2.2.1 r.1.Lists.Global, ow y.2.2.2 r.1.Lists.Own]) r :=
 en 45 Tryz.call146 Tryz.func146 tok rfl rfl rfl <| cl rfl (fun _ _ => rfl) (fun h => n_impl_Grant (h.a h1) (h.a h2)) hF fun x1 _ hF s5 => cut 0 4 (fun (p : (List SList) × (List SList)) => impl_granted_j1 c x1 p.1 p.2 = some r) [1, 4, 7] (fun (p : (List SList) × (List SList)) (u : AC × AC) => [(8, .p 3 0)]) [4, 1, 2, 3] (fun p u => [ow u.1 (p.1 : List SList), ow u.2 (p.2 : List SList), .box 3 [.h s5.1 x1.1.Bytes.length, .h s5.2.1 x1.1.Class.length, .h u.1 p.1.length, .h u.2 p.2.length]]) rfl (dr [0, 1, 5] rfl mixed_Tryz (by kernel_rfl) fun _ => bd hF fun x7 hA1 hF => alt2 rfl rfl (have hq1 := rb hA1; cl rfl (fun _ _ => rfl) (fun h => n_impl_copyLists (h.a h3) (h.a h4)) hq1 fun u1 _ hq1 s11 => match u1, hq1 with | _, rfl => jn (p := (x7.Global, x7.Own)) (s11.1, s11.2) [6, 7, 8, 4, 1, 2, 3] hF rfl rfl) (have hq2 := rb hA1; cl rfl (fun _ _ => rfl) (fun h => n_impl_copyLists (h.a h3) (h.a h4)) hq2 fun u2 _ hq2 s12 => match u2, hq2 with | _, rfl => jn (p := (x7.Global, x7.Own)) (s12.1, s12.2) [7, 8, 6, 4, 1, 2, 3] hF rfl rfl)) fun ⟨x2, x3⟩ ⟨s6, s7⟩ hF => cs [23] rfl rfl hF (fun hF => rt (s5.1, s5.2.1, s6, s7) [5, 6, 0, 1] hF rfl rfl Tryz.results146 rfl rfl rfl rfl) fun hF => dr [2, 4] rfl mixed_Tryz (by kernel_rfl) fun _ => oe oSList 0 rfl rfl rfl hF fun x4 h5 hF s8 h6 => ieW 4 h6 h5 rfl rfl rfl rfl rfl <| cpc 3 rfl rfl fun hc1 => qp_l hc1 rfl rfl rfl rfl rfl rfl hF fun hF h7 => ap 10 inf_Tryz3 rfl rfl rfl rfl rfl rfl rfl (fun h => ((h.o 3 rfl).sub (sub_v h7.1 h7.2) h7)) rfl rfl hF fun hF s9 => ieW 4 h6 h5 rfl rfl rfl rfl rfl <| cut 0 5 (fun (x5 : Int) => impl_granted_j2 c x1 x2 x3 x4 x5 = some r) [4] (fun (x5 : Int) (_ : Unit) => [(5, I x5)]) [5, 6, 1] (fun x5 _ => [ow s6 (x2.set c.toNat ((⟨x4.Slots ++ ((x1.2.take x1.2.length).drop ((1 : Int).toNat))⟩ : SList)) : List SList), .box 1 [.h s5.1 x1.1.Bytes.length, .h s5.2.1 x1.1.Class.length, .h s6 (x2.set c.toNat ((⟨x4.Slots ++ ((x1.2.take x1.2.length).drop ((1 : Int).toNat))⟩ : SList))).length, .h s7 x3.length]]) rfl (dr [2, 9] rfl mixed_Tryz (by kernel_rfl) fun _ => oe oI 3 rfl rfl rfl hF fun x6 h8 hF _ h9 => ieW 5 h9 h8 rfl rfl rfl rfl rfl <| alt2 rfl rfl (sF rfl <| cqR oI 11 [] h8 () rfl rfl rfl rfl rfl rfl rfl <| ceR oSList 7 [10] [27, 31] ((⟨x4.Slots ++ ((x1.2.take x1.2.length).drop ((1 : Int).toNat))⟩ : SList)) s9 rfl rfl rfl rfl rfl rfl rfl rfl <| rhR s6 List.length_set.symm [(41, 2)] [(2, 2), (4, 2)] rfl rfl rfl <| fR rfl rfl <| jnR (p := (x6)) () [15, 4, 5, 6, 1] hF rfl) (sF rfl <| cqR oI 11 [] h8 () rfl rfl rfl rfl rfl rfl rfl <| ceR oSList 7 [10] [27, 31] ((⟨x4.Slots ++ ((x1.2.take x1.2.length).drop ((1 : Int).toNat))⟩ : SList)) s9 rfl rfl rfl rfl rfl rfl rfl rfl <| rhR s6 List.length_set.symm [(41, 2)] [(2, 2), (4, 2)] rfl rfl rfl <| fR rfl rfl <| jnR (p := (x6)) () [15, 4, 5, 6, 1] hF rfl)) fun x5 _ hF => rt (s5.1, s5.2.1, s6, s7) [2, 3, 0, 4] hF rfl rfl Tryz.results146 rfl rfl rfl rfl
theorem n_impl_HandleOf {κ : Ctx} {slot : Int} {gen : Int}  {r : Int}  (hF : impl_HandleOf slot gen = some r) : Fn0 Tryz.prog 195 κ [I slot, I gen] I r :=
 en 17 Tryz.call195 Tryz.func195 tok rfl rfl rfl <| cut 0 0 (fun (x1 : Bool) => impl_HandleOf_j1 slot gen x1 = some r) [0, 1] (fun (x1 : Bool) (_ : Unit) => [(12, .b x1)]) [] (fun x1 _ => []) rfl (cl0 rfl (fun _ => n_impl_isSlot) hF fun x2 _ hF => ca [7, 8] rfl rfl hF (fun hF => jn () [] hF rfl rfl) fun hF => cl0 rfl (fun _ => n_impl_within) hF fun x3 _ hF => jn () [] hF rfl rfl) fun x1 _ hF => cs [12] rfl rfl hF (fun hF => rt () [] hF rfl rfl Tryz.results195 rfl rfl rfl rfl) fun hF => rt () [] hF rfl rfl Tryz.results195 rfl rfl rfl rfl
theorem n_impl_handleIn {κ : Ctx} {m : Mem} {slot : Int} {s1 s2 s3 s4 : AC} {r : Int} (h1 : RdA κ s1 m.Heap.Bytes) (h2 : RdA κ s2 m.Heap.Class) (h3 : RdA κ s3 m.Lists.Global) (h4 : RdA κ s4 m.Lists.Own) (hF : impl_handleIn m slot = some r) : Fn0 Tryz.prog 147 κ [.g [.h s1 m.Heap.Bytes.length, .h s2 m.Heap.Class.length, .h s3 m.Lists.Global.length, .h s4 m.Lists.Own.length], I slot] I r :=
 en 11 Tryz.call147 Tryz.func147 tok rfl rfl rfl <| cl0 rfl (fun h => n_impl_GenIn (h.a h1) (h.a h2)) hF fun x1 _ hF => cl0 rfl (fun _ => n_impl_HandleOf) hF fun x2 _ hF => rt () [] hF rfl rfl Tryz.results147 rfl rfl rfl rfl
theorem n_impl_Sub_allocStep {κ : Ctx} {s : Sub} {b : Base} {w_ : Int} {s1 s2 s3 s4 s5 s6 s7 : AC} {b0 b1 : Nat × Nat} {r : Sub × Base}  (hF : impl_Sub_allocStep s b w_ = some r) : FnS Tryz.prog 79 κ [.p 0 0, .p 1 0, I w_] [b0, b1] [.box 0 [I s.Kind, I s.A, I s.Pc, I s.E, I s.Row, I s.B, I s.H, I s.Out, I s.Code, .b s.Done], .box 1 [.h s1 b.Mem.Heap.Bytes.length, .h s2 b.Mem.Heap.Class.length, .h s3 b.Mem.Lists.Global.length, .h s4 b.Mem.Lists.Own.length, I b.Clock.Epoch, .h s5 b.Clock.Pins.length, .h s6 b.Limbo.length, .h s7 b.Haz.length], ow s1 (b.Mem.Heap.Bytes : List Int), ow s2 (b.Mem.Heap.Class : List Int), ow s3 (b.Mem.Lists.Global : List SList), ow s4 (b.Mem.Lists.Own : List SList), ow s5 (b.Clock.Pins : List Pin), ow s6 (b.Limbo : List LList), ow s7 (b.Haz : List Int)] (fun (r : Sub × Base) (y : AC × AC × AC × AC) => .t []) (fun (r : Sub × Base) (y : AC × AC × AC × AC) => [.box 0 [I r.1.Kind, I r.1.A, I r.1.Pc, I r.1.E, I r.1.Row, I r.1.B, I r.1.H, I r.1.Out, I r.1.Code, .b r.1.Done], .box 1 [.h y.1 r.2.Mem.Heap.Bytes.length, .h y.2.1 r.2.Mem.Heap.Class.length, .h y.2.2.1 r.2.Mem.Lists.Global.length, .h y.2.2.2 r.2.Mem.Lists.Own.length, I r.2.Clock.Epoch, .h s5 r.2.Clock.Pins.length, .h s6 r.2.Limbo.length, .h s7 r.2.Haz.length], ow y.1 r.2.Mem.Heap.Bytes, ow y.2.1 r.2.Mem.Heap.Class, ow y.2.2.1 r.2.Mem.Lists.Global, ow y.2.2.2 r.2.Mem.Lists.Own, ow s5 r.2.Clock.Pins, ow s6 r.2.Limbo, ow s7 r.2.Haz]) r :=
 en 100 Tryz.call79 Tryz.func79 tok rfl rfl rfl <| cl0 rfl (fun _ => n_impl_ClassOf) hF fun x1 _ hF => cs [14] rfl rfl hF (fun hF => cw1 0 0 0 10 [] rfl rfl rfl rfl rfl (fun _ _ => rfl) (fun _ => n_impl_Sub_finish) hF fun x2 _ hF _ => rt (s1, s2, s3, s4) [0, 1, 2, 3, 4, 5, 6, 7, 8] hF rfl rfl Tryz.results79 rfl rfl rfl rfl) fun hF => cut 1 2 (fun (p : Int × (List Int) × (List Int) × (List SList) × (List SList)) => impl_Sub_allocStep_j1 s b p.1 p.2.1 p.2.2.1 p.2.2.2.1 p.2.2.2.2 = some r) [0, 1] (fun (p : Int × (List Int) × (List Int) × (List SList) × (List SList)) (u : AC × AC × AC × AC) => [(7, I p.1)]) [0, 6, 7, 8] (fun p u => [ow u.1 (p.2.1 : List Int), ow u.2.1 (p.2.2.1 : List Int), ow u.2.2.1 (p.2.2.2.1 : List SList), ow u.2.2.2 (p.2.2.2.2 : List SList), .box 1 [.h u.1 p.2.1.length, .h u.2.1 p.2.2.1.length, .h u.2.2.1 p.2.2.2.1.length, .h u.2.2.2 p.2.2.2.2.length, I b.Clock.Epoch, .h s5 b.Clock.Pins.length, .h s6 b.Limbo.length, .h s7 b.Haz.length]]) rfl (cs [23, 24] rfl rfl hF (fun hF => cl rfl (fun _ _ => rfl) (fun h => n_impl_TakeOwn (h.o 4 rfl) (h.o 5 rfl)) hF fun x11 _ hF s12 => jn (p := (x11.2, b.Mem.Heap.Bytes, b.Mem.Heap.Class, x11.1.Global, x11.1.Own)) (s1, s2, s12.1, s12.2) [2, 3, 9, 10, 1, 0, 6, 7, 8] hF rfl rfl) fun hF => cut 0 2 (fun (x12 : Bool) => impl_Sub_allocStep_j2 s b x1 x12 = some r) [0, 1, 6, 20] (fun (x12 : Bool) (_ : Unit) => [(40, .b x12)]) [0, 2, 3, 4, 5, 6, 7, 8, 1] (fun x12 _ => []) rfl (cs [40, 41] rfl rfl hF (fun hF => jn () [0, 2, 3, 4, 5, 6, 7, 8, 1] hF rfl rfl) fun hF => jn () [0, 2, 3, 4, 5, 6, 7, 8, 1] hF rfl rfl) fun x12 _ hF => cs [40] rfl rfl hF (fun hF => cl rfl (fun _ _ => rfl) (fun h => n_impl_TakeGlobal (h.o 3 rfl) (h.o 4 rfl)) hF fun x13 _ hF s13 => jn (p := (x13.2, b.Mem.Heap.Bytes, b.Mem.Heap.Class, x13.1.Global, x13.1.Own)) (s1, s2, s13.1, s13.2) [1, 2, 9, 10, 8, 0, 5, 6, 7] hF rfl rfl) fun hF => cs [57, 58] rfl rfl hF (fun hF => cl rfl (fun _ _ => rfl) (fun h => n_impl_granted (h.o 1 rfl) (h.o 2 rfl) (h.o 3 rfl) (h.o 4 rfl)) hF fun x14 _ hF s14 => jn (p := (x14.2, x14.1.Heap.Bytes, x14.1.Heap.Class, x14.1.Lists.Global, x14.1.Lists.Own)) (s14.1, s14.2.1, s14.2.2.1, s14.2.2.2) [9, 10, 11, 12, 8, 0, 5, 6, 7] hF rfl rfl) fun hF => cw1 0 0 0 10 [] rfl rfl rfl rfl rfl (fun _ _ => rfl) (fun _ => n_impl_Sub_finish) hF fun x15 _ hF _ => rt (s1, s2, s3, s4) [0, 8, 1, 2, 3, 4, 5, 6, 7] hF rfl rfl Tryz.results79 rfl rfl rfl rfl) fun ⟨x3, x4, x5, x6, x7⟩ ⟨s8, s9, s10, s11⟩ hF => cs [78, 80] rfl rfl hF (fun hF => cl0 rfl (fun h => n_impl_handleIn (m := (⟨(⟨x4, x5⟩ : Heap), (⟨x6, x7⟩ : Lists)⟩ : Mem)) (h.o 0 rfl) (h.o 1 rfl) (h.o 2 rfl) (h.o 3 rfl)) hF fun x8 _ hF => cw1 5 0 0 10 [] rfl rfl rfl rfl rfl (fun _ _ => rfl) (fun _ => n_impl_Sub_finish (s := (⟨s.Kind, s.A, s.Pc, s.E, s.Row, s.B, s.H, x8, s.Code, s.Done⟩ : Sub))) hF fun x9 _ hF _ => rf (s8, s9, s10, s11) [5, 4, 0, 1, 2, 3, 6, 7, 8] hF rfl rfl Tryz.results79 rfl rfl rfl rfl) fun hF => cs [92, 97] rfl rfl hF (fun hF => cw1 5 0 0 10 [] rfl rfl rfl rfl rfl (fun _ _ => rfl) (fun _ => n_impl_Sub_finish) hF fun x10 _ hF _ => rf (s8, s9, s10, s11) [5, 4, 0, 1, 2, 3, 6, 7, 8] hF rfl rfl Tryz.results79 rfl rfl rfl rfl) fun hF => rf (s8, s9, s10, s11) [5, 4, 0, 1, 2, 3, 6, 7, 8] hF rfl rfl Tryz.results79 rfl rfl rfl rfl
theorem n_impl_InLimbo_1_1 {κ : Ctx} {r_ : LRow} {k0 : Int} {b0 : Nat × Nat} {r : Bool}  (hF : impl_InLimbo_1_1 r_ k0 = some r) : FnS Tryz.prog 197 κ [.g [I r_.Handle, I r_.Epoch], .p 0 0] [b0] [.ro 0 [I k0]] (fun r (_ : Unit) => .b r) (fun _ _ => []) r :=
 en 14 Tryz.call197 Tryz.func197 tok rfl rfl rfl <| cut 0 2 (fun (x1 : Bool) => impl_InLimbo_1_1_j1 x1 = some r) [] (fun (x1 : Bool) (_ : Unit) => [(3, .b x1)]) [] (fun x1 _ => []) rfl (cl0 rfl (fun _ => n_impl_HandleOk) hF fun x2 _ hF => ca [6, 7] rfl rfl hF (fun hF => jn () [] hF rfl rfl) fun hF => jn () [] hF rfl rfl) fun x1 _ hF => rt () [] hF rfl rfl Tryz.results197 rfl rfl rfl rfl
theorem n_impl_InLimbo_1 {κ : Ctx} {own : LList} {k0 : Int} {s1 : AC} {b0 : Nat × Nat} {r : Bool} (h1 : RdA κ s1 own.Rows) (hF : impl_InLimbo_1 own k0 = some r) : FnS Tryz.prog 196 κ [.g [.h s1 own.Rows.length], .p 0 0] [b0] [.ro 0 [I k0]] (fun r (_ : Unit) => .b r) (fun _ _ => []) r :=
 en 8 Tryz.call196 Tryz.func196 tok rfl rfl rfl <| mf [0] rfl rfl rfl <| clc1 [0] rfl rfl rfl rfl (fun h => fun hB => n_slices_ContainsFunc_LRow (h.a h1) (fk1 (cs := [(0, [I k0])]) Tryz.call197 hB rfl (fun _ => rfl) fun _ _ => n_impl_InLimbo_1_1)) hF fun x1 _ hF => rt () [] hF rfl rfl Tryz.results196 rfl rfl rfl rfl
theorem n_impl_InLimbo {κ : Ctx} {l : List LList} {slot : Int} {s1 : AC} {r : Bool} (h1 : RdA κ s1 l) (hF : impl_InLimbo l slot = some r) : Fn0 Tryz.prog 148 κ [.h s1 l.length, I slot] .b r :=
 en 8 Tryz.call148 Tryz.func148 tok rfl rfl rfl <| mf [0] rfl rfl rfl <| clc1 [0] rfl rfl rfl rfl (fun h => fun hB => n_slices_ContainsFunc_LList (h.a h1) (fk1 (cs := [(0, [I slot])]) Tryz.call196 hB rfl (fun _ => rfl) fun _ hy => n_impl_InLimbo_1 hy)) hF fun x1 _ hF => rt () [] hF rfl rfl Tryz.results148 rfl rfl rfl rfl
theorem n_impl_RetireTo {κ : Ctx} {l : List LList} {w_ : Int} {h : Int} {e_ : Int} {s1 : AC} {r : (List LList) × Bool} (h1 : RdA κ s1 l) (hF : impl_RetireTo l w_ h e_ = some r) : FnS Tryz.prog 149 κ [.h s1 l.length, I w_, I h, I e_] [] [] (fun r (y : AC) => .t [.h y r.1.length, .b r.2]) (fun r y => [ow y r.1]) r :=
 en 43 Tryz.call149 Tryz.func149 tok rfl rfl rfl <| cut 0 0 (fun (x1 : Bool) => impl_RetireTo_j1 l w_ h e_ x1 = some r) [0, 1, 2, 3] (fun (x1 : Bool) (_ : Unit) => [(18, .b x1)]) [] (fun x1 _ => []) rfl (cl0 rfl (fun h => n_impl_LimboOk (h.a h1)) hF fun x7 _ hF => ca [13, 14] rfl rfl hF (fun hF => jn () [] hF rfl rfl) fun hF => cl0 rfl (fun _ => n_impl_isWorker) hF fun x8 _ hF => jn () [] hF rfl rfl) fun x1 _ hF => cs [18] rfl rfl hF (fun hF => cl rfl (fun _ _ => rfl) (fun h => n_impl_copyLimbo (h.a h1)) hF fun x2 _ hF s2 => rt s2 [0] hF rfl rfl Tryz.results149 rfl rfl rfl rfl) fun hF => cl rfl (fun _ _ => rfl) (fun h => n_impl_copyLimbo (h.a h1)) hF fun x3 _ hF s3 => oe oLList 0 rfl rfl rfl hF fun x4 h2 hF s4 h3 => ieW 0 h3 h2 rfl rfl rfl rfl rfl <| ltN oLRow [] ((⟨h, e_⟩ : LRow)) () inf_Tryz99 rfl rfl rfl rfl rfl rfl rfl rfl rfl rfl rfl rfl rfl fun s5 => ap 4 inf_Tryz99 rfl rfl rfl rfl rfl rfl rfl (fun h => (h.o 5 rfl)) rfl rfl hF fun hF s6 => ieW 0 h3 h2 rfl rfl rfl rfl rfl <| ceS oLList 1 [4] [10, 22, 23, 25, 37] ((⟨x4.Rows ++ ([(⟨h, e_⟩ : LRow)])⟩ : LList)) s6 rfl rfl rfl rfl rfl rfl rfl rfl rfl rfl <| cl0 rfl (fun h => n_impl_LimboOk (h.o 6 rfl)) hF fun x5 _ hF => cs [39] rfl rfl hF (fun hF => cl rfl (fun _ _ => rfl) (fun h => n_impl_copyLimbo (h.a h1)) hF fun x6 _ hF s7 => rt s7 [7] hF rfl rfl Tryz.results149 rfl rfl rfl rfl) fun hF => rt s3 [6] hF rfl rfl Tryz.results149 rfl rfl rfl rfl
theorem n_impl_Sub_retireStep {κ : Ctx} {s : Sub} {b : Base} {w_ : Int} {s1 s2 s3 s4 s5 s6 s7 : AC} {b0 b1 : Nat × Nat} {r : Sub × Base}  (hF : impl_Sub_retireStep s b w_ = some r) : FnS Tryz.prog 80 κ [.p 0 0, .p 1 0, I w_] [b0, b1] [.box 0 [I s.Kind, I s.A, I s.Pc, I s.E, I s.Row, I s.B, I s.H, I s.Out, I s.Code, .b s.Done], .box 1 [.h s1 b.Mem.Heap.Bytes.length, .h s2 b.Mem.Heap.Class.length, .h s3 b.Mem.Lists.Global.length, .h s4 b.Mem.Lists.Own.length, I b.Clock.Epoch, .h s5 b.Clock.Pins.length, .h s6 b.Limbo.length, .h s7 b.Haz.length], ow s1 (b.Mem.Heap.Bytes : List Int), ow s2 (b.Mem.Heap.Class : List Int), ow s3 (b.Mem.Lists.Global : List SList), ow s4 (b.Mem.Lists.Own : List SList), ow s5 (b.Clock.Pins : List Pin), ow s6 (b.Limbo : List LList), ow s7 (b.Haz : List Int)] (fun (r : Sub × Base) (y : AC) => .t []) (fun (r : Sub × Base) (y : AC) => [.box 0 [I r.1.Kind, I r.1.A, I r.1.Pc, I r.1.E, I r.1.Row, I r.1.B, I r.1.H, I r.1.Out, I r.1.Code, .b r.1.Done], .box 1 [.h s1 r.2.Mem.Heap.Bytes.length, .h s2 r.2.Mem.Heap.Class.length, .h s3 r.2.Mem.Lists.Global.length, .h s4 r.2.Mem.Lists.Own.length, I r.2.Clock.Epoch, .h s5 r.2.Clock.Pins.length, .h y r.2.Limbo.length, .h s7 r.2.Haz.length], ow s1 r.2.Mem.Heap.Bytes, ow s2 r.2.Mem.Heap.Class, ow s3 r.2.Mem.Lists.Global, ow s4 r.2.Mem.Lists.Own, ow s5 r.2.Clock.Pins, ow y r.2.Limbo, ow s7 r.2.Haz]) r :=
 en 91 Tryz.call80 Tryz.func80 tok rfl rfl rfl <| cs [28, 33] rfl rfl hF (fun hF => rf s6 [0, 1, 2, 3, 4, 5, 6, 7, 8] hF rfl rfl Tryz.results80 rfl rfl rfl rfl) fun hF => cut 0 2 (fun (x1 : Bool) => impl_Sub_retireStep_j1 s b w_ x1 = some r) [0, 1, 2] (fun (x1 : Bool) (_ : Unit) => [(45, .b x1)]) [0, 2, 3, 4, 5, 6, 7, 8, 1] (fun x1 _ => []) rfl (dr [0, 1] rfl mixed_Tryz (by kernel_rfl) fun _ => ca [50, 51] rfl rfl hF (fun hF => jn () [0, 2, 3, 4, 5, 6, 7, 8, 1] hF rfl rfl) fun hF => cl0 rfl (fun _ => n_impl_within) hF fun x9 _ hF => jn () [0, 2, 3, 4, 5, 6, 7, 8, 1] hF rfl rfl) fun x1 _ hF => cs [45] rfl rfl hF (fun hF => cw1 0 0 0 10 [] rfl rfl rfl rfl rfl (fun _ _ => rfl) (fun _ => n_impl_Sub_finish) hF fun x2 _ hF _ => rf s6 [0, 8, 1, 2, 3, 4, 5, 6, 7] hF rfl rfl Tryz.results80 rfl rfl rfl rfl) fun hF => cut 0 2 (fun (x3 : Bool) => impl_Sub_retireStep_j2 s b w_ x3 = some r) [0, 1, 2] (fun (x3 : Bool) (_ : Unit) => [(66, .b x3)]) [0, 1, 2, 3, 4, 5, 6, 7, 8] (fun x3 _ => []) rfl (dr [0, 8] rfl mixed_Tryz (by kernel_rfl) fun _ => cl0 rfl (fun h => n_impl_isLive (h.o 1 rfl) (h.o 2 rfl) (h.o 3 rfl) (h.o 4 rfl)) hF fun x7 _ hF => ca [76, 77] rfl rfl hF (fun hF => jn () [0, 1, 2, 3, 4, 5, 6, 7, 8] hF rfl rfl) fun hF => cl0 rfl (fun h => n_impl_InLimbo (h.o 6 rfl)) hF fun x8 _ hF => jn () [0, 1, 2, 3, 4, 5, 6, 7, 8] hF rfl rfl) fun x3 _ hF => cs [66] rfl rfl hF (fun hF => cw1 0 0 0 10 [] rfl rfl rfl rfl rfl (fun _ _ => rfl) (fun _ => n_impl_Sub_finish) hF fun x4 _ hF _ => rf s6 [0, 8, 1, 2, 3, 4, 5, 6, 7] hF rfl rfl Tryz.results80 rfl rfl rfl rfl) fun hF => dr [0] rfl mixed_Tryz (by kernel_rfl) fun _ => cl rfl (fun _ _ => rfl) (fun h => n_impl_RetireTo (h.o 6 rfl)) hF fun x5 _ hF s8 => cw1 0 0 0 10 [] rfl rfl rfl rfl rfl (fun _ _ => rfl) (fun _ => n_impl_Sub_finish) hF fun x6 _ hF _ => rf s8 [0, 8, 1, 2, 3, 4, 5, 9, 7] hF rfl rfl Tryz.results80 rfl rfl rfl rfl
theorem n_impl_LookAt {κ : Ctx} {c : Clock} {w_ : Int} {e_ : Int} {s1 : AC} {r : Clock × Bool} (h1 : RdA κ s1 c.Pins) (hF : impl_LookAt c w_ e_ = some r) : FnS Tryz.prog 150 κ [.g [I c.Epoch, .h s1 c.Pins.length], I w_, I e_] [] [] (fun r (y : AC) => .t [.g [I r.1.Epoch, .h y r.1.Pins.length], .b r.2]) (fun r y => [ow y r.1.Pins]) r :=
 en 67 Tryz.call150 Tryz.func150 tok rfl rfl rfl <| cl rfl (fun _ _ => rfl) (fun h => n_impl_copyClock (h.a h1)) hF fun x1 _ hF s2 => cut 0 3 (fun (x2 : Bool) => impl_LookAt_j1 w_ e_ x1 x2 = some r) [1, 2, 6, 8] (fun (x2 : Bool) (_ : Unit) => [(19, .b x2)]) [1, 2, 3] (fun x2 _ => []) rfl (cl0 rfl (fun h => n_impl_ClockOk (h.a h1)) hF fun x6 _ hF => ca [14, 15] rfl rfl hF (fun hF => jn () [1, 2, 3] hF rfl rfl) fun hF => cl0 rfl (fun _ => n_impl_isWorker) hF fun x7 _ hF => jn () [1, 2, 3] hF rfl rfl) fun x2 _ hF => cs [19] rfl rfl hF (fun hF => rt s2 [1] hF rfl rfl Tryz.results150 rfl rfl rfl rfl) fun hF => oe oPin 1 rfl rfl rfl hF fun x3 h2 hF _ h3 => ieW 3 h3 h2 rfl rfl rfl rfl rfl <| cut 0 4 (fun (x4 : Bool) => impl_LookAt_j2 w_ x1 x4 = some r) [6, 8, 9] (fun (x4 : Bool) (_ : Unit) => [(25, .b x4)]) [0, 2, 5] (fun x4 _ => [ow s2 (x1.Pins : List Pin)]) rfl (ca [30, 31] rfl rfl hF (fun hF => sF rfl <| cqR oPin 3 [] h2 () rfl rfl rfl rfl rfl rfl rfl <| jnR () [6, 0, 2, 5] hF rfl) fun hF => ca [35, 36, 37] rfl rfl hF (fun hF => sF rfl <| cqR oPin 3 [] h2 () rfl rfl rfl rfl rfl rfl rfl <| jnR () [6, 0, 2, 5] hF rfl) fun hF => sF rfl <| cqR oPin 3 [] h2 () rfl rfl rfl rfl rfl rfl rfl <| jnR () [6, 0, 2, 5] hF rfl) fun x4 _ hF => cs [25] rfl rfl hF (fun hF => rt s2 [0] hF rfl rfl Tryz.results150 rfl rfl rfl rfl) fun hF => ro oPin 0 3 3 rfl rfl rfl rfl hF fun x5 h4 hF _ => cs [46, 51] rfl rfl hF (fun hF => sR rfl <| ceR oPin 4 [] [] ((⟨x5.On, x5.Epoch, x5.Marked, w64 (x5.Seen + 1)⟩ : Pin)) () rfl rfl rfl rfl rfl rfl rfl rfl <| rhR s2 List.length_set.symm [(59, 1)] [(1, 1), (2, 1)] rfl rfl rfl <| fR rfl rfl <| rtR (hT := tok) s2 [7] hF rfl Tryz.results150 rfl rfl rfl rfl) fun hF => sR rfl <| ceR oPin 4 [] [] ((⟨x5.On, x5.Epoch, true, 0⟩ : Pin)) () rfl rfl rfl rfl rfl rfl rfl rfl <| rhR s2 List.length_set.symm [(66, 1)] [(1, 1), (2, 1)] rfl rfl rfl <| fR rfl rfl <| rtR (hT := tok) s2 [7] hF rfl Tryz.results150 rfl rfl rfl rfl
theorem n_impl_Bump {κ : Ctx} {c : Clock} {e_ : Int} {s1 : AC} {r : Clock × Bool} (h1 : RdA κ s1 c.Pins) (hF : impl_Bump c e_ = some r) : FnS Tryz.prog 151 κ [.g [I c.Epoch, .h s1 c.Pins.length], I e_] [] [] (fun r (y : AC) => .t [.g [I r.1.Epoch, .h y r.1.Pins.length], .b r.2]) (fun r y => [ow y r.1.Pins]) r :=
 en 29 Tryz.call151 Tryz.func151 tok rfl rfl rfl <| cl rfl (fun _ _ => rfl) (fun h => n_impl_copyClock (h.a h1)) hF fun x1 _ hF s2 => cut 0 3 (fun (x2 : Bool) => impl_Bump_j1 x1 x2 = some r) [4, 6] (fun (x2 : Bool) (_ : Unit) => [(22, .b x2)]) [1, 2, 3] (fun x2 _ => []) rfl (cl0 rfl (fun h => n_impl_ClockOk (h.a h1)) hF fun x3 _ hF => ca [11, 12] rfl rfl hF (fun hF => jn () [1, 2, 3] hF rfl rfl) fun hF => ca [16, 17, 18] rfl rfl hF (fun hF => jn () [1, 2, 3] hF rfl rfl) fun hF => jn () [1, 2, 3] hF rfl rfl) fun x2 _ hF => cs [22] rfl rfl hF (fun hF => rt s2 [1] hF rfl rfl Tryz.results151 rfl rfl rfl rfl) fun hF => rt s2 [1] hF rfl rfl Tryz.results151 rfl rfl rfl rfl
theorem n_impl_Sub_advanceStep {κ : Ctx} {s : Sub} {b : Base} {s1 s2 s3 s4 s5 s6 s7 : AC} {b0 b1 : Nat × Nat} {r : Sub × Base}  (hF : impl_Sub_advanceStep s b = some r) : FnS Tryz.prog 81 κ [.p 0 0, .p 1 0] [b0, b1] [.box 0 [I s.Kind, I s.A, I s.Pc, I s.E, I s.Row, I s.B, I s.H, I s.Out, I s.Code, .b s.Done], .box 1 [.h s1 b.Mem.Heap.Bytes.length, .h s2 b.Mem.Heap.Class.length, .h s3 b.Mem.Lists.Global.length, .h s4 b.Mem.Lists.Own.length, I b.Clock.Epoch, .h s5 b.Clock.Pins.length, .h s6 b.Limbo.length, .h s7 b.Haz.length], ow s1 (b.Mem.Heap.Bytes : List Int), ow s2 (b.Mem.Heap.Class : List Int), ow s3 (b.Mem.Lists.Global : List SList), ow s4 (b.Mem.Lists.Own : List SList), ow s5 (b.Clock.Pins : List Pin), ow s6 (b.Limbo : List LList), ow s7 (b.Haz : List Int)] (fun (r : Sub × Base) (y : AC) => .t []) (fun (r : Sub × Base) (y : AC) => [.box 0 [I r.1.Kind, I r.1.A, I r.1.Pc, I r.1.E, I r.1.Row, I r.1.B, I r.1.H, I r.1.Out, I r.1.Code, .b r.1.Done], .box 1 [.h s1 r.2.Mem.Heap.Bytes.length, .h s2 r.2.Mem.Heap.Class.length, .h s3 r.2.Mem.Lists.Global.length, .h s4 r.2.Mem.Lists.Own.length, I r.2.Clock.Epoch, .h y r.2.Clock.Pins.length, .h s6 r.2.Limbo.length, .h s7 r.2.Haz.length], ow s1 r.2.Mem.Heap.Bytes, ow s2 r.2.Mem.Heap.Class, ow s3 r.2.Mem.Lists.Global, ow s4 r.2.Mem.Lists.Own, ow y r.2.Clock.Pins, ow s6 r.2.Limbo, ow s7 r.2.Haz]) r :=
 en 105 Tryz.call81 Tryz.func81 tok rfl rfl rfl <| cs [7, 12] rfl rfl hF (fun hF => rf s5 [0, 1, 2, 3, 4, 5, 6, 7, 8] hF rfl rfl Tryz.results81 rfl rfl rfl rfl) fun hF => cut 0 2 (fun (x1 : Bool) => impl_Sub_advanceStep_j1 s b x1 = some r) [0, 1] (fun (x1 : Bool) (_ : Unit) => [(27, .b x1)]) [0, 2, 3, 4, 5, 6, 7, 8, 1] (fun x1 _ => []) rfl (ca [32, 33] rfl rfl hF (fun hF => cl0 rfl (fun _ => n_impl_isWorker) hF fun x8 _ hF => jn () [0, 2, 3, 4, 5, 6, 7, 8, 1] hF rfl rfl) fun hF => jn () [0, 2, 3, 4, 5, 6, 7, 8, 1] hF rfl rfl) fun x1 _ hF => cs [27] rfl rfl hF (fun hF => dr [0] rfl mixed_Tryz (by kernel_rfl) fun _ => cl rfl (fun _ _ => rfl) (fun h => n_impl_LookAt (h.o 5 rfl)) hF fun x2 _ hF s8 => cs [60] rfl rfl hF (fun hF => cw1 0 0 0 10 [] rfl rfl rfl rfl rfl (fun _ _ => rfl) (fun _ => n_impl_Sub_finish) hF fun x3 _ hF _ => rt s8 [0, 8, 1, 2, 3, 4, 9, 6, 7] hF rfl rfl Tryz.results81 rfl rfl rfl rfl) fun hF => cs [74] rfl rfl hF (fun hF => rf s8 [0, 8, 1, 2, 3, 4, 9, 6, 7] hF rfl rfl Tryz.results81 rfl rfl rfl rfl) fun hF => rf s8 [0, 8, 1, 2, 3, 4, 9, 6, 7] hF rfl rfl Tryz.results81 rfl rfl rfl rfl) fun hF => cs [78, 83] rfl rfl hF (fun hF => dr [0] rfl mixed_Tryz (by kernel_rfl) fun _ => cl rfl (fun _ _ => rfl) (fun h => n_impl_Bump (h.o 5 rfl)) hF fun x4 _ hF s9 => cut 0 2 (fun (x5 : Int) => impl_Sub_advanceStep_j2 s b x4 x5 = some r) [0, 1] (fun (x5 : Int) (_ : Unit) => []) [1, 2, 3, 4, 9, 6, 7, 8] (fun x5 _ => [.box 0 [I s.Kind, I s.A, I s.Pc, I s.E, I s.Row, I s.B, I s.H, I x5, I s.Code, .b s.Done]]) rfl (cs [4, 96, 99] rfl rfl hF (fun hF => jn () [0, 1, 2, 3, 4, 9, 6, 7, 8] hF rfl rfl) fun hF => jn () [0, 1, 2, 3, 4, 9, 6, 7, 8] hF rfl rfl) fun x5 _ hF => cw1 0 0 0 10 [] rfl rfl rfl rfl rfl (fun _ _ => rfl) (fun _ => n_impl_Sub_finish (s := (⟨s.Kind, s.A, s.Pc, s.E, s.Row, s.B, s.H, x5, s.Code, s.Done⟩ : Sub))) hF fun x6 _ hF _ => rf s9 [0, 8, 1, 2, 3, 4, 5, 6, 7] hF rfl rfl Tryz.results81 rfl rfl rfl rfl) fun hF => cw1 0 0 0 10 [] rfl rfl rfl rfl rfl (fun _ _ => rfl) (fun _ => n_impl_Sub_finish) hF fun x7 _ hF _ => rf s5 [0, 8, 1, 2, 3, 4, 5, 6, 7] hF rfl rfl Tryz.results81 rfl rfl rfl rfl
theorem n_impl_hasRow {κ : Ctx} {l : List LList} {w_ : Int} {i : Int} {s1 : AC} {r : Bool} (h1 : RdA κ s1 l) (hF : impl_hasRow l w_ i = some r) : Fn0 Tryz.prog 152 κ [.h s1 l.length, I w_, I i] .b r :=
 en 20 Tryz.call152 Tryz.func152 tok rfl rfl rfl <| cut 0 0 (fun (x1 : Bool) => impl_hasRow_j1 x1 = some r) [] (fun (x1 : Bool) (_ : Unit) => [(6, .b x1)]) [] (fun x1 _ => []) rfl (cl0 rfl (fun _ => n_impl_isWorker) hF fun x2 _ hF => ca [8, 9] rfl rfl hF (fun hF => ix cLList rfl h1 hF rfl rfl rfl fun x3 _ hF s2 h2 => cl0 rfl (fun _ => n_impl_within) hF fun x4 _ hF => jn () [] hF rfl rfl) fun hF => jn () [] hF rfl rfl) fun x1 _ hF => rt () [] hF rfl rfl Tryz.results152 rfl rfl rfl rfl
theorem n_impl_Ripe {κ : Ctx} {r_ : LRow} {e_ : Int}  {r : Bool}  (hF : impl_Ripe r_ e_ = some r) : Fn0 Tryz.prog 154 κ [.g [I r_.Handle, I r_.Epoch], I e_] .b r :=
 en 14 Tryz.call154 Tryz.func154 tok rfl rfl rfl <| cut 0 1 (fun (x1 : Bool) => impl_Ripe_j1 x1 = some r) [] (fun (x1 : Bool) (_ : Unit) => [(4, .b x1)]) [] (fun x1 _ => []) rfl (ca [6, 7] rfl rfl hF (fun hF => jn () [] hF rfl rfl) fun hF => jn () [] hF rfl rfl) fun x1 _ hF => rt () [] hF rfl rfl Tryz.results154 rfl rfl rfl rfl
theorem n_impl_Sub_seekRipe {κ : Ctx} {s : Sub} {b : Base} {w_ : Int} {s1 s2 s3 s4 s5 s6 s7 : AC} {b0 b1 : Nat × Nat} {r : Sub × Base}  (hF : impl_Sub_seekRipe s b w_ = some r) : FnS Tryz.prog 153 κ [.p 0 0, .p 1 0, I w_] [b0, b1] [.box 0 [I s.Kind, I s.A, I s.Pc, I s.E, I s.Row, I s.B, I s.H, I s.Out, I s.Code, .b s.Done], .box 1 [.h s1 b.Mem.Heap.Bytes.length, .h s2 b.Mem.Heap.Class.length, .h s3 b.Mem.Lists.Global.length, .h s4 b.Mem.Lists.Own.length, I b.Clock.Epoch, .h s5 b.Clock.Pins.length, .h s6 b.Limbo.length, .h s7 b.Haz.length], ow s1 (b.Mem.Heap.Bytes : List Int), ow s2 (b.Mem.Heap.Class : List Int), ow s3 (b.Mem.Lists.Global : List SList), ow s4 (b.Mem.Lists.Own : List SList), ow s5 (b.Clock.Pins : List Pin), ow s6 (b.Limbo : List LList), ow s7 (b.Haz : List Int)] (fun (r : Sub × Base) (y : Unit) => .t []) (fun (r : Sub × Base) (y : Unit) => [.box 0 [I r.1.Kind, I r.1.A, I r.1.Pc, I r.1.E, I r.1.Row, I r.1.B, I r.1.H, I r.1.Out, I r.1.Code, .b r.1.Done], .box 1 [.h s1 r.2.Mem.Heap.Bytes.length, .h s2 r.2.Mem.Heap.Class.length, .h s3 r.2.Mem.Lists.Global.length, .h s4 r.2.Mem.Lists.Own.length, I r.2.Clock.Epoch, .h s5 r.2.Clock.Pins.length, .h s6 r.2.Limbo.length, .h s7 r.2.Haz.length], ow s1 r.2.Mem.Heap.Bytes, ow s2 r.2.Mem.Heap.Class, ow s3 r.2.Mem.Lists.Global, ow s4 r.2.Mem.Lists.Own, ow s5 r.2.Clock.Pins, ow s6 r.2.Limbo, ow s7 r.2.Haz]) r :=
 en 60 Tryz.call153 Tryz.func153 tok rfl rfl rfl <| qmax rfl rfl rfl rfl <| lp () [0, 1, 2] (fun (x2 : Int) (_ : Unit) => [(6, I x2)]) [0, 2, 3, 4, 5, 6, 7, 8, 1] [0, 2, 3, 4, 5, 6, 7, 8, 1] (fun x2 _ => []) Out.brk [0, 1] (fun (_ : Unit) (_ : Unit) => []) [0, 2, 3, 4, 5, 6, 7, 8, 1] (fun _ _ => []) rfl hF rfl (fun o_ hF1 x2 _ o1 hG1 hr1 => oe oLList 6 rfl rfl rfl hG1 fun x4 h1 hG1 s8 h2 => ieW 2 h2 h1 rfl rfl rfl rfl rfl <| cs [23] rfl rfl hG1 (fun hG1 => ieW 2 h2 h1 rfl rfl rfl rfl rfl <| oe oLRow 12 rfl rfl rfl hG1 fun x5 h3 hG1 _ h4 => ieW 3 h4 h3 rfl rfl rfl rfl rfl <| dr [0, 8, 11, 15, 16] rfl mixed_Tryz (by kernel_rfl) fun _ => cl0 rfl (fun _ => n_impl_Ripe) hG1 fun x6 _ hG1 => cs [42] rfl rfl hG1 (fun hG1 => dr [8, 11, 15, 16] rfl mixed_Tryz (by kernel_rfl) fun _ => sR rfl <| cqR oLRow 13 [] h3 () rfl rfl rfl rfl rfl rfl rfl <| cqR oLList 9 [17] h1 s8 rfl rfl rfl rfl rfl rfl rfl <| rtR (hT := tok) () [0, 8, 1, 2, 3, 4, 5, 18, 7] (re hG1 rfl hr1 hF1) rfl Tryz.results153 rfl rfl rfl rfl) fun hG1 => sF rfl <| cqR oLRow 13 [] h3 () rfl rfl rfl rfl rfl rfl rfl <| cqR oLList 9 [17] h1 s8 rfl rfl rfl rfl rfl rfl rfl <| nxR () [0, 1, 2, 3, 4, 5, 18, 7, 8] hG1 rfl) fun hG1 => sX rfl <| cqR oLList 9 [12] h1 s8 rfl rfl rfl rfl rfl rfl rfl <| bkR () [0, 1, 2, 3, 4, 5, 13, 7, 8] hG1 hr1 rfl) fun () _ hF => have hF : impl_Sub_seekRipe_j1 s b = some r := hF; cw1 0 0 0 10 [] rfl rfl rfl rfl rfl (fun _ _ => rfl) (fun _ => n_impl_Sub_finish) hF fun x3 _ hF _ => rf () [0, 8, 1, 2, 3, 4, 5, 6, 7] hF rfl rfl Tryz.results153 rfl rfl rfl rfl
theorem n_slices_Delete_LRow {κ : Ctx} {s : List LRow} {i : Int} {j : Int} {s1 : AC} {r : (List LRow)}  (hF : slices_Delete_LRow s i j = some r) : FnS Tryz.prog 198 κ [.h s1 s.length, I i, I j] [] [ow s1 (s : List LRow)] (fun (r : (List LRow)) (y : AC) => .h y r.length) (fun (r : (List LRow)) (y : AC) => [ow y r]) r :=
 en 33 Tryz.call198 Tryz.func198 tok rfl rfl rfl <| cpc 0 rfl rfl fun hc1 => qp_lhm hc1 rfl rfl rfl rfl rfl rfl rfl rfl hF fun hF h1 => cs [16] rfl rfl hF (fun hF => rt s1 [0] hF rfl rfl Tryz.results198 rfl rfl rfl rfl) fun hF => dr [] rfl mixed_Tryz (by kernel_rfl) fun _ => qp_h hc1 rfl rfl rfl rfl rfl rfl hF fun hF h2 => qp_l hc1 rfl rfl rfl rfl rfl rfl hF fun hF h3 => nd hF fun hab hF => ap2 0 i.toNat j.toNat ⟨hab, h3.1⟩ rfl rfl rfl rfl rfl rfl rfl rfl rfl fun h4 => qb_lh 0 (i.toNat + (s.length - j.toNat)) h4.2 (sub_len h4.1 h4.2) rfl rfl rfl rfl rfl rfl rfl rfl rfl hF fun hF h5 => clr 0 ((((((blitL s i.toNat (s.drop j.toNat)).take (i.toNat + (s.length - j.toNat))).drop 0).length : Int)).toNat) (((s.length : Int)).toNat) ((⟨0, 0⟩ : LRow) : LRow) h5 inf_Tryz99 rfl (fun _ => (mk_LRow ((⟨0, 0⟩ : LRow)))) rfl rfl rfl rfl rfl rfl rfl rfl <| sR rfl <| poR 0 0 (i.toNat + (s.length - j.toNat)) rfl rfl (cl_len h4 (Nat.le_trans h5.1 h5.2)) (cl_part (Nat.le_of_eq (by rw [Int.toNat_natCast, sub_len h4.1 h4.2]; rfl)) (Nat.le_trans h5.1 h5.2)) <| rtR (hT := tok) (AC.sub s1 2 0) [0] hF rfl Tryz.results198 rfl rfl rfl rfl
theorem n_impl_DropRow {κ : Ctx} {l : List LList} {w_ : Int} {i : Int} {s1 : AC} {r : (List LList) × Bool} (h1 : RdA κ s1 l) (hF : impl_DropRow l w_ i = some r) : FnS Tryz.prog 155 κ [.h s1 l.length, I w_, I i] [] [] (fun r (y : AC) => .t [.h y r.1.length, .b r.2]) (fun r y => [ow y r.1]) r :=
 en 36 Tryz.call155 Tryz.func155 tok rfl rfl rfl <| cl rfl (fun _ _ => rfl) (fun h => n_impl_copyLimbo (h.a h1)) hF fun x1 _ hF s2 => cut 0 0 (fun (x2 : Bool) => impl_DropRow_j1 w_ i x1 x2 = some r) [1, 2, 8] (fun (x2 : Bool) (_ : Unit) => [(20, .b x2)]) [0] (fun x2 _ => []) rfl (cl0 rfl (fun h => n_impl_LimboOk (h.a h1)) hF fun x5 _ hF => ca [13, 14] rfl rfl hF (fun hF => jn () [0] hF rfl rfl) fun hF => cl0 rfl (fun h => n_impl_hasRow (h.a h1)) hF fun x6 _ hF => jn () [0] hF rfl rfl) fun x2 _ hF => cs [20] rfl rfl hF (fun hF => rt s2 [0] hF rfl rfl Tryz.results155 rfl rfl rfl rfl) fun hF => oe oLList 0 rfl rfl rfl hF fun x3 h2 hF s3 h3 => ieW 0 h3 h2 rfl rfl rfl rfl rfl <| cw0  [4] rfl rfl rfl rfl (fun _ _ => rfl) (fun _ => n_slices_Delete_LRow) hF fun x4 _ hF s4 => ieW 0 h3 h2 rfl rfl rfl rfl rfl <| sR rfl <| ceR oLList 1 [5] [6, 8, 22, 24, 35] ((⟨x4⟩ : LList)) s4 rfl rfl rfl rfl rfl rfl rfl rfl <| rtR (hT := tok) s2 [6] hF rfl Tryz.results155 rfl rfl rfl rfl
theorem n_impl_SetGen {κ : Ctx} {h : Heap} {slot : Int} {gen : Int} {s1 s2 : AC} {r : Heap × Bool} (h1 : RdA κ s1 h.Bytes) (h2 : RdA κ s2 h.Class) (hF : impl_SetGen h slot gen = some r) : FnS Tryz.prog 199 κ [.g [.h s1 h.Bytes.length, .h s2 h.Class.length], I slot, I gen] [] [] (fun r (y : AC × AC) => .t [.g [.h y.1 r.1.Bytes.length, .h y.2 r.1.Class.length], .b r.2]) (fun r y => [ow y.1 r.1.Bytes, ow y.2 r.1.Class]) r :=
 en 32 Tryz.call199 Tryz.func199 tok rfl rfl rfl <| cut 0 3 (fun (p : Int × (List Int) × (List Int)) => impl_SetGen_j1 slot gen p.1 p.2.1 p.2.2 = some r) [1, 2, 6] (fun (p : Int × (List Int) × (List Int)) (u : AC × AC) => [(8, .p 2 0), (9, I p.1)]) [1] (fun p u => [ow u.1 (p.2.1 : List Int), ow u.2 (p.2.2 : List Int), .box 2 [.h u.1 p.2.1.length, .h u.2 p.2.2.length]]) rfl (dr [0, 1] rfl mixed_Tryz (by kernel_rfl) fun _ => bd hF fun x10 hA4 hF => bd hF fun x11 hA5 hF => alt2 rfl rfl (have hq9 := rb hA4; cl rfl (fun _ _ => rfl) (fun h => n_impl_copyHeap (h.a h1) (h.a h2)) hq9 fun u9 _ hq9 s6 => match u9, hq9 with | _, rfl => alt2 rfl rfl (have hq10 := rb hA5; cl0 rfl (fun h => n_impl_ClassAt (h.a h1) (h.a h2)) hq10 fun u10 _ hq10 => match u10, hq10 with | _, rfl => jn (p := (x11, x10.Bytes, x10.Class)) (s6.1, s6.2) [2, 3, 4, 1] hF rfl rfl) (have hq11 := rb hA5; cl0 rfl (fun h => n_impl_ClassAt (h.a h1) (h.a h2)) hq11 fun u11 _ hq11 => match u11, hq11 with | _, rfl => jn (p := (x11, x10.Bytes, x10.Class)) (s6.1, s6.2) [2, 3, 4, 1] hF rfl rfl)) (have hq12 := rb hA4; cl rfl (fun _ _ => rfl) (fun h => n_impl_copyHeap (h.a h1) (h.a h2)) hq12 fun u12 _ hq12 s7 => match u12, hq12 with | _, rfl => have hq13 := rb hA5; cl0 rfl (fun h => n_impl_ClassAt (h.a h1) (h.a h2)) hq13 fun u13 _ hq13 => match u13, hq13 with | _, rfl => jn (p := (x11, x10.Bytes, x10.Class)) (s7.1, s7.2) [3, 4, 2, 1] hF rfl rfl)) fun ⟨x1, x2, x3⟩ ⟨s3, s4⟩ hF => cut 0 3 (fun (x4 : Bool) => impl_SetGen_j2 slot gen x1 x2 x3 x4 = some r) [1, 2, 6, 8, 9] (fun (x4 : Bool) (_ : Unit) => [(21, .b x4)]) [3, 0, 1, 2] (fun x4 _ => []) rfl (ca [16, 17] rfl rfl hF (fun hF => jn () [3, 0, 1, 2] hF rfl rfl) fun hF => cl0 rfl (fun _ => n_impl_within) hF fun x9 _ hF => jn () [3, 0, 1, 2] hF rfl rfl) fun x4 _ hF => cs [21] rfl rfl hF (fun hF => rt (s3, s4) [1, 2] hF rfl rfl Tryz.results199 rfl rfl rfl rfl) fun hF => cut 0 3 (fun (x5 : (List Int)) => impl_SetGen_j3 x3 x5 = some r) [6, 8] (fun (x5 : (List Int)) (_ : Unit) => []) [0, 2] (fun x5 _ => [ow s3 (x5 : List Int), .box 2 [.h s3 x5.length, .h s4 x3.length]]) rfl (dr [0] rfl mixed_Tryz (by kernel_rfl) fun _ => bd hF fun x6 hA1 hF => bd hF fun x7 hA2 hF => bd hF fun x8 hA3 hF => alt2 rfl rfl (have hq1 := rb hA1; cl0 rfl (fun _ => n_impl_GenAt) hq1 fun u1 _ hq1 => match u1, hq1 with | _, rfl => have hq2 := rb hA2; cl0 rfl (fun _ => n_impl_Fixed) hq2 fun u2 _ hq2 => match u2, hq2 with | _, rfl => have hq3 := rb hA3; cw0  [1] rfl rfl rfl rfl (fun _ _ => rfl) (fun _ => n_impl_putNum) hq3 fun u3 _ hq3 _ => un 4 [24] [] [(3, 0)] rfl rfl rfl rfl rfl rfl fun hl2 => match u3, hq3 with | _, rfl => jn (p := (x8)) () [4, 3, 0, 2] hF rfl rfl) (have hq4 := rb hA1; cl0 rfl (fun _ => n_impl_GenAt) hq4 fun u4 _ hq4 => match u4, hq4 with | _, rfl => alt2 rfl rfl (have hq5 := rb hA2; cl0 rfl (fun _ => n_impl_Fixed) hq5 fun u5 _ hq5 => match u5, hq5 with | _, rfl => have hq6 := rb hA3; cw0  [1] rfl rfl rfl rfl (fun _ _ => rfl) (fun _ => n_impl_putNum) hq6 fun u6 _ hq6 _ => un 4 [24] [] [(3, 0)] rfl rfl rfl rfl rfl rfl fun hl3 => match u6, hq6 with | _, rfl => jn (p := (x8)) () [4, 3, 0, 2] hF rfl rfl) (have hq7 := rb hA2; cl0 rfl (fun _ => n_impl_Fixed) hq7 fun u7 _ hq7 => match u7, hq7 with | _, rfl => have hq8 := rb hA3; cw0  [1] rfl rfl rfl rfl (fun _ _ => rfl) (fun _ => n_impl_putNum) hq8 fun u8 _ hq8 _ => un 4 [24] [] [(3, 0)] rfl rfl rfl rfl rfl rfl fun hl4 => match u8, hq8 with | _, rfl => jn (p := (x8)) () [4, 3, 0, 2] hF rfl rfl))) fun x5 _ hF => rt (s3, s4) [0, 3] hF rfl rfl Tryz.results199 rfl rfl rfl rfl
theorem n_impl_Give {κ : Ctx} {l : Lists} {w_ : Int} {c : Int} {slot : Int} {s1 s2 : AC} {r : Lists × Bool} (h1 : RdA κ s1 l.Global) (h2 : RdA κ s2 l.Own) (hF : impl_Give l w_ c slot = some r) : FnS Tryz.prog 200 κ [.g [.h s1 l.Global.length, .h s2 l.Own.length], I w_, I c, I slot] [] [] (fun r (y : AC × AC) => .t [.g [.h y.1 r.1.Global.length, .h y.2 r.1.Own.length], .b r.2]) (fun r y => [ow y.1 r.1.Global, ow y.2 r.1.Own]) r :=
 en 61 Tryz.call200 Tryz.func200 tok rfl rfl rfl <| cl rfl (fun _ _ => rfl) (fun h => n_impl_copyLists (h.a h1) (h.a h2)) hF fun x1 _ hF s3 => cl0 rfl (fun _ => n_impl_OwnAt) hF fun x2 _ hF => cut 0 3 (fun (x3 : Bool) => impl_Give_j1 c slot x1 x2 x3 = some r) [2, 3, 8, 10, 11] (fun (x3 : Bool) (_ : Unit) => [(34, .b x3)]) [1, 2, 3, 4] (fun x3 _ => []) rfl (cl0 rfl (fun h => n_impl_ListsOk (h.a h1) (h.a h2)) hF fun x6 _ hF => ca [20, 21] rfl rfl hF (fun hF => jn () [1, 2, 3, 4] hF rfl rfl) fun hF => ca [23, 24, 25] rfl rfl hF (fun hF => jn () [1, 2, 3, 4] hF rfl rfl) fun hF => cl0 rfl (fun _ => n_impl_isSlot) hF fun x7 _ hF => ca [28, 29, 30] rfl rfl hF (fun hF => jn () [1, 2, 3, 4] hF rfl rfl) fun hF => cl0 rfl (fun h => n_impl_OnList (h.a h1) (h.a h2)) hF fun x8 _ hF => jn () [1, 2, 3, 4] hF rfl rfl) fun x3 _ hF => cs [34] rfl rfl hF (fun hF => rt (s3.1, s3.2) [1, 2] hF rfl rfl Tryz.results200 rfl rfl rfl rfl) fun hF => oe oSList 2 rfl rfl rfl hF fun x4 h3 hF s4 h4 => ieW 3 h4 h3 rfl rfl rfl rfl rfl <| cs [45] rfl rfl hF (fun hF => oe oSList 1 rfl rfl rfl hF fun x5 h5 hF s5 h6 => ieW 4 h6 h5 rfl rfl rfl rfl rfl <| lt1 rfl inf_Tryz3 rfl rfl rfl rfl fun s6 => ap 11 inf_Tryz3 rfl rfl rfl rfl rfl rfl rfl (fun h => (h.o 12 rfl)) rfl rfl hF fun hF s7 => sR rfl <| ceR oSList 8 [11] [47] ((⟨x5.Slots ++ ([slot])⟩ : SList)) s7 rfl rfl rfl rfl rfl rfl rfl rfl <| rhR s3.1 List.length_set.symm [(60, 0)] [(0, 0), (3, 0)] rfl rfl rfl <| cqR oSList 4 [7] h3 s4 rfl rfl rfl rfl rfl rfl rfl <| fR rfl rfl <| rtR (hT := tok) (s3.1, s3.2) [13, 14] hF rfl Tryz.results200 rfl rfl rfl rfl) fun hF => lt1 rfl inf_Tryz3 rfl rfl rfl rfl fun s8 => ap 7 inf_Tryz3 rfl rfl rfl rfl rfl rfl rfl (fun h => (h.o 8 rfl)) rfl rfl hF fun hF s9 => sR rfl <| ceR oSList 4 [7] [37] ((⟨x4.Slots ++ ([slot])⟩ : SList)) s9 rfl rfl rfl rfl rfl rfl rfl rfl <| rhR s3.2 List.length_set.symm [(60, 1)] [(0, 1), (3, 1)] rfl rfl rfl <| fR rfl rfl <| rtR (hT := tok) (s3.1, s3.2) [1, 9] hF rfl Tryz.results200 rfl rfl rfl rfl
theorem n_impl_freed {κ : Ctx} {m : Mem} {w_ : Int} {h : Int} {s1 s2 s3 s4 : AC} {r : Mem} (h1 : RdA κ s1 m.Heap.Bytes) (h2 : RdA κ s2 m.Heap.Class) (h3 : RdA κ s3 m.Lists.Global) (h4 : RdA κ s4 m.Lists.Own) (hF : impl_freed m w_ h = some r) : FnS Tryz.prog 156 κ [.g [.h s1 m.Heap.Bytes.length, .h s2 m.Heap.Class.length, .h s3 m.Lists.Global.length, .h s4 m.Lists.Own.length], I w_, I h] [] [] (fun r (y : AC × AC × AC × AC) => .g [.h y.1 r.Heap.Bytes.length, .h y.2.1 r.Heap.Class.length, .h y.2.2.1 r.Lists.Global.length, .h y.2.2.2 r.Lists.Own.length]) (fun r y => [ow y.1 r.Heap.Bytes, ow y.2.1 r.Heap.Class, ow y.2.2.1 r.Lists.Global, ow y.2.2.2 r.Lists.Own]) r :=
 en 46 Tryz.call156 Tryz.func156 tok rfl rfl rfl <| cl rfl (fun _ _ => rfl) (fun h => n_impl_SetGen (h.a h1) (h.a h2)) hF fun x1 _ hF s5 => cut 0 4 (fun (p : (List SList) × (List SList)) => impl_freed_j1 m w_ h x1 p.1 p.2 = some r) [1, 3, 6, 7, 8] (fun (p : (List SList) × (List SList)) (u : AC × AC) => [(11, .p 3 0)]) [0, 1, 2, 3] (fun p u => [ow u.1 (p.1 : List SList), ow u.2 (p.2 : List SList), .box 3 [.h s5.1 x1.1.Bytes.length, .h s5.2 x1.1.Class.length, .h u.1 p.1.length, .h u.2 p.2.length]]) rfl (dr [0, 1, 4] rfl mixed_Tryz (by kernel_rfl) fun _ => bd hF fun x8 hA1 hF => alt2 rfl rfl (have hq1 := rb hA1; cl rfl (fun _ _ => rfl) (fun h => n_impl_copyLists (h.a h3) (h.a h4)) hq1 fun u1 _ hq1 s12 => match u1, hq1 with | _, rfl => jn (p := (x8.Global, x8.Own)) (s12.1, s12.2) [5, 6, 7, 0, 1, 2, 3] hF rfl rfl) (have hq2 := rb hA1; cl rfl (fun _ _ => rfl) (fun h => n_impl_copyLists (h.a h3) (h.a h4)) hq2 fun u2 _ hq2 s13 => match u2, hq2 with | _, rfl => jn (p := (x8.Global, x8.Own)) (s13.1, s13.2) [6, 7, 5, 0, 1, 2, 3] hF rfl rfl)) fun ⟨x2, x3⟩ ⟨s6, s7⟩ hF => cut 0 4 (fun (p : (List SList) × (List SList)) => impl_freed_j2 x1 p.1 p.2 = some r) [6, 11] (fun (p : (List SList) × (List SList)) (u : AC × AC) => []) [4, 5, 6] (fun p u => [ow u.1 (p.1 : List SList), ow u.2 (p.2 : List SList), .box 3 [.h s5.1 x1.1.Bytes.length, .h s5.2 x1.1.Class.length, .h u.1 p.1.length, .h u.2 p.2.length]]) rfl (cs [31] rfl rfl hF (fun hF => dr [3, 4] rfl mixed_Tryz (by kernel_rfl) fun _ => cl0 rfl (fun h => n_impl_classIn (h.a h1) (h.a h2)) hF fun x6 _ hF => cl rfl (fun _ _ => rfl) (fun h => n_impl_Give (h.a h3) (h.a h4)) hF fun x7 _ hF s10 => jn (p := (x7.1.Global, x7.1.Own)) (s10.1, s10.2) [7, 8, 2, 4, 5, 6] hF rfl rfl) fun hF => jn (s6, s7) [0, 1, 2, 4, 5, 6] hF rfl rfl) fun ⟨x4, x5⟩ ⟨s8, s9⟩ hF => rt (s5.1, s5.2, s8, s9) [4, 5, 0, 1] hF rfl rfl Tryz.results156 rfl rfl rfl rfl
theorem n_impl_Sub_collectStep {κ : Ctx} {s : Sub} {b : Base} {w_ : Int} {s1 s2 s3 s4 s5 s6 s7 : AC} {b0 b1 : Nat × Nat} {r : Sub × Base}  (hF : impl_Sub_collectStep s b w_ = some r) : FnS Tryz.prog 82 κ [.p 0 0, .p 1 0, I w_] [b0, b1] [.box 0 [I s.Kind, I s.A, I s.Pc, I s.E, I s.Row, I s.B, I s.H, I s.Out, I s.Code, .b s.Done], .box 1 [.h s1 b.Mem.Heap.Bytes.length, .h s2 b.Mem.Heap.Class.length, .h s3 b.Mem.Lists.Global.length, .h s4 b.Mem.Lists.Own.length, I b.Clock.Epoch, .h s5 b.Clock.Pins.length, .h s6 b.Limbo.length, .h s7 b.Haz.length], ow s1 (b.Mem.Heap.Bytes : List Int), ow s2 (b.Mem.Heap.Class : List Int), ow s3 (b.Mem.Lists.Global : List SList), ow s4 (b.Mem.Lists.Own : List SList), ow s5 (b.Clock.Pins : List Pin), ow s6 (b.Limbo : List LList), ow s7 (b.Haz : List Int)] (fun (r : Sub × Base) (y : AC × AC × AC × AC × AC) => .t []) (fun (r : Sub × Base) (y : AC × AC × AC × AC × AC) => [.box 0 [I r.1.Kind, I r.1.A, I r.1.Pc, I r.1.E, I r.1.Row, I r.1.B, I r.1.H, I r.1.Out, I r.1.Code, .b r.1.Done], .box 1 [.h y.1 r.2.Mem.Heap.Bytes.length, .h y.2.1 r.2.Mem.Heap.Class.length, .h y.2.2.1 r.2.Mem.Lists.Global.length, .h y.2.2.2.1 r.2.Mem.Lists.Own.length, I r.2.Clock.Epoch, .h s5 r.2.Clock.Pins.length, .h y.2.2.2.2 r.2.Limbo.length, .h s7 r.2.Haz.length], ow y.1 r.2.Mem.Heap.Bytes, ow y.2.1 r.2.Mem.Heap.Class, ow y.2.2.1 r.2.Mem.Lists.Global, ow y.2.2.2.1 r.2.Mem.Lists.Own, ow s5 r.2.Clock.Pins, ow y.2.2.2.2 r.2.Limbo, ow s7 r.2.Haz]) r :=
 en 198 Tryz.call82 Tryz.func82 tok rfl rfl rfl <| cut 0 2 (fun (x1 : Bool) => impl_Sub_collectStep_j1 s b w_ x1 = some r) [0, 1, 2] (fun (x1 : Bool) (_ : Unit) => [(6, .b x1)]) [0, 2, 3, 4, 5, 6, 7, 8, 1] (fun x1 _ => []) rfl (dr [0, 1] rfl mixed_Tryz (by kernel_rfl) fun _ => cl0 rfl (fun h => n_impl_hasRow (h.o 7 rfl)) hF fun x13 _ hF => ca [16, 17] rfl rfl hF (fun hF => oe oLList 7 rfl rfl rfl hF fun x14 h7 hF s11 h8 => ieW 2 h8 h7 rfl rfl rfl rfl rfl <| oe oLRow 12 rfl rfl rfl hF fun x15 h9 hF _ h10 => ieW 3 h10 h9 rfl rfl rfl rfl rfl <| sF rfl <| cqR oLRow 13 [] h9 () rfl rfl rfl rfl rfl rfl rfl <| cqR oLList 9 [16] h7 s11 rfl rfl rfl rfl rfl rfl rfl <| jnR () [0, 2, 3, 4, 5, 6, 17, 8, 1] hF rfl) fun hF => jn () [0, 2, 3, 4, 5, 6, 7, 8, 1] hF rfl rfl) fun x1 _ hF => cs [41, 46] rfl rfl hF (fun hF => rf (s1, s2, s3, s4, s6) [0, 8, 1, 2, 3, 4, 5, 6, 7] hF rfl rfl Tryz.results82 rfl rfl rfl rfl) fun hF => cs [61, 66] rfl rfl hF (fun hF => cw2 0 0 0 10 8 1 0 8 [1, 2, 3, 4, 5, 6, 7] rfl rfl rfl rfl rfl (fun _ _ => rfl) (fun _ => n_impl_Sub_seekRipe) hF fun x2 _ hF _ => rf (s1, s2, s3, s4, s6) [0, 8, 9, 10, 11, 12, 13, 14, 15] hF rfl rfl Tryz.results82 rfl rfl rfl rfl) fun hF => cut 0 2 (fun (x3 : Bool) => impl_Sub_collectStep_j2 s b w_ x1 x3 = some r) [0, 1, 2, 6] (fun (x3 : Bool) (_ : Unit) => [(71, .b x3)]) [0, 1, 2, 3, 4, 5, 6, 7, 8] (fun x3 _ => []) rfl (ca [76, 77] rfl rfl hF (fun hF => cl0 rfl (fun _ => n_impl_isWorker) hF fun x12 _ hF => ca [82, 83, 84] rfl rfl hF (fun hF => jn () [0, 1, 2, 3, 4, 5, 6, 7, 8] hF rfl rfl) fun hF => jn () [0, 1, 2, 3, 4, 5, 6, 7, 8] hF rfl rfl) fun hF => jn () [0, 1, 2, 3, 4, 5, 6, 7, 8] hF rfl rfl) fun x3 _ hF => cs [71] rfl rfl hF (fun hF => dr [0, 8] rfl mixed_Tryz (by kernel_rfl) fun _ => oe oI 7 rfl rfl rfl hF fun x4 h1 hF _ h2 => ieW 2 h2 h1 rfl rfl rfl rfl rfl <| cs [101] rfl rfl hF (fun hF => sR rfl <| cqR oI 9 [] h1 () rfl rfl rfl rfl rfl rfl rfl <| rtR (hT := tok) (s1, s2, s3, s4, s6) [0, 8, 1, 2, 3, 4, 5, 6, 12] hF rfl Tryz.results82 rfl rfl rfl rfl) fun hF => cs [124] rfl rfl hF (fun hF => sF rfl <| cqR oI 9 [] h1 () rfl rfl rfl rfl rfl rfl rfl <| rtR (hT := tok) (s1, s2, s3, s4, s6) [0, 8, 1, 2, 3, 4, 5, 6, 12] hF rfl Tryz.results82 rfl rfl rfl rfl) fun hF => sF rfl <| cqR oI 9 [] h1 () rfl rfl rfl rfl rfl rfl rfl <| rtR (hT := tok) (s1, s2, s3, s4, s6) [0, 8, 1, 2, 3, 4, 5, 6, 12] hF rfl Tryz.results82 rfl rfl rfl rfl) fun hF => cut 0 2 (fun (x5 : Bool) => impl_Sub_collectStep_j3 s b w_ x5 = some r) [0, 1, 2] (fun (x5 : Bool) (_ : Unit) => [(128, .b x5)]) [0, 1, 2, 3, 4, 5, 6, 7, 8] (fun x5 _ => []) rfl (dr [0, 8] rfl mixed_Tryz (by kernel_rfl) fun _ => ca [133, 134] rfl rfl hF (fun hF => ca [6, 135, 136, 137] rfl rfl hF (fun hF => oe oLList 6 rfl rfl rfl hF fun x9 h3 hF s10 h4 => ieW 2 h4 h3 rfl rfl rfl rfl rfl <| oe oLRow 12 rfl rfl rfl hF fun x10 h5 hF _ h6 => ieW 3 h6 h5 rfl rfl rfl rfl rfl <| cl0 rfl (fun _ => n_impl_Ripe) hF fun x11 _ hF => sF rfl <| cqR oLRow 13 [] h5 () rfl rfl rfl rfl rfl rfl rfl <| cqR oLList 9 [16] h3 s10 rfl rfl rfl rfl rfl rfl rfl <| jnR () [0, 1, 2, 3, 4, 5, 17, 7, 8] hF rfl) fun hF => jn () [0, 1, 2, 3, 4, 5, 6, 7, 8] hF rfl rfl) fun hF => jn () [0, 1, 2, 3, 4, 5, 6, 7, 8] hF rfl rfl) fun x5 _ hF => cs [128] rfl rfl hF (fun hF => dr [0] rfl mixed_Tryz (by kernel_rfl) fun _ => cl rfl (fun _ _ => rfl) (fun h => n_impl_DropRow (h.o 6 rfl)) hF fun x6 _ hF s8 => dr [0] rfl mixed_Tryz (by kernel_rfl) fun _ => cl rfl (fun _ _ => rfl) (fun h => n_impl_freed (h.o 1 rfl) (h.o 2 rfl) (h.o 3 rfl) (h.o 4 rfl)) hF fun x7 _ hF s9 => rf (s9.1, s9.2.1, s9.2.2.1, s9.2.2.2, s8) [0, 8, 10, 11, 12, 13, 5, 9, 7] hF rfl rfl Tryz.results82 rfl rfl rfl rfl) fun hF => cw1 0 0 0 10 [] rfl rfl rfl rfl rfl (fun _ _ => rfl) (fun _ => n_impl_Sub_finish) hF fun x8 _ hF _ => rf (s1, s2, s3, s4, s6) [0, 8, 1, 2, 3, 4, 5, 6, 7] hF rfl rfl Tryz.results82 rfl rfl rfl rfl
theorem n_impl_PinTo {κ : Ctx} {c : Clock} {w_ : Int} {e_ : Int} {s1 : AC} {r : Clock × Bool} (h1 : RdA κ s1 c.Pins) (hF : impl_PinTo c w_ e_ = some r) : FnS Tryz.prog 157 κ [.g [I c.Epoch, .h s1 c.Pins.length], I w_, I e_] [] [] (fun r (y : AC) => .t [.g [I r.1.Epoch, .h y r.1.Pins.length], .b r.2]) (fun r y => [ow y r.1.Pins]) r :=
 en 34 Tryz.call157 Tryz.func157 tok rfl rfl rfl <| cl rfl (fun _ _ => rfl) (fun h => n_impl_copyClock (h.a h1)) hF fun x1 _ hF s2 => cut 0 3 (fun (x2 : Bool) => impl_PinTo_j1 w_ e_ x1 x2 = some r) [1, 2, 6, 8] (fun (x2 : Bool) (_ : Unit) => [(25, .b x2)]) [1, 2, 3] (fun x2 _ => []) rfl (cl0 rfl (fun h => n_impl_ClockOk (h.a h1)) hF fun x4 _ hF => ca [13, 14] rfl rfl hF (fun hF => jn () [1, 2, 3] hF rfl rfl) fun hF => cl0 rfl (fun _ => n_impl_isWorker) hF fun x5 _ hF => ca [17, 18, 19] rfl rfl hF (fun hF => jn () [1, 2, 3] hF rfl rfl) fun hF => cl0 rfl (fun _ => n_impl_within) hF fun x6 _ hF => jn () [1, 2, 3] hF rfl rfl) fun x2 _ hF => cs [25] rfl rfl hF (fun hF => rt s2 [1] hF rfl rfl Tryz.results157 rfl rfl rfl rfl) fun hF => oe oPin 1 rfl rfl rfl hF fun x3 h2 hF _ h3 => ieW 3 h3 h2 rfl rfl rfl rfl rfl <| sR rfl <| ceR oPin 3 [] [28] ((⟨true, e_, false, 0⟩ : Pin)) () rfl rfl rfl rfl rfl rfl rfl rfl <| rhR s2 List.length_set.symm [(33, 1)] [(0, 1), (2, 1)] rfl rfl rfl <| fR rfl rfl <| rtR (hT := tok) s2 [6] hF rfl Tryz.results157 rfl rfl rfl rfl
theorem n_impl_Sub_pinStep {κ : Ctx} {s : Sub} {b : Base} {w_ : Int} {s1 s2 s3 s4 s5 s6 s7 : AC} {b0 b1 : Nat × Nat} {r : Sub × Base}  (hF : impl_Sub_pinStep s b w_ = some r) : FnS Tryz.prog 83 κ [.p 0 0, .p 1 0, I w_] [b0, b1] [.box 0 [I s.Kind, I s.A, I s.Pc, I s.E, I s.Row, I s.B, I s.H, I s.Out, I s.Code, .b s.Done], .box 1 [.h s1 b.Mem.Heap.Bytes.length, .h s2 b.Mem.Heap.Class.length, .h s3 b.Mem.Lists.Global.length, .h s4 b.Mem.Lists.Own.length, I b.Clock.Epoch, .h s5 b.Clock.Pins.length, .h s6 b.Limbo.length, .h s7 b.Haz.length], ow s1 (b.Mem.Heap.Bytes : List Int), ow s2 (b.Mem.Heap.Class : List Int), ow s3 (b.Mem.Lists.Global : List SList), ow s4 (b.Mem.Lists.Own : List SList), ow s5 (b.Clock.Pins : List Pin), ow s6 (b.Limbo : List LList), ow s7 (b.Haz : List Int)] (fun (r : Sub × Base) (y : AC) => .t []) (fun (r : Sub × Base) (y : AC) => [.box 0 [I r.1.Kind, I r.1.A, I r.1.Pc, I r.1.E, I r.1.Row, I r.1.B, I r.1.H, I r.1.Out, I r.1.Code, .b r.1.Done], .box 1 [.h s1 r.2.Mem.Heap.Bytes.length, .h s2 r.2.Mem.Heap.Class.length, .h s3 r.2.Mem.Lists.Global.length, .h s4 r.2.Mem.Lists.Own.length, I r.2.Clock.Epoch, .h y r.2.Clock.Pins.length, .h s6 r.2.Limbo.length, .h s7 r.2.Haz.length], ow s1 r.2.Mem.Heap.Bytes, ow s2 r.2.Mem.Heap.Class, ow s3 r.2.Mem.Lists.Global, ow s4 r.2.Mem.Lists.Own, ow y r.2.Clock.Pins, ow s6 r.2.Limbo, ow s7 r.2.Haz]) r :=
 en 70 Tryz.call83 Tryz.func83 tok rfl rfl rfl <| cs [14, 15] rfl rfl hF (fun hF => rf s5 [0, 1, 2, 3, 4, 5, 6, 7, 8] hF rfl rfl Tryz.results83 rfl rfl rfl rfl) fun hF => cs [27, 28] rfl rfl hF (fun hF => cut 0 3 (fun (p : Bool × Int × (List Pin)) => impl_Sub_pinStep_j1 s b p.1 p.2.1 p.2.2 = some r) [0, 1] (fun (p : Bool × Int × (List Pin)) (s8 : AC) => [(6, .p 2 0), (7, .b p.1)]) [0, 2, 3, 4, 5, 6, 7, 8, 1] (fun p s8 => [ow s8 (p.2.2 : List Pin), .box 2 [I p.2.1, .h s8 p.2.2.length]]) rfl (dr [0, 1] rfl mixed_Tryz (by kernel_rfl) fun _ => bd hF fun x5 hA1 hF => alt2 rfl rfl (have hq1 := rb hA1; cl rfl (fun _ _ => rfl) (fun h => n_impl_PinTo (h.o 6 rfl)) hq1 fun u1 _ hq1 s10 => match u1, hq1 with | _, rfl => jn (p := (x5.2, x5.1.Epoch, x5.1.Pins)) s10 [9, 10, 0, 2, 3, 4, 5, 6, 7, 8, 1] hF rfl rfl) (have hq2 := rb hA1; cl rfl (fun _ _ => rfl) (fun h => n_impl_PinTo (h.o 6 rfl)) hq2 fun u2 _ hq2 s11 => match u2, hq2 with | _, rfl => jn (p := (x5.2, x5.1.Epoch, x5.1.Pins)) s11 [10, 9, 0, 2, 3, 4, 5, 6, 7, 8, 1] hF rfl rfl)) fun ⟨x1, x2, x3⟩ s8 hF => cs [43] rfl rfl hF (fun hF => cw1 2 0 0 10 [] rfl rfl rfl rfl rfl (fun _ _ => rfl) (fun _ => n_impl_Sub_finish) hF fun x4 _ hF _ => rt s5 [2, 10, 3, 4, 5, 6, 7, 8, 9] hF rfl rfl Tryz.results83 rfl rfl rfl rfl) fun hF => rf s8 [2, 10, 3, 4, 5, 6, 0, 8, 9] hF rfl rfl Tryz.results83 rfl rfl rfl rfl) fun hF => cs [53, 54] rfl rfl hF (fun hF => dr [0, 1] rfl mixed_Tryz (by kernel_rfl) fun _ => cs [64] rfl rfl hF (fun hF => cw1 0 0 0 10 [] rfl rfl rfl rfl rfl (fun _ _ => rfl) (fun _ => n_impl_Sub_finish) hF fun x6 _ hF _ => rf s5 [0, 1, 2, 3, 4, 5, 6, 7, 8] hF rfl rfl Tryz.results83 rfl rfl rfl rfl) fun hF => rf s5 [0, 1, 2, 3, 4, 5, 6, 7, 8] hF rfl rfl Tryz.results83 rfl rfl rfl rfl) fun hF => cw1 0 0 0 10 [] rfl rfl rfl rfl rfl (fun _ _ => rfl) (fun _ => n_impl_Sub_finish) hF fun x7 _ hF _ => rf s5 [0, 1, 2, 3, 4, 5, 6, 7, 8] hF rfl rfl Tryz.results83 rfl rfl rfl rfl
theorem n_impl_Sub_step {κ : Ctx} {s : Sub} {b : Base} {w_ : Int} {s1 s2 s3 s4 s5 s6 s7 : AC} {b0 b1 : Nat × Nat} {r : Sub × Base}  (hF : impl_Sub_step s b w_ = some r) : FnS Tryz.prog 28 κ [.p 0 0, .p 1 0, I w_] [b0, b1] [.box 0 [I s.Kind, I s.A, I s.Pc, I s.E, I s.Row, I s.B, I s.H, I s.Out, I s.Code, .b s.Done], .box 1 [.h s1 b.Mem.Heap.Bytes.length, .h s2 b.Mem.Heap.Class.length, .h s3 b.Mem.Lists.Global.length, .h s4 b.Mem.Lists.Own.length, I b.Clock.Epoch, .h s5 b.Clock.Pins.length, .h s6 b.Limbo.length, .h s7 b.Haz.length], ow s1 (b.Mem.Heap.Bytes : List Int), ow s2 (b.Mem.Heap.Class : List Int), ow s3 (b.Mem.Lists.Global : List SList), ow s4 (b.Mem.Lists.Own : List SList), ow s5 (b.Clock.Pins : List Pin), ow s6 (b.Limbo : List LList), ow s7 (b.Haz : List Int)] (fun (r : Sub × Base) (y : AC × AC × AC × AC × AC × AC) => .t []) (fun (r : Sub × Base) (y : AC × AC × AC × AC × AC × AC) => [.box 0 [I r.1.Kind, I r.1.A, I r.1.Pc, I r.1.E, I r.1.Row, I r.1.B, I r.1.H, I r.1.Out, I r.1.Code, .b r.1.Done], .box 1 [.h y.1 r.2.Mem.Heap.Bytes.length, .h y.2.1 r.2.Mem.Heap.Class.length, .h y.2.2.1 r.2.Mem.Lists.Global.length, .h y.2.2.2.1 r.2.Mem.Lists.Own.length, I r.2.Clock.Epoch, .h y.2.2.2.2.1 r.2.Clock.Pins.length, .h y.2.2.2.2.2 r.2.Limbo.length, .h s7 r.2.Haz.length], ow y.1 r.2.Mem.Heap.Bytes, ow y.2.1 r.2.Mem.Heap.Class, ow y.2.2.1 r.2.Mem.Lists.Global, ow y.2.2.2.1 r.2.Mem.Lists.Own, ow y.2.2.2.2.1 r.2.Clock.Pins, ow y.2.2.2.2.2 r.2.Limbo, ow s7 r.2.Haz]) r :=
 en 45 Tryz.call28 Tryz.func28 tok rfl rfl rfl <| cs [9] rfl rfl hF (fun hF => rt (s1, s2, s3, s4, s5, s6) [0, 1, 2, 3, 4, 5, 6, 7, 8] hF rfl rfl Tryz.results28 rfl rfl rfl rfl) fun hF => cs [16, 17] rfl rfl hF (fun hF => cw2 0 0 0 10 1 1 0 8 [2, 3, 4, 5, 6, 7, 8] rfl rfl rfl rfl rfl (fun _ _ => rfl) (fun _ => n_impl_Sub_allocStep) hF fun x1 _ hF s8 => rf (s8.1, s8.2.1, s8.2.2.1, s8.2.2.2, s5, s6) [0, 1, 9, 10, 11, 12, 13, 14, 15] hF rfl rfl Tryz.results28 rfl rfl rfl rfl) fun hF => cs [22, 23] rfl rfl hF (fun hF => cw2 0 0 0 10 1 1 0 8 [2, 3, 4, 5, 6, 7, 8] rfl rfl rfl rfl rfl (fun _ _ => rfl) (fun _ => n_impl_Sub_retireStep) hF fun x2 _ hF s9 => rf (s1, s2, s3, s4, s5, s9) [0, 1, 9, 10, 11, 12, 13, 14, 15] hF rfl rfl Tryz.results28 rfl rfl rfl rfl) fun hF => cs [28, 29] rfl rfl hF (fun hF => cw2 0 0 0 10 1 1 0 8 [2, 3, 4, 5, 6, 7, 8] rfl rfl rfl rfl rfl (fun _ _ => rfl) (fun _ => n_impl_Sub_advanceStep) hF fun x3 _ hF s10 => rf (s1, s2, s3, s4, s10, s6) [0, 1, 9, 10, 11, 12, 13, 14, 15] hF rfl rfl Tryz.results28 rfl rfl rfl rfl) fun hF => cs [33, 34] rfl rfl hF (fun hF => cw2 0 0 0 10 1 1 0 8 [2, 3, 4, 5, 6, 7, 8] rfl rfl rfl rfl rfl (fun _ _ => rfl) (fun _ => n_impl_Sub_collectStep) hF fun x4 _ hF s11 => rf (s11.1, s11.2.1, s11.2.2.1, s11.2.2.2.1, s5, s11.2.2.2.2) [0, 1, 9, 10, 11, 12, 13, 14, 15] hF rfl rfl Tryz.results28 rfl rfl rfl rfl) fun hF => cs [39, 40] rfl rfl hF (fun hF => cw2 0 0 0 10 1 1 0 8 [2, 3, 4, 5, 6, 7, 8] rfl rfl rfl rfl rfl (fun _ _ => rfl) (fun _ => n_impl_Sub_pinStep) hF fun x5 _ hF s12 => rf (s1, s2, s3, s4, s12, s6) [0, 1, 9, 10, 11, 12, 13, 14, 15] hF rfl rfl Tryz.results28 rfl rfl rfl rfl) fun hF => cw1 0 0 0 10 [] rfl rfl rfl rfl rfl (fun _ _ => rfl) (fun _ => n_impl_Sub_finish) hF fun x6 _ hF _ => rf (s1, s2, s3, s4, s5, s6) [0, 1, 2, 3, 4, 5, 6, 7, 8] hF rfl rfl Tryz.results28 rfl rfl rfl rfl
theorem n_impl_SubStep {κ : Ctx} {b : Base} {w_ : Int} {s : Sub} {s1 s2 s3 s4 s5 s6 s7 : AC} {r : Base × Sub} (h1 : RdA κ s1 b.Mem.Heap.Bytes) (h2 : RdA κ s2 b.Mem.Heap.Class) (h3 : RdA κ s3 b.Mem.Lists.Global) (h4 : RdA κ s4 b.Mem.Lists.Own) (h5 : RdA κ s5 b.Clock.Pins) (h6 : RdA κ s6 b.Limbo) (h7 : RdA κ s7 b.Haz) (hF : impl_SubStep b w_ s = some r) : FnS Tryz.prog 8 κ [.g [.h s1 b.Mem.Heap.Bytes.length, .h s2 b.Mem.Heap.Class.length, .h s3 b.Mem.Lists.Global.length, .h s4 b.Mem.Lists.Own.length, I b.Clock.Epoch, .h s5 b.Clock.Pins.length, .h s6 b.Limbo.length, .h s7 b.Haz.length], I w_, .g [I s.Kind, I s.A, I s.Pc, I s.E, I s.Row, I s.B, I s.H, I s.Out, I s.Code, .b s.Done]] [] [] (fun r (y : AC × AC × AC × AC × AC × AC × AC) => .t [.g [.h y.1 r.1.Mem.Heap.Bytes.length, .h y.2.1 r.1.Mem.Heap.Class.length, .h y.2.2.1 r.1.Mem.Lists.Global.length, .h y.2.2.2.1 r.1.Mem.Lists.Own.length, I r.1.Clock.Epoch, .h y.2.2.2.2.1 r.1.Clock.Pins.length, .h y.2.2.2.2.2.1 r.1.Limbo.length, .h y.2.2.2.2.2.2 r.1.Haz.length], .g [I r.2.Kind, I r.2.A, I r.2.Pc, I r.2.E, I r.2.Row, I r.2.B, I r.2.H, I r.2.Out, I r.2.Code, .b r.2.Done]]) (fun r y => [ow y.1 r.1.Mem.Heap.Bytes, ow y.2.1 r.1.Mem.Heap.Class, ow y.2.2.1 r.1.Mem.Lists.Global, ow y.2.2.2.1 r.1.Mem.Lists.Own, ow y.2.2.2.2.1 r.1.Clock.Pins, ow y.2.2.2.2.2.1 r.1.Limbo, ow y.2.2.2.2.2.2 r.1.Haz]) r :=
 en 25 Tryz.call8 Tryz.func8 tok rfl rfl rfl <| cl rfl (fun _ _ => rfl) (fun h => n_impl_copyBase (h.a h1) (h.a h2) (h.a h3) (h.a h4) (h.a h5) (h.a h6) (h.a h7)) hF fun x1 _ hF s8 => cut 0 5 (fun (x2 : Bool) => impl_SubStep_j1 w_ s x1 x2 = some r) [1, 5, 6, 7, 8] (fun (x2 : Bool) (_ : Unit) => [(18, .b x2)]) [1, 2, 3, 4, 5, 6, 7, 8, 9, 10, 11] (fun x2 _ => []) rfl (cl0 rfl (fun h => n_impl_BaseOk (h.a h1) (h.a h2) (h.a h3) (h.a h4) (h.a h5) (h.a h6) (h.a h7)) hF fun x4 _ hF => ca [13, 14] rfl rfl hF (fun hF => jn () [1, 2, 3, 4, 5, 6, 7, 8, 9, 10, 11] hF rfl rfl) fun hF => cl0 rfl (fun _ => n_impl_isWorker) hF fun x5 _ hF => jn () [1, 2, 3, 4, 5, 6, 7, 8, 9, 10, 11] hF rfl rfl) fun x2 _ hF => cs [18] rfl rfl hF (fun hF => dr [0, 10] rfl mixed_Tryz (by kernel_rfl) fun _ => rt (s8.1, s8.2.1, s8.2.2.1, s8.2.2.2.1, s8.2.2.2.2.1, s8.2.2.2.2.2.1, s8.2.2.2.2.2.2) [3, 4, 5, 6, 7, 8, 9] hF rfl rfl Tryz.results8 rfl rfl rfl rfl) fun hF => cw2 0 1 0 10 10 4 0 8 [3, 4, 5, 6, 7, 8, 9] rfl rfl rfl rfl rfl (fun _ _ => rfl) (fun _ => n_impl_Sub_step) hF fun x3 _ hF s9 => dr [0, 10] rfl mixed_Tryz (by kernel_rfl) fun _ => rt (s9.1, s9.2.1, s9.2.2.1, s9.2.2.2.1, s9.2.2.2.2.1, s9.2.2.2.2.2, s8.2.2.2.2.2.2) [11, 12, 13, 14, 15, 16, 17] hF rfl rfl Tryz.results8 rfl rfl rfl rfl
theorem n_laws_eqIntS {κ : Ctx} {a_ : List Int} {b : List Int} {s1 : AC} {s2 : AC} {r : Bool} (h1 : RdA κ s1 a_) (h2 : RdA κ s2 b) (hF : laws_eqIntS a_ b = some r) : Fn0 Tryz.prog 32 κ [.h s1 a_.length, .h s2 b.length] .b r :=
 en 26 Tryz.call32 Tryz.func32 tok rfl rfl rfl <| cs [10] rfl rfl hF (fun hF => rt () [] hF rfl rfl Tryz.results32 rfl rfl rfl rfl) fun hF => lp () [0, 1] (fun (x2 : Int) (_ : Unit) => [(5, I x2)]) [] [] (fun x2 _ => []) Out.brk [] (fun (_ : Unit) (_ : Unit) => []) [] (fun _ _ => []) rfl hF rfl (fun o_ hF1 x2 _ o1 hG1 hr1 => cs [14] rfl rfl hG1 (fun hG1 => dr [] rfl mixed_Tryz (by kernel_rfl) fun _ => ix cI rfl h1 hG1 rfl rfl rfl fun x3 _ hG1 _ _ => ix cI rfl h2 hG1 rfl rfl rfl fun x4 _ hG1 _ _ => cs [25] rfl rfl hG1 (fun hG1 => rt () [] (re hG1 rfl hr1 hF1) rfl rfl Tryz.results32 rfl rfl rfl rfl) fun hG1 => nx () [] hG1 rfl rfl) fun hG1 => bk () [] hG1 hr1 rfl rfl) fun () _ hF => rt () [] hF rfl rfl Tryz.results32 rfl rfl rfl rfl
theorem n_laws_eqHeap {κ : Ctx} {a_ : Heap} {b : Heap} {s1 s2 : AC} {s3 s4 : AC} {r : Bool} (h1 : RdA κ s1 a_.Bytes) (h2 : RdA κ s2 a_.Class) (h3 : RdA κ s3 b.Bytes) (h4 : RdA κ s4 b.Class) (hF : laws_eqHeap a_ b = some r) : Fn0 Tryz.prog 85 κ [.g [.h s1 a_.Bytes.length, .h s2 a_.Class.length], .g [.h s3 b.Bytes.length, .h s4 b.Class.length]] .b r :=
 en 17 Tryz.call85 Tryz.func85 tok rfl rfl rfl <| cl0 rfl (fun h => n_laws_eqIntS (h.a h1) (h.a h3)) hF fun x1 _ hF => cs [10] rfl rfl hF (fun hF => rt () [] hF rfl rfl Tryz.results85 rfl rfl rfl rfl) fun hF => cl0 rfl (fun h => n_laws_eqIntS (h.a h2) (h.a h4)) hF fun x2 _ hF => cs [16] rfl rfl hF (fun hF => rt () [] hF rfl rfl Tryz.results85 rfl rfl rfl rfl) fun hF => rt () [] hF rfl rfl Tryz.results85 rfl rfl rfl rfl
theorem n_laws_eqSList {κ : Ctx} {a_ : SList} {b : SList} {s1 : AC} {s2 : AC} {r : Bool} (h1 : RdA κ s1 a_.Slots) (h2 : RdA κ s2 b.Slots) (hF : laws_eqSList a_ b = some r) : Fn0 Tryz.prog 201 κ [.g [.h s1 a_.Slots.length], .g [.h s2 b.Slots.length]] .b r :=
 en 11 Tryz.call201 Tryz.func201 tok rfl rfl rfl <| cl0 rfl (fun h => n_laws_eqIntS (h.a h1) (h.a h2)) hF fun x1 _ hF => cs [10] rfl rfl hF (fun hF => rt () [] hF rfl rfl Tryz.results201 rfl rfl rfl rfl) fun hF => rt () [] hF rfl rfl Tryz.results201 rfl rfl rfl rfl
theorem n_laws_eqSListS {κ : Ctx} {a_ : List SList} {b : List SList} {s1 : AC} {s2 : AC} {r : Bool} (h1 : RdA κ s1 a_) (h2 : RdA κ s2 b) (hF : laws_eqSListS a_ b = some r) : Fn0 Tryz.prog 158 κ [.h s1 a_.length, .h s2 b.length] .b r :=
 en 27 Tryz.call158 Tryz.func158 tok rfl rfl rfl <| cs [10] rfl rfl hF (fun hF => rt () [] hF rfl rfl Tryz.results158 rfl rfl rfl rfl) fun hF => lp () [0, 1] (fun (x2 : Int) (_ : Unit) => [(5, I x2)]) [] [] (fun x2 _ => []) Out.brk [] (fun (_ : Unit) (_ : Unit) => []) [] (fun _ _ => []) rfl hF rfl (fun o_ hF1 x2 _ o1 hG1 hr1 => cs [14] rfl rfl hG1 (fun hG1 => dr [] rfl mixed_Tryz (by kernel_rfl) fun _ => ix cSList rfl h1 hG1 rfl rfl rfl fun x3 _ hG1 s3 h3 => ix cSList rfl h2 hG1 rfl rfl rfl fun x4 _ hG1 s4 h4 => cl0 rfl (fun h => n_laws_eqSList (h.a h3) (h.a h4)) hG1 fun x5 _ hG1 => cs [26] rfl rfl hG1 (fun hG1 => rt () [] (re hG1 rfl hr1 hF1) rfl rfl Tryz.results158 rfl rfl rfl rfl) fun hG1 => nx () [] hG1 rfl rfl) fun hG1 => bk () [] hG1 hr1 rfl rfl) fun () _ hF => rt () [] hF rfl rfl Tryz.results158 rfl rfl rfl rfl
theorem n_laws_eqLists {κ : Ctx} {a_ : Lists} {b : Lists} {s1 s2 : AC} {s3 s4 : AC} {r : Bool} (h1 : RdA κ s1 a_.Global) (h2 : RdA κ s2 a_.Own) (h3 : RdA κ s3 b.Global) (h4 : RdA κ s4 b.Own) (hF : laws_eqLists a_ b = some r) : Fn0 Tryz.prog 86 κ [.g [.h s1 a_.Global.length, .h s2 a_.Own.length], .g [.h s3 b.Global.length, .h s4 b.Own.length]] .b r :=
 en 17 Tryz.call86 Tryz.func86 tok rfl rfl rfl <| cl0 rfl (fun h => n_laws_eqSListS (h.a h1) (h.a h3)) hF fun x1 _ hF => cs [10] rfl rfl hF (fun hF => rt () [] hF rfl rfl Tryz.results86 rfl rfl rfl rfl) fun hF => cl0 rfl (fun h => n_laws_eqSListS (h.a h2) (h.a h4)) hF fun x2 _ hF => cs [16] rfl rfl hF (fun hF => rt () [] hF rfl rfl Tryz.results86 rfl rfl rfl rfl) fun hF => rt () [] hF rfl rfl Tryz.results86 rfl rfl rfl rfl
theorem n_laws_eqMem {κ : Ctx} {a_ : Mem} {b : Mem} {s1 s2 s3 s4 : AC} {s5 s6 s7 s8 : AC} {r : Bool} (h1 : RdA κ s1 a_.Heap.Bytes) (h2 : RdA κ s2 a_.Heap.Class) (h3 : RdA κ s3 a_.Lists.Global) (h4 : RdA κ s4 a_.Lists.Own) (h5 : RdA κ s5 b.Heap.Bytes) (h6 : RdA κ s6 b.Heap.Class) (h7 : RdA κ s7 b.Lists.Global) (h8 : RdA κ s8 b.Lists.Own) (hF : laws_eqMem a_ b = some r) : Fn0 Tryz.prog 29 κ [.g [.h s1 a_.Heap.Bytes.length, .h s2 a_.Heap.Class.length, .h s3 a_.Lists.Global.length, .h s4 a_.Lists.Own.length], .g [.h s5 b.Heap.Bytes.length, .h s6 b.Heap.Class.length, .h s7 b.Lists.Global.length, .h s8 b.Lists.Own.length]] .b r :=
 en 17 Tryz.call29 Tryz.func29 tok rfl rfl rfl <| cl0 rfl (fun h => n_laws_eqHeap (h.a h1) (h.a h2) (h.a h5) (h.a h6)) hF fun x1 _ hF => cs [10] rfl rfl hF (fun hF => rt () [] hF rfl rfl Tryz.results29 rfl rfl rfl rfl) fun hF => cl0 rfl (fun h => n_laws_eqLists (h.a h3) (h.a h4) (h.a h7) (h.a h8)) hF fun x2 _ hF => cs [16] rfl rfl hF (fun hF => rt () [] hF rfl rfl Tryz.results29 rfl rfl rfl rfl) fun hF => rt () [] hF rfl rfl Tryz.results29 rfl rfl rfl rfl
theorem n_laws_eqPin {κ : Ctx} {a_ : Pin} {b : Pin}  {r : Bool}  (hF : laws_eqPin a_ b = some r) : Fn0 Tryz.prog 159 κ [.g [.b a_.On, I a_.Epoch, .b a_.Marked, I a_.Seen], .g [.b b.On, I b.Epoch, .b b.Marked, I b.Seen]] .b r :=
 en 25 Tryz.call159 Tryz.func159 tok rfl rfl rfl <| cs [9] rfl rfl hF (fun hF => rt () [] hF rfl rfl Tryz.results159 rfl rfl rfl rfl) fun hF => cs [14] rfl rfl hF (fun hF => rt () [] hF rfl rfl Tryz.results159 rfl rfl rfl rfl) fun hF => cs [19] rfl rfl hF (fun hF => rt () [] hF rfl rfl Tryz.results159 rfl rfl rfl rfl) fun hF => cs [24] rfl rfl hF (fun hF => rt () [] hF rfl rfl Tryz.results159 rfl rfl rfl rfl) fun hF => rt () [] hF rfl rfl Tryz.results159 rfl rfl rfl rfl
theorem n_laws_eqPinS {κ : Ctx} {a_ : List Pin} {b : List Pin} {s1 : AC} {s2 : AC} {r : Bool} (h1 : RdA κ s1 a_) (h2 : RdA κ s2 b) (hF : laws_eqPinS a_ b = some r) : Fn0 Tryz.prog 87 κ [.h s1 a_.length, .h s2 b.length] .b r :=
 en 27 Tryz.call87 Tryz.func87 tok rfl rfl rfl <| cs [10] rfl rfl hF (fun hF => rt () [] hF rfl rfl Tryz.results87 rfl rfl rfl rfl) fun hF => lp () [0, 1] (fun (x2 : Int) (_ : Unit) => [(5, I x2)]) [] [] (fun x2 _ => []) Out.brk [] (fun (_ : Unit) (_ : Unit) => []) [] (fun _ _ => []) rfl hF rfl (fun o_ hF1 x2 _ o1 hG1 hr1 => cs [14] rfl rfl hG1 (fun hG1 => dr [] rfl mixed_Tryz (by kernel_rfl) fun _ => ix cPin rfl h1 hG1 rfl rfl rfl fun x3 _ hG1 _ _ => ix cPin rfl h2 hG1 rfl rfl rfl fun x4 _ hG1 _ _ => cl0 rfl (fun _ => n_laws_eqPin) hG1 fun x5 _ hG1 => cs [26] rfl rfl hG1 (fun hG1 => rt () [] (re hG1 rfl hr1 hF1) rfl rfl Tryz.results87 rfl rfl rfl rfl) fun hG1 => nx () [] hG1 rfl rfl) fun hG1 => bk () [] hG1 hr1 rfl rfl) fun () _ hF => rt () [] hF rfl rfl Tryz.results87 rfl rfl rfl rfl
theorem n_laws_eqClock {κ : Ctx} {a_ : Clock} {b : Clock} {s1 : AC} {s2 : AC} {r : Bool} (h1 : RdA κ s1 a_.Pins) (h2 : RdA κ s2 b.Pins) (hF : laws_eqClock a_ b = some r) : Fn0 Tryz.prog 30 κ [.g [I a_.Epoch, .h s1 a_.Pins.length], .g [I b.Epoch, .h s2 b.Pins.length]] .b r :=
 en 16 Tryz.call30 Tryz.func30 tok rfl rfl rfl <| cs [9] rfl rfl hF (fun hF => rt () [] hF rfl rfl Tryz.results30 rfl rfl rfl rfl) fun hF => cl0 rfl (fun h => n_laws_eqPinS (h.a h1) (h.a h2)) hF fun x1 _ hF => cs [15] rfl rfl hF (fun hF => rt () [] hF rfl rfl Tryz.results30 rfl rfl rfl rfl) fun hF => rt () [] hF rfl rfl Tryz.results30 rfl rfl rfl rfl
theorem n_laws_eqLRow {κ : Ctx} {a_ : LRow} {b : LRow}  {r : Bool}  (hF : laws_eqLRow a_ b = some r) : Fn0 Tryz.prog 202 κ [.g [I a_.Handle, I a_.Epoch], .g [I b.Handle, I b.Epoch]] .b r :=
 en 15 Tryz.call202 Tryz.func202 tok rfl rfl rfl <| cs [9] rfl rfl hF (fun hF => rt () [] hF rfl rfl Tryz.results202 rfl rfl rfl rfl) fun hF => cs [14] rfl rfl hF (fun hF => rt () [] hF rfl rfl Tryz.results202 rfl rfl rfl rfl) fun hF => rt () [] hF rfl rfl Tryz.results202 rfl rfl rfl rfl
theorem n_laws_eqLRowS {κ : Ctx} {a_ : List LRow} {b : List LRow} {s1 : AC} {s2 : AC} {r : Bool} (h1 : RdA κ s1 a_) (h2 : RdA κ s2 b) (hF : laws_eqLRowS a_ b = some r) : Fn0 Tryz.prog 160 κ [.h s1 a_.length, .h s2 b.length] .b r :=
 en 27 Tryz.call160 Tryz.func160 tok rfl rfl rfl <| cs [10] rfl rfl hF (fun hF => rt () [] hF rfl rfl Tryz.results160 rfl rfl rfl rfl) fun hF => lp () [0, 1] (fun (x2 : Int) (_ : Unit) => [(5, I x2)]) [] [] (fun x2 _ => []) Out.brk [] (fun (_ : Unit) (_ : Unit) => []) [] (fun _ _ => []) rfl hF rfl (fun o_ hF1 x2 _ o1 hG1 hr1 => cs [14] rfl rfl hG1 (fun hG1 => dr [] rfl mixed_Tryz (by kernel_rfl) fun _ => ix cLRow rfl h1 hG1 rfl rfl rfl fun x3 _ hG1 _ _ => ix cLRow rfl h2 hG1 rfl rfl rfl fun x4 _ hG1 _ _ => cl0 rfl (fun _ => n_laws_eqLRow) hG1 fun x5 _ hG1 => cs [26] rfl rfl hG1 (fun hG1 => rt () [] (re hG1 rfl hr1 hF1) rfl rfl Tryz.results160 rfl rfl rfl rfl) fun hG1 => nx () [] hG1 rfl rfl) fun hG1 => bk () [] hG1 hr1 rfl rfl) fun () _ hF => rt () [] hF rfl rfl Tryz.results160 rfl rfl rfl rfl
theorem n_laws_eqLList {κ : Ctx} {a_ : LList} {b : LList} {s1 : AC} {s2 : AC} {r : Bool} (h1 : RdA κ s1 a_.Rows) (h2 : RdA κ s2 b.Rows) (hF : laws_eqLList a_ b = some r) : Fn0 Tryz.prog 88 κ [.g [.h s1 a_.Rows.length], .g [.h s2 b.Rows.length]] .b r :=
 en 11 Tryz.call88 Tryz.func88 tok rfl rfl rfl <| cl0 rfl (fun h => n_laws_eqLRowS (h.a h1) (h.a h2)) hF fun x1 _ hF => cs [10] rfl rfl hF (fun hF => rt () [] hF rfl rfl Tryz.results88 rfl rfl rfl rfl) fun hF => rt () [] hF rfl rfl Tryz.results88 rfl rfl rfl rfl
theorem n_laws_eqLListS {κ : Ctx} {a_ : List LList} {b : List LList} {s1 : AC} {s2 : AC} {r : Bool} (h1 : RdA κ s1 a_) (h2 : RdA κ s2 b) (hF : laws_eqLListS a_ b = some r) : Fn0 Tryz.prog 31 κ [.h s1 a_.length, .h s2 b.length] .b r :=
 en 27 Tryz.call31 Tryz.func31 tok rfl rfl rfl <| cs [10] rfl rfl hF (fun hF => rt () [] hF rfl rfl Tryz.results31 rfl rfl rfl rfl) fun hF => lp () [0, 1] (fun (x2 : Int) (_ : Unit) => [(5, I x2)]) [] [] (fun x2 _ => []) Out.brk [] (fun (_ : Unit) (_ : Unit) => []) [] (fun _ _ => []) rfl hF rfl (fun o_ hF1 x2 _ o1 hG1 hr1 => cs [14] rfl rfl hG1 (fun hG1 => dr [] rfl mixed_Tryz (by kernel_rfl) fun _ => ix cLList rfl h1 hG1 rfl rfl rfl fun x3 _ hG1 s3 h3 => ix cLList rfl h2 hG1 rfl rfl rfl fun x4 _ hG1 s4 h4 => cl0 rfl (fun h => n_laws_eqLList (h.a h3) (h.a h4)) hG1 fun x5 _ hG1 => cs [26] rfl rfl hG1 (fun hG1 => rt () [] (re hG1 rfl hr1 hF1) rfl rfl Tryz.results31 rfl rfl rfl rfl) fun hG1 => nx () [] hG1 rfl rfl) fun hG1 => bk () [] hG1 hr1 rfl rfl) fun () _ hF => rt () [] hF rfl rfl Tryz.results31 rfl rfl rfl rfl
theorem n_laws_eqBase {κ : Ctx} {a_ : Base} {b : Base} {s1 s2 s3 s4 s5 s6 s7 : AC} {s8 s9 s10 s11 s12 s13 s14 : AC} {r : Bool} (h1 : RdA κ s1 a_.Mem.Heap.Bytes) (h2 : RdA κ s2 a_.Mem.Heap.Class) (h3 : RdA κ s3 a_.Mem.Lists.Global) (h4 : RdA κ s4 a_.Mem.Lists.Own) (h5 : RdA κ s5 a_.Clock.Pins) (h6 : RdA κ s6 a_.Limbo) (h7 : RdA κ s7 a_.Haz) (h8 : RdA κ s8 b.Mem.Heap.Bytes) (h9 : RdA κ s9 b.Mem.Heap.Class) (h10 : RdA κ s10 b.Mem.Lists.Global) (h11 : RdA κ s11 b.Mem.Lists.Own) (h12 : RdA κ s12 b.Clock.Pins) (h13 : RdA κ s13 b.Limbo) (h14 : RdA κ s14 b.Haz) (hF : laws_eqBase a_ b = some r) : Fn0 Tryz.prog 9 κ [.g [.h s1 a_.Mem.Heap.Bytes.length, .h s2 a_.Mem.Heap.Class.length, .h s3 a_.Mem.Lists.Global.length, .h s4 a_.Mem.Lists.Own.length, I a_.Clock.Epoch, .h s5 a_.Clock.Pins.length, .h s6 a_.Limbo.length, .h s7 a_.Haz.length], .g [.h s8 b.Mem.Heap.Bytes.length, .h s9 b.Mem.Heap.Class.length, .h s10 b.Mem.Lists.Global.length, .h s11 b.Mem.Lists.Own.length, I b.Clock.Epoch, .h s12 b.Clock.Pins.length, .h s13 b.Limbo.length, .h s14 b.Haz.length]] .b r :=
 en 29 Tryz.call9 Tryz.func9 tok rfl rfl rfl <| cl0 rfl (fun h => n_laws_eqMem (h.a h1) (h.a h2) (h.a h3) (h.a h4) (h.a h8) (h.a h9) (h.a h10) (h.a h11)) hF fun x1 _ hF => cs [10] rfl rfl hF (fun hF => rt () [] hF rfl rfl Tryz.results9 rfl rfl rfl rfl) fun hF => cl0 rfl (fun h => n_laws_eqClock (h.a h5) (h.a h12)) hF fun x2 _ hF => cs [16] rfl rfl hF (fun hF => rt () [] hF rfl rfl Tryz.results9 rfl rfl rfl rfl) fun hF => cl0 rfl (fun h => n_laws_eqLListS (h.a h6) (h.a h13)) hF fun x3 _ hF => cs [22] rfl rfl hF (fun hF => rt () [] hF rfl rfl Tryz.results9 rfl rfl rfl rfl) fun hF => cl0 rfl (fun h => n_laws_eqIntS (h.a h7) (h.a h14)) hF fun x4 _ hF => cs [28] rfl rfl hF (fun hF => rt () [] hF rfl rfl Tryz.results9 rfl rfl rfl rfl) fun hF => rt () [] hF rfl rfl Tryz.results9 rfl rfl rfl rfl
theorem n_laws_eqSub {κ : Ctx} {a_ : Sub} {b : Sub}  {r : Bool}  (hF : laws_eqSub a_ b = some r) : Fn0 Tryz.prog 10 κ [.g [I a_.Kind, I a_.A, I a_.Pc, I a_.E, I a_.Row, I a_.B, I a_.H, I a_.Out, I a_.Code, .b a_.Done], .g [I b.Kind, I b.A, I b.Pc, I b.E, I b.Row, I b.B, I b.H, I b.Out, I b.Code, .b b.Done]] .b r :=
 en 55 Tryz.call10 Tryz.func10 tok rfl rfl rfl <| cs [9] rfl rfl hF (fun hF => rt () [] hF rfl rfl Tryz.results10 rfl rfl rfl rfl) fun hF => cs [14] rfl rfl hF (fun hF => rt () [] hF rfl rfl Tryz.results10 rfl rfl rfl rfl) fun hF => cs [19] rfl rfl hF (fun hF => rt () [] hF rfl rfl Tryz.results10 rfl rfl rfl rfl) fun hF => cs [24] rfl rfl hF (fun hF => rt () [] hF rfl rfl Tryz.results10 rfl rfl rfl rfl) fun hF => cs [29] rfl rfl hF (fun hF => rt () [] hF rfl rfl Tryz.results10 rfl rfl rfl rfl) fun hF => cs [34] rfl rfl hF (fun hF => rt () [] hF rfl rfl Tryz.results10 rfl rfl rfl rfl) fun hF => cs [39] rfl rfl hF (fun hF => rt () [] hF rfl rfl Tryz.results10 rfl rfl rfl rfl) fun hF => cs [44] rfl rfl hF (fun hF => rt () [] hF rfl rfl Tryz.results10 rfl rfl rfl rfl) fun hF => cs [49] rfl rfl hF (fun hF => rt () [] hF rfl rfl Tryz.results10 rfl rfl rfl rfl) fun hF => cs [54] rfl rfl hF (fun hF => rt () [] hF rfl rfl Tryz.results10 rfl rfl rfl rfl) fun hF => rt () [] hF rfl rfl Tryz.results10 rfl rfl rfl rfl
theorem n_laws_markIntS {κ : Ctx} {a_ : List Int} {k : Int} {s1 : AC} {r : Int × (List Int)} (hF : laws_markIntS a_ k = some r) : FnS Tryz.prog 36 κ [.h s1 a_.length, I k] [] [ow s1 a_] (fun (r : Int × (List Int)) (_ : Unit) => I r.1) (fun (r : Int × (List Int)) (_ : Unit) => [.o (cOwn [AC.v s1 a_.length] r.2)]) r :=
 oldW Tryz.call36 fun hS vs hv => by cases hv; exact Calls.mono (c_laws_markIntS hS hF) fun _ _ ⟨v, h1, h2, h3⟩ => ⟨v, h1, by rw [h2]; rfl, h3⟩
theorem n_laws_markHeap {κ : Ctx} {a_ : Heap} {k : Int} {s1 s2 : AC} {r : Int × (List Int) × (List Int)}  (hF : laws_markHeap a_ k = some r) : FnS Tryz.prog 89 κ [.g [.h s1 a_.Bytes.length, .h s2 a_.Class.length], I k] [] [ow s1 (a_.Bytes : List Int), ow s2 (a_.Class : List Int)] (fun (r : Int × (List Int) × (List Int)) (y : Unit) => I r.1) (fun (r : Int × (List Int) × (List Int)) (y : Unit) => [.o (cOwn [AC.v s1 a_.Bytes.length] r.2.1), .o (cOwn [AC.v s2 a_.Class.length] r.2.2)]) r :=
 en 14 Tryz.call89 Tryz.func89 tok rfl rfl rfl <| cw0  [0] rfl rfl rfl rfl (fun _ _ => rfl) (fun _ => n_laws_markIntS) hF fun x1 _ hF _ => un 3 [6] [(0, 0)] [(2, 0)] rfl rfl rfl rfl rfl rfl fun hl1 => cw0  [1] rfl rfl rfl rfl (fun _ _ => rfl) (fun _ => n_laws_markIntS) hF fun x2 _ hF _ => un 4 [10] [(0, 1)] [(2, 1)] rfl rfl rfl rfl rfl rfl fun hl2 => sR rfl <| pnR 3 hl1 rfl <| pnR 4 hl2 rfl <| rtR (hT := tok) () [3, 4] hF rfl Tryz.results89 rfl rfl rfl rfl
theorem n_laws_markSListS {κ : Ctx} {a_ : List SList} {k : Int} {s1 : AC} {r : Int × (List SList)} (hF : laws_markSListS a_ k = some r) : FnS Tryz.prog 161 κ [.h s1 a_.length, I k] [] [ow s1 a_] (fun (r : Int × (List SList)) (_ : Unit) => I r.1) (fun (r : Int × (List SList)) (_ : Unit) => [.o (cOwn [AC.v s1 a_.length] r.2)]) r :=
 oldW Tryz.call161 fun hS vs hv => by cases hv; exact Calls.mono (c_laws_markSListS hS hF) fun _ _ ⟨v, h1, h2, h3⟩ => ⟨v, h1, by rw [h2]; rfl, h3⟩
theorem n_laws_markLists {κ : Ctx} {a_ : Lists} {k : Int} {s1 s2 : AC} {r : Int × (List SList) × (List SList)}  (hF : laws_markLists a_ k = some r) : FnS Tryz.prog 90 κ [.g [.h s1 a_.Global.length, .h s2 a_.Own.length], I k] [] [ow s1 (a_.Global : List SList), ow s2 (a_.Own : List SList)] (fun (r : Int × (List SList) × (List SList)) (y : Unit) => I r.1) (fun (r : Int × (List SList) × (List SList)) (y : Unit) => [.o (cOwn [AC.v s1 a_.Global.length] r.2.1), .o (cOwn [AC.v s2 a_.Own.length] r.2.2)]) r :=
 en 14 Tryz.call90 Tryz.func90 tok rfl rfl rfl <| cw0  [0] rfl rfl rfl rfl (fun _ _ => rfl) (fun _ => n_laws_markSListS) hF fun x1 _ hF _ => un 3 [6] [(0, 0)] [(2, 0)] rfl rfl rfl rfl rfl rfl fun hl1 => cw0  [1] rfl rfl rfl rfl (fun _ _ => rfl) (fun _ => n_laws_markSListS) hF fun x2 _ hF _ => un 4 [10] [(0, 1)] [(2, 1)] rfl rfl rfl rfl rfl rfl fun hl2 => sR rfl <| pnR 3 hl1 rfl <| pnR 4 hl2 rfl <| rtR (hT := tok) () [3, 4] hF rfl Tryz.results90 rfl rfl rfl rfl
theorem n_laws_markMem {κ : Ctx} {a_ : Mem} {k : Int} {s1 s2 s3 s4 : AC} {r : Int × (List Int) × (List Int) × (List SList) × (List SList)}  (hF : laws_markMem a_ k = some r) : FnS Tryz.prog 33 κ [.g [.h s1 a_.Heap.Bytes.length, .h s2 a_.Heap.Class.length, .h s3 a_.Lists.Global.length, .h s4 a_.Lists.Own.length], I k] [] [ow s1 (a_.Heap.Bytes : List Int), ow s2 (a_.Heap.Class : List Int), ow s3 (a_.Lists.Global : List SList), ow s4 (a_.Lists.Own : List SList)] (fun (r : Int × (List Int) × (List Int) × (List SList) × (List SList)) (y : Unit) => I r.1) (fun (r : Int × (List Int) × (List Int) × (List SList) × (List SList)) (y : Unit) => [.o (cOwn [AC.v s1 a_.Heap.Bytes.length] r.2.1), .o (cOwn [AC.v s2 a_.Heap.Class.length] r.2.2.1), .o (cOwn [AC.v s3 a_.Lists.Global.length] r.2.2.2.1), .o (cOwn [AC.v s4 a_.Lists.Own.length] r.2.2.2.2)]) r :=
 en 14 Tryz.call33 Tryz.func33 tok rfl rfl rfl <| cw0  [0, 1] rfl rfl rfl rfl (fun _ _ => rfl) (fun _ => n_laws_markHeap) hF fun x1 _ hF _ => un 5 [] [(0, 0), (6, 0)] [(4, 0)] rfl rfl rfl rfl rfl rfl fun hl1 => fG rfl rfl <| un 6 [] [(0, 1), (6, 1)] [(4, 1)] rfl rfl rfl rfl rfl rfl fun hl2 => fG rfl rfl <| cw0  [2, 3] rfl rfl rfl rfl (fun _ _ => rfl) (fun _ => n_laws_markLists) hF fun x2 _ hF _ => un 7 [] [(0, 2), (10, 0)] [(4, 2)] rfl rfl rfl rfl rfl rfl fun hl3 => fG rfl rfl <| un 8 [] [(0, 3), (10, 1)] [(4, 3)] rfl rfl rfl rfl rfl rfl fun hl4 => fG rfl rfl <| sR rfl <| pnR 5 hl1 rfl <| pnR 6 hl2 rfl <| pnR 7 hl3 rfl <| pnR 8 hl4 rfl <| rtR (hT := tok) () [5, 6, 7, 8] hF rfl Tryz.results33 rfl rfl rfl rfl
theorem n_laws_markPinS {κ : Ctx} {a_ : List Pin} {k : Int} {s1 : AC} {r : Int × (List Pin)} (hF : laws_markPinS a_ k = some r) : FnS Tryz.prog 91 κ [.h s1 a_.length, I k] [] [ow s1 a_] (fun (r : Int × (List Pin)) (_ : Unit) => I r.1) (fun (r : Int × (List Pin)) (_ : Unit) => [.o (cOwn [AC.v s1 a_.length] r.2)]) r :=
 oldW Tryz.call91 fun hS vs hv => by cases hv; exact Calls.mono (c_laws_markPinS hS hF) fun _ _ ⟨v, h1, h2, h3⟩ => ⟨v, h1, by rw [h2]; rfl, h3⟩
theorem n_laws_markClock {κ : Ctx} {a_ : Clock} {k : Int} {s1 : AC} {r : Int × (List Pin)}  (hF : laws_markClock a_ k = some r) : FnS Tryz.prog 34 κ [.g [I a_.Epoch, .h s1 a_.Pins.length], I k] [] [ow s1 (a_.Pins : List Pin)] (fun (r : Int × (List Pin)) (y : Unit) => I r.1) (fun (r : Int × (List Pin)) (y : Unit) => [.o (cOwn [AC.v s1 a_.Pins.length] r.2)]) r :=
 en 10 Tryz.call34 Tryz.func34 tok rfl rfl rfl <| cw0  [0] rfl rfl rfl rfl (fun _ _ => rfl) (fun _ => n_laws_markPinS) hF fun x1 _ hF _ => un 2 [6] [(0, 1)] [(1, 1)] rfl rfl rfl rfl rfl rfl fun hl1 => sR rfl <| pnR 2 hl1 rfl <| rtR (hT := tok) () [2] hF rfl Tryz.results34 rfl rfl rfl rfl
theorem n_laws_markLListS {κ : Ctx} {a_ : List LList} {k : Int} {s1 : AC} {r : Int × (List LList)} (hF : laws_markLListS a_ k = some r) : FnS Tryz.prog 35 κ [.h s1 a_.length, I k] [] [ow s1 a_] (fun (r : Int × (List LList)) (_ : Unit) => I r.1) (fun (r : Int × (List LList)) (_ : Unit) => [.o (cOwn [AC.v s1 a_.length] r.2)]) r :=
 oldW Tryz.call35 fun hS vs hv => by cases hv; exact Calls.mono (c_laws_markLListS hS hF) fun _ _ ⟨v, h1, h2, h3⟩ => ⟨v, h1, by rw [h2]; rfl, h3⟩
theorem n_laws_markBase {κ : Ctx} {a_ : Base} {k : Int} {s1 s2 s3 s4 s5 s6 s7 : AC} {r : Int × (List Int) × (List Int) × (List SList) × (List SList) × (List Pin) × (List LList) × (List Int)}  (hF : laws_markBase a_ k = some r) : FnS Tryz.prog 11 κ [.g [.h s1 a_.Mem.Heap.Bytes.length, .h s2 a_.Mem.Heap.Class.length, .h s3 a_.Mem.Lists.Global.length, .h s4 a_.Mem.Lists.Own.length, I a_.Clock.Epoch, .h s5 a_.Clock.Pins.length, .h s6 a_.Limbo.length, .h s7 a_.Haz.length], I k] [] [ow s1 (a_.Mem.Heap.Bytes : List Int), ow s2 (a_.Mem.Heap.Class : List Int), ow s3 (a_.Mem.Lists.Global : List SList), ow s4 (a_.Mem.Lists.Own : List SList), ow s5 (a_.Clock.Pins : List Pin), ow s6 (a_.Limbo : List LList), ow s7 (a_.Haz : List Int)] (fun (r : Int × (List Int) × (List Int) × (List SList) × (List SList) × (List Pin) × (List LList) × (List Int)) (y : Unit) => I r.1) (fun (r : Int × (List Int) × (List Int) × (List SList) × (List SList) × (List Pin) × (List LList) × (List Int)) (y : Unit) => [.o (cOwn [AC.v s1 a_.Mem.Heap.Bytes.length] r.2.1), .o (cOwn [AC.v s2 a_.Mem.Heap.Class.length] r.2.2.1), .o (cOwn [AC.v s3 a_.Mem.Lists.Global.length] r.2.2.2.1), .o (cOwn [AC.v s4 a_.Mem.Lists.Own.length] r.2.2.2.2.1), .o (cOwn [AC.v s5 a_.Clock.Pins.length] r.2.2.2.2.2.1), .o (cOwn [AC.v s6 a_.Limbo.length] r.2.2.2.2.2.2.1), .o (cOwn [AC.v s7 a_.Haz.length] r.2.2.2.2.2.2.2)]) r :=
 en 22 Tryz.call11 Tryz.func11 tok rfl rfl rfl <| cw0  [0, 1, 2, 3] rfl rfl rfl rfl (fun _ _ => rfl) (fun _ => n_laws_markMem) hF fun x1 _ hF _ => un 8 [] [(0, 0), (6, 0)] [(7, 0)] rfl rfl rfl rfl rfl rfl fun hl1 => fG rfl rfl <| un 9 [] [(0, 1), (6, 1)] [(7, 1)] rfl rfl rfl rfl rfl rfl fun hl2 => fG rfl rfl <| un 10 [] [(0, 2), (6, 2)] [(7, 2)] rfl rfl rfl rfl rfl rfl fun hl3 => fG rfl rfl <| un 11 [] [(0, 3), (6, 3)] [(7, 3)] rfl rfl rfl rfl rfl rfl fun hl4 => fG rfl rfl <| cw0  [4] rfl rfl rfl rfl (fun _ _ => rfl) (fun _ => n_laws_markClock) hF fun x2 _ hF _ => un 12 [] [(0, 5), (10, 1)] [(7, 5)] rfl rfl rfl rfl rfl rfl fun hl5 => cw0  [5] rfl rfl rfl rfl (fun _ _ => rfl) (fun _ => n_laws_markLListS) hF fun x3 _ hF _ => un 13 [14] [(0, 6)] [(7, 6)] rfl rfl rfl rfl rfl rfl fun hl6 => cw0  [6] rfl rfl rfl rfl (fun _ _ => rfl) (fun _ => n_laws_markIntS) hF fun x4 _ hF _ => un 14 [18] [(0, 7)] [(7, 7)] rfl rfl rfl rfl rfl rfl fun hl7 => sR rfl <| pnR 8 hl1 rfl <| pnR 9 hl2 rfl <| pnR 10 hl3 rfl <| pnR 11 hl4 rfl <| pnR 12 hl5 rfl <| pnR 13 hl6 rfl <| pnR 14 hl7 rfl <| rtR (hT := tok) () [8, 9, 10, 11, 12, 13, 14] hF rfl Tryz.results11 rfl rfl rfl rfl
theorem n_laws_heldIntS {κ : Ctx} {a_ : List Int} {k : Int} {s1 : AC} {r : Int} (h1 : RdA κ s1 a_) (hF : laws_heldIntS a_ k = some r) : Fn0 Tryz.prog 40 κ [.h s1 a_.length, I k] I r :=
 en 21 Tryz.call40 Tryz.func40 tok rfl rfl rfl <| lp () [0] (fun (p : Int × Int) (_ : Unit) => [(1, I p.1), (5, I p.2)]) [] [] (fun p _ => []) Out.brk [] (fun (x5 : Int) (_ : Unit) => [(1, I x5)]) [] (fun x5 _ => []) rfl hF rfl (fun o_ hF1 ⟨x3, x4⟩ _ o1 hG1 hr1 => cs [9] rfl rfl hG1 (fun hG1 => ix cI rfl h1 hG1 rfl rfl rfl fun x6 _ hG1 _ _ => cs [17] rfl rfl hG1 (fun hG1 => rt () [] (re hG1 rfl hr1 hF1) rfl rfl Tryz.results40 rfl rfl rfl rfl) fun hG1 => nx () [] hG1 rfl rfl) fun hG1 => bk () [] hG1 hr1 rfl rfl) fun x5 _ hF => rt () [] hF rfl rfl Tryz.results40 rfl rfl rfl rfl
theorem n_laws_heldHeap {κ : Ctx} {a_ : Heap} {k : Int} {s1 s2 : AC} {r : Int} (h1 : RdA κ s1 a_.Bytes) (h2 : RdA κ s2 a_.Class) (hF : laws_heldHeap a_ k = some r) : Fn0 Tryz.prog 93 κ [.g [.h s1 a_.Bytes.length, .h s2 a_.Class.length], I k] I r :=
 en 18 Tryz.call93 Tryz.func93 tok rfl rfl rfl <| cl0 rfl (fun h => n_laws_heldIntS (h.a h1)) hF fun x1 _ hF => cs [10] rfl rfl hF (fun hF => rt () [] hF rfl rfl Tryz.results93 rfl rfl rfl rfl) fun hF => cl0 rfl (fun h => n_laws_heldIntS (h.a h2)) hF fun x2 _ hF => cs [16] rfl rfl hF (fun hF => rt () [] hF rfl rfl Tryz.results93 rfl rfl rfl rfl) fun hF => rt () [] hF rfl rfl Tryz.results93 rfl rfl rfl rfl
theorem n_laws_heldSListS {κ : Ctx} {a_ : List SList} {k : Int} {s1 : AC} {r : Int} (h1 : RdA κ s1 a_) (hF : laws_heldSListS a_ k = some r) : Fn0 Tryz.prog 162 κ [.h s1 a_.length, I k] I r :=
 en 22 Tryz.call162 Tryz.func162 tok rfl rfl rfl <| lp () [0] (fun (p : Int × Int) (_ : Unit) => [(1, I p.1), (5, I p.2)]) [] [] (fun p _ => []) Out.brk [] (fun (x5 : Int) (_ : Unit) => [(1, I x5)]) [] (fun x5 _ => []) rfl hF rfl (fun o_ hF1 ⟨x3, x4⟩ _ o1 hG1 hr1 => cs [9] rfl rfl hG1 (fun hG1 => ix cSList rfl h1 hG1 rfl rfl rfl fun x6 _ hG1 s2 h2 => cl0 rfl (fun h => n_laws_heldIntS (h.a h2)) hG1 fun x7 _ hG1 => cs [20] rfl rfl hG1 (fun hG1 => rt () [] (re hG1 rfl hr1 hF1) rfl rfl Tryz.results162 rfl rfl rfl rfl) fun hG1 => nx () [] hG1 rfl rfl) fun hG1 => bk () [] hG1 hr1 rfl rfl) fun x5 _ hF => rt () [] hF rfl rfl Tryz.results162 rfl rfl rfl rfl
theorem n_laws_heldLists {κ : Ctx} {a_ : Lists} {k : Int} {s1 s2 : AC} {r : Int} (h1 : RdA κ s1 a_.Global) (h2 : RdA κ s2 a_.Own) (hF : laws_heldLists a_ k = some r) : Fn0 Tryz.prog 94 κ [.g [.h s1 a_.Global.length, .h s2 a_.Own.length], I k] I r :=
 en 18 Tryz.call94 Tryz.func94 tok rfl rfl rfl <| cl0 rfl (fun h => n_laws_heldSListS (h.a h1)) hF fun x1 _ hF => cs [10] rfl rfl hF (fun hF => rt () [] hF rfl rfl Tryz.results94 rfl rfl rfl rfl) fun hF => cl0 rfl (fun h => n_laws_heldSListS (h.a h2)) hF fun x2 _ hF => cs [16] rfl rfl hF (fun hF => rt () [] hF rfl rfl Tryz.results94 rfl rfl rfl rfl) fun hF => rt () [] hF rfl rfl Tryz.results94 rfl rfl rfl rfl
theorem n_laws_heldMem {κ : Ctx} {a_ : Mem} {k : Int} {s1 s2 s3 s4 : AC} {r : Int} (h1 : RdA κ s1 a_.Heap.Bytes) (h2 : RdA κ s2 a_.Heap.Class) (h3 : RdA κ s3 a_.Lists.Global) (h4 : RdA κ s4 a_.Lists.Own) (hF : laws_heldMem a_ k = some r) : Fn0 Tryz.prog 37 κ [.g [.h s1 a_.Heap.Bytes.length, .h s2 a_.Heap.Class.length, .h s3 a_.Lists.Global.length, .h s4 a_.Lists.Own.length], I k] I r :=
 en 18 Tryz.call37 Tryz.func37 tok rfl rfl rfl <| cl0 rfl (fun h => n_laws_heldHeap (h.a h1) (h.a h2)) hF fun x1 _ hF => cs [10] rfl rfl hF (fun hF => rt () [] hF rfl rfl Tryz.results37 rfl rfl rfl rfl) fun hF => cl0 rfl (fun h => n_laws_heldLists (h.a h3) (h.a h4)) hF fun x2 _ hF => cs [16] rfl rfl hF (fun hF => rt () [] hF rfl rfl Tryz.results37 rfl rfl rfl rfl) fun hF => rt () [] hF rfl rfl Tryz.results37 rfl rfl rfl rfl
theorem n_laws_heldPinS {κ : Ctx} {a_ : List Pin} {k : Int} {s1 : AC} {r : Int} (h1 : RdA κ s1 a_) (hF : laws_heldPinS a_ k = some r) : Fn0 Tryz.prog 95 κ [.h s1 a_.length, I k] I r :=
 en 53 Tryz.call95 Tryz.func95 tok rfl rfl rfl <| lp () [0] (fun (p : Int × Int) (_ : Unit) => [(1, I p.1), (5, I p.2)]) [] [] (fun p _ => []) Out.brk [] (fun (x5 : Int) (_ : Unit) => [(1, I x5)]) [] (fun x5 _ => []) rfl hF rfl (fun o_ hF1 ⟨x3, x4⟩ _ o1 hG1 hr1 => cs [9] rfl rfl hG1 (fun hG1 => ix cPin rfl h1 hG1 rfl rfl rfl fun x6 _ hG1 _ _ => cs [20] rfl rfl hG1 (fun hG1 => rt () [] (re hG1 rfl hr1 hF1) rfl rfl Tryz.results95 rfl rfl rfl rfl) fun hG1 => ix cPin rfl h1 hG1 rfl rfl rfl fun x7 _ hG1 _ _ => cs [29] rfl rfl hG1 (fun hG1 => rt () [] (re hG1 rfl hr1 hF1) rfl rfl Tryz.results95 rfl rfl rfl rfl) fun hG1 => ix cPin rfl h1 hG1 rfl rfl rfl fun x8 _ hG1 _ _ => cs [40] rfl rfl hG1 (fun hG1 => rt () [] (re hG1 rfl hr1 hF1) rfl rfl Tryz.results95 rfl rfl rfl rfl) fun hG1 => ix cPin rfl h1 hG1 rfl rfl rfl fun x9 _ hG1 _ _ => cs [49] rfl rfl hG1 (fun hG1 => rt () [] (re hG1 rfl hr1 hF1) rfl rfl Tryz.results95 rfl rfl rfl rfl) fun hG1 => nx () [] hG1 rfl rfl) fun hG1 => bk () [] hG1 hr1 rfl rfl) fun x5 _ hF => rt () [] hF rfl rfl Tryz.results95 rfl rfl rfl rfl
theorem n_laws_heldClock {κ : Ctx} {a_ : Clock} {k : Int} {s1 : AC} {r : Int} (h1 : RdA κ s1 a_.Pins) (hF : laws_heldClock a_ k = some r) : Fn0 Tryz.prog 38 κ [.g [I a_.Epoch, .h s1 a_.Pins.length], I k] I r :=
 en 12 Tryz.call38 Tryz.func38 tok rfl rfl rfl <| cl0 rfl (fun h => n_laws_heldPinS (h.a h1)) hF fun x1 _ hF => cs [10] rfl rfl hF (fun hF => rt () [] hF rfl rfl Tryz.results38 rfl rfl rfl rfl) fun hF => rt () [] hF rfl rfl Tryz.results38 rfl rfl rfl rfl
theorem n_laws_heldLRowS {κ : Ctx} {a_ : List LRow} {k : Int} {s1 : AC} {r : Int} (h1 : RdA κ s1 a_) (hF : laws_heldLRowS a_ k = some r) : Fn0 Tryz.prog 96 κ [.h s1 a_.length, I k] I r :=
 en 31 Tryz.call96 Tryz.func96 tok rfl rfl rfl <| lp () [0] (fun (p : Int × Int) (_ : Unit) => [(1, I p.1), (5, I p.2)]) [] [] (fun p _ => []) Out.brk [] (fun (x5 : Int) (_ : Unit) => [(1, I x5)]) [] (fun x5 _ => []) rfl hF rfl (fun o_ hF1 ⟨x3, x4⟩ _ o1 hG1 hr1 => cs [9] rfl rfl hG1 (fun hG1 => ix cLRow rfl h1 hG1 rfl rfl rfl fun x6 _ hG1 _ _ => cs [18] rfl rfl hG1 (fun hG1 => rt () [] (re hG1 rfl hr1 hF1) rfl rfl Tryz.results96 rfl rfl rfl rfl) fun hG1 => ix cLRow rfl h1 hG1 rfl rfl rfl fun x7 _ hG1 _ _ => cs [27] rfl rfl hG1 (fun hG1 => rt () [] (re hG1 rfl hr1 hF1) rfl rfl Tryz.results96 rfl rfl rfl rfl) fun hG1 => nx () [] hG1 rfl rfl) fun hG1 => bk () [] hG1 hr1 rfl rfl) fun x5 _ hF => rt () [] hF rfl rfl Tryz.results96 rfl rfl rfl rfl
theorem n_laws_heldLListS {κ : Ctx} {a_ : List LList} {k : Int} {s1 : AC} {r : Int} (h1 : RdA κ s1 a_) (hF : laws_heldLListS a_ k = some r) : Fn0 Tryz.prog 39 κ [.h s1 a_.length, I k] I r :=
 en 22 Tryz.call39 Tryz.func39 tok rfl rfl rfl <| lp () [0] (fun (p : Int × Int) (_ : Unit) => [(1, I p.1), (5, I p.2)]) [] [] (fun p _ => []) Out.brk [] (fun (x5 : Int) (_ : Unit) => [(1, I x5)]) [] (fun x5 _ => []) rfl hF rfl (fun o_ hF1 ⟨x3, x4⟩ _ o1 hG1 hr1 => cs [9] rfl rfl hG1 (fun hG1 => ix cLList rfl h1 hG1 rfl rfl rfl fun x6 _ hG1 s2 h2 => cl0 rfl (fun h => n_laws_heldLRowS (h.a h2)) hG1 fun x7 _ hG1 => cs [20] rfl rfl hG1 (fun hG1 => rt () [] (re hG1 rfl hr1 hF1) rfl rfl Tryz.results39 rfl rfl rfl rfl) fun hG1 => nx () [] hG1 rfl rfl) fun hG1 => bk () [] hG1 hr1 rfl rfl) fun x5 _ hF => rt () [] hF rfl rfl Tryz.results39 rfl rfl rfl rfl
theorem n_laws_heldBase {κ : Ctx} {a_ : Base} {k : Int} {s1 s2 s3 s4 s5 s6 s7 : AC} {r : Int} (h1 : RdA κ s1 a_.Mem.Heap.Bytes) (h2 : RdA κ s2 a_.Mem.Heap.Class) (h3 : RdA κ s3 a_.Mem.Lists.Global) (h4 : RdA κ s4 a_.Mem.Lists.Own) (h5 : RdA κ s5 a_.Clock.Pins) (h6 : RdA κ s6 a_.Limbo) (h7 : RdA κ s7 a_.Haz) (hF : laws_heldBase a_ k = some r) : Fn0 Tryz.prog 12 κ [.g [.h s1 a_.Mem.Heap.Bytes.length, .h s2 a_.Mem.Heap.Class.length, .h s3 a_.Mem.Lists.Global.length, .h s4 a_.Mem.Lists.Own.length, I a_.Clock.Epoch, .h s5 a_.Clock.Pins.length, .h s6 a_.Limbo.length, .h s7 a_.Haz.length], I k] I r :=
 en 30 Tryz.call12 Tryz.func12 tok rfl rfl rfl <| cl0 rfl (fun h => n_laws_heldMem (h.a h1) (h.a h2) (h.a h3) (h.a h4)) hF fun x1 _ hF => cs [10] rfl rfl hF (fun hF => rt () [] hF rfl rfl Tryz.results12 rfl rfl rfl rfl) fun hF => cl0 rfl (fun h => n_laws_heldClock (h.a h5)) hF fun x2 _ hF => cs [16] rfl rfl hF (fun hF => rt () [] hF rfl rfl Tryz.results12 rfl rfl rfl rfl) fun hF => cl0 rfl (fun h => n_laws_heldLListS (h.a h6)) hF fun x3 _ hF => cs [22] rfl rfl hF (fun hF => rt () [] hF rfl rfl Tryz.results12 rfl rfl rfl rfl) fun hF => cl0 rfl (fun h => n_laws_heldIntS (h.a h7)) hF fun x4 _ hF => cs [28] rfl rfl hF (fun hF => rt () [] hF rfl rfl Tryz.results12 rfl rfl rfl rfl) fun hF => rt () [] hF rfl rfl Tryz.results12 rfl rfl rfl rfl
theorem n_laws_FnExactSubStep {κ : Ctx} {aB : Base} {aW : Int} {aS : Sub} {s1 s2 s3 s4 s5 s6 s7 : AC} {r : Bool} (h1 : RdA κ s1 aB.Mem.Heap.Bytes) (h2 : RdA κ s2 aB.Mem.Heap.Class) (h3 : RdA κ s3 aB.Mem.Lists.Global) (h4 : RdA κ s4 aB.Mem.Lists.Own) (h5 : RdA κ s5 aB.Clock.Pins) (h6 : RdA κ s6 aB.Limbo) (h7 : RdA κ s7 aB.Haz) (hF : laws_FnExactSubStep aB aW aS = some r) : Fn0 Tryz.prog 3 κ [.g [.h s1 aB.Mem.Heap.Bytes.length, .h s2 aB.Mem.Heap.Class.length, .h s3 aB.Mem.Lists.Global.length, .h s4 aB.Mem.Lists.Own.length, I aB.Clock.Epoch, .h s5 aB.Clock.Pins.length, .h s6 aB.Limbo.length, .h s7 aB.Haz.length], I aW, .g [I aS.Kind, I aS.A, I aS.Pc, I aS.E, I aS.Row, I aS.B, I aS.H, I aS.Out, I aS.Code, .b aS.Done]] .b r :=
 en 112 Tryz.call3 Tryz.func3 tok rfl rfl rfl <| cl0 rfl (fun h => n_laws_szBase (h.a h1) (h.a h2) (h.a h3) (h.a h4) (h.a h5) (h.a h6) (h.a h7)) hF fun x1 _ hF => cs [22] rfl rfl hF (fun hF => rt () [] hF rfl rfl Tryz.results3 rfl rfl rfl rfl) fun hF => cut 0 4 (fun (p : (List Int) × (List Int) × (List SList) × (List SList) × Int × (List Pin) × (List LList) × (List Int) × Int × Int × Int × Int × Int × Int × Int × Int × Int × Bool) => laws_FnExactSubStep_j1 aB aW aS p.1 p.2.1 p.2.2.1 p.2.2.2.1 p.2.2.2.2.1 p.2.2.2.2.2.1 p.2.2.2.2.2.2.1 p.2.2.2.2.2.2.2.1 p.2.2.2.2.2.2.2.2.1 p.2.2.2.2.2.2.2.2.2.1 p.2.2.2.2.2.2.2.2.2.2.1 p.2.2.2.2.2.2.2.2.2.2.2.1 p.2.2.2.2.2.2.2.2.2.2.2.2.1 p.2.2.2.2.2.2.2.2.2.2.2.2.2.1 p.2.2.2.2.2.2.2.2.2.2.2.2.2.2.1 p.2.2.2.2.2.2.2.2.2.2.2.2.2.2.2.1 p.2.2.2.2.2.2.2.2.2.2.2.2.2.2.2.2.1 p.2.2.2.2.2.2.2.2.2.2.2.2.2.2.2.2.2 = some r) [1, 3, 5] (fun (p : (List Int) × (List Int) × (List SList) × (List SList) × Int × (List Pin) × (List LList) × (List Int) × Int × Int × Int × Int × Int × Int × Int × Int × Int × Bool) (u : AC × AC × AC × AC × AC × AC × AC) => [(8, .p 2 0), (9, .p 3 0)]) [0, 1] (fun p u => [ow u.1 (p.1 : List Int), ow u.2.1 (p.2.1 : List Int), ow u.2.2.1 (p.2.2.1 : List SList), ow u.2.2.2.1 (p.2.2.2.1 : List SList), ow u.2.2.2.2.1 (p.2.2.2.2.2.1 : List Pin), ow u.2.2.2.2.2.1 (p.2.2.2.2.2.2.1 : List LList), ow u.2.2.2.2.2.2 (p.2.2.2.2.2.2.2.1 : List Int), .box 2 [.h u.1 p.1.length, .h u.2.1 p.2.1.length, .h u.2.2.1 p.2.2.1.length, .h u.2.2.2.1 p.2.2.2.1.length, I p.2.2.2.2.1, .h u.2.2.2.2.1 p.2.2.2.2.2.1.length, .h u.2.2.2.2.2.1 p.2.2.2.2.2.2.1.length, .h u.2.2.2.2.2.2 p.2.2.2.2.2.2.2.1.length], .box 3 [I p.2.2.2.2.2.2.2.2.1, I p.2.2.2.2.2.2.2.2.2.1, I p.2.2.2.2.2.2.2.2.2.2.1, I p.2.2.2.2.2.2.2.2.2.2.2.1, I p.2.2.2.2.2.2.2.2.2.2.2.2.1, I p.2.2.2.2.2.2.2.2.2.2.2.2.2.1, I p.2.2.2.2.2.2.2.2.2.2.2.2.2.2.1, I p.2.2.2.2.2.2.2.2.2.2.2.2.2.2.2.1, I p.2.2.2.2.2.2.2.2.2.2.2.2.2.2.2.2.1, .b p.2.2.2.2.2.2.2.2.2.2.2.2.2.2.2.2.2]]) rfl (dr [0, 1] rfl mixed_Tryz (by kernel_rfl) fun _ => bd hF fun x77 hA6 hF => bd hF fun x78 hA7 hF => bd hF fun x79 hA8 hF => alt3 rfl rfl (have hq52 := rb hA6; cl rfl (fun _ _ => rfl) (fun h => n_laws_toBase (h.a h1) (h.a h2) (h.a h3) (h.a h4) (h.a h5) (h.a h6) (h.a h7)) hq52 fun u52 _ hq52 s71 => match u52, hq52 with | _, rfl => alt3 rfl rfl (have hq53 := rb hA7; cl0 rfl (fun _ => n_laws_toSub) hq53 fun u53 _ hq53 => match u53, hq53 with | _, rfl => alt3 rfl rfl (have hq54 := rb hA8; cl rfl (fun _ _ => rfl) (fun h => n_spec_SubStep (h.o 2 rfl) (h.o 3 rfl) (h.o 4 rfl) (h.o 5 rfl) (h.o 6 rfl) (h.o 7 rfl) (h.o 8 rfl)) hq54 fun u54 _ hq54 s72 => match u54, hq54 with | _, rfl => alt2 rfl rfl (jn (p := (x79.1.Mem.Heap.Bytes, x79.1.Mem.Heap.Class, x79.1.Mem.Lists.Global, x79.1.Mem.Lists.Own, x79.1.Clock.Epoch, x79.1.Clock.Pins, x79.1.Limbo, x79.1.Haz, x79.2.Kind, x79.2.A, x79.2.Pc, x79.2.E, x79.2.Row, x79.2.B, x79.2.H, x79.2.Out, x79.2.Code, x79.2.Done)) (s72.1, s72.2.1, s72.2.2.1, s72.2.2.2.1, s72.2.2.2.2.1, s72.2.2.2.2.2.1, s72.2.2.2.2.2.2) [9, 10, 11, 12, 13, 14, 15, 16, 17, 0, 1] hF rfl rfl) (sF rfl <| swR 3 2 rfl <| fD rfl rfl <| jnR (p := (x79.1.Mem.Heap.Bytes, x79.1.Mem.Heap.Class, x79.1.Mem.Lists.Global, x79.1.Mem.Lists.Own, x79.1.Clock.Epoch, x79.1.Clock.Pins, x79.1.Limbo, x79.1.Haz, x79.2.Kind, x79.2.A, x79.2.Pc, x79.2.E, x79.2.Row, x79.2.B, x79.2.H, x79.2.Out, x79.2.Code, x79.2.Done)) (s72.1, s72.2.1, s72.2.2.1, s72.2.2.2.1, s72.2.2.2.2.1, s72.2.2.2.2.2.1, s72.2.2.2.2.2.2) [9, 10, 11, 12, 13, 14, 15, 17, 16, 0, 1] hF rfl)) (alt2 rfl rfl (have hq55 := rb hA8; cl rfl (fun _ _ => rfl) (fun h => n_spec_SubStep (h.o 2 rfl) (h.o 3 rfl) (h.o 4 rfl) (h.o 5 rfl) (h.o 6 rfl) (h.o 7 rfl) (h.o 8 rfl)) hq55 fun u55 _ hq55 s73 => match u55, hq55 with | _, rfl => jn (p := (x79.1.Mem.Heap.Bytes, x79.1.Mem.Heap.Class, x79.1.Mem.Lists.Global, x79.1.Mem.Lists.Own, x79.1.Clock.Epoch, x79.1.Clock.Pins, x79.1.Limbo, x79.1.Haz, x79.2.Kind, x79.2.A, x79.2.Pc, x79.2.E, x79.2.Row, x79.2.B, x79.2.H, x79.2.Out, x79.2.Code, x79.2.Done)) (s73.1, s73.2.1, s73.2.2.1, s73.2.2.2.1, s73.2.2.2.2.1, s73.2.2.2.2.2.1, s73.2.2.2.2.2.2) [10, 11, 12, 13, 14, 15, 16, 9, 17, 0, 1] hF rfl rfl) (have hq56 := rb hA8; cl rfl (fun _ _ => rfl) (fun h => n_spec_SubStep (h.o 2 rfl) (h.o 3 rfl) (h.o 4 rfl) (h.o 5 rfl) (h.o 6 rfl) (h.o 7 rfl) (h.o 8 rfl)) hq56 fun u56 _ hq56 s74 => match u56, hq56 with | _, rfl => jn (p := (x79.1.Mem.Heap.Bytes, x79.1.Mem.Heap.Class, x79.1.Mem.Lists.Global, x79.1.Mem.Lists.Own, x79.1.Clock.Epoch, x79.1.Clock.Pins, x79.1.Limbo, x79.1.Haz, x79.2.Kind, x79.2.A, x79.2.Pc, x79.2.E, x79.2.Row, x79.2.B, x79.2.H, x79.2.Out, x79.2.Code, x79.2.Done)) (s74.1, s74.2.1, s74.2.2.1, s74.2.2.2.1, s74.2.2.2.2.1, s74.2.2.2.2.2.1, s74.2.2.2.2.2.2) [11, 12, 13, 14, 15, 16, 17, 9, 10, 0, 1] hF rfl rfl)) (alt2 rfl rfl (have hq57 := rb hA8; cl rfl (fun _ _ => rfl) (fun h => n_spec_SubStep (h.o 2 rfl) (h.o 3 rfl) (h.o 4 rfl) (h.o 5 rfl) (h.o 6 rfl) (h.o 7 rfl) (h.o 8 rfl)) hq57 fun u57 _ hq57 s75 => match u57, hq57 with | _, rfl => sF rfl <| swR 3 2 rfl <| fD rfl rfl <| jnR (p := (x79.1.Mem.Heap.Bytes, x79.1.Mem.Heap.Class, x79.1.Mem.Lists.Global, x79.1.Mem.Lists.Own, x79.1.Clock.Epoch, x79.1.Clock.Pins, x79.1.Limbo, x79.1.Haz, x79.2.Kind, x79.2.A, x79.2.Pc, x79.2.E, x79.2.Row, x79.2.B, x79.2.H, x79.2.Out, x79.2.Code, x79.2.Done)) (s75.1, s75.2.1, s75.2.2.1, s75.2.2.2.1, s75.2.2.2.2.1, s75.2.2.2.2.2.1, s75.2.2.2.2.2.2) [10, 11, 12, 13, 14, 15, 16, 17, 9, 0, 1] hF rfl) (have hq58 := rb hA8; cl rfl (fun _ _ => rfl) (fun h => n_spec_SubStep (h.o 2 rfl) (h.o 3 rfl) (h.o 4 rfl) (h.o 5 rfl) (h.o 6 rfl) (h.o 7 rfl) (h.o 8 rfl)) hq58 fun u58 _ hq58 s76 => match u58, hq58 with | _, rfl => sF rfl <| swR 3 2 rfl <| fD rfl rfl <| jnR (p := (x79.1.Mem.Heap.Bytes, x79.1.Mem.Heap.Class, x79.1.Mem.Lists.Global, x79.1.Mem.Lists.Own, x79.1.Clock.Epoch, x79.1.Clock.Pins, x79.1.Limbo, x79.1.Haz, x79.2.Kind, x79.2.A, x79.2.Pc, x79.2.E, x79.2.Row, x79.2.B, x79.2.H, x79.2.Out, x79.2.Code, x79.2.Done)) (s76.1, s76.2.1, s76.2.2.1, s76.2.2.2.1, s76.2.2.2.2.1, s76.2.2.2.2.2.1, s76.2.2.2.2.2.2) [11, 12, 13, 14, 15, 16, 17, 10, 9, 0, 1] hF rfl))) (alt2 rfl rfl (have hq59 := rb hA7; cl0 rfl (fun _ => n_laws_toSub) hq59 fun u59 _ hq59 => match u59, hq59 with | _, rfl => alt2 rfl rfl (have hq60 := rb hA8; cl rfl (fun _ _ => rfl) (fun h => n_spec_SubStep (h.o 2 rfl) (h.o 3 rfl) (h.o 4 rfl) (h.o 5 rfl) (h.o 6 rfl) (h.o 7 rfl) (h.o 8 rfl)) hq60 fun u60 _ hq60 s77 => match u60, hq60 with | _, rfl => jn (p := (x79.1.Mem.Heap.Bytes, x79.1.Mem.Heap.Class, x79.1.Mem.Lists.Global, x79.1.Mem.Lists.Own, x79.1.Clock.Epoch, x79.1.Clock.Pins, x79.1.Limbo, x79.1.Haz, x79.2.Kind, x79.2.A, x79.2.Pc, x79.2.E, x79.2.Row, x79.2.B, x79.2.H, x79.2.Out, x79.2.Code, x79.2.Done)) (s77.1, s77.2.1, s77.2.2.1, s77.2.2.2.1, s77.2.2.2.2.1, s77.2.2.2.2.2.1, s77.2.2.2.2.2.2) [10, 11, 12, 13, 14, 15, 16, 9, 17, 0, 1] hF rfl rfl) (have hq61 := rb hA8; cl rfl (fun _ _ => rfl) (fun h => n_spec_SubStep (h.o 2 rfl) (h.o 3 rfl) (h.o 4 rfl) (h.o 5 rfl) (h.o 6 rfl) (h.o 7 rfl) (h.o 8 rfl)) hq61 fun u61 _ hq61 s78 => match u61, hq61 with | _, rfl => jn (p := (x79.1.Mem.Heap.Bytes, x79.1.Mem.Heap.Class, x79.1.Mem.Lists.Global, x79.1.Mem.Lists.Own, x79.1.Clock.Epoch, x79.1.Clock.Pins, x79.1.Limbo, x79.1.Haz, x79.2.Kind, x79.2.A, x79.2.Pc, x79.2.E, x79.2.Row, x79.2.B, x79.2.H, x79.2.Out, x79.2.Code, x79.2.Done)) (s78.1, s78.2.1, s78.2.2.1, s78.2.2.2.1, s78.2.2.2.2.1, s78.2.2.2.2.2.1, s78.2.2.2.2.2.2) [11, 12, 13, 14, 15, 16, 17, 9, 10, 0, 1] hF rfl rfl)) (have hq62 := rb hA7; cl0 rfl (fun _ => n_laws_toSub) hq62 fun u62 _ hq62 => match u62, hq62 with | _, rfl => have hq63 := rb hA8; cl rfl (fun _ _ => rfl) (fun h => n_spec_SubStep (h.o 2 rfl) (h.o 3 rfl) (h.o 4 rfl) (h.o 5 rfl) (h.o 6 rfl) (h.o 7 rfl) (h.o 8 rfl)) hq63 fun u63 _ hq63 s79 => match u63, hq63 with | _, rfl => jn (p := (x79.1.Mem.Heap.Bytes, x79.1.Mem.Heap.Class, x79.1.Mem.Lists.Global, x79.1.Mem.Lists.Own, x79.1.Clock.Epoch, x79.1.Clock.Pins, x79.1.Limbo, x79.1.Haz, x79.2.Kind, x79.2.A, x79.2.Pc, x79.2.E, x79.2.Row, x79.2.B, x79.2.H, x79.2.Out, x79.2.Code, x79.2.Done)) (s79.1, s79.2.1, s79.2.2.1, s79.2.2.2.1, s79.2.2.2.2.1, s79.2.2.2.2.2.1, s79.2.2.2.2.2.2) [11, 12, 13, 14, 15, 16, 17, 9, 10, 0, 1] hF rfl rfl)) (alt2 rfl rfl (have hq64 := rb hA7; cl0 rfl (fun _ => n_laws_toSub) hq64 fun u64 _ hq64 => match u64, hq64 with | _, rfl => alt2 rfl rfl (have hq65 := rb hA8; cl rfl (fun _ _ => rfl) (fun h => n_spec_SubStep (h.o 2 rfl) (h.o 3 rfl) (h.o 4 rfl) (h.o 5 rfl) (h.o 6 rfl) (h.o 7 rfl) (h.o 8 rfl)) hq65 fun u65 _ hq65 s80 => match u65, hq65 with | _, rfl => sF rfl <| swR 3 2 rfl <| fD rfl rfl <| jnR (p := (x79.1.Mem.Heap.Bytes, x79.1.Mem.Heap.Class, x79.1.Mem.Lists.Global, x79.1.Mem.Lists.Own, x79.1.Clock.Epoch, x79.1.Clock.Pins, x79.1.Limbo, x79.1.Haz, x79.2.Kind, x79.2.A, x79.2.Pc, x79.2.E, x79.2.Row, x79.2.B, x79.2.H, x79.2.Out, x79.2.Code, x79.2.Done)) (s80.1, s80.2.1, s80.2.2.1, s80.2.2.2.1, s80.2.2.2.2.1, s80.2.2.2.2.2.1, s80.2.2.2.2.2.2) [10, 11, 12, 13, 14, 15, 16, 17, 9, 0, 1] hF rfl) (have hq66 := rb hA8; cl rfl (fun _ _ => rfl) (fun h => n_spec_SubStep (h.o 2 rfl) (h.o 3 rfl) (h.o 4 rfl) (h.o 5 rfl) (h.o 6 rfl) (h.o 7 rfl) (h.o 8 rfl)) hq66 fun u66 _ hq66 s81 => match u66, hq66 with | _, rfl => sF rfl <| swR 3 2 rfl <| fD rfl rfl <| jnR (p := (x79.1.Mem.Heap.Bytes, x79.1.Mem.Heap.Class, x79.1.Mem.Lists.Global, x79.1.Mem.Lists.Own, x79.1.Clock.Epoch, x79.1.Clock.Pins, x79.1.Limbo, x79.1.Haz, x79.2.Kind, x79.2.A, x79.2.Pc, x79.2.E, x79.2.Row, x79.2.B, x79.2.H, x79.2.Out, x79.2.Code, x79.2.Done)) (s81.1, s81.2.1, s81.2.2.1, s81.2.2.2.1, s81.2.2.2.2.1, s81.2.2.2.2.2.1, s81.2.2.2.2.2.2) [11, 12, 13, 14, 15, 16, 17, 10, 9, 0, 1] hF rfl)) (have hq67 := rb hA7; cl0 rfl (fun _ => n_laws_toSub) hq67 fun u67 _ hq67 => match u67, hq67 with | _, rfl => have hq68 := rb hA8; cl rfl (fun _ _ => rfl) (fun h => n_spec_SubStep (h.o 2 rfl) (h.o 3 rfl) (h.o 4 rfl) (h.o 5 rfl) (h.o 6 rfl) (h.o 7 rfl) (h.o 8 rfl)) hq68 fun u68 _ hq68 s82 => match u68, hq68 with | _, rfl => sF rfl <| swR 3 2 rfl <| fD rfl rfl <| jnR (p := (x79.1.Mem.Heap.Bytes, x79.1.Mem.Heap.Class, x79.1.Mem.Lists.Global, x79.1.Mem.Lists.Own, x79.1.Clock.Epoch, x79.1.Clock.Pins, x79.1.Limbo, x79.1.Haz, x79.2.Kind, x79.2.A, x79.2.Pc, x79.2.E, x79.2.Row, x79.2.B, x79.2.H, x79.2.Out, x79.2.Code, x79.2.Done)) (s82.1, s82.2.1, s82.2.2.1, s82.2.2.2.1, s82.2.2.2.2.1, s82.2.2.2.2.2.1, s82.2.2.2.2.2.2) [11, 12, 13, 14, 15, 16, 17, 10, 9, 0, 1] hF rfl))) (alt2 rfl rfl (have hq69 := rb hA6; cl rfl (fun _ _ => rfl) (fun h => n_laws_toBase (h.a h1) (h.a h2) (h.a h3) (h.a h4) (h.a h5) (h.a h6) (h.a h7)) hq69 fun u69 _ hq69 s83 => match u69, hq69 with | _, rfl => alt2 rfl rfl (have hq70 := rb hA7; cl0 rfl (fun _ => n_laws_toSub) hq70 fun u70 _ hq70 => match u70, hq70 with | _, rfl => alt2 rfl rfl (have hq71 := rb hA8; cl rfl (fun _ _ => rfl) (fun h => n_spec_SubStep (h.o 3 rfl) (h.o 4 rfl) (h.o 5 rfl) (h.o 6 rfl) (h.o 7 rfl) (h.o 8 rfl) (h.o 9 rfl)) hq71 fun u71 _ hq71 s84 => match u71, hq71 with | _, rfl => jn (p := (x79.1.Mem.Heap.Bytes, x79.1.Mem.Heap.Class, x79.1.Mem.Lists.Global, x79.1.Mem.Lists.Own, x79.1.Clock.Epoch, x79.1.Clock.Pins, x79.1.Limbo, x79.1.Haz, x79.2.Kind, x79.2.A, x79.2.Pc, x79.2.E, x79.2.Row, x79.2.B, x79.2.H, x79.2.Out, x79.2.Code, x79.2.Done)) (s84.1, s84.2.1, s84.2.2.1, s84.2.2.2.1, s84.2.2.2.2.1, s84.2.2.2.2.2.1, s84.2.2.2.2.2.2) [10, 11, 12, 13, 14, 15, 16, 2, 17, 0, 1] hF rfl rfl) (have hq72 := rb hA8; cl rfl (fun _ _ => rfl) (fun h => n_spec_SubStep (h.o 3 rfl) (h.o 4 rfl) (h.o 5 rfl) (h.o 6 rfl) (h.o 7 rfl) (h.o 8 rfl) (h.o 9 rfl)) hq72 fun u72 _ hq72 s85 => match u72, hq72 with | _, rfl => jn (p := (x79.1.Mem.Heap.Bytes, x79.1.Mem.Heap.Class, x79.1.Mem.Lists.Global, x79.1.Mem.Lists.Own, x79.1.Clock.Epoch, x79.1.Clock.Pins, x79.1.Limbo, x79.1.Haz, x79.2.Kind, x79.2.A, x79.2.Pc, x79.2.E, x79.2.Row, x79.2.B, x79.2.H, x79.2.Out, x79.2.Code, x79.2.Done)) (s85.1, s85.2.1, s85.2.2.1, s85.2.2.2.1, s85.2.2.2.2.1, s85.2.2.2.2.2.1, s85.2.2.2.2.2.2) [11, 12, 13, 14, 15, 16, 17, 2, 10, 0, 1] hF rfl rfl)) (have hq73 := rb hA7; cl0 rfl (fun _ => n_laws_toSub) hq73 fun u73 _ hq73 => match u73, hq73 with | _, rfl => have hq74 := rb hA8; cl rfl (fun _ _ => rfl) (fun h => n_spec_SubStep (h.o 3 rfl) (h.o 4 rfl) (h.o 5 rfl) (h.o 6 rfl) (h.o 7 rfl) (h.o 8 rfl) (h.o 9 rfl)) hq74 fun u74 _ hq74 s86 => match u74, hq74 with | _, rfl => jn (p := (x79.1.Mem.Heap.Bytes, x79.1.Mem.Heap.Class, x79.1.Mem.Lists.Global, x79.1.Mem.Lists.Own, x79.1.Clock.Epoch, x79.1.Clock.Pins, x79.1.Limbo, x79.1.Haz, x79.2.Kind, x79.2.A, x79.2.Pc, x79.2.E, x79.2.Row, x79.2.B, x79.2.H, x79.2.Out, x79.2.Code, x79.2.Done)) (s86.1, s86.2.1, s86.2.2.1, s86.2.2.2.1, s86.2.2.2.2.1, s86.2.2.2.2.2.1, s86.2.2.2.2.2.2) [11, 12, 13, 14, 15, 16, 17, 2, 10, 0, 1] hF rfl rfl)) (have hq75 := rb hA6; cl rfl (fun _ _ => rfl) (fun h => n_laws_toBase (h.a h1) (h.a h2) (h.a h3) (h.a h4) (h.a h5) (h.a h6) (h.a h7)) hq75 fun u75 _ hq75 s87 => match u75, hq75 with | _, rfl => have hq76 := rb hA7; cl0 rfl (fun _ => n_laws_toSub) hq76 fun u76 _ hq76 => match u76, hq76 with | _, rfl => have hq77 := rb hA8; cl rfl (fun _ _ => rfl) (fun h => n_spec_SubStep (h.o 4 rfl) (h.o 5 rfl) (h.o 6 rfl) (h.o 7 rfl) (h.o 8 rfl) (h.o 9 rfl) (h.o 10 rfl)) hq77 fun u77 _ hq77 s88 => match u77, hq77 with | _, rfl => jn (p := (x79.1.Mem.Heap.Bytes, x79.1.Mem.Heap.Class, x79.1.Mem.Lists.Global, x79.1.Mem.Lists.Own, x79.1.Clock.Epoch, x79.1.Clock.Pins, x79.1.Limbo, x79.1.Haz, x79.2.Kind, x79.2.A, x79.2.Pc, x79.2.E, x79.2.Row, x79.2.B, x79.2.H, x79.2.Out, x79.2.Code, x79.2.Done)) (s88.1, s88.2.1, s88.2.2.1, s88.2.2.2.1, s88.2.2.2.2.1, s88.2.2.2.2.2.1, s88.2.2.2.2.2.2) [11, 12, 13, 14, 15, 16, 17, 2, 3, 0, 1] hF rfl rfl)) (alt2 rfl rfl (have hq78 := rb hA6; cl rfl (fun _ _ => rfl) (fun h => n_laws_toBase (h.a h1) (h.a h2) (h.a h3) (h.a h4) (h.a h5) (h.a h6) (h.a h7)) hq78 fun u78 _ hq78 s89 => match u78, hq78 with | _, rfl => alt2 rfl rfl (have hq79 := rb hA7; cl0 rfl (fun _ => n_laws_toSub) hq79 fun u79 _ hq79 => match u79, hq79 with | _, rfl => alt2 rfl rfl (have hq80 := rb hA8; cl rfl (fun _ _ => rfl) (fun h => n_spec_SubStep (h.o 3 rfl) (h.o 4 rfl) (h.o 5 rfl) (h.o 6 rfl) (h.o 7 rfl) (h.o 8 rfl) (h.o 9 rfl)) hq80 fun u80 _ hq80 s90 => match u80, hq80 with | _, rfl => sF rfl <| swR 3 2 rfl <| fD rfl rfl <| jnR (p := (x79.1.Mem.Heap.Bytes, x79.1.Mem.Heap.Class, x79.1.Mem.Lists.Global, x79.1.Mem.Lists.Own, x79.1.Clock.Epoch, x79.1.Clock.Pins, x79.1.Limbo, x79.1.Haz, x79.2.Kind, x79.2.A, x79.2.Pc, x79.2.E, x79.2.Row, x79.2.B, x79.2.H, x79.2.Out, x79.2.Code, x79.2.Done)) (s90.1, s90.2.1, s90.2.2.1, s90.2.2.2.1, s90.2.2.2.2.1, s90.2.2.2.2.2.1, s90.2.2.2.2.2.2) [10, 11, 12, 13, 14, 15, 16, 17, 2, 0, 1] hF rfl) (have hq81 := rb hA8; cl rfl (fun _ _ => rfl) (fun h => n_spec_SubStep (h.o 3 rfl) (h.o 4 rfl) (h.o 5 rfl) (h.o 6 rfl) (h.o 7 rfl) (h.o 8 rfl) (h.o 9 rfl)) hq81 fun u81 _ hq81 s91 => match u81, hq81 with | _, rfl => sF rfl <| swR 3 2 rfl <| fD rfl rfl <| jnR (p := (x79.1.Mem.Heap.Bytes, x79.1.Mem.Heap.Class, x79.1.Mem.Lists.Global, x79.1.Mem.Lists.Own, x79.1.Clock.Epoch, x79.1.Clock.Pins, x79.1.Limbo, x79.1.Haz, x79.2.Kind, x79.2.A, x79.2.Pc, x79.2.E, x79.2.Row, x79.2.B, x79.2.H, x79.2.Out, x79.2.Code, x79.2.Done)) (s91.1, s91.2.1, s91.2.2.1, s91.2.2.2.1, s91.2.2.2.2.1, s91.2.2.2.2.2.1, s91.2.2.2.2.2.2) [11, 12, 13, 14, 15, 16, 17, 10, 2, 0, 1] hF rfl)) (have hq82 := rb hA7; cl0 rfl (fun _ => n_laws_toSub) hq82 fun u82 _ hq82 => match u82, hq82 with | _, rfl => have hq83 := rb hA8; cl rfl (fun _ _ => rfl) (fun h => n_spec_SubStep (h.o 3 rfl) (h.o 4 rfl) (h.o 5 rfl) (h.o 6 rfl) (h.o 7 rfl) (h.o 8 rfl) (h.o 9 rfl)) hq83 fun u83 _ hq83 s92 => match u83, hq83 with | _, rfl => sF rfl <| swR 3 2 rfl <| fD rfl rfl <| jnR (p := (x79.1.Mem.Heap.Bytes, x79.1.Mem.Heap.Class, x79.1.Mem.Lists.Global, x79.1.Mem.Lists.Own, x79.1.Clock.Epoch, x79.1.Clock.Pins, x79.1.Limbo, x79.1.Haz, x79.2.Kind, x79.2.A, x79.2.Pc, x79.2.E, x79.2.Row, x79.2.B, x79.2.H, x79.2.Out, x79.2.Code, x79.2.Done)) (s92.1, s92.2.1, s92.2.2.1, s92.2.2.2.1, s92.2.2.2.2.1, s92.2.2.2.2.2.1, s92.2.2.2.2.2.2) [11, 12, 13, 14, 15, 16, 17, 10, 2, 0, 1] hF rfl)) (have hq84 := rb hA6; cl rfl (fun _ _ => rfl) (fun h => n_laws_toBase (h.a h1) (h.a h2) (h.a h3) (h.a h4) (h.a h5) (h.a h6) (h.a h7)) hq84 fun u84 _ hq84 s93 => match u84, hq84 with | _, rfl => have hq85 := rb hA7; cl0 rfl (fun _ => n_laws_toSub) hq85 fun u85 _ hq85 => match u85, hq85 with | _, rfl => have hq86 := rb hA8; cl rfl (fun _ _ => rfl) (fun h => n_spec_SubStep (h.o 4 rfl) (h.o 5 rfl) (h.o 6 rfl) (h.o 7 rfl) (h.o 8 rfl) (h.o 9 rfl) (h.o 10 rfl)) hq86 fun u86 _ hq86 s94 => match u86, hq86 with | _, rfl => sF rfl <| swR 3 2 rfl <| fD rfl rfl <| jnR (p := (x79.1.Mem.Heap.Bytes, x79.1.Mem.Heap.Class, x79.1.Mem.Lists.Global, x79.1.Mem.Lists.Own, x79.1.Clock.Epoch, x79.1.Clock.Pins, x79.1.Limbo, x79.1.Haz, x79.2.Kind, x79.2.A, x79.2.Pc, x79.2.E, x79.2.Row, x79.2.B, x79.2.H, x79.2.Out, x79.2.Code, x79.2.Done)) (s94.1, s94.2.1, s94.2.2.1, s94.2.2.2.1, s94.2.2.2.2.1, s94.2.2.2.2.2.1, s94.2.2.2.2.2.2) [11, 12, 13, 14, 15, 16, 17, 3, 2, 0, 1] hF rfl))) fun ⟨x2, x3, x4, x5, x6, x7, x8, x9, x10, x11, x12, x13, x14, x15, x16, x17, x18, x19⟩ ⟨s8, s9, s10, s11, s12, s13, s14⟩ hF => cl rfl (fun _ _ => rfl) (fun h => n_laws_toBase (h.a h1) (h.a h2) (h.a h3) (h.a h4) (h.a h5) (h.a h6) (h.a h7)) hF fun x20 _ hF s15 => cut 0 7 (fun (p : (List Int) × (List Int) × (List SList) × (List SList) × Int × (List Pin) × (List LList) × (List Int) × Int × Int × Int × Int × Int × Int × Int × Int × Int × Bool) => laws_FnExactSubStep_j2 aB aW aS x2 x3 x4 x5 x6 x7 x8 x9 x10 x11 x12 x13 x14 x15 x16 x17 x18 x19 x20 p.1 p.2.1 p.2.2.1 p.2.2.2.1 p.2.2.2.2.1 p.2.2.2.2.2.1 p.2.2.2.2.2.2.1 p.2.2.2.2.2.2.2.1 p.2.2.2.2.2.2.2.2.1 p.2.2.2.2.2.2.2.2.2.1 p.2.2.2.2.2.2.2.2.2.2.1 p.2.2.2.2.2.2.2.2.2.2.2.1 p.2.2.2.2.2.2.2.2.2.2.2.2.1 p.2.2.2.2.2.2.2.2.2.2.2.2.2.1 p.2.2.2.2.2.2.2.2.2.2.2.2.2.2.1 p.2.2.2.2.2.2.2.2.2.2.2.2.2.2.2.1 p.2.2.2.2.2.2.2.2.2.2.2.2.2.2.2.2.1 p.2.2.2.2.2.2.2.2.2.2.2.2.2.2.2.2.2 = some r) [1, 3, 5, 8, 9, 10] (fun (p : (List Int) × (List Int) × (List SList) × (List SList) × Int × (List Pin) × (List LList) × (List Int) × Int × Int × Int × Int × Int × Int × Int × Int × Int × Bool) (u : AC × AC × AC × AC × AC × AC × AC) => [(11, .p 5 0), (12, .p 6 0)]) [9, 10, 0, 1, 2, 3, 4, 5, 6, 7, 8, 11, 12, 13, 14, 15, 16, 17, 18] (fun p u => [ow u.1 (p.1 : List Int), ow u.2.1 (p.2.1 : List Int), ow u.2.2.1 (p.2.2.1 : List SList), ow u.2.2.2.1 (p.2.2.2.1 : List SList), ow u.2.2.2.2.1 (p.2.2.2.2.2.1 : List Pin), ow u.2.2.2.2.2.1 (p.2.2.2.2.2.2.1 : List LList), ow u.2.2.2.2.2.2 (p.2.2.2.2.2.2.2.1 : List Int), .box 5 [.h u.1 p.1.length, .h u.2.1 p.2.1.length, .h u.2.2.1 p.2.2.1.length, .h u.2.2.2.1 p.2.2.2.1.length, I p.2.2.2.2.1, .h u.2.2.2.2.1 p.2.2.2.2.2.1.length, .h u.2.2.2.2.2.1 p.2.2.2.2.2.2.1.length, .h u.2.2.2.2.2.2 p.2.2.2.2.2.2.2.1.length], .box 6 [I p.2.2.2.2.2.2.2.2.1, I p.2.2.2.2.2.2.2.2.2.1, I p.2.2.2.2.2.2.2.2.2.2.1, I p.2.2.2.2.2.2.2.2.2.2.2.1, I p.2.2.2.2.2.2.2.2.2.2.2.2.1, I p.2.2.2.2.2.2.2.2.2.2.2.2.2.1, I p.2.2.2.2.2.2.2.2.2.2.2.2.2.2.1, I p.2.2.2.2.2.2.2.2.2.2.2.2.2.2.2.1, I p.2.2.2.2.2.2.2.2.2.2.2.2.2.2.2.2.1, .b p.2.2.2.2.2.2.2.2.2.2.2.2.2.2.2.2.2]]) rfl (dr [7, 8, 9, 10, 18] rfl mixed_Tryz (by kernel_rfl) fun _ => bd hF fun x75 hA4 hF => bd hF fun x76 hA5 hF => alt3 rfl rfl (have hq36 := rb hA4; cl0 rfl (fun _ => n_laws_toSub) hq36 fun u36 _ hq36 => match u36, hq36 with | _, rfl => alt3 rfl rfl (have hq37 := rb hA5; cl rfl (fun _ _ => rfl) (fun h => n_impl_SubStep (h.o 11 rfl) (h.o 12 rfl) (h.o 13 rfl) (h.o 14 rfl) (h.o 15 rfl) (h.o 16 rfl) (h.o 17 rfl)) hq37 fun u37 _ hq37 s58 => match u37, hq37 with | _, rfl => alt2 rfl rfl (jn (p := (x76.1.Mem.Heap.Bytes, x76.1.Mem.Heap.Class, x76.1.Mem.Lists.Global, x76.1.Mem.Lists.Own, x76.1.Clock.Epoch, x76.1.Clock.Pins, x76.1.Limbo, x76.1.Haz, x76.2.Kind, x76.2.A, x76.2.Pc, x76.2.E, x76.2.Row, x76.2.B, x76.2.H, x76.2.Out, x76.2.Code, x76.2.Done)) (s58.1, s58.2.1, s58.2.2.1, s58.2.2.2.1, s58.2.2.2.2.1, s58.2.2.2.2.2.1, s58.2.2.2.2.2.2) [19, 20, 21, 22, 23, 24, 25, 26, 27, 9, 10, 0, 1, 2, 3, 4, 5, 6, 7, 8, 11, 12, 13, 14, 15, 16, 17, 18] hF rfl rfl) (sF rfl <| swR 6 5 rfl <| fD rfl rfl <| jnR (p := (x76.1.Mem.Heap.Bytes, x76.1.Mem.Heap.Class, x76.1.Mem.Lists.Global, x76.1.Mem.Lists.Own, x76.1.Clock.Epoch, x76.1.Clock.Pins, x76.1.Limbo, x76.1.Haz, x76.2.Kind, x76.2.A, x76.2.Pc, x76.2.E, x76.2.Row, x76.2.B, x76.2.H, x76.2.Out, x76.2.Code, x76.2.Done)) (s58.1, s58.2.1, s58.2.2.1, s58.2.2.2.1, s58.2.2.2.2.1, s58.2.2.2.2.2.1, s58.2.2.2.2.2.2) [19, 20, 21, 22, 23, 24, 25, 27, 26, 9, 10, 0, 1, 2, 3, 4, 5, 6, 7, 8, 11, 12, 13, 14, 15, 16, 17, 18] hF rfl)) (alt2 rfl rfl (have hq38 := rb hA5; cl rfl (fun _ _ => rfl) (fun h => n_impl_SubStep (h.o 11 rfl) (h.o 12 rfl) (h.o 13 rfl) (h.o 14 rfl) (h.o 15 rfl) (h.o 16 rfl) (h.o 17 rfl)) hq38 fun u38 _ hq38 s59 => match u38, hq38 with | _, rfl => jn (p := (x76.1.Mem.Heap.Bytes, x76.1.Mem.Heap.Class, x76.1.Mem.Lists.Global, x76.1.Mem.Lists.Own, x76.1.Clock.Epoch, x76.1.Clock.Pins, x76.1.Limbo, x76.1.Haz, x76.2.Kind, x76.2.A, x76.2.Pc, x76.2.E, x76.2.Row, x76.2.B, x76.2.H, x76.2.Out, x76.2.Code, x76.2.Done)) (s59.1, s59.2.1, s59.2.2.1, s59.2.2.2.1, s59.2.2.2.2.1, s59.2.2.2.2.2.1, s59.2.2.2.2.2.2) [20, 21, 22, 23, 24, 25, 26, 19, 27, 9, 10, 0, 1, 2, 3, 4, 5, 6, 7, 8, 11, 12, 13, 14, 15, 16, 17, 18] hF rfl rfl) (have hq39 := rb hA5; cl rfl (fun _ _ => rfl) (fun h => n_impl_SubStep (h.o 11 rfl) (h.o 12 rfl) (h.o 13 rfl) (h.o 14 rfl) (h.o 15 rfl) (h.o 16 rfl) (h.o 17 rfl)) hq39 fun u39 _ hq39 s60 => match u39, hq39 with | _, rfl => jn (p := (x76.1.Mem.Heap.Bytes, x76.1.Mem.Heap.Class, x76.1.Mem.Lists.Global, x76.1.Mem.Lists.Own, x76.1.Clock.Epoch, x76.1.Clock.Pins, x76.1.Limbo, x76.1.Haz, x76.2.Kind, x76.2.A, x76.2.Pc, x76.2.E, x76.2.Row, x76.2.B, x76.2.H, x76.2.Out, x76.2.Code, x76.2.Done)) (s60.1, s60.2.1, s60.2.2.1, s60.2.2.2.1, s60.2.2.2.2.1, s60.2.2.2.2.2.1, s60.2.2.2.2.2.2) [21, 22, 23, 24, 25, 26, 27, 19, 20, 9, 10, 0, 1, 2, 3, 4, 5, 6, 7, 8, 11, 12, 13, 14, 15, 16, 17, 18] hF rfl rfl)) (alt2 rfl rfl (have hq40 := rb hA5; cl rfl (fun _ _ => rfl) (fun h => n_impl_SubStep (h.o 11 rfl) (h.o 12 rfl) (h.o 13 rfl) (h.o 14 rfl) (h.o 15 rfl) (h.o 16 rfl) (h.o 17 rfl)) hq40 fun u40 _ hq40 s61 => match u40, hq40 with | _, rfl => sF rfl <| swR 6 5 rfl <| fD rfl rfl <| jnR (p := (x76.1.Mem.Heap.Bytes, x76.1.Mem.Heap.Class, x76.1.Mem.Lists.Global, x76.1.Mem.Lists.Own, x76.1.Clock.Epoch, x76.1.Clock.Pins, x76.1.Limbo, x76.1.Haz, x76.2.Kind, x76.2.A, x76.2.Pc, x76.2.E, x76.2.Row, x76.2.B, x76.2.H, x76.2.Out, x76.2.Code, x76.2.Done)) (s61.1, s61.2.1, s61.2.2.1, s61.2.2.2.1, s61.2.2.2.2.1, s61.2.2.2.2.2.1, s61.2.2.2.2.2.2) [20, 21, 22, 23, 24, 25, 26, 27, 19, 9, 10, 0, 1, 2, 3, 4, 5, 6, 7, 8, 11, 12, 13, 14, 15, 16, 17, 18] hF rfl) (have hq41 := rb hA5; cl rfl (fun _ _ => rfl) (fun h => n_impl_SubStep (h.o 11 rfl) (h.o 12 rfl) (h.o 13 rfl) (h.o 14 rfl) (h.o 15 rfl) (h.o 16 rfl) (h.o 17 rfl)) hq41 fun u41 _ hq41 s62 => match u41, hq41 with | _, rfl => sF rfl <| swR 6 5 rfl <| fD rfl rfl <| jnR (p := (x76.1.Mem.Heap.Bytes, x76.1.Mem.Heap.Class, x76.1.Mem.Lists.Global, x76.1.Mem.Lists.Own, x76.1.Clock.Epoch, x76.1.Clock.Pins, x76.1.Limbo, x76.1.Haz, x76.2.Kind, x76.2.A, x76.2.Pc, x76.2.E, x76.2.Row, x76.2.B, x76.2.H, x76.2.Out, x76.2.Code, x76.2.Done)) (s62.1, s62.2.1, s62.2.2.1, s62.2.2.2.1, s62.2.2.2.2.1, s62.2.2.2.2.2.1, s62.2.2.2.2.2.2) [21, 22, 23, 24, 25, 26, 27, 20, 19, 9, 10, 0, 1, 2, 3, 4, 5, 6, 7, 8, 11, 12, 13, 14, 15, 16, 17, 18] hF rfl))) (alt2 rfl rfl (have hq42 := rb hA4; cl0 rfl (fun _ => n_laws_toSub) hq42 fun u42 _ hq42 => match u42, hq42 with | _, rfl => alt2 rfl rfl (have hq43 := rb hA5; cl rfl (fun _ _ => rfl) (fun h => n_impl_SubStep (h.o 11 rfl) (h.o 12 rfl) (h.o 13 rfl) (h.o 14 rfl) (h.o 15 rfl) (h.o 16 rfl) (h.o 17 rfl)) hq43 fun u43 _ hq43 s63 => match u43, hq43 with | _, rfl => jn (p := (x76.1.Mem.Heap.Bytes, x76.1.Mem.Heap.Class, x76.1.Mem.Lists.Global, x76.1.Mem.Lists.Own, x76.1.Clock.Epoch, x76.1.Clock.Pins, x76.1.Limbo, x76.1.Haz, x76.2.Kind, x76.2.A, x76.2.Pc, x76.2.E, x76.2.Row, x76.2.B, x76.2.H, x76.2.Out, x76.2.Code, x76.2.Done)) (s63.1, s63.2.1, s63.2.2.1, s63.2.2.2.1, s63.2.2.2.2.1, s63.2.2.2.2.2.1, s63.2.2.2.2.2.2) [20, 21, 22, 23, 24, 25, 26, 19, 27, 9, 10, 0, 1, 2, 3, 4, 5, 6, 7, 8, 11, 12, 13, 14, 15, 16, 17, 18] hF rfl rfl) (have hq44 := rb hA5; cl rfl (fun _ _ => rfl) (fun h => n_impl_SubStep (h.o 11 rfl) (h.o 12 rfl) (h.o 13 rfl) (h.o 14 rfl) (h.o 15 rfl) (h.o 16 rfl) (h.o 17 rfl)) hq44 fun u44 _ hq44 s64 => match u44, hq44 with | _, rfl => jn (p := (x76.1.Mem.Heap.Bytes, x76.1.Mem.Heap.Class, x76.1.Mem.Lists.Global, x76.1.Mem.Lists.Own, x76.1.Clock.Epoch, x76.1.Clock.Pins, x76.1.Limbo, x76.1.Haz, x76.2.Kind, x76.2.A, x76.2.Pc, x76.2.E, x76.2.Row, x76.2.B, x76.2.H, x76.2.Out, x76.2.Code, x76.2.Done)) (s64.1, s64.2.1, s64.2.2.1, s64.2.2.2.1, s64.2.2.2.2.1, s64.2.2.2.2.2.1, s64.2.2.2.2.2.2) [21, 22, 23, 24, 25, 26, 27, 19, 20, 9, 10, 0, 1, 2, 3, 4, 5, 6, 7, 8, 11, 12, 13, 14, 15, 16, 17, 18] hF rfl rfl)) (have hq45 := rb hA4; cl0 rfl (fun _ => n_laws_toSub) hq45 fun u45 _ hq45 => match u45, hq45 with | _, rfl => have hq46 := rb hA5; cl rfl (fun _ _ => rfl) (fun h => n_impl_SubStep (h.o 11 rfl) (h.o 12 rfl) (h.o 13 rfl) (h.o 14 rfl) (h.o 15 rfl) (h.o 16 rfl) (h.o 17 rfl)) hq46 fun u46 _ hq46 s65 => match u46, hq46 with | _, rfl => jn (p := (x76.1.Mem.Heap.Bytes, x76.1.Mem.Heap.Class, x76.1.Mem.Lists.Global, x76.1.Mem.Lists.Own, x76.1.Clock.Epoch, x76.1.Clock.Pins, x76.1.Limbo, x76.1.Haz, x76.2.Kind, x76.2.A, x76.2.Pc, x76.2.E, x76.2.Row, x76.2.B, x76.2.H, x76.2.Out, x76.2.Code, x76.2.Done)) (s65.1, s65.2.1, s65.2.2.1, s65.2.2.2.1, s65.2.2.2.2.1, s65.2.2.2.2.2.1, s65.2.2.2.2.2.2) [21, 22, 23, 24, 25, 26, 27, 19, 20, 9, 10, 0, 1, 2, 3, 4, 5, 6, 7, 8, 11, 12, 13, 14, 15, 16, 17, 18] hF rfl rfl)) (alt2 rfl rfl (have hq47 := rb hA4; cl0 rfl (fun _ => n_laws_toSub) hq47 fun u47 _ hq47 => match u47, hq47 with | _, rfl => alt2 rfl rfl (have hq48 := rb hA5; cl rfl (fun _ _ => rfl) (fun h => n_impl_SubStep (h.o 11 rfl) (h.o 12 rfl) (h.o 13 rfl) (h.o 14 rfl) (h.o 15 rfl) (h.o 16 rfl) (h.o 17 rfl)) hq48 fun u48 _ hq48 s66 => match u48, hq48 with | _, rfl => sF rfl <| swR 6 5 rfl <| fD rfl rfl <| jnR (p := (x76.1.Mem.Heap.Bytes, x76.1.Mem.Heap.Class, x76.1.Mem.Lists.Global, x76.1.Mem.Lists.Own, x76.1.Clock.Epoch, x76.1.Clock.Pins, x76.1.Limbo, x76.1.Haz, x76.2.Kind, x76.2.A, x76.2.Pc, x76.2.E, x76.2.Row, x76.2.B, x76.2.H, x76.2.Out, x76.2.Code, x76.2.Done)) (s66.1, s66.2.1, s66.2.2.1, s66.2.2.2.1, s66.2.2.2.2.1, s66.2.2.2.2.2.1, s66.2.2.2.2.2.2) [20, 21, 22, 23, 24, 25, 26, 27, 19, 9, 10, 0, 1, 2, 3, 4, 5, 6, 7, 8, 11, 12, 13, 14, 15, 16, 17, 18] hF rfl) (have hq49 := rb hA5; cl rfl (fun _ _ => rfl) (fun h => n_impl_SubStep (h.o 11 rfl) (h.o 12 rfl) (h.o 13 rfl) (h.o 14 rfl) (h.o 15 rfl) (h.o 16 rfl) (h.o 17 rfl)) hq49 fun u49 _ hq49 s67 => match u49, hq49 with | _, rfl => sF rfl <| swR 6 5 rfl <| fD rfl rfl <| jnR (p := (x76.1.Mem.Heap.Bytes, x76.1.Mem.Heap.Class, x76.1.Mem.Lists.Global, x76.1.Mem.Lists.Own, x76.1.Clock.Epoch, x76.1.Clock.Pins, x76.1.Limbo, x76.1.Haz, x76.2.Kind, x76.2.A, x76.2.Pc, x76.2.E, x76.2.Row, x76.2.B, x76.2.H, x76.2.Out, x76.2.Code, x76.2.Done)) (s67.1, s67.2.1, s67.2.2.1, s67.2.2.2.1, s67.2.2.2.2.1, s67.2.2.2.2.2.1, s67.2.2.2.2.2.2) [21, 22, 23, 24, 25, 26, 27, 20, 19, 9, 10, 0, 1, 2, 3, 4, 5, 6, 7, 8, 11, 12, 13, 14, 15, 16, 17, 18] hF rfl)) (have hq50 := rb hA4; cl0 rfl (fun _ => n_laws_toSub) hq50 fun u50 _ hq50 => match u50, hq50 with | _, rfl => have hq51 := rb hA5; cl rfl (fun _ _ => rfl) (fun h => n_impl_SubStep (h.o 11 rfl) (h.o 12 rfl) (h.o 13 rfl) (h.o 14 rfl) (h.o 15 rfl) (h.o 16 rfl) (h.o 17 rfl)) hq51 fun u51 _ hq51 s68 => match u51, hq51 with | _, rfl => sF rfl <| swR 6 5 rfl <| fD rfl rfl <| jnR (p := (x76.1.Mem.Heap.Bytes, x76.1.Mem.Heap.Class, x76.1.Mem.Lists.Global, x76.1.Mem.Lists.Own, x76.1.Clock.Epoch, x76.1.Clock.Pins, x76.1.Limbo, x76.1.Haz, x76.2.Kind, x76.2.A, x76.2.Pc, x76.2.E, x76.2.Row, x76.2.B, x76.2.H, x76.2.Out, x76.2.Code, x76.2.Done)) (s68.1, s68.2.1, s68.2.2.1, s68.2.2.2.1, s68.2.2.2.2.1, s68.2.2.2.2.2.1, s68.2.2.2.2.2.2) [21, 22, 23, 24, 25, 26, 27, 20, 19, 9, 10, 0, 1, 2, 3, 4, 5, 6, 7, 8, 11, 12, 13, 14, 15, 16, 17, 18] hF rfl))) fun ⟨x21, x22, x23, x24, x25, x26, x27, x28, x29, x30, x31, x32, x33, x34, x35, x36, x37, x38⟩ ⟨s16, s17, s18, s19, s20, s21, s22⟩ hF => cut 0 7 (fun (x39 : Bool) => laws_FnExactSubStep_j3 aB aW aS x2 x3 x4 x5 x6 x7 x8 x9 x10 x11 x12 x13 x14 x15 x16 x17 x18 x19 x20 x21 x22 x23 x24 x25 x26 x27 x28 x29 x30 x31 x32 x33 x34 x35 x36 x37 x38 x39 = some r) [1, 3, 5, 8, 9, 10, 11, 12] (fun (x39 : Bool) (_ : Unit) => [(51, .b x39)]) [9, 10, 11, 12, 13, 14, 15, 16, 17, 18, 19, 20, 21, 22, 23, 24, 25, 26, 27, 0, 1, 2, 3, 4, 5, 6, 7, 8] (fun x39 _ => []) rfl (cl0 rfl (fun h => n_laws_eqBase (a_ := (⟨(⟨(⟨x21, x22⟩ : Heap), (⟨x23, x24⟩ : Lists)⟩ : Mem), (⟨x25, x26⟩ : Clock), x27, x28⟩ : Base)) (b := (⟨(⟨(⟨x2, x3⟩ : Heap), (⟨x4, x5⟩ : Lists)⟩ : Mem), (⟨x6, x7⟩ : Clock), x8, x9⟩ : Base)) (h.o 0 rfl) (h.o 1 rfl) (h.o 2 rfl) (h.o 3 rfl) (h.o 4 rfl) (h.o 5 rfl) (h.o 6 rfl) (h.o 11 rfl) (h.o 12 rfl) (h.o 13 rfl) (h.o 14 rfl) (h.o 15 rfl) (h.o 16 rfl) (h.o 17 rfl)) hF fun x73 _ hF => ca [45, 46] rfl rfl hF (fun hF => jn () [9, 10, 11, 12, 13, 14, 15, 16, 17, 18, 19, 20, 21, 22, 23, 24, 25, 26, 27, 0, 1, 2, 3, 4, 5, 6, 7, 8] hF rfl rfl) fun hF => cl0 rfl (fun _ => n_laws_eqSub) hF fun x74 _ hF => jn () [9, 10, 11, 12, 13, 14, 15, 16, 17, 18, 19, 20, 21, 22, 23, 24, 25, 26, 27, 0, 1, 2, 3, 4, 5, 6, 7, 8] hF rfl rfl) fun x39 _ hF => cs [51] rfl rfl hF (fun hF => rt () [] hF rfl rfl Tryz.results3 rfl rfl rfl rfl) fun hF => dr [0, 1, 9, 10, 18, 26, 27] rfl mixed_Tryz (by kernel_rfl) fun _ => cl rfl (fun _ _ => rfl) (fun h => n_laws_toBase (h.a h1) (h.a h2) (h.a h3) (h.a h4) (h.a h5) (h.a h6) (h.a h7)) hF fun x40 _ hF s23 => cl0 rfl (fun h => n_laws_eqBase (h.o 11 rfl) (h.o 12 rfl) (h.o 13 rfl) (h.o 14 rfl) (h.o 15 rfl) (h.o 16 rfl) (h.o 17 rfl) (h.o 28 rfl) (h.o 29 rfl) (h.o 30 rfl) (h.o 31 rfl) (h.o 32 rfl) (h.o 33 rfl) (h.o 34 rfl)) hF fun x41 _ hF => cs [56] rfl rfl hF (fun hF => rt () [] hF rfl rfl Tryz.results3 rfl rfl rfl rfl) fun hF => cw0  [11, 12, 13, 14, 15, 16, 17] rfl rfl rfl rfl (fun _ _ => rfl) (fun _ => n_laws_markBase) hF fun x42 _ hF _ => un 35 [] [(52, 0), (57, 0)] [(18, 0)] rfl rfl rfl rfl rfl rfl fun hl1 => fG rfl rfl <| un 36 [] [(52, 1), (57, 1)] [(18, 1)] rfl rfl rfl rfl rfl rfl fun hl2 => fG rfl rfl <| un 37 [] [(52, 2), (57, 2)] [(18, 2)] rfl rfl rfl rfl rfl rfl fun hl3 => fG rfl rfl <| un 38 [] [(52, 3), (57, 3)] [(18, 3)] rfl rfl rfl rfl rfl rfl fun hl4 => fG rfl rfl <| un 39 [] [(52, 5), (57, 5)] [(18, 5)] rfl rfl rfl rfl rfl rfl fun hl5 => fG rfl rfl <| un 40 [] [(52, 6), (57, 6)] [(18, 6)] rfl rfl rfl rfl rfl rfl fun hl6 => fG rfl rfl <| un 41 [] [(52, 7), (57, 7)] [(18, 7)] rfl rfl rfl rfl rfl rfl fun hl7 => fG rfl rfl <| cut 0 7 (fun (x43 : Bool) => laws_FnExactSubStep_j4 aB aW aS x2 x3 x4 x5 x6 x7 x8 x9 x10 x11 x12 x13 x14 x15 x16 x17 x18 x19 x21 x22 x23 x24 x25 x26 x27 x28 x43 = some r) [1, 3, 5, 8, 9, 11] (fun (x43 : Bool) (_ : Unit) => [(73, .b x43)]) [0, 1, 2, 3, 4, 5, 6, 7, 8, 9, 10, 19, 20, 21, 22, 23, 24, 25, 26] (fun x43 _ => []) rfl (ca [61, 62] rfl rfl hF (fun hF => jn () [0, 1, 2, 3, 4, 5, 6, 7, 8, 9, 10, 19, 20, 21, 22, 23, 24, 25, 26] hF rfl rfl) fun hF => cl0 rfl (fun h => n_laws_eqBase (a_ := (⟨(⟨(⟨x21, x22⟩ : Heap), (⟨x23, x24⟩ : Lists)⟩ : Mem), (⟨x25, x26⟩ : Clock), x27, x28⟩ : Base)) (b := (⟨(⟨(⟨x2, x3⟩ : Heap), (⟨x4, x5⟩ : Lists)⟩ : Mem), (⟨x6, x7⟩ : Clock), x8, x9⟩ : Base)) (h.o 19 rfl) (h.o 20 rfl) (h.o 21 rfl) (h.o 22 rfl) (h.o 23 rfl) (h.o 24 rfl) (h.o 25 rfl) (h.o 2 rfl) (h.o 3 rfl) (h.o 4 rfl) (h.o 5 rfl) (h.o 6 rfl) (h.o 7 rfl) (h.o 8 rfl)) hF fun x71 _ hF => ca [66, 67, 68] rfl rfl hF (fun hF => jn () [0, 1, 2, 3, 4, 5, 6, 7, 8, 9, 10, 19, 20, 21, 22, 23, 24, 25, 26] hF rfl rfl) fun hF => cl0 rfl (fun _ => n_laws_eqSub) hF fun x72 _ hF => jn () [0, 1, 2, 3, 4, 5, 6, 7, 8, 9, 10, 19, 20, 21, 22, 23, 24, 25, 26] hF rfl rfl) fun x43 _ hF => cs [73] rfl rfl hF (fun hF => rt () [] hF rfl rfl Tryz.results3 rfl rfl rfl rfl) fun hF => cw0  [11, 12, 13, 14, 15, 16, 17] rfl rfl rfl rfl (fun _ _ => rfl) (fun _ => n_laws_markBase (a_ := (⟨(⟨(⟨x21, x22⟩ : Heap), (⟨x23, x24⟩ : Lists)⟩ : Mem), (⟨x25, x26⟩ : Clock), x27, x28⟩ : Base))) hF fun x44 _ hF _ => un 19 [] [(74, 0)] [(18, 0)] rfl rfl rfl rfl rfl rfl fun hl8 => fG rfl rfl <| un 20 [] [(74, 1)] [(18, 1)] rfl rfl rfl rfl rfl rfl fun hl9 => fG rfl rfl <| un 21 [] [(74, 2)] [(18, 2)] rfl rfl rfl rfl rfl rfl fun hl10 => fG rfl rfl <| un 22 [] [(74, 3)] [(18, 3)] rfl rfl rfl rfl rfl rfl fun hl11 => fG rfl rfl <| un 23 [] [(74, 5)] [(18, 5)] rfl rfl rfl rfl rfl rfl fun hl12 => fG rfl rfl <| un 24 [] [(74, 6)] [(18, 6)] rfl rfl rfl rfl rfl rfl fun hl13 => fG rfl rfl <| un 25 [] [(74, 7)] [(18, 7)] rfl rfl rfl rfl rfl rfl fun hl14 => fG rfl rfl <| cl0 rfl (fun h => n_laws_heldBase (a_ := (⟨(⟨(⟨x44.2.1, x44.2.2.1⟩ : Heap), (⟨x44.2.2.2.1, x44.2.2.2.2.1⟩ : Lists)⟩ : Mem), (⟨x25, x44.2.2.2.2.2.1⟩ : Clock), x44.2.2.2.2.2.2.1, x44.2.2.2.2.2.2.2⟩ : Base)) (h.o 19 rfl) (h.o 20 rfl) (h.o 21 rfl) (h.o 22 rfl) (h.o 23 rfl) (h.o 24 rfl) (h.o 25 rfl)) hF fun x45 _ hF => cs [81] rfl rfl hF (fun hF => rt () [] hF rfl rfl Tryz.results3 rfl rfl rfl rfl) fun hF => cs [84] rfl rfl hF (fun hF => rt () [] hF rfl rfl Tryz.results3 rfl rfl rfl rfl) fun hF => cut 0 9 (fun (p : (List Int) × (List Int) × (List SList) × (List SList) × Int × (List Pin) × (List LList) × (List Int) × Int × Int × Int × Int × Int × Int × Int × Int × Int × Bool) => laws_FnExactSubStep_j5 x2 x3 x4 x5 x6 x7 x8 x9 x10 x11 x12 x13 x14 x15 x16 x17 x18 x19 x25 x44 p.1 p.2.1 p.2.2.1 p.2.2.2.1 p.2.2.2.2.1 p.2.2.2.2.2.1 p.2.2.2.2.2.2.1 p.2.2.2.2.2.2.2.1 p.2.2.2.2.2.2.2.2.1 p.2.2.2.2.2.2.2.2.2.1 p.2.2.2.2.2.2.2.2.2.2.1 p.2.2.2.2.2.2.2.2.2.2.2.1 p.2.2.2.2.2.2.2.2.2.2.2.2.1 p.2.2.2.2.2.2.2.2.2.2.2.2.2.1 p.2.2.2.2.2.2.2.2.2.2.2.2.2.2.1 p.2.2.2.2.2.2.2.2.2.2.2.2.2.2.2.1 p.2.2.2.2.2.2.2.2.2.2.2.2.2.2.2.2.1 p.2.2.2.2.2.2.2.2.2.2.2.2.2.2.2.2.2 = some r) [8, 9, 11, 14] (fun (p : (List Int) × (List Int) × (List SList) × (List SList) × Int × (List Pin) × (List LList) × (List Int) × Int × Int × Int × Int × Int × Int × Int × Int × Int × Bool) (u : AC × AC × AC × AC × AC × AC × AC) => [(16, .p 7 0), (17, .p 8 0)]) [2, 3, 4, 5, 6, 7, 8, 9, 10, 19, 20, 21, 22, 23, 24, 25, 18] (fun p u => [ow u.1 (p.1 : List Int), ow u.2.1 (p.2.1 : List Int), ow u.2.2.1 (p.2.2.1 : List SList), ow u.2.2.2.1 (p.2.2.2.1 : List SList), ow u.2.2.2.2.1 (p.2.2.2.2.2.1 : List Pin), ow u.2.2.2.2.2.1 (p.2.2.2.2.2.2.1 : List LList), ow u.2.2.2.2.2.2 (p.2.2.2.2.2.2.2.1 : List Int), .box 7 [.h u.1 p.1.length, .h u.2.1 p.2.1.length, .h u.2.2.1 p.2.2.1.length, .h u.2.2.2.1 p.2.2.2.1.length, I p.2.2.2.2.1, .h u.2.2.2.2.1 p.2.2.2.2.2.1.length, .h u.2.2.2.2.2.1 p.2.2.2.2.2.2.1.length, .h u.2.2.2.2.2.2 p.2.2.2.2.2.2.2.1.length], .box 8 [I p.2.2.2.2.2.2.2.2.1, I p.2.2.2.2.2.2.2.2.2.1, I p.2.2.2.2.2.2.2.2.2.2.1, I p.2.2.2.2.2.2.2.2.2.2.2.1, I p.2.2.2.2.2.2.2.2.2.2.2.2.1, I p.2.2.2.2.2.2.2.2.2.2.2.2.2.1, I p.2.2.2.2.2.2.2.2.2.2.2.2.2.2.1, I p.2.2.2.2.2.2.2.2.2.2.2.2.2.2.2.1, I p.2.2.2.2.2.2.2.2.2.2.2.2.2.2.2.2.1, .b p.2.2.2.2.2.2.2.2.2.2.2.2.2.2.2.2.2]]) rfl (dr [0, 1, 9, 10, 18] rfl mixed_Tryz (by kernel_rfl) fun _ => bd hF fun x68 hA1 hF => bd hF fun x69 hA2 hF => bd hF fun x70 hA3 hF => alt3 rfl rfl (have hq1 := rb hA1; cl rfl (fun _ _ => rfl) (fun h => n_laws_toBase (h.a h1) (h.a h2) (h.a h3) (h.a h4) (h.a h5) (h.a h6) (h.a h7)) hq1 fun u1 _ hq1 s33 => match u1, hq1 with | _, rfl => alt3 rfl rfl (have hq2 := rb hA2; cl0 rfl (fun _ => n_laws_toSub) hq2 fun u2 _ hq2 => match u2, hq2 with | _, rfl => alt3 rfl rfl (have hq3 := rb hA3; cl rfl (fun _ _ => rfl) (fun h => n_impl_SubStep (h.o 26 rfl) (h.o 27 rfl) (h.o 28 rfl) (h.o 29 rfl) (h.o 30 rfl) (h.o 31 rfl) (h.o 32 rfl)) hq3 fun u3 _ hq3 s34 => match u3, hq3 with | _, rfl => alt2 rfl rfl (jn (p := (x70.1.Mem.Heap.Bytes, x70.1.Mem.Heap.Class, x70.1.Mem.Lists.Global, x70.1.Mem.Lists.Own, x70.1.Clock.Epoch, x70.1.Clock.Pins, x70.1.Limbo, x70.1.Haz, x70.2.Kind, x70.2.A, x70.2.Pc, x70.2.E, x70.2.Row, x70.2.B, x70.2.H, x70.2.Out, x70.2.Code, x70.2.Done)) (s34.1, s34.2.1, s34.2.2.1, s34.2.2.2.1, s34.2.2.2.2.1, s34.2.2.2.2.2.1, s34.2.2.2.2.2.2) [33, 34, 35, 36, 37, 38, 39, 40, 41, 2, 3, 4, 5, 6, 7, 8, 9, 10, 19, 20, 21, 22, 23, 24, 25, 18] hF rfl rfl) (sF rfl <| swR 8 7 rfl <| fD rfl rfl <| jnR (p := (x70.1.Mem.Heap.Bytes, x70.1.Mem.Heap.Class, x70.1.Mem.Lists.Global, x70.1.Mem.Lists.Own, x70.1.Clock.Epoch, x70.1.Clock.Pins, x70.1.Limbo, x70.1.Haz, x70.2.Kind, x70.2.A, x70.2.Pc, x70.2.E, x70.2.Row, x70.2.B, x70.2.H, x70.2.Out, x70.2.Code, x70.2.Done)) (s34.1, s34.2.1, s34.2.2.1, s34.2.2.2.1, s34.2.2.2.2.1, s34.2.2.2.2.2.1, s34.2.2.2.2.2.2) [33, 34, 35, 36, 37, 38, 39, 41, 40, 2, 3, 4, 5, 6, 7, 8, 9, 10, 19, 20, 21, 22, 23, 24, 25, 18] hF rfl)) (alt2 rfl rfl (have hq4 := rb hA3; cl rfl (fun _ _ => rfl) (fun h => n_impl_SubStep (h.o 26 rfl) (h.o 27 rfl) (h.o 28 rfl) (h.o 29 rfl) (h.o 30 rfl) (h.o 31 rfl) (h.o 32 rfl)) hq4 fun u4 _ hq4 s35 => match u4, hq4 with | _, rfl => jn (p := (x70.1.Mem.Heap.Bytes, x70.1.Mem.Heap.Class, x70.1.Mem.Lists.Global, x70.1.Mem.Lists.Own, x70.1.Clock.Epoch, x70.1.Clock.Pins, x70.1.Limbo, x70.1.Haz, x70.2.Kind, x70.2.A, x70.2.Pc, x70.2.E, x70.2.Row, x70.2.B, x70.2.H, x70.2.Out, x70.2.Code, x70.2.Done)) (s35.1, s35.2.1, s35.2.2.1, s35.2.2.2.1, s35.2.2.2.2.1, s35.2.2.2.2.2.1, s35.2.2.2.2.2.2) [34, 35, 36, 37, 38, 39, 40, 33, 41, 2, 3, 4, 5, 6, 7, 8, 9, 10, 19, 20, 21, 22, 23, 24, 25, 18] hF rfl rfl) (have hq5 := rb hA3; cl rfl (fun _ _ => rfl) (fun h => n_impl_SubStep (h.o 26 rfl) (h.o 27 rfl) (h.o 28 rfl) (h.o 29 rfl) (h.o 30 rfl) (h.o 31 rfl) (h.o 32 rfl)) hq5 fun u5 _ hq5 s36 => match u5, hq5 with | _, rfl => jn (p := (x70.1.Mem.Heap.Bytes, x70.1.Mem.Heap.Class, x70.1.Mem.Lists.Global, x70.1.Mem.Lists.Own, x70.1.Clock.Epoch, x70.1.Clock.Pins, x70.1.Limbo, x70.1.Haz, x70.2.Kind, x70.2.A, x70.2.Pc, x70.2.E, x70.2.Row, x70.2.B, x70.2.H, x70.2.Out, x70.2.Code, x70.2.Done)) (s36.1, s36.2.1, s36.2.2.1, s36.2.2.2.1, s36.2.2.2.2.1, s36.2.2.2.2.2.1, s36.2.2.2.2.2.2) [35, 36, 37, 38, 39, 40, 41, 33, 34, 2, 3, 4, 5, 6, 7, 8, 9, 10, 19, 20, 21, 22, 23, 24, 25, 18] hF rfl rfl)) (alt2 rfl rfl (have hq6 := rb hA3; cl rfl (fun _ _ => rfl) (fun h => n_impl_SubStep (h.o 26 rfl) (h.o 27 rfl) (h.o 28 rfl) (h.o 29 rfl) (h.o 30 rfl) (h.o 31 rfl) (h.o 32 rfl)) hq6 fun u6 _ hq6 s37 => match u6, hq6 with | _, rfl => sF rfl <| swR 8 7 rfl <| fD rfl rfl <| jnR (p := (x70.1.Mem.Heap.Bytes, x70.1.Mem.Heap.Class, x70.1.Mem.Lists.Global, x70.1.Mem.Lists.Own, x70.1.Clock.Epoch, x70.1.Clock.Pins, x70.1.Limbo, x70.1.Haz, x70.2.Kind, x70.2.A, x70.2.Pc, x70.2.E, x70.2.Row, x70.2.B, x70.2.H, x70.2.Out, x70.2.Code, x70.2.Done)) (s37.1, s37.2.1, s37.2.2.1, s37.2.2.2.1, s37.2.2.2.2.1, s37.2.2.2.2.2.1, s37.2.2.2.2.2.2) [34, 35, 36, 37, 38, 39, 40, 41, 33, 2, 3, 4, 5, 6, 7, 8, 9, 10, 19, 20, 21, 22, 23, 24, 25, 18] hF rfl) (have hq7 := rb hA3; cl rfl (fun _ _ => rfl) (fun h => n_impl_SubStep (h.o 26 rfl) (h.o 27 rfl) (h.o 28 rfl) (h.o 29 rfl) (h.o 30 rfl) (h.o 31 rfl) (h.o 32 rfl)) hq7 fun u7 _ hq7 s38 => match u7, hq7 with | _, rfl => sF rfl <| swR 8 7 rfl <| fD rfl rfl <| jnR (p := (x70.1.Mem.Heap.Bytes, x70.1.Mem.Heap.Class, x70.1.Mem.Lists.Global, x70.1.Mem.Lists.Own, x70.1.Clock.Epoch, x70.1.Clock.Pins, x70.1.Limbo, x70.1.Haz, x70.2.Kind, x70.2.A, x70.2.Pc, x70.2.E, x70.2.Row, x70.2.B, x70.2.H, x70.2.Out, x70.2.Code, x70.2.Done)) (s38.1, s38.2.1, s38.2.2.1, s38.2.2.2.1, s38.2.2.2.2.1, s38.2.2.2.2.2.1, s38.2.2.2.2.2.2) [35, 36, 37, 38, 39, 40, 41, 34, 33, 2, 3, 4, 5, 6, 7, 8, 9, 10, 19, 20, 21, 22, 23, 24, 25, 18] hF rfl))) (alt2 rfl rfl (have hq8 := rb hA2; cl0 rfl (fun _ => n_laws_toSub) hq8 fun u8 _ hq8 => match u8, hq8 with | _, rfl => alt2 rfl rfl (have hq9 := rb hA3; cl rfl (fun _ _ => rfl) (fun h => n_impl_SubStep (h.o 26 rfl) (h.o 27 rfl) (h.o 28 rfl) (h.o 29 rfl) (h.o 30 rfl) (h.o 31 rfl) (h.o 32 rfl)) hq9 fun u9 _ hq9 s39 => match u9, hq9 with | _, rfl => jn (p := (x70.1.Mem.Heap.Bytes, x70.1.Mem.Heap.Class, x70.1.Mem.Lists.Global, x70.1.Mem.Lists.Own, x70.1.Clock.Epoch, x70.1.Clock.Pins, x70.1.Limbo, x70.1.Haz, x70.2.Kind, x70.2.A, x70.2.Pc, x70.2.E, x70.2.Row, x70.2.B, x70.2.H, x70.2.Out, x70.2.Code, x70.2.Done)) (s39.1, s39.2.1, s39.2.2.1, s39.2.2.2.1, s39.2.2.2.2.1, s39.2.2.2.2.2.1, s39.2.2.2.2.2.2) [34, 35, 36, 37, 38, 39, 40, 33, 41, 2, 3, 4, 5, 6, 7, 8, 9, 10, 19, 20, 21, 22, 23, 24, 25, 18] hF rfl rfl) (have hq10 := rb hA3; cl rfl (fun _ _ => rfl) (fun h => n_impl_SubStep (h.o 26 rfl) (h.o 27 rfl) (h.o 28 rfl) (h.o 29 rfl) (h.o 30 rfl) (h.o 31 rfl) (h.o 32 rfl)) hq10 fun u10 _ hq10 s40 => match u10, hq10 with | _, rfl => jn (p := (x70.1.Mem.Heap.Bytes, x70.1.Mem.Heap.Class, x70.1.Mem.Lists.Global, x70.1.Mem.Lists.Own, x70.1.Clock.Epoch, x70.1.Clock.Pins, x70.1.Limbo, x70.1.Haz, x70.2.Kind, x70.2.A, x70.2.Pc, x70.2.E, x70.2.Row, x70.2.B, x70.2.H, x70.2.Out, x70.2.Code, x70.2.Done)) (s40.1, s40.2.1, s40.2.2.1, s40.2.2.2.1, s40.2.2.2.2.1, s40.2.2.2.2.2.1, s40.2.2.2.2.2.2) [35, 36, 37, 38, 39, 40, 41, 33, 34, 2, 3, 4, 5, 6, 7, 8, 9, 10, 19, 20, 21, 22, 23, 24, 25, 18] hF rfl rfl)) (have hq11 := rb hA2; cl0 rfl (fun _ => n_laws_toSub) hq11 fun u11 _ hq11 => match u11, hq11 with | _, rfl => have hq12 := rb hA3; cl rfl (fun _ _ => rfl) (fun h => n_impl_SubStep (h.o 26 rfl) (h.o 27 rfl) (h.o 28 rfl) (h.o 29 rfl) (h.o 30 rfl) (h.o 31 rfl) (h.o 32 rfl)) hq12 fun u12 _ hq12 s41 => match u12, hq12 with | _, rfl => jn (p := (x70.1.Mem.Heap.Bytes, x70.1.Mem.Heap.Class, x70.1.Mem.Lists.Global, x70.1.Mem.Lists.Own, x70.1.Clock.Epoch, x70.1.Clock.Pins, x70.1.Limbo, x70.1.Haz, x70.2.Kind, x70.2.A, x70.2.Pc, x70.2.E, x70.2.Row, x70.2.B, x70.2.H, x70.2.Out, x70.2.Code, x70.2.Done)) (s41.1, s41.2.1, s41.2.2.1, s41.2.2.2.1, s41.2.2.2.2.1, s41.2.2.2.2.2.1, s41.2.2.2.2.2.2) [35, 36, 37, 38, 39, 40, 41, 33, 34, 2, 3, 4, 5, 6, 7, 8, 9, 10, 19, 20, 21, 22, 23, 24, 25, 18] hF rfl rfl)) (alt2 rfl rfl (have hq13 := rb hA2; cl0 rfl (fun _ => n_laws_toSub) hq13 fun u13 _ hq13 => match u13, hq13 with | _, rfl => alt2 rfl rfl (have hq14 := rb hA3; cl rfl (fun _ _ => rfl) (fun h => n_impl_SubStep (h.o 26 rfl) (h.o 27 rfl) (h.o 28 rfl) (h.o 29 rfl) (h.o 30 rfl) (h.o 31 rfl) (h.o 32 rfl)) hq14 fun u14 _ hq14 s42 => match u14, hq14 with | _, rfl => sF rfl <| swR 8 7 rfl <| fD rfl rfl <| jnR (p := (x70.1.Mem.Heap.Bytes, x70.1.Mem.Heap.Class, x70.1.Mem.Lists.Global, x70.1.Mem.Lists.Own, x70.1.Clock.Epoch, x70.1.Clock.Pins, x70.1.Limbo, x70.1.Haz, x70.2.Kind, x70.2.A, x70.2.Pc, x70.2.E, x70.2.Row, x70.2.B, x70.2.H, x70.2.Out, x70.2.Code, x70.2.Done)) (s42.1, s42.2.1, s42.2.2.1, s42.2.2.2.1, s42.2.2.2.2.1, s42.2.2.2.2.2.1, s42.2.2.2.2.2.2) [34, 35, 36, 37, 38, 39, 40, 41, 33, 2, 3, 4, 5, 6, 7, 8, 9, 10, 19, 20, 21, 22, 23, 24, 25, 18] hF rfl) (have hq15 := rb hA3; cl rfl (fun _ _ => rfl) (fun h => n_impl_SubStep (h.o 26 rfl) (h.o 27 rfl) (h.o 28 rfl) (h.o 29 rfl) (h.o 30 rfl) (h.o 31 rfl) (h.o 32 rfl)) hq15 fun u15 _ hq15 s43 => match u15, hq15 with | _, rfl => sF rfl <| swR 8 7 rfl <| fD rfl rfl <| jnR (p := (x70.1.Mem.Heap.Bytes, x70.1.Mem.Heap.Class, x70.1.Mem.Lists.Global, x70.1.Mem.Lists.Own, x70.1.Clock.Epoch, x70.1.Clock.Pins, x70.1.Limbo, x70.1.Haz, x70.2.Kind, x70.2.A, x70.2.Pc, x70.2.E, x70.2.Row, x70.2.B, x70.2.H, x70.2.Out, x70.2.Code, x70.2.Done)) (s43.1, s43.2.1, s43.2.2.1, s43.2.2.2.1, s43.2.2.2.2.1, s43.2.2.2.2.2.1, s43.2.2.2.2.2.2) [35, 36, 37, 38, 39, 40, 41, 34, 33, 2, 3, 4, 5, 6, 7, 8, 9, 10, 19, 20, 21, 22, 23, 24, 25, 18] hF rfl)) (have hq16 := rb hA2; cl0 rfl (fun _ => n_laws_toSub) hq16 fun u16 _ hq16 => match u16, hq16 with | _, rfl => have hq17 := rb hA3; cl rfl (fun _ _ => rfl) (fun h => n_impl_SubStep (h.o 26 rfl) (h.o 27 rfl) (h.o 28 rfl) (h.o 29 rfl) (h.o 30 rfl) (h.o 31 rfl) (h.o 32 rfl)) hq17 fun u17 _ hq17 s44 => match u17, hq17 with | _, rfl => sF rfl <| swR 8 7 rfl <| fD rfl rfl <| jnR (p := (x70.1.Mem.Heap.Bytes, x70.1.Mem.Heap.Class, x70.1.Mem.Lists.Global, x70.1.Mem.Lists.Own, x70.1.Clock.Epoch, x70.1.Clock.Pins, x70.1.Limbo, x70.1.Haz, x70.2.Kind, x70.2.A, x70.2.Pc, x70.2.E, x70.2.Row, x70.2.B, x70.2.H, x70.2.Out, x70.2.Code, x70.2.Done)) (s44.1, s44.2.1, s44.2.2.1, s44.2.2.2.1, s44.2.2.2.2.1, s44.2.2.2.2.2.1, s44.2.2.2.2.2.2) [35, 36, 37, 38, 39, 40, 41, 34, 33, 2, 3, 4, 5, 6, 7, 8, 9, 10, 19, 20, 21, 22, 23, 24, 25, 18] hF rfl))) (alt2 rfl rfl (have hq18 := rb hA1; cl rfl (fun _ _ => rfl) (fun h => n_laws_toBase (h.a h1) (h.a h2) (h.a h3) (h.a h4) (h.a h5) (h.a h6) (h.a h7)) hq18 fun u18 _ hq18 s45 => match u18, hq18 with | _, rfl => alt2 rfl rfl (have hq19 := rb hA2; cl0 rfl (fun _ => n_laws_toSub) hq19 fun u19 _ hq19 => match u19, hq19 with | _, rfl => alt2 rfl rfl (have hq20 := rb hA3; cl rfl (fun _ _ => rfl) (fun h => n_impl_SubStep (h.o 27 rfl) (h.o 28 rfl) (h.o 29 rfl) (h.o 30 rfl) (h.o 31 rfl) (h.o 32 rfl) (h.o 33 rfl)) hq20 fun u20 _ hq20 s46 => match u20, hq20 with | _, rfl => jn (p := (x70.1.Mem.Heap.Bytes, x70.1.Mem.Heap.Class, x70.1.Mem.Lists.Global, x70.1.Mem.Lists.Own, x70.1.Clock.Epoch, x70.1.Clock.Pins, x70.1.Limbo, x70.1.Haz, x70.2.Kind, x70.2.A, x70.2.Pc, x70.2.E, x70.2.Row, x70.2.B, x70.2.H, x70.2.Out, x70.2.Code, x70.2.Done)) (s46.1, s46.2.1, s46.2.2.1, s46.2.2.2.1, s46.2.2.2.2.1, s46.2.2.2.2.2.1, s46.2.2.2.2.2.2) [34, 35, 36, 37, 38, 39, 40, 26, 41, 2, 3, 4, 5, 6, 7, 8, 9, 10, 19, 20, 21, 22, 23, 24, 25, 18] hF rfl rfl) (have hq21 := rb hA3; cl rfl (fun _ _ => rfl) (fun h => n_impl_SubStep (h.o 27 rfl) (h.o 28 rfl) (h.o 29 rfl) (h.o 30 rfl) (h.o 31 rfl) (h.o 32 rfl) (h.o 33 rfl)) hq21 fun u21 _ hq21 s47 => match u21, hq21 with | _, rfl => jn (p := (x70.1.Mem.Heap.Bytes, x70.1.Mem.Heap.Class, x70.1.Mem.Lists.Global, x70.1.Mem.Lists.Own, x70.1.Clock.Epoch, x70.1.Clock.Pins, x70.1.Limbo, x70.1.Haz, x70.2.Kind, x70.2.A, x70.2.Pc, x70.2.E, x70.2.Row, x70.2.B, x70.2.H, x70.2.Out, x70.2.Code, x70.2.Done)) (s47.1, s47.2.1, s47.2.2.1, s47.2.2.2.1, s47.2.2.2.2.1, s47.2.2.2.2.2.1, s47.2.2.2.2.2.2) [35, 36, 37, 38, 39, 40, 41, 26, 34, 2, 3, 4, 5, 6, 7, 8, 9, 10, 19, 20, 21, 22, 23, 24, 25, 18] hF rfl rfl)) (have hq22 := rb hA2; cl0 rfl (fun _ => n_laws_toSub) hq22 fun u22 _ hq22 => match u22, hq22 with | _, rfl => have hq23 := rb hA3; cl rfl (fun _ _ => rfl) (fun h => n_impl_SubStep (h.o 27 rfl) (h.o 28 rfl) (h.o 29 rfl) (h.o 30 rfl) (h.o 31 rfl) (h.o 32 rfl) (h.o 33 rfl)) hq23 fun u23 _ hq23 s48 => match u23, hq23 with | _, rfl => jn (p := (x70.1.Mem.Heap.Bytes, x70.1.Mem.Heap.Class, x70.1.Mem.Lists.Global, x70.1.Mem.Lists.Own, x70.1.Clock.Epoch, x70.1.Clock.Pins, x70.1.Limbo, x70.1.Haz, x70.2.Kind, x70.2.A, x70.2.Pc, x70.2.E, x70.2.Row, x70.2.B, x70.2.H, x70.2.Out, x70.2.Code, x70.2.Done)) (s48.1, s48.2.1, s48.2.2.1, s48.2.2.2.1, s48.2.2.2.2.1, s48.2.2.2.2.2.1, s48.2.2.2.2.2.2) [35, 36, 37, 38, 39, 40, 41, 26, 34, 2, 3, 4, 5, 6, 7, 8, 9, 10, 19, 20, 21, 22, 23, 24, 25, 18] hF rfl rfl)) (have hq24 := rb hA1; cl rfl (fun _ _ => rfl) (fun h => n_laws_toBase (h.a h1) (h.a h2) (h.a h3) (h.a h4) (h.a h5) (h.a h6) (h.a h7)) hq24 fun u24 _ hq24 s49 => match u24, hq24 with | _, rfl => have hq25 := rb hA2; cl0 rfl (fun _ => n_laws_toSub) hq25 fun u25 _ hq25 => match u25, hq25 with | _, rfl => have hq26 := rb hA3; cl rfl (fun _ _ => rfl) (fun h => n_impl_SubStep (h.o 28 rfl) (h.o 29 rfl) (h.o 30 rfl) (h.o 31 rfl) (h.o 32 rfl) (h.o 33 rfl) (h.o 34 rfl)) hq26 fun u26 _ hq26 s50 => match u26, hq26 with | _, rfl => jn (p := (x70.1.Mem.Heap.Bytes, x70.1.Mem.Heap.Class, x70.1.Mem.Lists.Global, x70.1.Mem.Lists.Own, x70.1.Clock.Epoch, x70.1.Clock.Pins, x70.1.Limbo, x70.1.Haz, x70.2.Kind, x70.2.A, x70.2.Pc, x70.2.E, x70.2.Row, x70.2.B, x70.2.H, x70.2.Out, x70.2.Code, x70.2.Done)) (s50.1, s50.2.1, s50.2.2.1, s50.2.2.2.1, s50.2.2.2.2.1, s50.2.2.2.2.2.1, s50.2.2.2.2.2.2) [35, 36, 37, 38, 39, 40, 41, 26, 27, 2, 3, 4, 5, 6, 7, 8, 9, 10, 19, 20, 21, 22, 23, 24, 25, 18] hF rfl rfl)) (alt2 rfl rfl (have hq27 := rb hA1; cl rfl (fun _ _ => rfl) (fun h => n_laws_toBase (h.a h1) (h.a h2) (h.a h3) (h.a h4) (h.a h5) (h.a h6) (h.a h7)) hq27 fun u27 _ hq27 s51 => match u27, hq27 with | _, rfl => alt2 rfl rfl (have hq28 := rb hA2; cl0 rfl (fun _ => n_laws_toSub) hq28 fun u28 _ hq28 => match u28, hq28 with | _, rfl => alt2 rfl rfl (have hq29 := rb hA3; cl rfl (fun _ _ => rfl) (fun h => n_impl_SubStep (h.o 27 rfl) (h.o 28 rfl) (h.o 29 rfl) (h.o 30 rfl) (h.o 31 rfl) (h.o 32 rfl) (h.o 33 rfl)) hq29 fun u29 _ hq29 s52 => match u29, hq29 with | _, rfl => sF rfl <| swR 8 7 rfl <| fD rfl rfl <| jnR (p := (x70.1.Mem.Heap.Bytes, x70.1.Mem.Heap.Class, x70.1.Mem.Lists.Global, x70.1.Mem.Lists.Own, x70.1.Clock.Epoch, x70.1.Clock.Pins, x70.1.Limbo, x70.1.Haz, x70.2.Kind, x70.2.A, x70.2.Pc, x70.2.E, x70.2.Row, x70.2.B, x70.2.H, x70.2.Out, x70.2.Code, x70.2.Done)) (s52.1, s52.2.1, s52.2.2.1, s52.2.2.2.1, s52.2.2.2.2.1, s52.2.2.2.2.2.1, s52.2.2.2.2.2.2) [34, 35, 36, 37, 38, 39, 40, 41, 26, 2, 3, 4, 5, 6, 7, 8, 9, 10, 19, 20, 21, 22, 23, 24, 25, 18] hF rfl) (have hq30 := rb hA3; cl rfl (fun _ _ => rfl) (fun h => n_impl_SubStep (h.o 27 rfl) (h.o 28 rfl) (h.o 29 rfl) (h.o 30 rfl) (h.o 31 rfl) (h.o 32 rfl) (h.o 33 rfl)) hq30 fun u30 _ hq30 s53 => match u30, hq30 with | _, rfl => sF rfl <| swR 8 7 rfl <| fD rfl rfl <| jnR (p := (x70.1.Mem.Heap.Bytes, x70.1.Mem.Heap.Class, x70.1.Mem.Lists.Global, x70.1.Mem.Lists.Own, x70.1.Clock.Epoch, x70.1.Clock.Pins, x70.1.Limbo, x70.1.Haz, x70.2.Kind, x70.2.A, x70.2.Pc, x70.2.E, x70.2.Row, x70.2.B, x70.2.H, x70.2.Out, x70.2.Code, x70.2.Done)) (s53.1, s53.2.1, s53.2.2.1, s53.2.2.2.1, s53.2.2.2.2.1, s53.2.2.2.2.2.1, s53.2.2.2.2.2.2) [35, 36, 37, 38, 39, 40, 41, 34, 26, 2, 3, 4, 5, 6, 7, 8, 9, 10, 19, 20, 21, 22, 23, 24, 25, 18] hF rfl)) (have hq31 := rb hA2; cl0 rfl (fun _ => n_laws_toSub) hq31 fun u31 _ hq31 => match u31, hq31 with | _, rfl => have hq32 := rb hA3; cl rfl (fun _ _ => rfl) (fun h => n_impl_SubStep (h.o 27 rfl) (h.o 28 rfl) (h.o 29 rfl) (h.o 30 rfl) (h.o 31 rfl) (h.o 32 rfl) (h.o 33 rfl)) hq32 fun u32 _ hq32 s54 => match u32, hq32 with | _, rfl => sF rfl <| swR 8 7 rfl <| fD rfl rfl <| jnR (p := (x70.1.Mem.Heap.Bytes, x70.1.Mem.Heap.Class, x70.1.Mem.Lists.Global, x70.1.Mem.Lists.Own, x70.1.Clock.Epoch, x70.1.Clock.Pins, x70.1.Limbo, x70.1.Haz, x70.2.Kind, x70.2.A, x70.2.Pc, x70.2.E, x70.2.Row, x70.2.B, x70.2.H, x70.2.Out, x70.2.Code, x70.2.Done)) (s54.1, s54.2.1, s54.2.2.1, s54.2.2.2.1, s54.2.2.2.2.1, s54.2.2.2.2.2.1, s54.2.2.2.2.2.2) [35, 36, 37, 38, 39, 40, 41, 34, 26, 2, 3, 4, 5, 6, 7, 8, 9, 10, 19, 20, 21, 22, 23, 24, 25, 18] hF rfl)) (have hq33 := rb hA1; cl rfl (fun _ _ => rfl) (fun h => n_laws_toBase (h.a h1) (h.a h2) (h.a h3) (h.a h4) (h.a h5) (h.a h6) (h.a h7)) hq33 fun u33 _ hq33 s55 => match u33, hq33 with | _, rfl => have hq34 := rb hA2; cl0 rfl (fun _ => n_laws_toSub) hq34 fun u34 _ hq34 => match u34, hq34 with | _, rfl => have hq35 := rb hA3; cl rfl (fun _ _ => rfl) (fun h => n_impl_SubStep (h.o 28 rfl) (h.o 29 rfl) (h.o 30 rfl) (h.o 31 rfl) (h.o 32 rfl) (h.o 33 rfl) (h.o 34 rfl)) hq35 fun u35 _ hq35 s56 => match u35, hq35 with | _, rfl => sF rfl <| swR 8 7 rfl <| fD rfl rfl <| jnR (p := (x70.1.Mem.Heap.Bytes, x70.1.Mem.Heap.Class, x70.1.Mem.Lists.Global, x70.1.Mem.Lists.Own, x70.1.Clock.Epoch, x70.1.Clock.Pins, x70.1.Limbo, x70.1.Haz, x70.2.Kind, x70.2.A, x70.2.Pc, x70.2.E, x70.2.Row, x70.2.B, x70.2.H, x70.2.Out, x70.2.Code, x70.2.Done)) (s56.1, s56.2.1, s56.2.2.1, s56.2.2.2.1, s56.2.2.2.2.1, s56.2.2.2.2.2.1, s56.2.2.2.2.2.2) [35, 36, 37, 38, 39, 40, 41, 27, 26, 2, 3, 4, 5, 6, 7, 8, 9, 10, 19, 20, 21, 22, 23, 24, 25, 18] hF rfl))) fun ⟨x46, x47, x48, x49, x50, x51, x52, x53, x54, x55, x56, x57, x58, x59, x60, x61, x62, x63⟩ ⟨s24, s25, s26, s27, s28, s29, s30⟩ hF => cut 0 9 (fun (x64 : Bool) => laws_FnExactSubStep_j6 x25 x44 x64 = some r) [11, 14] (fun (x64 : Bool) (_ : Unit) => [(103, .b x64)]) [18, 19, 20, 21, 22, 23, 24, 25] (fun x64 _ => []) rfl (cl0 rfl (fun h => n_laws_eqBase (a_ := (⟨(⟨(⟨x46, x47⟩ : Heap), (⟨x48, x49⟩ : Lists)⟩ : Mem), (⟨x50, x51⟩ : Clock), x52, x53⟩ : Base)) (b := (⟨(⟨(⟨x2, x3⟩ : Heap), (⟨x4, x5⟩ : Lists)⟩ : Mem), (⟨x6, x7⟩ : Clock), x8, x9⟩ : Base)) (h.o 0 rfl) (h.o 1 rfl) (h.o 2 rfl) (h.o 3 rfl) (h.o 4 rfl) (h.o 5 rfl) (h.o 6 rfl) (h.o 9 rfl) (h.o 10 rfl) (h.o 11 rfl) (h.o 12 rfl) (h.o 13 rfl) (h.o 14 rfl) (h.o 15 rfl)) hF fun x66 _ hF => ca [97, 98] rfl rfl hF (fun hF => jn () [18, 19, 20, 21, 22, 23, 24, 25] hF rfl rfl) fun hF => cl0 rfl (fun _ => n_laws_eqSub) hF fun x67 _ hF => jn () [18, 19, 20, 21, 22, 23, 24, 25] hF rfl rfl) fun x64 _ hF => cs [103] rfl rfl hF (fun hF => rt () [] hF rfl rfl Tryz.results3 rfl rfl rfl rfl) fun hF => cl0 rfl (fun h => n_laws_heldBase (a_ := (⟨(⟨(⟨x44.2.1, x44.2.2.1⟩ : Heap), (⟨x44.2.2.2.1, x44.2.2.2.2.1⟩ : Lists)⟩ : Mem), (⟨x25, x44.2.2.2.2.2.1⟩ : Clock), x44.2.2.2.2.2.2.1, x44.2.2.2.2.2.2.2⟩ : Base)) (h.o 0 rfl) (h.o 1 rfl) (h.o 2 rfl) (h.o 3 rfl) (h.o 4 rfl) (h.o 5 rfl) (h.o 6 rfl)) hF fun x65 _ hF => cs [108] rfl rfl hF (fun hF => rt () [] hF rfl rfl Tryz.results3 rfl rfl rfl rfl) fun hF => cs [111] rfl rfl hF (fun hF => rt () [] hF rfl rfl Tryz.results3 rfl rfl rfl rfl) fun hF => rt () [] hF rfl rfl Tryz.results3 rfl rfl rfl rfl
end Go.Proofs.YtlhhifdhlkihkaaGreat
end
section
set_option linter.unusedVariables false
set_option linter.unusedSimpArgs false
namespace Go.Gv
theorem enum_eq {σ ρ : Type} {f : σ → Option (Step σ ρ)} (n : Nat) (S : Nat → σ) (r : ρ) (hs : ∀ k, k < n → f (S k) = some (.next (S (k + 1)))) (he : f (S n) = some (.stop r)) : loop f (S 0) = some r := by
  have key : ∀ d k, k + d = n → loop f (S k) = some r := by
    intro d
    induction d with
    | zero => intro k hk; obtain rfl : k = n := by omega
              exact loop_stop he
    | succ d ih => intro k hk; rw [loop_next (hs k (by omega))]; exact ih (k + 1) (by omega)
  exact key n 0 (by omega)
theorem enum_scan {σ ρ : Type} {f : σ → Option (Step σ ρ)} (n : Nat) (S : Nat → σ) (g : Nat → ρ)
    (h : ∀ k, k ≤ n → f (S k) = some (.stop (g k)) ∨ (k < n ∧ f (S k) = some (.next (S (k + 1))) ∧ g k = g (k + 1))) : ∀ k, k ≤ n → loop f (S k) = some (g k) := by
  have key : ∀ d k, k + d = n → loop f (S k) = some (g k) := by
    intro d
    induction d with
    | zero =>
      intro k hk
      rcases h k (by omega) with h1 | ⟨h1, _⟩
      · exact loop_stop h1
      · omega
    | succ d ih =>
      intro k hk
      rcases h k (by omega) with h1 | ⟨_, h2, h3⟩
      · exact loop_stop h1
      · rw [loop_next h2, h3]; exact ih (k + 1) (by omega)
  intro k hk
  exact key (n - k) k (by omega)
theorem scan_all {σ ρ : Type} {f : σ → Option (Step σ ρ)} (n : Nat) (S : Nat → σ) (p : Nat → Prop) [DecidablePred p] (yes no : ρ)
    (h1 : ∀ k, k < n → p k → f (S k) = some (.next (S (k + 1)))) (h2 : ∀ k, k < n → ¬ p k → f (S k) = some (.stop no)) (h3 : f (S n) = some (.stop yes)) :
    loop f (S 0) = some (if ∀ k, k < n → p k then yes else no) := by
  classical
  have key : ∀ d k, k + d = n → loop f (S k) = some (if ∀ j, k ≤ j → j < n → p j then yes else no) := by
    intro d
    induction d with
    | zero =>
      intro k hk; obtain rfl : k = n := by omega
      rw [loop_stop h3, if_pos (fun j a b => by omega)]
    | succ d ih =>
      intro k hk
      by_cases hp : p k
      · rw [loop_next (h1 k (by omega) hp), ih (k + 1) (by omega)]
        by_cases h : ∀ j, k + 1 ≤ j → j < n → p j
        · rw [if_pos h, if_pos]
          intro j a b
          by_cases e : j = k
          · subst e; exact hp
          · exact h j (by omega) b
        · rw [if_neg h, if_neg]
          exact fun q => h fun j a b => q j (by omega) b
      · rw [loop_stop (h2 k (by omega) hp), if_neg]
        exact fun q => hp (q k (Nat.le_refl _) (by omega))
  have := key n 0 (by omega)
  rw [this]
  by_cases h : ∀ k, k < n → p k
  · rw [if_pos h, if_pos (fun j _ b => h j b)]
  · rw [if_neg h, if_neg (fun q => h fun k a => q k (Nat.zero_le _) a)]
theorem scan_list {α σ ρ : Type} {f : σ → Option (Step σ ρ)} (l : List α) (S : Nat → σ) (p : α → Prop) [DecidablePred p] (yes no : ρ)
    (h1 : ∀ k (h : k < l.length), p l[k] → f (S k) = some (.next (S (k + 1)))) (h2 : ∀ k (h : k < l.length), ¬ p l[k] → f (S k) = some (.stop no)) (h3 : f (S l.length) = some (.stop yes)) :
    loop f (S 0) = some (if ∀ x ∈ l, p x then yes else no) := by
  classical
  have := scan_all (f := f) l.length S (fun k => ∀ h : k < l.length, p l[k]) yes no (fun k h hp => h1 k h (hp h)) (fun k h hp => h2 k h (fun q => hp fun _ => q)) h3
  rw [this]
  by_cases h : ∀ x ∈ l, p x
  · rw [if_pos h, if_pos (fun k hk _ => h _ (List.getElem_mem hk))]
  · rw [if_neg h, if_neg]
    intro q
    refine h fun x hx => ?_
    obtain ⟨k, hk, rfl⟩ := List.mem_iff_getElem.1 hx
    exact q k hk hk
theorem w64_in {x : Int} (h1 : -9223372036854775808 ≤ x) (h2 : x ≤ 9223372036854775807) : w64 x = x := w64_id ⟨h1, h2⟩
theorem idx_in {α : Type} {l : List α} {i : Int} (h0 : 0 ≤ i) (h1 : i < l.length) : idx l i = some (l[i.toNat]'(by omega)) := idx_eq h0 h1
theorem tdiv_pos {x y : Int} (h1 : 0 ≤ x) : x.tdiv y = x / y := Int.tdiv_eq_ediv_of_nonneg h1
theorem tmod_pos {x y : Int} (h1 : 0 ≤ x) : x.tmod y = x % y := Int.tmod_eq_emod_of_nonneg h1
theorem shr_pos {x : Int} {k : Nat} (h1 : 0 ≤ x) (hk : k ≤ 63) : shrOp .i64 x k = x / 2 ^ k := by
  unfold shrOp
  have : min ((k : Int).toNat) IntKind.i64.bits = k := by simp [IntKind.bits]; omega
  rw [this, Int.fdiv_eq_ediv_of_nonneg _ (by exact Int.le_of_lt (Int.pow_pos (by omega)))]
end Go.Gv
end
section
set_option linter.unusedVariables false
set_option linter.unusedSimpArgs false
namespace Go.Gv
theorem within_eq (n a b : Int) : impl_within n a b = some (decide (a ≤ n ∧ n ≤ b)) := by
  unfold impl_within impl_within_j1
  by_cases h : a ≤ n <;> simp [h]
theorem l1In_eq (n a b : Int) : spec_l1In n a b = some (decide (a ≤ n ∧ n ≤ b)) := by
  unfold spec_l1In spec_l1In_j1
  by_cases h : a ≤ n <;> simp [h]
theorem map_take {α β : Type} (f : α → β) {l : List α} {k : Nat} (h : k < l.length) : (l.take (k + 1)).map f = (l.take k).map f ++ [f l[k]] := by
  rw [List.take_succ_eq_append_getElem h, List.map_append]; rfl
end Go.Gv
end
section
set_option linter.unusedVariables false
set_option linter.unusedSimpArgs false
namespace Go.Gv
def sizeC (c : Int) : Int := if c = 0 then 8 else if c = 1 then 16 else if c = 2 then 40 else 0
def strideC (c : Int) : Int := if c = 0 then 12 else if c = 1 then 20 else if c = 2 then 44 else 0
def perC (c : Int) : Int := if c = 0 then 4 else if c = 1 then 2 else if c = 2 then 1 else 0
theorem cls_cases {c : Int} (h : 0 ≤ c ∧ c ≤ 2) : c = 0 ∨ c = 1 ∨ c = 2 := by omega
theorem sizeC_no {c : Int} (h : ¬ (0 ≤ c ∧ c ≤ 2)) : sizeC c = 0 := by unfold sizeC; rw [if_neg (by omega), if_neg (by omega), if_neg (by omega)]
theorem strideC_no {c : Int} (h : ¬ (0 ≤ c ∧ c ≤ 2)) : strideC c = 0 := by unfold strideC; rw [if_neg (by omega), if_neg (by omega), if_neg (by omega)]
theorem perC_no {c : Int} (h : ¬ (0 ≤ c ∧ c ≤ 2)) : perC c = 0 := by unfold perC; rw [if_neg (by omega), if_neg (by omega), if_neg (by omega)]
theorem perC_le (c : Int) : 0 ≤ perC c ∧ perC c ≤ 4 := by unfold perC; split <;> (try split) <;> (try split) <;> omega
theorem strideC_le (c : Int) : 0 ≤ strideC c ∧ strideC c ≤ 44 := by unfold strideC; split <;> (try split) <;> (try split) <;> omega
theorem perC_pos {c : Int} : 0 < perC c ↔ 0 ≤ c ∧ c ≤ 2 := by
  unfold perC; constructor
  · intro h; split at h <;> (try split at h) <;> (try split at h) <;> omega
  · intro h; rcases cls_cases h with rfl | rfl | rfl <;> decide
theorem spec_SizeOf_eq (c : Int) : spec_SizeOf c = some (sizeC c) := by
  unfold spec_SizeOf sizeC
  by_cases h0 : c = 0 <;> by_cases h1 : c = 1 <;> by_cases h2 : c = 2 <;> simp [h0, h1, h2]
theorem impl_isClass_eq (c : Int) : impl_isClass c = some (decide (0 ≤ c ∧ c ≤ 2)) := by simp [impl_isClass, within_eq]
theorem impl_SizeOf_eq (c : Int) : impl_SizeOf c = some (sizeC c) := by
  unfold impl_SizeOf
  rw [impl_isClass_eq]
  by_cases h : 0 ≤ c ∧ c ≤ 2
  · rcases cls_cases h with rfl | rfl | rfl <;> rfl
  · simp [h, sizeC_no h]
theorem spec_StrideOf_eq (c : Int) : spec_StrideOf c = some (strideC c) := by
  unfold spec_StrideOf
  rw [l1In_eq]
  by_cases h : 0 ≤ c ∧ c ≤ 2
  · rcases cls_cases h with rfl | rfl | rfl <;> rfl
  · simp [h, strideC_no h]
theorem impl_StrideOf_eq (c : Int) : impl_StrideOf c = some (strideC c) := by
  unfold impl_StrideOf
  rw [impl_isClass_eq]
  by_cases h : 0 ≤ c ∧ c ≤ 2
  · rcases cls_cases h with rfl | rfl | rfl <;> rfl
  · simp [h, strideC_no h]
theorem spec_PerPage_eq (c : Int) : spec_PerPage c = some (perC c) := by
  unfold spec_PerPage
  rw [l1In_eq]
  by_cases h : 0 ≤ c ∧ c ≤ 2
  · rcases cls_cases h with rfl | rfl | rfl <;> rfl
  · simp [h, perC_no h]
theorem impl_PerPage_eq (c : Int) : impl_PerPage c = some (perC c) := by
  unfold impl_PerPage
  rw [impl_isClass_eq]
  by_cases h : 0 ≤ c ∧ c ≤ 2
  · rcases cls_cases h with rfl | rfl | rfl <;> rfl
  · simp [h, perC_no h]
theorem spec_PageOf_eq (s : Int) : spec_PageOf s = some (if 0 ≤ s ∧ s ≤ 23 then s / 4 else -1) := by
  unfold spec_PageOf
  rw [l1In_eq]
  by_cases h : 0 ≤ s ∧ s ≤ 23
  · simp [h, tdiv_pos h.1]; rw [w64_in (by omega) (by omega)]
  · simp [h]
theorem spec_IndexOf_eq (s : Int) : spec_IndexOf s = some (if 0 ≤ s ∧ s ≤ 23 then s % 4 else -1) := by
  unfold spec_IndexOf
  rw [l1In_eq]
  by_cases h : 0 ≤ s ∧ s ≤ 23
  · simp [h, tmod_pos h.1]
  · simp [h]
def genC (s c : Int) : Int := if (0 ≤ s ∧ s ≤ 23) ∧ s % 4 < perC c then s / 4 * 64 + 8 + s % 4 * strideC c else -1
theorem mul_stride {i c : Int} (h0 : 0 ≤ i) (h1 : i < perC c) : 0 ≤ i * strideC c ∧ i * strideC c + strideC c ≤ 56 := by
  unfold perC at h1; unfold strideC
  split at h1
  · rw [if_pos ‹_›]; omega
  · split at h1
    · rw [if_neg ‹_›, if_pos ‹_›]; omega
    · split at h1
      · rw [if_neg ‹_›, if_neg ‹_›, if_pos ‹_›]; omega
      · omega
theorem spec_GenAt_eq (s c : Int) : spec_GenAt s c = some (genC s c) := by
  unfold spec_GenAt spec_GenAt_j1 genC
  rw [spec_PageOf_eq, spec_IndexOf_eq, spec_PerPage_eq, spec_StrideOf_eq]
  by_cases h : 0 ≤ s ∧ s ≤ 23
  · have hp := perC_le c
    have h1 : ¬ s / 4 < 0 := by omega
    have h2 : w64 (perC c - 1) = perC c - 1 := w64_in (by omega) (by omega)
    by_cases h3 : s % 4 < perC c
    · have hm := mul_stride (by omega) h3
      have hs := strideC_le c
      have h4 : 0 ≤ s % 4 ∧ s % 4 ≤ perC c - 1 := by omega
      have h5 : ¬ perC c - 1 < s % 4 := by omega
      have e1 : w64 (s / 4 * 64) = s / 4 * 64 := w64_in (by omega) (by omega)
      have e2 : w64 (s / 4 * 64 + 8) = s / 4 * 64 + 8 := w64_in (by omega) (by omega)
      have e3 : w64 (s % 4 * strideC c) = s % 4 * strideC c := w64_in (by omega) (by omega)
      have e4 : w64 (s / 4 * 64 + 8 + s % 4 * strideC c) = s / 4 * 64 + 8 + s % 4 * strideC c := w64_in (by omega) (by omega)
      simp [h, h1, h2, h3, h4, h5, l1In_eq, e1, e2, e3, e4]
    · have h4 : ¬ s % 4 ≤ perC c - 1 := by omega
      simp [h, h1, h2, h3, h4, l1In_eq]
  · simp [h]
theorem impl_isSlot_eq (s : Int) : impl_isSlot s = some (decide (0 ≤ s ∧ s ≤ 23)) := by simp [impl_isSlot, within_eq]
theorem impl_GenAt_eq (s c : Int) : impl_GenAt s c = some (genC s c) := by
  unfold impl_GenAt impl_GenAt_j1 genC
  rw [impl_isSlot_eq, impl_isClass_eq, impl_PerPage_eq, impl_StrideOf_eq]
  by_cases h : 0 ≤ s ∧ s ≤ 23
  · have hp := perC_le c
    rw [tmod_pos h.1, tdiv_pos h.1]
    by_cases h3 : s % 4 < perC c
    · have hm := mul_stride (by omega) h3
      have hs := strideC_le c
      have hc : 0 ≤ c ∧ c ≤ 2 := perC_pos.1 (by omega)
      have e0 : w64 (s / 4) = s / 4 := w64_in (by omega) (by omega)
      have e1 : w64 (s / 4 * 64) = s / 4 * 64 := w64_in (by omega) (by omega)
      have e2 : w64 (s / 4 * 64 + 8) = s / 4 * 64 + 8 := w64_in (by omega) (by omega)
      have e3 : w64 (s % 4 * strideC c) = s % 4 * strideC c := w64_in (by omega) (by omega)
      have e4 : w64 (s / 4 * 64 + 8 + s % 4 * strideC c) = s / 4 * 64 + 8 + s % 4 * strideC c := w64_in (by omega) (by omega)
      have h5 : ¬ perC c ≤ s % 4 := by omega
      simp [h, hc, h3, h5, e0, e1, e2, e3, e4]
    · have h5 : perC c ≤ s % 4 := by omega
      by_cases hc : 0 ≤ c ∧ c ≤ 2 <;> simp [h, hc, h3, h5]
  · simp [h]
end Go.Gv
end
section
set_option linter.unusedVariables false
set_option linter.unusedSimpArgs false
namespace Go.Gv
def ldF (l : List Int) : Int := l.foldl (fun n x => n * 256 + x) 0
def ByteL (l : List Int) : Prop := ∀ x ∈ l, 0 ≤ x ∧ x ≤ 255
instance (l : List Int) : Decidable (ByteL l) := by unfold ByteL; infer_instance
theorem ldF_take {l : List Int} {k : Nat} (h : k < l.length) : ldF (l.take (k + 1)) = ldF (l.take k) * 256 + l[k] := by
  unfold ldF
  rw [List.take_succ_eq_append_getElem h, List.foldl_append]; rfl
theorem ldF_bound {l : List Int} (h : ByteL l) : ∀ k, k ≤ l.length → 0 ≤ ldF (l.take k) ∧ ldF (l.take k) < 256 ^ k := by
  intro k
  induction k with
  | zero => intro _; simp [ldF]
  | succ k ih =>
    intro hk
    have h1 := ih (by omega)
    have h2 := h _ (List.getElem_mem (show k < l.length by omega))
    rw [ldF_take (by omega), Int.pow_succ]
    omega
theorem pow256 {k : Nat} (h : k ≤ 6) : (256 : Int) ^ k ≤ 281474976710656 := by
  have h1 : (256 : Nat) ^ k ≤ 256 ^ 6 := Nat.pow_le_pow_right (by omega) h
  have h2 : (256 : Nat) ^ 6 = 281474976710656 := by decide
  rw [h2] at h1
  have h3 : ((256 ^ k : Nat) : Int) ≤ 281474976710656 := by omega
  rw [Int.natCast_pow] at h3
  exact h3
def ld (b : List Int) (at_ w : Nat) : Int := ldF ((b.drop at_).take w)
theorem ld_step {n x : Int} {k : Nat} (hk : k ≤ 6) (h : 0 ≤ n ∧ n < 256 ^ k) (hx : 0 ≤ x ∧ x ≤ 255) : w64 (w64 (n * 256) + x) = n * 256 + x ∧ w64 (w64 (256 * n) + x) = n * 256 + x := by
  have := pow256 hk
  rw [Int.mul_comm 256 n, w64_in (x := n * 256) (by omega) (by omega), w64_in (by omega) (by omega)]
  exact ⟨rfl, rfl⟩
theorem pw_len {b : List Int} {a w : Nat} (h : a + w ≤ b.length) : ((b.drop a).take w).length = w := by simp; omega
theorem pw_get {b : List Int} {a w k : Nat} (h : k < ((b.drop a).take w).length) (h' : a + k < b.length) : ((b.drop a).take w)[k] = b[a + k] := by simp
theorem pw_byte {b : List Int} (hb : ByteL b) (a w : Nat) : ByteL ((b.drop a).take w) := fun x hx => hb x (List.mem_of_mem_drop (List.mem_of_mem_take hx))
theorem spec_l3Load_eq {b : List Int} (hb : ByteL b) {a w : Nat} (hw : w ≤ 7) (h : a + w ≤ b.length) (hl : b.length ≤ 100000) : spec_l3Load b (a : Int) (w : Int) = some (ld b a w) := by
  unfold spec_l3Load
  have hlen := pw_len h
  have hbb := pw_byte hb a w
  have key : loop (spec_l3Load_l1 b (a : Int) (w : Int)) (0, 0) = some (ld b a w) := by
    refine enum_eq (f := spec_l3Load_l1 b (a : Int) (w : Int)) w (fun k => (ldF (((b.drop a).take w).take k), (k : Int))) _ (fun k hk => ?_) ?_
    · have hb1 := ldF_bound hbb k (by omega)
      have hk' : k < ((b.drop a).take w).length := by omega
      have hx := hbb _ (List.getElem_mem hk')
      have hs := ld_step (by omega) hb1 hx
      rw [pw_get hk' (by omega)] at hs
      have e1 : w64 ((a : Int) + k) = ((a + k : Nat) : Int) := by rw [w64_in (by omega) (by omega)]; omega
      simp only [spec_l3Load_l1]
      rw [if_pos (by simp; omega), e1, idx_nat (by omega)]
      simp only [Option.bind_some, hs.1, ldF_take hk', pw_get hk' (show a + k < b.length by omega)]
      rw [w64_in (x := (k : Int) + 1) (by omega) (by omega)]; rfl
    · have : ((b.drop a).take w).take w = (b.drop a).take w := by rw [List.take_take]; simp
      simp [spec_l3Load_l1, this, ld]
  rw [key]; rfl
theorem impl_loadNum_eq {b : List Int} (hb : ByteL b) {a w : Nat} (hw : w ≤ 7) (h : a + w ≤ b.length) (hl : b.length ≤ 100000) : impl_loadNum b (a : Int) (w : Int) = some (ld b a w) := by
  unfold impl_loadNum
  have hlen := pw_len h
  have hbb := pw_byte hb a w
  have e0 : w64 ((a : Int) + w) = ((a + w : Nat) : Int) := by rw [w64_in (by omega) (by omega)]; omega
  have e2 : (b.take (a + w)).drop a = (b.drop a).take w := by rw [List.drop_take]; congr 1; omega
  rw [need_yes (by rw [e0]; omega)]
  have key : loop (impl_loadNum_l1 b (a : Int) (w : Int)) (0, 0) = some (ld b a w) := by
    refine enum_eq (f := impl_loadNum_l1 b (a : Int) (w : Int)) w (fun k => (ldF (((b.drop a).take w).take k), (k : Int))) _ (fun k hk => ?_) ?_
    · have hb1 := ldF_bound hbb k (by omega)
      have hk' : k < ((b.drop a).take w).length := by omega
      have hx := hbb _ (List.getElem_mem hk')
      have hs := ld_step (by omega) hb1 hx
      simp only [impl_loadNum_l1, e0, Int.toNat_natCast, e2]
      rw [if_pos (by simp; omega), idx_nat hk']
      simp only [Option.bind_some, hs.2, ldF_take hk']
      rw [w64_in (x := (k : Int) + 1) (by omega) (by omega)]; rfl
    · have : ((b.drop a).take w).take w = (b.drop a).take w := by rw [List.take_take]; simp
      simp only [impl_loadNum_l1, e0, Int.toNat_natCast, e2, this, ld]
      rw [if_neg (by rw [hlen]; simp)]
  rw [key]; rfl
theorem contains_int {l : List Int} (hl : l.length ≤ maxLen) (f : Int → Bool) : slices_ContainsFunc_int l (fun x => some (f x)) = some (l.any f) := by
  unfold slices_ContainsFunc_int slices_IndexFunc_int
  have key : ∀ k : Nat, k ≤ l.length → loop (slices_IndexFunc_int_l1 l (fun x => some (f x))) (k : Int) = some (if (l.drop k).any f then Out.ret ((k + (l.drop k).findIdx f : Nat) : Int) else Out.brk ()) := by
    refine scan_eq l.length _ fun k hk => ?_
    by_cases h3 : k < l.length
    · have hd : l.drop k = l[k] :: l.drop (k + 1) := List.drop_eq_getElem_cons h3
      simp only [slices_IndexFunc_int_l1]
      rw [if_pos (by simp; omega), idx_nat h3, w64_nat (lt_max h3 hl), hd]
      simp only [Option.bind_some, List.any_cons, List.findIdx_cons]
      by_cases h4 : f l[k] = true
      · left; simp [h4]
      · right
        have h4 : f l[k] = false := by simpa using h4
        refine ⟨h3, by simp [h4], ?_⟩
        simp only [h4, Bool.false_or, cond_false]
        congr 2; omega
    · left
      obtain rfl : k = l.length := by omega
      simp [slices_IndexFunc_int_l1]
  have t0 : loop (slices_IndexFunc_int_l1 l (fun x => some (f x))) 0 = _ := key 0 (by omega)
  rw [t0]
  simp only [List.drop_zero]
  by_cases h : l.any f = true
  · simp [h, slices_IndexFunc_int_m1]
  · have h : l.any f = false := by simpa using h
    simp [h, slices_IndexFunc_int_m1, slices_IndexFunc_int_j1]
def BOk (b : List Int) : Prop := b.length ≤ 1000 ∧ ByteL b
instance (b : List Int) : Decidable (BOk b) := by unfold BOk; infer_instance
theorem spec_BytesOk_eq {b : List Int} (hl : b.length ≤ maxLen) : spec_BytesOk b = some (decide (BOk b)) := by
  unfold spec_BytesOk
  have key : loop (spec_BytesOk_l1 b) 0 = some (if ∀ x ∈ b, 0 ≤ x ∧ x ≤ 255 then Out.brk () else Out.ret false) := by
    refine scan_list (f := spec_BytesOk_l1 b) b (fun k => (k : Int)) (fun x => 0 ≤ x ∧ x ≤ 255) _ _ (fun k h hp => ?_) (fun k h hp => ?_) ?_
    · simp only [spec_BytesOk_l1]
      rw [if_pos (by simp; omega), idx_nat h, w64_nat (lt_max h hl)]
      simp [l1In_eq, hp]
    · simp only [spec_BytesOk_l1]
      rw [if_pos (by simp; omega), idx_nat h]
      simp only [Option.bind_some, l1In_eq, hp, decide_false, Bool.not_false, if_true]
    · simp [spec_BytesOk_l1]
  rw [key]
  by_cases h : ∀ x ∈ b, 0 ≤ x ∧ x ≤ 255
  · rw [if_pos h]
    have : BOk b ↔ b.length ≤ 1000 := ⟨fun q => q.1, fun q => ⟨q, h⟩⟩
    simp only [Option.bind_some, spec_BytesOk_m1, spec_BytesOk_j1, this]
    congr 1; rw [Bool.eq_iff_iff]; simp; omega
  · rw [if_neg h]
    have : ¬ BOk b := fun q => h q.2
    simp [spec_BytesOk_m1, this]
theorem any_not {α : Type} {p : α → Prop} [DecidablePred p] (l : List α) : (l.any fun x => !decide (p x)) = !decide (∀ x ∈ l, p x) := by
  rw [Bool.eq_iff_iff]; simp
theorem impl_BytesOk_eq {b : List Int} (hl : b.length ≤ maxLen) : impl_BytesOk b = some (decide (BOk b)) := by
  unfold impl_BytesOk impl_BytesOk_j1
  have e : (fun y0 => impl_BytesOk_1 y0) = fun y : Int => some (!decide (0 ≤ y ∧ y ≤ 255)) := by
    funext y; simp [impl_BytesOk_1, impl_isByte, within_eq]
  rw [e, contains_int hl, any_not]
  by_cases h : b.length ≤ 1000
  · have : BOk b ↔ ∀ x ∈ b, 0 ≤ x ∧ x ≤ 255 := ⟨fun q => q.2, fun q => ⟨h, q⟩⟩
    have h' : (b.length : Int) ≤ 1000 := by omega
    simp [h', this]
  · have : ¬ BOk b := fun q => h q.1
    have h' : ¬ (b.length : Int) ≤ 1000 := by omega
    simp [h', this]
def HShape (h : Heap) : Prop := h.Bytes.length = 384 ∧ h.Class.length = 6 ∧ ByteL h.Bytes ∧ ∀ c ∈ h.Class, -1 ≤ c ∧ c ≤ 2
instance (h : Heap) : Decidable (HShape h) := by unfold HShape; infer_instance
theorem spec_l7Shape_eq {h : Heap} (hl : h.Bytes.length ≤ maxLen) : spec_l7Shape h = some (decide (HShape h)) := by
  unfold spec_l7Shape spec_l7Shape_j1
  by_cases h1 : h.Bytes.length = 384
  · by_cases h2 : h.Class.length = 6
    · rw [spec_BytesOk_eq hl]
      have n1 : ((h.Bytes.length : Int) != 384) = false := by simp; omega
      have n2 : ((h.Class.length : Int) != 6) = false := by simp; omega
      simp only [n1, n2, Bool.false_eq_true, if_false, Option.bind_some]
      by_cases h3 : ByteL h.Bytes
      · have b1 : BOk h.Bytes := ⟨by omega, h3⟩
        have key : loop (spec_l7Shape_l2 h) 0 = some (if ∀ x ∈ h.Class, -1 ≤ x ∧ x ≤ 2 then Out.brk () else Out.ret false) := by
          refine scan_list (f := spec_l7Shape_l2 h) h.Class (fun k => (k : Int)) (fun x => -1 ≤ x ∧ x ≤ 2) _ _ (fun k h hp => ?_) (fun k h hp => ?_) ?_
          · simp only [spec_l7Shape_l2]
            rw [if_pos (by simp; omega), idx_nat h, w64_in (by omega) (by omega)]
            simp [l1In_eq, hp]
          · simp only [spec_l7Shape_l2]
            rw [if_pos (by simp; omega), idx_nat h]
            simp only [Option.bind_some, l1In_eq]
            rw [decide_eq_false hp]; rfl
          · simp [spec_l7Shape_l2, h2]
        rw [key]
        have : HShape h ↔ ∀ x ∈ h.Class, -1 ≤ x ∧ x ≤ 2 := ⟨fun q => q.2.2.2, fun q => ⟨h1, h2, h3, q⟩⟩
        simp only [b1, decide_true, Bool.not_true, Bool.false_eq_true, if_false, this]
        by_cases h4 : ∀ x ∈ h.Class, -1 ≤ x ∧ x ≤ 2
        · rw [if_pos h4, decide_eq_true h4]; rfl
        · rw [if_neg h4, decide_eq_false h4]; rfl
      · have b1 : ¬ BOk h.Bytes := fun q => h3 q.2
        have : ¬ HShape h := fun q => h3 q.2.2.1
        simp [b1, this]
    · have n1 : ((h.Bytes.length : Int) != 384) = false := by simp; omega
      have n2 : ((h.Class.length : Int) != 6) = true := by simp; omega
      have : ¬ HShape h := fun q => h2 q.2.1
      simp [n1, n2, this]
  · have n1 : ((h.Bytes.length : Int) != 384) = true := by simp; omega
    have : ¬ HShape h := fun q => h1 q.1
    simp [n1, this]
theorem impl_shaped_eq {h : Heap} (hl : h.Bytes.length ≤ maxLen) : impl_shaped h = some (decide (HShape h)) := by
  unfold impl_shaped impl_shaped_j1
  by_cases h1 : h.Bytes.length = 384
  · have n1 : ((h.Bytes.length : Int) == 384) = true := by simp; omega
    rw [impl_BytesOk_eq hl]
    by_cases h3 : ByteL h.Bytes
    · have b1 : BOk h.Bytes := ⟨by omega, h3⟩
      by_cases h2 : h.Class.length = 6
      · have n2 : ((h.Class.length : Int) == 6) = true := by simp; omega
        have e : (fun y0 => impl_shaped_1 y0) = fun y : Int => some (!decide (-1 ≤ y ∧ y ≤ 2)) := by
          funext y; simp [impl_shaped_1, within_eq]
        rw [e, contains_int (by rw [h2]; simp [maxLen]), any_not]
        have : HShape h ↔ ∀ x ∈ h.Class, -1 ≤ x ∧ x ≤ 2 := ⟨fun q => q.2.2.2, fun q => ⟨h1, h2, h3, q⟩⟩
        simp [n1, n2, b1, this]
      · have n2 : ((h.Class.length : Int) == 6) = false := by simp; omega
        have : ¬ HShape h := fun q => h2 q.2.1
        simp [n1, n2, b1, this]
    · have b1 : ¬ BOk h.Bytes := fun q => h3 q.2
      have : ¬ HShape h := fun q => h3 q.2.2.1
      simp [n1, b1, this]
  · have n1 : ((h.Bytes.length : Int) == 384) = false := by simp; omega
    have : ¬ HShape h := fun q => h1 q.1
    simp [n1, this]
end Go.Gv
end
section
set_option linter.unusedVariables false
set_option linter.unusedSimpArgs false
set_option linter.unusedSectionVars false
namespace Go.Gv
def pageB (h : Heap) (p : Nat) : List Int := (h.Bytes.drop (p * 64)).take 64
def clsP (h : Heap) (p : Nat) : Int := h.Class.getD p 0
def PageOk (h : Heap) (p : Nat) : Prop :=
  if clsP h p < 0 then ∀ x ∈ pageB h p, x = 0
  else ((pageB h p).getD 0 0 = 171 ∧ (pageB h p).getD 1 0 = clsP h p ∧ (pageB h p).getD 2 0 = perC (clsP h p)) ∧ (∀ x ∈ ((pageB h p).drop 3).take 5, x = 0) ∧ ∀ i, i < (perC (clsP h p)).toNat → 1 ≤ ld h.Bytes (p * 64 + 8 + i * (strideC (clsP h p)).toNat) 4 ∧ ld h.Bytes (p * 64 + 8 + i * (strideC (clsP h p)).toNat) 4 ≤ 7
instance (h : Heap) (p : Nat) : Decidable (PageOk h p) := by unfold PageOk; infer_instance
section
variable {h : Heap} (hs : HShape h) {p : Nat} (hp : p < 6)
include hs hp
theorem page_len : (pageB h p).length = 64 := pw_len (by have := hs.1; omega)
theorem page_get {k : Nat} (hk : k < 64) : h.Bytes[p * 64 + k]'(by have := hs.1; omega) = (pageB h p)[k]'(by rw [page_len hs hp]; exact hk) := (pw_get (show k < ((h.Bytes.drop (p * 64)).take 64).length by have := page_len hs hp; unfold pageB at this; omega) _).symm
theorem page_getD {k : Nat} (hk : k < 64) : h.Bytes[p * 64 + k]'(by have := hs.1; omega) = (pageB h p).getD k 0 := by
  rw [page_get hs hp hk, List.getD_eq_getElem?_getD, List.getElem?_eq_getElem (by rw [page_len hs hp]; exact hk)]; rfl
theorem cls_get : h.Class[p]'(by have := hs.2.1; omega) = clsP h p := by
  unfold clsP
  rw [List.getD_eq_getElem?_getD, List.getElem?_eq_getElem (by have := hs.2.1; omega)]; rfl
theorem idx_cls : idx h.Class (p : Int) = some (clsP h p) := by rw [idx_nat (by have := hs.2.1; omega), cls_get hs hp]
theorem idx_page {k : Nat} (hk : k < 64) : idx h.Bytes (((p * 64 + k : Nat)) : Int) = some ((pageB h p).getD k 0) := by
  rw [idx_nat (by have := hs.1; omega), page_getD hs hp hk]
theorem page_byte : ByteL (pageB h p) := pw_byte hs.2.2.1 _ _
theorem page_zero {c : Int} (hc : clsP h p = c) {i : Nat} (hi : i < (perC c).toNat) : (8 + i * (strideC c).toNat) + 4 ≤ 64 ∧ 0 ≤ (i : Int) * strideC c ∧ ((8 + i * (strideC c).toNat : Nat) : Int) = 8 + (i : Int) * strideC c := by
  have h1 : (i : Int) < perC c := by omega
  have hc2 : 0 ≤ c ∧ c ≤ 2 := perC_pos.1 (by omega)
  rcases cls_cases hc2 with rfl | rfl | rfl
  · have e : strideC 0 = 12 := rfl
    have g : (12 : Int).toNat = 12 := rfl
    have f : (perC 0).toNat = 4 := rfl
    rw [e, g]; rw [f] at hi; omega
  · have e : strideC 1 = 20 := rfl
    have g : (20 : Int).toNat = 20 := rfl
    have f : (perC 1).toNat = 2 := rfl
    rw [e, g]; rw [f] at hi; omega
  · have e : strideC 2 = 44 := rfl
    have g : (44 : Int).toNat = 44 := rfl
    have f : (perC 2).toNat = 1 := rfl
    rw [e, g]; rw [f] at hi; omega
theorem gen_slot {i : Nat} (hi : i < (perC (clsP h p)).toNat) : genC ((p : Int) * 4 + i) (clsP h p) = ((p * 64 + (8 + i * (strideC (clsP h p)).toNat) : Nat) : Int) := by
  have hz := page_zero hs hp rfl hi
  have hle := perC_le (clsP h p)
  unfold genC
  rw [if_pos (by omega)]
  have e1 : ((p : Int) * 4 + i) / 4 = p := by omega
  have e2 : ((p : Int) * 4 + i) % 4 = i := by omega
  rw [e1, e2]
  omega
theorem spec_l7Page_eq : spec_l7Page h (p : Int) = some (decide (PageOk h p)) := by
  have hb := hs.1
  have hl := page_len hs hp
  have e0 : w64 ((p : Int) * 64) = ((p * 64 + 0 : Nat) : Int) := by rw [w64_in (by omega) (by omega)]; omega
  have e1 : w64 (((p * 64 + 0 : Nat) : Int) + 1) = ((p * 64 + 1 : Nat) : Int) := by rw [w64_in (by omega) (by omega)]; omega
  have e2 : w64 (((p * 64 + 0 : Nat) : Int) + 2) = ((p * 64 + 2 : Nat) : Int) := by rw [w64_in (by omega) (by omega)]; omega
  have e3 : w64 (((p * 64 + 0 : Nat) : Int) + 3) = ((p * 64 + 3 : Nat) : Int) := by rw [w64_in (by omega) (by omega)]; omega
  have e8 : w64 (((p * 64 + 0 : Nat) : Int) + 8) = ((p * 64 + 8 : Nat) : Int) := by rw [w64_in (by omega) (by omega)]; omega
  have e64 : w64 (((p * 64 + 0 : Nat) : Int) + 64) = ((p * 64 + 64 : Nat) : Int) := by rw [w64_in (by omega) (by omega)]; omega
  unfold spec_l7Page
  rw [idx_cls hs hp]
  simp only [Option.bind_some]
  by_cases hc : clsP h p < 0
  · simp only [hc, decide_true, if_true, e0]
    have key : loop (spec_l7Page_l1 h (p : Int)) (((p * 64 + 0 : Nat)) : Int) = some (if ∀ x ∈ pageB h p, x = 0 then Out.brk () else Out.ret false) := by
      refine scan_list (f := spec_l7Page_l1 h (p : Int)) (pageB h p) (fun k => ((p * 64 + k : Nat) : Int)) (fun x => x = 0) _ _ (fun k hk hx => ?_) (fun k hk hx => ?_) ?_
      · simp only [spec_l7Page_l1, e0, e64]
        rw [if_pos (by simp; omega), idx_nat (by omega), page_get hs hp (by omega), w64_in (by omega) (by omega)]
        simp only [Option.bind_some, hx]; simp; omega
      · simp only [spec_l7Page_l1, e0, e64]
        rw [if_pos (by simp; omega), idx_nat (by omega), page_get hs hp (by omega)]
        have hx' : ((pageB h p)[k] != 0) = true := by simpa using hx
        simp only [Option.bind_some, hx', if_true]
      · simp only [spec_l7Page_l1, e0, e64, hl]
        rw [if_neg (by simp)]
    rw [key]
    have hP : PageOk h p ↔ ∀ x ∈ pageB h p, x = 0 := by unfold PageOk; rw [if_pos hc]
    by_cases h4 : ∀ x ∈ pageB h p, x = 0
    · rw [if_pos h4, decide_eq_true (hP.2 h4)]; rfl
    · rw [if_neg h4, decide_eq_false (fun q => h4 (hP.1 q))]; rfl
  · have hP : PageOk h p ↔ ((pageB h p).getD 0 0 = 171 ∧ (pageB h p).getD 1 0 = clsP h p ∧ (pageB h p).getD 2 0 = perC (clsP h p)) ∧ (∀ x ∈ ((pageB h p).drop 3).take 5, x = 0) ∧ ∀ i, i < (perC (clsP h p)).toNat → 1 ≤ ld h.Bytes (p * 64 + 8 + i * (strideC (clsP h p)).toNat) 4 ∧ ld h.Bytes (p * 64 + 8 + i * (strideC (clsP h p)).toNat) 4 ≤ 7 := by unfold PageOk; rw [if_neg hc]
    simp only [hc, decide_false, Bool.false_eq_true, if_false, e0, e1, e2, idx_page hs hp (show 0 < 64 by omega), idx_page hs hp (show 1 < 64 by omega), idx_page hs hp (show 2 < 64 by omega), Option.bind_some, spec_PerPage_eq]
    by_cases a0 : (pageB h p).getD 0 0 = 171
    · by_cases a1 : (pageB h p).getD 1 0 = clsP h p
      · by_cases a2 : (pageB h p).getD 2 0 = perC (clsP h p)
        · have n0 : ((pageB h p).getD 0 0 != 171) = false := by simp only [bne_eq_false_iff_eq]; exact a0
          have n1 : ((pageB h p).getD 1 0 != clsP h p) = false := by simp only [bne_eq_false_iff_eq]; exact a1
          have n2 : ((pageB h p).getD 2 0 != perC (clsP h p)) = false := by simp only [bne_eq_false_iff_eq]; exact a2
          simp only [n0, n1, n2, Bool.false_eq_true, if_false, spec_l7Page_j2, e0, e3]
          have hl5 : (((pageB h p).drop 3).take 5).length = 5 := by simp [hl]
          have key : loop (spec_l7Page_l3 h (p : Int)) (((p * 64 + 3 : Nat)) : Int) = some (if ∀ x ∈ ((pageB h p).drop 3).take 5, x = 0 then Out.brk () else Out.ret false) := by
            refine scan_list (f := spec_l7Page_l3 h (p : Int)) (((pageB h p).drop 3).take 5) (fun k => ((p * 64 + (3 + k) : Nat) : Int)) (fun x => x = 0) _ _ (fun k hk hx => ?_) (fun k hk hx => ?_) ?_
            · simp only [spec_l7Page_l3, e0, e8]
              rw [if_pos (by simp; omega), idx_nat (by omega), page_get hs hp (by omega), w64_in (by omega) (by omega), ← pw_get hk (by omega), hx]
              simp; omega
            · simp only [spec_l7Page_l3, e0, e8]
              rw [if_pos (by simp; omega), idx_nat (by omega), page_get hs hp (by omega), ← pw_get hk (by omega)]
              have hx' : ((((pageB h p).drop 3).take 5)[k] != 0) = true := by simp only [bne_iff_ne]; exact hx
              simp only [Option.bind_some, hx', if_true]
            · simp only [spec_l7Page_l3, e0, e8, hl5]
              rw [if_neg (by simp)]
          rw [key]
          by_cases h4 : ∀ x ∈ ((pageB h p).drop 3).take 5, x = 0
          · rw [if_pos h4]
            simp only [Option.bind_some, spec_l7Page_m3, spec_l7Page_j3]
            have key2 : loop (spec_l7Page_l4 h (p : Int) (clsP h p)) 0 = some (if ∀ i, i < (perC (clsP h p)).toNat → 1 ≤ ld h.Bytes (p * 64 + 8 + i * (strideC (clsP h p)).toNat) 4 ∧ ld h.Bytes (p * 64 + 8 + i * (strideC (clsP h p)).toNat) 4 ≤ 7 then Out.brk () else Out.ret false) := by
              have hle := perC_le (clsP h p)
              have hst : ∀ k : Nat, k < (perC (clsP h p)).toNat → spec_l7Page_l4 h (p : Int) (clsP h p) (k : Int) = if 1 ≤ ld h.Bytes (p * 64 + 8 + k * (strideC (clsP h p)).toNat) 4 ∧ ld h.Bytes (p * 64 + 8 + k * (strideC (clsP h p)).toNat) 4 ≤ 7 then some (.next ((k + 1 : Nat) : Int)) else some (.stop (Out.ret false)) := by
                intro k hk
                have hz := page_zero hs hp rfl hk
                have s1 : spec_SlotAt (p : Int) (k : Int) = some ((p : Int) * 4 + k) := by
                  unfold spec_SlotAt spec_SlotAt_j1
                  rw [l1In_eq, l1In_eq]
                  have g1 : (0 : Int) ≤ p ∧ (p : Int) ≤ 5 := by omega
                  have g2 : (0 : Int) ≤ k ∧ (k : Int) ≤ 3 := by omega
                  simp only [Option.bind_some, g1, g2, and_self, decide_true, Bool.not_true, Bool.false_eq_true, if_false]
                  rw [w64_in (x := (p : Int) * 4) (by omega) (by omega), w64_in (by omega) (by omega)]
                have l1 := spec_l3Load_eq hs.2.2.1 (a := p * 64 + (8 + k * (strideC (clsP h p)).toNat)) (w := 4) (by omega) (by omega) (by omega)
                simp only [spec_l7Page_l4, spec_PerPage_eq, Option.bind_some]
                rw [if_pos (by simp; omega), s1]
                simp only [Option.bind_some, spec_GenAt_eq, gen_slot hs hp hk]
                rw [show ((4 : Nat) : Int) = 4 from rfl] at l1
                rw [l1, Nat.add_assoc, w64_in (x := (k : Int) + 1) (by omega) (by omega)]
                simp only [Option.bind_some, l1In_eq]
                by_cases q : 1 ≤ ld h.Bytes (p * 64 + (8 + k * (strideC (clsP h p)).toNat)) 4 ∧ ld h.Bytes (p * 64 + (8 + k * (strideC (clsP h p)).toNat)) 4 ≤ 7
                · rw [if_pos q, decide_eq_true q]; rfl
                · rw [if_neg q, decide_eq_false q]; rfl
              refine scan_all (f := spec_l7Page_l4 h (p : Int) (clsP h p)) (perC (clsP h p)).toNat (fun k => (k : Int)) (fun i => 1 ≤ ld h.Bytes (p * 64 + 8 + i * (strideC (clsP h p)).toNat) 4 ∧ ld h.Bytes (p * 64 + 8 + i * (strideC (clsP h p)).toNat) 4 ≤ 7) _ _ (fun k hk hx => ?_) (fun k hk hx => ?_) ?_
              · rw [hst k hk, if_pos hx]
              · rw [hst k hk, if_neg hx]
              · simp only [spec_l7Page_l4, spec_PerPage_eq, Option.bind_some]
                rw [if_neg (by simp; omega)]
            rw [key2]
            by_cases h5 : ∀ i, i < (perC (clsP h p)).toNat → 1 ≤ ld h.Bytes (p * 64 + 8 + i * (strideC (clsP h p)).toNat) 4 ∧ ld h.Bytes (p * 64 + 8 + i * (strideC (clsP h p)).toNat) 4 ≤ 7
            · rw [if_pos h5, decide_eq_true (hP.2 ⟨⟨a0, a1, a2⟩, h4, h5⟩)]; rfl
            · rw [if_neg h5, decide_eq_false (fun q => h5 (hP.1 q).2.2)]; rfl
          · rw [if_neg h4, decide_eq_false (fun q => h4 (hP.1 q).2.1)]; rfl
        · have n0 : ((pageB h p).getD 0 0 != 171) = false := by simp only [bne_eq_false_iff_eq]; exact a0
          have n1 : ((pageB h p).getD 1 0 != clsP h p) = false := by simp only [bne_eq_false_iff_eq]; exact a1
          have n2 : ((pageB h p).getD 2 0 != perC (clsP h p)) = true := by simp only [bne_iff_ne]; exact a2
          simp only [n0, n1, n2, Bool.false_eq_true, if_false, spec_l7Page_j2, if_true]
          rw [decide_eq_false (fun q => a2 (hP.1 q).1.2.2)]
      · have n0 : ((pageB h p).getD 0 0 != 171) = false := by simp only [bne_eq_false_iff_eq]; exact a0
        have n1 : ((pageB h p).getD 1 0 != clsP h p) = true := by simp only [bne_iff_ne]; exact a1
        simp only [n0, n1, Bool.false_eq_true, if_false, spec_l7Page_j2, if_true]
        rw [decide_eq_false (fun q => a1 (hP.1 q).1.2.1)]
    · have n0 : ((pageB h p).getD 0 0 != 171) = true := by simp only [bne_iff_ne]; exact a0
      simp only [n0, Bool.false_eq_true, if_false, spec_l7Page_j2, if_true]
      rw [decide_eq_false (fun q => a0 (hP.1 q).1.1)]
end
end Go.Gv
end
section
set_option linter.unusedVariables false
set_option linter.unusedSimpArgs false
set_option linter.unusedSectionVars false
namespace Go.Gv
theorem impl_isZero_eq {l : List Int} (hl : l.length ≤ maxLen) : impl_isZero l = some (decide (∀ x ∈ l, x = 0)) := by
  unfold impl_isZero
  have e : (fun y0 => impl_isZero_1 y0) = fun y : Int => some (!decide (y = 0)) := by
    funext y; simp [impl_isZero_1, bne]; rfl
  rw [e, contains_int hl, any_not]
  simp
section
variable {h : Heap} (hs : HShape h) {p : Nat} (hp : p < 6)
include hs hp
theorem pg_eq : (h.Bytes.take ((p + 1) * 64)).drop (p * 64) = pageB h p := by
  unfold pageB
  rw [List.drop_take]; congr 1; omega
theorem ld_page {a : Nat} (ha : a + 4 ≤ 64) : ld (pageB h p) a 4 = ld h.Bytes (p * 64 + a) 4 := by
  unfold ld pageB
  rw [List.drop_take, List.take_take, List.drop_drop]
  congr 2; omega
theorem idx_pg {k : Nat} (hk : k < 64) : idx (pageB h p) (k : Int) = some ((pageB h p).getD k 0) := by
  have := page_len hs hp
  rw [idx_nat (by omega), List.getD_eq_getElem?_getD, List.getElem?_eq_getElem (by omega)]; rfl
theorem impl_pageOk_eq : impl_pageOk h (p : Int) = some (decide (PageOk h p)) := by
  have hb := hs.1
  have hl := page_len hs hp
  have hm : (pageB h p).length ≤ maxLen := by rw [hl]; simp [maxLen]
  have e0 : w64 ((p : Int) * 64) = ((p * 64 : Nat) : Int) := by rw [w64_in (by omega) (by omega)]; omega
  have e1 : w64 (w64 ((p : Int) + 1) * 64) = (((p + 1) * 64 : Nat) : Int) := by rw [w64_in (x := (p : Int) + 1) (by omega) (by omega), w64_in (by omega) (by omega)]; omega
  have i0 := idx_pg hs hp (show 0 < 64 by omega)
  have i1 := idx_pg hs hp (show 1 < 64 by omega)
  have i2 := idx_pg hs hp (show 2 < 64 by omega)
  rw [show ((0 : Nat) : Int) = 0 from rfl] at i0
  rw [show ((1 : Nat) : Int) = 1 from rfl] at i1
  rw [show ((2 : Nat) : Int) = 2 from rfl] at i2
  unfold impl_pageOk
  rw [idx_cls hs hp]
  simp only [Option.bind_some, e0, e1, Int.toNat_natCast, pg_eq hs hp]
  rw [need_yes (by omega)]
  by_cases hc : clsP h p < 0
  · have hP : PageOk h p ↔ ∀ x ∈ pageB h p, x = 0 := by unfold PageOk; rw [if_pos hc]
    simp only [hc, decide_true, if_true, impl_isZero_eq hm, Option.bind_some, hP]
  · have hP : PageOk h p ↔ ((pageB h p).getD 0 0 = 171 ∧ (pageB h p).getD 1 0 = clsP h p ∧ (pageB h p).getD 2 0 = perC (clsP h p)) ∧ (∀ x ∈ ((pageB h p).drop 3).take 5, x = 0) ∧ ∀ i, i < (perC (clsP h p)).toNat → 1 ≤ ld h.Bytes (p * 64 + 8 + i * (strideC (clsP h p)).toNat) 4 ∧ ld h.Bytes (p * 64 + 8 + i * (strideC (clsP h p)).toNat) 4 ≤ 7 := by unfold PageOk; rw [if_neg hc]
    simp only [hc, decide_false, Bool.false_eq_true, if_false, i0, i1, i2, Option.bind_some, impl_PerPage_eq]
    by_cases a0 : (pageB h p).getD 0 0 = 171
    · by_cases a1 : (pageB h p).getD 1 0 = clsP h p
      · by_cases a2 : (pageB h p).getD 2 0 = perC (clsP h p)
        · have n0 : ((pageB h p).getD 0 0 != 171) = false := by simp only [bne_eq_false_iff_eq]; exact a0
          have n1 : ((pageB h p).getD 1 0 != clsP h p) = false := by simp only [bne_eq_false_iff_eq]; exact a1
          have n2 : ((pageB h p).getD 2 0 != perC (clsP h p)) = false := by simp only [bne_eq_false_iff_eq]; exact a2
          have t8 : ((pageB h p).take (8 : Int).toNat).drop (3 : Int).toNat = ((pageB h p).drop 3).take 5 := by
            rw [show (8 : Int).toNat = 8 from rfl, show (3 : Int).toNat = 3 from rfl, List.drop_take]
          simp only [n0, n1, n2, Bool.false_eq_true, if_false, impl_pageOk_j1, t8]
          rw [need_yes (by omega), impl_isZero_eq (by simp [maxLen]; omega)]
          by_cases h4 : ∀ x ∈ ((pageB h p).drop 3).take 5, x = 0
          · simp only [decide_eq_true h4, Option.bind_some, Bool.not_true, Bool.false_eq_true, if_false, impl_PerPage_eq]
            have key2 : loop (impl_pageOk_l2 h (p : Int) (clsP h p) (perC (clsP h p))) 0 = some (if ∀ i, i < (perC (clsP h p)).toNat → 1 ≤ ld h.Bytes (p * 64 + 8 + i * (strideC (clsP h p)).toNat) 4 ∧ ld h.Bytes (p * 64 + 8 + i * (strideC (clsP h p)).toNat) 4 ≤ 7 then Out.brk () else Out.ret false) := by
              have hle := perC_le (clsP h p)
              have hst : ∀ k : Nat, k < (perC (clsP h p)).toNat → impl_pageOk_l2 h (p : Int) (clsP h p) (perC (clsP h p)) (k : Int) = if 1 ≤ ld h.Bytes (p * 64 + 8 + k * (strideC (clsP h p)).toNat) 4 ∧ ld h.Bytes (p * 64 + 8 + k * (strideC (clsP h p)).toNat) 4 ≤ 7 then some (.next ((k + 1 : Nat) : Int)) else some (.stop (Out.ret false)) := by
                intro k hk
                have hz := page_zero hs hp rfl hk
                have e5 : w64 (8 + w64 ((k : Int) * strideC (clsP h p))) = ((8 + k * (strideC (clsP h p)).toNat : Nat) : Int) := by
                  rw [w64_in (x := (k : Int) * strideC (clsP h p)) (by omega) (by omega), w64_in (by omega) (by omega)]; omega
                have l1 := impl_loadNum_eq (page_byte hs hp) (a := 8 + k * (strideC (clsP h p)).toNat) (w := 4) (by omega) (by omega) (by omega)
                rw [show ((4 : Nat) : Int) = 4 from rfl, ld_page hs hp (by omega)] at l1
                simp only [impl_pageOk_l2, impl_StrideOf_eq, Option.bind_some, e0, e1, Int.toNat_natCast, pg_eq hs hp, e5]
                rw [if_pos (by simp; omega), l1, Nat.add_assoc, w64_in (x := (k : Int) + 1) (by omega) (by omega)]
                simp only [Option.bind_some, within_eq]
                by_cases q : 1 ≤ ld h.Bytes (p * 64 + (8 + k * (strideC (clsP h p)).toNat)) 4 ∧ ld h.Bytes (p * 64 + (8 + k * (strideC (clsP h p)).toNat)) 4 ≤ 7
                · rw [if_pos q, decide_eq_true q]; rfl
                · rw [if_neg q, decide_eq_false q]; rfl
              refine scan_all (f := impl_pageOk_l2 h (p : Int) (clsP h p) (perC (clsP h p))) (perC (clsP h p)).toNat (fun k => (k : Int)) (fun i => 1 ≤ ld h.Bytes (p * 64 + 8 + i * (strideC (clsP h p)).toNat) 4 ∧ ld h.Bytes (p * 64 + 8 + i * (strideC (clsP h p)).toNat) 4 ≤ 7) _ _ (fun k hk hx => ?_) (fun k hk hx => ?_) ?_
              · rw [hst k hk, if_pos hx]
              · rw [hst k hk, if_neg hx]
              · simp only [impl_pageOk_l2]
                rw [if_neg (by simp; omega)]
            rw [key2]
            by_cases h5 : ∀ i, i < (perC (clsP h p)).toNat → 1 ≤ ld h.Bytes (p * 64 + 8 + i * (strideC (clsP h p)).toNat) 4 ∧ ld h.Bytes (p * 64 + 8 + i * (strideC (clsP h p)).toNat) 4 ≤ 7
            · rw [if_pos h5, decide_eq_true (hP.2 ⟨⟨a0, a1, a2⟩, h4, h5⟩)]; rfl
            · rw [if_neg h5, decide_eq_false (fun q => h5 (hP.1 q).2.2)]; rfl
          · simp only [decide_eq_false h4, Option.bind_some, Bool.not_false, if_true]
            rw [decide_eq_false (fun q => h4 (hP.1 q).2.1)]
        · have n0 : ((pageB h p).getD 0 0 != 171) = false := by simp only [bne_eq_false_iff_eq]; exact a0
          have n1 : ((pageB h p).getD 1 0 != clsP h p) = false := by simp only [bne_eq_false_iff_eq]; exact a1
          have n2 : ((pageB h p).getD 2 0 != perC (clsP h p)) = true := by simp only [bne_iff_ne]; exact a2
          simp only [n0, n1, n2, Bool.false_eq_true, if_false, impl_pageOk_j1, if_true]
          rw [decide_eq_false (fun q => a2 (hP.1 q).1.2.2)]
      · have n0 : ((pageB h p).getD 0 0 != 171) = false := by simp only [bne_eq_false_iff_eq]; exact a0
        have n1 : ((pageB h p).getD 1 0 != clsP h p) = true := by simp only [bne_iff_ne]; exact a1
        simp only [n0, n1, Bool.false_eq_true, if_false, impl_pageOk_j1, if_true]
        rw [decide_eq_false (fun q => a1 (hP.1 q).1.2.1)]
    · have n0 : ((pageB h p).getD 0 0 != 171) = true := by simp only [bne_iff_ne]; exact a0
      simp only [n0, Bool.false_eq_true, if_false, impl_pageOk_j1, if_true]
      rw [decide_eq_false (fun q => a0 (hP.1 q).1.1)]
end
instance (h : Heap) : Decidable (∀ p, p < 6 → PageOk h p) := Nat.decidableBallLT 6 fun p _ => PageOk h p
def HOk (h : Heap) : Prop := HShape h ∧ ∀ p, p < 6 → PageOk h p
instance (h : Heap) : Decidable (HOk h) := by unfold HOk; infer_instance
theorem spec_HeapOk_eq {h : Heap} (hl : h.Bytes.length ≤ maxLen) : spec_HeapOk h = some (decide (HOk h)) := by
  unfold spec_HeapOk
  rw [spec_l7Shape_eq hl]
  by_cases hs : HShape h
  · have key : loop (spec_HeapOk_l1 h) 0 = some (if ∀ p, p < 6 → PageOk h p then Out.brk () else Out.ret false) := by
      refine scan_all (f := spec_HeapOk_l1 h) 6 (fun k => (k : Int)) (fun p => PageOk h p) _ _ (fun k hk hx => ?_) (fun k hk hx => ?_) ?_
      · simp only [spec_HeapOk_l1]
        rw [if_pos (by simp; omega), spec_l7Page_eq hs hk, w64_in (by omega) (by omega), decide_eq_true hx]; rfl
      · simp only [spec_HeapOk_l1]
        rw [if_pos (by simp; omega), spec_l7Page_eq hs hk, decide_eq_false hx]; rfl
      · rfl
    simp only [Option.bind_some, decide_eq_true hs, Bool.not_true, Bool.false_eq_true, if_false]
    rw [key]
    by_cases h4 : ∀ p, p < 6 → PageOk h p
    · rw [if_pos h4, decide_eq_true (show HOk h from ⟨hs, h4⟩)]; rfl
    · rw [if_neg h4, decide_eq_false (fun q : HOk h => h4 q.2)]; rfl
  · rw [decide_eq_false (fun q : HOk h => hs q.1), decide_eq_false hs]; rfl
theorem impl_HeapOk_eq {h : Heap} (hl : h.Bytes.length ≤ maxLen) : impl_HeapOk h = some (decide (HOk h)) := by
  unfold impl_HeapOk
  rw [impl_shaped_eq hl]
  by_cases hs : HShape h
  · have key : loop (impl_HeapOk_l1 h) 0 = some (if ∀ p, p < 6 → PageOk h p then Out.brk () else Out.ret false) := by
      refine scan_all (f := impl_HeapOk_l1 h) 6 (fun k => (k : Int)) (fun p => PageOk h p) _ _ (fun k hk hx => ?_) (fun k hk hx => ?_) ?_
      · simp only [impl_HeapOk_l1]
        rw [if_pos (by simp; omega), impl_pageOk_eq hs hk, w64_in (by omega) (by omega), decide_eq_true hx]; rfl
      · simp only [impl_HeapOk_l1]
        rw [if_pos (by simp; omega), impl_pageOk_eq hs hk, decide_eq_false hx]; rfl
      · rfl
    simp only [Option.bind_some, decide_eq_true hs, Bool.not_true, Bool.false_eq_true, if_false]
    rw [key]
    by_cases h4 : ∀ p, p < 6 → PageOk h p
    · rw [if_pos h4, decide_eq_true (show HOk h from ⟨hs, h4⟩)]; rfl
    · rw [if_neg h4, decide_eq_false (fun q : HOk h => h4 q.2)]; rfl
  · rw [decide_eq_false (fun q : HOk h => hs q.1), decide_eq_false hs]; rfl
def clsS (h : Heap) (s : Int) : Int := if (0 ≤ s ∧ s ≤ 23) ∧ s % 4 < perC (clsP h (s / 4).toNat) then clsP h (s / 4).toNat else -1
theorem clsS_in {h : Heap} {s : Int} (hc : 0 ≤ clsS h s) : (0 ≤ s ∧ s ≤ 23) ∧ s % 4 < perC (clsP h (s / 4).toNat) ∧ clsS h s = clsP h (s / 4).toNat := by
  unfold clsS at hc ⊢
  split at hc
  · rename_i h1; exact ⟨h1.1, h1.2, by rw [if_pos h1]⟩
  · omega
theorem spec_l7Class_eq {h : Heap} (hs : HShape h) (s : Int) : spec_l7Class h s = some (clsS h s) := by
  unfold spec_l7Class spec_l7Class_j1 clsS
  rw [spec_PageOf_eq, spec_IndexOf_eq]
  by_cases h1 : 0 ≤ s ∧ s ≤ 23
  · obtain ⟨k, rfl⟩ := Int.eq_ofNat_of_zero_le h1.1
    have hk : k / 4 < 6 := by omega
    have e1 : ((k : Int) / 4) = ((k / 4 : Nat) : Int) := by omega
    have hi := idx_cls hs hk
    have n1 : ¬ ((k / 4 : Nat) : Int) < 0 := by omega
    simp only [h1, and_self, if_true, Option.bind_some, e1, n1, decide_false, Bool.false_eq_true, if_false, hi, Int.toNat_natCast, true_and]
    by_cases h2 : clsP h (k / 4) < 0
    · have h3 : perC (clsP h (k / 4)) = 0 := perC_no (by omega)
      have h4 : ¬ (k : Int) % 4 < 0 := by omega
      simp [h2, h3, h4]
    · by_cases h3 : (k : Int) % 4 < perC (clsP h (k / 4))
      · have h4 : ¬ perC (clsP h (k / 4)) ≤ (k : Int) % 4 := by omega
        simp [h2, h3, h4, spec_PerPage_eq]
      · have h4 : perC (clsP h (k / 4)) ≤ (k : Int) % 4 := by omega
        simp [h2, h3, h4, spec_PerPage_eq]
  · simp [h1]
theorem impl_classIn_eq {h : Heap} (hs : HShape h) (s : Int) : impl_classIn h s = some (clsS h s) := by
  unfold impl_classIn impl_classIn_j1 clsS
  rw [impl_isSlot_eq]
  by_cases h1 : 0 ≤ s ∧ s ≤ 23
  · obtain ⟨k, rfl⟩ := Int.eq_ofNat_of_zero_le h1.1
    have hk : k / 4 < 6 := by omega
    have e1 : ((k : Int) / 4) = ((k / 4 : Nat) : Int) := by omega
    have hi := idx_cls hs hk
    have e2 : w64 (Int.tdiv (k : Int) 4) = ((k / 4 : Nat) : Int) := by rw [tdiv_pos (by omega), w64_in (by omega) (by omega)]; omega
    simp only [h1, and_self, decide_true, Bool.not_true, Bool.false_eq_true, if_true, Option.bind_some, e1, e2, if_false, hi, Int.toNat_natCast, true_and, impl_GenAt_eq]
    by_cases h3 : (k : Int) % 4 < perC (clsP h (k / 4))
    · have hm := mul_stride (c := clsP h (k / 4)) (by omega) h3
      have hg : ¬ genC (k : Int) (clsP h (k / 4)) < 0 := by
        unfold genC; rw [if_pos ⟨h1, h3⟩]; omega
      simp [h3, hg]
    · have hg : genC (k : Int) (clsP h (k / 4)) < 0 := by
        unfold genC; rw [if_neg (fun q => h3 q.2)]; omega
      simp [h3, hg]
  · simp [h1]
def genS (h : Heap) (s : Int) : Int := ld h.Bytes (genC s (clsS h s)).toNat 4
theorem genC_in {h : Heap} {s : Int} (hc : 0 ≤ clsS h s) : 0 ≤ genC s (clsS h s) ∧ genC s (clsS h s) + 4 ≤ 384 := by
  obtain ⟨h1, h2, h3⟩ := clsS_in hc
  rw [h3]
  have hm := mul_stride (c := clsP h (s / 4).toNat) (by omega) h2
  have hst : 0 < strideC (clsP h (s / 4).toNat) := by
    have : 0 ≤ clsP h (s / 4).toNat ∧ clsP h (s / 4).toNat ≤ 2 := perC_pos.1 (by omega)
    rcases cls_cases this with e | e | e <;> rw [e] <;> decide
  have : 4 ≤ strideC (clsP h (s / 4).toNat) := by
    have : 0 ≤ clsP h (s / 4).toNat ∧ clsP h (s / 4).toNat ≤ 2 := perC_pos.1 (by omega)
    rcases cls_cases this with e | e | e <;> rw [e] <;> decide
  unfold genC; rw [if_pos ⟨h1, h2⟩]; omega
theorem spec_l7Gen_eq {h : Heap} (hs : HShape h) {s : Int} (hc : 0 ≤ clsS h s) : spec_l7Gen h s = some (genS h s) := by
  have hg := genC_in hc
  unfold spec_l7Gen
  rw [spec_l7Class_eq hs]
  simp only [Option.bind_some, spec_GenAt_eq]
  have l1 := spec_l3Load_eq hs.2.2.1 (a := (genC s (clsS h s)).toNat) (w := 4) (by omega) (by have := hs.1; omega) (by have := hs.1; omega)
  rw [show ((4 : Nat) : Int) = 4 from rfl, Int.toNat_of_nonneg hg.1] at l1
  rw [l1]; rfl
theorem impl_GenIn_eq {h : Heap} (hs : HShape h) {s : Int} (hc : 0 ≤ clsS h s) : impl_GenIn h s = some (genS h s) := by
  have hg := genC_in hc
  have hm : h.Bytes.length ≤ maxLen := by rw [hs.1]; simp [maxLen]
  unfold impl_GenIn impl_ClassAt
  rw [impl_shaped_eq hm, impl_classIn_eq hs]
  have l1 := impl_loadNum_eq hs.2.2.1 (a := (genC s (clsS h s)).toNat) (w := 4) (by omega) (by have := hs.1; omega) (by have := hs.1; omega)
  rw [show ((4 : Nat) : Int) = 4 from rfl, Int.toNat_of_nonneg hg.1] at l1
  have n1 : ¬ clsS h s < 0 := by omega
  simp [hs, n1, impl_GenAt_eq, l1, genS]
end Go.Gv
end
section
set_option linter.unusedVariables false
set_option linter.unusedSimpArgs false
set_option linter.unusedSectionVars false
namespace Go.Gv
def flatS (l : List SList) : List Int := l.flatMap SList.Slots
def allS (l : Lists) : List Int := flatS l.Global ++ flatS l.Own
def LOk (l : Lists) : Prop := l.Global.length = 3 ∧ l.Own.length = 9 ∧ (∀ s ∈ l.Own, s.Slots.length ≤ 2) ∧ (∀ x ∈ allS l, 0 ≤ x ∧ x ≤ 23) ∧ (allS l).Nodup
instance (l : Lists) : Decidable (LOk l) := by unfold LOk; infer_instance
theorem flat_take {l : List SList} {k : Nat} (h : k < l.length) : flatS (l.take (k + 1)) = flatS (l.take k) ++ l[k].Slots := by
  unfold flatS
  rw [List.take_succ_eq_append_getElem h, List.flatMap_append]; simp
theorem flat_le (l : List SList) (k : Nat) : (flatS (l.take k)).length ≤ (flatS l).length := by
  have : flatS l = flatS (l.take k) ++ flatS (l.drop k) := by
    unfold flatS; rw [← List.flatMap_append, List.take_append_drop]
  rw [this]; simp
theorem flat_get (l : List SList) {k : Nat} (h : k < l.length) : l[k].Slots.length ≤ (flatS l).length := by
  have h1 := flat_le l (k + 1)
  rw [flat_take h] at h1
  simp at h1; omega
theorem spec_l8All_eq {l : Lists} (h : (allS l).length ≤ 1073741824) (hg : l.Global.length ≤ maxLen) (ho : l.Own.length ≤ maxLen) : spec_l8All l = some (allS l) := by
  have hsum : (flatS l.Global).length + (flatS l.Own).length ≤ 1073741824 := by simpa [allS] using h
  unfold spec_l8All
  have k1 : loop (spec_l8All_l1 l) ([], 0) = some (flatS l.Global) := by
    refine enum_eq (f := spec_l8All_l1 l) l.Global.length (fun k => (flatS (l.Global.take k), (k : Int))) _ (fun k hk => ?_) ?_
    · have h1 := flat_le l.Global (k + 1)
      rw [flat_take hk] at h1
      simp only [spec_l8All_l1]
      rw [if_pos (by simp; omega), idx_nat hk]
      simp only [Option.bind_some]
      rw [need_yes (by simp at h1; omega), flat_take hk, w64_nat (lt_max hk hg)]
    · simp [spec_l8All_l1]
  rw [k1]
  simp only [Option.bind_some, spec_l8All_m1, spec_l8All_j1]
  have k2 : loop (spec_l8All_l2 l) (flatS l.Global, 0) = some (allS l) := by
    have := enum_eq (f := spec_l8All_l2 l) l.Own.length (fun k => (flatS l.Global ++ flatS (l.Own.take k), (k : Int))) (allS l) (fun k hk => ?_) ?_
    · simpa [flatS] using this
    · have h1 := flat_le l.Own (k + 1)
      rw [flat_take hk] at h1
      simp only [spec_l8All_l2]
      rw [if_pos (by simp; omega), idx_nat hk]
      simp only [Option.bind_some]
      rw [need_yes (by simp at h1 ⊢; omega), flat_take hk, w64_nat (lt_max hk ho), List.append_assoc]
    · simp [spec_l8All_l2, allS]
  rw [k2]; rfl
theorem spec_l8Has_eq {l : List Int} (hl : l.length ≤ maxLen) (x : Int) : spec_l8Has l x = some (decide (x ∈ l)) := by
  unfold spec_l8Has
  have key : loop (spec_l8Has_l1 l x) 0 = some (if ∀ y ∈ l, y ≠ x then Out.brk () else Out.ret true) := by
    refine scan_list (f := spec_l8Has_l1 l x) l (fun k => (k : Int)) (fun y => y ≠ x) _ _ (fun k h hp => ?_) (fun k h hp => ?_) ?_
    · simp only [spec_l8Has_l1]
      rw [if_pos (by simp; omega), idx_nat h, w64_nat (lt_max h hl)]
      have : (l[k] == x) = false := by simpa using hp
      simp only [Option.bind_some, this, Bool.false_eq_true, if_false]
    · simp only [spec_l8Has_l1]
      rw [if_pos (by simp; omega), idx_nat h]
      have : (l[k] == x) = true := by simpa using hp
      simp only [Option.bind_some, this, if_true]
    · simp [spec_l8Has_l1]
  rw [key]
  by_cases h : x ∈ l
  · rw [if_neg (fun q => q x h rfl), decide_eq_true h]; rfl
  · rw [if_pos (fun y hy (e : y = x) => h (e ▸ hy)), decide_eq_false h]; rfl
theorem nodup_take (l : List Int) : l.Nodup ↔ ∀ k (h : k < l.length), l[k] ∉ l.take k := by
  unfold List.Nodup
  rw [List.pairwise_iff_getElem]
  constructor
  · intro h k hk hm
    obtain ⟨i, hi, he⟩ := List.mem_take_iff_getElem.1 hm
    exact h i k (by omega) hk (by omega) he
  · intro h i j hi hj hij he
    exact h j hj (List.mem_take_iff_getElem.2 ⟨i, by omega, he⟩)
theorem spec_ListsOk_eq {l : Lists} (h : (allS l).length ≤ 1073741824) : spec_ListsOk l = some (decide (LOk l)) := by
  unfold spec_ListsOk spec_ListsOk_j1
  by_cases hg : l.Global.length = 3
  · by_cases ho : l.Own.length = 9
    · have n1 : ((l.Global.length : Int) != 3) = false := by simp; omega
      have n2 : ((l.Own.length : Int) != 9) = false := by simp; omega
      simp only [n1, n2, Bool.false_eq_true, if_false]
      have k1 : loop (spec_ListsOk_l2 l) 0 = some (if ∀ s ∈ l.Own, s.Slots.length ≤ 2 then Out.brk () else Out.ret false) := by
        refine scan_list (f := spec_ListsOk_l2 l) l.Own (fun k => (k : Int)) (fun s => s.Slots.length ≤ 2) _ _ (fun k hk hp => ?_) (fun k hk hp => ?_) ?_
        · simp only [spec_ListsOk_l2]
          rw [if_pos (by simp; omega), idx_nat hk, w64_in (by omega) (by omega)]
          simp only [Option.bind_some]
          rw [if_neg (by simp; omega)]; rfl
        · simp only [spec_ListsOk_l2]
          rw [if_pos (by simp; omega), idx_nat hk]
          simp only [Option.bind_some]
          rw [if_pos (by simp; omega)]
        · simp [spec_ListsOk_l2]
      rw [k1]
      by_cases h2 : ∀ s ∈ l.Own, s.Slots.length ≤ 2
      · rw [if_pos h2]
        simp only [Option.bind_some, spec_ListsOk_m2, spec_ListsOk_j2]
        rw [spec_l8All_eq h (by rw [hg]; simp [maxLen]) (by rw [ho]; simp [maxLen])]
        simp only [Option.bind_some]
        have k2 : loop (spec_ListsOk_l3 (allS l)) 0 = some (if ∀ k, k < (allS l).length → (0 ≤ (allS l).getD k 0 ∧ (allS l).getD k 0 ≤ 23) ∧ (allS l).getD k 0 ∉ (allS l).take k then Out.brk () else Out.ret false) := by
          have hst : ∀ k, k < (allS l).length → spec_ListsOk_l3 (allS l) (k : Int) = if (0 ≤ (allS l).getD k 0 ∧ (allS l).getD k 0 ≤ 23) ∧ (allS l).getD k 0 ∉ (allS l).take k then some (.next ((k + 1 : Nat) : Int)) else some (.stop (Out.ret false)) := by
            intro k hk
            have e : (allS l).getD k 0 = (allS l)[k] := by rw [List.getD_eq_getElem?_getD, List.getElem?_eq_getElem hk]; rfl
            rw [e]
            simp only [spec_ListsOk_l3]
            rw [if_pos (by simp; omega), idx_nat hk]
            simp only [Option.bind_some, l1In_eq, spec_ListsOk_j4]
            by_cases q : 0 ≤ (allS l)[k] ∧ (allS l)[k] ≤ 23
            · rw [decide_eq_true q]
              simp only [Bool.not_true, Bool.false_eq_true, if_false, Int.toNat_natCast, List.drop_zero]
              rw [need_yes (by omega), spec_l8Has_eq (by simp [maxLen]; omega), w64_in (by omega) (by omega)]
              by_cases q2 : (allS l)[k] ∈ (allS l).take k
              · rw [if_neg (fun x => x.2 q2), decide_eq_true q2]; rfl
              · rw [if_pos ⟨q, q2⟩, decide_eq_false q2]; rfl
            · rw [decide_eq_false q]; simp only [Bool.not_false, if_true]; rw [if_neg (fun x => q x.1)]
          refine scan_all (f := spec_ListsOk_l3 (allS l)) (allS l).length (fun k => (k : Int)) (fun k => (0 ≤ (allS l).getD k 0 ∧ (allS l).getD k 0 ≤ 23) ∧ (allS l).getD k 0 ∉ (allS l).take k) _ _ (fun k hk hx => ?_) (fun k hk hx => ?_) ?_
          · rw [hst k hk, if_pos hx]
          · rw [hst k hk, if_neg hx]
          · simp [spec_ListsOk_l3]
        rw [k2]
        have hiff : LOk l ↔ ∀ k, k < (allS l).length → (0 ≤ (allS l).getD k 0 ∧ (allS l).getD k 0 ≤ 23) ∧ (allS l).getD k 0 ∉ (allS l).take k := by
          have e : ∀ k (hk : k < (allS l).length), (allS l).getD k 0 = (allS l)[k] := fun k hk => by rw [List.getD_eq_getElem?_getD, List.getElem?_eq_getElem hk]; rfl
          constructor
          · rintro ⟨_, _, _, q1, q2⟩ k hk
            rw [e k hk]
            exact ⟨q1 _ (List.getElem_mem hk), (nodup_take _).1 q2 k hk⟩
          · intro q
            refine ⟨hg, ho, h2, fun x hx => ?_, (nodup_take _).2 fun k hk => ?_⟩
            · obtain ⟨k, hk, rfl⟩ := List.mem_iff_getElem.1 hx
              have := (q k hk).1; rw [e k hk] at this; exact this
            · have := (q k hk).2; rw [e k hk] at this; exact this
        by_cases q : LOk l
        · rw [if_pos (hiff.1 q), decide_eq_true q]; rfl
        · rw [if_neg (fun x => q (hiff.2 x)), decide_eq_false q]; rfl
      · rw [if_neg h2, decide_eq_false (fun q : LOk l => h2 q.2.2.1)]; rfl
    · have n1 : ((l.Global.length : Int) != 3) = false := by simp; omega
      have n2 : ((l.Own.length : Int) != 9) = true := by simp; omega
      simp only [n1, n2, Bool.false_eq_true, if_false, if_true]
      rw [decide_eq_false (fun q : LOk l => ho q.2.1)]
  · have n1 : ((l.Global.length : Int) != 3) = true := by simp; omega
    simp only [n1, if_true]
    rw [decide_eq_false (fun q : LOk l => hg q.1)]
def goMet : List Bool → List Int → Option (List Bool)
  | met, [] => some met
  | met, x :: r => if (0 ≤ x ∧ x ≤ 23) ∧ met.getD x.toNat true = false then goMet (met.set x.toNat true) r else none
theorem goMet_len : ∀ {xs : List Int} {met m : List Bool}, goMet met xs = some m → m.length = met.length
  | [], met, m, h => by simp [goMet] at h; rw [h]
  | x :: r, met, m, h => by
    simp only [goMet] at h
    split at h
    · have := goMet_len h; simpa using this
    · cases h
theorem goMet_append : ∀ (a b : List Int) (met : List Bool), goMet met (a ++ b) = (goMet met a).bind fun m => goMet m b
  | [], b, met => rfl
  | x :: r, b, met => by
    simp only [List.cons_append, goMet]
    split
    · exact goMet_append r b _
    · rfl
theorem goMet_some : ∀ (xs : List Int) (met : List Bool), met.length = 24 → ((goMet met xs).isSome = true ↔ (∀ x ∈ xs, 0 ≤ x ∧ x ≤ 23) ∧ xs.Nodup ∧ ∀ x ∈ xs, met.getD x.toNat true = false)
  | [], met, hm => by simp [goMet]
  | x :: r, met, hm => by
    simp only [goMet]
    by_cases h : (0 ≤ x ∧ x ≤ 23) ∧ met.getD x.toNat true = false
    · rw [if_pos h, goMet_some r _ (by simpa using hm)]
      have hset : ∀ y, 0 ≤ y ∧ y ≤ 23 → (((met.set x.toNat true).getD y.toNat true = false) ↔ (y ≠ x ∧ met.getD y.toNat true = false)) := by
        intro y hy
        rw [List.getD_eq_getElem?_getD, List.getD_eq_getElem?_getD]
        by_cases e : y = x
        · subst e; rw [List.getElem?_set_self (by omega)]; simp
        · rw [List.getElem?_set_ne (by omega)]; simp [e]
      constructor
      · rintro ⟨q1, q2, q3⟩
        refine ⟨fun y hy => ?_, List.nodup_cons.2 ⟨fun hx => ?_, q2⟩, fun y hy => ?_⟩
        · rcases List.mem_cons.1 hy with rfl | hy
          · exact h.1
          · exact q1 y hy
        · exact ((hset x h.1).1 (q3 x hx)).1 rfl
        · rcases List.mem_cons.1 hy with rfl | hy
          · exact h.2
          · exact ((hset y (q1 y hy)).1 (q3 y hy)).2
      · rintro ⟨q1, q2, q3⟩
        have q2 := List.nodup_cons.1 q2
        refine ⟨fun y hy => q1 y (List.mem_cons_of_mem _ hy), q2.2, fun y hy => (hset y (q1 y (List.mem_cons_of_mem _ hy))).2 ⟨fun e => q2.1 (e ▸ hy), q3 y (List.mem_cons_of_mem _ hy)⟩⟩
    · rw [if_neg h]
      constructor
      · intro q; cases q
      · rintro ⟨q1, q2, q3⟩
        exact (h ⟨q1 x List.mem_cons_self, q3 x List.mem_cons_self⟩).elim
def endMet : Option (List Bool) → Out (List Bool) Bool
  | some m => .brk m
  | none => .ret false
theorem l4_eq {s : SList} (hl : s.Slots.length ≤ maxLen) : ∀ d k (met : List Bool), k + d = s.Slots.length → met.length = 24 → loop (impl_ListsOk_l4 s) ((k : Int), met) = some (endMet (goMet met (s.Slots.drop k))) := by
  intro d
  induction d with
  | zero =>
    intro k met hk hm
    rw [loop_stop (r := Out.brk met) (by simp [impl_ListsOk_l4]; omega), List.drop_eq_nil_of_le (by omega)]; rfl
  | succ d ih =>
    intro k met hk hm
    have hk' : k < s.Slots.length := by omega
    have hd : s.Slots.drop k = s.Slots[k] :: s.Slots.drop (k + 1) := List.drop_eq_getElem_cons hk'
    have hst : impl_ListsOk_l4 s ((k : Int), met) = if (0 ≤ s.Slots[k] ∧ s.Slots[k] ≤ 23) ∧ met.getD s.Slots[k].toNat true = false then some (.next (((k + 1 : Nat) : Int), met.set s.Slots[k].toNat true)) else some (.stop (Out.ret false)) := by
      simp only [impl_ListsOk_l4]
      rw [if_pos (by simp; omega), idx_nat hk']
      simp only [Option.bind_some, impl_isSlot_eq]
      generalize s.Slots[k] = x
      by_cases q : 0 ≤ x ∧ x ≤ 23
      · obtain ⟨j, rfl⟩ := Int.eq_ofNat_of_zero_le q.1
        have hj : j < met.length := by omega
        have e : met.getD j true = met[j] := by rw [List.getD_eq_getElem?_getD, List.getElem?_eq_getElem hj]; rfl
        simp only [q, and_self, decide_true, Bool.not_true, Bool.false_eq_true, if_false, impl_ListsOk_j5, Int.toNat_natCast, true_and, e]
        rw [need_yes (by omega), idx_nat hj]
        simp only [Option.bind_some]
        cases met[j]
        · simp only [Bool.false_eq_true, if_false, if_true]
          rw [need_yes (by omega), w64_nat (lt_max hk' hl)]
        · simp
      · rw [decide_eq_false q]; simp only [Bool.not_false, if_true, impl_ListsOk_j5]; rw [if_neg (fun x => q x.1)]
    rw [hd, goMet]
    by_cases q : (0 ≤ s.Slots[k] ∧ s.Slots[k] ≤ 23) ∧ met.getD s.Slots[k].toNat true = false
    · rw [if_pos q] at hst ⊢
      rw [loop_next hst, ih (k + 1) _ (by omega) (by simpa using hm)]
    · rw [if_neg q] at hst ⊢
      rw [loop_stop hst]; rfl
def LeTwo (l : List SList) : Prop := ∀ s ∈ l, s.Slots.length ≤ 2
instance (l : List SList) : Decidable (LeTwo l) := by unfold LeTwo; infer_instance
theorem l2_eq {l : Lists} (ho : l.Own.length = 9) (hn : (l.Own ++ l.Global).length ≤ 1000) (hs : ∀ s ∈ l.Own ++ l.Global, s.Slots.length ≤ maxLen) : ∀ d k (met : List Bool), k + d = (l.Own ++ l.Global).length → met.length = 24 →
    loop (impl_ListsOk_l2 l) ((k : Int), met) = some (if LeTwo (((l.Own ++ l.Global).drop k).take (9 - k)) ∧ (goMet met (flatS ((l.Own ++ l.Global).drop k))).isSome = true then Out.brk () else Out.ret false) := by
  intro d
  induction d with
  | zero =>
    intro k met hk hm
    rw [List.drop_eq_nil_of_le (by omega), if_pos ⟨by simp [LeTwo], rfl⟩]
    refine loop_stop ?_
    simp only [impl_ListsOk_l2]
    rw [if_neg (by simp; simp at hk; omega)]
  | succ d ih =>
    intro k met hk hm
    have hk' : k < (l.Own ++ l.Global).length := by omega
    have hd : (l.Own ++ l.Global).drop k = (l.Own ++ l.Global)[k] :: (l.Own ++ l.Global).drop (k + 1) := List.drop_eq_getElem_cons hk'
    have hsk := hs _ (List.getElem_mem hk')
    have hf : flatS ((l.Own ++ l.Global).drop k) = (l.Own ++ l.Global)[k].Slots ++ flatS ((l.Own ++ l.Global).drop (k + 1)) := by unfold flatS; rw [hd, List.flatMap_cons]
    have hin : ∀ b : Bool, impl_ListsOk_j3 (k : Int) met (l.Own ++ l.Global)[k] b = if b then some (.stop (Out.ret false)) else (match goMet met (l.Own ++ l.Global)[k].Slots with | some m => some (.next (((k + 1 : Nat) : Int), m)) | none => some (.stop (Out.ret false))) := by
      intro b
      have h4 := l4_eq hsk _ 0 met (Nat.zero_add _) hm
      rw [show ((0 : Nat) : Int) = 0 from rfl, List.drop_zero] at h4
      unfold impl_ListsOk_j3
      rw [h4]
      cases b
      · simp only [Bool.false_eq_true, if_false, Option.bind_some]
        cases goMet met (l.Own ++ l.Global)[k].Slots with
        | none => rfl
        | some m => simp only [endMet, impl_ListsOk_m4, impl_ListsOk_j4]; rw [w64_in (by omega) (by omega)]; rfl
      · rfl
    have hst : impl_ListsOk_l2 l ((k : Int), met) = impl_ListsOk_j3 (k : Int) met (l.Own ++ l.Global)[k] (decide (k < 9 ∧ 2 < (l.Own ++ l.Global)[k].Slots.length)) := by
      simp only [impl_ListsOk_l2]
      rw [if_pos (by simp; simp at hk'; omega), idx_nat hk']
      simp only [Option.bind_some]
      by_cases h9 : k < 9
      · rw [if_pos (by simp; omega)]
        congr 1
        rw [Bool.eq_iff_iff]; simp only [decide_eq_true_eq]; omega
      · rw [if_neg (by simp; omega), decide_eq_false (by omega)]
    rw [hin] at hst
    by_cases h2 : k < 9 ∧ 2 < (l.Own ++ l.Global)[k].Slots.length
    · rw [decide_eq_true h2] at hst
      simp only [if_true] at hst
      rw [loop_stop hst, if_neg]
      rintro ⟨q, _⟩
      have e : 9 - k = (9 - (k + 1)) + 1 := by omega
      rw [hd, e, List.take_succ_cons] at q
      have := q _ List.mem_cons_self
      omega
    · rw [decide_eq_false h2] at hst
      simp only [Bool.false_eq_true, if_false] at hst
      have hcond : LeTwo (((l.Own ++ l.Global).drop k).take (9 - k)) ↔ LeTwo (((l.Own ++ l.Global).drop (k + 1)).take (9 - (k + 1))) := by
        unfold LeTwo
        by_cases h9 : k < 9
        · have e : 9 - k = (9 - (k + 1)) + 1 := by omega
          rw [hd, e, List.take_succ_cons, List.forall_mem_cons]
          exact ⟨fun q => q.2, fun q => ⟨by omega, q⟩⟩
        · have e : 9 - k = 0 := by omega
          have e' : 9 - (k + 1) = 0 := by omega
          rw [e, e']; simp
      rw [hf, goMet_append]
      cases hg : goMet met (l.Own ++ l.Global)[k].Slots with
      | none =>
        rw [hg] at hst
        rw [loop_stop hst, if_neg (by simp)]
      | some m =>
        rw [hg] at hst
        rw [loop_next hst, ih (k + 1) m (by omega) (by rw [goMet_len hg]; exact hm)]
        simp only [Option.bind_some, hcond]
theorem impl_ListsOk_eq {l : Lists} (h : (allS l).length ≤ 1073741824) : impl_ListsOk l = some (decide (LOk l)) := by
  unfold impl_ListsOk impl_ListsOk_j1
  by_cases hg : l.Global.length = 3
  · by_cases ho : l.Own.length = 9
    · have n1 : ((l.Global.length : Int) != 3) = false := by simp; omega
      have n2 : ((l.Own.length : Int) != 9) = false := by simp; omega
      simp only [n1, n2, Bool.false_eq_true, if_false]
      rw [need_yes (by omega)]
      have hsl : ∀ s ∈ l.Own ++ l.Global, s.Slots.length ≤ maxLen := by
        intro s hm
        have hsum : (flatS l.Global).length + (flatS l.Own).length ≤ 1073741824 := by simpa [allS] using h
        have hb : (1073741824 : Nat) ≤ maxLen := by simp [maxLen]
        rcases List.mem_append.1 hm with hm | hm
        · obtain ⟨k, hk, rfl⟩ := List.mem_iff_getElem.1 hm
          have := flat_get l.Own hk; omega
        · obtain ⟨k, hk, rfl⟩ := List.mem_iff_getElem.1 hm
          have := flat_get l.Global hk; omega
      have key := l2_eq ho (by simp; omega) hsl (l.Own ++ l.Global).length 0 [false, false, false, false, false, false, false, false, false, false, false, false, false, false, false, false, false, false, false, false, false, false, false, false] (by omega) rfl
      rw [show ((0 : Nat) : Int) = 0 from rfl, List.drop_zero, Nat.sub_zero] at key
      rw [key]
      have et : (l.Own ++ l.Global).take 9 = l.Own := by rw [← ho]; simp
      have ef : flatS (l.Own ++ l.Global) = flatS l.Own ++ flatS l.Global := by simp [flatS]
      have hm0 : ∀ j : Nat, j < 24 → [false, false, false, false, false, false, false, false, false, false, false, false, false, false, false, false, false, false, false, false, false, false, false, false].getD j true = false := by decide
      have hiff : LOk l ↔ LeTwo ((l.Own ++ l.Global).take 9) ∧ (goMet [false, false, false, false, false, false, false, false, false, false, false, false, false, false, false, false, false, false, false, false, false, false, false, false] (flatS (l.Own ++ l.Global))).isSome = true := by
        rw [goMet_some _ _ rfl, et, ef]
        have hp : (flatS l.Own ++ flatS l.Global).Perm (allS l) := List.perm_append_comm
        constructor
        · rintro ⟨_, _, q1, q2, q3⟩
          exact ⟨q1, fun x hx => q2 x (hp.mem_iff.1 hx), hp.nodup_iff.2 q3, fun x hx => hm0 _ (by have := q2 x (hp.mem_iff.1 hx); omega)⟩
        · rintro ⟨q1, q2, q3, _⟩
          exact ⟨hg, ho, q1, fun x hx => q2 x (hp.mem_iff.2 hx), hp.nodup_iff.1 q3⟩
      by_cases q : LOk l
      · rw [if_pos (hiff.1 q), decide_eq_true q]; rfl
      · rw [if_neg (fun x => q (hiff.2 x)), decide_eq_false q]; rfl
    · have n1 : ((l.Global.length : Int) != 3) = false := by simp; omega
      have n2 : ((l.Own.length : Int) != 9) = true := by simp; omega
      simp only [n1, n2, Bool.false_eq_true, if_false, if_true]
      rw [decide_eq_false (fun q : LOk l => ho q.2.1)]
  · have n1 : ((l.Global.length : Int) != 3) = true := by simp; omega
    simp only [n1, if_true]
    rw [decide_eq_false (fun q : LOk l => hg q.1)]
end Go.Gv
end
section
set_option linter.unusedVariables false
set_option linter.unusedSimpArgs false
set_option linter.unusedSectionVars false
namespace Go.Gv
def FitsL (h : Heap) (l : List Int) (c : Int) : Prop := ∀ x ∈ l, clsS h x = c ∧ genS h x ≤ 6
instance (h : Heap) (l : List Int) (c : Int) : Decidable (FitsL h l c) := by unfold FitsL; infer_instance
theorem spec_l9Listed_eq {h : Heap} (hs : HShape h) {l : List Int} (hl : l.length ≤ maxLen) {c : Int} (hc : 0 ≤ c) : spec_l9Listed h l c = some (decide (FitsL h l c)) := by
  unfold spec_l9Listed
  have key : loop (spec_l9Listed_l1 h l c) 0 = some (if ∀ x ∈ l, clsS h x = c ∧ genS h x ≤ 6 then Out.brk () else Out.ret false) := by
    have hst : ∀ k (hk : k < l.length), spec_l9Listed_l1 h l c (k : Int) = if clsS h l[k] = c ∧ genS h l[k] ≤ 6 then some (.next ((k + 1 : Nat) : Int)) else some (.stop (Out.ret false)) := by
      intro k hk
      simp only [spec_l9Listed_l1]
      rw [if_pos (by simp; omega), idx_nat hk]
      generalize l[k] = x
      simp only [Option.bind_some, spec_l7Class_eq hs, spec_l9Listed_j2]
      by_cases q : clsS h x = c
      · have n1 : (clsS h x != c) = false := by simp only [bne_eq_false_iff_eq]; exact q
        simp only [n1, Bool.false_eq_true, if_false, spec_l7Gen_eq hs (show 0 ≤ clsS h x by omega), Option.bind_some, w64_nat (lt_max hk hl)]
        by_cases q2 : genS h x ≤ 6
        · rw [if_neg (by simp; omega), if_pos ⟨q, q2⟩]
        · rw [if_pos (by simp; omega), if_neg (fun x => q2 x.2)]
      · have n1 : (clsS h x != c) = true := by simp only [bne_iff_ne]; exact q
        simp only [n1, if_true]
        rw [if_neg (fun x => q x.1)]
    refine scan_list (f := spec_l9Listed_l1 h l c) l (fun k => (k : Int)) (fun x => clsS h x = c ∧ genS h x ≤ 6) _ _ (fun k hk hp => ?_) (fun k hk hp => ?_) ?_
    · rw [hst k hk, if_pos hp]
    · rw [hst k hk, if_neg hp]
    · simp [spec_l9Listed_l1]
  rw [key]
  by_cases q : ∀ x ∈ l, clsS h x = c ∧ genS h x ≤ 6
  · rw [if_pos q, decide_eq_true (show FitsL h l c from q)]; rfl
  · rw [if_neg q, decide_eq_false (show ¬ FitsL h l c from q)]; rfl
theorem impl_listFits_eq {h : Heap} (hs : HShape h) {s : SList} (hl : s.Slots.length ≤ maxLen) {c : Int} (hc : 0 ≤ c) : impl_listFits h s c = some (decide (FitsL h s.Slots c)) := by
  unfold impl_listFits
  have key : loop (impl_listFits_l1 h s c) 0 = some (if ∀ x ∈ s.Slots, clsS h x = c ∧ genS h x ≤ 6 then Out.brk () else Out.ret false) := by
    have hst : ∀ k (hk : k < s.Slots.length), impl_listFits_l1 h s c (k : Int) = if clsS h s.Slots[k] = c ∧ genS h s.Slots[k] ≤ 6 then some (.next ((k + 1 : Nat) : Int)) else some (.stop (Out.ret false)) := by
      intro k hk
      simp only [impl_listFits_l1]
      rw [if_pos (by simp; omega), idx_nat hk]
      generalize s.Slots[k] = x
      simp only [Option.bind_some, impl_classIn_eq hs, impl_listFits_j2]
      by_cases q : clsS h x = c
      · have n1 : (clsS h x != c) = false := by simp only [bne_eq_false_iff_eq]; exact q
        simp only [n1, Bool.false_eq_true, if_false, impl_GenIn_eq hs (show 0 ≤ clsS h x by omega), Option.bind_some, w64_nat (lt_max hk hl)]
        by_cases q2 : genS h x ≤ 6
        · rw [if_neg (by simp; omega), if_pos ⟨q, q2⟩]
        · rw [if_pos (by simp; omega), if_neg (fun x => q2 x.2)]
      · have n1 : (clsS h x != c) = true := by simp only [bne_iff_ne]; exact q
        simp only [n1, if_true]
        rw [if_neg (fun x => q x.1)]
    refine scan_list (f := impl_listFits_l1 h s c) s.Slots (fun k => (k : Int)) (fun x => clsS h x = c ∧ genS h x ≤ 6) _ _ (fun k hk hp => ?_) (fun k hk hp => ?_) ?_
    · rw [hst k hk, if_pos hp]
    · rw [hst k hk, if_neg hp]
    · simp [impl_listFits_l1]
  rw [key]
  by_cases q : ∀ x ∈ s.Slots, clsS h x = c ∧ genS h x ≤ 6
  · rw [if_pos q, decide_eq_true (show FitsL h s.Slots c from q)]; rfl
  · rw [if_neg q, decide_eq_false (show ¬ FitsL h s.Slots c from q)]; rfl
def slotsAt (l : List SList) (k : Nat) : List Int := (l.getD k ⟨[]⟩).Slots
theorem slotsAt_get {l : List SList} {k : Nat} (h : k < l.length) : l[k].Slots = slotsAt l k := by
  unfold slotsAt; rw [List.getD_eq_getElem?_getD, List.getElem?_eq_getElem h]; rfl
def GFit (m : Mem) (k : Nat) : Prop := FitsL m.Heap (slotsAt m.Lists.Global k) (k : Int)
def OFit (m : Mem) (k : Nat) : Prop := FitsL m.Heap (slotsAt m.Lists.Own k) ((k % 3 : Nat) : Int)
instance (m : Mem) (k : Nat) : Decidable (GFit m k) := by unfold GFit; infer_instance
instance (m : Mem) (k : Nat) : Decidable (OFit m k) := by unfold OFit; infer_instance
instance (m : Mem) : Decidable (∀ k, k < 3 → GFit m k) := Nat.decidableBallLT 3 fun k _ => GFit m k
instance (m : Mem) : Decidable (∀ k, k < 9 → OFit m k) := Nat.decidableBallLT 9 fun k _ => OFit m k
instance (m : Mem) (c : Nat) : Decidable (∀ w, w < 3 → OFit m (w * 3 + c)) := Nat.decidableBallLT 3 fun w _ => OFit m (w * 3 + c)
instance (m : Mem) : Decidable (∀ k, k < 3 → GFit m k ∧ ∀ w, w < 3 → OFit m (w * 3 + k)) := Nat.decidableBallLT 3 fun k _ => GFit m k ∧ ∀ w, w < 3 → OFit m (w * 3 + k)
def MOk (m : Mem) : Prop := (HOk m.Heap ∧ LOk m.Lists) ∧ (∀ k, k < 3 → GFit m k) ∧ ∀ k, k < 9 → OFit m k
instance (m : Mem) : Decidable (MOk m) := by unfold MOk; infer_instance
theorem LOk.slots {l : Lists} (h : LOk l) (hb : (allS l).length ≤ 1073741824) : (∀ s ∈ l.Global, s.Slots.length ≤ 1073741824) ∧ ∀ s ∈ l.Own, s.Slots.length ≤ 1073741824 := by
  have hsum : (flatS l.Global).length + (flatS l.Own).length ≤ 1073741824 := by simpa [allS] using hb
  constructor
  · intro s hm
    obtain ⟨k, hk, rfl⟩ := List.mem_iff_getElem.1 hm
    have := flat_get l.Global hk; omega
  · intro s hm
    obtain ⟨k, hk, rfl⟩ := List.mem_iff_getElem.1 hm
    have := flat_get l.Own hk; omega
theorem own_all {m : Mem} : (∀ k, k < 3 → GFit m k ∧ ∀ w, w < 3 → OFit m (w * 3 + k)) ↔ (∀ k, k < 3 → GFit m k) ∧ ∀ k, k < 9 → OFit m k := by
  constructor
  · intro h
    refine ⟨fun k hk => (h k hk).1, fun k hk => ?_⟩
    have := (h (k % 3) (by omega)).2 (k / 3) (by omega)
    have e : k / 3 * 3 + k % 3 = k := by omega
    rwa [e] at this
  · rintro ⟨h1, h2⟩ k hk
    exact ⟨h1 k hk, fun w hw => h2 _ (by omega)⟩
theorem spec_MemOk_eq {m : Mem} (hb : m.Heap.Bytes.length ≤ maxLen) (hl : (allS m.Lists).length ≤ 1073741824) : spec_MemOk m = some (decide (MOk m)) := by
  unfold spec_MemOk spec_MemOk_j1
  rw [spec_HeapOk_eq hb, spec_ListsOk_eq hl]
  by_cases h1 : HOk m.Heap
  · by_cases h2 : LOk m.Lists
    · have hmx : (1073741824 : Nat) ≤ maxLen := by simp [maxLen]
      have hsl := LOk.slots h2 hl
      simp only [decide_eq_true h1, decide_eq_true h2, Option.bind_some, Bool.not_true, Bool.false_eq_true, if_false]
      have k3 : ∀ c : Nat, c < 3 → loop (spec_MemOk_l3 m (c : Int)) 0 = some (if ∀ w, w < 3 → OFit m (w * 3 + c) then Out.brk () else Out.ret false) := by
        intro c hc
        have hst : ∀ w : Nat, w < 3 → spec_MemOk_l3 m (c : Int) (w : Int) = if OFit m (w * 3 + c) then some (.next ((w + 1 : Nat) : Int)) else some (.stop (Out.ret false)) := by
          intro w hw
          have hk : w * 3 + c < m.Lists.Own.length := by rw [h2.2.1]; omega
          have e : spec_OwnAt (w : Int) (c : Int) = some ((w * 3 + c : Nat) : Int) := by
            unfold spec_OwnAt spec_OwnAt_j1
            rw [l1In_eq, l1In_eq, decide_eq_true (by omega), decide_eq_true (by omega)]
            simp only [Option.bind_some, Bool.not_true, Bool.false_eq_true, if_false]
            rw [w64_in (x := (w : Int) * 3) (by omega) (by omega), w64_in (by omega) (by omega)]; rfl
          have hlen := hsl.2 _ (List.getElem_mem hk)
          simp only [spec_MemOk_l3]
          rw [if_pos (by simp; omega), e]
          simp only [Option.bind_some, idx_nat hk]
          rw [spec_l9Listed_eq h1.1 (by omega) (by omega), slotsAt_get hk]
          have em : (w * 3 + c) % 3 = c := by omega
          have ho : OFit m (w * 3 + c) ↔ FitsL m.Heap (slotsAt m.Lists.Own (w * 3 + c)) (c : Int) := by unfold OFit; rw [em]
          rw [w64_in (by omega) (by omega)]
          by_cases q : OFit m (w * 3 + c)
          · rw [if_pos q, decide_eq_true (ho.1 q)]; rfl
          · rw [if_neg q, decide_eq_false (fun x => q (ho.2 x))]; rfl
        refine scan_all (f := spec_MemOk_l3 m (c : Int)) 3 (fun k => (k : Int)) (fun w => OFit m (w * 3 + c)) _ _ (fun k hk hx => ?_) (fun k hk hx => ?_) ?_
        · rw [hst k hk, if_pos hx]
        · rw [hst k hk, if_neg hx]
        · rfl
      have k2 : loop (spec_MemOk_l2 m) 0 = some (if ∀ k, k < 3 → GFit m k ∧ ∀ w, w < 3 → OFit m (w * 3 + k) then Out.brk () else Out.ret false) := by
        have hst : ∀ c : Nat, c < 3 → spec_MemOk_l2 m (c : Int) = if GFit m c ∧ ∀ w, w < 3 → OFit m (w * 3 + c) then some (.next ((c + 1 : Nat) : Int)) else some (.stop (Out.ret false)) := by
          intro c hc
          have hk : c < m.Lists.Global.length := by rw [h2.1]; omega
          have hlen := hsl.1 _ (List.getElem_mem hk)
          simp only [spec_MemOk_l2]
          rw [if_pos (by simp; omega)]
          simp only [Option.bind_some, idx_nat hk]
          rw [spec_l9Listed_eq h1.1 (by omega) (by omega), slotsAt_get hk, k3 c hc]
          by_cases q : GFit m c
          · have q' : FitsL m.Heap (slotsAt m.Lists.Global c) (c : Int) := q
            rw [decide_eq_true q']
            simp only [Option.bind_some, Bool.not_true, Bool.false_eq_true, if_false]
            by_cases q2 : ∀ w, w < 3 → OFit m (w * 3 + c)
            · rw [if_pos q2, if_pos ⟨q, q2⟩]
              simp only [spec_MemOk_m3, spec_MemOk_j3]
              rw [w64_in (by omega) (by omega)]; rfl
            · rw [if_neg q2, if_neg (fun x => q2 x.2)]; rfl
          · have q' : ¬ FitsL m.Heap (slotsAt m.Lists.Global c) (c : Int) := q
            rw [decide_eq_false q', if_neg (fun x : GFit m c ∧ _ => q x.1)]; rfl
        refine scan_all (f := spec_MemOk_l2 m) 3 (fun k => (k : Int)) (fun k => GFit m k ∧ ∀ w, w < 3 → OFit m (w * 3 + k)) _ _ (fun k hk hx => ?_) (fun k hk hx => ?_) ?_
        · rw [hst k hk, if_pos hx]
        · rw [hst k hk, if_neg hx]
        · rfl
      rw [k2]
      by_cases q : ∀ k, k < 3 → GFit m k ∧ ∀ w, w < 3 → OFit m (w * 3 + k)
      · rw [if_pos q, decide_eq_true (show MOk m from ⟨⟨h1, h2⟩, own_all.1 q⟩)]; rfl
      · rw [if_neg q, decide_eq_false (fun x : MOk m => q (own_all.2 x.2))]; rfl
    · rw [decide_eq_false (fun q : MOk m => h2 q.1.2), decide_eq_true h1, decide_eq_false h2]; rfl
  · rw [decide_eq_false (fun q : MOk m => h1 q.1.1), decide_eq_false h1]; rfl
theorem impl_MemOk_eq {m : Mem} (hb : m.Heap.Bytes.length ≤ maxLen) (hl : (allS m.Lists).length ≤ 1073741824) : impl_MemOk m = some (decide (MOk m)) := by
  unfold impl_MemOk impl_MemOk_j1
  rw [impl_HeapOk_eq hb, impl_ListsOk_eq hl]
  by_cases h1 : HOk m.Heap
  · by_cases h2 : LOk m.Lists
    · have hmx : (1073741824 : Nat) ≤ maxLen := by simp [maxLen]
      have hsl := LOk.slots h2 hl
      simp only [decide_eq_true h1, decide_eq_true h2, Option.bind_some, Bool.not_true, Bool.false_eq_true, if_false]
      have k3 : loop (impl_MemOk_l3 m) 0 = some (if ∀ k, k < 9 → OFit m k then Out.brk () else Out.ret false) := by
        have hst : ∀ w : Nat, w < 9 → impl_MemOk_l3 m (w : Int) = if OFit m w then some (.next ((w + 1 : Nat) : Int)) else some (.stop (Out.ret false)) := by
          intro w hw
          have hk : w < m.Lists.Own.length := by rw [h2.2.1]; omega
          have hlen := hsl.2 _ (List.getElem_mem hk)
          have em : Int.tmod (w : Int) 3 = ((w % 3 : Nat) : Int) := by rw [tmod_pos (by omega)]; omega
          simp only [impl_MemOk_l3]
          rw [if_pos (by simp; omega)]
          simp only [Option.bind_some, idx_nat hk, em]
          rw [impl_listFits_eq h1.1 (by omega) (by omega), slotsAt_get hk, w64_in (by omega) (by omega)]
          by_cases q : OFit m w
          · rw [if_pos q, decide_eq_true (show FitsL m.Heap (slotsAt m.Lists.Own w) ((w % 3 : Nat) : Int) from q)]; rfl
          · rw [if_neg q, decide_eq_false (show ¬ FitsL m.Heap (slotsAt m.Lists.Own w) ((w % 3 : Nat) : Int) from q)]; rfl
        refine scan_all (f := impl_MemOk_l3 m) 9 (fun k => (k : Int)) (fun w => OFit m w) _ _ (fun k hk hx => ?_) (fun k hk hx => ?_) ?_
        · rw [hst k hk, if_pos hx]
        · rw [hst k hk, if_neg hx]
        · simp [impl_MemOk_l3, h2.2.1]
      have k2 : loop (impl_MemOk_l2 m) 0 = some (if ∀ k, k < 3 → GFit m k then Out.brk () else Out.ret false) := by
        have hst : ∀ w : Nat, w < 3 → impl_MemOk_l2 m (w : Int) = if GFit m w then some (.next ((w + 1 : Nat) : Int)) else some (.stop (Out.ret false)) := by
          intro w hw
          have hk : w < m.Lists.Global.length := by rw [h2.1]; omega
          have hlen := hsl.1 _ (List.getElem_mem hk)
          simp only [impl_MemOk_l2]
          rw [if_pos (by simp; omega)]
          simp only [Option.bind_some, idx_nat hk]
          rw [impl_listFits_eq h1.1 (by omega) (by omega), slotsAt_get hk, w64_in (by omega) (by omega)]
          by_cases q : GFit m w
          · rw [if_pos q, decide_eq_true (show FitsL m.Heap (slotsAt m.Lists.Global w) (w : Int) from q)]; rfl
          · rw [if_neg q, decide_eq_false (show ¬ FitsL m.Heap (slotsAt m.Lists.Global w) (w : Int) from q)]; rfl
        refine scan_all (f := impl_MemOk_l2 m) 3 (fun k => (k : Int)) (fun w => GFit m w) _ _ (fun k hk hx => ?_) (fun k hk hx => ?_) ?_
        · rw [hst k hk, if_pos hx]
        · rw [hst k hk, if_neg hx]
        · simp [impl_MemOk_l2, h2.1]
      rw [k2]
      by_cases q : ∀ k, k < 3 → GFit m k
      · rw [if_pos q]
        simp only [Option.bind_some, impl_MemOk_m2, impl_MemOk_j2]
        rw [k3]
        by_cases q2 : ∀ k, k < 9 → OFit m k
        · rw [if_pos q2, decide_eq_true (show MOk m from ⟨⟨h1, h2⟩, q, q2⟩)]; rfl
        · rw [if_neg q2, decide_eq_false (fun x : MOk m => q2 x.2.2)]; rfl
      · rw [if_neg q, decide_eq_false (fun x : MOk m => q x.2.1)]; rfl
    · rw [decide_eq_false (fun q : MOk m => h2 q.1.2), decide_eq_true h1, decide_eq_false h2]; rfl
  · rw [decide_eq_false (fun q : MOk m => h1 q.1.1), decide_eq_false h1]; rfl
end Go.Gv
end
section
set_option linter.unusedVariables false
set_option linter.unusedSimpArgs false
set_option linter.unusedSectionVars false
namespace Go.Gv
theorem flat_mem {l : List SList} {s : SList} (h : s ∈ l) : s.Slots.length ≤ (flatS l).length := by
  obtain ⟨k, hk, rfl⟩ := List.mem_iff_getElem.1 h
  exact flat_get l hk
theorem allS_len (l : Lists) : (allS l).length = (flatS l.Global).length + (flatS l.Own).length := by simp [allS]
def SmallM (m : Mem) : Prop := m.Heap.Bytes.length ≤ 1048576 ∧ m.Heap.Class.length ≤ 1048576 ∧ m.Lists.Global.length ≤ 1048576 ∧ m.Lists.Own.length ≤ 1048576 ∧ (allS m.Lists).length ≤ 1048576
theorem SmallM.slots {m : Mem} (h : SmallM m) : (∀ s ∈ m.Lists.Global, s.Slots.length ≤ 1048576) ∧ ∀ s ∈ m.Lists.Own, s.Slots.length ≤ 1048576 := by
  have := allS_len m.Lists
  have h5 := h.2.2.2.2
  exact ⟨fun s hm => by have := flat_mem hm; omega, fun s hm => by have := flat_mem hm; omega⟩
theorem eqIntS_self {l : List Int} (hl : l.length ≤ maxLen) : laws_eqIntS l l = some true := by
  unfold laws_eqIntS
  have key : loop (laws_eqIntS_l1 l l) 0 = some (Out.brk ()) := by
    refine enum_eq (f := laws_eqIntS_l1 l l) l.length (fun k => (k : Int)) _ (fun k hk => ?_) ?_
    · simp only [laws_eqIntS_l1]
      rw [if_pos (by simp; omega), idx_nat hk, w64_nat (lt_max hk hl)]
      simp
    · simp [laws_eqIntS_l1]
  simp [key, laws_eqIntS_m1, laws_eqIntS_j1]
theorem eqSListS_self {l : List SList} (hl : l.length ≤ maxLen) (hs : ∀ s ∈ l, s.Slots.length ≤ maxLen) : laws_eqSListS l l = some true := by
  unfold laws_eqSListS
  have key : loop (laws_eqSListS_l1 l l) 0 = some (Out.brk ()) := by
    refine enum_eq (f := laws_eqSListS_l1 l l) l.length (fun k => (k : Int)) _ (fun k hk => ?_) ?_
    · simp only [laws_eqSListS_l1]
      rw [if_pos (by simp; omega), idx_nat hk]
      simp only [Option.bind_some, laws_eqSList, eqIntS_self (hs _ (List.getElem_mem hk))]
      rw [w64_nat (lt_max hk hl)]; rfl
    · simp [laws_eqSListS_l1]
  simp [key, laws_eqSListS_m1, laws_eqSListS_j1]
theorem eqMem_self {m : Mem} (h : SmallM m) : laws_eqMem m m = some true := by
  have hb : (1048576 : Nat) ≤ maxLen := by simp [maxLen]
  have h1 := h.1; have h2 := h.2.1; have h3 := h.2.2.1; have h4 := h.2.2.2.1
  unfold laws_eqMem laws_eqHeap laws_eqLists
  rw [eqIntS_self (by omega), eqIntS_self (by omega), eqSListS_self (by omega) (fun s hs => Nat.le_trans (h.slots.1 s hs) hb), eqSListS_self (by omega) (fun s hs => Nat.le_trans (h.slots.2 s hs) hb)]; rfl
end Go.Gv
end
section
set_option linter.unusedVariables false
set_option linter.unusedSimpArgs false
set_option linter.unusedSectionVars false
namespace Go.Gv
theorem szIntS_eq {l : List Int} (hl : l.length ≤ maxLen) {n : Int} (h0 : 0 ≤ n) (h1 : n ≤ 1048576) : ∃ x, laws_szIntS l n = some x ∧ (¬ x < 0 → x = n - l.length ∧ 0 ≤ x) := by
  have hm : l.length ≤ 9223372036854775807 := hl
  unfold laws_szIntS
  rw [w64_in (by omega) (by omega)]
  by_cases h : n - l.length < 0
  · exact ⟨-1, by simp [h], by omega⟩
  · exact ⟨n - l.length, by simp [h], fun _ => ⟨rfl, by omega⟩⟩
theorem szSListS_eq {l : List SList} (hl : l.length ≤ maxLen) (hs : ∀ s ∈ l, s.Slots.length ≤ maxLen) {n : Int} (h0 : 0 ≤ n) (h1 : n ≤ 1048576) : ∃ x, laws_szSListS l n = some x ∧ (¬ x < 0 → x = n - (l.length + (flatS l).length : Nat) ∧ 0 ≤ x) := by
  have hm : l.length ≤ 9223372036854775807 := hl
  unfold laws_szSListS
  rw [w64_in (by omega) (by omega)]
  by_cases h : n - l.length < 0
  · exact ⟨-1, by simp [h], by omega⟩
  · have key := loop_ind (f := laws_szSListS_l1 l) (fun s => (l.length : Int).toNat - s.2.toNat) (fun s => ∃ k : Nat, s.2 = (k : Int) ∧ k ≤ l.length ∧ s.1 = n - l.length - (flatS (l.take k)).length ∧ 0 ≤ s.1) (fun o => match o with | .brk x => x = n - (l.length + (flatS l).length : Nat) ∧ 0 ≤ x | .ret x => x = -1) (by
      rintro ⟨a, b⟩ ⟨k, rfl, hk, ha, ha0⟩
      simp only at ha ha0
      by_cases hk' : k < l.length
      · have hlen := hs _ (List.getElem_mem hk')
        have hf := flat_take hk'
        have hfl : (flatS (l.take (k + 1))).length = (flatS (l.take k)).length + l[k].Slots.length := by rw [hf]; simp
        obtain ⟨x, e1, e2⟩ := szIntS_eq hlen (n := a) ha0 (by omega)
        have e3 : laws_szSList l[k] a = some (if x < 0 then -1 else x) := by
          unfold laws_szSList; rw [e1]
          by_cases q : x < 0 <;> simp [q]
        simp only [laws_szSListS_l1]
        rw [if_pos (by simp; omega), idx_nat hk']
        simp only [Option.bind_some, e3]
        by_cases q : x < 0
        · left; exact ⟨.ret (-1), by simp [q], rfl⟩
        · right
          have := e2 q
          refine ⟨(x, ((k + 1 : Nat) : Int)), ?_, ⟨k + 1, rfl, by omega, by simp only; omega, by simp only; omega⟩, by simp only; omega⟩
          rw [w64_nat (lt_max hk' hl)]
          simp [q]
      · obtain rfl : k = l.length := by omega
        left
        refine ⟨.brk a, by simp [laws_szSListS_l1], ?_⟩
        rw [List.take_length] at ha
        exact ⟨by omega, ha0⟩) (n - l.length, 0) ⟨0, rfl, Nat.zero_le _, by simp [flatS], by simp only; omega⟩
    obtain ⟨o, e1, e2⟩ := key
    rw [if_neg (by simpa using h), e1]
    cases o with
    | brk x => exact ⟨x, rfl, fun _ => e2⟩
    | ret x => exact ⟨x, rfl, fun q => absurd (show x < 0 by have : x = -1 := e2; omega) q⟩
theorem szMem_eq {m : Mem} (hf : fit m) : ∃ x, laws_szMem m 1048576 = some x ∧ (¬ x < 0 → m.Heap.Bytes.length ≤ 1048576 ∧ m.Heap.Class.length ≤ 1048576 ∧ m.Lists.Global.length ≤ 1048576 ∧ m.Lists.Own.length ≤ 1048576 ∧ (allS m.Lists).length ≤ 1048576) := by
  have f1 : m.Heap.Bytes.length ≤ maxLen := hf.1.1.1
  have f2 : m.Heap.Class.length ≤ maxLen := hf.1.2.1
  have f3 : m.Lists.Global.length ≤ maxLen := hf.2.1.1
  have f4 : m.Lists.Own.length ≤ maxLen := hf.2.2.1
  have f5 : ∀ s ∈ m.Lists.Global, s.Slots.length ≤ maxLen := fun s h => (hf.2.1.2 s h).1
  have f6 : ∀ s ∈ m.Lists.Own, s.Slots.length ≤ maxLen := fun s h => (hf.2.2.2 s h).1
  unfold laws_szMem laws_szHeap laws_szLists
  obtain ⟨x1, a1, b1⟩ := szIntS_eq f1 (n := 1048576) (by omega) (by omega)
  rw [a1]
  by_cases q1 : x1 < 0
  · exact ⟨-1, by simp [q1], fun h => absurd (by omega) h⟩
  · have b1 := b1 q1
    obtain ⟨x2, a2, b2⟩ := szIntS_eq f2 (n := x1) (by omega) (by omega)
    simp only [Option.bind_some, decide_eq_false q1, Bool.false_eq_true, if_false, a2]
    by_cases q2 : x2 < 0
    · exact ⟨-1, by simp [q2], fun h => absurd (by omega) h⟩
    · have b2 := b2 q2
      obtain ⟨x3, a3, b3⟩ := szSListS_eq f3 f5 (n := x2) (by omega) (by omega)
      simp only [Option.bind_some, decide_eq_false q2, Bool.false_eq_true, if_false, a3]
      by_cases q3 : x3 < 0
      · exact ⟨-1, by simp [q3], fun h => absurd (by omega) h⟩
      · have b3 := b3 q3
        obtain ⟨x4, a4, b4⟩ := szSListS_eq f4 f6 (n := x3) (by omega) (by omega)
        simp only [Option.bind_some, decide_eq_false q3, Bool.false_eq_true, if_false, a4]
        by_cases q4 : x4 < 0
        · exact ⟨-1, by simp [q4], fun h => absurd (by omega) h⟩
        · have b4 := b4 q4
          refine ⟨x4, by simp [q4], fun _ => ?_⟩
          have : (allS m.Lists).length = (flatS m.Lists.Global).length + (flatS m.Lists.Own).length := by simp [allS]
          omega
theorem toIntS_eq {l : List Int} (hl : l.length ≤ 1048576) : laws_toIntS l = some l := by
  unfold laws_toIntS
  rw [need_yes (by omega), Int.toNat_natCast, copy_loop l id]
  · simp [laws_toIntS_m1, laws_toIntS_j1]
  · intro acc k hk he
    simp only [laws_toIntS_l1]
    rw [if_pos (by simp; omega), idx_nat hk]
    simp only [Option.bind_some]
    rw [idx_nat (by omega)]
    simp only [Option.bind_some]
    rw [w64_in (by omega) (by omega)]
    simp
  · intro acc
    simp [laws_toIntS_l1]
theorem toSListS_eq {l : List SList} (hl : l.length ≤ 1048576) (hs : ∀ s ∈ l, s.Slots.length ≤ 1048576) : laws_toSListS l = some l := by
  unfold laws_toSListS
  rw [need_yes (by omega), Int.toNat_natCast, copy_loop l id]
  · simp [laws_toSListS_m1, laws_toSListS_j1]
  · intro acc k hk he
    simp only [laws_toSListS_l1]
    rw [if_pos (by simp; omega), idx_nat hk]
    simp only [Option.bind_some, laws_toSList, toIntS_eq (hs _ (List.getElem_mem hk))]
    rw [idx_nat (by omega)]
    simp only [Option.bind_some]
    rw [w64_in (by omega) (by omega)]
    simp
  · intro acc
    simp [laws_toSListS_l1]
theorem toMem_eq {m : Mem} (h : SmallM m) : laws_toMem m = some m := by
  unfold laws_toMem laws_toHeap laws_toLists
  rw [toIntS_eq h.1, toIntS_eq h.2.1, toSListS_eq h.2.2.1 h.slots.1, toSListS_eq h.2.2.2.1 h.slots.2]; rfl
end Go.Gv
end
section
set_option linter.unusedVariables false
set_option linter.unusedSimpArgs false
set_option linter.unusedSectionVars false
namespace Go.Gv
def POk (e : Int) (p : Pin) : Prop := (0 ≤ p.Epoch ∧ p.Epoch ≤ e) ∧ (0 ≤ p.Seen ∧ p.Seen ≤ 2) ∧ (p.On = false → p = ⟨false, 0, false, 0⟩)
instance (e : Int) (p : Pin) : Decidable (POk e p) := by unfold POk; infer_instance
def COk (c : Clock) : Prop := (0 ≤ c.Epoch ∧ c.Epoch ≤ 100000) ∧ c.Pins.length = 3 ∧ ∀ p ∈ c.Pins, POk c.Epoch p
instance (c : Clock) : Decidable (COk c) := by unfold COk; infer_instance
theorem spec_ClockOk_eq (c : Clock) : spec_ClockOk c = some (decide (COk c)) := by
  unfold spec_ClockOk
  rw [l1In_eq]
  by_cases h1 : 0 ≤ c.Epoch ∧ c.Epoch ≤ 100000
  · by_cases h2 : c.Pins.length = 3
    · simp only [Option.bind_some, h1, h2, spec_ClockOk_j1]
      have key : ∀ k : Nat, k ≤ 3 → loop (spec_ClockOk_l2 c) (k : Int) = some (if ∀ p ∈ c.Pins.drop k, POk c.Epoch p then Out.brk () else Out.ret false) := by
        refine scan_eq 3 _ fun k hk => ?_
        by_cases h3 : k < 3
        · have hd : c.Pins.drop k = c.Pins[k] :: c.Pins.drop (k + 1) := List.drop_eq_getElem_cons (by omega)
          simp only [spec_ClockOk_l2]
          rw [if_pos (by simp; omega), idx_nat (by omega)]
          simp only [Option.bind_some, l1In_eq, spec_ClockOk_j3, hd]
          rw [w64_nat (by simp [maxLen]; omega)]
          generalize c.Pins[k] = p
          have hp : POk c.Epoch p ↔ decide (0 ≤ p.Epoch ∧ p.Epoch ≤ c.Epoch) = true ∧ decide (0 ≤ p.Seen ∧ p.Seen ≤ 2) = true ∧ (p.On = false → decide (p = ⟨false, 0, false, 0⟩) = true) := by simp only [POk, decide_eq_true_eq]
          simp only [List.forall_mem_cons, hp]
          generalize decide (0 ≤ p.Epoch ∧ p.Epoch ≤ c.Epoch) = b1
          generalize decide (0 ≤ p.Seen ∧ p.Seen ≤ 2) = b2
          generalize decide (p = ⟨false, 0, false, 0⟩) = b3
          generalize p.On = b4
          cases b1 <;> cases b2 <;> cases b3 <;> cases b4 <;> simp [h3]
        · left
          obtain rfl : k = 3 := by omega
          simp [spec_ClockOk_l2, List.drop_eq_nil_of_le (show c.Pins.length ≤ 3 by omega)]
      have := key 0 (by omega)
      simp only [Int.ofNat_zero, List.drop_zero] at this
      have e : decide (COk c) = if ∀ p ∈ c.Pins, POk c.Epoch p then true else false := by
        have : COk c ↔ ∀ p ∈ c.Pins, POk c.Epoch p := ⟨fun h => h.2.2, fun h => ⟨h1, h2, h⟩⟩
        simp [this]
      rw [e]
      simp only [Int.cast_ofNat_Int] at *
      have t0 : loop (spec_ClockOk_l2 c) 0 = _ := this
      by_cases h5 : ∀ p ∈ c.Pins, POk c.Epoch p
      · rw [if_pos h5] at t0 ⊢; rw [t0]; simp [spec_ClockOk_m2, spec_ClockOk_j2]
      · rw [if_neg h5] at t0 ⊢; rw [t0]; simp [spec_ClockOk_m2]
    · simp [h1, h2, spec_ClockOk_j1, COk]
      omega
  · simp [h1, spec_ClockOk_j1, COk]
theorem impl_pin_eq (p : Pin) (c : Clock) : impl_ClockOk_1 p c = some (!decide (POk c.Epoch p)) := by
  unfold impl_ClockOk_1 impl_ClockOk_1_j1
  rw [within_eq, within_eq]
  have hp : decide (POk c.Epoch p) = (decide (0 ≤ p.Epoch ∧ p.Epoch ≤ c.Epoch) && (decide (0 ≤ p.Seen ∧ p.Seen ≤ 2) && (p.On || decide (p = ⟨false, 0, false, 0⟩)))) := by
    rw [Bool.eq_iff_iff]; simp only [POk, decide_eq_true_eq, Bool.and_eq_true, Bool.or_eq_true]
    by_cases h : p.On = true
    · simp [h]
    · simp [(by simpa using h : p.On = false)]
  rw [hp]
  generalize decide (0 ≤ p.Epoch ∧ p.Epoch ≤ c.Epoch) = b1
  generalize decide (0 ≤ p.Seen ∧ p.Seen ≤ 2) = b2
  generalize decide (p = ⟨false, 0, false, 0⟩) = b3
  generalize p.On = b4
  cases b1 <;> cases b2 <;> cases b3 <;> cases b4 <;> rfl
theorem contains_Pin {l : List Pin} (hl : l.length ≤ maxLen) (f : Pin → Bool) : slices_ContainsFunc_Pin l (fun x => some (f x)) = some (l.any f) := by
  unfold slices_ContainsFunc_Pin slices_IndexFunc_Pin
  have key : ∀ k : Nat, k ≤ l.length → loop (slices_IndexFunc_Pin_l1 l (fun x => some (f x))) (k : Int) = some (if (l.drop k).any f then Out.ret ((k + (l.drop k).findIdx f : Nat) : Int) else Out.brk ()) := by
    refine scan_eq l.length _ fun k hk => ?_
    by_cases h3 : k < l.length
    · have hd : l.drop k = l[k] :: l.drop (k + 1) := List.drop_eq_getElem_cons h3
      simp only [slices_IndexFunc_Pin_l1]
      rw [if_pos (by simp; omega), idx_nat h3, w64_nat (lt_max h3 hl), hd]
      simp only [Option.bind_some, List.any_cons, List.findIdx_cons]
      by_cases h4 : f l[k] = true
      · left; simp [h4]
      · right
        have h4 : f l[k] = false := by simpa using h4
        refine ⟨h3, by simp [h4], ?_⟩
        simp only [h4, Bool.false_or, cond_false]
        congr 2; omega
    · left
      obtain rfl : k = l.length := by omega
      simp [slices_IndexFunc_Pin_l1]
  have t0 : loop (slices_IndexFunc_Pin_l1 l (fun x => some (f x))) 0 = _ := key 0 (by omega)
  rw [t0]
  simp only [List.drop_zero]
  by_cases h : l.any f = true
  · simp [h, slices_IndexFunc_Pin_m1]
  · have h : l.any f = false := by simpa using h
    simp [h, slices_IndexFunc_Pin_m1, slices_IndexFunc_Pin_j1]
theorem impl_ClockOk_eq {c : Clock} (hc : c.Pins.length ≤ maxLen) : impl_ClockOk c = some (decide (COk c)) := by
  unfold impl_ClockOk impl_ClockOk_j1
  rw [within_eq]
  have e : (fun y0 => impl_ClockOk_1 y0 c) = fun y0 => some (!decide (POk c.Epoch y0)) := funext fun y => impl_pin_eq y c
  rw [e, contains_Pin hc]
  by_cases h1 : 0 ≤ c.Epoch ∧ c.Epoch ≤ 100000
  · by_cases h2 : c.Pins.length = 3
    · have : COk c ↔ ∀ p ∈ c.Pins, POk c.Epoch p := ⟨fun h => h.2.2, fun h => ⟨h1, h2, h⟩⟩
      have e2 : (c.Pins.any fun y0 => !decide (POk c.Epoch y0)) = !decide (∀ p ∈ c.Pins, POk c.Epoch p) := by
        rw [Bool.eq_iff_iff]; simp
      simp [h1, h2, this, e2]
    · have : ¬ (c.Pins.length : Int) = 3 := by omega
      simp [h1, this, h2, COk]
  · simp [h1, COk]
end Go.Gv
end
section
set_option linter.unusedVariables false
set_option linter.unusedSimpArgs false
set_option linter.unusedSectionVars false
namespace Go.Gv
theorem eqPin_eq (a b : Pin) : laws_eqPin a b = some (decide (a = b)) := by
  obtain ⟨a1, a2, a3, a4⟩ := a
  obtain ⟨b1, b2, b3, b4⟩ := b
  simp only [laws_eqPin, Pin.mk.injEq]
  by_cases h1 : a1 = b1 <;> by_cases h2 : a2 = b2 <;> by_cases h3 : a3 = b3 <;> by_cases h4 : a4 = b4 <;> simp [h1, h2, h3, h4]
theorem eqPinS_self {l : List Pin} (hl : l.length ≤ maxLen) : laws_eqPinS l l = some true := by
  unfold laws_eqPinS
  have key : ∀ k : Nat, k ≤ l.length → loop (laws_eqPinS_l1 l l) (k : Int) = some (Out.brk ()) := by
    refine scan_eq l.length _ fun k hk => ?_
    by_cases h3 : k < l.length
    · right
      simp only [laws_eqPinS_l1]
      rw [if_pos (by simp; omega), idx_nat h3, w64_nat (lt_max h3 hl)]
      simp [eqPin_eq, h3]
    · left
      obtain rfl : k = l.length := by omega
      simp [laws_eqPinS_l1]
  have t0 : loop (laws_eqPinS_l1 l l) 0 = _ := key 0 (by omega)
  simp [t0, laws_eqPinS_m1, laws_eqPinS_j1]
theorem eqClock_self {c : Clock} (hl : c.Pins.length ≤ maxLen) : laws_eqClock c c = some true := by
  unfold laws_eqClock
  simp [eqPinS_self hl]
end Go.Gv
end
section
set_option linter.unusedVariables false
set_option linter.unusedSimpArgs false
set_option linter.unusedSectionVars false
namespace Go.Gv
theorem szPinS_eq (l : List Pin) (n : Int) : laws_szPinS l n = some (if w64 (n - l.length) < 0 then -1 else w64 (n - l.length)) := by
  unfold laws_szPinS
  by_cases h : w64 (n - l.length) < 0 <;> simp [h]
theorem toPinS_eq {l : List Pin} (hl : l.length ≤ 1048576) : laws_toPinS l = some l := by
  unfold laws_toPinS
  rw [need_yes (by omega), Int.toNat_natCast, copy_loop l id]
  · simp [laws_toPinS_m1, laws_toPinS_j1]
  · intro acc k hk he
    simp only [laws_toPinS_l1]
    rw [if_pos (by simp; omega), idx_nat hk]
    simp only [Option.bind_some, laws_toPin]
    rw [idx_nat (by omega)]
    simp only [Option.bind_some]
    rw [w64_nat (by simp [maxLen]; omega)]
    simp
  · intro acc
    simp [laws_toPinS_l1]
theorem toClock_eq {c : Clock} (h : c.Pins.length ≤ 1048576) : laws_toClock c = some c := by
  unfold laws_toClock; rw [toPinS_eq h]; rfl
end Go.Gv
end
