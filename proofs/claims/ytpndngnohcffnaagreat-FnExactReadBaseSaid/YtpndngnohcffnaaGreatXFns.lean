import Derived.Test.YtpndngnohcffnaaGreatXTypes
set_option linter.unusedVariables false
namespace Go.Gv
noncomputable def spec_l1In_j1 (x1 : Bool) : Option Bool :=
  some x1

noncomputable def spec_l1In (x : Int) (low : Int) (high : Int) : Option Bool :=
  (if decide (low ≤ x) then spec_l1In_j1 (decide (x ≤ high)) else spec_l1In_j1 false)

noncomputable def spec_Var_j1 (x6 : Int) (x7 : List UInt8) : Option ((List UInt8)) :=
  need (x7.length + ([u8 x6]).length ≤ 1073741824) (some (x7 ++ ([u8 x6])))

noncomputable def spec_Var_l1  : (Int × (List UInt8)) → Option (Step (Int × (List UInt8)) (Int × (List UInt8)))
  | (x4, x5) => (if decide (128 ≤ x4) then need (x5.length + ([u8 (w64 (128 + (Int.tmod x4 128)))]).length ≤ 1073741824) (some (.next ((w64 (Int.tdiv x4 128), x5 ++ ([u8 (w64 (128 + (Int.tmod x4 128)))]))))) else some (.stop ((x4, x5))))

noncomputable def spec_Var_m1  : (Int × (List UInt8)) → Option ((List UInt8))
  | (x6, x7) => spec_Var_j1 x6 x7

noncomputable def spec_Var (n : Int) : Option ((List UInt8)) :=
  (spec_l1In n 0 562949953421311).bind fun x1 => (if !x1 then some ([]) else (loop (spec_Var_l1) ((n, []))).bind (spec_Var_m1))

noncomputable def spec_ReadVar_j1  : Option (Int × Int) :=
  some ((0, 0))

noncomputable def spec_ReadVar_j3 (s : List UInt8) (x2 : Int) (x8 : Int) : Option (Step Int (Out Unit (Int × Int))) :=
  need (0 ≤ (x2 : Int) ∧ (x2 : Int) ≤ (s.length : Int)) ((spec_Var x8).bind fun x9 => (if x9 == (s.take (x2.toNat)) then some (.stop (Out.ret ((x8, x2)))) else some (.next (w64 (x2 + 1)))))

noncomputable def spec_ReadVar_l3 (s : List UInt8) : (Int × Int) → Option (Step (Int × Int) Int)
  | (x6, x7) => (if decide (0 ≤ x7) then (idx s x7).bind fun x10 => some (.next ((w64 ((w64 (x6 * 128)) + (Int.tmod ((x10.toNat : Int)) 128)), w64 (x7 - 1)))) else some (.stop (x6)))

noncomputable def spec_ReadVar_m3 (s : List UInt8) (x2 : Int) : Int → Option (Step Int (Out Unit (Int × Int)))
  | x8 => spec_ReadVar_j3 s x2 x8

noncomputable def spec_ReadVar_j2 (s : List UInt8) (x2 : Int) (x3 : Bool) : Option (Step Int (Out Unit (Int × Int))) :=
  (if x3 then (loop (spec_ReadVar_l3 s) ((0, w64 (x2 - 1)))).bind (spec_ReadVar_m3 s x2) else some (.stop (Out.brk (()))))

noncomputable def spec_ReadVar_l1 (s : List UInt8) : Int → Option (Step Int (Out Unit (Int × Int)))
  | x2 => (if decide (x2 ≤ 7) then spec_ReadVar_j2 s x2 (decide (x2 ≤ ((s.length : Int)))) else spec_ReadVar_j2 s x2 false)

noncomputable def spec_ReadVar_m1  : (Out Unit (Int × Int)) → Option (Int × Int)
  | .brk (()) => spec_ReadVar_j1
  | .ret r => some r

noncomputable def spec_ReadVar (s : List UInt8) : Option (Int × Int) :=
  (loop (spec_ReadVar_l1 s) 1).bind (spec_ReadVar_m1)

noncomputable def spec_l30Num (s : List UInt8) (at_ : Int) : Option (Int × Int) :=
  (if decide (at_ < 0) then some ((0, (-1))) else need (0 ≤ (at_ : Int) ∧ (at_ : Int) ≤ (s.length : Int)) ((spec_ReadVar (s.drop (at_.toNat))).bind fun x1 => (if x1.2 == 0 then some ((0, (-1))) else some ((x1.1, w64 (at_ + x1.2))))))

noncomputable def spec_l30Lists_j1 (x7 : Int) (x8 : List SList) : Option ((List SList) × Int) :=
  some ((x8, x7))

noncomputable def spec_l30Lists_j2 (x5 : List SList) (x6 : Int) (x16 : Int) (x17 : List Int) : Option (Step (Int × (List SList) × Int) (Int × (List SList))) :=
  need (x5.length + ([(⟨x17⟩ : SList)]).length ≤ 1073741824) (some (.next ((x16, x5 ++ ([(⟨x17⟩ : SList)]), w64 (x6 + 1)))))

noncomputable def spec_l30Lists_j3 (s : List UInt8) (x13 : Int) (x14 : Int) (x15 : List Int) (x18 : Bool) : Option (Step (Int × Int × (List Int)) (Int × (List Int))) :=
  (if x18 then (spec_l30Num s x13).bind fun x19 => need (x15.length + ([x19.1]).length ≤ 1073741824) (some (.next ((x19.2, w64 (x14 + 1), x15 ++ ([x19.1]))))) else some (.stop ((x13, x15))))

noncomputable def spec_l30Lists_l2 (s : List UInt8) (x9 : Int × Int) : (Int × Int × (List Int)) → Option (Step (Int × Int × (List Int)) (Int × (List Int)))
  | (x13, x14, x15) => (if decide (x14 < x9.1) then spec_l30Lists_j3 s x13 x14 x15 (decide (x14 < 24)) else spec_l30Lists_j3 s x13 x14 x15 false)

noncomputable def spec_l30Lists_m2 (x5 : List SList) (x6 : Int) : (Int × (List Int)) → Option (Step (Int × (List SList) × Int) (Int × (List SList)))
  | (x16, x17) => spec_l30Lists_j2 x5 x6 x16 x17

noncomputable def spec_l30Lists_l1 (s : List UInt8) (n : Int) : (Int × (List SList) × Int) → Option (Step (Int × (List SList) × Int) (Int × (List SList)))
  | (x4, x5, x6) => (if decide (x6 < n) then (spec_l30Num s x4).bind fun x9 => (loop (spec_l30Lists_l2 s x9) ((x9.2, 0, []))).bind (spec_l30Lists_m2 x5 x6) else some (.stop ((x4, x5))))

noncomputable def spec_l30Lists_m1  : (Int × (List SList)) → Option ((List SList) × Int)
  | (x7, x8) => spec_l30Lists_j1 x7 x8

noncomputable def spec_l30Lists (s : List UInt8) (at_ : Int) (n : Int) : Option ((List SList) × Int) :=
  (loop (spec_l30Lists_l1 s n) ((at_, [], 0))).bind (spec_l30Lists_m1)

noncomputable def spec_l30Mem_j2 (s : List UInt8) (x5 : List Int) (x10 : List Int) : Option (Mem × Int) :=
  (spec_l30Lists s 390 3).bind fun x11 => (spec_l30Lists s x11.2 9).bind fun x12 => some (((⟨(⟨x5, x10⟩ : Heap), (⟨x11.1, x12.1⟩ : Lists)⟩ : Mem), x12.2))

noncomputable def spec_l30Mem_j3 (x8 : Int) (x13 : List Int) : Option (Step (Int × (List Int)) ((List Int))) :=
  some (.next ((w64 (x8 + 1), x13)))

noncomputable def spec_l30Mem_l2 (s : List UInt8) : (Int × (List Int)) → Option (Step (Int × (List Int)) ((List Int)))
  | (x8, x9) => (if decide (x8 < 6) then (idx s (w64 (384 + x8))).bind fun x14 => need (x9.length + ([w64 (((x14.toNat : Int)) - 1)]).length ≤ 1073741824) <| spec_l30Mem_j3 x8 (x9 ++ ([w64 (((x14.toNat : Int)) - 1)])) else some (.stop (x9)))

noncomputable def spec_l30Mem_m2 (s : List UInt8) (x5 : List Int) : ((List Int)) → Option (Mem × Int)
  | x10 => spec_l30Mem_j2 s x5 x10

noncomputable def spec_l30Mem_j1 (s : List UInt8) (x5 : List Int) : Option (Mem × Int) :=
  (loop (spec_l30Mem_l2 s) ((0, []))).bind (spec_l30Mem_m2 s x5)

noncomputable def spec_l30Mem_j4 (x3 : Int) (x15 : List Int) : Option (Step (Int × (List Int)) ((List Int))) :=
  some (.next ((w64 (x3 + 1), x15)))

noncomputable def spec_l30Mem_l1 (s : List UInt8) : (Int × (List Int)) → Option (Step (Int × (List Int)) ((List Int)))
  | (x3, x4) => (if decide (x3 < 384) then (idx s x3).bind fun x16 => need (x4.length + ([(x16.toNat : Int)]).length ≤ 1073741824) <| spec_l30Mem_j4 x3 (x4 ++ ([(x16.toNat : Int)])) else some (.stop (x4)))

noncomputable def spec_l30Mem_m1 (s : List UInt8) : ((List Int)) → Option (Mem × Int)
  | x5 => spec_l30Mem_j1 s x5

noncomputable def spec_l30Mem (s : List UInt8) : Option (Mem × Int) :=
  (if decide (((s.length : Int)) < 390) then some (((⟨(⟨[], []⟩ : Heap), (⟨[], []⟩ : Lists)⟩ : Mem), (-1))) else (loop (spec_l30Mem_l1 s) ((0, []))).bind (spec_l30Mem_m1 s))

noncomputable def spec_l30Pin (s : List UInt8) (at_ : Int) : Option (Pin × Int) :=
  (spec_l30Num s at_).bind fun x1 => (spec_l30Num s x1.2).bind fun x2 => (spec_l30Num s x2.2).bind fun x3 => (spec_l30Num s x3.2).bind fun x4 => some (((⟨x1.1 == 1, x2.1, x3.1 == 1, x4.1⟩ : Pin), x4.2))

noncomputable def spec_l30Rows_j1 (x8 : Int) (x9 : List LRow) : Option (LList × Int) :=
  some (((⟨x9⟩ : LList), x8))

noncomputable def spec_l30Rows_j2 (s : List UInt8) (x5 : Int) (x6 : Int) (x7 : List LRow) (x10 : Bool) : Option (Step (Int × Int × (List LRow)) (Int × (List LRow))) :=
  (if x10 then (spec_l30Num s x5).bind fun x11 => (spec_l30Num s x11.2).bind fun x12 => need (x7.length + ([(⟨x11.1, x12.1⟩ : LRow)]).length ≤ 1073741824) (some (.next ((x12.2, w64 (x6 + 1), x7 ++ ([(⟨x11.1, x12.1⟩ : LRow)]))))) else some (.stop ((x5, x7))))

noncomputable def spec_l30Rows_l1 (s : List UInt8) (x1 : Int × Int) : (Int × Int × (List LRow)) → Option (Step (Int × Int × (List LRow)) (Int × (List LRow)))
  | (x5, x6, x7) => (if decide (x6 < x1.1) then spec_l30Rows_j2 s x5 x6 x7 (decide (x6 < 24)) else spec_l30Rows_j2 s x5 x6 x7 false)

noncomputable def spec_l30Rows_m1  : (Int × (List LRow)) → Option (LList × Int)
  | (x8, x9) => spec_l30Rows_j1 x8 x9

noncomputable def spec_l30Rows (s : List UInt8) (at_ : Int) : Option (LList × Int) :=
  (spec_l30Num s at_).bind fun x1 => (loop (spec_l30Rows_l1 s x1) ((x1.2, 0, []))).bind (spec_l30Rows_m1)

noncomputable def spec_BytesOk_j1 (b : List Int) : Option Bool :=
  some (decide (((b.length : Int)) ≤ 1000))

noncomputable def spec_BytesOk_l1 (b : List Int) : Int → Option (Step Int (Out Unit Bool))
  | x2 => (if decide (x2 < ((b.length : Int))) then (idx b x2).bind fun x3 => (spec_l1In x3 0 255).bind fun x4 => (if !x4 then some (.stop (Out.ret false)) else some (.next (w64 (x2 + 1)))) else some (.stop (Out.brk (()))))

noncomputable def spec_BytesOk_m1 (b : List Int) : (Out Unit Bool) → Option Bool
  | .brk (()) => spec_BytesOk_j1 b
  | .ret r => some r

noncomputable def spec_BytesOk (b : List Int) : Option Bool :=
  (loop (spec_BytesOk_l1 b) 0).bind (spec_BytesOk_m1 b)

noncomputable def spec_l7Shape_j2  : Option Bool :=
  some true

noncomputable def spec_l7Shape_l2 (h : Heap) : Int → Option (Step Int (Out Unit Bool))
  | x3 => (if decide (x3 < 6) then (idx h.Class x3).bind fun x4 => (spec_l1In x4 ((-1)) 2).bind fun x5 => (if !x5 then some (.stop (Out.ret false)) else some (.next (w64 (x3 + 1)))) else some (.stop (Out.brk (()))))

noncomputable def spec_l7Shape_m2  : (Out Unit Bool) → Option Bool
  | .brk (()) => spec_l7Shape_j2
  | .ret r => some r

noncomputable def spec_l7Shape_j1 (h : Heap) (x1 : Bool) : Option Bool :=
  (if x1 then some false else (loop (spec_l7Shape_l2 h) 0).bind (spec_l7Shape_m2))

noncomputable def spec_l7Shape (h : Heap) : Option Bool :=
  (if ((h.Bytes.length : Int)) != 384 then spec_l7Shape_j1 h true else (if ((h.Class.length : Int)) != 6 then spec_l7Shape_j1 h true else (spec_BytesOk h.Bytes).bind fun x6 => spec_l7Shape_j1 h (!x6)))

noncomputable def spec_SizeOf (c : Int) : Option Int :=
  (if c == 0 then some 8 else (if c == 1 then some 16 else (if c == 2 then some 40 else some 0)))

noncomputable def spec_StrideOf (c : Int) : Option Int :=
  (spec_l1In c 0 2).bind fun x1 => (if !x1 then some 0 else (spec_SizeOf c).bind fun x2 => some (w64 (4 + x2)))

noncomputable def spec_PerPage (c : Int) : Option Int :=
  (spec_l1In c 0 2).bind fun x1 => (if !x1 then some 0 else (spec_StrideOf c).bind fun x2 => need (x2 ≠ 0) (some (w64 (Int.tdiv 56 x2))))

noncomputable def spec_SlotAt_j1 (page : Int) (index : Int) (x1 : Bool) : Option Int :=
  (if x1 then some ((-1)) else some (w64 ((w64 (page * 4)) + index)))

noncomputable def spec_SlotAt (page : Int) (index : Int) : Option Int :=
  (spec_l1In page 0 5).bind fun x2 => (if !x2 then spec_SlotAt_j1 page index true else (spec_l1In index 0 3).bind fun x3 => spec_SlotAt_j1 page index (!x3))

noncomputable def spec_PageOf (slot : Int) : Option Int :=
  (spec_l1In slot 0 23).bind fun x1 => (if !x1 then some ((-1)) else some (w64 (Int.tdiv slot 4)))

noncomputable def spec_IndexOf (slot : Int) : Option Int :=
  (spec_l1In slot 0 23).bind fun x1 => (if !x1 then some ((-1)) else some (Int.tmod slot 4))

noncomputable def spec_GenAt_j1 (slot : Int) (c : Int) (x1 : Bool) : Option Int :=
  (if x1 then some ((-1)) else (spec_PageOf slot).bind fun x2 => (spec_IndexOf slot).bind fun x3 => (spec_StrideOf c).bind fun x4 => some (w64 ((w64 ((w64 (x2 * 64)) + 8)) + (w64 (x3 * x4)))))

noncomputable def spec_GenAt (slot : Int) (c : Int) : Option Int :=
  (spec_PageOf slot).bind fun x5 => (if decide (x5 < 0) then spec_GenAt_j1 slot c true else (spec_IndexOf slot).bind fun x6 => (spec_PerPage c).bind fun x7 => (spec_l1In x6 0 (w64 (x7 - 1))).bind fun x8 => spec_GenAt_j1 slot c (!x8))

noncomputable def spec_l3Load_j1 (x5 : Int) : Option Int :=
  some x5

noncomputable def spec_l3Load_l1 (b : List Int) (at_ : Int) (width : Int) : (Int × Int) → Option (Step (Int × Int) Int)
  | (x3, x4) => (if decide (x4 < width) then (idx b (w64 (at_ + x4))).bind fun x6 => some (.next ((w64 ((w64 (x3 * 256)) + x6), w64 (x4 + 1)))) else some (.stop (x3)))

noncomputable def spec_l3Load_m1  : Int → Option Int
  | x5 => spec_l3Load_j1 x5

noncomputable def spec_l3Load (b : List Int) (at_ : Int) (width : Int) : Option Int :=
  (loop (spec_l3Load_l1 b at_ width) ((0, 0))).bind (spec_l3Load_m1)

noncomputable def spec_l7Page_j1  : Option Bool :=
  some true

noncomputable def spec_l7Page_l1 (h : Heap) (p : Int) : Int → Option (Step Int (Out Unit Bool))
  | x3 => (if decide (x3 < (w64 ((w64 (p * 64)) + 64))) then (idx h.Bytes x3).bind fun x4 => (if x4 != 0 then some (.stop (Out.ret false)) else some (.next (w64 (x3 + 1)))) else some (.stop (Out.brk (()))))

noncomputable def spec_l7Page_m1  : (Out Unit Bool) → Option Bool
  | .brk (()) => spec_l7Page_j1
  | .ret r => some r

noncomputable def spec_l7Page_j4  : Option Bool :=
  some true

noncomputable def spec_l7Page_l4 (h : Heap) (p : Int) (x1 : Int) : Int → Option (Step Int (Out Unit Bool))
  | x9 => (spec_PerPage x1).bind fun x10 => (if decide (x9 < x10) then (spec_SlotAt p x9).bind fun x11 => (spec_GenAt x11 x1).bind fun x12 => (spec_l3Load h.Bytes x12 4).bind fun x13 => (spec_l1In x13 1 7).bind fun x14 => (if !x14 then some (.stop (Out.ret false)) else some (.next (w64 (x9 + 1)))) else some (.stop (Out.brk (()))))

noncomputable def spec_l7Page_m4  : (Out Unit Bool) → Option Bool
  | .brk (()) => spec_l7Page_j4
  | .ret r => some r

noncomputable def spec_l7Page_j3 (h : Heap) (p : Int) (x1 : Int) : Option Bool :=
  (loop (spec_l7Page_l4 h p x1) 0).bind (spec_l7Page_m4)

noncomputable def spec_l7Page_l3 (h : Heap) (p : Int) : Int → Option (Step Int (Out Unit Bool))
  | x7 => (if decide (x7 < (w64 ((w64 (p * 64)) + 8))) then (idx h.Bytes x7).bind fun x15 => (if x15 != 0 then some (.stop (Out.ret false)) else some (.next (w64 (x7 + 1)))) else some (.stop (Out.brk (()))))

noncomputable def spec_l7Page_m3 (h : Heap) (p : Int) (x1 : Int) : (Out Unit Bool) → Option Bool
  | .brk (()) => spec_l7Page_j3 h p x1
  | .ret r => some r

noncomputable def spec_l7Page_j2 (h : Heap) (p : Int) (x1 : Int) (x5 : Bool) : Option Bool :=
  (if x5 then some false else (loop (spec_l7Page_l3 h p) (w64 ((w64 (p * 64)) + 3))).bind (spec_l7Page_m3 h p x1))

noncomputable def spec_l7Page (h : Heap) (p : Int) : Option Bool :=
  (idx h.Class p).bind fun x1 => (if decide (x1 < 0) then (loop (spec_l7Page_l1 h p) (w64 (p * 64))).bind (spec_l7Page_m1) else (idx h.Bytes (w64 (p * 64))).bind fun x16 => (if x16 != 171 then spec_l7Page_j2 h p x1 true else (idx h.Bytes (w64 ((w64 (p * 64)) + 1))).bind fun x17 => (if x17 != x1 then spec_l7Page_j2 h p x1 true else (idx h.Bytes (w64 ((w64 (p * 64)) + 2))).bind fun x18 => (spec_PerPage x1).bind fun x19 => spec_l7Page_j2 h p x1 (x18 != x19))))

noncomputable def spec_HeapOk_j1  : Option Bool :=
  some true

noncomputable def spec_HeapOk_l1 (h : Heap) : Int → Option (Step Int (Out Unit Bool))
  | x3 => (if decide (x3 < 6) then (spec_l7Page h x3).bind fun x4 => (if !x4 then some (.stop (Out.ret false)) else some (.next (w64 (x3 + 1)))) else some (.stop (Out.brk (()))))

noncomputable def spec_HeapOk_m1  : (Out Unit Bool) → Option Bool
  | .brk (()) => spec_HeapOk_j1
  | .ret r => some r

noncomputable def spec_HeapOk (h : Heap) : Option Bool :=
  (spec_l7Shape h).bind fun x1 => (if !x1 then some false else (loop (spec_HeapOk_l1 h) 0).bind (spec_HeapOk_m1))

noncomputable def spec_l8All_j2 (x10 : List Int) : Option ((List Int)) :=
  some x10

noncomputable def spec_l8All_l2 (l : Lists) : ((List Int) × Int) → Option (Step ((List Int) × Int) ((List Int)))
  | (x8, x9) => (if decide (x9 < ((l.Own.length : Int))) then (idx l.Own x9).bind fun x11 => need (x8.length + x11.Slots.length ≤ 1073741824) (some (.next ((x8 ++ x11.Slots, w64 (x9 + 1))))) else some (.stop (x8)))

noncomputable def spec_l8All_m2  : ((List Int)) → Option ((List Int))
  | x10 => spec_l8All_j2 x10

noncomputable def spec_l8All_j1 (l : Lists) (x5 : List Int) : Option ((List Int)) :=
  (loop (spec_l8All_l2 l) ((x5, 0))).bind (spec_l8All_m2)

noncomputable def spec_l8All_l1 (l : Lists) : ((List Int) × Int) → Option (Step ((List Int) × Int) ((List Int)))
  | (x3, x4) => (if decide (x4 < ((l.Global.length : Int))) then (idx l.Global x4).bind fun x12 => need (x3.length + x12.Slots.length ≤ 1073741824) (some (.next ((x3 ++ x12.Slots, w64 (x4 + 1))))) else some (.stop (x3)))

noncomputable def spec_l8All_m1 (l : Lists) : ((List Int)) → Option ((List Int))
  | x5 => spec_l8All_j1 l x5

noncomputable def spec_l8All (l : Lists) : Option ((List Int)) :=
  (loop (spec_l8All_l1 l) (([], 0))).bind (spec_l8All_m1 l)

noncomputable def spec_l8Has_j1  : Option Bool :=
  some false

noncomputable def spec_l8Has_l1 (l : List Int) (x : Int) : Int → Option (Step Int (Out Unit Bool))
  | x2 => (if decide (x2 < ((l.length : Int))) then (idx l x2).bind fun x3 => (if x3 == x then some (.stop (Out.ret true)) else some (.next (w64 (x2 + 1)))) else some (.stop (Out.brk (()))))

noncomputable def spec_l8Has_m1  : (Out Unit Bool) → Option Bool
  | .brk (()) => spec_l8Has_j1
  | .ret r => some r

noncomputable def spec_l8Has (l : List Int) (x : Int) : Option Bool :=
  (loop (spec_l8Has_l1 l x) 0).bind (spec_l8Has_m1)

noncomputable def spec_ListsOk_j3  : Option Bool :=
  some true

noncomputable def spec_ListsOk_j4 (x6 : Int) (x7 : Bool) : Option (Step Int (Out Unit Bool)) :=
  (if x7 then some (.stop (Out.ret false)) else some (.next (w64 (x6 + 1))))

noncomputable def spec_ListsOk_l3 (x4 : (List Int)) : Int → Option (Step Int (Out Unit Bool))
  | x6 => (if decide (x6 < ((x4.length : Int))) then (idx x4 x6).bind fun x8 => (spec_l1In x8 0 23).bind fun x9 => (if !x9 then spec_ListsOk_j4 x6 true else need (0 ≤ (x6 : Int) ∧ (x6 : Int) ≤ (x4.length : Int)) ((idx x4 x6).bind fun x10 => (spec_l8Has ((x4.take x6.toNat).drop 0) x10).bind fun x11 => spec_ListsOk_j4 x6 x11)) else some (.stop (Out.brk (()))))

noncomputable def spec_ListsOk_m3  : (Out Unit Bool) → Option Bool
  | .brk (()) => spec_ListsOk_j3
  | .ret r => some r

noncomputable def spec_ListsOk_j2 (l : Lists) : Option Bool :=
  (spec_l8All l).bind fun x4 => (loop (spec_ListsOk_l3 x4) 0).bind (spec_ListsOk_m3)

noncomputable def spec_ListsOk_l2 (l : Lists) : Int → Option (Step Int (Out Unit Bool))
  | x3 => (if decide (x3 < ((l.Own.length : Int))) then (idx l.Own x3).bind fun x12 => (if decide (2 < ((x12.Slots.length : Int))) then some (.stop (Out.ret false)) else some (.next (w64 (x3 + 1)))) else some (.stop (Out.brk (()))))

noncomputable def spec_ListsOk_m2 (l : Lists) : (Out Unit Bool) → Option Bool
  | .brk (()) => spec_ListsOk_j2 l
  | .ret r => some r

noncomputable def spec_ListsOk_j1 (l : Lists) (x1 : Bool) : Option Bool :=
  (if x1 then some false else (loop (spec_ListsOk_l2 l) 0).bind (spec_ListsOk_m2 l))

noncomputable def spec_ListsOk (l : Lists) : Option Bool :=
  (if ((l.Global.length : Int)) != 3 then spec_ListsOk_j1 l true else spec_ListsOk_j1 l (((l.Own.length : Int)) != 9))

noncomputable def spec_l7Class_j1 (h : Heap) (x1 : Int) (x2 : Bool) : Option Int :=
  (if x2 then some ((-1)) else (idx h.Class x1).bind fun x3 => some x3)

noncomputable def spec_l7Class (h : Heap) (slot : Int) : Option Int :=
  (spec_PageOf slot).bind fun x1 => (if decide (x1 < 0) then spec_l7Class_j1 h x1 true else (idx h.Class x1).bind fun x4 => (if decide (x4 < 0) then spec_l7Class_j1 h x1 true else (idx h.Class x1).bind fun x5 => (spec_IndexOf slot).bind fun x6 => (spec_PerPage x5).bind fun x7 => spec_l7Class_j1 h x1 (decide (x7 ≤ x6))))

noncomputable def spec_l7Gen (h : Heap) (slot : Int) : Option Int :=
  (spec_l7Class h slot).bind fun x1 => (spec_GenAt slot x1).bind fun x2 => (spec_l3Load h.Bytes x2 4).bind fun x3 => some x3

noncomputable def spec_l9Listed_j1  : Option Bool :=
  some true

noncomputable def spec_l9Listed_j2 (x2 : Int) (x3 : Bool) : Option (Step Int (Out Unit Bool)) :=
  (if x3 then some (.stop (Out.ret false)) else some (.next (w64 (x2 + 1))))

noncomputable def spec_l9Listed_l1 (h : Heap) (l : List Int) (c : Int) : Int → Option (Step Int (Out Unit Bool))
  | x2 => (if decide (x2 < ((l.length : Int))) then (idx l x2).bind fun x4 => (spec_l7Class h x4).bind fun x5 => (if x5 != c then spec_l9Listed_j2 x2 true else (idx l x2).bind fun x6 => (spec_l7Gen h x6).bind fun x7 => spec_l9Listed_j2 x2 (decide (6 < x7))) else some (.stop (Out.brk (()))))

noncomputable def spec_l9Listed_m1  : (Out Unit Bool) → Option Bool
  | .brk (()) => spec_l9Listed_j1
  | .ret r => some r

noncomputable def spec_l9Listed (h : Heap) (l : List Int) (c : Int) : Option Bool :=
  (loop (spec_l9Listed_l1 h l c) 0).bind (spec_l9Listed_m1)

noncomputable def spec_OwnAt_j1 (w_ : Int) (c : Int) (x1 : Bool) : Option Int :=
  (if x1 then some ((-1)) else some (w64 ((w64 (w_ * 3)) + c)))

noncomputable def spec_OwnAt (w_ : Int) (c : Int) : Option Int :=
  (spec_l1In w_ 0 2).bind fun x2 => (if !x2 then spec_OwnAt_j1 w_ c true else (spec_l1In c 0 2).bind fun x3 => spec_OwnAt_j1 w_ c (!x3))

noncomputable def spec_MemOk_j2  : Option Bool :=
  some true

noncomputable def spec_MemOk_j3 (x3 : Int) : Option (Step Int (Out Unit Bool)) :=
  some (.next (w64 (x3 + 1)))

noncomputable def spec_MemOk_l3 (m : Mem) (x3 : Int) : Int → Option (Step Int (Out Unit Bool))
  | x7 => (if decide (x7 < 3) then (spec_OwnAt x7 x3).bind fun x8 => (idx m.Lists.Own x8).bind fun x9 => (spec_l9Listed m.Heap x9.Slots x3).bind fun x10 => (if !x10 then some (.stop (Out.ret false)) else some (.next (w64 (x7 + 1)))) else some (.stop (Out.brk (()))))

noncomputable def spec_MemOk_m3 (x3 : Int) : (Out Unit Bool) → Option (Step Int (Out Unit Bool))
  | .brk (()) => spec_MemOk_j3 x3
  | .ret r => some (.stop (Out.ret r))

noncomputable def spec_MemOk_l2 (m : Mem) : Int → Option (Step Int (Out Unit Bool))
  | x3 => (if decide (x3 < 3) then (idx m.Lists.Global x3).bind fun x4 => (spec_l9Listed m.Heap x4.Slots x3).bind fun x5 => (if !x5 then some (.stop (Out.ret false)) else (loop (spec_MemOk_l3 m x3) 0).bind (spec_MemOk_m3 x3)) else some (.stop (Out.brk (()))))

noncomputable def spec_MemOk_m2  : (Out Unit Bool) → Option Bool
  | .brk (()) => spec_MemOk_j2
  | .ret r => some r

noncomputable def spec_MemOk_j1 (m : Mem) (x1 : Bool) : Option Bool :=
  (if x1 then some false else (loop (spec_MemOk_l2 m) 0).bind (spec_MemOk_m2))

noncomputable def spec_MemOk (m : Mem) : Option Bool :=
  (spec_HeapOk m.Heap).bind fun x11 => (if !x11 then spec_MemOk_j1 m true else (spec_ListsOk m.Lists).bind fun x12 => spec_MemOk_j1 m (!x12))

noncomputable def spec_ClockOk_j2  : Option Bool :=
  some true

noncomputable def spec_ClockOk_j3 (x3 : Int) (x5 : Bool) : Option (Step Int (Out Unit Bool)) :=
  (if x5 then some (.stop (Out.ret false)) else some (.next (w64 (x3 + 1))))

noncomputable def spec_ClockOk_l2 (c : Clock) : Int → Option (Step Int (Out Unit Bool))
  | x3 => (if decide (x3 < 3) then (idx c.Pins x3).bind fun x4 => (if !x4.On then (if !(decide (x4 = (⟨false, 0, false, 0⟩ : Pin))) then spec_ClockOk_j3 x3 true else (spec_l1In x4.Epoch 0 c.Epoch).bind fun x6 => (if !x6 then spec_ClockOk_j3 x3 true else (spec_l1In x4.Seen 0 2).bind fun x7 => spec_ClockOk_j3 x3 (!x7))) else (spec_l1In x4.Epoch 0 c.Epoch).bind fun x8 => (if !x8 then spec_ClockOk_j3 x3 true else (spec_l1In x4.Seen 0 2).bind fun x9 => spec_ClockOk_j3 x3 (!x9))) else some (.stop (Out.brk (()))))

noncomputable def spec_ClockOk_m2  : (Out Unit Bool) → Option Bool
  | .brk (()) => spec_ClockOk_j2
  | .ret r => some r

noncomputable def spec_ClockOk_j1 (c : Clock) (x1 : Bool) : Option Bool :=
  (if x1 then some false else (loop (spec_ClockOk_l2 c) 0).bind (spec_ClockOk_m2))

noncomputable def spec_ClockOk (c : Clock) : Option Bool :=
  (spec_l1In c.Epoch 0 100000).bind fun x10 => (if !x10 then spec_ClockOk_j1 c true else spec_ClockOk_j1 c (((c.Pins.length : Int)) != 3))

noncomputable def spec_l11All_j1 (x5 : List LRow) : Option ((List LRow)) :=
  some x5

noncomputable def spec_l11All_l1 (l : List LList) : ((List LRow) × Int) → Option (Step ((List LRow) × Int) ((List LRow)))
  | (x3, x4) => (if decide (x4 < ((l.length : Int))) then (idx l x4).bind fun x6 => need (x3.length + x6.Rows.length ≤ 1073741824) (some (.next ((x3 ++ x6.Rows, w64 (x4 + 1))))) else some (.stop (x3)))

noncomputable def spec_l11All_m1  : ((List LRow)) → Option ((List LRow))
  | x5 => spec_l11All_j1 x5

noncomputable def spec_l11All (l : List LList) : Option ((List LRow)) :=
  (loop (spec_l11All_l1 l) (([], 0))).bind (spec_l11All_m1)

noncomputable def spec_HandleOk_j1 (x1 : Bool) : Option Bool :=
  some x1

noncomputable def spec_HandleOk (h : Int) : Option Bool :=
  (spec_l1In h 32 223).bind fun x2 => (if x2 then spec_HandleOk_j1 (decide ((Int.tmod h 32) < 24)) else spec_HandleOk_j1 false)

noncomputable def spec_HandleSlot (h : Int) : Option Int :=
  (spec_HandleOk h).bind fun x1 => (if !x1 then some ((-1)) else some (Int.tmod h 32))

noncomputable def spec_LimboOk_j2  : Option Bool :=
  some true

noncomputable def spec_LimboOk_j3 (x5 : List Int) (x6 : Int) (x8 : Int) (x9 : Bool) : Option (Step ((List Int) × Int) (Out Unit Bool)) :=
  (if x9 then some (.stop (Out.ret false)) else need (x5.length + ([x8]).length ≤ 1073741824) (some (.next ((x5 ++ ([x8]), w64 (x6 + 1))))))

noncomputable def spec_LimboOk_l2 (x1 : (List LRow)) : ((List Int) × Int) → Option (Step ((List Int) × Int) (Out Unit Bool))
  | (x5, x6) => (if decide (x6 < ((x1.length : Int))) then (idx x1 x6).bind fun x7 => (spec_HandleSlot x7.Handle).bind fun x8 => (if decide (x8 < 0) then spec_LimboOk_j3 x5 x6 x8 true else (idx x1 x6).bind fun x10 => (spec_l1In x10.Epoch 0 100000).bind fun x11 => (if !x11 then spec_LimboOk_j3 x5 x6 x8 true else (spec_l8Has x5 x8).bind fun x12 => spec_LimboOk_j3 x5 x6 x8 x12)) else some (.stop (Out.brk (()))))

noncomputable def spec_LimboOk_m2  : (Out Unit Bool) → Option Bool
  | .brk (()) => spec_LimboOk_j2
  | .ret r => some r

noncomputable def spec_LimboOk_j1 (x1 : (List LRow)) (x2 : Bool) : Option Bool :=
  (if x2 then some false else (loop (spec_LimboOk_l2 x1) (([], 0))).bind (spec_LimboOk_m2))

noncomputable def spec_LimboOk (l : List LList) : Option Bool :=
  (spec_l11All l).bind fun x1 => (if ((l.length : Int)) != 3 then spec_LimboOk_j1 x1 true else spec_LimboOk_j1 x1 (decide (24 < ((x1.length : Int)))))

noncomputable def spec_HazOk_j1 (z : List Int) : Option Bool :=
  some (((z.length : Int)) == 3)

noncomputable def spec_HazOk_j2 (x2 : Int) (x3 : Bool) : Option (Step Int (Out Unit Bool)) :=
  (if x3 then some (.stop (Out.ret false)) else some (.next (w64 (x2 + 1))))

noncomputable def spec_HazOk_l1 (z : List Int) : Int → Option (Step Int (Out Unit Bool))
  | x2 => (if decide (x2 < ((z.length : Int))) then (idx z x2).bind fun x4 => (if x4 != 0 then (idx z x2).bind fun x5 => (spec_HandleOk x5).bind fun x6 => spec_HazOk_j2 x2 (!x6) else spec_HazOk_j2 x2 false) else some (.stop (Out.brk (()))))

noncomputable def spec_HazOk_m1 (z : List Int) : (Out Unit Bool) → Option Bool
  | .brk (()) => spec_HazOk_j1 z
  | .ret r => some r

noncomputable def spec_HazOk (z : List Int) : Option Bool :=
  (loop (spec_HazOk_l1 z) 0).bind (spec_HazOk_m1 z)

noncomputable def spec_OnList (l : Lists) (slot : Int) : Option Bool :=
  (spec_l8All l).bind fun x1 => (spec_l8Has x1 slot).bind fun x2 => some x2

noncomputable def spec_l9State (m : Mem) (slot : Int) : Option Int :=
  (spec_l7Class m.Heap slot).bind fun x1 => (if decide (x1 < 0) then some 0 else (spec_OnList m.Lists slot).bind fun x2 => (if x2 then some 1 else (spec_l7Gen m.Heap slot).bind fun x3 => (if decide (6 < x3) then some 2 else some 3)))

noncomputable def spec_HandleGen (h : Int) : Option Int :=
  (spec_HandleOk h).bind fun x1 => (if !x1 then some 0 else some (w64 (Int.tdiv h 32)))

noncomputable def spec_l9Valid_j1 (x1 : Bool) : Option Bool :=
  some x1

noncomputable def spec_l9Valid (m : Mem) (h : Int) : Option Bool :=
  (spec_HandleOk h).bind fun x2 => (if x2 then (spec_HandleSlot h).bind fun x3 => (spec_l9State m x3).bind fun x4 => (if x4 == 3 then (spec_HandleSlot h).bind fun x5 => (spec_l7Gen m.Heap x5).bind fun x6 => (spec_HandleGen h).bind fun x7 => spec_l9Valid_j1 (x6 == x7) else spec_l9Valid_j1 false) else spec_l9Valid_j1 false)

noncomputable def spec_BaseOk_j2  : Option Bool :=
  some true

noncomputable def spec_BaseOk_j3 (x4 : Int) (x5 : Bool) : Option (Step Int (Out Unit Bool)) :=
  (if x5 then some (.stop (Out.ret false)) else some (.next (w64 (x4 + 1))))

noncomputable def spec_BaseOk_l2 (b : Base) (x2 : (List LRow)) : Int → Option (Step Int (Out Unit Bool))
  | x4 => (if decide (x4 < ((x2.length : Int))) then (idx x2 x4).bind fun x6 => (spec_l9Valid b.Mem x6.Handle).bind fun x7 => (if !x7 then spec_BaseOk_j3 x4 true else (idx x2 x4).bind fun x8 => spec_BaseOk_j3 x4 (decide (b.Clock.Epoch < x8.Epoch))) else some (.stop (Out.brk (()))))

noncomputable def spec_BaseOk_m2  : (Out Unit Bool) → Option Bool
  | .brk (()) => spec_BaseOk_j2
  | .ret r => some r

noncomputable def spec_BaseOk_j1 (b : Base) (x1 : Bool) : Option Bool :=
  (if x1 then some false else (spec_l11All b.Limbo).bind fun x2 => (loop (spec_BaseOk_l2 b x2) 0).bind (spec_BaseOk_m2))

noncomputable def spec_BaseOk (b : Base) : Option Bool :=
  (spec_MemOk b.Mem).bind fun x9 => (if !x9 then spec_BaseOk_j1 b true else (spec_ClockOk b.Clock).bind fun x10 => (if !x10 then spec_BaseOk_j1 b true else (spec_LimboOk b.Limbo).bind fun x11 => (if !x11 then spec_BaseOk_j1 b true else (spec_HazOk b.Haz).bind fun x12 => spec_BaseOk_j1 b (!x12))))

noncomputable def spec_l30Slots_j1 (x5 : List UInt8) : Option ((List UInt8)) :=
  some x5

noncomputable def spec_l30Slots_j2 (x4 : Int) (x12 : List UInt8) : Option (Step ((List UInt8) × Int) ((List UInt8))) :=
  some (.next ((x12, w64 (x4 + 1))))

noncomputable def spec_l30Slots_l2 (l : List SList) (x4 : Int) : ((List UInt8) × Int) → Option (Step ((List UInt8) × Int) ((List UInt8)))
  | (x10, x11) => (idx l x4).bind fun x13 => (if decide (x11 < ((x13.Slots.length : Int))) then (idx l x4).bind fun x14 => (idx x14.Slots x11).bind fun x15 => (spec_Var x15).bind fun x16 => need (x10.length + x16.length ≤ 9223372036854775807) (some (.next ((x10 ++ x16, w64 (x11 + 1))))) else some (.stop (x10)))

noncomputable def spec_l30Slots_m2 (x4 : Int) : ((List UInt8)) → Option (Step ((List UInt8) × Int) ((List UInt8)))
  | x12 => spec_l30Slots_j2 x4 x12

noncomputable def spec_l30Slots_l1 (l : List SList) : ((List UInt8) × Int) → Option (Step ((List UInt8) × Int) ((List UInt8)))
  | (x3, x4) => (if decide (x4 < ((l.length : Int))) then (idx l x4).bind fun x6 => (spec_Var ((x6.Slots.length : Int))).bind fun x7 => need (x3.length + x7.length ≤ 9223372036854775807) ((loop (spec_l30Slots_l2 l x4) ((x3 ++ x7, 0))).bind (spec_l30Slots_m2 x4)) else some (.stop (x3)))

noncomputable def spec_l30Slots_m1  : ((List UInt8)) → Option ((List UInt8))
  | x5 => spec_l30Slots_j1 x5

noncomputable def spec_l30Slots (l : List SList) : Option ((List UInt8)) :=
  (loop (spec_l30Slots_l1 l) (([], 0))).bind (spec_l30Slots_m1)

noncomputable def spec_ShowMem_j2 (m : Mem) (x11 : List UInt8) : Option ((List UInt8)) :=
  (spec_l30Slots m.Lists.Global).bind fun x12 => need (x11.length + x12.length ≤ 9223372036854775807) ((spec_l30Slots m.Lists.Own).bind fun x13 => need ((x11 ++ x12).length + x13.length ≤ 9223372036854775807) (some ((x11 ++ x12) ++ x13)))

noncomputable def spec_ShowMem_l2 (m : Mem) : ((List UInt8) × Int) → Option (Step ((List UInt8) × Int) ((List UInt8)))
  | (x9, x10) => (if decide (x10 < 6) then (idx m.Heap.Class x10).bind fun x14 => need (x9.length + ([u8 (w64 (x14 + 1))]).length ≤ 1073741824) (some (.next ((x9 ++ ([u8 (w64 (x14 + 1))]), w64 (x10 + 1))))) else some (.stop (x9)))

noncomputable def spec_ShowMem_m2 (m : Mem) : ((List UInt8)) → Option ((List UInt8))
  | x11 => spec_ShowMem_j2 m x11

noncomputable def spec_ShowMem_j1 (m : Mem) (x6 : List UInt8) : Option ((List UInt8)) :=
  (loop (spec_ShowMem_l2 m) ((x6, 0))).bind (spec_ShowMem_m2 m)

noncomputable def spec_ShowMem_l1 (m : Mem) : ((List UInt8) × Int) → Option (Step ((List UInt8) × Int) ((List UInt8)))
  | (x4, x5) => (if decide (x5 < ((m.Heap.Bytes.length : Int))) then (idx m.Heap.Bytes x5).bind fun x15 => need (x4.length + ([u8 x15]).length ≤ 1073741824) (some (.next ((x4 ++ ([u8 x15]), w64 (x5 + 1))))) else some (.stop (x4)))

noncomputable def spec_ShowMem_m1 (m : Mem) : ((List UInt8)) → Option ((List UInt8))
  | x6 => spec_ShowMem_j1 m x6

noncomputable def spec_ShowMem (m : Mem) : Option ((List UInt8)) :=
  (spec_MemOk m).bind fun x1 => (if !x1 then some ([]) else (loop (spec_ShowMem_l1 m) (([], 0))).bind (spec_ShowMem_m1 m))

noncomputable def spec_l30Bool (b : Bool) : Option Int :=
  (if b then some 1 else some 0)

noncomputable def spec_ShowBase_j3 (x18 : List UInt8) : Option ((List UInt8)) :=
  some x18

noncomputable def spec_ShowBase_l3 (b : Base) : ((List UInt8) × Int) → Option (Step ((List UInt8) × Int) ((List UInt8)))
  | (x16, x17) => (if decide (x17 < 3) then (idx b.Haz x17).bind fun x19 => (spec_Var x19).bind fun x20 => need (x16.length + x20.length ≤ 9223372036854775807) (some (.next ((x16 ++ x20, w64 (x17 + 1))))) else some (.stop (x16)))

noncomputable def spec_ShowBase_m3  : ((List UInt8)) → Option ((List UInt8))
  | x18 => spec_ShowBase_j3 x18

noncomputable def spec_ShowBase_j2 (b : Base) (x13 : List UInt8) : Option ((List UInt8)) :=
  (loop (spec_ShowBase_l3 b) ((x13, 0))).bind (spec_ShowBase_m3)

noncomputable def spec_ShowBase_j4 (x12 : Int) (x27 : List UInt8) : Option (Step ((List UInt8) × Int) ((List UInt8))) :=
  some (.next ((x27, w64 (x12 + 1))))

noncomputable def spec_ShowBase_l4 (b : Base) (x12 : Int) : ((List UInt8) × Int) → Option (Step ((List UInt8) × Int) ((List UInt8)))
  | (x25, x26) => (idx b.Limbo x12).bind fun x28 => (if decide (x26 < ((x28.Rows.length : Int))) then (idx b.Limbo x12).bind fun x29 => (idx x29.Rows x26).bind fun x30 => (idx b.Limbo x12).bind fun x31 => (idx x29.Rows x26).bind fun x32 => (spec_Var x30.Handle).bind fun x33 => need (x25.length + x33.length ≤ 9223372036854775807) ((spec_Var x32.Epoch).bind fun x34 => need ((x25 ++ x33).length + x34.length ≤ 9223372036854775807) (some (.next (((x25 ++ x33) ++ x34, w64 (x26 + 1)))))) else some (.stop (x25)))

noncomputable def spec_ShowBase_m4 (x12 : Int) : ((List UInt8)) → Option (Step ((List UInt8) × Int) ((List UInt8)))
  | x27 => spec_ShowBase_j4 x12 x27

noncomputable def spec_ShowBase_l2 (b : Base) : ((List UInt8) × Int) → Option (Step ((List UInt8) × Int) ((List UInt8)))
  | (x11, x12) => (if decide (x12 < 3) then (idx b.Limbo x12).bind fun x21 => (spec_Var ((x21.Rows.length : Int))).bind fun x22 => need (x11.length + x22.length ≤ 9223372036854775807) ((loop (spec_ShowBase_l4 b x12) ((x11 ++ x22, 0))).bind (spec_ShowBase_m4 x12)) else some (.stop (x11)))

noncomputable def spec_ShowBase_m2 (b : Base) : ((List UInt8)) → Option ((List UInt8))
  | x13 => spec_ShowBase_j2 b x13

noncomputable def spec_ShowBase_j1 (b : Base) (x8 : List UInt8) : Option ((List UInt8)) :=
  (loop (spec_ShowBase_l2 b) ((x8, 0))).bind (spec_ShowBase_m2 b)

noncomputable def spec_ShowBase_l1 (b : Base) : ((List UInt8) × Int) → Option (Step ((List UInt8) × Int) ((List UInt8)))
  | (x6, x7) => (if decide (x7 < 3) then (idx b.Clock.Pins x7).bind fun x35 => (spec_l30Bool x35.On).bind fun x36 => (spec_Var x36).bind fun x37 => need (x6.length + x37.length ≤ 9223372036854775807) ((spec_Var x35.Epoch).bind fun x38 => need ((x6 ++ x37).length + x38.length ≤ 9223372036854775807) ((spec_l30Bool x35.Marked).bind fun x39 => (spec_Var x39).bind fun x40 => need (((x6 ++ x37) ++ x38).length + x40.length ≤ 9223372036854775807) ((spec_Var x35.Seen).bind fun x41 => need ((((x6 ++ x37) ++ x38) ++ x40).length + x41.length ≤ 9223372036854775807) (some (.next (((((x6 ++ x37) ++ x38) ++ x40) ++ x41, w64 (x7 + 1)))))))) else some (.stop (x6)))

noncomputable def spec_ShowBase_m1 (b : Base) : ((List UInt8)) → Option ((List UInt8))
  | x8 => spec_ShowBase_j1 b x8

noncomputable def spec_ShowBase (b : Base) : Option ((List UInt8)) :=
  (spec_BaseOk b).bind fun x1 => (if !x1 then some ([]) else (spec_ShowMem b.Mem).bind fun x2 => (spec_Var b.Clock.Epoch).bind fun x3 => need (x2.length + x3.length ≤ 9223372036854775807) ((loop (spec_ShowBase_l1 b) ((x2 ++ x3, 0))).bind (spec_ShowBase_m1 b)))

noncomputable def spec_ReadBase_j4 (x1 : Mem × Int) (x2 : Int × Int) (x10 : List Pin) (x18 : List LList) (x26 : List Int) (x27 : Bool) : Option (Base × Bool) :=
  (if x27 then some (((⟨(⟨(⟨[], []⟩ : Heap), (⟨[], []⟩ : Lists)⟩ : Mem), (⟨0, []⟩ : Clock), [], []⟩ : Base), false)) else some (((⟨x1.1, (⟨x2.1, x10⟩ : Clock), x18, x26⟩ : Base), true)))

noncomputable def spec_ReadBase_j3 (s : List UInt8) (x1 : Mem × Int) (x2 : Int × Int) (x10 : List Pin) (x18 : List LList) (x25 : Int) (x26 : List Int) : Option (Base × Bool) :=
  (if x25 != ((s.length : Int)) then spec_ReadBase_j4 x1 x2 x10 x18 x26 true else (spec_BaseOk ((⟨x1.1, (⟨x2.1, x10⟩ : Clock), x18, x26⟩ : Base))).bind fun x28 => (if !x28 then spec_ReadBase_j4 x1 x2 x10 x18 x26 true else (spec_ShowBase ((⟨x1.1, (⟨x2.1, x10⟩ : Clock), x18, x26⟩ : Base))).bind fun x29 => spec_ReadBase_j4 x1 x2 x10 x18 x26 (!(x29 == s))))

noncomputable def spec_ReadBase_l3 (s : List UInt8) : (Int × Int × (List Int)) → Option (Step (Int × Int × (List Int)) (Int × (List Int)))
  | (x22, x23, x24) => (if decide (x23 < 3) then (spec_l30Num s x22).bind fun x30 => need (x24.length + ([x30.1]).length ≤ 1073741824) (some (.next ((x30.2, w64 (x23 + 1), x24 ++ ([x30.1]))))) else some (.stop ((x22, x24))))

noncomputable def spec_ReadBase_m3 (s : List UInt8) (x1 : Mem × Int) (x2 : Int × Int) (x10 : List Pin) (x18 : List LList) : (Int × (List Int)) → Option (Base × Bool)
  | (x25, x26) => spec_ReadBase_j3 s x1 x2 x10 x18 x25 x26

noncomputable def spec_ReadBase_j2 (s : List UInt8) (x1 : Mem × Int) (x2 : Int × Int) (x10 : List Pin) (x17 : Int) (x18 : List LList) : Option (Base × Bool) :=
  (loop (spec_ReadBase_l3 s) ((x17, 0, []))).bind (spec_ReadBase_m3 s x1 x2 x10 x18)

noncomputable def spec_ReadBase_l2 (s : List UInt8) : (Int × Int × (List LList)) → Option (Step (Int × Int × (List LList)) (Int × (List LList)))
  | (x14, x15, x16) => (if decide (x15 < 3) then (spec_l30Rows s x14).bind fun x31 => need (x16.length + ([x31.1]).length ≤ 1073741824) (some (.next ((x31.2, w64 (x15 + 1), x16 ++ ([x31.1]))))) else some (.stop ((x14, x16))))

noncomputable def spec_ReadBase_m2 (s : List UInt8) (x1 : Mem × Int) (x2 : Int × Int) (x10 : List Pin) : (Int × (List LList)) → Option (Base × Bool)
  | (x17, x18) => spec_ReadBase_j2 s x1 x2 x10 x17 x18

noncomputable def spec_ReadBase_j1 (s : List UInt8) (x1 : Mem × Int) (x2 : Int × Int) (x9 : Int) (x10 : List Pin) : Option (Base × Bool) :=
  (loop (spec_ReadBase_l2 s) ((x9, 0, []))).bind (spec_ReadBase_m2 s x1 x2 x10)

noncomputable def spec_ReadBase_l1 (s : List UInt8) : (Int × Int × (List Pin)) → Option (Step (Int × Int × (List Pin)) (Int × (List Pin)))
  | (x6, x7, x8) => (if decide (x7 < 3) then (spec_l30Pin s x6).bind fun x32 => need (x8.length + ([x32.1]).length ≤ 1073741824) (some (.next ((x32.2, w64 (x7 + 1), x8 ++ ([x32.1]))))) else some (.stop ((x6, x8))))

noncomputable def spec_ReadBase_m1 (s : List UInt8) (x1 : Mem × Int) (x2 : Int × Int) : (Int × (List Pin)) → Option (Base × Bool)
  | (x9, x10) => spec_ReadBase_j1 s x1 x2 x9 x10

noncomputable def spec_ReadBase (s : List UInt8) : Option (Base × Bool) :=
  (spec_l30Mem s).bind fun x1 => (spec_l30Num s x1.2).bind fun x2 => (loop (spec_ReadBase_l1 s) ((x2.2, 0, []))).bind (spec_ReadBase_m1 s x1 x2)

noncomputable def impl_reader_byte (r_ : Reader) : Option (Int × Reader) :=
  (if r_.left.b == ([]) then some ((0, (⟨r_.left, true⟩ : Reader))) else (idx r_.left.b 0).bind fun x1 => need (0 ≤ (1 : Int) ∧ (1 : Int) ≤ (r_.left.b.length : Int)) (some (((x1.toNat : Int), (⟨(⟨r_.left.b.drop ((1 : Int).toNat)⟩ : GStr), r_.bad⟩ : Reader)))))

noncomputable def impl_ReadVar_j1  : Option (Int × Int) :=
  some ((0, 0))

noncomputable def impl_ReadVar_j2 (x3 : Int) (x4 : Int) (x5 : UInt8) (x7 : Bool) : Option (Step (Int × Int) (Out Unit (Int × Int))) :=
  (if x7 then some (.stop (Out.brk (()))) else some (.stop (Out.ret ((bitsOp .or .i64 x3 (shlOp .i64 (IntKind.i64.wrap (bitsOp .and .u8 ((x5.toNat : Int)) ((((127 : UInt8)).toNat : Int)))) (IntKind.u64.wrap (w64 (7 * x4)))), w64 (x4 + 1))))))

noncomputable def impl_ReadVar_l1 (s : List UInt8) : (Int × Int) → Option (Step (Int × Int) (Out Unit (Int × Int)))
  | (x3, x4) => (if decide (x4 < (if 7 < ((s.length : Int)) then 7 else ((s.length : Int)))) then (idx s x4).bind fun x5 => need (¬ (IntKind.u64.wrap (w64 (7 * x4))) < 0) ((idx s x4).bind fun x6 => (if decide (((x6.toNat : Int)) < ((((128 : UInt8)).toNat : Int))) then (if decide (0 < x4) then (idx s x4).bind fun x8 => impl_ReadVar_j2 x3 x4 x5 (((x8.toNat : Int)) == ((((0 : UInt8)).toNat : Int))) else impl_ReadVar_j2 x3 x4 x5 false) else some (.next ((bitsOp .or .i64 x3 (shlOp .i64 (IntKind.i64.wrap (bitsOp .and .u8 ((x5.toNat : Int)) ((((127 : UInt8)).toNat : Int)))) (IntKind.u64.wrap (w64 (7 * x4)))), w64 (x4 + 1)))))) else some (.stop (Out.brk (()))))

noncomputable def impl_ReadVar_m1  : (Out Unit (Int × Int)) → Option (Int × Int)
  | .brk (()) => impl_ReadVar_j1
  | .ret r => some r

noncomputable def impl_ReadVar (s : List UInt8) : Option (Int × Int) :=
  (loop (impl_ReadVar_l1 s) ((0, 0))).bind (impl_ReadVar_m1)

noncomputable def impl_reader_number_j1 (r_ : Reader) (x1 : Int × Int) (x2 : Bool) : Option (Int × Reader) :=
  need (0 ≤ (x1.2 : Int) ∧ (x1.2 : Int) ≤ (r_.left.b.length : Int)) (some ((x1.1, (⟨(⟨r_.left.b.drop (x1.2.toNat)⟩ : GStr), x2⟩ : Reader))))

noncomputable def impl_reader_number (r_ : Reader) : Option (Int × Reader) :=
  (impl_ReadVar r_.left.b).bind fun x1 => (if r_.bad then impl_reader_number_j1 r_ x1 true else impl_reader_number_j1 r_ x1 (x1.2 == 0))

noncomputable def impl_reader_count (r_ : Reader) : Option (Int × Reader) :=
  (impl_reader_number r_).bind fun x1 => (if decide (((x1.2.left.b.length : Int)) < x1.1) then some ((0, (⟨x1.2.left, true⟩ : Reader))) else some ((x1.1, x1.2)))

noncomputable def impl_reader_list_j1 (x10 : List UInt8) (x11 : Bool) (x12 : List Int) : Option (SList × Reader) :=
  some (((⟨x12⟩ : SList), (⟨(⟨x10⟩ : GStr), x11⟩ : Reader)))

noncomputable def impl_reader_list_j2 (x6 : Int) (x13 : List UInt8) (x14 : Bool) (x15 : List Int) : Option (Step (Int × (List UInt8) × Bool × (List Int)) ((List UInt8) × Bool × (List Int))) :=
  some (.next ((w64 (x6 + 1), x13, x14, x15)))

noncomputable def impl_reader_list_l1 (x1 : Int × Reader) : (Int × (List UInt8) × Bool × (List Int)) → Option (Step (Int × (List UInt8) × Bool × (List Int)) ((List UInt8) × Bool × (List Int)))
  | (x6, x7, x8, x9) => (if decide (x6 < x1.1) then (impl_reader_number ((⟨(⟨x7⟩ : GStr), x8⟩ : Reader))).bind fun x16 => need (x9.length + ([x16.1]).length ≤ 1073741824) <| impl_reader_list_j2 x6 x16.2.left.b x16.2.bad (x9 ++ ([x16.1])) else some (.stop ((x7, x8, x9))))

noncomputable def impl_reader_list_m1  : ((List UInt8) × Bool × (List Int)) → Option (SList × Reader)
  | (x10, x11, x12) => impl_reader_list_j1 x10 x11 x12

noncomputable def impl_reader_list (r_ : Reader) : Option (SList × Reader) :=
  (impl_reader_count r_).bind fun x1 => (loop (impl_reader_list_l1 x1) ((0, x1.2.left.b, x1.2.bad, []))).bind (impl_reader_list_m1)

noncomputable def impl_reader_mem_j4 (x11 : List Int) (x22 : List Int) (x33 : List SList) (x42 : List UInt8) (x43 : Bool) (x44 : List SList) : Option (Mem × Reader) :=
  some (((⟨(⟨x11, x22⟩ : Heap), (⟨x33, x44⟩ : Lists)⟩ : Mem), (⟨(⟨x42⟩ : GStr), x43⟩ : Reader)))

noncomputable def impl_reader_mem_j5 (x38 : Int) (x45 : List UInt8) (x46 : Bool) (x47 : List SList) : Option (Step (Int × (List UInt8) × Bool × (List SList)) ((List UInt8) × Bool × (List SList))) :=
  some (.next ((w64 (x38 + 1), x45, x46, x47)))

noncomputable def impl_reader_mem_l4  : (Int × (List UInt8) × Bool × (List SList)) → Option (Step (Int × (List UInt8) × Bool × (List SList)) ((List UInt8) × Bool × (List SList)))
  | (x38, x39, x40, x41) => (if decide (x38 < 9) then (impl_reader_list ((⟨(⟨x39⟩ : GStr), x40⟩ : Reader))).bind fun x48 => need (x41.length + ([x48.1]).length ≤ 1073741824) <| impl_reader_mem_j5 x38 x48.2.left.b x48.2.bad (x41 ++ ([x48.1])) else some (.stop ((x39, x40, x41))))

noncomputable def impl_reader_mem_m4 (x11 : List Int) (x22 : List Int) (x33 : List SList) : ((List UInt8) × Bool × (List SList)) → Option (Mem × Reader)
  | (x42, x43, x44) => impl_reader_mem_j4 x11 x22 x33 x42 x43 x44

noncomputable def impl_reader_mem_j3 (x11 : List Int) (x22 : List Int) (x31 : List UInt8) (x32 : Bool) (x33 : List SList) : Option (Mem × Reader) :=
  (loop (impl_reader_mem_l4) ((0, x31, x32, []))).bind (impl_reader_mem_m4 x11 x22 x33)

noncomputable def impl_reader_mem_j6 (x27 : Int) (x49 : List UInt8) (x50 : Bool) (x51 : List SList) : Option (Step (Int × (List UInt8) × Bool × (List SList)) ((List UInt8) × Bool × (List SList))) :=
  some (.next ((w64 (x27 + 1), x49, x50, x51)))

noncomputable def impl_reader_mem_l3  : (Int × (List UInt8) × Bool × (List SList)) → Option (Step (Int × (List UInt8) × Bool × (List SList)) ((List UInt8) × Bool × (List SList)))
  | (x27, x28, x29, x30) => (if decide (x27 < 3) then (impl_reader_list ((⟨(⟨x28⟩ : GStr), x29⟩ : Reader))).bind fun x52 => need (x30.length + ([x52.1]).length ≤ 1073741824) <| impl_reader_mem_j6 x27 x52.2.left.b x52.2.bad (x30 ++ ([x52.1])) else some (.stop ((x28, x29, x30))))

noncomputable def impl_reader_mem_m3 (x11 : List Int) (x22 : List Int) : ((List UInt8) × Bool × (List SList)) → Option (Mem × Reader)
  | (x31, x32, x33) => impl_reader_mem_j3 x11 x22 x31 x32 x33

noncomputable def impl_reader_mem_j2 (x11 : List Int) (x20 : List UInt8) (x21 : Bool) (x22 : List Int) : Option (Mem × Reader) :=
  (loop (impl_reader_mem_l3) ((0, x20, x21, []))).bind (impl_reader_mem_m3 x11 x22)

noncomputable def impl_reader_mem_j7 (x16 : Int) (x53 : List UInt8) (x54 : Bool) (x55 : List Int) : Option (Step (Int × (List UInt8) × Bool × (List Int)) ((List UInt8) × Bool × (List Int))) :=
  some (.next ((w64 (x16 + 1), x53, x54, x55)))

noncomputable def impl_reader_mem_l2  : (Int × (List UInt8) × Bool × (List Int)) → Option (Step (Int × (List UInt8) × Bool × (List Int)) ((List UInt8) × Bool × (List Int)))
  | (x16, x17, x18, x19) => (if decide (x16 < 6) then (impl_reader_byte ((⟨(⟨x17⟩ : GStr), x18⟩ : Reader))).bind fun x56 => need (x19.length + ([w64 (x56.1 - 1)]).length ≤ 1073741824) <| impl_reader_mem_j7 x16 x56.2.left.b x56.2.bad (x19 ++ ([w64 (x56.1 - 1)])) else some (.stop ((x17, x18, x19))))

noncomputable def impl_reader_mem_m2 (x11 : List Int) : ((List UInt8) × Bool × (List Int)) → Option (Mem × Reader)
  | (x20, x21, x22) => impl_reader_mem_j2 x11 x20 x21 x22

noncomputable def impl_reader_mem_j1 (x9 : List UInt8) (x10 : Bool) (x11 : List Int) : Option (Mem × Reader) :=
  (loop (impl_reader_mem_l2) ((0, x9, x10, []))).bind (impl_reader_mem_m2 x11)

noncomputable def impl_reader_mem_j8 (x5 : Int) (x57 : List UInt8) (x58 : Bool) (x59 : List Int) : Option (Step (Int × (List UInt8) × Bool × (List Int)) ((List UInt8) × Bool × (List Int))) :=
  some (.next ((w64 (x5 + 1), x57, x58, x59)))

noncomputable def impl_reader_mem_l1  : (Int × (List UInt8) × Bool × (List Int)) → Option (Step (Int × (List UInt8) × Bool × (List Int)) ((List UInt8) × Bool × (List Int)))
  | (x5, x6, x7, x8) => (if decide (x5 < 384) then (impl_reader_byte ((⟨(⟨x6⟩ : GStr), x7⟩ : Reader))).bind fun x60 => need (x8.length + ([x60.1]).length ≤ 1073741824) <| impl_reader_mem_j8 x5 x60.2.left.b x60.2.bad (x8 ++ ([x60.1])) else some (.stop ((x6, x7, x8))))

noncomputable def impl_reader_mem_m1  : ((List UInt8) × Bool × (List Int)) → Option (Mem × Reader)
  | (x9, x10, x11) => impl_reader_mem_j1 x9 x10 x11

noncomputable def impl_reader_mem (r_ : Reader) : Option (Mem × Reader) :=
  (loop (impl_reader_mem_l1) ((0, r_.left.b, r_.bad, []))).bind (impl_reader_mem_m1)

noncomputable def slices_IndexFunc_int_j1  : Option Int :=
  some ((-1))

noncomputable def slices_IndexFunc_int_l1 (s : List Int) (f : (Int → Option Bool)) : Int → Option (Step Int (Out Unit Int))
  | x2 => (if decide (x2 < ((s.length : Int))) then (idx s x2).bind fun x3 => (f x3).bind fun x4 => (if x4 then some (.stop (Out.ret x2)) else some (.next (w64 (x2 + 1)))) else some (.stop (Out.brk (()))))

noncomputable def slices_IndexFunc_int_m1  : (Out Unit Int) → Option Int
  | .brk (()) => slices_IndexFunc_int_j1
  | .ret r => some r

noncomputable def slices_IndexFunc_int (s : List Int) (f : (Int → Option Bool)) : Option Int :=
  (loop (slices_IndexFunc_int_l1 s f) 0).bind (slices_IndexFunc_int_m1)

noncomputable def slices_ContainsFunc_int (s : List Int) (f : (Int → Option Bool)) : Option Bool :=
  (slices_IndexFunc_int s f).bind fun x1 => some (decide (0 ≤ x1))

noncomputable def impl_within_j1 (x1 : Bool) : Option Bool :=
  some x1

noncomputable def impl_within (n : Int) (low : Int) (high : Int) : Option Bool :=
  (if decide (low ≤ n) then impl_within_j1 (decide (n ≤ high)) else impl_within_j1 false)

noncomputable def impl_isByte (x : Int) : Option Bool :=
  (impl_within x 0 255).bind fun x1 => some x1

noncomputable def impl_BytesOk_1 (x : Int) : Option Bool :=
  (impl_isByte x).bind fun x1 => some (!x1)

noncomputable def impl_BytesOk_j1 (x1 : Bool) : Option Bool :=
  some x1

noncomputable def impl_BytesOk (b : List Int) : Option Bool :=
  (if decide (((b.length : Int)) ≤ 1000) then (slices_ContainsFunc_int b ((fun y0 => impl_BytesOk_1 y0 ))).bind fun x2 => impl_BytesOk_j1 (!x2) else impl_BytesOk_j1 false)

noncomputable def impl_shaped_1 (c : Int) : Option Bool :=
  (impl_within c ((-1)) 2).bind fun x1 => some (!x1)

noncomputable def impl_shaped_j1 (x1 : Bool) : Option Bool :=
  some x1

noncomputable def impl_shaped (h : Heap) : Option Bool :=
  (if ((h.Bytes.length : Int)) == 384 then (impl_BytesOk h.Bytes).bind fun x2 => (if x2 then (if ((h.Class.length : Int)) == 6 then (slices_ContainsFunc_int h.Class ((fun y0 => impl_shaped_1 y0 ))).bind fun x3 => impl_shaped_j1 (!x3) else impl_shaped_j1 false) else impl_shaped_j1 false) else impl_shaped_j1 false)

noncomputable def impl_isZero_1 (x : Int) : Option Bool :=
  some (x != 0)

noncomputable def impl_isZero (b : List Int) : Option Bool :=
  (slices_ContainsFunc_int b ((fun y0 => impl_isZero_1 y0 ))).bind fun x1 => some (!x1)

noncomputable def impl_isClass (c : Int) : Option Bool :=
  (impl_within c 0 2).bind fun x1 => some x1

noncomputable def impl_SizeOf (c : Int) : Option Int :=
  (impl_isClass c).bind fun x1 => (if !x1 then some 0 else (idx ([8, 16, 40] : List Int) c).bind fun x2 => some x2)

noncomputable def impl_StrideOf (c : Int) : Option Int :=
  (impl_isClass c).bind fun x1 => (if !x1 then some 0 else (impl_SizeOf c).bind fun x2 => some (w64 (4 + x2)))

noncomputable def impl_PerPage (c : Int) : Option Int :=
  (impl_isClass c).bind fun x1 => (if !x1 then some 0 else (impl_StrideOf c).bind fun x2 => need (x2 ≠ 0) (some (w64 (Int.tdiv 56 x2))))

noncomputable def impl_loadNum_j1 (x5 : Int) : Option Int :=
  some x5

noncomputable def impl_loadNum_l1 (b : List Int) (at_ : Int) (width : Int) : (Int × Int) → Option (Step (Int × Int) Int)
  | (x3, x4) => (if decide (x4 < ((((b.take ((w64 (at_ + width)).toNat)).drop at_.toNat).length : Int))) then (idx ((b.take ((w64 (at_ + width)).toNat)).drop at_.toNat) x4).bind fun x6 => some (.next ((w64 ((w64 (256 * x3)) + x6), w64 (x4 + 1)))) else some (.stop (x3)))

noncomputable def impl_loadNum_m1  : Int → Option Int
  | x5 => impl_loadNum_j1 x5

noncomputable def impl_loadNum (b : List Int) (at_ : Int) (width : Int) : Option Int :=
  need (0 ≤ (at_ : Int) ∧ (at_ : Int) ≤ (w64 (at_ + width) : Int) ∧ (w64 (at_ + width) : Int) ≤ (b.length : Int)) ((loop (impl_loadNum_l1 b at_ width) ((0, 0))).bind (impl_loadNum_m1))

noncomputable def impl_pageOk_j2  : Option Bool :=
  some true

noncomputable def impl_pageOk_l2 (h : Heap) (page : Int) (x1 : Int) (x4 : Int) : Int → Option (Step Int (Out Unit Bool))
  | x6 => (if decide (x6 < x4) then (impl_StrideOf x1).bind fun x7 => (impl_loadNum ((h.Bytes.take ((w64 ((w64 (page + 1)) * 64)).toNat)).drop ((w64 (page * 64)).toNat)) (w64 (8 + (w64 (x6 * x7)))) 4).bind fun x8 => (impl_within x8 1 7).bind fun x9 => (if !x9 then some (.stop (Out.ret false)) else some (.next (w64 (x6 + 1)))) else some (.stop (Out.brk (()))))

noncomputable def impl_pageOk_m2  : (Out Unit Bool) → Option Bool
  | .brk (()) => impl_pageOk_j2
  | .ret r => some r

noncomputable def impl_pageOk_j1 (h : Heap) (page : Int) (x1 : Int) (x3 : Bool) : Option Bool :=
  (if x3 then some false else (impl_PerPage x1).bind fun x4 => (loop (impl_pageOk_l2 h page x1 x4) 0).bind (impl_pageOk_m2))

noncomputable def impl_pageOk (h : Heap) (page : Int) : Option Bool :=
  (idx h.Class page).bind fun x1 => need (0 ≤ (w64 (page * 64) : Int) ∧ (w64 (page * 64) : Int) ≤ (w64 ((w64 (page + 1)) * 64) : Int) ∧ (w64 ((w64 (page + 1)) * 64) : Int) ≤ (h.Bytes.length : Int)) ((if decide (x1 < 0) then (impl_isZero ((h.Bytes.take ((w64 ((w64 (page + 1)) * 64)).toNat)).drop ((w64 (page * 64)).toNat))).bind fun x2 => some x2 else (idx ((h.Bytes.take ((w64 ((w64 (page + 1)) * 64)).toNat)).drop ((w64 (page * 64)).toNat)) 0).bind fun x10 => (if x10 != 171 then impl_pageOk_j1 h page x1 true else (idx ((h.Bytes.take ((w64 ((w64 (page + 1)) * 64)).toNat)).drop ((w64 (page * 64)).toNat)) 1).bind fun x11 => (if x11 != x1 then impl_pageOk_j1 h page x1 true else (idx ((h.Bytes.take ((w64 ((w64 (page + 1)) * 64)).toNat)).drop ((w64 (page * 64)).toNat)) 2).bind fun x12 => (impl_PerPage x1).bind fun x13 => (if x12 != x13 then impl_pageOk_j1 h page x1 true else need (0 ≤ (3 : Int) ∧ (3 : Int) ≤ (8 : Int) ∧ (8 : Int) ≤ (((h.Bytes.take ((w64 ((w64 (page + 1)) * 64)).toNat)).drop ((w64 (page * 64)).toNat)).length : Int)) ((impl_isZero ((((h.Bytes.take ((w64 ((w64 (page + 1)) * 64)).toNat)).drop ((w64 (page * 64)).toNat)).take ((8 : Int).toNat)).drop ((3 : Int).toNat))).bind fun x14 => impl_pageOk_j1 h page x1 (!x14)))))))

noncomputable def impl_HeapOk_j1  : Option Bool :=
  some true

noncomputable def impl_HeapOk_l1 (h : Heap) : Int → Option (Step Int (Out Unit Bool))
  | x3 => (if decide (x3 < 6) then (impl_pageOk h x3).bind fun x4 => (if !x4 then some (.stop (Out.ret false)) else some (.next (w64 (x3 + 1)))) else some (.stop (Out.brk (()))))

noncomputable def impl_HeapOk_m1  : (Out Unit Bool) → Option Bool
  | .brk (()) => impl_HeapOk_j1
  | .ret r => some r

noncomputable def impl_HeapOk (h : Heap) : Option Bool :=
  (impl_shaped h).bind fun x1 => (if !x1 then some false else (loop (impl_HeapOk_l1 h) 0).bind (impl_HeapOk_m1))

noncomputable def slices_Concat_SList_j2 (x10 : List Raw) : Option ((List Raw)) :=
  some x10

noncomputable def slices_Concat_SList_l2 (slices : List (List Raw)) : ((List Raw) × Int) → Option (Step ((List Raw) × Int) ((List Raw)))
  | (x8, x9) => (if decide (x9 < ((slices.length : Int))) then (idx slices x9).bind fun x11 => need (x8.length + x11.length ≤ 1073741824) (some (.next ((x8 ++ x11, w64 (x9 + 1))))) else some (.stop (x8)))

noncomputable def slices_Concat_SList_m2  : ((List Raw)) → Option ((List Raw))
  | x10 => slices_Concat_SList_j2 x10

noncomputable def slices_Concat_SList_j1 (slices : List (List Raw)) (x5 : Int) : Option ((List Raw)) :=
  need (0 ≤ x5 ∧ x5 ≤ 1073741824) ((loop (slices_Concat_SList_l2 slices) (([], 0))).bind (slices_Concat_SList_m2))

noncomputable def slices_Concat_SList_l1 (slices : List (List Raw)) : (Int × Int) → Option (Step (Int × Int) Int)
  | (x3, x4) => (if decide (x4 < ((slices.length : Int))) then (idx slices x4).bind fun x12 => (if decide ((w64 (x3 + ((x12.length : Int)))) < 0) then none else some (.next ((w64 (x3 + ((x12.length : Int))), w64 (x4 + 1))))) else some (.stop (x3)))

noncomputable def slices_Concat_SList_m1 (slices : List (List Raw)) : Int → Option ((List Raw))
  | x5 => slices_Concat_SList_j1 slices x5

noncomputable def slices_Concat_SList (slices : List (List Raw)) : Option ((List Raw)) :=
  (loop (slices_Concat_SList_l1 slices) ((0, 0))).bind (slices_Concat_SList_m1 slices)

theorem slices_Concat_SList_sizes {u1 u2 : List Raw} (h : u1.length + u2.length ≤ 1073741824) : loop (slices_Concat_SList_l1 [u1, u2]) (0, 0) = some ((u1.length + u2.length : Nat) : Int) := by
  have e1 : w64 (u1.length : Int) = u1.length := w64_id (by omega)
  have e2 : w64 ((u1.length : Int) + (u2.length : Int)) = ((u1.length + u2.length : Nat) : Int) := by rw [w64_id (by omega)]; rfl
  have e3 : w64 (0 + 1) = 1 := w64_id (by omega)
  have e4 : w64 2 = 2 := w64_id (by omega)
  have n1 : ¬ (u1.length : Int) < 0 := by omega
  have n2 : ¬ ((u1.length + u2.length : Nat) : Int) < 0 := by omega
  rw [loop_next (s' := ((u1.length : Int), 1)) ?_, loop_next (s' := (((u1.length + u2.length : Nat) : Int), 2)) ?_, loop_stop (r := ((u1.length + u2.length : Nat) : Int)) ?_]
  · simp [slices_Concat_SList_l1]
  · simp [slices_Concat_SList_l1, idx, e2, e4]
    omega
  · simp [slices_Concat_SList_l1, idx, e1, n1]
    exact e3
theorem slices_Concat_SList_two {u1 u2 : List Raw} {n1 n2 : Nat} (hl : u1.length = n1 ∧ u2.length = n2) (h : n1 + n2 ≤ 1073741824) : slices_Concat_SList [u1, u2] = some (u1 ++ u2) := by
  obtain ⟨rfl, rfl⟩ := hl
  have e3 : w64 (0 + 1) = 1 := w64_id (by omega)
  have e4 : w64 2 = 2 := w64_id (by omega)
  unfold slices_Concat_SList
  rw [slices_Concat_SList_sizes h]
  simp only [Option.bind_some, slices_Concat_SList_m1, slices_Concat_SList_j1]
  rw [need_yes (by omega), loop_next (s' := (u1, 1)) ?_, loop_next (s' := (u1 ++ u2, 2)) ?_, loop_stop (r := u1 ++ u2) ?_]
  · rfl
  · simp [slices_Concat_SList_l2]
  · simp [slices_Concat_SList_l2, idx, e4, need_yes h]
  · have h1 : u1.length ≤ 1073741824 := by omega
    simp [slices_Concat_SList_l2, idx, need_yes h1]
    exact e3

noncomputable def impl_isSlot (slot : Int) : Option Bool :=
  (impl_within slot 0 23).bind fun x1 => some x1

noncomputable def impl_ListsOk_j2  : Option Bool :=
  some true

noncomputable def impl_ListsOk_j4 (x4 : Int) (x12 : List Bool) : Option (Step (Int × (List Bool)) (Out Unit Bool)) :=
  some (.next ((w64 (x4 + 1), x12)))

noncomputable def impl_ListsOk_j5 (x10 : Int) (x11 : List Bool) (x13 : Int) (x14 : Bool) : Option (Step (Int × (List Bool)) (Out ((List Bool)) Bool)) :=
  (if x14 then some (.stop (Out.ret false)) else need (0 ≤ (x13 : Int) ∧ (x13 : Int) < 24) ((idx (x11 : List Bool) x13).bind fun x15 => some (.next ((w64 (x10 + 1), x11.set (x13.toNat) true)))))

noncomputable def impl_ListsOk_l4 (x6 : SList) : (Int × (List Bool)) → Option (Step (Int × (List Bool)) (Out ((List Bool)) Bool))
  | (x10, x11) => (if decide (x10 < ((x6.Slots.length : Int))) then (idx x6.Slots x10).bind fun x13 => (impl_isSlot x13).bind fun x16 => (if !x16 then impl_ListsOk_j5 x10 x11 x13 true else need (0 ≤ (x13 : Int) ∧ (x13 : Int) < 24) ((idx (x11 : List Bool) x13).bind fun x17 => impl_ListsOk_j5 x10 x11 x13 x17)) else some (.stop (Out.brk x11)))

noncomputable def impl_ListsOk_m4 (x4 : Int) : (Out ((List Bool)) Bool) → Option (Step (Int × (List Bool)) (Out Unit Bool))
  | .brk x12 => impl_ListsOk_j4 x4 x12
  | .ret r => some (.stop (Out.ret r))

noncomputable def impl_ListsOk_j3 (x4 : Int) (x5 : List Bool) (x6 : SList) (x7 : Bool) : Option (Step (Int × (List Bool)) (Out Unit Bool)) :=
  (if x7 then some (.stop (Out.ret false)) else (loop (impl_ListsOk_l4 x6) ((0, x5))).bind (impl_ListsOk_m4 x4))

noncomputable def impl_ListsOk_l2 (l : Lists) : (Int × (List Bool)) → Option (Step (Int × (List Bool)) (Out Unit Bool))
  | (x4, x5) => (if decide (x4 < (((l.Own ++ l.Global).length : Int))) then (idx (l.Own ++ l.Global) x4).bind fun x6 => (if decide (x4 < ((l.Own.length : Int))) then impl_ListsOk_j3 x4 x5 x6 (decide (2 < ((x6.Slots.length : Int)))) else impl_ListsOk_j3 x4 x5 x6 false) else some (.stop (Out.brk (()))))

noncomputable def impl_ListsOk_m2  : (Out Unit Bool) → Option Bool
  | .brk (()) => impl_ListsOk_j2
  | .ret r => some r

noncomputable def impl_ListsOk_j1 (l : Lists) (x1 : Bool) : Option Bool :=
  (if x1 then some false else need (l.Own.length + l.Global.length ≤ 1073741824) ((loop (impl_ListsOk_l2 l) ((0, [false, false, false, false, false, false, false, false, false, false, false, false, false, false, false, false, false, false, false, false, false, false, false, false]))).bind (impl_ListsOk_m2)))

noncomputable def impl_ListsOk (l : Lists) : Option Bool :=
  (if ((l.Global.length : Int)) != 3 then impl_ListsOk_j1 l true else impl_ListsOk_j1 l (((l.Own.length : Int)) != 9))

noncomputable def impl_GenAt_j1 (slot : Int) (c : Int) (x1 : Bool) : Option Int :=
  (if x1 then some ((-1)) else (impl_StrideOf c).bind fun x2 => some (w64 ((w64 ((w64 ((w64 (Int.tdiv slot 4)) * 64)) + 8)) + (w64 ((Int.tmod slot 4) * x2)))))

noncomputable def impl_GenAt (slot : Int) (c : Int) : Option Int :=
  (impl_isSlot slot).bind fun x3 => (if !x3 then impl_GenAt_j1 slot c true else (impl_isClass c).bind fun x4 => (if !x4 then impl_GenAt_j1 slot c true else (impl_PerPage c).bind fun x5 => impl_GenAt_j1 slot c (decide (x5 ≤ (Int.tmod slot 4)))))

noncomputable def impl_classIn_j1 (h : Heap) (slot : Int) (x1 : Bool) : Option Int :=
  (if x1 then some ((-1)) else (idx h.Class (w64 (Int.tdiv slot 4))).bind fun x2 => some x2)

noncomputable def impl_classIn (h : Heap) (slot : Int) : Option Int :=
  (impl_isSlot slot).bind fun x3 => (if !x3 then impl_classIn_j1 h slot true else (idx h.Class (w64 (Int.tdiv slot 4))).bind fun x4 => (impl_GenAt slot x4).bind fun x5 => impl_classIn_j1 h slot (decide (x5 < 0)))

noncomputable def impl_ClassAt (h : Heap) (slot : Int) : Option Int :=
  (impl_shaped h).bind fun x1 => (if !x1 then some ((-1)) else (impl_classIn h slot).bind fun x2 => some x2)

noncomputable def impl_GenIn (h : Heap) (slot : Int) : Option Int :=
  (impl_ClassAt h slot).bind fun x1 => (if decide (x1 < 0) then some 0 else (impl_GenAt slot x1).bind fun x2 => (impl_loadNum h.Bytes x2 4).bind fun x3 => some x3)

noncomputable def impl_listFits_j1  : Option Bool :=
  some true

noncomputable def impl_listFits_j2 (x2 : Int) (x4 : Bool) : Option (Step Int (Out Unit Bool)) :=
  (if x4 then some (.stop (Out.ret false)) else some (.next (w64 (x2 + 1))))

noncomputable def impl_listFits_l1 (h : Heap) (s : SList) (c : Int) : Int → Option (Step Int (Out Unit Bool))
  | x2 => (if decide (x2 < ((s.Slots.length : Int))) then (idx s.Slots x2).bind fun x3 => (impl_classIn h x3).bind fun x5 => (if x5 != c then impl_listFits_j2 x2 true else (impl_GenIn h x3).bind fun x6 => impl_listFits_j2 x2 (decide (6 < x6))) else some (.stop (Out.brk (()))))

noncomputable def impl_listFits_m1  : (Out Unit Bool) → Option Bool
  | .brk (()) => impl_listFits_j1
  | .ret r => some r

noncomputable def impl_listFits (h : Heap) (s : SList) (c : Int) : Option Bool :=
  (loop (impl_listFits_l1 h s c) 0).bind (impl_listFits_m1)

noncomputable def impl_MemOk_j3  : Option Bool :=
  some true

noncomputable def impl_MemOk_l3 (m : Mem) : Int → Option (Step Int (Out Unit Bool))
  | x5 => (if decide (x5 < ((m.Lists.Own.length : Int))) then (idx m.Lists.Own x5).bind fun x6 => (impl_listFits m.Heap x6 (Int.tmod x5 3)).bind fun x7 => (if !x7 then some (.stop (Out.ret false)) else some (.next (w64 (x5 + 1)))) else some (.stop (Out.brk (()))))

noncomputable def impl_MemOk_m3  : (Out Unit Bool) → Option Bool
  | .brk (()) => impl_MemOk_j3
  | .ret r => some r

noncomputable def impl_MemOk_j2 (m : Mem) : Option Bool :=
  (loop (impl_MemOk_l3 m) 0).bind (impl_MemOk_m3)

noncomputable def impl_MemOk_l2 (m : Mem) : Int → Option (Step Int (Out Unit Bool))
  | x3 => (if decide (x3 < ((m.Lists.Global.length : Int))) then (idx m.Lists.Global x3).bind fun x8 => (impl_listFits m.Heap x8 x3).bind fun x9 => (if !x9 then some (.stop (Out.ret false)) else some (.next (w64 (x3 + 1)))) else some (.stop (Out.brk (()))))

noncomputable def impl_MemOk_m2 (m : Mem) : (Out Unit Bool) → Option Bool
  | .brk (()) => impl_MemOk_j2 m
  | .ret r => some r

noncomputable def impl_MemOk_j1 (m : Mem) (x1 : Bool) : Option Bool :=
  (if x1 then some false else (loop (impl_MemOk_l2 m) 0).bind (impl_MemOk_m2 m))

noncomputable def impl_MemOk (m : Mem) : Option Bool :=
  (impl_HeapOk m.Heap).bind fun x10 => (if !x10 then impl_MemOk_j1 m true else (impl_ListsOk m.Lists).bind fun x11 => impl_MemOk_j1 m (!x11))

noncomputable def slices_IndexFunc_Pin_j1  : Option Int :=
  some ((-1))

noncomputable def slices_IndexFunc_Pin_l1 (s : List Pin) (f : (Pin → Option Bool)) : Int → Option (Step Int (Out Unit Int))
  | x2 => (if decide (x2 < ((s.length : Int))) then (idx s x2).bind fun x3 => (f x3).bind fun x4 => (if x4 then some (.stop (Out.ret x2)) else some (.next (w64 (x2 + 1)))) else some (.stop (Out.brk (()))))

noncomputable def slices_IndexFunc_Pin_m1  : (Out Unit Int) → Option Int
  | .brk (()) => slices_IndexFunc_Pin_j1
  | .ret r => some r

noncomputable def slices_IndexFunc_Pin (s : List Pin) (f : (Pin → Option Bool)) : Option Int :=
  (loop (slices_IndexFunc_Pin_l1 s f) 0).bind (slices_IndexFunc_Pin_m1)

noncomputable def slices_ContainsFunc_Pin (s : List Pin) (f : (Pin → Option Bool)) : Option Bool :=
  (slices_IndexFunc_Pin s f).bind fun x1 => some (decide (0 ≤ x1))

noncomputable def impl_ClockOk_1_j1 (x1 : Bool) : Option Bool :=
  some x1

noncomputable def impl_ClockOk_1 (p : Pin) (k0 : Clock) : Option Bool :=
  (impl_within p.Epoch 0 k0.Epoch).bind fun x2 => (if !x2 then impl_ClockOk_1_j1 true else (impl_within p.Seen 0 2).bind fun x3 => (if !x3 then impl_ClockOk_1_j1 true else (if !p.On then impl_ClockOk_1_j1 (!(decide (p = (⟨false, 0, false, 0⟩ : Pin)))) else impl_ClockOk_1_j1 false)))

noncomputable def impl_ClockOk_j1 (x1 : Bool) : Option Bool :=
  some x1

noncomputable def impl_ClockOk (c : Clock) : Option Bool :=
  (impl_within c.Epoch 0 100000).bind fun x2 => (if x2 then (if ((c.Pins.length : Int)) == 3 then (slices_ContainsFunc_Pin c.Pins ((fun y0 => impl_ClockOk_1 y0 c))).bind fun x3 => impl_ClockOk_j1 (!x3) else impl_ClockOk_j1 false) else impl_ClockOk_j1 false)

noncomputable def impl_HandleOk_j1 (x1 : Bool) : Option Bool :=
  some x1

noncomputable def impl_HandleOk (h : Int) : Option Bool :=
  (impl_within h 32 223).bind fun x2 => (if x2 then impl_HandleOk_j1 (decide ((Int.tmod h 32) < 24)) else impl_HandleOk_j1 false)

noncomputable def impl_LimboSize_j1 (x5 : Int) : Option Int :=
  some x5

noncomputable def impl_LimboSize_l1 (l : List LList) : (Int × Int) → Option (Step (Int × Int) Int)
  | (x3, x4) => (if decide (x4 < ((l.length : Int))) then (idx l x4).bind fun x6 => some (.next ((w64 (x3 + ((x6.Rows.length : Int))), w64 (x4 + 1)))) else some (.stop (x3)))

noncomputable def impl_LimboSize_m1  : Int → Option Int
  | x5 => impl_LimboSize_j1 x5

noncomputable def impl_LimboSize (l : List LList) : Option Int :=
  (loop (impl_LimboSize_l1 l) ((0, 0))).bind (impl_LimboSize_m1)

noncomputable def impl_LimboOk_j1 (l : List LList) : Option Bool :=
  (impl_LimboSize l).bind fun x5 => some (decide (x5 ≤ 24))

noncomputable def impl_LimboOk_j2 (x3 : Int) (x11 : List Bool) : Option (Step (Int × (List Bool)) (Out Unit Bool)) :=
  some (.next ((w64 (x3 + 1), x11)))

noncomputable def impl_LimboOk_j3 (x9 : Int) (x10 : List Bool) (x12 : LRow) (x13 : Bool) : Option (Step (Int × (List Bool)) (Out ((List Bool)) Bool)) :=
  (if x13 then some (.stop (Out.ret false)) else need (0 ≤ (Int.tmod x12.Handle 32 : Int) ∧ (Int.tmod x12.Handle 32 : Int) < 24) ((idx (x10 : List Bool) (Int.tmod x12.Handle 32)).bind fun x14 => some (.next ((w64 (x9 + 1), x10.set ((Int.tmod x12.Handle 32).toNat) true)))))

noncomputable def impl_LimboOk_l2 (x6 : LList) : (Int × (List Bool)) → Option (Step (Int × (List Bool)) (Out ((List Bool)) Bool))
  | (x9, x10) => (if decide (x9 < ((x6.Rows.length : Int))) then (idx x6.Rows x9).bind fun x12 => (impl_HandleOk x12.Handle).bind fun x15 => (if !x15 then impl_LimboOk_j3 x9 x10 x12 true else (impl_within x12.Epoch 0 100000).bind fun x16 => (if !x16 then impl_LimboOk_j3 x9 x10 x12 true else need (0 ≤ (Int.tmod x12.Handle 32 : Int) ∧ (Int.tmod x12.Handle 32 : Int) < 24) ((idx (x10 : List Bool) (Int.tmod x12.Handle 32)).bind fun x17 => impl_LimboOk_j3 x9 x10 x12 x17))) else some (.stop (Out.brk x10)))

noncomputable def impl_LimboOk_m2 (x3 : Int) : (Out ((List Bool)) Bool) → Option (Step (Int × (List Bool)) (Out Unit Bool))
  | .brk x11 => impl_LimboOk_j2 x3 x11
  | .ret r => some (.stop (Out.ret r))

noncomputable def impl_LimboOk_l1 (l : List LList) : (Int × (List Bool)) → Option (Step (Int × (List Bool)) (Out Unit Bool))
  | (x3, x4) => (if decide (x3 < ((l.length : Int))) then (idx l x3).bind fun x6 => (loop (impl_LimboOk_l2 x6) ((0, x4))).bind (impl_LimboOk_m2 x3) else some (.stop (Out.brk (()))))

noncomputable def impl_LimboOk_m1 (l : List LList) : (Out Unit Bool) → Option Bool
  | .brk (()) => impl_LimboOk_j1 l
  | .ret r => some r

noncomputable def impl_LimboOk (l : List LList) : Option Bool :=
  (if ((l.length : Int)) != 3 then some false else (loop (impl_LimboOk_l1 l) ((0, [false, false, false, false, false, false, false, false, false, false, false, false, false, false, false, false, false, false, false, false, false, false, false, false]))).bind (impl_LimboOk_m1 l))

noncomputable def impl_isLink_j1 (x1 : Bool) : Option Bool :=
  some x1

noncomputable def impl_isLink (h : Int) : Option Bool :=
  (if h == 0 then impl_isLink_j1 true else (impl_HandleOk h).bind fun x2 => impl_isLink_j1 x2)

noncomputable def impl_HazOk_1 (h : Int) : Option Bool :=
  (impl_isLink h).bind fun x1 => some (!x1)

noncomputable def impl_HazOk_j1 (x1 : Bool) : Option Bool :=
  some x1

noncomputable def impl_HazOk (z : List Int) : Option Bool :=
  (if ((z.length : Int)) == 3 then (slices_ContainsFunc_int z ((fun y0 => impl_HazOk_1 y0 ))).bind fun x2 => impl_HazOk_j1 (!x2) else impl_HazOk_j1 false)

noncomputable def slices_IndexFunc_LList_j1  : Option Int :=
  some ((-1))

noncomputable def slices_IndexFunc_LList_l1 (s : List LList) (f : (LList → Option Bool)) : Int → Option (Step Int (Out Unit Int))
  | x2 => (if decide (x2 < ((s.length : Int))) then (idx s x2).bind fun x3 => (f x3).bind fun x4 => (if x4 then some (.stop (Out.ret x2)) else some (.next (w64 (x2 + 1)))) else some (.stop (Out.brk (()))))

noncomputable def slices_IndexFunc_LList_m1  : (Out Unit Int) → Option Int
  | .brk (()) => slices_IndexFunc_LList_j1
  | .ret r => some r

noncomputable def slices_IndexFunc_LList (s : List LList) (f : (LList → Option Bool)) : Option Int :=
  (loop (slices_IndexFunc_LList_l1 s f) 0).bind (slices_IndexFunc_LList_m1)

noncomputable def slices_ContainsFunc_LList (s : List LList) (f : (LList → Option Bool)) : Option Bool :=
  (slices_IndexFunc_LList s f).bind fun x1 => some (decide (0 ≤ x1))

noncomputable def slices_IndexFunc_LRow_j1  : Option Int :=
  some ((-1))

noncomputable def slices_IndexFunc_LRow_l1 (s : List LRow) (f : (LRow → Option Bool)) : Int → Option (Step Int (Out Unit Int))
  | x2 => (if decide (x2 < ((s.length : Int))) then (idx s x2).bind fun x3 => (f x3).bind fun x4 => (if x4 then some (.stop (Out.ret x2)) else some (.next (w64 (x2 + 1)))) else some (.stop (Out.brk (()))))

noncomputable def slices_IndexFunc_LRow_m1  : (Out Unit Int) → Option Int
  | .brk (()) => slices_IndexFunc_LRow_j1
  | .ret r => some r

noncomputable def slices_IndexFunc_LRow (s : List LRow) (f : (LRow → Option Bool)) : Option Int :=
  (loop (slices_IndexFunc_LRow_l1 s f) 0).bind (slices_IndexFunc_LRow_m1)

noncomputable def slices_ContainsFunc_LRow (s : List LRow) (f : (LRow → Option Bool)) : Option Bool :=
  (slices_IndexFunc_LRow s f).bind fun x1 => some (decide (0 ≤ x1))

noncomputable def slices_IndexFunc_SList_j1  : Option Int :=
  some ((-1))

noncomputable def slices_IndexFunc_SList_l1 (s : List SList) (f : (SList → Option Bool)) : Int → Option (Step Int (Out Unit Int))
  | x2 => (if decide (x2 < ((s.length : Int))) then (idx s x2).bind fun x3 => (f x3).bind fun x4 => (if x4 then some (.stop (Out.ret x2)) else some (.next (w64 (x2 + 1)))) else some (.stop (Out.brk (()))))

noncomputable def slices_IndexFunc_SList_m1  : (Out Unit Int) → Option Int
  | .brk (()) => slices_IndexFunc_SList_j1
  | .ret r => some r

noncomputable def slices_IndexFunc_SList (s : List SList) (f : (SList → Option Bool)) : Option Int :=
  (loop (slices_IndexFunc_SList_l1 s f) 0).bind (slices_IndexFunc_SList_m1)

noncomputable def slices_ContainsFunc_SList (s : List SList) (f : (SList → Option Bool)) : Option Bool :=
  (slices_IndexFunc_SList s f).bind fun x1 => some (decide (0 ≤ x1))

noncomputable def slices_Index_int_j1  : Option Int :=
  some ((-1))

noncomputable def slices_Index_int_l1 (s : List Int) (v : Int) : Int → Option (Step Int (Out Unit Int))
  | x2 => (if decide (x2 < ((s.length : Int))) then (idx s x2).bind fun x3 => (if v == x3 then some (.stop (Out.ret x2)) else some (.next (w64 (x2 + 1)))) else some (.stop (Out.brk (()))))

noncomputable def slices_Index_int_m1  : (Out Unit Int) → Option Int
  | .brk (()) => slices_Index_int_j1
  | .ret r => some r

noncomputable def slices_Index_int (s : List Int) (v : Int) : Option Int :=
  (loop (slices_Index_int_l1 s v) 0).bind (slices_Index_int_m1)

noncomputable def slices_Contains_int (s : List Int) (v : Int) : Option Bool :=
  (slices_Index_int s v).bind fun x1 => some (decide (0 ≤ x1))

noncomputable def impl_OnList_1 (s : SList) (k0 : Int) : Option Bool :=
  (slices_Contains_int s.Slots k0).bind fun x1 => some x1

noncomputable def impl_OnList_j1 (x1 : Bool) : Option Bool :=
  some x1

noncomputable def impl_OnList (l : Lists) (slot : Int) : Option Bool :=
  (slices_ContainsFunc_SList l.Global ((fun y0 => impl_OnList_1 y0 slot))).bind fun x2 => (if x2 then impl_OnList_j1 true else (slices_ContainsFunc_SList l.Own ((fun y0 => impl_OnList_1 y0 slot))).bind fun x3 => impl_OnList_j1 x3)

noncomputable def impl_stateOf (m : Mem) (slot : Int) : Option Int :=
  (impl_classIn m.Heap slot).bind fun x1 => (if decide (x1 < 0) then some 0 else (impl_OnList m.Lists slot).bind fun x2 => (if x2 then some 1 else (impl_GenIn m.Heap slot).bind fun x3 => (if decide (6 < x3) then some 2 else some 3)))

noncomputable def impl_isLive_j1 (x1 : Bool) : Option Bool :=
  some x1

noncomputable def impl_isLive (m : Mem) (h : Int) : Option Bool :=
  (impl_HandleOk h).bind fun x2 => (if x2 then (impl_stateOf m (Int.tmod h 32)).bind fun x3 => (if x3 == 3 then (impl_GenIn m.Heap (Int.tmod h 32)).bind fun x4 => impl_isLive_j1 (x4 == (w64 (Int.tdiv h 32))) else impl_isLive_j1 false) else impl_isLive_j1 false)

noncomputable def impl_BaseOk_1_1_j1 (x1 : Bool) : Option Bool :=
  some x1

noncomputable def impl_BaseOk_1_1 (r_ : LRow) (k0 : Base) : Option Bool :=
  (impl_isLive k0.Mem r_.Handle).bind fun x2 => (if !x2 then impl_BaseOk_1_1_j1 true else impl_BaseOk_1_1_j1 (decide (k0.Clock.Epoch < r_.Epoch)))

noncomputable def impl_BaseOk_1 (l : LList) (k0 : Base) : Option Bool :=
  (slices_ContainsFunc_LRow l.Rows ((fun y0 => impl_BaseOk_1_1 y0 k0))).bind fun x1 => some x1

noncomputable def impl_BaseOk_j1 (b : Base) (x1 : Bool) : Option Bool :=
  (if x1 then some false else (slices_ContainsFunc_LList b.Limbo ((fun y0 => impl_BaseOk_1 y0 b))).bind fun x2 => some (!x2))

noncomputable def impl_BaseOk (b : Base) : Option Bool :=
  (impl_MemOk b.Mem).bind fun x3 => (if !x3 then impl_BaseOk_j1 b true else (impl_ClockOk b.Clock).bind fun x4 => (if !x4 then impl_BaseOk_j1 b true else (impl_LimboOk b.Limbo).bind fun x5 => (if !x5 then impl_BaseOk_j1 b true else (impl_HazOk b.Haz).bind fun x6 => impl_BaseOk_j1 b (!x6))))

noncomputable def impl_Var_j1 (x6 : Int) (x7 : List UInt8) : Option ((List UInt8)) :=
  need (x7.length + ([u8 x6]).length ≤ 1073741824) (some (x7 ++ ([u8 x6])))

noncomputable def impl_Var_l1  : (Int × (List UInt8)) → Option (Step (Int × (List UInt8)) (Int × (List UInt8)))
  | (x4, x5) => (if decide (127 < x4) then need (x5.length + ([u8 (bitsOp .or .i64 (bitsOp .and .i64 x4 127) 128)]).length ≤ 1073741824) (some (.next ((shrOp .i64 x4 7, x5 ++ ([u8 (bitsOp .or .i64 (bitsOp .and .i64 x4 127) 128)]))))) else some (.stop ((x4, x5))))

noncomputable def impl_Var_m1  : (Int × (List UInt8)) → Option ((List UInt8))
  | (x6, x7) => impl_Var_j1 x6 x7

noncomputable def impl_Var (n : Int) : Option ((List UInt8)) :=
  (impl_within n 0 562949953421311).bind fun x1 => (if !x1 then some ([]) else (loop (impl_Var_l1) ((n, []))).bind (impl_Var_m1))

noncomputable def impl_showList_j1 (x6 : List UInt8) : Option ((List UInt8)) :=
  some x6

noncomputable def impl_showList_l1 (s : SList) : ((List UInt8) × Int) → Option (Step ((List UInt8) × Int) ((List UInt8)))
  | (x4, x5) => (if decide (x5 < ((s.Slots.length : Int))) then (idx s.Slots x5).bind fun x7 => (impl_Var x7).bind fun x8 => need (x4.length + x8.length ≤ 9223372036854775807) (some (.next ((x4 ++ x8, w64 (x5 + 1))))) else some (.stop (x4)))

noncomputable def impl_showList_m1  : ((List UInt8)) → Option ((List UInt8))
  | x6 => impl_showList_j1 x6

noncomputable def impl_showList (s : SList) : Option ((List UInt8)) :=
  (impl_Var ((s.Slots.length : Int))).bind fun x1 => (loop (impl_showList_l1 s) ((x1, 0))).bind (impl_showList_m1)

noncomputable def impl_ShowMem_j4 (x21 : List UInt8) : Option ((List UInt8)) :=
  some x21

noncomputable def impl_ShowMem_l4 (m : Mem) : ((List UInt8) × Int) → Option (Step ((List UInt8) × Int) ((List UInt8)))
  | (x19, x20) => (if decide (x20 < ((m.Lists.Own.length : Int))) then (idx m.Lists.Own x20).bind fun x22 => (impl_showList x22).bind fun x23 => need (x19.length + x23.length ≤ 9223372036854775807) (some (.next ((x19 ++ x23, w64 (x20 + 1))))) else some (.stop (x19)))

noncomputable def impl_ShowMem_m4  : ((List UInt8)) → Option ((List UInt8))
  | x21 => impl_ShowMem_j4 x21

noncomputable def impl_ShowMem_j3 (m : Mem) (x16 : List UInt8) : Option ((List UInt8)) :=
  (loop (impl_ShowMem_l4 m) ((x16, 0))).bind (impl_ShowMem_m4)

noncomputable def impl_ShowMem_l3 (m : Mem) : ((List UInt8) × Int) → Option (Step ((List UInt8) × Int) ((List UInt8)))
  | (x14, x15) => (if decide (x15 < ((m.Lists.Global.length : Int))) then (idx m.Lists.Global x15).bind fun x24 => (impl_showList x24).bind fun x25 => need (x14.length + x25.length ≤ 9223372036854775807) (some (.next ((x14 ++ x25, w64 (x15 + 1))))) else some (.stop (x14)))

noncomputable def impl_ShowMem_m3 (m : Mem) : ((List UInt8)) → Option ((List UInt8))
  | x16 => impl_ShowMem_j3 m x16

noncomputable def impl_ShowMem_j2 (m : Mem) (x11 : List UInt8) : Option ((List UInt8)) :=
  (loop (impl_ShowMem_l3 m) ((x11, 0))).bind (impl_ShowMem_m3 m)

noncomputable def impl_ShowMem_l2 (m : Mem) : ((List UInt8) × Int) → Option (Step ((List UInt8) × Int) ((List UInt8)))
  | (x9, x10) => (if decide (x10 < ((m.Heap.Class.length : Int))) then (idx m.Heap.Class x10).bind fun x26 => need (x9.length + ([u8 (w64 (x26 + 1))]).length ≤ 1073741824) (some (.next ((x9 ++ ([u8 (w64 (x26 + 1))]), w64 (x10 + 1))))) else some (.stop (x9)))

noncomputable def impl_ShowMem_m2 (m : Mem) : ((List UInt8)) → Option ((List UInt8))
  | x11 => impl_ShowMem_j2 m x11

noncomputable def impl_ShowMem_j1 (m : Mem) (x6 : List UInt8) : Option ((List UInt8)) :=
  (loop (impl_ShowMem_l2 m) ((x6, 0))).bind (impl_ShowMem_m2 m)

noncomputable def impl_ShowMem_l1 (m : Mem) : ((List UInt8) × Int) → Option (Step ((List UInt8) × Int) ((List UInt8)))
  | (x4, x5) => (if decide (x5 < ((m.Heap.Bytes.length : Int))) then (idx m.Heap.Bytes x5).bind fun x27 => need (x4.length + ([u8 x27]).length ≤ 1073741824) (some (.next ((x4 ++ ([u8 x27]), w64 (x5 + 1))))) else some (.stop (x4)))

noncomputable def impl_ShowMem_m1 (m : Mem) : ((List UInt8)) → Option ((List UInt8))
  | x6 => impl_ShowMem_j1 m x6

noncomputable def impl_ShowMem (m : Mem) : Option ((List UInt8)) :=
  (impl_MemOk m).bind fun x1 => (if !x1 then some ([]) else (loop (impl_ShowMem_l1 m) (([], 0))).bind (impl_ShowMem_m1 m))

noncomputable def impl_flag (is : Bool) : Option Int :=
  (if is then some 1 else some 0)

noncomputable def impl_ShowBase_j3 (x18 : List UInt8) : Option ((List UInt8)) :=
  some x18

noncomputable def impl_ShowBase_l3 (b : Base) : ((List UInt8) × Int) → Option (Step ((List UInt8) × Int) ((List UInt8)))
  | (x16, x17) => (if decide (x17 < ((b.Haz.length : Int))) then (idx b.Haz x17).bind fun x19 => (impl_Var x19).bind fun x20 => need (x16.length + x20.length ≤ 9223372036854775807) (some (.next ((x16 ++ x20, w64 (x17 + 1))))) else some (.stop (x16)))

noncomputable def impl_ShowBase_m3  : ((List UInt8)) → Option ((List UInt8))
  | x18 => impl_ShowBase_j3 x18

noncomputable def impl_ShowBase_j2 (b : Base) (x13 : List UInt8) : Option ((List UInt8)) :=
  (loop (impl_ShowBase_l3 b) ((x13, 0))).bind (impl_ShowBase_m3)

noncomputable def impl_ShowBase_j4 (x12 : Int) (x27 : List UInt8) : Option (Step ((List UInt8) × Int) ((List UInt8))) :=
  some (.next ((x27, w64 (x12 + 1))))

noncomputable def impl_ShowBase_l4 (x21 : LList) : ((List UInt8) × Int) → Option (Step ((List UInt8) × Int) ((List UInt8)))
  | (x25, x26) => (if decide (x26 < ((x21.Rows.length : Int))) then (idx x21.Rows x26).bind fun x28 => (impl_Var x28.Handle).bind fun x29 => (impl_Var x28.Epoch).bind fun x30 => need (x29.length + x30.length ≤ 9223372036854775807) (need (x25.length + (x29 ++ x30).length ≤ 9223372036854775807) (some (.next ((x25 ++ (x29 ++ x30), w64 (x26 + 1)))))) else some (.stop (x25)))

noncomputable def impl_ShowBase_m4 (x12 : Int) : ((List UInt8)) → Option (Step ((List UInt8) × Int) ((List UInt8)))
  | x27 => impl_ShowBase_j4 x12 x27

noncomputable def impl_ShowBase_l2 (b : Base) : ((List UInt8) × Int) → Option (Step ((List UInt8) × Int) ((List UInt8)))
  | (x11, x12) => (if decide (x12 < ((b.Limbo.length : Int))) then (idx b.Limbo x12).bind fun x21 => (impl_Var ((x21.Rows.length : Int))).bind fun x22 => need (x11.length + x22.length ≤ 9223372036854775807) ((loop (impl_ShowBase_l4 x21) ((x11 ++ x22, 0))).bind (impl_ShowBase_m4 x12)) else some (.stop (x11)))

noncomputable def impl_ShowBase_m2 (b : Base) : ((List UInt8)) → Option ((List UInt8))
  | x13 => impl_ShowBase_j2 b x13

noncomputable def impl_ShowBase_j1 (b : Base) (x8 : List UInt8) : Option ((List UInt8)) :=
  (loop (impl_ShowBase_l2 b) ((x8, 0))).bind (impl_ShowBase_m2 b)

noncomputable def impl_ShowBase_l1 (b : Base) : ((List UInt8) × Int) → Option (Step ((List UInt8) × Int) ((List UInt8)))
  | (x6, x7) => (if decide (x7 < ((b.Clock.Pins.length : Int))) then (idx b.Clock.Pins x7).bind fun x31 => (impl_flag x31.On).bind fun x32 => (impl_Var x32).bind fun x33 => (impl_Var x31.Epoch).bind fun x34 => need (x33.length + x34.length ≤ 9223372036854775807) ((impl_flag x31.Marked).bind fun x35 => (impl_Var x35).bind fun x36 => need ((x33 ++ x34).length + x36.length ≤ 9223372036854775807) ((impl_Var x31.Seen).bind fun x37 => need (((x33 ++ x34) ++ x36).length + x37.length ≤ 9223372036854775807) (need (x6.length + (((x33 ++ x34) ++ x36) ++ x37).length ≤ 9223372036854775807) (some (.next ((x6 ++ (((x33 ++ x34) ++ x36) ++ x37), w64 (x7 + 1)))))))) else some (.stop (x6)))

noncomputable def impl_ShowBase_m1 (b : Base) : ((List UInt8)) → Option ((List UInt8))
  | x8 => impl_ShowBase_j1 b x8

noncomputable def impl_ShowBase (b : Base) : Option ((List UInt8)) :=
  (impl_BaseOk b).bind fun x1 => (if !x1 then some ([]) else (impl_ShowMem b.Mem).bind fun x2 => (impl_Var b.Clock.Epoch).bind fun x3 => need (x2.length + x3.length ≤ 9223372036854775807) ((loop (impl_ShowBase_l1 b) ((x2 ++ x3, 0))).bind (impl_ShowBase_m1 b)))

noncomputable def impl_ReadBase_j4 (x1 : Mem × Reader) (x2 : Int × Reader) (x13 : List Pin) (x24 : List LList) (x35 : List Int) (x36 : Bool) : Option (Base × Bool) :=
  (if x36 then some (((⟨(⟨(⟨[], []⟩ : Heap), (⟨[], []⟩ : Lists)⟩ : Mem), (⟨0, []⟩ : Clock), [], []⟩ : Base), false)) else some (((⟨x1.1, (⟨x2.1, x13⟩ : Clock), x24, x35⟩ : Base), true)))

noncomputable def impl_ReadBase_j3 (s : List UInt8) (x1 : Mem × Reader) (x2 : Int × Reader) (x13 : List Pin) (x24 : List LList) (x33 : List UInt8) (x34 : Bool) (x35 : List Int) : Option (Base × Bool) :=
  (if x34 then impl_ReadBase_j4 x1 x2 x13 x24 x35 true else (impl_BaseOk ((⟨x1.1, (⟨x2.1, x13⟩ : Clock), x24, x35⟩ : Base))).bind fun x37 => (if !x37 then impl_ReadBase_j4 x1 x2 x13 x24 x35 true else (impl_ShowBase ((⟨x1.1, (⟨x2.1, x13⟩ : Clock), x24, x35⟩ : Base))).bind fun x38 => impl_ReadBase_j4 x1 x2 x13 x24 x35 (!(x38 == s))))

noncomputable def impl_ReadBase_j5 (x29 : Int) (x39 : List UInt8) (x40 : Bool) (x41 : List Int) : Option (Step (Int × (List UInt8) × Bool × (List Int)) ((List UInt8) × Bool × (List Int))) :=
  some (.next ((w64 (x29 + 1), x39, x40, x41)))

noncomputable def impl_ReadBase_l3  : (Int × (List UInt8) × Bool × (List Int)) → Option (Step (Int × (List UInt8) × Bool × (List Int)) ((List UInt8) × Bool × (List Int)))
  | (x29, x30, x31, x32) => (if decide (x29 < 3) then (impl_reader_number ((⟨(⟨x30⟩ : GStr), x31⟩ : Reader))).bind fun x42 => need (x32.length + ([x42.1]).length ≤ 1073741824) <| impl_ReadBase_j5 x29 x42.2.left.b x42.2.bad (x32 ++ ([x42.1])) else some (.stop ((x30, x31, x32))))

noncomputable def impl_ReadBase_m3 (s : List UInt8) (x1 : Mem × Reader) (x2 : Int × Reader) (x13 : List Pin) (x24 : List LList) : ((List UInt8) × Bool × (List Int)) → Option (Base × Bool)
  | (x33, x34, x35) => impl_ReadBase_j3 s x1 x2 x13 x24 x33 x34 x35

noncomputable def impl_ReadBase_j2 (s : List UInt8) (x1 : Mem × Reader) (x2 : Int × Reader) (x13 : List Pin) (x22 : List UInt8) (x23 : Bool) (x24 : List LList) : Option (Base × Bool) :=
  (loop (impl_ReadBase_l3) ((0, x22, x23, []))).bind (impl_ReadBase_m3 s x1 x2 x13 x24)

noncomputable def impl_ReadBase_j6 (x18 : Int) (x21 : List LList) (x52 : List UInt8) (x53 : Bool) (x54 : List LRow) : Option (Step (Int × (List UInt8) × Bool × (List LList)) ((List UInt8) × Bool × (List LList))) :=
  need (x21.length + ([(⟨x54⟩ : LList)]).length ≤ 1073741824) (some (.next ((w64 (x18 + 1), x52, x53, x21 ++ ([(⟨x54⟩ : LList)])))))

noncomputable def impl_ReadBase_l6 (x43 : Int × Reader) : (Int × (List UInt8) × Bool × (List LRow)) → Option (Step (Int × (List UInt8) × Bool × (List LRow)) ((List UInt8) × Bool × (List LRow)))
  | (x48, x49, x50, x51) => (if decide (x48 < x43.1) then (impl_reader_number ((⟨(⟨x49⟩ : GStr), x50⟩ : Reader))).bind fun x55 => (impl_reader_number x55.2).bind fun x56 => need (x51.length + ([(⟨x55.1, x56.1⟩ : LRow)]).length ≤ 1073741824) (some (.next ((w64 (x48 + 1), x56.2.left.b, x56.2.bad, x51 ++ ([(⟨x55.1, x56.1⟩ : LRow)]))))) else some (.stop ((x49, x50, x51))))

noncomputable def impl_ReadBase_m6 (x18 : Int) (x21 : List LList) : ((List UInt8) × Bool × (List LRow)) → Option (Step (Int × (List UInt8) × Bool × (List LList)) ((List UInt8) × Bool × (List LList)))
  | (x52, x53, x54) => impl_ReadBase_j6 x18 x21 x52 x53 x54

noncomputable def impl_ReadBase_l2  : (Int × (List UInt8) × Bool × (List LList)) → Option (Step (Int × (List UInt8) × Bool × (List LList)) ((List UInt8) × Bool × (List LList)))
  | (x18, x19, x20, x21) => (if decide (x18 < 3) then (impl_reader_count ((⟨(⟨x19⟩ : GStr), x20⟩ : Reader))).bind fun x43 => (loop (impl_ReadBase_l6 x43) ((0, x43.2.left.b, x43.2.bad, []))).bind (impl_ReadBase_m6 x18 x21) else some (.stop ((x19, x20, x21))))

noncomputable def impl_ReadBase_m2 (s : List UInt8) (x1 : Mem × Reader) (x2 : Int × Reader) (x13 : List Pin) : ((List UInt8) × Bool × (List LList)) → Option (Base × Bool)
  | (x22, x23, x24) => impl_ReadBase_j2 s x1 x2 x13 x22 x23 x24

noncomputable def impl_ReadBase_j1 (s : List UInt8) (x1 : Mem × Reader) (x2 : Int × Reader) (x11 : List UInt8) (x12 : Bool) (x13 : List Pin) : Option (Base × Bool) :=
  (loop (impl_ReadBase_l2) ((0, x11, x12, []))).bind (impl_ReadBase_m2 s x1 x2 x13)

noncomputable def impl_ReadBase_l1  : (Int × (List UInt8) × Bool × (List Pin)) → Option (Step (Int × (List UInt8) × Bool × (List Pin)) ((List UInt8) × Bool × (List Pin)))
  | (x7, x8, x9, x10) => (if decide (x7 < 3) then (impl_reader_number ((⟨(⟨x8⟩ : GStr), x9⟩ : Reader))).bind fun x57 => (impl_reader_number x57.2).bind fun x58 => (impl_reader_number x58.2).bind fun x59 => (impl_reader_number x59.2).bind fun x60 => need (x10.length + ([(⟨x57.1 == 1, x58.1, x59.1 == 1, x60.1⟩ : Pin)]).length ≤ 1073741824) (some (.next ((w64 (x7 + 1), x60.2.left.b, x60.2.bad, x10 ++ ([(⟨x57.1 == 1, x58.1, x59.1 == 1, x60.1⟩ : Pin)]))))) else some (.stop ((x8, x9, x10))))

noncomputable def impl_ReadBase_m1 (s : List UInt8) (x1 : Mem × Reader) (x2 : Int × Reader) : ((List UInt8) × Bool × (List Pin)) → Option (Base × Bool)
  | (x11, x12, x13) => impl_ReadBase_j1 s x1 x2 x11 x12 x13

noncomputable def impl_ReadBase (s : List UInt8) : Option (Base × Bool) :=
  (impl_reader_mem ((⟨(⟨s⟩ : GStr), false⟩ : Reader))).bind fun x1 => (impl_reader_number x1.2).bind fun x2 => (loop (impl_ReadBase_l1) ((0, x2.2.left.b, x2.2.bad, []))).bind (impl_ReadBase_m1 s x1 x2)

noncomputable def laws_eqIntS_j1  : Option Bool :=
  some true

noncomputable def laws_eqIntS_l1 (a_ : List Int) (b : List Int) : Int → Option (Step Int (Out Unit Bool))
  | x2 => (if decide (x2 < ((a_.length : Int))) then (idx a_ x2).bind fun x3 => (idx b x2).bind fun x4 => (if x3 != x4 then some (.stop (Out.ret false)) else some (.next (w64 (x2 + 1)))) else some (.stop (Out.brk (()))))

noncomputable def laws_eqIntS_m1  : (Out Unit Bool) → Option Bool
  | .brk (()) => laws_eqIntS_j1
  | .ret r => some r

noncomputable def laws_eqIntS (a_ : List Int) (b : List Int) : Option Bool :=
  (if ((a_.length : Int)) != ((b.length : Int)) then some false else (loop (laws_eqIntS_l1 a_ b) 0).bind (laws_eqIntS_m1))

noncomputable def laws_eqHeap (a_ : Heap) (b : Heap) : Option Bool :=
  (laws_eqIntS a_.Bytes b.Bytes).bind fun x1 => (if !x1 then some false else (laws_eqIntS a_.Class b.Class).bind fun x2 => (if !x2 then some false else some true))

noncomputable def laws_eqSList (a_ : SList) (b : SList) : Option Bool :=
  (laws_eqIntS a_.Slots b.Slots).bind fun x1 => (if !x1 then some false else some true)

noncomputable def laws_eqSListS_j1  : Option Bool :=
  some true

noncomputable def laws_eqSListS_l1 (a_ : List SList) (b : List SList) : Int → Option (Step Int (Out Unit Bool))
  | x2 => (if decide (x2 < ((a_.length : Int))) then (idx a_ x2).bind fun x3 => (idx b x2).bind fun x4 => (laws_eqSList x3 x4).bind fun x5 => (if !x5 then some (.stop (Out.ret false)) else some (.next (w64 (x2 + 1)))) else some (.stop (Out.brk (()))))

noncomputable def laws_eqSListS_m1  : (Out Unit Bool) → Option Bool
  | .brk (()) => laws_eqSListS_j1
  | .ret r => some r

noncomputable def laws_eqSListS (a_ : List SList) (b : List SList) : Option Bool :=
  (if ((a_.length : Int)) != ((b.length : Int)) then some false else (loop (laws_eqSListS_l1 a_ b) 0).bind (laws_eqSListS_m1))

noncomputable def laws_eqLists (a_ : Lists) (b : Lists) : Option Bool :=
  (laws_eqSListS a_.Global b.Global).bind fun x1 => (if !x1 then some false else (laws_eqSListS a_.Own b.Own).bind fun x2 => (if !x2 then some false else some true))

noncomputable def laws_eqMem (a_ : Mem) (b : Mem) : Option Bool :=
  (laws_eqHeap a_.Heap b.Heap).bind fun x1 => (if !x1 then some false else (laws_eqLists a_.Lists b.Lists).bind fun x2 => (if !x2 then some false else some true))

noncomputable def laws_eqPin (a_ : Pin) (b : Pin) : Option Bool :=
  (if !(a_.On == b.On) then some false else (if a_.Epoch != b.Epoch then some false else (if !(a_.Marked == b.Marked) then some false else (if a_.Seen != b.Seen then some false else some true))))

noncomputable def laws_eqPinS_j1  : Option Bool :=
  some true

noncomputable def laws_eqPinS_l1 (a_ : List Pin) (b : List Pin) : Int → Option (Step Int (Out Unit Bool))
  | x2 => (if decide (x2 < ((a_.length : Int))) then (idx a_ x2).bind fun x3 => (idx b x2).bind fun x4 => (laws_eqPin x3 x4).bind fun x5 => (if !x5 then some (.stop (Out.ret false)) else some (.next (w64 (x2 + 1)))) else some (.stop (Out.brk (()))))

noncomputable def laws_eqPinS_m1  : (Out Unit Bool) → Option Bool
  | .brk (()) => laws_eqPinS_j1
  | .ret r => some r

noncomputable def laws_eqPinS (a_ : List Pin) (b : List Pin) : Option Bool :=
  (if ((a_.length : Int)) != ((b.length : Int)) then some false else (loop (laws_eqPinS_l1 a_ b) 0).bind (laws_eqPinS_m1))

noncomputable def laws_eqClock (a_ : Clock) (b : Clock) : Option Bool :=
  (if a_.Epoch != b.Epoch then some false else (laws_eqPinS a_.Pins b.Pins).bind fun x1 => (if !x1 then some false else some true))

noncomputable def laws_eqLRow (a_ : LRow) (b : LRow) : Option Bool :=
  (if a_.Handle != b.Handle then some false else (if a_.Epoch != b.Epoch then some false else some true))

noncomputable def laws_eqLRowS_j1  : Option Bool :=
  some true

noncomputable def laws_eqLRowS_l1 (a_ : List LRow) (b : List LRow) : Int → Option (Step Int (Out Unit Bool))
  | x2 => (if decide (x2 < ((a_.length : Int))) then (idx a_ x2).bind fun x3 => (idx b x2).bind fun x4 => (laws_eqLRow x3 x4).bind fun x5 => (if !x5 then some (.stop (Out.ret false)) else some (.next (w64 (x2 + 1)))) else some (.stop (Out.brk (()))))

noncomputable def laws_eqLRowS_m1  : (Out Unit Bool) → Option Bool
  | .brk (()) => laws_eqLRowS_j1
  | .ret r => some r

noncomputable def laws_eqLRowS (a_ : List LRow) (b : List LRow) : Option Bool :=
  (if ((a_.length : Int)) != ((b.length : Int)) then some false else (loop (laws_eqLRowS_l1 a_ b) 0).bind (laws_eqLRowS_m1))

noncomputable def laws_eqLList (a_ : LList) (b : LList) : Option Bool :=
  (laws_eqLRowS a_.Rows b.Rows).bind fun x1 => (if !x1 then some false else some true)

noncomputable def laws_eqLListS_j1  : Option Bool :=
  some true

noncomputable def laws_eqLListS_l1 (a_ : List LList) (b : List LList) : Int → Option (Step Int (Out Unit Bool))
  | x2 => (if decide (x2 < ((a_.length : Int))) then (idx a_ x2).bind fun x3 => (idx b x2).bind fun x4 => (laws_eqLList x3 x4).bind fun x5 => (if !x5 then some (.stop (Out.ret false)) else some (.next (w64 (x2 + 1)))) else some (.stop (Out.brk (()))))

noncomputable def laws_eqLListS_m1  : (Out Unit Bool) → Option Bool
  | .brk (()) => laws_eqLListS_j1
  | .ret r => some r

noncomputable def laws_eqLListS (a_ : List LList) (b : List LList) : Option Bool :=
  (if ((a_.length : Int)) != ((b.length : Int)) then some false else (loop (laws_eqLListS_l1 a_ b) 0).bind (laws_eqLListS_m1))

noncomputable def laws_eqBase (a_ : Base) (b : Base) : Option Bool :=
  (laws_eqMem a_.Mem b.Mem).bind fun x1 => (if !x1 then some false else (laws_eqClock a_.Clock b.Clock).bind fun x2 => (if !x2 then some false else (laws_eqLListS a_.Limbo b.Limbo).bind fun x3 => (if !x3 then some false else (laws_eqIntS a_.Haz b.Haz).bind fun x4 => (if !x4 then some false else some true))))

noncomputable def laws_markIntS_j1 (x7 : List Int) (x8 : Int) : Option (Int × (List Int)) :=
  some ((x8, x7))

noncomputable def laws_markIntS_l1  : ((List Int) × Int × Int) → Option (Step ((List Int) × Int × Int) ((List Int) × Int))
  | (x4, x5, x6) => (if decide (x6 < ((x4.length : Int))) then (idx x4 x6).bind fun x9 => some (.next ((x4.set (x6.toNat) x5, w64 (x5 + 1), w64 (x6 + 1)))) else some (.stop ((x4, x5))))

noncomputable def laws_markIntS_m1  : ((List Int) × Int) → Option (Int × (List Int))
  | (x7, x8) => laws_markIntS_j1 x7 x8

noncomputable def laws_markIntS (a_ : List Int) (k : Int) : Option (Int × (List Int)) :=
  (loop (laws_markIntS_l1) ((a_, k, 0))).bind (laws_markIntS_m1)

noncomputable def laws_markHeap (a_ : Heap) (k : Int) : Option (Int × (List Int) × (List Int)) :=
  (laws_markIntS a_.Bytes k).bind fun x1 => (laws_markIntS a_.Class x1.1).bind fun x2 => some ((x2.1, x1.2, x2.2))

noncomputable def laws_markSListS_j1 (x7 : List SList) (x8 : Int) : Option (Int × (List SList)) :=
  some ((x8, x7))

noncomputable def laws_markSListS_l1  : ((List SList) × Int × Int) → Option (Step ((List SList) × Int × Int) ((List SList) × Int))
  | (x4, x5, x6) => (if decide (x6 < ((x4.length : Int))) then (idx x4 x6).bind fun x9 => (laws_markIntS x9.Slots x5).bind fun x10 => some (.next ((x4.set x6.toNat ((⟨x10.2⟩ : SList)), x10.1, w64 (x6 + 1)))) else some (.stop ((x4, x5))))

noncomputable def laws_markSListS_m1  : ((List SList) × Int) → Option (Int × (List SList))
  | (x7, x8) => laws_markSListS_j1 x7 x8

noncomputable def laws_markSListS (a_ : List SList) (k : Int) : Option (Int × (List SList)) :=
  (loop (laws_markSListS_l1) ((a_, k, 0))).bind (laws_markSListS_m1)

noncomputable def laws_markLists (a_ : Lists) (k : Int) : Option (Int × (List SList) × (List SList)) :=
  (laws_markSListS a_.Global k).bind fun x1 => (laws_markSListS a_.Own x1.1).bind fun x2 => some ((x2.1, x1.2, x2.2))

noncomputable def laws_markMem (a_ : Mem) (k : Int) : Option (Int × (List Int) × (List Int) × (List SList) × (List SList)) :=
  (laws_markHeap a_.Heap k).bind fun x1 => (laws_markLists a_.Lists x1.1).bind fun x2 => some ((x2.1, x1.2.1, x1.2.2, x2.2.1, x2.2.2))

noncomputable def laws_markPinS_j1 (x7 : List Pin) (x8 : Int) : Option (Int × (List Pin)) :=
  some ((x8, x7))

noncomputable def laws_markPinS_l1  : ((List Pin) × Int × Int) → Option (Step ((List Pin) × Int × Int) ((List Pin) × Int))
  | (x4, x5, x6) => (if decide (x6 < ((x4.length : Int))) then (idx x4 x6).bind fun x9 => (idx (x4.set (x6.toNat) ((⟨(Int.tmod x5 3) == 0, x9.Epoch, x9.Marked, x9.Seen⟩ : Pin))) x6).bind fun x10 => (idx ((x4.set (x6.toNat) ((⟨(Int.tmod x5 3) == 0, x9.Epoch, x9.Marked, x9.Seen⟩ : Pin))).set (x6.toNat) ((⟨x10.On, w64 (x5 + 1), x10.Marked, x10.Seen⟩ : Pin))) x6).bind fun x11 => (idx (((x4.set (x6.toNat) ((⟨(Int.tmod x5 3) == 0, x9.Epoch, x9.Marked, x9.Seen⟩ : Pin))).set (x6.toNat) ((⟨x10.On, w64 (x5 + 1), x10.Marked, x10.Seen⟩ : Pin))).set (x6.toNat) ((⟨x11.On, x11.Epoch, (Int.tmod (w64 ((w64 (x5 + 1)) + 1)) 3) == 0, x11.Seen⟩ : Pin))) x6).bind fun x12 => some (.next (((((x4.set (x6.toNat) ((⟨(Int.tmod x5 3) == 0, x9.Epoch, x9.Marked, x9.Seen⟩ : Pin))).set (x6.toNat) ((⟨x10.On, w64 (x5 + 1), x10.Marked, x10.Seen⟩ : Pin))).set (x6.toNat) ((⟨x11.On, x11.Epoch, (Int.tmod (w64 ((w64 (x5 + 1)) + 1)) 3) == 0, x11.Seen⟩ : Pin))).set (x6.toNat) ((⟨x12.On, x12.Epoch, x12.Marked, w64 ((w64 ((w64 (x5 + 1)) + 1)) + 1)⟩ : Pin)), w64 ((w64 ((w64 ((w64 (x5 + 1)) + 1)) + 1)) + 1), w64 (x6 + 1)))) else some (.stop ((x4, x5))))

noncomputable def laws_markPinS_m1  : ((List Pin) × Int) → Option (Int × (List Pin))
  | (x7, x8) => laws_markPinS_j1 x7 x8

noncomputable def laws_markPinS (a_ : List Pin) (k : Int) : Option (Int × (List Pin)) :=
  (loop (laws_markPinS_l1) ((a_, k, 0))).bind (laws_markPinS_m1)

noncomputable def laws_markClock (a_ : Clock) (k : Int) : Option (Int × (List Pin)) :=
  (laws_markPinS a_.Pins k).bind fun x1 => some ((x1.1, x1.2))

noncomputable def laws_markLRowS_j1 (x7 : List LRow) (x8 : Int) : Option (Int × (List LRow)) :=
  some ((x8, x7))

noncomputable def laws_markLRowS_l1  : ((List LRow) × Int × Int) → Option (Step ((List LRow) × Int × Int) ((List LRow) × Int))
  | (x4, x5, x6) => (if decide (x6 < ((x4.length : Int))) then (idx x4 x6).bind fun x9 => (idx (x4.set (x6.toNat) ((⟨x5, x9.Epoch⟩ : LRow))) x6).bind fun x10 => some (.next (((x4.set (x6.toNat) ((⟨x5, x9.Epoch⟩ : LRow))).set (x6.toNat) ((⟨x10.Handle, w64 (x5 + 1)⟩ : LRow)), w64 ((w64 (x5 + 1)) + 1), w64 (x6 + 1)))) else some (.stop ((x4, x5))))

noncomputable def laws_markLRowS_m1  : ((List LRow) × Int) → Option (Int × (List LRow))
  | (x7, x8) => laws_markLRowS_j1 x7 x8

noncomputable def laws_markLRowS (a_ : List LRow) (k : Int) : Option (Int × (List LRow)) :=
  (loop (laws_markLRowS_l1) ((a_, k, 0))).bind (laws_markLRowS_m1)

noncomputable def laws_markLListS_j1 (x7 : List LList) (x8 : Int) : Option (Int × (List LList)) :=
  some ((x8, x7))

noncomputable def laws_markLListS_l1  : ((List LList) × Int × Int) → Option (Step ((List LList) × Int × Int) ((List LList) × Int))
  | (x4, x5, x6) => (if decide (x6 < ((x4.length : Int))) then (idx x4 x6).bind fun x9 => (laws_markLRowS x9.Rows x5).bind fun x10 => some (.next ((x4.set x6.toNat ((⟨x10.2⟩ : LList)), x10.1, w64 (x6 + 1)))) else some (.stop ((x4, x5))))

noncomputable def laws_markLListS_m1  : ((List LList) × Int) → Option (Int × (List LList))
  | (x7, x8) => laws_markLListS_j1 x7 x8

noncomputable def laws_markLListS (a_ : List LList) (k : Int) : Option (Int × (List LList)) :=
  (loop (laws_markLListS_l1) ((a_, k, 0))).bind (laws_markLListS_m1)

noncomputable def laws_markBase (a_ : Base) (k : Int) : Option (Int × (List Int) × (List Int) × (List SList) × (List SList) × (List Pin) × (List LList) × (List Int)) :=
  (laws_markMem a_.Mem k).bind fun x1 => (laws_markClock a_.Clock x1.1).bind fun x2 => (laws_markLListS a_.Limbo x2.1).bind fun x3 => (laws_markIntS a_.Haz x3.1).bind fun x4 => some ((x4.1, x1.2.1, x1.2.2.1, x1.2.2.2.1, x1.2.2.2.2, x2.2, x3.2, x4.2))

noncomputable def laws_heldIntS_j1 (x5 : Int) : Option Int :=
  some x5

noncomputable def laws_heldIntS_l1 (a_ : List Int) : (Int × Int) → Option (Step (Int × Int) (Out Int Int))
  | (x3, x4) => (if decide (x4 < ((a_.length : Int))) then (idx a_ x4).bind fun x6 => (if x6 != x3 then some (.stop (Out.ret ((-1)))) else some (.next ((w64 (x3 + 1), w64 (x4 + 1))))) else some (.stop (Out.brk x3)))

noncomputable def laws_heldIntS_m1  : (Out Int Int) → Option Int
  | .brk x5 => laws_heldIntS_j1 x5
  | .ret r => some r

noncomputable def laws_heldIntS (a_ : List Int) (k : Int) : Option Int :=
  (loop (laws_heldIntS_l1 a_) ((k, 0))).bind (laws_heldIntS_m1)

noncomputable def laws_heldHeap (a_ : Heap) (k : Int) : Option Int :=
  (laws_heldIntS a_.Bytes k).bind fun x1 => (if decide (x1 < 0) then some ((-1)) else (laws_heldIntS a_.Class x1).bind fun x2 => (if decide (x2 < 0) then some ((-1)) else some x2))

noncomputable def laws_heldSListS_j1 (x5 : Int) : Option Int :=
  some x5

noncomputable def laws_heldSListS_l1 (a_ : List SList) : (Int × Int) → Option (Step (Int × Int) (Out Int Int))
  | (x3, x4) => (if decide (x4 < ((a_.length : Int))) then (idx a_ x4).bind fun x6 => (laws_heldIntS x6.Slots x3).bind fun x7 => (if decide (x7 < 0) then some (.stop (Out.ret ((-1)))) else some (.next ((x7, w64 (x4 + 1))))) else some (.stop (Out.brk x3)))

noncomputable def laws_heldSListS_m1  : (Out Int Int) → Option Int
  | .brk x5 => laws_heldSListS_j1 x5
  | .ret r => some r

noncomputable def laws_heldSListS (a_ : List SList) (k : Int) : Option Int :=
  (loop (laws_heldSListS_l1 a_) ((k, 0))).bind (laws_heldSListS_m1)

noncomputable def laws_heldLists (a_ : Lists) (k : Int) : Option Int :=
  (laws_heldSListS a_.Global k).bind fun x1 => (if decide (x1 < 0) then some ((-1)) else (laws_heldSListS a_.Own x1).bind fun x2 => (if decide (x2 < 0) then some ((-1)) else some x2))

noncomputable def laws_heldMem (a_ : Mem) (k : Int) : Option Int :=
  (laws_heldHeap a_.Heap k).bind fun x1 => (if decide (x1 < 0) then some ((-1)) else (laws_heldLists a_.Lists x1).bind fun x2 => (if decide (x2 < 0) then some ((-1)) else some x2))

noncomputable def laws_heldPinS_j1 (x5 : Int) : Option Int :=
  some x5

noncomputable def laws_heldPinS_l1 (a_ : List Pin) : (Int × Int) → Option (Step (Int × Int) (Out Int Int))
  | (x3, x4) => (if decide (x4 < ((a_.length : Int))) then (idx a_ x4).bind fun x6 => (if !(x6.On == ((Int.tmod x3 3) == 0)) then some (.stop (Out.ret ((-1)))) else (idx a_ x4).bind fun x7 => (if x7.Epoch != (w64 (x3 + 1)) then some (.stop (Out.ret ((-1)))) else (idx a_ x4).bind fun x8 => (if !(x8.Marked == ((Int.tmod (w64 ((w64 (x3 + 1)) + 1)) 3) == 0)) then some (.stop (Out.ret ((-1)))) else (idx a_ x4).bind fun x9 => (if x9.Seen != (w64 ((w64 ((w64 (x3 + 1)) + 1)) + 1)) then some (.stop (Out.ret ((-1)))) else some (.next ((w64 ((w64 ((w64 ((w64 (x3 + 1)) + 1)) + 1)) + 1), w64 (x4 + 1)))))))) else some (.stop (Out.brk x3)))

noncomputable def laws_heldPinS_m1  : (Out Int Int) → Option Int
  | .brk x5 => laws_heldPinS_j1 x5
  | .ret r => some r

noncomputable def laws_heldPinS (a_ : List Pin) (k : Int) : Option Int :=
  (loop (laws_heldPinS_l1 a_) ((k, 0))).bind (laws_heldPinS_m1)

noncomputable def laws_heldClock (a_ : Clock) (k : Int) : Option Int :=
  (laws_heldPinS a_.Pins k).bind fun x1 => (if decide (x1 < 0) then some ((-1)) else some x1)

noncomputable def laws_heldLRowS_j1 (x5 : Int) : Option Int :=
  some x5

noncomputable def laws_heldLRowS_l1 (a_ : List LRow) : (Int × Int) → Option (Step (Int × Int) (Out Int Int))
  | (x3, x4) => (if decide (x4 < ((a_.length : Int))) then (idx a_ x4).bind fun x6 => (if x6.Handle != x3 then some (.stop (Out.ret ((-1)))) else (idx a_ x4).bind fun x7 => (if x7.Epoch != (w64 (x3 + 1)) then some (.stop (Out.ret ((-1)))) else some (.next ((w64 ((w64 (x3 + 1)) + 1), w64 (x4 + 1)))))) else some (.stop (Out.brk x3)))

noncomputable def laws_heldLRowS_m1  : (Out Int Int) → Option Int
  | .brk x5 => laws_heldLRowS_j1 x5
  | .ret r => some r

noncomputable def laws_heldLRowS (a_ : List LRow) (k : Int) : Option Int :=
  (loop (laws_heldLRowS_l1 a_) ((k, 0))).bind (laws_heldLRowS_m1)

noncomputable def laws_heldLListS_j1 (x5 : Int) : Option Int :=
  some x5

noncomputable def laws_heldLListS_l1 (a_ : List LList) : (Int × Int) → Option (Step (Int × Int) (Out Int Int))
  | (x3, x4) => (if decide (x4 < ((a_.length : Int))) then (idx a_ x4).bind fun x6 => (laws_heldLRowS x6.Rows x3).bind fun x7 => (if decide (x7 < 0) then some (.stop (Out.ret ((-1)))) else some (.next ((x7, w64 (x4 + 1))))) else some (.stop (Out.brk x3)))

noncomputable def laws_heldLListS_m1  : (Out Int Int) → Option Int
  | .brk x5 => laws_heldLListS_j1 x5
  | .ret r => some r

noncomputable def laws_heldLListS (a_ : List LList) (k : Int) : Option Int :=
  (loop (laws_heldLListS_l1 a_) ((k, 0))).bind (laws_heldLListS_m1)

noncomputable def laws_heldBase (a_ : Base) (k : Int) : Option Int :=
  (laws_heldMem a_.Mem k).bind fun x1 => (if decide (x1 < 0) then some ((-1)) else (laws_heldClock a_.Clock x1).bind fun x2 => (if decide (x2 < 0) then some ((-1)) else (laws_heldLListS a_.Limbo x2).bind fun x3 => (if decide (x3 < 0) then some ((-1)) else (laws_heldIntS a_.Haz x3).bind fun x4 => (if decide (x4 < 0) then some ((-1)) else some x4))))

noncomputable def laws_FnExactReadBase_j2 (x2 : Base × Bool) (x4 : Int × (List Int) × (List Int) × (List SList) × (List SList) × (List Pin) × (List LList) × (List Int)) (x7 : Bool) : Option Bool :=
  (if x7 then some false else (laws_heldBase ((⟨(⟨(⟨x4.2.1, x4.2.2.1⟩ : Heap), (⟨x4.2.2.2.1, x4.2.2.2.2.1⟩ : Lists)⟩ : Mem), (⟨x2.1.Clock.Epoch, x4.2.2.2.2.2.1⟩ : Clock), x4.2.2.2.2.2.2.1, x4.2.2.2.2.2.2.2⟩ : Base)) 1).bind fun x8 => (if decide (x8 < 0) then some false else (if x8 != x4.1 then some false else some true)))

noncomputable def laws_FnExactReadBase_j1 (aS : List UInt8) (x1 : Base × Bool) (x2 : Base × Bool) (x3 : Bool) : Option Bool :=
  (if x3 then some false else (laws_markBase x2.1 1).bind fun x4 => (laws_heldBase ((⟨(⟨(⟨x4.2.1, x4.2.2.1⟩ : Heap), (⟨x4.2.2.2.1, x4.2.2.2.2.1⟩ : Lists)⟩ : Mem), (⟨x2.1.Clock.Epoch, x4.2.2.2.2.2.1⟩ : Clock), x4.2.2.2.2.2.2.1, x4.2.2.2.2.2.2.2⟩ : Base)) 1).bind fun x5 => (if decide (x5 < 0) then some false else (if x5 != x4.1 then some false else (impl_ReadBase aS).bind fun x6 => (laws_eqBase x6.1 x1.1).bind fun x9 => (if !x9 then laws_FnExactReadBase_j2 x2 x4 true else laws_FnExactReadBase_j2 x2 x4 (!(x6.2 == x1.2))))))

noncomputable def laws_FnExactReadBase (aS : List UInt8) : Option Bool :=
  (if decide (1048576 < ((aS.length : Int))) then some true else (spec_ReadBase aS).bind fun x1 => (impl_ReadBase aS).bind fun x2 => (laws_eqBase x2.1 x1.1).bind fun x10 => (if !x10 then laws_FnExactReadBase_j1 aS x1 x2 true else laws_FnExactReadBase_j1 aS x1 x2 (!(x2.2 == x1.2))))
end Go.Gv
