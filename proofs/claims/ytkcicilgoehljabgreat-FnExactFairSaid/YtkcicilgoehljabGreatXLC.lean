import Derived.Test.YtkcicilgoehljabGreatXLB
import Derived.Test.YtkcicilgoehljabGreatProg
set_option linter.unusedVariables false
set_option linter.unusedSimpArgs false
set_option linter.unusedSectionVars false
set_option linter.constructorNameAsVariable false
set_option linter.unnecessarySimpa false
section
set_option linter.unusedVariables false
namespace Go.Gv
noncomputable def laws_szIntS (a_ : List Int) (left : Int) : Option Int :=
  (if decide ((w64 (left - ((a_.length : Int)))) < 0) then some ((-1)) else some (w64 (left - ((a_.length : Int)))))
noncomputable def laws_szHeap (a_ : Heap) (left : Int) : Option Int :=
  (laws_szIntS a_.Bytes left).bind fun x1 => (if decide (x1 < 0) then some ((-1)) else (laws_szIntS a_.Class x1).bind fun x2 => (if decide (x2 < 0) then some ((-1)) else some x2))
noncomputable def laws_szSList (a_ : SList) (left : Int) : Option Int :=
  (laws_szIntS a_.Slots left).bind fun x1 => (if decide (x1 < 0) then some ((-1)) else some x1)
noncomputable def laws_szSListS_j1 (x5 : Int) : Option Int :=
  some x5
noncomputable def laws_szSListS_l1 (a_ : List SList) : (Int × Int) → Option (Step (Int × Int) (Out Int Int))
  | (x3, x4) => (if decide (x4 < ((a_.length : Int))) then (idx a_ x4).bind fun x6 => (laws_szSList x6 x3).bind fun x7 => (if decide (x7 < 0) then some (.stop (Out.ret ((-1)))) else some (.next ((x7, w64 (x4 + 1))))) else some (.stop (Out.brk x3)))
noncomputable def laws_szSListS_m1  : (Out Int Int) → Option Int
  | .brk x5 => laws_szSListS_j1 x5
  | .ret r => some r
noncomputable def laws_szSListS (a_ : List SList) (left : Int) : Option Int :=
  (if decide ((w64 (left - ((a_.length : Int)))) < 0) then some ((-1)) else (loop (laws_szSListS_l1 a_) ((w64 (left - ((a_.length : Int))), 0))).bind (laws_szSListS_m1))
noncomputable def laws_szLists (a_ : Lists) (left : Int) : Option Int :=
  (laws_szSListS a_.Global left).bind fun x1 => (if decide (x1 < 0) then some ((-1)) else (laws_szSListS a_.Own x1).bind fun x2 => (if decide (x2 < 0) then some ((-1)) else some x2))
noncomputable def laws_szMem (a_ : Mem) (left : Int) : Option Int :=
  (laws_szHeap a_.Heap left).bind fun x1 => (if decide (x1 < 0) then some ((-1)) else (laws_szLists a_.Lists x1).bind fun x2 => (if decide (x2 < 0) then some ((-1)) else some x2))
noncomputable def laws_szPinS (a_ : List Pin) (left : Int) : Option Int :=
  (if decide ((w64 (left - ((a_.length : Int)))) < 0) then some ((-1)) else some (w64 (left - ((a_.length : Int)))))
noncomputable def laws_szClock (a_ : Clock) (left : Int) : Option Int :=
  (laws_szPinS a_.Pins left).bind fun x1 => (if decide (x1 < 0) then some ((-1)) else some x1)
noncomputable def laws_szLRowS (a_ : List LRow) (left : Int) : Option Int :=
  (if decide ((w64 (left - ((a_.length : Int)))) < 0) then some ((-1)) else some (w64 (left - ((a_.length : Int)))))
noncomputable def laws_szLList (a_ : LList) (left : Int) : Option Int :=
  (laws_szLRowS a_.Rows left).bind fun x1 => (if decide (x1 < 0) then some ((-1)) else some x1)
noncomputable def laws_szLListS_j1 (x5 : Int) : Option Int :=
  some x5
noncomputable def laws_szLListS_l1 (a_ : List LList) : (Int × Int) → Option (Step (Int × Int) (Out Int Int))
  | (x3, x4) => (if decide (x4 < ((a_.length : Int))) then (idx a_ x4).bind fun x6 => (laws_szLList x6 x3).bind fun x7 => (if decide (x7 < 0) then some (.stop (Out.ret ((-1)))) else some (.next ((x7, w64 (x4 + 1))))) else some (.stop (Out.brk x3)))
noncomputable def laws_szLListS_m1  : (Out Int Int) → Option Int
  | .brk x5 => laws_szLListS_j1 x5
  | .ret r => some r
noncomputable def laws_szLListS (a_ : List LList) (left : Int) : Option Int :=
  (if decide ((w64 (left - ((a_.length : Int)))) < 0) then some ((-1)) else (loop (laws_szLListS_l1 a_) ((w64 (left - ((a_.length : Int))), 0))).bind (laws_szLListS_m1))
noncomputable def laws_szBase (a_ : Base) (left : Int) : Option Int :=
  (laws_szMem a_.Mem left).bind fun x1 => (if decide (x1 < 0) then some ((-1)) else (laws_szClock a_.Clock x1).bind fun x2 => (if decide (x2 < 0) then some ((-1)) else (laws_szLListS a_.Limbo x2).bind fun x3 => (if decide (x3 < 0) then some ((-1)) else (laws_szIntS a_.Haz x3).bind fun x4 => (if decide (x4 < 0) then some ((-1)) else some x4))))
noncomputable def laws_szJobS (a_ : List Job) (left : Int) : Option Int :=
  (if decide ((w64 (left - ((a_.length : Int)))) < 0) then some ((-1)) else some (w64 (left - ((a_.length : Int)))))
noncomputable def laws_szOpS (a_ : List GOp) (left : Int) : Option Int :=
  (if decide ((w64 (left - ((a_.length : Int)))) < 0) then some ((-1)) else some (w64 (left - ((a_.length : Int)))))
noncomputable def laws_szQueue (a_ : Queue) (left : Int) : Option Int :=
  (laws_szOpS a_.Ops left).bind fun x1 => (if decide (x1 < 0) then some ((-1)) else some x1)
noncomputable def laws_szQueueS_j1 (x5 : Int) : Option Int :=
  some x5
noncomputable def laws_szQueueS_l1 (a_ : List Queue) : (Int × Int) → Option (Step (Int × Int) (Out Int Int))
  | (x3, x4) => (if decide (x4 < ((a_.length : Int))) then (idx a_ x4).bind fun x6 => (laws_szQueue x6 x3).bind fun x7 => (if decide (x7 < 0) then some (.stop (Out.ret ((-1)))) else some (.next ((x7, w64 (x4 + 1))))) else some (.stop (Out.brk x3)))
noncomputable def laws_szQueueS_m1  : (Out Int Int) → Option Int
  | .brk x5 => laws_szQueueS_j1 x5
  | .ret r => some r
noncomputable def laws_szQueueS (a_ : List Queue) (left : Int) : Option Int :=
  (if decide ((w64 (left - ((a_.length : Int)))) < 0) then some ((-1)) else (loop (laws_szQueueS_l1 a_) ((w64 (left - ((a_.length : Int))), 0))).bind (laws_szQueueS_m1))
noncomputable def laws_szEvS (a_ : List Ev) (left : Int) : Option Int :=
  (if decide ((w64 (left - ((a_.length : Int)))) < 0) then some ((-1)) else some (w64 (left - ((a_.length : Int)))))
noncomputable def laws_szShelf (a_ : Shelf) (left : Int) : Option Int :=
  (laws_szBase a_.Base left).bind fun x1 => (if decide (x1 < 0) then some ((-1)) else (laws_szIntS a_.Cells x1).bind fun x2 => (if decide (x2 < 0) then some ((-1)) else (laws_szJobS a_.Jobs x2).bind fun x3 => (if decide (x3 < 0) then some ((-1)) else (laws_szQueueS a_.Todo x3).bind fun x4 => (if decide (x4 < 0) then some ((-1)) else (laws_szEvS a_.Log x4).bind fun x5 => (if decide (x5 < 0) then some ((-1)) else some x5)))))
noncomputable def laws_szShelfS_j1 (x5 : Int) : Option Int :=
  some x5
noncomputable def laws_szShelfS_l1 (a_ : List Shelf) : (Int × Int) → Option (Step (Int × Int) (Out Int Int))
  | (x3, x4) => (if decide (x4 < ((a_.length : Int))) then (idx a_ x4).bind fun x6 => (laws_szShelf x6 x3).bind fun x7 => (if decide (x7 < 0) then some (.stop (Out.ret ((-1)))) else some (.next ((x7, w64 (x4 + 1))))) else some (.stop (Out.brk x3)))
noncomputable def laws_szShelfS_m1  : (Out Int Int) → Option Int
  | .brk x5 => laws_szShelfS_j1 x5
  | .ret r => some r
noncomputable def laws_szShelfS (a_ : List Shelf) (left : Int) : Option Int :=
  (if decide ((w64 (left - ((a_.length : Int)))) < 0) then some ((-1)) else (loop (laws_szShelfS_l1 a_) ((w64 (left - ((a_.length : Int))), 0))).bind (laws_szShelfS_m1))
noncomputable def spec_l1In_j1 (x1 : Bool) : Option Bool :=
  some x1
noncomputable def spec_l1In (x : Int) (low : Int) (high : Int) : Option Bool :=
  (if decide (low ≤ x) then spec_l1In_j1 (decide (x ≤ high)) else spec_l1In_j1 false)
noncomputable def spec_OwnAt_j1 (w_ : Int) (c : Int) (x1 : Bool) : Option Int :=
  (if x1 then some ((-1)) else some (w64 ((w64 (w_ * 3)) + c)))
noncomputable def spec_OwnAt (w_ : Int) (c : Int) : Option Int :=
  (spec_l1In w_ 0 2).bind fun x2 => (if !x2 then spec_OwnAt_j1 w_ c true else (spec_l1In c 0 2).bind fun x3 => spec_OwnAt_j1 w_ c (!x3))
noncomputable def spec_BytesOk_j1 (b : List Int) : Option Bool :=
  some (decide (((b.length : Int)) ≤ 1000))
noncomputable def spec_BytesOk_l1 (b : List Int) : Int → Option (Step Int (Out Unit Bool))
  | x2 => (if decide (x2 < ((b.length : Int))) then (idx b x2).bind fun x3 => (spec_l1In x3 0 255).bind fun x4 => (if !x4 then some (.stop (Out.ret false)) else some (.next (w64 (x2 + 1)))) else some (.stop (Out.brk (()))))
noncomputable def spec_BytesOk_m1 (b : List Int) : (Out Unit Bool) → Option Bool
  | .brk (()) => spec_BytesOk_j1 b
  | .ret r => some r
noncomputable def spec_BytesOk (b : List Int) : Option Bool :=
  (loop (spec_BytesOk_l1 b) 0).bind (spec_BytesOk_m1 b)
noncomputable def spec_l7Shape_j2  : Option Bool :=
  some true
noncomputable def spec_l7Shape_l2 (h : Heap) : Int → Option (Step Int (Out Unit Bool))
  | x3 => (if decide (x3 < 6) then (idx h.Class x3).bind fun x4 => (spec_l1In x4 ((-1)) 2).bind fun x5 => (if !x5 then some (.stop (Out.ret false)) else some (.next (w64 (x3 + 1)))) else some (.stop (Out.brk (()))))
noncomputable def spec_l7Shape_m2  : (Out Unit Bool) → Option Bool
  | .brk (()) => spec_l7Shape_j2
  | .ret r => some r
noncomputable def spec_l7Shape_j1 (h : Heap) (x1 : Bool) : Option Bool :=
  (if x1 then some false else (loop (spec_l7Shape_l2 h) 0).bind (spec_l7Shape_m2))
noncomputable def spec_l7Shape (h : Heap) : Option Bool :=
  (if ((h.Bytes.length : Int)) != 384 then spec_l7Shape_j1 h true else (if ((h.Class.length : Int)) != 6 then spec_l7Shape_j1 h true else (spec_BytesOk h.Bytes).bind fun x6 => spec_l7Shape_j1 h (!x6)))
noncomputable def spec_l3Load_j1 (x5 : Int) : Option Int :=
  some x5
noncomputable def spec_l3Load_l1 (b : List Int) (at_ : Int) (width : Int) : (Int × Int) → Option (Step (Int × Int) Int)
  | (x3, x4) => (if decide (x4 < width) then (idx b (w64 (at_ + x4))).bind fun x6 => some (.next ((w64 ((w64 (x3 * 256)) + x6), w64 (x4 + 1)))) else some (.stop (x3)))
noncomputable def spec_l3Load_m1  : Int → Option Int
  | x5 => spec_l3Load_j1 x5
noncomputable def spec_l3Load (b : List Int) (at_ : Int) (width : Int) : Option Int :=
  (loop (spec_l3Load_l1 b at_ width) ((0, 0))).bind (spec_l3Load_m1)
noncomputable def spec_SizeOf (c : Int) : Option Int :=
  (if c == 0 then some 8 else (if c == 1 then some 16 else (if c == 2 then some 40 else some 0)))
noncomputable def spec_StrideOf (c : Int) : Option Int :=
  (spec_l1In c 0 2).bind fun x1 => (if !x1 then some 0 else (spec_SizeOf c).bind fun x2 => some (w64 (4 + x2)))
noncomputable def spec_PerPage (c : Int) : Option Int :=
  (spec_l1In c 0 2).bind fun x1 => (if !x1 then some 0 else (spec_StrideOf c).bind fun x2 => need (x2 ≠ 0) (some (w64 (Int.tdiv 56 x2))))
noncomputable def spec_PageOf (slot : Int) : Option Int :=
  (spec_l1In slot 0 23).bind fun x1 => (if !x1 then some ((-1)) else some (w64 (Int.tdiv slot 4)))
noncomputable def spec_IndexOf (slot : Int) : Option Int :=
  (spec_l1In slot 0 23).bind fun x1 => (if !x1 then some ((-1)) else some (Int.tmod slot 4))
noncomputable def spec_GenAt_j1 (slot : Int) (c : Int) (x1 : Bool) : Option Int :=
  (if x1 then some ((-1)) else (spec_PageOf slot).bind fun x2 => (spec_IndexOf slot).bind fun x3 => (spec_StrideOf c).bind fun x4 => some (w64 ((w64 ((w64 (x2 * 64)) + 8)) + (w64 (x3 * x4)))))
noncomputable def spec_GenAt (slot : Int) (c : Int) : Option Int :=
  (spec_PageOf slot).bind fun x5 => (if decide (x5 < 0) then spec_GenAt_j1 slot c true else (spec_IndexOf slot).bind fun x6 => (spec_PerPage c).bind fun x7 => (spec_l1In x6 0 (w64 (x7 - 1))).bind fun x8 => spec_GenAt_j1 slot c (!x8))
noncomputable def spec_SlotAt_j1 (page : Int) (index : Int) (x1 : Bool) : Option Int :=
  (if x1 then some ((-1)) else some (w64 ((w64 (page * 4)) + index)))
noncomputable def spec_SlotAt (page : Int) (index : Int) : Option Int :=
  (spec_l1In page 0 5).bind fun x2 => (if !x2 then spec_SlotAt_j1 page index true else (spec_l1In index 0 3).bind fun x3 => spec_SlotAt_j1 page index (!x3))
noncomputable def spec_l7Page_j1  : Option Bool :=
  some true
noncomputable def spec_l7Page_l1 (h : Heap) (p : Int) : Int → Option (Step Int (Out Unit Bool))
  | x3 => (if decide (x3 < (w64 ((w64 (p * 64)) + 64))) then (idx h.Bytes x3).bind fun x4 => (if x4 != 0 then some (.stop (Out.ret false)) else some (.next (w64 (x3 + 1)))) else some (.stop (Out.brk (()))))
noncomputable def spec_l7Page_m1  : (Out Unit Bool) → Option Bool
  | .brk (()) => spec_l7Page_j1
  | .ret r => some r
noncomputable def spec_l7Page_j4  : Option Bool :=
  some true
noncomputable def spec_l7Page_l4 (h : Heap) (p : Int) (x1 : Int) : Int → Option (Step Int (Out Unit Bool))
  | x9 => (spec_PerPage x1).bind fun x10 => (if decide (x9 < x10) then (spec_SlotAt p x9).bind fun x11 => (spec_GenAt x11 x1).bind fun x12 => (spec_l3Load h.Bytes x12 4).bind fun x13 => (spec_l1In x13 1 7).bind fun x14 => (if !x14 then some (.stop (Out.ret false)) else some (.next (w64 (x9 + 1)))) else some (.stop (Out.brk (()))))
noncomputable def spec_l7Page_m4  : (Out Unit Bool) → Option Bool
  | .brk (()) => spec_l7Page_j4
  | .ret r => some r
noncomputable def spec_l7Page_j3 (h : Heap) (p : Int) (x1 : Int) : Option Bool :=
  (loop (spec_l7Page_l4 h p x1) 0).bind (spec_l7Page_m4)
noncomputable def spec_l7Page_l3 (h : Heap) (p : Int) : Int → Option (Step Int (Out Unit Bool))
  | x7 => (if decide (x7 < (w64 ((w64 (p * 64)) + 8))) then (idx h.Bytes x7).bind fun x15 => (if x15 != 0 then some (.stop (Out.ret false)) else some (.next (w64 (x7 + 1)))) else some (.stop (Out.brk (()))))
noncomputable def spec_l7Page_m3 (h : Heap) (p : Int) (x1 : Int) : (Out Unit Bool) → Option Bool
  | .brk (()) => spec_l7Page_j3 h p x1
  | .ret r => some r
noncomputable def spec_l7Page_j2 (h : Heap) (p : Int) (x1 : Int) (x5 : Bool) : Option Bool :=
  (if x5 then some false else (loop (spec_l7Page_l3 h p) (w64 ((w64 (p * 64)) + 3))).bind (spec_l7Page_m3 h p x1))
noncomputable def spec_l7Page (h : Heap) (p : Int) : Option Bool :=
  (idx h.Class p).bind fun x1 => (if decide (x1 < 0) then (loop (spec_l7Page_l1 h p) (w64 (p * 64))).bind (spec_l7Page_m1) else (idx h.Bytes (w64 (p * 64))).bind fun x16 => (if x16 != 171 then spec_l7Page_j2 h p x1 true else (idx h.Bytes (w64 ((w64 (p * 64)) + 1))).bind fun x17 => (if x17 != x1 then spec_l7Page_j2 h p x1 true else (idx h.Bytes (w64 ((w64 (p * 64)) + 2))).bind fun x18 => (spec_PerPage x1).bind fun x19 => spec_l7Page_j2 h p x1 (x18 != x19))))
noncomputable def spec_HeapOk_j1  : Option Bool :=
  some true
noncomputable def spec_HeapOk_l1 (h : Heap) : Int → Option (Step Int (Out Unit Bool))
  | x3 => (if decide (x3 < 6) then (spec_l7Page h x3).bind fun x4 => (if !x4 then some (.stop (Out.ret false)) else some (.next (w64 (x3 + 1)))) else some (.stop (Out.brk (()))))
noncomputable def spec_HeapOk_m1  : (Out Unit Bool) → Option Bool
  | .brk (()) => spec_HeapOk_j1
  | .ret r => some r
noncomputable def spec_HeapOk (h : Heap) : Option Bool :=
  (spec_l7Shape h).bind fun x1 => (if !x1 then some false else (loop (spec_HeapOk_l1 h) 0).bind (spec_HeapOk_m1))
noncomputable def spec_l8Has_j1  : Option Bool :=
  some false
noncomputable def spec_l8Has_l1 (l : List Int) (x : Int) : Int → Option (Step Int (Out Unit Bool))
  | x2 => (if decide (x2 < ((l.length : Int))) then (idx l x2).bind fun x3 => (if x3 == x then some (.stop (Out.ret true)) else some (.next (w64 (x2 + 1)))) else some (.stop (Out.brk (()))))
noncomputable def spec_l8Has_m1  : (Out Unit Bool) → Option Bool
  | .brk (()) => spec_l8Has_j1
  | .ret r => some r
noncomputable def spec_l8Has (l : List Int) (x : Int) : Option Bool :=
  (loop (spec_l8Has_l1 l x) 0).bind (spec_l8Has_m1)
noncomputable def spec_l8All_j2 (x10 : List Int) : Option ((List Int)) :=
  some x10
noncomputable def spec_l8All_l2 (l : Lists) : ((List Int) × Int) → Option (Step ((List Int) × Int) ((List Int)))
  | (x8, x9) => (if decide (x9 < ((l.Own.length : Int))) then (idx l.Own x9).bind fun x11 => need (x8.length + x11.Slots.length ≤ 1073741824) (some (.next ((x8 ++ x11.Slots, w64 (x9 + 1))))) else some (.stop (x8)))
noncomputable def spec_l8All_m2  : ((List Int)) → Option ((List Int))
  | x10 => spec_l8All_j2 x10
noncomputable def spec_l8All_j1 (l : Lists) (x5 : List Int) : Option ((List Int)) :=
  (loop (spec_l8All_l2 l) ((x5, 0))).bind (spec_l8All_m2)
noncomputable def spec_l8All_l1 (l : Lists) : ((List Int) × Int) → Option (Step ((List Int) × Int) ((List Int)))
  | (x3, x4) => (if decide (x4 < ((l.Global.length : Int))) then (idx l.Global x4).bind fun x12 => need (x3.length + x12.Slots.length ≤ 1073741824) (some (.next ((x3 ++ x12.Slots, w64 (x4 + 1))))) else some (.stop (x3)))
noncomputable def spec_l8All_m1 (l : Lists) : ((List Int)) → Option ((List Int))
  | x5 => spec_l8All_j1 l x5
noncomputable def spec_l8All (l : Lists) : Option ((List Int)) :=
  (loop (spec_l8All_l1 l) ((([] : List Int), 0))).bind (spec_l8All_m1 l)
noncomputable def spec_ListsOk_j3  : Option Bool :=
  some true
noncomputable def spec_ListsOk_j4 (x6 : Int) (x7 : Bool) : Option (Step Int (Out Unit Bool)) :=
  (if x7 then some (.stop (Out.ret false)) else some (.next (w64 (x6 + 1))))
noncomputable def spec_ListsOk_l3 (x4 : (List Int)) : Int → Option (Step Int (Out Unit Bool))
  | x6 => (if decide (x6 < ((x4.length : Int))) then (idx x4 x6).bind fun x8 => (spec_l1In x8 0 23).bind fun x9 => (if !x9 then spec_ListsOk_j4 x6 true else need (0 ≤ (x6 : Int) ∧ (x6 : Int) ≤ (x4.length : Int)) ((idx x4 x6).bind fun x10 => (spec_l8Has ((x4.take x6.toNat).drop 0) x10).bind fun x11 => spec_ListsOk_j4 x6 x11)) else some (.stop (Out.brk (()))))
noncomputable def spec_ListsOk_m3  : (Out Unit Bool) → Option Bool
  | .brk (()) => spec_ListsOk_j3
  | .ret r => some r
noncomputable def spec_ListsOk_j2 (l : Lists) : Option Bool :=
  (spec_l8All l).bind fun x4 => (loop (spec_ListsOk_l3 x4) 0).bind (spec_ListsOk_m3)
noncomputable def spec_ListsOk_l2 (l : Lists) : Int → Option (Step Int (Out Unit Bool))
  | x3 => (if decide (x3 < ((l.Own.length : Int))) then (idx l.Own x3).bind fun x12 => (if decide (2 < ((x12.Slots.length : Int))) then some (.stop (Out.ret false)) else some (.next (w64 (x3 + 1)))) else some (.stop (Out.brk (()))))
noncomputable def spec_ListsOk_m2 (l : Lists) : (Out Unit Bool) → Option Bool
  | .brk (()) => spec_ListsOk_j2 l
  | .ret r => some r
noncomputable def spec_ListsOk_j1 (l : Lists) (x1 : Bool) : Option Bool :=
  (if x1 then some false else (loop (spec_ListsOk_l2 l) 0).bind (spec_ListsOk_m2 l))
noncomputable def spec_ListsOk (l : Lists) : Option Bool :=
  (if ((l.Global.length : Int)) != 3 then spec_ListsOk_j1 l true else spec_ListsOk_j1 l (((l.Own.length : Int)) != 9))
noncomputable def spec_l7Class_j1 (h : Heap) (x1 : Int) (x2 : Bool) : Option Int :=
  (if x2 then some ((-1)) else (idx h.Class x1).bind fun x3 => some x3)
noncomputable def spec_l7Class (h : Heap) (slot : Int) : Option Int :=
  (spec_PageOf slot).bind fun x1 => (if decide (x1 < 0) then spec_l7Class_j1 h x1 true else (idx h.Class x1).bind fun x4 => (if decide (x4 < 0) then spec_l7Class_j1 h x1 true else (idx h.Class x1).bind fun x5 => (spec_IndexOf slot).bind fun x6 => (spec_PerPage x5).bind fun x7 => spec_l7Class_j1 h x1 (decide (x7 ≤ x6))))
noncomputable def spec_l7Gen (h : Heap) (slot : Int) : Option Int :=
  (spec_l7Class h slot).bind fun x1 => (spec_GenAt slot x1).bind fun x2 => (spec_l3Load h.Bytes x2 4).bind fun x3 => some x3
noncomputable def spec_l9Listed_j1  : Option Bool :=
  some true
noncomputable def spec_l9Listed_j2 (x2 : Int) (x3 : Bool) : Option (Step Int (Out Unit Bool)) :=
  (if x3 then some (.stop (Out.ret false)) else some (.next (w64 (x2 + 1))))
noncomputable def spec_l9Listed_l1 (h : Heap) (l : List Int) (c : Int) : Int → Option (Step Int (Out Unit Bool))
  | x2 => (if decide (x2 < ((l.length : Int))) then (idx l x2).bind fun x4 => (spec_l7Class h x4).bind fun x5 => (if x5 != c then spec_l9Listed_j2 x2 true else (idx l x2).bind fun x6 => (spec_l7Gen h x6).bind fun x7 => spec_l9Listed_j2 x2 (decide (6 < x7))) else some (.stop (Out.brk (()))))
noncomputable def spec_l9Listed_m1  : (Out Unit Bool) → Option Bool
  | .brk (()) => spec_l9Listed_j1
  | .ret r => some r
noncomputable def spec_l9Listed (h : Heap) (l : List Int) (c : Int) : Option Bool :=
  (loop (spec_l9Listed_l1 h l c) 0).bind (spec_l9Listed_m1)
noncomputable def spec_MemOk_j2  : Option Bool :=
  some true
noncomputable def spec_MemOk_j3 (x3 : Int) : Option (Step Int (Out Unit Bool)) :=
  some (.next (w64 (x3 + 1)))
noncomputable def spec_MemOk_l3 (m : Mem) (x3 : Int) : Int → Option (Step Int (Out Unit Bool))
  | x7 => (if decide (x7 < 3) then (spec_OwnAt x7 x3).bind fun x8 => (idx m.Lists.Own x8).bind fun x9 => (spec_l9Listed m.Heap x9.Slots x3).bind fun x10 => (if !x10 then some (.stop (Out.ret false)) else some (.next (w64 (x7 + 1)))) else some (.stop (Out.brk (()))))
noncomputable def spec_MemOk_m3 (x3 : Int) : (Out Unit Bool) → Option (Step Int (Out Unit Bool))
  | .brk (()) => spec_MemOk_j3 x3
  | .ret r => some (.stop (Out.ret r))
noncomputable def spec_MemOk_l2 (m : Mem) : Int → Option (Step Int (Out Unit Bool))
  | x3 => (if decide (x3 < 3) then (idx m.Lists.Global x3).bind fun x4 => (spec_l9Listed m.Heap x4.Slots x3).bind fun x5 => (if !x5 then some (.stop (Out.ret false)) else (loop (spec_MemOk_l3 m x3) 0).bind (spec_MemOk_m3 x3)) else some (.stop (Out.brk (()))))
noncomputable def spec_MemOk_m2  : (Out Unit Bool) → Option Bool
  | .brk (()) => spec_MemOk_j2
  | .ret r => some r
noncomputable def spec_MemOk_j1 (m : Mem) (x1 : Bool) : Option Bool :=
  (if x1 then some false else (loop (spec_MemOk_l2 m) 0).bind (spec_MemOk_m2))
noncomputable def spec_MemOk (m : Mem) : Option Bool :=
  (spec_HeapOk m.Heap).bind fun x11 => (if !x11 then spec_MemOk_j1 m true else (spec_ListsOk m.Lists).bind fun x12 => spec_MemOk_j1 m (!x12))
noncomputable def spec_ClockOk_j2  : Option Bool :=
  some true
noncomputable def spec_ClockOk_j3 (x3 : Int) (x5 : Bool) : Option (Step Int (Out Unit Bool)) :=
  (if x5 then some (.stop (Out.ret false)) else some (.next (w64 (x3 + 1))))
noncomputable def spec_ClockOk_l2 (c : Clock) : Int → Option (Step Int (Out Unit Bool))
  | x3 => (if decide (x3 < 3) then (idx c.Pins x3).bind fun x4 => (if !x4.On then (if !(decide (x4 = (⟨false, 0, false, 0⟩ : Pin))) then spec_ClockOk_j3 x3 true else (spec_l1In x4.Epoch 0 c.Epoch).bind fun x6 => (if !x6 then spec_ClockOk_j3 x3 true else (spec_l1In x4.Seen 0 2).bind fun x7 => spec_ClockOk_j3 x3 (!x7))) else (spec_l1In x4.Epoch 0 c.Epoch).bind fun x8 => (if !x8 then spec_ClockOk_j3 x3 true else (spec_l1In x4.Seen 0 2).bind fun x9 => spec_ClockOk_j3 x3 (!x9))) else some (.stop (Out.brk (()))))
noncomputable def spec_ClockOk_m2  : (Out Unit Bool) → Option Bool
  | .brk (()) => spec_ClockOk_j2
  | .ret r => some r
noncomputable def spec_ClockOk_j1 (c : Clock) (x1 : Bool) : Option Bool :=
  (if x1 then some false else (loop (spec_ClockOk_l2 c) 0).bind (spec_ClockOk_m2))
noncomputable def spec_ClockOk (c : Clock) : Option Bool :=
  (spec_l1In c.Epoch 0 100000).bind fun x10 => (if !x10 then spec_ClockOk_j1 c true else spec_ClockOk_j1 c (((c.Pins.length : Int)) != 3))
noncomputable def spec_l11All_j1 (x5 : List LRow) : Option ((List LRow)) :=
  some x5
noncomputable def spec_l11All_l1 (l : List LList) : ((List LRow) × Int) → Option (Step ((List LRow) × Int) ((List LRow)))
  | (x3, x4) => (if decide (x4 < ((l.length : Int))) then (idx l x4).bind fun x6 => need (x3.length + x6.Rows.length ≤ 1073741824) (some (.next ((x3 ++ x6.Rows, w64 (x4 + 1))))) else some (.stop (x3)))
noncomputable def spec_l11All_m1  : ((List LRow)) → Option ((List LRow))
  | x5 => spec_l11All_j1 x5
noncomputable def spec_l11All (l : List LList) : Option ((List LRow)) :=
  (loop (spec_l11All_l1 l) ((([] : List LRow), 0))).bind (spec_l11All_m1)
noncomputable def spec_HandleOk_j1 (x1 : Bool) : Option Bool :=
  some x1
noncomputable def spec_HandleOk (h : Int) : Option Bool :=
  (spec_l1In h 32 223).bind fun x2 => (if x2 then spec_HandleOk_j1 (decide ((Int.tmod h 32) < 24)) else spec_HandleOk_j1 false)
noncomputable def spec_HandleSlot (h : Int) : Option Int :=
  (spec_HandleOk h).bind fun x1 => (if !x1 then some ((-1)) else some (Int.tmod h 32))
noncomputable def spec_LimboOk_j2  : Option Bool :=
  some true
noncomputable def spec_LimboOk_j3 (x5 : List Int) (x6 : Int) (x8 : Int) (x9 : Bool) : Option (Step ((List Int) × Int) (Out Unit Bool)) :=
  (if x9 then some (.stop (Out.ret false)) else need (x5.length + ([x8]).length ≤ 1073741824) (some (.next ((x5 ++ ([x8]), w64 (x6 + 1))))))
noncomputable def spec_LimboOk_l2 (x1 : (List LRow)) : ((List Int) × Int) → Option (Step ((List Int) × Int) (Out Unit Bool))
  | (x5, x6) => (if decide (x6 < ((x1.length : Int))) then (idx x1 x6).bind fun x7 => (spec_HandleSlot x7.Handle).bind fun x8 => (if decide (x8 < 0) then spec_LimboOk_j3 x5 x6 x8 true else (spec_l1In x7.Epoch 0 100000).bind fun x10 => (if !x10 then spec_LimboOk_j3 x5 x6 x8 true else (spec_l8Has x5 x8).bind fun x11 => spec_LimboOk_j3 x5 x6 x8 x11)) else some (.stop (Out.brk (()))))
noncomputable def spec_LimboOk_m2  : (Out Unit Bool) → Option Bool
  | .brk (()) => spec_LimboOk_j2
  | .ret r => some r
noncomputable def spec_LimboOk_j1 (x1 : (List LRow)) (x2 : Bool) : Option Bool :=
  (if x2 then some false else (loop (spec_LimboOk_l2 x1) ((([] : List Int), 0))).bind (spec_LimboOk_m2))
noncomputable def spec_LimboOk (l : List LList) : Option Bool :=
  (spec_l11All l).bind fun x1 => (if ((l.length : Int)) != 3 then spec_LimboOk_j1 x1 true else spec_LimboOk_j1 x1 (decide (24 < ((x1.length : Int)))))
noncomputable def spec_HazOk_j1 (z : List Int) : Option Bool :=
  some (((z.length : Int)) == 3)
noncomputable def spec_HazOk_j2 (x2 : Int) (x3 : Bool) : Option (Step Int (Out Unit Bool)) :=
  (if x3 then some (.stop (Out.ret false)) else some (.next (w64 (x2 + 1))))
noncomputable def spec_HazOk_l1 (z : List Int) : Int → Option (Step Int (Out Unit Bool))
  | x2 => (if decide (x2 < ((z.length : Int))) then (idx z x2).bind fun x4 => (if x4 != 0 then (idx z x2).bind fun x5 => (spec_HandleOk x5).bind fun x6 => spec_HazOk_j2 x2 (!x6) else spec_HazOk_j2 x2 false) else some (.stop (Out.brk (()))))
noncomputable def spec_HazOk_m1 (z : List Int) : (Out Unit Bool) → Option Bool
  | .brk (()) => spec_HazOk_j1 z
  | .ret r => some r
noncomputable def spec_HazOk (z : List Int) : Option Bool :=
  (loop (spec_HazOk_l1 z) 0).bind (spec_HazOk_m1 z)
noncomputable def spec_OnList (l : Lists) (slot : Int) : Option Bool :=
  (spec_l8All l).bind fun x1 => (spec_l8Has x1 slot).bind fun x2 => some x2
noncomputable def spec_l9State (m : Mem) (slot : Int) : Option Int :=
  (spec_l7Class m.Heap slot).bind fun x1 => (if decide (x1 < 0) then some 0 else (spec_OnList m.Lists slot).bind fun x2 => (if x2 then some 1 else (spec_l7Gen m.Heap slot).bind fun x3 => (if decide (6 < x3) then some 2 else some 3)))
noncomputable def spec_HandleGen (h : Int) : Option Int :=
  (spec_HandleOk h).bind fun x1 => (if !x1 then some 0 else some (w64 (Int.tdiv h 32)))
noncomputable def spec_l9Valid_j1 (x1 : Bool) : Option Bool :=
  some x1
noncomputable def spec_l9Valid (m : Mem) (h : Int) : Option Bool :=
  (spec_HandleOk h).bind fun x2 => (if x2 then (spec_HandleSlot h).bind fun x3 => (spec_l9State m x3).bind fun x4 => (if x4 == 3 then (spec_HandleSlot h).bind fun x5 => (spec_l7Gen m.Heap x5).bind fun x6 => (spec_HandleGen h).bind fun x7 => spec_l9Valid_j1 (x6 == x7) else spec_l9Valid_j1 false) else spec_l9Valid_j1 false)
noncomputable def spec_BaseOk_j2  : Option Bool :=
  some true
noncomputable def spec_BaseOk_j3 (x4 : Int) (x5 : Bool) : Option (Step Int (Out Unit Bool)) :=
  (if x5 then some (.stop (Out.ret false)) else some (.next (w64 (x4 + 1))))
noncomputable def spec_BaseOk_l2 (b : Base) (x2 : (List LRow)) : Int → Option (Step Int (Out Unit Bool))
  | x4 => (if decide (x4 < ((x2.length : Int))) then (idx x2 x4).bind fun x6 => (spec_l9Valid b.Mem x6.Handle).bind fun x7 => (if !x7 then spec_BaseOk_j3 x4 true else spec_BaseOk_j3 x4 (decide (b.Clock.Epoch < x6.Epoch))) else some (.stop (Out.brk (()))))
noncomputable def spec_BaseOk_m2  : (Out Unit Bool) → Option Bool
  | .brk (()) => spec_BaseOk_j2
  | .ret r => some r
noncomputable def spec_BaseOk_j1 (b : Base) (x1 : Bool) : Option Bool :=
  (if x1 then some false else (spec_l11All b.Limbo).bind fun x2 => (loop (spec_BaseOk_l2 b x2) 0).bind (spec_BaseOk_m2))
noncomputable def spec_BaseOk (b : Base) : Option Bool :=
  (spec_MemOk b.Mem).bind fun x8 => (if !x8 then spec_BaseOk_j1 b true else (spec_ClockOk b.Clock).bind fun x9 => (if !x9 then spec_BaseOk_j1 b true else (spec_LimboOk b.Limbo).bind fun x10 => (if !x10 then spec_BaseOk_j1 b true else (spec_HazOk b.Haz).bind fun x11 => spec_BaseOk_j1 b (!x11))))
noncomputable def spec_l15Celled_j1 (x1 : Bool) : Option Bool :=
  some x1
noncomputable def spec_l15Celled (kind : Int) : Option Bool :=
  (if kind == 1 then spec_l15Celled_j1 true else (if kind == 2 then spec_l15Celled_j1 true else (if kind == 3 then spec_l15Celled_j1 true else spec_l15Celled_j1 (kind == 7))))
noncomputable def spec_OpOk_j2 (x3 : Bool) : Option Bool :=
  some x3
noncomputable def spec_OpOk_j3 (x4 : Bool) : Option Bool :=
  some x4
noncomputable def spec_OpOk_j1 (o_ : GOp) (x2 : Bool) : Option Bool :=
  (if x2 then some false else (if o_.Kind != 1 then (if o_.Size == 0 then spec_OpOk_j2 (o_.Val == 0) else spec_OpOk_j2 false) else (spec_l1In o_.Size 0 100).bind fun x5 => (if x5 then (spec_l1In o_.Val 0 65535).bind fun x6 => spec_OpOk_j3 x6 else spec_OpOk_j3 false)))
noncomputable def spec_OpOk (o_ : GOp) : Option Bool :=
  (spec_l1In o_.Kind 1 7).bind fun x1 => (if !x1 then some false else (spec_l15Celled o_.Kind).bind fun x7 => (if !x7 then (if o_.Cell != 0 then spec_OpOk_j1 o_ true else (spec_l1In o_.Cell 0 1).bind fun x8 => spec_OpOk_j1 o_ (!x8)) else (spec_l1In o_.Cell 0 1).bind fun x9 => spec_OpOk_j1 o_ (!x9)))
noncomputable def spec_l15Todo_j1 (todo : List Queue) : Option Bool :=
  some (((todo.length : Int)) == 3)
noncomputable def spec_l15Todo_j2 (x2 : Int) : Option (Step Int (Out Unit Bool)) :=
  some (.next (w64 (x2 + 1)))
noncomputable def spec_l15Todo_l2 (todo : List Queue) (x2 : Int) : Int → Option (Step Int (Out Unit Bool))
  | x5 => (idx todo x2).bind fun x6 => (if decide (x5 < ((x6.Ops.length : Int))) then (idx todo x2).bind fun x7 => (idx x7.Ops x5).bind fun x8 => (spec_OpOk x8).bind fun x9 => (if !x9 then some (.stop (Out.ret false)) else some (.next (w64 (x5 + 1)))) else some (.stop (Out.brk (()))))
noncomputable def spec_l15Todo_m2 (x2 : Int) : (Out Unit Bool) → Option (Step Int (Out Unit Bool))
  | .brk (()) => spec_l15Todo_j2 x2
  | .ret r => some (.stop (Out.ret r))
noncomputable def spec_l15Todo_l1 (todo : List Queue) : Int → Option (Step Int (Out Unit Bool))
  | x2 => (if decide (x2 < ((todo.length : Int))) then (idx todo x2).bind fun x3 => (if decide (12 < ((x3.Ops.length : Int))) then some (.stop (Out.ret false)) else (loop (spec_l15Todo_l2 todo x2) 0).bind (spec_l15Todo_m2 x2)) else some (.stop (Out.brk (()))))
noncomputable def spec_l15Todo_m1 (todo : List Queue) : (Out Unit Bool) → Option Bool
  | .brk (()) => spec_l15Todo_j1 todo
  | .ret r => some r
noncomputable def spec_l15Todo (todo : List Queue) : Option Bool :=
  (loop (spec_l15Todo_l1 todo) 0).bind (spec_l15Todo_m1 todo)
noncomputable def spec_l15Some_j1 (x1 : Bool) : Option Bool :=
  some x1
noncomputable def spec_l15Some (h : Int) : Option Bool :=
  (if h == 0 then spec_l15Some_j1 true else (spec_HandleOk h).bind fun x2 => spec_l15Some_j1 x2)
noncomputable def spec_ShelfOk_j3  : Option Bool :=
  some true
noncomputable def spec_ShelfOk_j4 (x5 : Int) (x7 : Bool) : Option (Step Int (Out Unit Bool)) :=
  (if x7 then some (.stop (Out.ret false)) else some (.next (w64 (x5 + 1))))
noncomputable def spec_ShelfOk_l3 (s : Shelf) : Int → Option (Step Int (Out Unit Bool))
  | x5 => (if decide (x5 < 3) then (idx s.Jobs x5).bind fun x6 => (if !x6.Busy then (if !(decide (x6 = (⟨false, (⟨0, 0, 0, 0⟩ : GOp), 0, 0, (⟨0, 0, 0, 0, 0, 0, 0, 0, 0, false⟩ : Sub), 0, 0, 0, 0⟩ : Job))) then spec_ShelfOk_j4 x5 true else (if x6.Busy then (spec_OpOk x6.Op).bind fun x8 => (if !x8 then spec_ShelfOk_j4 x5 true else (spec_l15Some x6.H).bind fun x9 => (if !x9 then spec_ShelfOk_j4 x5 true else (spec_l15Some x6.Old).bind fun x10 => spec_ShelfOk_j4 x5 (!x10))) else (spec_l15Some x6.H).bind fun x11 => (if !x11 then spec_ShelfOk_j4 x5 true else (spec_l15Some x6.Old).bind fun x12 => spec_ShelfOk_j4 x5 (!x12)))) else (if x6.Busy then (spec_OpOk x6.Op).bind fun x13 => (if !x13 then spec_ShelfOk_j4 x5 true else (spec_l15Some x6.H).bind fun x14 => (if !x14 then spec_ShelfOk_j4 x5 true else (spec_l15Some x6.Old).bind fun x15 => spec_ShelfOk_j4 x5 (!x15))) else (spec_l15Some x6.H).bind fun x16 => (if !x16 then spec_ShelfOk_j4 x5 true else (spec_l15Some x6.Old).bind fun x17 => spec_ShelfOk_j4 x5 (!x17)))) else some (.stop (Out.brk (()))))
noncomputable def spec_ShelfOk_m3  : (Out Unit Bool) → Option Bool
  | .brk (()) => spec_ShelfOk_j3
  | .ret r => some r
noncomputable def spec_ShelfOk_j2 (s : Shelf) : Option Bool :=
  (loop (spec_ShelfOk_l3 s) 0).bind (spec_ShelfOk_m3)
noncomputable def spec_ShelfOk_l2 (s : Shelf) : Int → Option (Step Int (Out Unit Bool))
  | x3 => (if decide (x3 < 2) then (idx s.Cells x3).bind fun x18 => (spec_l15Some x18).bind fun x19 => (if !x19 then some (.stop (Out.ret false)) else some (.next (w64 (x3 + 1)))) else some (.stop (Out.brk (()))))
noncomputable def spec_ShelfOk_m2 (s : Shelf) : (Out Unit Bool) → Option Bool
  | .brk (()) => spec_ShelfOk_j2 s
  | .ret r => some r
noncomputable def spec_ShelfOk_j1 (s : Shelf) (x1 : Bool) : Option Bool :=
  (if x1 then some false else (loop (spec_ShelfOk_l2 s) 0).bind (spec_ShelfOk_m2 s))
noncomputable def spec_ShelfOk (s : Shelf) : Option Bool :=
  (spec_BaseOk s.Base).bind fun x20 => (if !x20 then spec_ShelfOk_j1 s true else (if ((s.Cells.length : Int)) != 2 then spec_ShelfOk_j1 s true else (if ((s.Jobs.length : Int)) != 3 then spec_ShelfOk_j1 s true else (spec_l15Todo s.Todo).bind fun x21 => (if !x21 then spec_ShelfOk_j1 s true else (spec_l1In s.Serial 0 1000000).bind fun x22 => spec_ShelfOk_j1 s (!x22)))))
noncomputable def spec_ClassOf_j1  : Option Int :=
  some ((-1))
noncomputable def spec_ClassOf_l1 (size : Int) : Int → Option (Step Int (Out Unit Int))
  | x2 => (if decide (x2 < 3) then (spec_SizeOf x2).bind fun x3 => (spec_l1In size 1 x3).bind fun x4 => (if x4 then some (.stop (Out.ret x2)) else some (.next (w64 (x2 + 1)))) else some (.stop (Out.brk (()))))
noncomputable def spec_ClassOf_m1  : (Out Unit Int) → Option Int
  | .brk (()) => spec_ClassOf_j1
  | .ret r => some r
noncomputable def spec_ClassOf (size : Int) : Option Int :=
  (loop (spec_ClassOf_l1 size) 0).bind (spec_ClassOf_m1)
noncomputable def spec_Ungranted_j1 (x5 : Int) : Option Int :=
  some x5
noncomputable def spec_Ungranted_j2 (x4 : Int) (x6 : Int) : Option (Step (Int × Int) Int) :=
  some (.next ((x6, w64 (x4 + 1))))
noncomputable def spec_Ungranted_l1 (h : Heap) : (Int × Int) → Option (Step (Int × Int) Int)
  | (x3, x4) => (if decide (x4 < ((h.Class.length : Int))) then (idx h.Class x4).bind fun x7 => (if x7 == ((-1)) then spec_Ungranted_j2 x4 (w64 (x3 + 1)) else spec_Ungranted_j2 x4 x3) else some (.stop (x3)))
noncomputable def spec_Ungranted_m1  : Int → Option Int
  | x5 => spec_Ungranted_j1 x5
noncomputable def spec_Ungranted (h : Heap) : Option Int :=
  (loop (spec_Ungranted_l1 h) ((0, 0))).bind (spec_Ungranted_m1)
noncomputable def spec_l31Bare_j1 (x1 : Bool) : Option Bool :=
  some x1
noncomputable def spec_l31Bare (s : Shelf) (w_ : Int) (c : Int) : Option Bool :=
  (idx s.Base.Mem.Lists.Global c).bind fun x2 => (if ((x2.Slots.length : Int)) == 0 then (spec_OwnAt w_ c).bind fun x3 => (idx s.Base.Mem.Lists.Own x3).bind fun x4 => (if ((x4.Slots.length : Int)) == 0 then (spec_Ungranted s.Base.Mem.Heap).bind fun x5 => spec_l31Bare_j1 (x5 == 0) else spec_l31Bare_j1 false) else spec_l31Bare_j1 false)
noncomputable def spec_Fair_j1  : Option Bool :=
  some true
noncomputable def spec_Fair_j2 (x4 : Int) (x11 : List Bool) : Option (Step ((List Bool) × Int) (Out Unit Bool)) :=
  some (.next ((x11, w64 (x4 + 1))))
noncomputable def spec_Fair_j3 (x10 : Int) (x12 : List Bool) : Option (Step ((List Bool) × Int) (Out ((List Bool)) Bool)) :=
  some (.next ((x12, w64 (x10 + 1))))
noncomputable def spec_Fair_j7 (x10 : Int) (x18 : List Bool) (x19 : Bool) : Option (Step ((List Bool) × Int) (Out ((List Bool)) Bool)) :=
  (if x19 then some (.stop (Out.ret false)) else spec_Fair_j3 x10 x18)
noncomputable def spec_Fair_j6 (x10 : Int) (x14 : Job) (x18 : List Bool) : Option (Step ((List Bool) × Int) (Out ((List Bool)) Bool)) :=
  (if x14.Code == 3 then (idx x18 x10).bind fun x20 => spec_Fair_j7 x10 x18 (!x20) else spec_Fair_j7 x10 x18 false)
noncomputable def spec_Fair_j5 (l : List Shelf) (x4 : Int) (x10 : Int) (x14 : Job) (x15 : Int) (x16 : List Bool) (x17 : Bool) : Option (Step ((List Bool) × Int) (Out ((List Bool)) Bool)) :=
  (if x17 then spec_Fair_j3 x10 x16 else (idx x16 x10).bind fun x21 => (if x21 then spec_Fair_j6 x10 x14 (x16.set x10.toNat true) else (idx l x4).bind fun x22 => (spec_l31Bare x22 x10 x15).bind fun x23 => spec_Fair_j6 x10 x14 (x16.set x10.toNat x23)))
noncomputable def spec_Fair_j4 (l : List Shelf) (x4 : Int) (x10 : Int) (x14 : Job) (x15 : Int) (x16 : List Bool) : Option (Step ((List Bool) × Int) (Out ((List Bool)) Bool)) :=
  (if !x14.Busy then spec_Fair_j5 l x4 x10 x14 x15 x16 true else (if x14.Op.Kind != 1 then spec_Fair_j5 l x4 x10 x14 x15 x16 true else spec_Fair_j5 l x4 x10 x14 x15 x16 (decide (x15 < 0))))
noncomputable def spec_Fair_j8 (l : List Shelf) (x4 : Int) (x9 : List Bool) (x10 : Int) (x14 : Job) (x15 : Int) (x24 : Bool) : Option (Step ((List Bool) × Int) (Out ((List Bool)) Bool)) :=
  (if x24 then (idx x9 x10).bind fun x25 => spec_Fair_j4 l x4 x10 x14 x15 (x9.set x10.toNat false) else spec_Fair_j4 l x4 x10 x14 x15 x9)
noncomputable def spec_Fair_l2 (l : List Shelf) (x4 : Int) : ((List Bool) × Int) → Option (Step ((List Bool) × Int) (Out ((List Bool)) Bool))
  | (x9, x10) => (if decide (x10 < 3) then (idx l x4).bind fun x13 => (idx x13.Jobs x10).bind fun x14 => (spec_ClassOf x14.Op.Size).bind fun x15 => (if x4 == 0 then spec_Fair_j8 l x4 x9 x10 x14 x15 true else (if !x14.Busy then spec_Fair_j8 l x4 x9 x10 x14 x15 true else (idx l (w64 (x4 - 1))).bind fun x26 => (idx x26.Jobs x10).bind fun x27 => spec_Fair_j8 l x4 x9 x10 x14 x15 (x27.Serial != x14.Serial))) else some (.stop (Out.brk x9)))
noncomputable def spec_Fair_m2 (x4 : Int) : (Out ((List Bool)) Bool) → Option (Step ((List Bool) × Int) (Out Unit Bool))
  | .brk x11 => spec_Fair_j2 x4 x11
  | .ret r => some (.stop (Out.ret r))
noncomputable def spec_Fair_l1 (l : List Shelf) : ((List Bool) × Int) → Option (Step ((List Bool) × Int) (Out Unit Bool))
  | (x3, x4) => (if decide (x4 < ((l.length : Int))) then (idx l x4).bind fun x5 => (spec_ShelfOk x5).bind fun x6 => (if !x6 then some (.stop (Out.ret false)) else (loop (spec_Fair_l2 l x4) ((x3, 0))).bind (spec_Fair_m2 x4)) else some (.stop (Out.brk (()))))
noncomputable def spec_Fair_m1  : (Out Unit Bool) → Option Bool
  | .brk (()) => spec_Fair_j1
  | .ret r => some r
noncomputable def spec_Fair (l : List Shelf) : Option Bool :=
  need (0 ≤ (3 : Int) ∧ (3 : Int) ≤ 4294967296) ((loop (spec_Fair_l1 l) ((List.replicate ((3 : Int).toNat) false, 0))).bind (spec_Fair_m1))
noncomputable def laws_toIntS_j1 (x5 : List Int) : Option ((List Int)) :=
  some x5
noncomputable def laws_toIntS_l1 (a_ : List Int) : ((List Int) × Int) → Option (Step ((List Int) × Int) ((List Int)))
  | (x3, x4) => (if decide (x4 < ((a_.length : Int))) then (idx a_ x4).bind fun x6 => (idx x3 x4).bind fun x7 => some (.next ((x3.set x4.toNat x6, w64 (x4 + 1)))) else some (.stop (x3)))
noncomputable def laws_toIntS_m1  : ((List Int)) → Option ((List Int))
  | x5 => laws_toIntS_j1 x5
noncomputable def laws_toIntS (a_ : List Int) : Option ((List Int)) :=
  need (0 ≤ ((a_.length : Int) : Int) ∧ ((a_.length : Int) : Int) ≤ 4294967296) ((loop (laws_toIntS_l1 a_) ((List.replicate (((a_.length : Int)).toNat) 0, 0))).bind (laws_toIntS_m1))
noncomputable def laws_toHeap (a_ : Heap) : Option Heap :=
  (laws_toIntS a_.Bytes).bind fun x1 => (laws_toIntS a_.Class).bind fun x2 => some ((⟨x1, x2⟩ : Heap))
noncomputable def laws_toSList (a_ : SList) : Option SList :=
  (laws_toIntS a_.Slots).bind fun x1 => some ((⟨x1⟩ : SList))
noncomputable def laws_toSListS_j1 (x5 : List SList) : Option ((List SList)) :=
  some x5
noncomputable def laws_toSListS_l1 (a_ : List SList) : ((List SList) × Int) → Option (Step ((List SList) × Int) ((List SList)))
  | (x3, x4) => (if decide (x4 < ((a_.length : Int))) then (idx a_ x4).bind fun x6 => (laws_toSList x6).bind fun x7 => (idx x3 x4).bind fun x8 => some (.next ((x3.set x4.toNat x7, w64 (x4 + 1)))) else some (.stop (x3)))
noncomputable def laws_toSListS_m1  : ((List SList)) → Option ((List SList))
  | x5 => laws_toSListS_j1 x5
noncomputable def laws_toSListS (a_ : List SList) : Option ((List SList)) :=
  need (0 ≤ ((a_.length : Int) : Int) ∧ ((a_.length : Int) : Int) ≤ 4294967296) ((loop (laws_toSListS_l1 a_) ((List.replicate (((a_.length : Int)).toNat) ((⟨[]⟩ : SList)), 0))).bind (laws_toSListS_m1))
noncomputable def laws_toLists (a_ : Lists) : Option Lists :=
  (laws_toSListS a_.Global).bind fun x1 => (laws_toSListS a_.Own).bind fun x2 => some ((⟨x1, x2⟩ : Lists))
noncomputable def laws_toMem (a_ : Mem) : Option Mem :=
  (laws_toHeap a_.Heap).bind fun x1 => (laws_toLists a_.Lists).bind fun x2 => some ((⟨x1, x2⟩ : Mem))
noncomputable def laws_toPin (a_ : Pin) : Option Pin :=
  some a_
noncomputable def laws_toPinS_j1 (x5 : List Pin) : Option ((List Pin)) :=
  some x5
noncomputable def laws_toPinS_l1 (a_ : List Pin) : ((List Pin) × Int) → Option (Step ((List Pin) × Int) ((List Pin)))
  | (x3, x4) => (if decide (x4 < ((a_.length : Int))) then (idx a_ x4).bind fun x6 => (laws_toPin x6).bind fun x7 => (idx x3 x4).bind fun x8 => some (.next ((x3.set x4.toNat x7, w64 (x4 + 1)))) else some (.stop (x3)))
noncomputable def laws_toPinS_m1  : ((List Pin)) → Option ((List Pin))
  | x5 => laws_toPinS_j1 x5
noncomputable def laws_toPinS (a_ : List Pin) : Option ((List Pin)) :=
  need (0 ≤ ((a_.length : Int) : Int) ∧ ((a_.length : Int) : Int) ≤ 4294967296) ((loop (laws_toPinS_l1 a_) ((List.replicate (((a_.length : Int)).toNat) ((⟨false, 0, false, 0⟩ : Pin)), 0))).bind (laws_toPinS_m1))
noncomputable def laws_toClock (a_ : Clock) : Option Clock :=
  (laws_toPinS a_.Pins).bind fun x1 => some ((⟨a_.Epoch, x1⟩ : Clock))
noncomputable def laws_toLRow (a_ : LRow) : Option LRow :=
  some a_
noncomputable def laws_toLRowS_j1 (x5 : List LRow) : Option ((List LRow)) :=
  some x5
noncomputable def laws_toLRowS_l1 (a_ : List LRow) : ((List LRow) × Int) → Option (Step ((List LRow) × Int) ((List LRow)))
  | (x3, x4) => (if decide (x4 < ((a_.length : Int))) then (idx a_ x4).bind fun x6 => (laws_toLRow x6).bind fun x7 => (idx x3 x4).bind fun x8 => some (.next ((x3.set x4.toNat x7, w64 (x4 + 1)))) else some (.stop (x3)))
noncomputable def laws_toLRowS_m1  : ((List LRow)) → Option ((List LRow))
  | x5 => laws_toLRowS_j1 x5
noncomputable def laws_toLRowS (a_ : List LRow) : Option ((List LRow)) :=
  need (0 ≤ ((a_.length : Int) : Int) ∧ ((a_.length : Int) : Int) ≤ 4294967296) ((loop (laws_toLRowS_l1 a_) ((List.replicate (((a_.length : Int)).toNat) ((⟨0, 0⟩ : LRow)), 0))).bind (laws_toLRowS_m1))
noncomputable def laws_toLList (a_ : LList) : Option LList :=
  (laws_toLRowS a_.Rows).bind fun x1 => some ((⟨x1⟩ : LList))
noncomputable def laws_toLListS_j1 (x5 : List LList) : Option ((List LList)) :=
  some x5
noncomputable def laws_toLListS_l1 (a_ : List LList) : ((List LList) × Int) → Option (Step ((List LList) × Int) ((List LList)))
  | (x3, x4) => (if decide (x4 < ((a_.length : Int))) then (idx a_ x4).bind fun x6 => (laws_toLList x6).bind fun x7 => (idx x3 x4).bind fun x8 => some (.next ((x3.set x4.toNat x7, w64 (x4 + 1)))) else some (.stop (x3)))
noncomputable def laws_toLListS_m1  : ((List LList)) → Option ((List LList))
  | x5 => laws_toLListS_j1 x5
noncomputable def laws_toLListS (a_ : List LList) : Option ((List LList)) :=
  need (0 ≤ ((a_.length : Int) : Int) ∧ ((a_.length : Int) : Int) ≤ 4294967296) ((loop (laws_toLListS_l1 a_) ((List.replicate (((a_.length : Int)).toNat) ((⟨[]⟩ : LList)), 0))).bind (laws_toLListS_m1))
noncomputable def laws_toBase (a_ : Base) : Option Base :=
  (laws_toMem a_.Mem).bind fun x1 => (laws_toClock a_.Clock).bind fun x2 => (laws_toLListS a_.Limbo).bind fun x3 => (laws_toIntS a_.Haz).bind fun x4 => some ((⟨x1, x2, x3, x4⟩ : Base))
noncomputable def laws_toOp (a_ : GOp) : Option GOp :=
  some a_
noncomputable def laws_toSub (a_ : Sub) : Option Sub :=
  some a_
noncomputable def laws_toJob (a_ : Job) : Option Job :=
  (laws_toOp a_.Op).bind fun x1 => (laws_toSub a_.Sub).bind fun x2 => some ((⟨a_.Busy, x1, a_.Serial, a_.Pc, x2, a_.H, a_.Old, a_.Val, a_.Code⟩ : Job))
noncomputable def laws_toJobS_j1 (x5 : List Job) : Option ((List Job)) :=
  some x5
noncomputable def laws_toJobS_l1 (a_ : List Job) : ((List Job) × Int) → Option (Step ((List Job) × Int) ((List Job)))
  | (x3, x4) => (if decide (x4 < ((a_.length : Int))) then (idx a_ x4).bind fun x6 => (laws_toJob x6).bind fun x7 => (idx x3 x4).bind fun x8 => some (.next ((x3.set x4.toNat x7, w64 (x4 + 1)))) else some (.stop (x3)))
noncomputable def laws_toJobS_m1  : ((List Job)) → Option ((List Job))
  | x5 => laws_toJobS_j1 x5
noncomputable def laws_toJobS (a_ : List Job) : Option ((List Job)) :=
  need (0 ≤ ((a_.length : Int) : Int) ∧ ((a_.length : Int) : Int) ≤ 4294967296) ((loop (laws_toJobS_l1 a_) ((List.replicate (((a_.length : Int)).toNat) ((⟨false, (⟨0, 0, 0, 0⟩ : GOp), 0, 0, (⟨0, 0, 0, 0, 0, 0, 0, 0, 0, false⟩ : Sub), 0, 0, 0, 0⟩ : Job)), 0))).bind (laws_toJobS_m1))
noncomputable def laws_toOpS_j1 (x5 : List GOp) : Option ((List GOp)) :=
  some x5
noncomputable def laws_toOpS_l1 (a_ : List GOp) : ((List GOp) × Int) → Option (Step ((List GOp) × Int) ((List GOp)))
  | (x3, x4) => (if decide (x4 < ((a_.length : Int))) then (idx a_ x4).bind fun x6 => (laws_toOp x6).bind fun x7 => (idx x3 x4).bind fun x8 => some (.next ((x3.set x4.toNat x7, w64 (x4 + 1)))) else some (.stop (x3)))
noncomputable def laws_toOpS_m1  : ((List GOp)) → Option ((List GOp))
  | x5 => laws_toOpS_j1 x5
noncomputable def laws_toOpS (a_ : List GOp) : Option ((List GOp)) :=
  need (0 ≤ ((a_.length : Int) : Int) ∧ ((a_.length : Int) : Int) ≤ 4294967296) ((loop (laws_toOpS_l1 a_) ((List.replicate (((a_.length : Int)).toNat) ((⟨0, 0, 0, 0⟩ : GOp)), 0))).bind (laws_toOpS_m1))
noncomputable def laws_toQueue (a_ : Queue) : Option Queue :=
  (laws_toOpS a_.Ops).bind fun x1 => some ((⟨x1⟩ : Queue))
noncomputable def laws_toQueueS_j1 (x5 : List Queue) : Option ((List Queue)) :=
  some x5
noncomputable def laws_toQueueS_l1 (a_ : List Queue) : ((List Queue) × Int) → Option (Step ((List Queue) × Int) ((List Queue)))
  | (x3, x4) => (if decide (x4 < ((a_.length : Int))) then (idx a_ x4).bind fun x6 => (laws_toQueue x6).bind fun x7 => (idx x3 x4).bind fun x8 => some (.next ((x3.set x4.toNat x7, w64 (x4 + 1)))) else some (.stop (x3)))
noncomputable def laws_toQueueS_m1  : ((List Queue)) → Option ((List Queue))
  | x5 => laws_toQueueS_j1 x5
noncomputable def laws_toQueueS (a_ : List Queue) : Option ((List Queue)) :=
  need (0 ≤ ((a_.length : Int) : Int) ∧ ((a_.length : Int) : Int) ≤ 4294967296) ((loop (laws_toQueueS_l1 a_) ((List.replicate (((a_.length : Int)).toNat) ((⟨[]⟩ : Queue)), 0))).bind (laws_toQueueS_m1))
noncomputable def laws_toEv (a_ : Ev) : Option Ev :=
  some a_
noncomputable def laws_toEvS_j1 (x5 : List Ev) : Option ((List Ev)) :=
  some x5
noncomputable def laws_toEvS_l1 (a_ : List Ev) : ((List Ev) × Int) → Option (Step ((List Ev) × Int) ((List Ev)))
  | (x3, x4) => (if decide (x4 < ((a_.length : Int))) then (idx a_ x4).bind fun x6 => (laws_toEv x6).bind fun x7 => (idx x3 x4).bind fun x8 => some (.next ((x3.set x4.toNat x7, w64 (x4 + 1)))) else some (.stop (x3)))
noncomputable def laws_toEvS_m1  : ((List Ev)) → Option ((List Ev))
  | x5 => laws_toEvS_j1 x5
noncomputable def laws_toEvS (a_ : List Ev) : Option ((List Ev)) :=
  need (0 ≤ ((a_.length : Int) : Int) ∧ ((a_.length : Int) : Int) ≤ 4294967296) ((loop (laws_toEvS_l1 a_) ((List.replicate (((a_.length : Int)).toNat) ((⟨0, 0, 0, 0, 0, 0, 0⟩ : Ev)), 0))).bind (laws_toEvS_m1))
noncomputable def laws_toShelf (a_ : Shelf) : Option Shelf :=
  (laws_toBase a_.Base).bind fun x1 => (laws_toIntS a_.Cells).bind fun x2 => (laws_toJobS a_.Jobs).bind fun x3 => (laws_toQueueS a_.Todo).bind fun x4 => (laws_toEvS a_.Log).bind fun x5 => some ((⟨x1, x2, x3, x4, x5, a_.Serial⟩ : Shelf))
noncomputable def laws_toShelfS_j1 (x5 : List Shelf) : Option ((List Shelf)) :=
  some x5
noncomputable def laws_toShelfS_l1 (a_ : List Shelf) : ((List Shelf) × Int) → Option (Step ((List Shelf) × Int) ((List Shelf)))
  | (x3, x4) => (if decide (x4 < ((a_.length : Int))) then (idx a_ x4).bind fun x6 => (laws_toShelf x6).bind fun x7 => (idx x3 x4).bind fun x8 => some (.next ((x3.set x4.toNat x7, w64 (x4 + 1)))) else some (.stop (x3)))
noncomputable def laws_toShelfS_m1  : ((List Shelf)) → Option ((List Shelf))
  | x5 => laws_toShelfS_j1 x5
noncomputable def laws_toShelfS (a_ : List Shelf) : Option ((List Shelf)) :=
  need (0 ≤ ((a_.length : Int) : Int) ∧ ((a_.length : Int) : Int) ≤ 4294967296) ((loop (laws_toShelfS_l1 a_) ((List.replicate (((a_.length : Int)).toNat) ((⟨(⟨(⟨(⟨[], []⟩ : Heap), (⟨[], []⟩ : Lists)⟩ : Mem), (⟨0, []⟩ : Clock), [], []⟩ : Base), [], [], [], [], 0⟩ : Shelf)), 0))).bind (laws_toShelfS_m1))
noncomputable def slices_IndexFunc_int_j1  : Option Int :=
  some ((-1))
noncomputable def slices_IndexFunc_int_l1 (s : List Int) (f : (Int → Option Bool)) : Int → Option (Step Int (Out Unit Int))
  | x2 => (if decide (x2 < ((s.length : Int))) then (idx s x2).bind fun x3 => (f x3).bind fun x4 => (if x4 then some (.stop (Out.ret x2)) else some (.next (w64 (x2 + 1)))) else some (.stop (Out.brk (()))))
noncomputable def slices_IndexFunc_int_m1  : (Out Unit Int) → Option Int
  | .brk (()) => slices_IndexFunc_int_j1
  | .ret r => some r
noncomputable def slices_IndexFunc_int (s : List Int) (f : (Int → Option Bool)) : Option Int :=
  (loop (slices_IndexFunc_int_l1 s f) 0).bind (slices_IndexFunc_int_m1)
noncomputable def slices_ContainsFunc_int (s : List Int) (f : (Int → Option Bool)) : Option Bool :=
  (slices_IndexFunc_int s f).bind fun x1 => some (decide (0 ≤ x1))
noncomputable def impl_within_j1 (x1 : Bool) : Option Bool :=
  some x1
noncomputable def impl_within (n : Int) (low : Int) (high : Int) : Option Bool :=
  (if decide (low ≤ n) then impl_within_j1 (decide (n ≤ high)) else impl_within_j1 false)
noncomputable def impl_isByte (x : Int) : Option Bool :=
  (impl_within x 0 255).bind fun x1 => some x1
noncomputable def impl_BytesOk_1 (x : Int) : Option Bool :=
  (impl_isByte x).bind fun x1 => some (!x1)
noncomputable def impl_BytesOk_j1 (x1 : Bool) : Option Bool :=
  some x1
noncomputable def impl_BytesOk (b : List Int) : Option Bool :=
  (if decide (((b.length : Int)) ≤ 1000) then (slices_ContainsFunc_int b ((fun y0 => impl_BytesOk_1 y0 ))).bind fun x2 => impl_BytesOk_j1 (!x2) else impl_BytesOk_j1 false)
noncomputable def impl_shaped_1 (c : Int) : Option Bool :=
  (impl_within c ((-1)) 2).bind fun x1 => some (!x1)
noncomputable def impl_shaped_j1 (x1 : Bool) : Option Bool :=
  some x1
noncomputable def impl_shaped (h : Heap) : Option Bool :=
  (if ((h.Bytes.length : Int)) == 384 then (impl_BytesOk h.Bytes).bind fun x2 => (if x2 then (if ((h.Class.length : Int)) == 6 then (slices_ContainsFunc_int h.Class ((fun y0 => impl_shaped_1 y0 ))).bind fun x3 => impl_shaped_j1 (!x3) else impl_shaped_j1 false) else impl_shaped_j1 false) else impl_shaped_j1 false)
noncomputable def impl_loadNum_j1 (x5 : Int) : Option Int :=
  some x5
noncomputable def impl_loadNum_l1 (b : List Int) (at_ : Int) (width : Int) : (Int × Int) → Option (Step (Int × Int) Int)
  | (x3, x4) => (if decide (x4 < ((((b.take ((w64 (at_ + width)).toNat)).drop at_.toNat).length : Int))) then (idx ((b.take ((w64 (at_ + width)).toNat)).drop at_.toNat) x4).bind fun x6 => some (.next ((w64 ((w64 (256 * x3)) + x6), w64 (x4 + 1)))) else some (.stop (x3)))
noncomputable def impl_loadNum_m1  : Int → Option Int
  | x5 => impl_loadNum_j1 x5
noncomputable def impl_loadNum (b : List Int) (at_ : Int) (width : Int) : Option Int :=
  need (0 ≤ (at_ : Int) ∧ (at_ : Int) ≤ (w64 (at_ + width) : Int) ∧ (w64 (at_ + width) : Int) ≤ (b.length : Int)) ((loop (impl_loadNum_l1 b at_ width) ((0, 0))).bind (impl_loadNum_m1))
noncomputable def impl_isZero_1 (x : Int) : Option Bool :=
  some (x != 0)
noncomputable def impl_isZero (b : List Int) : Option Bool :=
  (slices_ContainsFunc_int b ((fun y0 => impl_isZero_1 y0 ))).bind fun x1 => some (!x1)
noncomputable def impl_isClass (c : Int) : Option Bool :=
  (impl_within c 0 2).bind fun x1 => some x1
noncomputable def impl_SizeOf (c : Int) : Option Int :=
  (impl_isClass c).bind fun x1 => (if !x1 then some 0 else (idx ([8, 16, 40] : List Int) c).bind fun x2 => some x2)
noncomputable def impl_StrideOf (c : Int) : Option Int :=
  (impl_isClass c).bind fun x1 => (if !x1 then some 0 else (impl_SizeOf c).bind fun x2 => some (w64 (4 + x2)))
noncomputable def impl_PerPage (c : Int) : Option Int :=
  (impl_isClass c).bind fun x1 => (if !x1 then some 0 else (impl_StrideOf c).bind fun x2 => need (x2 ≠ 0) (some (w64 (Int.tdiv 56 x2))))
noncomputable def impl_pageOk_j2  : Option Bool :=
  some true
noncomputable def impl_pageOk_l2 (h : Heap) (page : Int) (x1 : Int) (x4 : Int) : Int → Option (Step Int (Out Unit Bool))
  | x6 => (if decide (x6 < x4) then (impl_StrideOf x1).bind fun x7 => (impl_loadNum ((h.Bytes.take ((w64 ((w64 (page + 1)) * 64)).toNat)).drop ((w64 (page * 64)).toNat)) (w64 (8 + (w64 (x6 * x7)))) 4).bind fun x8 => (impl_within x8 1 7).bind fun x9 => (if !x9 then some (.stop (Out.ret false)) else some (.next (w64 (x6 + 1)))) else some (.stop (Out.brk (()))))
noncomputable def impl_pageOk_m2  : (Out Unit Bool) → Option Bool
  | .brk (()) => impl_pageOk_j2
  | .ret r => some r
noncomputable def impl_pageOk_j1 (h : Heap) (page : Int) (x1 : Int) (x3 : Bool) : Option Bool :=
  (if x3 then some false else (impl_PerPage x1).bind fun x4 => (loop (impl_pageOk_l2 h page x1 x4) 0).bind (impl_pageOk_m2))
noncomputable def impl_pageOk (h : Heap) (page : Int) : Option Bool :=
  (idx h.Class page).bind fun x1 => need (0 ≤ (w64 (page * 64) : Int) ∧ (w64 (page * 64) : Int) ≤ (w64 ((w64 (page + 1)) * 64) : Int) ∧ (w64 ((w64 (page + 1)) * 64) : Int) ≤ (h.Bytes.length : Int)) ((if decide (x1 < 0) then (impl_isZero ((h.Bytes.take ((w64 ((w64 (page + 1)) * 64)).toNat)).drop ((w64 (page * 64)).toNat))).bind fun x2 => some x2 else (idx ((h.Bytes.take ((w64 ((w64 (page + 1)) * 64)).toNat)).drop ((w64 (page * 64)).toNat)) 0).bind fun x10 => (if x10 != 171 then impl_pageOk_j1 h page x1 true else (idx ((h.Bytes.take ((w64 ((w64 (page + 1)) * 64)).toNat)).drop ((w64 (page * 64)).toNat)) 1).bind fun x11 => (if x11 != x1 then impl_pageOk_j1 h page x1 true else (idx ((h.Bytes.take ((w64 ((w64 (page + 1)) * 64)).toNat)).drop ((w64 (page * 64)).toNat)) 2).bind fun x12 => (impl_PerPage x1).bind fun x13 => (if x12 != x13 then impl_pageOk_j1 h page x1 true else need (0 ≤ (3 : Int) ∧ (3 : Int) ≤ (8 : Int) ∧ (8 : Int) ≤ (((h.Bytes.take ((w64 ((w64 (page + 1)) * 64)).toNat)).drop ((w64 (page * 64)).toNat)).length : Int)) ((impl_isZero ((((h.Bytes.take ((w64 ((w64 (page + 1)) * 64)).toNat)).drop ((w64 (page * 64)).toNat)).take ((8 : Int).toNat)).drop ((3 : Int).toNat))).bind fun x14 => impl_pageOk_j1 h page x1 (!x14)))))))
noncomputable def impl_HeapOk_j1  : Option Bool :=
  some true
noncomputable def impl_HeapOk_l1 (h : Heap) : Int → Option (Step Int (Out Unit Bool))
  | x3 => (if decide (x3 < 6) then (impl_pageOk h x3).bind fun x4 => (if !x4 then some (.stop (Out.ret false)) else some (.next (w64 (x3 + 1)))) else some (.stop (Out.brk (()))))
noncomputable def impl_HeapOk_m1  : (Out Unit Bool) → Option Bool
  | .brk (()) => impl_HeapOk_j1
  | .ret r => some r
noncomputable def impl_HeapOk (h : Heap) : Option Bool :=
  (impl_shaped h).bind fun x1 => (if !x1 then some false else (loop (impl_HeapOk_l1 h) 0).bind (impl_HeapOk_m1))
noncomputable def impl_isSlot (slot : Int) : Option Bool :=
  (impl_within slot 0 23).bind fun x1 => some x1
noncomputable def slices_Concat_SList_j2 (x10 : List Raw) : Option ((List Raw)) :=
  some x10
noncomputable def slices_Concat_SList_l2 (slices : List (List Raw)) : ((List Raw) × Int) → Option (Step ((List Raw) × Int) ((List Raw)))
  | (x8, x9) => (if decide (x9 < ((slices.length : Int))) then (idx slices x9).bind fun x11 => need (x8.length + x11.length ≤ 1073741824) (some (.next ((x8 ++ x11, w64 (x9 + 1))))) else some (.stop (x8)))
noncomputable def slices_Concat_SList_m2  : ((List Raw)) → Option ((List Raw))
  | x10 => slices_Concat_SList_j2 x10
noncomputable def slices_Concat_SList_j1 (slices : List (List Raw)) (x5 : Int) : Option ((List Raw)) :=
  need (0 ≤ x5 ∧ x5 ≤ 1073741824) ((loop (slices_Concat_SList_l2 slices) (([], 0))).bind (slices_Concat_SList_m2))
noncomputable def slices_Concat_SList_l1 (slices : List (List Raw)) : (Int × Int) → Option (Step (Int × Int) Int)
  | (x3, x4) => (if decide (x4 < ((slices.length : Int))) then (idx slices x4).bind fun x12 => (if decide ((w64 (x3 + ((x12.length : Int)))) < 0) then none else some (.next ((w64 (x3 + ((x12.length : Int))), w64 (x4 + 1))))) else some (.stop (x3)))
noncomputable def slices_Concat_SList_m1 (slices : List (List Raw)) : Int → Option ((List Raw))
  | x5 => slices_Concat_SList_j1 slices x5
noncomputable def slices_Concat_SList (slices : List (List Raw)) : Option ((List Raw)) :=
  (loop (slices_Concat_SList_l1 slices) ((0, 0))).bind (slices_Concat_SList_m1 slices)
theorem slices_Concat_SList_sizes {u1 u2 : List Raw} (h : u1.length + u2.length ≤ 1073741824) : loop (slices_Concat_SList_l1 [u1, u2]) (0, 0) = some ((u1.length + u2.length : Nat) : Int) := by
  have e1 : w64 (u1.length : Int) = u1.length := w64_id (by omega)
  have e2 : w64 ((u1.length : Int) + (u2.length : Int)) = ((u1.length + u2.length : Nat) : Int) := by rw [w64_id (by omega)]; rfl
  have e3 : w64 (0 + 1) = 1 := w64_id (by omega)
  have e4 : w64 2 = 2 := w64_id (by omega)
  have n1 : ¬ (u1.length : Int) < 0 := by omega
  have n2 : ¬ ((u1.length + u2.length : Nat) : Int) < 0 := by omega
  rw [loop_next (s' := ((u1.length : Int), 1)) ?_, loop_next (s' := (((u1.length + u2.length : Nat) : Int), 2)) ?_, loop_stop (r := ((u1.length + u2.length : Nat) : Int)) ?_]
  · simp [slices_Concat_SList_l1]
  · simp [slices_Concat_SList_l1, idx, e2, e4]
    omega
  · simp [slices_Concat_SList_l1, idx, e1, n1]
    exact e3
theorem slices_Concat_SList_two {u1 u2 : List Raw} {n1 n2 : Nat} (hl : u1.length = n1 ∧ u2.length = n2) (h : n1 + n2 ≤ 1073741824) : slices_Concat_SList [u1, u2] = some (u1 ++ u2) := by
  obtain ⟨rfl, rfl⟩ := hl
  have e3 : w64 (0 + 1) = 1 := w64_id (by omega)
  have e4 : w64 2 = 2 := w64_id (by omega)
  unfold slices_Concat_SList
  rw [slices_Concat_SList_sizes h]
  simp only [Option.bind_some, slices_Concat_SList_m1, slices_Concat_SList_j1]
  rw [need_yes (by omega), loop_next (s' := (u1, 1)) ?_, loop_next (s' := (u1 ++ u2, 2)) ?_, loop_stop (r := u1 ++ u2) ?_]
  · rfl
  · simp [slices_Concat_SList_l2]
  · simp [slices_Concat_SList_l2, idx, e4, need_yes h]
  · have h1 : u1.length ≤ 1073741824 := by omega
    simp [slices_Concat_SList_l2, idx, need_yes h1]
    exact e3
noncomputable def impl_ListsOk_j2  : Option Bool :=
  some true
noncomputable def impl_ListsOk_j4 (x4 : Int) (x12 : List Bool) : Option (Step (Int × (List Bool)) (Out Unit Bool)) :=
  some (.next ((w64 (x4 + 1), x12)))
noncomputable def impl_ListsOk_j5 (x10 : Int) (x11 : List Bool) (x13 : Int) (x14 : Bool) : Option (Step (Int × (List Bool)) (Out ((List Bool)) Bool)) :=
  (if x14 then some (.stop (Out.ret false)) else need (0 ≤ (x13 : Int) ∧ (x13 : Int) < 24) ((idx (x11 : List Bool) x13).bind fun x15 => some (.next ((w64 (x10 + 1), x11.set (x13.toNat) true)))))
noncomputable def impl_ListsOk_l4 (x6 : SList) : (Int × (List Bool)) → Option (Step (Int × (List Bool)) (Out ((List Bool)) Bool))
  | (x10, x11) => (if decide (x10 < ((x6.Slots.length : Int))) then (idx x6.Slots x10).bind fun x13 => (impl_isSlot x13).bind fun x16 => (if !x16 then impl_ListsOk_j5 x10 x11 x13 true else need (0 ≤ (x13 : Int) ∧ (x13 : Int) < 24) ((idx (x11 : List Bool) x13).bind fun x17 => impl_ListsOk_j5 x10 x11 x13 x17)) else some (.stop (Out.brk x11)))
noncomputable def impl_ListsOk_m4 (x4 : Int) : (Out ((List Bool)) Bool) → Option (Step (Int × (List Bool)) (Out Unit Bool))
  | .brk x12 => impl_ListsOk_j4 x4 x12
  | .ret r => some (.stop (Out.ret r))
noncomputable def impl_ListsOk_j3 (x4 : Int) (x5 : List Bool) (x6 : SList) (x7 : Bool) : Option (Step (Int × (List Bool)) (Out Unit Bool)) :=
  (if x7 then some (.stop (Out.ret false)) else (loop (impl_ListsOk_l4 x6) ((0, x5))).bind (impl_ListsOk_m4 x4))
noncomputable def impl_ListsOk_l2 (l : Lists) : (Int × (List Bool)) → Option (Step (Int × (List Bool)) (Out Unit Bool))
  | (x4, x5) => (if decide (x4 < (((l.Own ++ l.Global).length : Int))) then (idx (l.Own ++ l.Global) x4).bind fun x6 => (if decide (x4 < ((l.Own.length : Int))) then impl_ListsOk_j3 x4 x5 x6 (decide (2 < ((x6.Slots.length : Int)))) else impl_ListsOk_j3 x4 x5 x6 false) else some (.stop (Out.brk (()))))
noncomputable def impl_ListsOk_m2  : (Out Unit Bool) → Option Bool
  | .brk (()) => impl_ListsOk_j2
  | .ret r => some r
noncomputable def impl_ListsOk_j1 (l : Lists) (x1 : Bool) : Option Bool :=
  (if x1 then some false else need (l.Own.length + l.Global.length ≤ 1073741824) ((loop (impl_ListsOk_l2 l) ((0, [false, false, false, false, false, false, false, false, false, false, false, false, false, false, false, false, false, false, false, false, false, false, false, false]))).bind (impl_ListsOk_m2)))
noncomputable def impl_ListsOk (l : Lists) : Option Bool :=
  (if ((l.Global.length : Int)) != 3 then impl_ListsOk_j1 l true else impl_ListsOk_j1 l (((l.Own.length : Int)) != 9))
noncomputable def impl_GenAt_j1 (slot : Int) (c : Int) (x1 : Bool) : Option Int :=
  (if x1 then some ((-1)) else (impl_StrideOf c).bind fun x2 => some (w64 ((w64 ((w64 ((w64 (Int.tdiv slot 4)) * 64)) + 8)) + (w64 ((Int.tmod slot 4) * x2)))))
noncomputable def impl_GenAt (slot : Int) (c : Int) : Option Int :=
  (impl_isSlot slot).bind fun x3 => (if !x3 then impl_GenAt_j1 slot c true else (impl_isClass c).bind fun x4 => (if !x4 then impl_GenAt_j1 slot c true else (impl_PerPage c).bind fun x5 => impl_GenAt_j1 slot c (decide (x5 ≤ (Int.tmod slot 4)))))
noncomputable def impl_classIn_j1 (h : Heap) (slot : Int) (x1 : Bool) : Option Int :=
  (if x1 then some ((-1)) else (idx h.Class (w64 (Int.tdiv slot 4))).bind fun x2 => some x2)
noncomputable def impl_classIn (h : Heap) (slot : Int) : Option Int :=
  (impl_isSlot slot).bind fun x3 => (if !x3 then impl_classIn_j1 h slot true else (idx h.Class (w64 (Int.tdiv slot 4))).bind fun x4 => (impl_GenAt slot x4).bind fun x5 => impl_classIn_j1 h slot (decide (x5 < 0)))
noncomputable def impl_ClassAt (h : Heap) (slot : Int) : Option Int :=
  (impl_shaped h).bind fun x1 => (if !x1 then some ((-1)) else (impl_classIn h slot).bind fun x2 => some x2)
noncomputable def impl_GenIn (h : Heap) (slot : Int) : Option Int :=
  (impl_ClassAt h slot).bind fun x1 => (if decide (x1 < 0) then some 0 else (impl_GenAt slot x1).bind fun x2 => (impl_loadNum h.Bytes x2 4).bind fun x3 => some x3)
noncomputable def impl_listFits_j1  : Option Bool :=
  some true
noncomputable def impl_listFits_j2 (x2 : Int) (x4 : Bool) : Option (Step Int (Out Unit Bool)) :=
  (if x4 then some (.stop (Out.ret false)) else some (.next (w64 (x2 + 1))))
noncomputable def impl_listFits_l1 (h : Heap) (s : SList) (c : Int) : Int → Option (Step Int (Out Unit Bool))
  | x2 => (if decide (x2 < ((s.Slots.length : Int))) then (idx s.Slots x2).bind fun x3 => (impl_classIn h x3).bind fun x5 => (if x5 != c then impl_listFits_j2 x2 true else (impl_GenIn h x3).bind fun x6 => impl_listFits_j2 x2 (decide (6 < x6))) else some (.stop (Out.brk (()))))
noncomputable def impl_listFits_m1  : (Out Unit Bool) → Option Bool
  | .brk (()) => impl_listFits_j1
  | .ret r => some r
noncomputable def impl_listFits (h : Heap) (s : SList) (c : Int) : Option Bool :=
  (loop (impl_listFits_l1 h s c) 0).bind (impl_listFits_m1)
noncomputable def impl_MemOk_j3  : Option Bool :=
  some true
noncomputable def impl_MemOk_l3 (m : Mem) : Int → Option (Step Int (Out Unit Bool))
  | x5 => (if decide (x5 < ((m.Lists.Own.length : Int))) then (idx m.Lists.Own x5).bind fun x6 => (impl_listFits m.Heap x6 (Int.tmod x5 3)).bind fun x7 => (if !x7 then some (.stop (Out.ret false)) else some (.next (w64 (x5 + 1)))) else some (.stop (Out.brk (()))))
noncomputable def impl_MemOk_m3  : (Out Unit Bool) → Option Bool
  | .brk (()) => impl_MemOk_j3
  | .ret r => some r
noncomputable def impl_MemOk_j2 (m : Mem) : Option Bool :=
  (loop (impl_MemOk_l3 m) 0).bind (impl_MemOk_m3)
noncomputable def impl_MemOk_l2 (m : Mem) : Int → Option (Step Int (Out Unit Bool))
  | x3 => (if decide (x3 < ((m.Lists.Global.length : Int))) then (idx m.Lists.Global x3).bind fun x8 => (impl_listFits m.Heap x8 x3).bind fun x9 => (if !x9 then some (.stop (Out.ret false)) else some (.next (w64 (x3 + 1)))) else some (.stop (Out.brk (()))))
noncomputable def impl_MemOk_m2 (m : Mem) : (Out Unit Bool) → Option Bool
  | .brk (()) => impl_MemOk_j2 m
  | .ret r => some r
noncomputable def impl_MemOk_j1 (m : Mem) (x1 : Bool) : Option Bool :=
  (if x1 then some false else (loop (impl_MemOk_l2 m) 0).bind (impl_MemOk_m2 m))
noncomputable def impl_MemOk (m : Mem) : Option Bool :=
  (impl_HeapOk m.Heap).bind fun x10 => (if !x10 then impl_MemOk_j1 m true else (impl_ListsOk m.Lists).bind fun x11 => impl_MemOk_j1 m (!x11))
noncomputable def slices_IndexFunc_Pin_j1  : Option Int :=
  some ((-1))
noncomputable def slices_IndexFunc_Pin_l1 (s : List Pin) (f : (Pin → Option Bool)) : Int → Option (Step Int (Out Unit Int))
  | x2 => (if decide (x2 < ((s.length : Int))) then (idx s x2).bind fun x3 => (f x3).bind fun x4 => (if x4 then some (.stop (Out.ret x2)) else some (.next (w64 (x2 + 1)))) else some (.stop (Out.brk (()))))
noncomputable def slices_IndexFunc_Pin_m1  : (Out Unit Int) → Option Int
  | .brk (()) => slices_IndexFunc_Pin_j1
  | .ret r => some r
noncomputable def slices_IndexFunc_Pin (s : List Pin) (f : (Pin → Option Bool)) : Option Int :=
  (loop (slices_IndexFunc_Pin_l1 s f) 0).bind (slices_IndexFunc_Pin_m1)
noncomputable def slices_ContainsFunc_Pin (s : List Pin) (f : (Pin → Option Bool)) : Option Bool :=
  (slices_IndexFunc_Pin s f).bind fun x1 => some (decide (0 ≤ x1))
noncomputable def impl_ClockOk_1_j1 (x1 : Bool) : Option Bool :=
  some x1
noncomputable def impl_ClockOk_1 (p : Pin) (k0 : Clock) : Option Bool :=
  (impl_within p.Epoch 0 k0.Epoch).bind fun x2 => (if !x2 then impl_ClockOk_1_j1 true else (impl_within p.Seen 0 2).bind fun x3 => (if !x3 then impl_ClockOk_1_j1 true else (if !p.On then impl_ClockOk_1_j1 (!(decide (p = (⟨false, 0, false, 0⟩ : Pin)))) else impl_ClockOk_1_j1 false)))
noncomputable def impl_ClockOk_j1 (x1 : Bool) : Option Bool :=
  some x1
noncomputable def impl_ClockOk (c : Clock) : Option Bool :=
  (impl_within c.Epoch 0 100000).bind fun x2 => (if x2 then (if ((c.Pins.length : Int)) == 3 then (slices_ContainsFunc_Pin c.Pins ((fun y0 => impl_ClockOk_1 y0 c))).bind fun x3 => impl_ClockOk_j1 (!x3) else impl_ClockOk_j1 false) else impl_ClockOk_j1 false)
noncomputable def impl_HandleOk_j1 (x1 : Bool) : Option Bool :=
  some x1
noncomputable def impl_HandleOk (h : Int) : Option Bool :=
  (impl_within h 32 223).bind fun x2 => (if x2 then impl_HandleOk_j1 (decide ((Int.tmod h 32) < 24)) else impl_HandleOk_j1 false)
noncomputable def impl_LimboSize_j1 (x5 : Int) : Option Int :=
  some x5
noncomputable def impl_LimboSize_l1 (l : List LList) : (Int × Int) → Option (Step (Int × Int) Int)
  | (x3, x4) => (if decide (x4 < ((l.length : Int))) then (idx l x4).bind fun x6 => some (.next ((w64 (x3 + ((x6.Rows.length : Int))), w64 (x4 + 1)))) else some (.stop (x3)))
noncomputable def impl_LimboSize_m1  : Int → Option Int
  | x5 => impl_LimboSize_j1 x5
noncomputable def impl_LimboSize (l : List LList) : Option Int :=
  (loop (impl_LimboSize_l1 l) ((0, 0))).bind (impl_LimboSize_m1)
noncomputable def impl_LimboOk_j1 (l : List LList) : Option Bool :=
  (impl_LimboSize l).bind fun x5 => some (decide (x5 ≤ 24))
noncomputable def impl_LimboOk_j2 (x3 : Int) (x11 : List Bool) : Option (Step (Int × (List Bool)) (Out Unit Bool)) :=
  some (.next ((w64 (x3 + 1), x11)))
noncomputable def impl_LimboOk_j3 (x9 : Int) (x10 : List Bool) (x12 : LRow) (x13 : Bool) : Option (Step (Int × (List Bool)) (Out ((List Bool)) Bool)) :=
  (if x13 then some (.stop (Out.ret false)) else need (0 ≤ (Int.tmod x12.Handle 32 : Int) ∧ (Int.tmod x12.Handle 32 : Int) < 24) ((idx (x10 : List Bool) (Int.tmod x12.Handle 32)).bind fun x14 => some (.next ((w64 (x9 + 1), x10.set ((Int.tmod x12.Handle 32).toNat) true)))))
noncomputable def impl_LimboOk_l2 (x6 : LList) : (Int × (List Bool)) → Option (Step (Int × (List Bool)) (Out ((List Bool)) Bool))
  | (x9, x10) => (if decide (x9 < ((x6.Rows.length : Int))) then (idx x6.Rows x9).bind fun x12 => (impl_HandleOk x12.Handle).bind fun x15 => (if !x15 then impl_LimboOk_j3 x9 x10 x12 true else (impl_within x12.Epoch 0 100000).bind fun x16 => (if !x16 then impl_LimboOk_j3 x9 x10 x12 true else need (0 ≤ (Int.tmod x12.Handle 32 : Int) ∧ (Int.tmod x12.Handle 32 : Int) < 24) ((idx (x10 : List Bool) (Int.tmod x12.Handle 32)).bind fun x17 => impl_LimboOk_j3 x9 x10 x12 x17))) else some (.stop (Out.brk x10)))
noncomputable def impl_LimboOk_m2 (x3 : Int) : (Out ((List Bool)) Bool) → Option (Step (Int × (List Bool)) (Out Unit Bool))
  | .brk x11 => impl_LimboOk_j2 x3 x11
  | .ret r => some (.stop (Out.ret r))
noncomputable def impl_LimboOk_l1 (l : List LList) : (Int × (List Bool)) → Option (Step (Int × (List Bool)) (Out Unit Bool))
  | (x3, x4) => (if decide (x3 < ((l.length : Int))) then (idx l x3).bind fun x6 => (loop (impl_LimboOk_l2 x6) ((0, x4))).bind (impl_LimboOk_m2 x3) else some (.stop (Out.brk (()))))
noncomputable def impl_LimboOk_m1 (l : List LList) : (Out Unit Bool) → Option Bool
  | .brk (()) => impl_LimboOk_j1 l
  | .ret r => some r
noncomputable def impl_LimboOk (l : List LList) : Option Bool :=
  (if ((l.length : Int)) != 3 then some false else (loop (impl_LimboOk_l1 l) ((0, [false, false, false, false, false, false, false, false, false, false, false, false, false, false, false, false, false, false, false, false, false, false, false, false]))).bind (impl_LimboOk_m1 l))
noncomputable def impl_isLink_j1 (x1 : Bool) : Option Bool :=
  some x1
noncomputable def impl_isLink (h : Int) : Option Bool :=
  (if h == 0 then impl_isLink_j1 true else (impl_HandleOk h).bind fun x2 => impl_isLink_j1 x2)
noncomputable def impl_HazOk_1 (h : Int) : Option Bool :=
  (impl_isLink h).bind fun x1 => some (!x1)
noncomputable def impl_HazOk_j1 (x1 : Bool) : Option Bool :=
  some x1
noncomputable def impl_HazOk (z : List Int) : Option Bool :=
  (if ((z.length : Int)) == 3 then (slices_ContainsFunc_int z ((fun y0 => impl_HazOk_1 y0 ))).bind fun x2 => impl_HazOk_j1 (!x2) else impl_HazOk_j1 false)
noncomputable def slices_IndexFunc_LList_j1  : Option Int :=
  some ((-1))
noncomputable def slices_IndexFunc_LList_l1 (s : List LList) (f : (LList → Option Bool)) : Int → Option (Step Int (Out Unit Int))
  | x2 => (if decide (x2 < ((s.length : Int))) then (idx s x2).bind fun x3 => (f x3).bind fun x4 => (if x4 then some (.stop (Out.ret x2)) else some (.next (w64 (x2 + 1)))) else some (.stop (Out.brk (()))))
noncomputable def slices_IndexFunc_LList_m1  : (Out Unit Int) → Option Int
  | .brk (()) => slices_IndexFunc_LList_j1
  | .ret r => some r
noncomputable def slices_IndexFunc_LList (s : List LList) (f : (LList → Option Bool)) : Option Int :=
  (loop (slices_IndexFunc_LList_l1 s f) 0).bind (slices_IndexFunc_LList_m1)
noncomputable def slices_ContainsFunc_LList (s : List LList) (f : (LList → Option Bool)) : Option Bool :=
  (slices_IndexFunc_LList s f).bind fun x1 => some (decide (0 ≤ x1))
noncomputable def slices_IndexFunc_LRow_j1  : Option Int :=
  some ((-1))
noncomputable def slices_IndexFunc_LRow_l1 (s : List LRow) (f : (LRow → Option Bool)) : Int → Option (Step Int (Out Unit Int))
  | x2 => (if decide (x2 < ((s.length : Int))) then (idx s x2).bind fun x3 => (f x3).bind fun x4 => (if x4 then some (.stop (Out.ret x2)) else some (.next (w64 (x2 + 1)))) else some (.stop (Out.brk (()))))
noncomputable def slices_IndexFunc_LRow_m1  : (Out Unit Int) → Option Int
  | .brk (()) => slices_IndexFunc_LRow_j1
  | .ret r => some r
noncomputable def slices_IndexFunc_LRow (s : List LRow) (f : (LRow → Option Bool)) : Option Int :=
  (loop (slices_IndexFunc_LRow_l1 s f) 0).bind (slices_IndexFunc_LRow_m1)
noncomputable def slices_ContainsFunc_LRow (s : List LRow) (f : (LRow → Option Bool)) : Option Bool :=
  (slices_IndexFunc_LRow s f).bind fun x1 => some (decide (0 ≤ x1))
noncomputable def slices_Index_int_j1  : Option Int :=
  some ((-1))
noncomputable def slices_Index_int_l1 (s : List Int) (v : Int) : Int → Option (Step Int (Out Unit Int))
  | x2 => (if decide (x2 < ((s.length : Int))) then (idx s x2).bind fun x3 => (if v == x3 then some (.stop (Out.ret x2)) else some (.next (w64 (x2 + 1)))) else some (.stop (Out.brk (()))))
noncomputable def slices_Index_int_m1  : (Out Unit Int) → Option Int
  | .brk (()) => slices_Index_int_j1
  | .ret r => some r
noncomputable def slices_Index_int (s : List Int) (v : Int) : Option Int :=
  (loop (slices_Index_int_l1 s v) 0).bind (slices_Index_int_m1)
noncomputable def slices_Contains_int (s : List Int) (v : Int) : Option Bool :=
  (slices_Index_int s v).bind fun x1 => some (decide (0 ≤ x1))
noncomputable def impl_OnList_1 (s : SList) (k0 : Int) : Option Bool :=
  (slices_Contains_int s.Slots k0).bind fun x1 => some x1
noncomputable def slices_IndexFunc_SList_j1  : Option Int :=
  some ((-1))
noncomputable def slices_IndexFunc_SList_l1 (s : List SList) (f : (SList → Option Bool)) : Int → Option (Step Int (Out Unit Int))
  | x2 => (if decide (x2 < ((s.length : Int))) then (idx s x2).bind fun x3 => (f x3).bind fun x4 => (if x4 then some (.stop (Out.ret x2)) else some (.next (w64 (x2 + 1)))) else some (.stop (Out.brk (()))))
noncomputable def slices_IndexFunc_SList_m1  : (Out Unit Int) → Option Int
  | .brk (()) => slices_IndexFunc_SList_j1
  | .ret r => some r
noncomputable def slices_IndexFunc_SList (s : List SList) (f : (SList → Option Bool)) : Option Int :=
  (loop (slices_IndexFunc_SList_l1 s f) 0).bind (slices_IndexFunc_SList_m1)
noncomputable def slices_ContainsFunc_SList (s : List SList) (f : (SList → Option Bool)) : Option Bool :=
  (slices_IndexFunc_SList s f).bind fun x1 => some (decide (0 ≤ x1))
noncomputable def impl_OnList_j1 (x1 : Bool) : Option Bool :=
  some x1
noncomputable def impl_OnList (l : Lists) (slot : Int) : Option Bool :=
  (slices_ContainsFunc_SList l.Global ((fun y0 => impl_OnList_1 y0 slot))).bind fun x2 => (if x2 then impl_OnList_j1 true else (slices_ContainsFunc_SList l.Own ((fun y0 => impl_OnList_1 y0 slot))).bind fun x3 => impl_OnList_j1 x3)
noncomputable def impl_stateOf (m : Mem) (slot : Int) : Option Int :=
  (impl_classIn m.Heap slot).bind fun x1 => (if decide (x1 < 0) then some 0 else (impl_OnList m.Lists slot).bind fun x2 => (if x2 then some 1 else (impl_GenIn m.Heap slot).bind fun x3 => (if decide (6 < x3) then some 2 else some 3)))
noncomputable def impl_isLive_j1 (x1 : Bool) : Option Bool :=
  some x1
noncomputable def impl_isLive (m : Mem) (h : Int) : Option Bool :=
  (impl_HandleOk h).bind fun x2 => (if x2 then (impl_stateOf m (Int.tmod h 32)).bind fun x3 => (if x3 == 3 then (impl_GenIn m.Heap (Int.tmod h 32)).bind fun x4 => impl_isLive_j1 (x4 == (w64 (Int.tdiv h 32))) else impl_isLive_j1 false) else impl_isLive_j1 false)
noncomputable def impl_BaseOk_1_1_j1 (x1 : Bool) : Option Bool :=
  some x1
noncomputable def impl_BaseOk_1_1 (r_ : LRow) (k0 : Base) : Option Bool :=
  (impl_isLive k0.Mem r_.Handle).bind fun x2 => (if !x2 then impl_BaseOk_1_1_j1 true else impl_BaseOk_1_1_j1 (decide (k0.Clock.Epoch < r_.Epoch)))
noncomputable def impl_BaseOk_1 (l : LList) (k0 : Base) : Option Bool :=
  (slices_ContainsFunc_LRow l.Rows ((fun y0 => impl_BaseOk_1_1 y0 k0))).bind fun x1 => some x1
noncomputable def impl_BaseOk_j1 (b : Base) (x1 : Bool) : Option Bool :=
  (if x1 then some false else (slices_ContainsFunc_LList b.Limbo ((fun y0 => impl_BaseOk_1 y0 b))).bind fun x2 => some (!x2))
noncomputable def impl_BaseOk (b : Base) : Option Bool :=
  (impl_MemOk b.Mem).bind fun x3 => (if !x3 then impl_BaseOk_j1 b true else (impl_ClockOk b.Clock).bind fun x4 => (if !x4 then impl_BaseOk_j1 b true else (impl_LimboOk b.Limbo).bind fun x5 => (if !x5 then impl_BaseOk_j1 b true else (impl_HazOk b.Haz).bind fun x6 => impl_BaseOk_j1 b (!x6))))
noncomputable def slices_IndexFunc_Queue_j1  : Option Int :=
  some ((-1))
noncomputable def slices_IndexFunc_Queue_l1 (s : List Queue) (f : (Queue → Option Bool)) : Int → Option (Step Int (Out Unit Int))
  | x2 => (if decide (x2 < ((s.length : Int))) then (idx s x2).bind fun x3 => (f x3).bind fun x4 => (if x4 then some (.stop (Out.ret x2)) else some (.next (w64 (x2 + 1)))) else some (.stop (Out.brk (()))))
noncomputable def slices_IndexFunc_Queue_m1  : (Out Unit Int) → Option Int
  | .brk (()) => slices_IndexFunc_Queue_j1
  | .ret r => some r
noncomputable def slices_IndexFunc_Queue (s : List Queue) (f : (Queue → Option Bool)) : Option Int :=
  (loop (slices_IndexFunc_Queue_l1 s f) 0).bind (slices_IndexFunc_Queue_m1)
noncomputable def slices_ContainsFunc_Queue (s : List Queue) (f : (Queue → Option Bool)) : Option Bool :=
  (slices_IndexFunc_Queue s f).bind fun x1 => some (decide (0 ≤ x1))
noncomputable def slices_IndexFunc_Op_j1  : Option Int :=
  some ((-1))
noncomputable def slices_IndexFunc_Op_l1 (s : List GOp) (f : (GOp → Option Bool)) : Int → Option (Step Int (Out Unit Int))
  | x2 => (if decide (x2 < ((s.length : Int))) then (idx s x2).bind fun x3 => (f x3).bind fun x4 => (if x4 then some (.stop (Out.ret x2)) else some (.next (w64 (x2 + 1)))) else some (.stop (Out.brk (()))))
noncomputable def slices_IndexFunc_Op_m1  : (Out Unit Int) → Option Int
  | .brk (()) => slices_IndexFunc_Op_j1
  | .ret r => some r
noncomputable def slices_IndexFunc_Op (s : List GOp) (f : (GOp → Option Bool)) : Option Int :=
  (loop (slices_IndexFunc_Op_l1 s f) 0).bind (slices_IndexFunc_Op_m1)
noncomputable def slices_ContainsFunc_Op (s : List GOp) (f : (GOp → Option Bool)) : Option Bool :=
  (slices_IndexFunc_Op s f).bind fun x1 => some (decide (0 ≤ x1))
noncomputable def impl_OpOk_j3 (x4 : Bool) : Option Bool :=
  some x4
noncomputable def impl_OpOk_j4 (x7 : Bool) : Option Bool :=
  some x7
noncomputable def impl_OpOk_j2 (o_ : GOp) (x3 : Bool) : Option Bool :=
  (if x3 then some false else (if o_.Kind == 1 then (impl_within o_.Size 0 100).bind fun x5 => (if x5 then (impl_within o_.Val 0 65535).bind fun x6 => impl_OpOk_j3 x6 else impl_OpOk_j3 false) else (if o_.Size == 0 then impl_OpOk_j4 (o_.Val == 0) else impl_OpOk_j4 false)))
noncomputable def impl_OpOk_j1 (o_ : GOp) (x1 : Bool) : Option Bool :=
  (impl_within o_.Kind 1 7).bind fun x2 => (if !x2 then some false else (if x1 then (impl_within o_.Cell 0 1).bind fun x8 => (if !x8 then impl_OpOk_j2 o_ true else impl_OpOk_j2 o_ false) else impl_OpOk_j2 o_ (o_.Cell != 0)))
noncomputable def impl_OpOk (o_ : GOp) : Option Bool :=
  (if o_.Kind == 1 then impl_OpOk_j1 o_ true else (if o_.Kind == 2 then impl_OpOk_j1 o_ true else (if o_.Kind == 3 then impl_OpOk_j1 o_ true else impl_OpOk_j1 o_ (o_.Kind == 7))))
noncomputable def impl_todoOk_1_1 (o_ : GOp) : Option Bool :=
  (impl_OpOk o_).bind fun x1 => some (!x1)
noncomputable def impl_todoOk_1_j1 (x1 : Bool) : Option Bool :=
  some x1
noncomputable def impl_todoOk_1 (q : Queue) : Option Bool :=
  (if decide (12 < ((q.Ops.length : Int))) then impl_todoOk_1_j1 true else (slices_ContainsFunc_Op q.Ops ((fun y0 => impl_todoOk_1_1 y0 ))).bind fun x2 => impl_todoOk_1_j1 x2)
noncomputable def impl_todoOk_j1 (x1 : Bool) : Option Bool :=
  some x1
noncomputable def impl_todoOk (todo : List Queue) : Option Bool :=
  (if ((todo.length : Int)) == 3 then (slices_ContainsFunc_Queue todo ((fun y0 => impl_todoOk_1 y0 ))).bind fun x2 => impl_todoOk_j1 (!x2) else impl_todoOk_j1 false)
noncomputable def impl_ShelfOk_1 (h : Int) : Option Bool :=
  (impl_isLink h).bind fun x1 => some (!x1)
noncomputable def slices_IndexFunc_Job_j1  : Option Int :=
  some ((-1))
noncomputable def slices_IndexFunc_Job_l1 (s : List Job) (f : (Job → Option Bool)) : Int → Option (Step Int (Out Unit Int))
  | x2 => (if decide (x2 < ((s.length : Int))) then (idx s x2).bind fun x3 => (f x3).bind fun x4 => (if x4 then some (.stop (Out.ret x2)) else some (.next (w64 (x2 + 1)))) else some (.stop (Out.brk (()))))
noncomputable def slices_IndexFunc_Job_m1  : (Out Unit Int) → Option Int
  | .brk (()) => slices_IndexFunc_Job_j1
  | .ret r => some r
noncomputable def slices_IndexFunc_Job (s : List Job) (f : (Job → Option Bool)) : Option Int :=
  (loop (slices_IndexFunc_Job_l1 s f) 0).bind (slices_IndexFunc_Job_m1)
noncomputable def slices_ContainsFunc_Job (s : List Job) (f : (Job → Option Bool)) : Option Bool :=
  (slices_IndexFunc_Job s f).bind fun x1 => some (decide (0 ≤ x1))
noncomputable def impl_jobOk_j1 (x1 : Bool) : Option Bool :=
  some x1
noncomputable def impl_jobOk (j : Job) : Option Bool :=
  (if !j.Busy then some (decide (j = (⟨false, (⟨0, 0, 0, 0⟩ : GOp), 0, 0, (⟨0, 0, 0, 0, 0, 0, 0, 0, 0, false⟩ : Sub), 0, 0, 0, 0⟩ : Job))) else (impl_OpOk j.Op).bind fun x2 => (if x2 then (impl_isLink j.H).bind fun x3 => (if x3 then (impl_isLink j.Old).bind fun x4 => impl_jobOk_j1 x4 else impl_jobOk_j1 false) else impl_jobOk_j1 false))
noncomputable def impl_ShelfOk_2 (j : Job) : Option Bool :=
  (impl_jobOk j).bind fun x1 => some (!x1)
noncomputable def impl_ShelfOk_j1 (x1 : Bool) : Option Bool :=
  some x1
noncomputable def impl_ShelfOk (s : Shelf) : Option Bool :=
  (impl_BaseOk s.Base).bind fun x2 => (if x2 then (if ((s.Cells.length : Int)) == 2 then (if ((s.Jobs.length : Int)) == 3 then (impl_todoOk s.Todo).bind fun x3 => (if x3 then (impl_within s.Serial 0 1000000).bind fun x4 => (if x4 then (slices_ContainsFunc_int s.Cells ((fun y0 => impl_ShelfOk_1 y0 ))).bind fun x5 => (if !x5 then (slices_ContainsFunc_Job s.Jobs ((fun y0 => impl_ShelfOk_2 y0 ))).bind fun x6 => impl_ShelfOk_j1 (!x6) else impl_ShelfOk_j1 false) else impl_ShelfOk_j1 false) else impl_ShelfOk_j1 false) else impl_ShelfOk_j1 false) else impl_ShelfOk_j1 false) else impl_ShelfOk_j1 false)
noncomputable def impl_ClassOf_j1  : Option Int :=
  some ((-1))
noncomputable def impl_ClassOf_j2 (x2 : Int) (x3 : Bool) : Option (Step Int (Out Unit Int)) :=
  (if x3 then some (.stop (Out.ret x2)) else some (.next (w64 (x2 + 1))))
noncomputable def impl_ClassOf_l1 (size : Int) : Int → Option (Step Int (Out Unit Int))
  | x2 => (if decide (x2 < 3) then (if decide (1 ≤ size) then (impl_SizeOf x2).bind fun x4 => impl_ClassOf_j2 x2 (decide (size ≤ x4)) else impl_ClassOf_j2 x2 false) else some (.stop (Out.brk (()))))
noncomputable def impl_ClassOf_m1  : (Out Unit Int) → Option Int
  | .brk (()) => impl_ClassOf_j1
  | .ret r => some r
noncomputable def impl_ClassOf (size : Int) : Option Int :=
  (loop (impl_ClassOf_l1 size) 0).bind (impl_ClassOf_m1)
noncomputable def impl_isSet_j1 (x1 : Bool) : Option Bool :=
  some x1
noncomputable def impl_isSet (j : Job) : Option Bool :=
  (if j.Busy then (if j.Op.Kind == 1 then (impl_ClassOf j.Op.Size).bind fun x2 => impl_isSet_j1 (decide (0 ≤ x2)) else impl_isSet_j1 false) else impl_isSet_j1 false)
noncomputable def impl_isWorker (w_ : Int) : Option Bool :=
  (impl_within w_ 0 2).bind fun x1 => some x1
noncomputable def impl_OwnAt_j1 (w_ : Int) (c : Int) (x1 : Bool) : Option Int :=
  (if x1 then some ((-1)) else some (w64 ((w64 (w_ * 3)) + c)))
noncomputable def impl_OwnAt (w_ : Int) (c : Int) : Option Int :=
  (impl_isWorker w_).bind fun x2 => (if !x2 then impl_OwnAt_j1 w_ c true else (impl_isClass c).bind fun x3 => impl_OwnAt_j1 w_ c (!x3))
noncomputable def impl_Ungranted_j1 (x5 : Int) : Option Int :=
  some x5
noncomputable def impl_Ungranted_j2 (x4 : Int) (x6 : Int) : Option (Step (Int × Int) Int) :=
  some (.next ((x6, w64 (x4 + 1))))
noncomputable def impl_Ungranted_l1 (h : Heap) : (Int × Int) → Option (Step (Int × Int) Int)
  | (x3, x4) => (if decide (x4 < ((h.Class.length : Int))) then (idx h.Class x4).bind fun x7 => (if x7 == ((-1)) then impl_Ungranted_j2 x4 (w64 (x3 + 1)) else impl_Ungranted_j2 x4 x3) else some (.stop (x3)))
noncomputable def impl_Ungranted_m1  : Int → Option Int
  | x5 => impl_Ungranted_j1 x5
noncomputable def impl_Ungranted (h : Heap) : Option Int :=
  (loop (impl_Ungranted_l1 h) ((0, 0))).bind (impl_Ungranted_m1)
noncomputable def impl_exhausted_j1 (x4 : Bool) : Option Bool :=
  some x4
noncomputable def impl_exhausted (s : Shelf) (w_ : Int) : Option Bool :=
  (idx s.Jobs w_).bind fun x1 => (impl_isSet x1).bind fun x2 => (if !x2 then some false else (impl_ClassOf x1.Op.Size).bind fun x3 => (idx s.Base.Mem.Lists.Global x3).bind fun x5 => (if ((x5.Slots.length : Int)) == 0 then (impl_OwnAt w_ x3).bind fun x6 => (idx s.Base.Mem.Lists.Own x6).bind fun x7 => (if ((x7.Slots.length : Int)) == 0 then (impl_Ungranted s.Base.Mem.Heap).bind fun x8 => impl_exhausted_j1 (x8 == 0) else impl_exhausted_j1 false) else impl_exhausted_j1 false))
noncomputable def impl_wasExhausted_j1  : Option Bool :=
  some false
noncomputable def impl_wasExhausted_j2 (l : List Shelf) (w_ : Int) (x4 : Int) (x5 : Bool) : Option (Step Int (Out Unit Bool)) :=
  (if x5 then (idx l x4).bind fun x6 => (impl_exhausted x6 w_).bind fun x7 => (if x7 then some (.stop (Out.ret true)) else some (.next (w64 (x4 - 1)))) else some (.stop (Out.brk (()))))
noncomputable def impl_wasExhausted_l1 (l : List Shelf) (w_ : Int) (x2 : Job) : Int → Option (Step Int (Out Unit Bool))
  | x4 => (if decide (0 ≤ x4) then (idx l x4).bind fun x8 => (idx x8.Jobs w_).bind fun x9 => (if x9.Busy then (idx l x4).bind fun x10 => (idx x10.Jobs w_).bind fun x11 => impl_wasExhausted_j2 l w_ x4 (x11.Serial == x2.Serial) else impl_wasExhausted_j2 l w_ x4 false) else impl_wasExhausted_j2 l w_ x4 false)
noncomputable def impl_wasExhausted_m1  : (Out Unit Bool) → Option Bool
  | .brk (()) => impl_wasExhausted_j1
  | .ret r => some r
noncomputable def impl_wasExhausted (l : List Shelf) (w_ : Int) : Option Bool :=
  (idx l (w64 (((l.length : Int)) - 1))).bind fun x1 => (idx x1.Jobs w_).bind fun x2 => (loop (impl_wasExhausted_l1 l w_ x2) (w64 (((l.length : Int)) - 1))).bind (impl_wasExhausted_m1)
noncomputable def impl_Fair_j1  : Option Bool :=
  some true
noncomputable def impl_Fair_j2 (x2 : Int) : Option (Step Int (Out Unit Bool)) :=
  some (.next (w64 (x2 + 1)))
noncomputable def impl_Fair_j3 (x6 : Int) (x8 : Bool) : Option (Step Int (Out Unit Bool)) :=
  (if x8 then some (.stop (Out.ret false)) else some (.next (w64 (x6 + 1))))
noncomputable def impl_Fair_l2 (l : List Shelf) (x2 : Int) (x3 : Shelf) : Int → Option (Step Int (Out Unit Bool))
  | x6 => (if decide (x6 < ((x3.Jobs.length : Int))) then (idx x3.Jobs x6).bind fun x7 => (impl_isSet x7).bind fun x9 => (if x9 then (if x7.Code == 3 then need (0 ≤ (w64 (x2 + 1) : Int) ∧ (w64 (x2 + 1) : Int) ≤ (l.length : Int)) ((impl_wasExhausted ((l.take ((w64 (x2 + 1)).toNat)).drop 0) x6).bind fun x10 => impl_Fair_j3 x6 (!x10)) else impl_Fair_j3 x6 false) else impl_Fair_j3 x6 false) else some (.stop (Out.brk (()))))
noncomputable def impl_Fair_m2 (x2 : Int) : (Out Unit Bool) → Option (Step Int (Out Unit Bool))
  | .brk (()) => impl_Fair_j2 x2
  | .ret r => some (.stop (Out.ret r))
noncomputable def impl_Fair_l1 (l : List Shelf) : Int → Option (Step Int (Out Unit Bool))
  | x2 => (if decide (x2 < ((l.length : Int))) then (idx l x2).bind fun x3 => (impl_ShelfOk x3).bind fun x4 => (if !x4 then some (.stop (Out.ret false)) else (loop (impl_Fair_l2 l x2 x3) 0).bind (impl_Fair_m2 x2)) else some (.stop (Out.brk (()))))
noncomputable def impl_Fair_m1  : (Out Unit Bool) → Option Bool
  | .brk (()) => impl_Fair_j1
  | .ret r => some r
noncomputable def impl_Fair (l : List Shelf) : Option Bool :=
  (loop (impl_Fair_l1 l) 0).bind (impl_Fair_m1)
noncomputable def laws_eqIntS_j1  : Option Bool :=
  some true
noncomputable def laws_eqIntS_l1 (a_ : List Int) (b : List Int) : Int → Option (Step Int (Out Unit Bool))
  | x2 => (if decide (x2 < ((a_.length : Int))) then (idx a_ x2).bind fun x3 => (idx b x2).bind fun x4 => (if x3 != x4 then some (.stop (Out.ret false)) else some (.next (w64 (x2 + 1)))) else some (.stop (Out.brk (()))))
noncomputable def laws_eqIntS_m1  : (Out Unit Bool) → Option Bool
  | .brk (()) => laws_eqIntS_j1
  | .ret r => some r
noncomputable def laws_eqIntS (a_ : List Int) (b : List Int) : Option Bool :=
  (if ((a_.length : Int)) != ((b.length : Int)) then some false else (loop (laws_eqIntS_l1 a_ b) 0).bind (laws_eqIntS_m1))
noncomputable def laws_eqHeap (a_ : Heap) (b : Heap) : Option Bool :=
  (laws_eqIntS a_.Bytes b.Bytes).bind fun x1 => (if !x1 then some false else (laws_eqIntS a_.Class b.Class).bind fun x2 => (if !x2 then some false else some true))
noncomputable def laws_eqSList (a_ : SList) (b : SList) : Option Bool :=
  (laws_eqIntS a_.Slots b.Slots).bind fun x1 => (if !x1 then some false else some true)
noncomputable def laws_eqSListS_j1  : Option Bool :=
  some true
noncomputable def laws_eqSListS_l1 (a_ : List SList) (b : List SList) : Int → Option (Step Int (Out Unit Bool))
  | x2 => (if decide (x2 < ((a_.length : Int))) then (idx a_ x2).bind fun x3 => (idx b x2).bind fun x4 => (laws_eqSList x3 x4).bind fun x5 => (if !x5 then some (.stop (Out.ret false)) else some (.next (w64 (x2 + 1)))) else some (.stop (Out.brk (()))))
noncomputable def laws_eqSListS_m1  : (Out Unit Bool) → Option Bool
  | .brk (()) => laws_eqSListS_j1
  | .ret r => some r
noncomputable def laws_eqSListS (a_ : List SList) (b : List SList) : Option Bool :=
  (if ((a_.length : Int)) != ((b.length : Int)) then some false else (loop (laws_eqSListS_l1 a_ b) 0).bind (laws_eqSListS_m1))
noncomputable def laws_eqLists (a_ : Lists) (b : Lists) : Option Bool :=
  (laws_eqSListS a_.Global b.Global).bind fun x1 => (if !x1 then some false else (laws_eqSListS a_.Own b.Own).bind fun x2 => (if !x2 then some false else some true))
noncomputable def laws_eqMem (a_ : Mem) (b : Mem) : Option Bool :=
  (laws_eqHeap a_.Heap b.Heap).bind fun x1 => (if !x1 then some false else (laws_eqLists a_.Lists b.Lists).bind fun x2 => (if !x2 then some false else some true))
noncomputable def laws_eqPin (a_ : Pin) (b : Pin) : Option Bool :=
  (if !(a_.On == b.On) then some false else (if a_.Epoch != b.Epoch then some false else (if !(a_.Marked == b.Marked) then some false else (if a_.Seen != b.Seen then some false else some true))))
noncomputable def laws_eqPinS_j1  : Option Bool :=
  some true
noncomputable def laws_eqPinS_l1 (a_ : List Pin) (b : List Pin) : Int → Option (Step Int (Out Unit Bool))
  | x2 => (if decide (x2 < ((a_.length : Int))) then (idx a_ x2).bind fun x3 => (idx b x2).bind fun x4 => (laws_eqPin x3 x4).bind fun x5 => (if !x5 then some (.stop (Out.ret false)) else some (.next (w64 (x2 + 1)))) else some (.stop (Out.brk (()))))
noncomputable def laws_eqPinS_m1  : (Out Unit Bool) → Option Bool
  | .brk (()) => laws_eqPinS_j1
  | .ret r => some r
noncomputable def laws_eqPinS (a_ : List Pin) (b : List Pin) : Option Bool :=
  (if ((a_.length : Int)) != ((b.length : Int)) then some false else (loop (laws_eqPinS_l1 a_ b) 0).bind (laws_eqPinS_m1))
noncomputable def laws_eqClock (a_ : Clock) (b : Clock) : Option Bool :=
  (if a_.Epoch != b.Epoch then some false else (laws_eqPinS a_.Pins b.Pins).bind fun x1 => (if !x1 then some false else some true))
noncomputable def laws_eqLRow (a_ : LRow) (b : LRow) : Option Bool :=
  (if a_.Handle != b.Handle then some false else (if a_.Epoch != b.Epoch then some false else some true))
noncomputable def laws_eqLRowS_j1  : Option Bool :=
  some true
noncomputable def laws_eqLRowS_l1 (a_ : List LRow) (b : List LRow) : Int → Option (Step Int (Out Unit Bool))
  | x2 => (if decide (x2 < ((a_.length : Int))) then (idx a_ x2).bind fun x3 => (idx b x2).bind fun x4 => (laws_eqLRow x3 x4).bind fun x5 => (if !x5 then some (.stop (Out.ret false)) else some (.next (w64 (x2 + 1)))) else some (.stop (Out.brk (()))))
noncomputable def laws_eqLRowS_m1  : (Out Unit Bool) → Option Bool
  | .brk (()) => laws_eqLRowS_j1
  | .ret r => some r
noncomputable def laws_eqLRowS (a_ : List LRow) (b : List LRow) : Option Bool :=
  (if ((a_.length : Int)) != ((b.length : Int)) then some false else (loop (laws_eqLRowS_l1 a_ b) 0).bind (laws_eqLRowS_m1))
noncomputable def laws_eqLList (a_ : LList) (b : LList) : Option Bool :=
  (laws_eqLRowS a_.Rows b.Rows).bind fun x1 => (if !x1 then some false else some true)
noncomputable def laws_eqLListS_j1  : Option Bool :=
  some true
noncomputable def laws_eqLListS_l1 (a_ : List LList) (b : List LList) : Int → Option (Step Int (Out Unit Bool))
  | x2 => (if decide (x2 < ((a_.length : Int))) then (idx a_ x2).bind fun x3 => (idx b x2).bind fun x4 => (laws_eqLList x3 x4).bind fun x5 => (if !x5 then some (.stop (Out.ret false)) else some (.next (w64 (x2 + 1)))) else some (.stop (Out.brk (()))))
noncomputable def laws_eqLListS_m1  : (Out Unit Bool) → Option Bool
  | .brk (()) => laws_eqLListS_j1
  | .ret r => some r
noncomputable def laws_eqLListS (a_ : List LList) (b : List LList) : Option Bool :=
  (if ((a_.length : Int)) != ((b.length : Int)) then some false else (loop (laws_eqLListS_l1 a_ b) 0).bind (laws_eqLListS_m1))
noncomputable def laws_eqBase (a_ : Base) (b : Base) : Option Bool :=
  (laws_eqMem a_.Mem b.Mem).bind fun x1 => (if !x1 then some false else (laws_eqClock a_.Clock b.Clock).bind fun x2 => (if !x2 then some false else (laws_eqLListS a_.Limbo b.Limbo).bind fun x3 => (if !x3 then some false else (laws_eqIntS a_.Haz b.Haz).bind fun x4 => (if !x4 then some false else some true))))
noncomputable def laws_eqOp (a_ : GOp) (b : GOp) : Option Bool :=
  (if a_.Kind != b.Kind then some false else (if a_.Cell != b.Cell then some false else (if a_.Size != b.Size then some false else (if a_.Val != b.Val then some false else some true))))
noncomputable def laws_eqSub (a_ : Sub) (b : Sub) : Option Bool :=
  (if a_.Kind != b.Kind then some false else (if a_.A != b.A then some false else (if a_.Pc != b.Pc then some false else (if a_.E != b.E then some false else (if a_.Row != b.Row then some false else (if a_.B != b.B then some false else (if a_.H != b.H then some false else (if a_.Out != b.Out then some false else (if a_.Code != b.Code then some false else (if !(a_.Done == b.Done) then some false else some true))))))))))
noncomputable def laws_eqJob (a_ : Job) (b : Job) : Option Bool :=
  (if !(a_.Busy == b.Busy) then some false else (laws_eqOp a_.Op b.Op).bind fun x1 => (if !x1 then some false else (if a_.Serial != b.Serial then some false else (if a_.Pc != b.Pc then some false else (laws_eqSub a_.Sub b.Sub).bind fun x2 => (if !x2 then some false else (if a_.H != b.H then some false else (if a_.Old != b.Old then some false else (if a_.Val != b.Val then some false else (if a_.Code != b.Code then some false else some true)))))))))
noncomputable def laws_eqJobS_j1  : Option Bool :=
  some true
noncomputable def laws_eqJobS_l1 (a_ : List Job) (b : List Job) : Int → Option (Step Int (Out Unit Bool))
  | x2 => (if decide (x2 < ((a_.length : Int))) then (idx a_ x2).bind fun x3 => (idx b x2).bind fun x4 => (laws_eqJob x3 x4).bind fun x5 => (if !x5 then some (.stop (Out.ret false)) else some (.next (w64 (x2 + 1)))) else some (.stop (Out.brk (()))))
noncomputable def laws_eqJobS_m1  : (Out Unit Bool) → Option Bool
  | .brk (()) => laws_eqJobS_j1
  | .ret r => some r
noncomputable def laws_eqJobS (a_ : List Job) (b : List Job) : Option Bool :=
  (if ((a_.length : Int)) != ((b.length : Int)) then some false else (loop (laws_eqJobS_l1 a_ b) 0).bind (laws_eqJobS_m1))
noncomputable def laws_eqOpS_j1  : Option Bool :=
  some true
noncomputable def laws_eqOpS_l1 (a_ : List GOp) (b : List GOp) : Int → Option (Step Int (Out Unit Bool))
  | x2 => (if decide (x2 < ((a_.length : Int))) then (idx a_ x2).bind fun x3 => (idx b x2).bind fun x4 => (laws_eqOp x3 x4).bind fun x5 => (if !x5 then some (.stop (Out.ret false)) else some (.next (w64 (x2 + 1)))) else some (.stop (Out.brk (()))))
noncomputable def laws_eqOpS_m1  : (Out Unit Bool) → Option Bool
  | .brk (()) => laws_eqOpS_j1
  | .ret r => some r
noncomputable def laws_eqOpS (a_ : List GOp) (b : List GOp) : Option Bool :=
  (if ((a_.length : Int)) != ((b.length : Int)) then some false else (loop (laws_eqOpS_l1 a_ b) 0).bind (laws_eqOpS_m1))
noncomputable def laws_eqQueue (a_ : Queue) (b : Queue) : Option Bool :=
  (laws_eqOpS a_.Ops b.Ops).bind fun x1 => (if !x1 then some false else some true)
noncomputable def laws_eqQueueS_j1  : Option Bool :=
  some true
noncomputable def laws_eqQueueS_l1 (a_ : List Queue) (b : List Queue) : Int → Option (Step Int (Out Unit Bool))
  | x2 => (if decide (x2 < ((a_.length : Int))) then (idx a_ x2).bind fun x3 => (idx b x2).bind fun x4 => (laws_eqQueue x3 x4).bind fun x5 => (if !x5 then some (.stop (Out.ret false)) else some (.next (w64 (x2 + 1)))) else some (.stop (Out.brk (()))))
noncomputable def laws_eqQueueS_m1  : (Out Unit Bool) → Option Bool
  | .brk (()) => laws_eqQueueS_j1
  | .ret r => some r
noncomputable def laws_eqQueueS (a_ : List Queue) (b : List Queue) : Option Bool :=
  (if ((a_.length : Int)) != ((b.length : Int)) then some false else (loop (laws_eqQueueS_l1 a_ b) 0).bind (laws_eqQueueS_m1))
noncomputable def laws_eqEv (a_ : Ev) (b : Ev) : Option Bool :=
  (if a_.Kind != b.Kind then some false else (if a_.Who != b.Who then some false else (if a_.Serial != b.Serial then some false else (if a_.Cell != b.Cell then some false else (if a_.Handle != b.Handle then some false else (if a_.Val != b.Val then some false else (if a_.Code != b.Code then some false else some true)))))))
noncomputable def laws_eqEvS_j1  : Option Bool :=
  some true
noncomputable def laws_eqEvS_l1 (a_ : List Ev) (b : List Ev) : Int → Option (Step Int (Out Unit Bool))
  | x2 => (if decide (x2 < ((a_.length : Int))) then (idx a_ x2).bind fun x3 => (idx b x2).bind fun x4 => (laws_eqEv x3 x4).bind fun x5 => (if !x5 then some (.stop (Out.ret false)) else some (.next (w64 (x2 + 1)))) else some (.stop (Out.brk (()))))
noncomputable def laws_eqEvS_m1  : (Out Unit Bool) → Option Bool
  | .brk (()) => laws_eqEvS_j1
  | .ret r => some r
noncomputable def laws_eqEvS (a_ : List Ev) (b : List Ev) : Option Bool :=
  (if ((a_.length : Int)) != ((b.length : Int)) then some false else (loop (laws_eqEvS_l1 a_ b) 0).bind (laws_eqEvS_m1))
noncomputable def laws_eqShelf (a_ : Shelf) (b : Shelf) : Option Bool :=
  (laws_eqBase a_.Base b.Base).bind fun x1 => (if !x1 then some false else (laws_eqIntS a_.Cells b.Cells).bind fun x2 => (if !x2 then some false else (laws_eqJobS a_.Jobs b.Jobs).bind fun x3 => (if !x3 then some false else (laws_eqQueueS a_.Todo b.Todo).bind fun x4 => (if !x4 then some false else (laws_eqEvS a_.Log b.Log).bind fun x5 => (if !x5 then some false else (if a_.Serial != b.Serial then some false else some true))))))
noncomputable def laws_eqShelfS_j1  : Option Bool :=
  some true
noncomputable def laws_eqShelfS_l1 (a_ : List Shelf) (b : List Shelf) : Int → Option (Step Int (Out Unit Bool))
  | x2 => (if decide (x2 < ((a_.length : Int))) then (idx a_ x2).bind fun x3 => (idx b x2).bind fun x4 => (laws_eqShelf x3 x4).bind fun x5 => (if !x5 then some (.stop (Out.ret false)) else some (.next (w64 (x2 + 1)))) else some (.stop (Out.brk (()))))
noncomputable def laws_eqShelfS_m1  : (Out Unit Bool) → Option Bool
  | .brk (()) => laws_eqShelfS_j1
  | .ret r => some r
noncomputable def laws_eqShelfS (a_ : List Shelf) (b : List Shelf) : Option Bool :=
  (if ((a_.length : Int)) != ((b.length : Int)) then some false else (loop (laws_eqShelfS_l1 a_ b) 0).bind (laws_eqShelfS_m1))
noncomputable def laws_FnExactFair (aL : List Shelf) : Option Bool :=
  (laws_szShelfS aL 1048576).bind fun x1 => (if decide (x1 < 0) then some true else (laws_toShelfS aL).bind fun x2 => (spec_Fair x2).bind fun x3 => (laws_toShelfS aL).bind fun x4 => (impl_Fair x4).bind fun x5 => (if !(x5 == x3) then some false else (laws_toShelfS aL).bind fun x6 => (laws_eqShelfS x4 x6).bind fun x7 => (if !x7 then some false else some true)))
end Go.Gv
end
section
set_option linter.unusedVariables false
set_option maxHeartbeats 4000000
set_option maxRecDepth 100000
namespace Go.Proofs.YtkcicilgoehljabGreat
open Go.Gv
theorem inf_Tryz3 : Inf Tryz.prog 3 1 (.int .i64 0) := inf_of (b := 8) (by kernel_rfl) rfl
theorem inf_Tryz122 : Inf Tryz.prog 122 2 (.agg #[.int .i64 0, .int .i64 0]) := inf_of (b := 16) (by kernel_rfl) rfl
theorem inf_Tryz4 : Inf Tryz.prog 4 1 (.bool false) := inf_of (b := 1) (by kernel_rfl) rfl
theorem inf_Tryz91 : Inf Tryz.prog 91 1 (.agg #[.slice none 0 0]) := inf_of (b := 24) (by kernel_rfl) rfl
theorem inf_Tryz168 : Inf Tryz.prog 168 4 (.agg #[.bool false, .int .i64 0, .bool false, .int .i64 0]) := inf_of (b := 32) (by kernel_rfl) rfl
theorem inf_Tryz141 : Inf Tryz.prog 141 1 (.agg #[.slice none 0 0]) := inf_of (b := 24) (by kernel_rfl) rfl
theorem inf_Tryz73 : Inf Tryz.prog 73 21 (.agg #[.bool false, .int .i64 0, .int .i64 0, .int .i64 0, .int .i64 0, .int .i64 0, .int .i64 0, .int .i64 0, .int .i64 0, .int .i64 0, .int .i64 0, .int .i64 0, .int .i64 0, .int .i64 0, .int .i64 0, .int .i64 0, .bool false, .int .i64 0, .int .i64 0, .int .i64 0, .int .i64 0]) := inf_of (b := 168) (by kernel_rfl) rfl
theorem inf_Tryz69 : Inf Tryz.prog 69 4 (.agg #[.int .i64 0, .int .i64 0, .int .i64 0, .int .i64 0]) := inf_of (b := 32) (by kernel_rfl) rfl
theorem inf_Tryz125 : Inf Tryz.prog 125 1 (.agg #[.slice none 0 0]) := inf_of (b := 24) (by kernel_rfl) rfl
theorem inf_Tryz136 : Inf Tryz.prog 136 7 (.agg #[.int .i64 0, .int .i64 0, .int .i64 0, .int .i64 0, .int .i64 0, .int .i64 0, .int .i64 0]) := inf_of (b := 56) (by kernel_rfl) rfl
theorem inf_Tryz67 : Inf Tryz.prog 67 13 (.agg #[.slice none 0 0, .slice none 0 0, .slice none 0 0, .slice none 0 0, .int .i64 0, .slice none 0 0, .slice none 0 0, .slice none 0 0, .slice none 0 0, .slice none 0 0, .slice none 0 0, .slice none 0 0, .int .i64 0]) := inf_of (b := 280) (by kernel_rfl) rfl
theorem inf_Tryz52 : Inf Tryz.prog 52 1 (.slice none 0 0) := inf_of (b := 24) (by kernel_rfl) rfl
theorem mixed_Tryz : Tryz.prog.follows .mixedOrders = true := by kernel_rfl
theorem eqf_Tryz168 (D : Nat) (d d' : Pin) (w : World) : (Op.eqFields (D + 2) #[.bool (d.On), .int .i64 (d.Epoch), .bool (d.Marked), .int .i64 (d.Seen)] #[.bool (d'.On), .int .i64 (d'.Epoch), .bool (d'.Marked), .int .i64 (d'.Seen)] (match Tryz.prog.underlying 168 with | some (.struct fs) => fs | _ => #[]).toList).run Tryz.prog w = .ok (decide (d = d')) w := by
  rw [Tryz.underlying168]
  have h : (d.On == d'.On && (d.Epoch == d'.Epoch && (d.Marked == d'.Marked && (d.Seen == d'.Seen && true)))) = decide (d = d') := by
    cases d; cases d'; rw [Bool.eq_iff_iff]; simp
  rw [← h]
  exact eqf_cons _ _ _ _ _ rfl (part1 Tryz.isAgg4 rfl) (part1 Tryz.isAgg4 rfl) (ei_bool Tryz.underlying4) <|
    eqf_cons _ _ _ _ _ rfl (part1 Tryz.isAgg3 rfl) (part1 Tryz.isAgg3 rfl) (ei_int Tryz.underlying3) <|
    eqf_cons _ _ _ _ _ rfl (part1 Tryz.isAgg4 rfl) (part1 Tryz.isAgg4 rfl) (ei_bool Tryz.underlying4) <|
    eqf_cons _ _ _ _ _ rfl (part1 Tryz.isAgg3 rfl) (part1 Tryz.isAgg3 rfl) (ei_int Tryz.underlying3) <|
    eqf_nil _ _ _
theorem eqf_Tryz69 (D : Nat) (d d' : GOp) (w : World) : (Op.eqFields (D + 2) #[.int .i64 (d.Kind), .int .i64 (d.Cell), .int .i64 (d.Size), .int .i64 (d.Val)] #[.int .i64 (d'.Kind), .int .i64 (d'.Cell), .int .i64 (d'.Size), .int .i64 (d'.Val)] (match Tryz.prog.underlying 69 with | some (.struct fs) => fs | _ => #[]).toList).run Tryz.prog w = .ok (decide (d = d')) w := by
  rw [Tryz.underlying69]
  have h : (d.Kind == d'.Kind && (d.Cell == d'.Cell && (d.Size == d'.Size && (d.Val == d'.Val && true)))) = decide (d = d') := by
    cases d; cases d'; rw [Bool.eq_iff_iff]; simp
  rw [← h]
  exact eqf_cons _ _ _ _ _ rfl (part1 Tryz.isAgg3 rfl) (part1 Tryz.isAgg3 rfl) (ei_int Tryz.underlying3) <|
    eqf_cons _ _ _ _ _ rfl (part1 Tryz.isAgg3 rfl) (part1 Tryz.isAgg3 rfl) (ei_int Tryz.underlying3) <|
    eqf_cons _ _ _ _ _ rfl (part1 Tryz.isAgg3 rfl) (part1 Tryz.isAgg3 rfl) (ei_int Tryz.underlying3) <|
    eqf_cons _ _ _ _ _ rfl (part1 Tryz.isAgg3 rfl) (part1 Tryz.isAgg3 rfl) (ei_int Tryz.underlying3) <|
    eqf_nil _ _ _
theorem eqf_Tryz71 (D : Nat) (d d' : Sub) (w : World) : (Op.eqFields (D + 2) #[.int .i64 (d.Kind), .int .i64 (d.A), .int .i64 (d.Pc), .int .i64 (d.E), .int .i64 (d.Row), .int .i64 (d.B), .int .i64 (d.H), .int .i64 (d.Out), .int .i64 (d.Code), .bool (d.Done)] #[.int .i64 (d'.Kind), .int .i64 (d'.A), .int .i64 (d'.Pc), .int .i64 (d'.E), .int .i64 (d'.Row), .int .i64 (d'.B), .int .i64 (d'.H), .int .i64 (d'.Out), .int .i64 (d'.Code), .bool (d'.Done)] (match Tryz.prog.underlying 71 with | some (.struct fs) => fs | _ => #[]).toList).run Tryz.prog w = .ok (decide (d = d')) w := by
  rw [Tryz.underlying71]
  have h : (d.Kind == d'.Kind && (d.A == d'.A && (d.Pc == d'.Pc && (d.E == d'.E && (d.Row == d'.Row && (d.B == d'.B && (d.H == d'.H && (d.Out == d'.Out && (d.Code == d'.Code && (d.Done == d'.Done && true)))))))))) = decide (d = d') := by
    cases d; cases d'; rw [Bool.eq_iff_iff]; simp
  rw [← h]
  exact eqf_cons _ _ _ _ _ rfl (part1 Tryz.isAgg3 rfl) (part1 Tryz.isAgg3 rfl) (ei_int Tryz.underlying3) <|
    eqf_cons _ _ _ _ _ rfl (part1 Tryz.isAgg3 rfl) (part1 Tryz.isAgg3 rfl) (ei_int Tryz.underlying3) <|
    eqf_cons _ _ _ _ _ rfl (part1 Tryz.isAgg3 rfl) (part1 Tryz.isAgg3 rfl) (ei_int Tryz.underlying3) <|
    eqf_cons _ _ _ _ _ rfl (part1 Tryz.isAgg3 rfl) (part1 Tryz.isAgg3 rfl) (ei_int Tryz.underlying3) <|
    eqf_cons _ _ _ _ _ rfl (part1 Tryz.isAgg3 rfl) (part1 Tryz.isAgg3 rfl) (ei_int Tryz.underlying3) <|
    eqf_cons _ _ _ _ _ rfl (part1 Tryz.isAgg3 rfl) (part1 Tryz.isAgg3 rfl) (ei_int Tryz.underlying3) <|
    eqf_cons _ _ _ _ _ rfl (part1 Tryz.isAgg3 rfl) (part1 Tryz.isAgg3 rfl) (ei_int Tryz.underlying3) <|
    eqf_cons _ _ _ _ _ rfl (part1 Tryz.isAgg3 rfl) (part1 Tryz.isAgg3 rfl) (ei_int Tryz.underlying3) <|
    eqf_cons _ _ _ _ _ rfl (part1 Tryz.isAgg3 rfl) (part1 Tryz.isAgg3 rfl) (ei_int Tryz.underlying3) <|
    eqf_cons _ _ _ _ _ rfl (part1 Tryz.isAgg4 rfl) (part1 Tryz.isAgg4 rfl) (ei_bool Tryz.underlying4) <|
    eqf_nil _ _ _
theorem eqf_Tryz73 (D : Nat) (d d' : Job) (w : World) : (Op.eqFields (D + 3) #[.bool (d.Busy), .int .i64 (d.Op.Kind), .int .i64 (d.Op.Cell), .int .i64 (d.Op.Size), .int .i64 (d.Op.Val), .int .i64 (d.Serial), .int .i64 (d.Pc), .int .i64 (d.Sub.Kind), .int .i64 (d.Sub.A), .int .i64 (d.Sub.Pc), .int .i64 (d.Sub.E), .int .i64 (d.Sub.Row), .int .i64 (d.Sub.B), .int .i64 (d.Sub.H), .int .i64 (d.Sub.Out), .int .i64 (d.Sub.Code), .bool (d.Sub.Done), .int .i64 (d.H), .int .i64 (d.Old), .int .i64 (d.Val), .int .i64 (d.Code)] #[.bool (d'.Busy), .int .i64 (d'.Op.Kind), .int .i64 (d'.Op.Cell), .int .i64 (d'.Op.Size), .int .i64 (d'.Op.Val), .int .i64 (d'.Serial), .int .i64 (d'.Pc), .int .i64 (d'.Sub.Kind), .int .i64 (d'.Sub.A), .int .i64 (d'.Sub.Pc), .int .i64 (d'.Sub.E), .int .i64 (d'.Sub.Row), .int .i64 (d'.Sub.B), .int .i64 (d'.Sub.H), .int .i64 (d'.Sub.Out), .int .i64 (d'.Sub.Code), .bool (d'.Sub.Done), .int .i64 (d'.H), .int .i64 (d'.Old), .int .i64 (d'.Val), .int .i64 (d'.Code)] (match Tryz.prog.underlying 73 with | some (.struct fs) => fs | _ => #[]).toList).run Tryz.prog w = .ok (decide (d = d')) w := by
  rw [Tryz.underlying73]
  have h : (d.Busy == d'.Busy && (decide (d.Op = d'.Op) && (d.Serial == d'.Serial && (d.Pc == d'.Pc && (decide (d.Sub = d'.Sub) && (d.H == d'.H && (d.Old == d'.Old && (d.Val == d'.Val && (d.Code == d'.Code && true))))))))) = decide (d = d') := by
    cases d; cases d'; rw [Bool.eq_iff_iff]; simp
  rw [← h]
  exact eqf_cons _ _ _ _ _ rfl (part1 Tryz.isAgg4 rfl) (part1 Tryz.isAgg4 rfl) (ei_bool Tryz.underlying4) <|
    eqf_cons _ _ _ _ _ rfl (partN (vs := #[.int .i64 (d.Op.Kind), .int .i64 (d.Op.Cell), .int .i64 (d.Op.Size), .int .i64 (d.Op.Val)]) Tryz.isAgg69 Tryz.sizeOf69 rfl) (partN (vs := #[.int .i64 (d'.Op.Kind), .int .i64 (d'.Op.Cell), .int .i64 (d'.Op.Size), .int .i64 (d'.Op.Val)]) Tryz.isAgg69 Tryz.sizeOf69 rfl) (ei_struct Tryz.stoodInHeld69 Tryz.underlying69 (eqf_Tryz69 D _ _ w)) <|
    eqf_cons _ _ _ _ _ rfl (part1 Tryz.isAgg3 rfl) (part1 Tryz.isAgg3 rfl) (ei_int Tryz.underlying3) <|
    eqf_cons _ _ _ _ _ rfl (part1 Tryz.isAgg3 rfl) (part1 Tryz.isAgg3 rfl) (ei_int Tryz.underlying3) <|
    eqf_cons _ _ _ _ _ rfl (partN (vs := #[.int .i64 (d.Sub.Kind), .int .i64 (d.Sub.A), .int .i64 (d.Sub.Pc), .int .i64 (d.Sub.E), .int .i64 (d.Sub.Row), .int .i64 (d.Sub.B), .int .i64 (d.Sub.H), .int .i64 (d.Sub.Out), .int .i64 (d.Sub.Code), .bool (d.Sub.Done)]) Tryz.isAgg71 Tryz.sizeOf71 rfl) (partN (vs := #[.int .i64 (d'.Sub.Kind), .int .i64 (d'.Sub.A), .int .i64 (d'.Sub.Pc), .int .i64 (d'.Sub.E), .int .i64 (d'.Sub.Row), .int .i64 (d'.Sub.B), .int .i64 (d'.Sub.H), .int .i64 (d'.Sub.Out), .int .i64 (d'.Sub.Code), .bool (d'.Sub.Done)]) Tryz.isAgg71 Tryz.sizeOf71 rfl) (ei_struct Tryz.stoodInHeld71 Tryz.underlying71 (eqf_Tryz71 D _ _ w)) <|
    eqf_cons _ _ _ _ _ rfl (part1 Tryz.isAgg3 rfl) (part1 Tryz.isAgg3 rfl) (ei_int Tryz.underlying3) <|
    eqf_cons _ _ _ _ _ rfl (part1 Tryz.isAgg3 rfl) (part1 Tryz.isAgg3 rfl) (ei_int Tryz.underlying3) <|
    eqf_cons _ _ _ _ _ rfl (part1 Tryz.isAgg3 rfl) (part1 Tryz.isAgg3 rfl) (ei_int Tryz.underlying3) <|
    eqf_cons _ _ _ _ _ rfl (part1 Tryz.isAgg3 rfl) (part1 Tryz.isAgg3 rfl) (ei_int Tryz.underlying3) <|
    eqf_nil _ _ _
set_option maxRecDepth 100000 in
theorem c_slices_Grow_SList_nil {w0 : World} {n : Int} (hn : 0 ≤ n ∧ n ≤ 1073741824) :
    Calls Tryz.prog 177 #[.slice none 0 0, .int .i64 n] w0 (Ret fun v w' => ∃ s0_0 : Value, v = s0_0 ∧ St (cxAll w0) w' [cOwn [s0_0] ([] : List Raw)] []) := by
  have hS : St (cxAll w0) w0 [] [] := St.enter (by intro f hf; cases hf)
  have hw : w64 (n - w64 (0 - 0)) = n := by
    rw [w64_id (x := 0 - 0) (by omega), w64_id (by omega)]; omega
  refine calls_cw (args := [_, _]) Tryz.func177 rfl Tryz.ntmps177 rfl ?_
  intro a hA
  refine cw_seq ?_
  refine cw_ops hA ?_
  clear hA
  refine ops_v (rv_assign rfl rfl) (want_yes rfl) rfl rfl ?_
  refine ops_nil ?_
  intro a hA
  refine cw_seq ?_
  refine cw_seq ?_
  refine cw_ops hA ?_
  clear hA
  refine ops_v (rv_move rfl rfl) (want_yes rfl) rfl rfl ?_
  refine ops_v (rv_lss rfl rfl rfl) (want_yes rfl) rfl rfl ?_
  refine ops_nil ?_
  intro a hA
  refine cw_cond hA rfl (fun hc => ?_) (fun hc => ?_)
  · exfalso; simp at hc; omega
  refine cw_skip ?_
  refine cw_seq ?_
  refine cw_seq ?_
  refine cw_ops hA ?_
  clear hA
  refine ops_v (rv_move rfl rfl) (want_yes rfl) rfl rfl ?_
  refine ops_v (rv_move rfl rfl) (want_yes rfl) rfl rfl ?_
  refine ops_v (rv_capnil Tryz.underlying52 rfl rfl) (want_yes rfl) rfl rfl ?_
  refine ops_v (rv_move rfl rfl) (want_yes rfl) rfl rfl ?_
  refine ops_v (rv_lenS (rd_nil (α := Raw) (S := F0)) Tryz.underlying52 rfl rfl) (want_yes rfl) rfl rfl ?_
  refine ops_v (rv_sub rfl rfl rfl) (want_yes rfl) rfl rfl ?_
  refine ops_v (rv_sub rfl rfl rfl) (want_yes rfl) rfl rfl ?_
  refine ops_v (rv_assign rfl rfl) (want_yes rfl) rfl rfl ?_
  refine ops_nil ?_
  intro a hA
  refine cw_seq ?_
  refine cw_ops hA ?_
  clear hA
  refine ops_v (rv_move rfl rfl) (want_yes rfl) rfl rfl ?_
  refine ops_v (rv_gtr rfl rfl rfl) (want_yes rfl) rfl rfl ?_
  refine ops_nil ?_
  intro a hA
  refine cw_cond hA rfl (fun hc => ?_) (fun hc => ?_)
  · have hn1 : 0 < n := by
      have h2 : decide (0 < w64 (n - w64 (0 - 0))) = true := hc
      rw [hw] at h2; simpa using h2
    refine cw_ops hA ?_
    clear hA
    refine ops_v (rv_move rfl rfl) (want_yes rfl) rfl rfl ?_
    refine ops_v (rv_move rfl rfl) (want_yes rfl) rfl rfl ?_
    refine ops_v (rv_capnil Tryz.underlying52 rfl rfl) (want_yes rfl) rfl rfl ?_
    refine ops_v (rv_sub0 (s := .slice none 0 0) ⟨_, _, _, rfl⟩ Tryz.underlying52 Tryz.sizeOf91 rfl rfl rfl) (want_yes rfl) rfl rfl ?_
    refine ops_v (rv_move rfl rfl) (want_yes rfl) rfl rfl ?_
    refine ops_mv (rv_appZ (i := w64 (n - w64 (0 - 0))) hS Tryz.underlying52 Tryz.underlying3 inf_Tryz91 rfl rfl (by rw [hw]; omega) rfl rfl rfl) (want_yes rfl) rfl rfl ?_
    clear hS
    intro s w hS
    refine ops_v (rv_move rfl rfl) (want_yes rfl) rfl rfl ?_
    refine ops_v (rv_lenS (rd_nil (α := Raw) (S := F0)) Tryz.underlying52 rfl rfl) (want_yes rfl) rfl rfl ?_
    refine ops_v (rv_sub0 (hS.rowShape 0 rfl) Tryz.underlying52 Tryz.sizeOf91 rfl rfl rfl) (want_yes rfl) rfl rfl ?_
    refine ops_v (rv_assign rfl rfl) (want_yes rfl) rfl rfl ?_
    refine ops_nil ?_
    intro a hA
    replace hS := hS.rowNil (α := Raw) 0 rfl rfl
    refine cw_seq ?_
    refine cw_ops hA ?_
    clear hA
    refine ops_v (rv_move rfl rfl) (want_yes rfl) rfl rfl ?_
    refine ops_v (rv_assign rfl rfl) (want_yes rfl) rfl rfl ?_
    refine ops_nil ?_
    intro a hA
    refine cw_ret ?_
    exact fin1 Tryz.results177 hA (res_tmp rfl) ⟨_, rfl, (hS.sel [0] rfl).weaken (R' := []) (fun _ h => nomatch h)⟩
  · refine cw_skip ?_
    replace hS := hS.nilOwn (α := Raw)
    refine cw_seq ?_
    refine cw_ops hA ?_
    clear hA
    refine ops_v (rv_move rfl rfl) (want_yes rfl) rfl rfl ?_
    refine ops_v (rv_assign rfl rfl) (want_yes rfl) rfl rfl ?_
    refine ops_nil ?_
    intro a hA
    refine cw_ret ?_
    exact fin1 Tryz.results177 hA (res_tmp rfl) ⟨_, rfl, (hS.sel [0] rfl).weaken (R' := []) (fun _ h => nomatch h)⟩
theorem c_slices_Concat_SList {w0 : World} {slices : List (List Raw)} {s1 : Value} {r : (List Raw)} (h1 : Rep.rd (All w0) w0 [s1] (slices : List (List Raw))) (hF : slices_Concat_SList slices = some r) :
    Calls Tryz.prog 152 #[s1] w0 (Ret fun v w' => ∃ (s0_0 : Value), v = s0_0 ∧ St (cxAll w0) w' [cOwn [s0_0] (r : List Raw)] []) := by
 have hS : St (cxAll w0) w0 [] [fRd [s1] (slices : List (List Raw))] := St.enter (by
   intro f hf
   simp only [List.mem_cons, List.not_mem_nil, or_false] at hf
   subst hf; exact h1)
 refine calls_cwN (args := [_]) Tryz.func152 rfl Tryz.ntmps152 rfl ?_
 unfold slices_Concat_SList at hF
 intro a hA
 refine cw_seq <| cw_ops hA ?_
 clear hA
 refine oa rfl rfl <| ops_nil fun a hA => cw_seq <| cw_ops hA ?_
 clear hA
 refine oa rfl rfl <| ops_nil fun a hA => cw_seq <| cw_seq <| cw_ops hA ?_
 clear hA
 refine om rfl rfl <| oy (rv_lenS (hS.rd 0 rfl) Tryz.underlying216 rfl rfl) rfl <| om rfl rfl <| ops_nil fun a hA => ?_
 obtain ⟨o1, hl1, hF⟩ := bindE hF
 refine cw_cut (J := fun a' w' => ∃ (x5 : Int), o1 = x5 ∧ AEnv 36 [(0, s1), (3, .int .i64 (x5))] a' ∧ St (cxAll w0) w' [] [fRd [s1] (slices : List (List Raw))]) ?_ ?_
 ·refine cw_block ?_
  refine cw_loop (body := slices_Concat_SList_l1 slices) (r := o1) (fun sg a' w' => AEnv 36 [(0, s1), (3, .int .i64 (sg.1)), (9, s1), (10, .int .i64 ((slices.length : Int))), (11, .int .i64 (sg.2))] a' ∧ St (cxAll w0) w' [] [fRd [s1] (slices : List (List Raw))]) ?_ hl1 ⟨hA.part ⟨rfl, rfl, rfl, rfl, rfl, trivial⟩, ((hS).sel [] rfl).selR [0] rfl⟩
  clear hA hS hl1
  rintro ⟨x3, x4⟩ a w q1 ⟨hA, hS⟩ hG1 hr1
  try dsimp only at hA hS
  unfold slices_Concat_SList_l1 at hG1
  refine cw_seq <| cw_ops hA ?_
  clear hA
  refine oy (rv_lss rfl rfl rfl) rfl <| ops_nil fun a hA => cw_seq <| cw_cond hA rfl (fun hc2 => ?_) (fun hc2 => ?_)
  ·replace hG1 := iteT hc2 hG1
   refine cw_skip <| cw_seq <| cw_block <| cw_seq <| cw_ops hA ?_
   clear hA
   obtain ⟨x12, hx12, hG1⟩ := bindE hG1
   refine oy (rv_idx (m := 1) (hS.rd 0 rfl) rfl hx12 Tryz.underlying216 Tryz.sizeOf52 rfl rfl rfl) rfl ?_
   obtain ⟨s8, hel, hS⟩ := hS.el_Slice 0 rfl (idx_some hx12).2.2
   refine oy (rv_load1 rfl rfl Tryz.isAgg52 (cell1 hel)) rfl <| oa rfl rfl <| ops_nil fun a hA => cw_seq <| cw_ops hA ?_
   clear hA
   refine om rfl rfl <| om rfl rfl <| oy (rv_lenS (hS.rd 1 rfl) Tryz.underlying52 rfl rfl) rfl <| oy (rv_add rfl rfl rfl) rfl <| oa rfl rfl <| ops_nil fun a hA => cw_seq <| cw_ops hA ?_
   clear hA
   refine om rfl rfl <| oy (rv_lss rfl rfl rfl) rfl <| ops_nil fun a hA => cw_cond hA rfl (fun hc3 => ?_) (fun hc3 => ?_)
   ·replace hG1 := iteT hc3 hG1
    refine cw_ops hA ?_
    clear hA
    cases hG1
   ·replace hG1 := iteF hc3 hG1
    refine cw_skip <| cw_ops hA ?_
    clear hA
    refine oy (rv_add rfl rfl rfl) rfl <| om rfl rfl <| ops_nil fun a hA => ?_
    cases hG1
    exact ⟨_, rfl, ⟨hA.part ⟨rfl, rfl, rfl, rfl, rfl, trivial⟩, ((hS).sel [] rfl).selR [0] rfl⟩⟩
  ·replace hG1 := iteF hc2 hG1
   refine cw_exit <| xcons_hit ?_
   cases hG1
   have ho := hr1 _ rfl; subst ho
   exact ⟨x3, rfl, hA.part ⟨rfl, rfl, trivial⟩, ((hS).sel [] rfl).selR [0] rfl⟩
 ·skip
  clear hA hS hl1
  rintro a w ⟨x5, heq, hA, hS⟩
  replace hF : slices_Concat_SList_j1 slices x5 = some r := by rw [heq] at hF; exact hF
  clear heq
  unfold slices_Concat_SList_j1 at hF
  refine cw_seq <| cw_ops hA ?_
  clear hA
  refine om rfl rfl ?_
  obtain ⟨hn1, hF⟩ := needE hF
  refine ops_c (rc_call Tryz.call177 rfl rfl) (want_yes rfl) rfl rfl (c_slices_Grow_SList_nil hn1) ?_
  rintro s2 w ⟨_, rfl, hk⟩
  replace hS := hS.after hk; clear hk
  refine oa rfl rfl <| ops_nil fun a hA => cw_seq <| cw_seq <| cw_ops hA ?_
  clear hA
  refine om rfl rfl <| oy (rv_lenS (hS.rd 0 rfl) Tryz.underlying216 rfl rfl) rfl <| om rfl rfl <| ops_nil fun a hA => ?_
  obtain ⟨o2, hl2, hF⟩ := bindE hF
  refine cw_cut (J := fun a' w' => ∃ (x10 : List Raw) (s5 : Value), o2 = x10 ∧ AEnv 36 [(6, s5)] a' ∧ St (cxAll w0) w' [cOwn [s5] (x10 : List Raw)] []) ?_ ?_
  ·refine cw_block ?_
   refine cw_loop (body := slices_Concat_SList_l2 slices) (r := o2) (fun sg a' w' => ∃ (s4 : Value), AEnv 36 [(6, s4), (25, s1), (26, .int .i64 ((slices.length : Int))), (27, .int .i64 (sg.2))] a' ∧ St (cxAll w0) w' [cOwn [s4] (sg.1 : List Raw)] [fRd [s1] (slices : List (List Raw))]) ?_ hl2 ⟨s2, hA.part ⟨rfl, rfl, rfl, rfl, trivial⟩, ((hS).sel [0] rfl).selR [0] rfl⟩
   clear hA hS hl2
   rintro ⟨x8, x9⟩ a w q2 ⟨s4, hA, hS⟩ hG2 hr2
   try dsimp only at hA hS
   unfold slices_Concat_SList_l2 at hG2
   refine cw_seq <| cw_ops hA ?_
   clear hA
   refine oy (rv_lss rfl rfl rfl) rfl <| ops_nil fun a hA => cw_seq <| cw_cond hA rfl (fun hc1 => ?_) (fun hc1 => ?_)
   ·replace hG2 := iteT hc1 hG2
    refine cw_skip <| cw_seq <| cw_block <| cw_seq <| cw_ops hA ?_
    clear hA
    obtain ⟨x11, hx11, hG2⟩ := bindE hG2
    refine oy (rv_idx (m := 1) (hS.rd 0 rfl) rfl hx11 Tryz.underlying216 Tryz.sizeOf52 rfl rfl rfl) rfl ?_
    obtain ⟨s6, hel, hS⟩ := hS.el_Slice 0 rfl (idx_some hx11).2.2
    refine oy (rv_load1 rfl rfl Tryz.isAgg52 (cell1 hel)) rfl <| oa rfl rfl <| ops_nil fun a hA => cw_ops hA ?_
    clear hA
    refine om rfl rfl <| om rfl rfl ?_
    obtain ⟨hn2, hG2⟩ := needE hG2
    refine ops_mv (rv_append (α := Raw) 0 hS rfl (hS.rd 1 rfl) rfl Tryz.underlying52 inf_Tryz91 rfl hn2 rfl rfl rfl) (want_yes rfl) rfl rfl ?_
    clear hS
    rintro s7 w hS
    refine oa rfl rfl <| ops_nil fun a hA => cw_ops hA ?_
    clear hA
    refine oy (rv_add rfl rfl rfl) rfl <| om rfl rfl <| ops_nil fun a hA => ?_
    cases hG2
    exact ⟨_, rfl, ⟨s7, hA.part ⟨rfl, rfl, rfl, rfl, trivial⟩, ((hS).sel [0] rfl).selR [0] rfl⟩⟩
   ·replace hG2 := iteF hc1 hG2
    refine cw_exit <| xcons_hit ?_
    cases hG2
    have ho := hr2 _ rfl; subst ho
    exact ⟨x8, s4, rfl, hA.part ⟨rfl, trivial⟩, ((hS).sel [0] rfl).selR [] rfl⟩
  ·skip
   clear hA hS hl2
   rintro a w ⟨x10, s5, heq, hA, hS⟩
   replace hF : slices_Concat_SList_j2 x10 = some r := by rw [heq] at hF; exact hF
   clear heq
   unfold slices_Concat_SList_j2 at hF
   refine cw_seq <| cw_ops hA ?_
   clear hA
   refine om rfl rfl <| oa rfl rfl <| ops_nil fun a hA => cw_ret ?_
   cases hF
   exact fin1 Tryz.results152 hA (res_tmp rfl) ⟨s5, rfl, (hS.sel [0] rfl).weaken (R' := []) (fun _ h => nomatch h)⟩
theorem c_impl_within {w0 : World} {n : Int} {low : Int} {high : Int}  {r : Bool}  (hF : impl_within n low high = some r) :
    Calls Tryz.prog 38 #[.int .i64 (n), .int .i64 (low), .int .i64 (high)] w0 (Ret fun v w' => v = .bool (r) ∧ St (cxAll w0) w' [] []) := by
 have hS : St (cxAll w0) w0 [] [] := St.enter (by
   intro f hf; cases hf)
 refine calls_cwN (args := [_, _, _]) Tryz.func38 rfl Tryz.ntmps38 rfl ?_
 unfold impl_within at hF
 intro a hA
 refine cw_seq <| cw_ops hA ?_
 clear hA
 refine oa rfl rfl <| ops_nil fun a hA => cw_seq <| cw_cut (J := fun a' w' => ∃ (x1 : Bool), impl_within_j1 x1 = some r ∧ AEnv 15 [(6, .bool (x1))] a' ∧ St (cxAll w0) w' [] []) ?_ ?_
 ·skip
  refine cw_ops hA ?_
  clear hA
  refine om rfl rfl <| om rfl rfl <| oy (rv_geq rfl rfl rfl) rfl <| om rfl rfl <| ops_case (s := 10) rfl (fun hc1 => ?_) (fun hc1 => ?_)
  ·replace hF := iteT hc1 hF
   refine ops_v (rv_move rfl rfl) (want_if rfl rfl rfl (by rw [hc1]; rfl)) rfl rfl ?_
   refine ops_v (rv_move rfl rfl) (want_if rfl rfl rfl (by rw [hc1]; rfl)) rfl rfl ?_
   refine ops_v (rv_leq rfl rfl rfl) (want_if rfl rfl rfl (by rw [hc1]; rfl)) rfl rfl ?_
   refine oy (rv_pick_t rfl rfl hc1 rfl) rfl <| oa rfl rfl <| ops_nil fun a hA => ?_
   exact ⟨decide (n ≤ high), hF, hA.part ⟨rfl, trivial⟩, ((hS).sel [] rfl).selR [] rfl⟩
  ·replace hF := iteF hc1 hF
   refine ops_off (want_if rfl rfl rfl (by rw [hc1]; rfl)) rfl rfl ?_
   refine ops_off (want_if rfl rfl rfl (by rw [hc1]; rfl)) rfl rfl ?_
   refine ops_off (want_if rfl rfl rfl (by rw [hc1]; rfl)) rfl rfl ?_
   refine oy (rv_pick_f rfl rfl hc1 rfl) rfl <| oa rfl rfl <| ops_nil fun a hA => ?_
   exact ⟨false, hF, hA.part ⟨rfl, trivial⟩, ((hS).sel [] rfl).selR [] rfl⟩
 ·skip
  clear hA hS hF
  rintro a w ⟨x1, hF, hA, hS⟩
  unfold impl_within_j1 at hF
  refine cw_ret ?_
  cases hF
  exact fy Tryz.results38 hA rfl hS
theorem c_impl_isSlot {w0 : World} {slot : Int}  {r : Bool}  (hF : impl_isSlot slot = some r) :
    Calls Tryz.prog 153 #[.int .i64 (slot)] w0 (Ret fun v w' => v = .bool (r) ∧ St (cxAll w0) w' [] []) := by
 have hS : St (cxAll w0) w0 [] [] := St.enter (by
   intro f hf; cases hf)
 refine calls_cwN (args := [_]) Tryz.func153 rfl Tryz.ntmps153 rfl ?_
 unfold impl_isSlot at hF
 intro a hA
 refine cw_seq <| cw_ops hA ?_
 clear hA
 refine oa rfl rfl <| ops_nil fun a hA => cw_seq <| cw_ops hA ?_
 clear hA
 refine om rfl rfl ?_
 obtain ⟨x1, hx1, hF⟩ := bindE hF
 refine ops_c (rc_call Tryz.call38 rfl rfl) (want_yes rfl) rfl rfl (c_impl_within (n := slot) (low := 0) (high := 23)  hx1) ?_
 rintro _ w ⟨rfl, hk⟩
 replace hS := hS.after hk; clear hk
 refine oa rfl rfl <| ops_nil fun a hA => cw_ret ?_
 cases hF
 exact fy Tryz.results153 hA rfl hS
theorem c_impl_ListsOk {w0 : World} {l : Lists} {s1 : Value} {s2 : Value} {r : Bool} (h1 : Rep.rd (All w0) w0 [s1] (l.Global : List SList)) (h2 : Rep.rd (All w0) w0 [s2] (l.Own : List SList)) (hF : impl_ListsOk l = some r) :
    Calls Tryz.prog 117 #[.agg #[s1, s2]] w0 (Ret fun v w' => v = .bool (r) ∧ St (cxAll w0) w' [] []) := by
 have hS : St (cxAll w0) w0 [] [fRd [s1] (l.Global : List SList), fRd [s2] (l.Own : List SList)] := St.enter (by
   intro f hf
   simp only [List.mem_cons, List.not_mem_nil, or_false] at hf
   rcases hf with rfl | rfl
   · exact h1
   · exact h2)
 refine calls_cwN (args := [_]) Tryz.func117 rfl Tryz.ntmps117 rfl ?_
 unfold impl_ListsOk at hF
 intro a hA
 refine cw_seq <| cw_ops hA ?_
 clear hA
 refine ops_mv (rv_box (cs := [s1, s2]) hS rfl rfl rfl) (want_yes rfl) rfl rfl ?_
 clear hS
 rintro _ w ⟨b1, rfl, hS⟩
 refine oa rfl rfl <| ops_nil fun a hA => cw_seq <| cw_seq <| cw_cut (J := fun a' w' => ∃ (x1 : Bool), impl_ListsOk_j1 l x1 = some r ∧ AEnv 61 [(1, .pointer (some ⟨b1, 0, none⟩)), (17, .bool (x1))] a' ∧ St (cxAll w0) w' [cBox b1 [s1, s2]] [fRd [s1] (l.Global : List SList), fRd [s2] (l.Own : List SList)]) ?_ ?_
 ·skip
  refine cw_ops hA ?_
  clear hA
  refine oy (rv_fld (m := 0) Tryz.underlying54 rfl rfl Tryz.sizeOf52 rfl rfl) rfl <| oy (rv_load1 rfl rfl Tryz.isAgg52 (hS.cell 0 rfl rfl)) rfl <| oy (rv_lenS (hS.rd 0 rfl) Tryz.underlying52 rfl rfl) rfl <| oy (rv_neq rfl rfl rfl) rfl <| om rfl rfl <| ops_case (s := 12) rfl (fun hc8 => ?_) (fun hc8 => ?_)
  ·replace hF := iteT hc8 hF
   refine ops_off (want_if rfl rfl rfl (by rw [hc8]; rfl)) rfl rfl ?_
   refine ops_off (want_if rfl rfl rfl (by rw [hc8]; rfl)) rfl rfl ?_
   refine ops_off (want_if rfl rfl rfl (by rw [hc8]; rfl)) rfl rfl ?_
   refine ops_off (want_if rfl rfl rfl (by rw [hc8]; rfl)) rfl rfl ?_
   refine oy (rv_pick_t rfl rfl hc8 rfl) rfl <| ops_nil fun a hA => ?_
   exact ⟨true, hF, hA.part ⟨rfl, rfl, trivial⟩, ((hS).sel [0] rfl).selR [0, 1] rfl⟩
  ·replace hF := iteF hc8 hF
   refine ops_v (rv_fld (m := 0) Tryz.underlying54 rfl rfl Tryz.sizeOf52 rfl rfl) (want_if rfl rfl rfl (by rw [hc8]; rfl)) rfl rfl ?_
   refine ops_v (rv_load1 rfl rfl Tryz.isAgg52 (hS.cell 0 rfl rfl)) (want_if rfl rfl rfl (by rw [hc8]; rfl)) rfl rfl ?_
   refine ops_v (rv_lenS (hS.rd 1 rfl) Tryz.underlying52 rfl rfl) (want_if rfl rfl rfl (by rw [hc8]; rfl)) rfl rfl ?_
   refine ops_v (rv_neq rfl rfl rfl) (want_if rfl rfl rfl (by rw [hc8]; rfl)) rfl rfl ?_
   refine oy (rv_pick_f rfl rfl hc8 rfl) rfl <| ops_nil fun a hA => ?_
   exact ⟨((l.Own.length : Int)) != 9, hF, hA.part ⟨rfl, rfl, trivial⟩, ((hS).sel [0] rfl).selR [0, 1] rfl⟩
 ·skip
  clear hA hS hF
  rintro a w ⟨x1, hF, hA, hS⟩
  unfold impl_ListsOk_j1 at hF
  refine cw_cond hA rfl (fun hc1 => ?_) (fun hc1 => ?_)
  ·replace hF := iteT hc1 hF
   refine cw_seq <| cw_ops hA ?_
   clear hA
   refine oa rfl rfl <| ops_nil fun a hA => cw_ret ?_
   cases hF
   exact fy Tryz.results117 hA rfl hS
  ·replace hF := iteF hc1 hF
   refine cw_skip <| cw_seq <| cw_ops hA ?_
   clear hA
   refine oy (rv_buildA (cells := #[.bool (false), .bool (false), .bool (false), .bool (false), .bool (false), .bool (false), .bool (false), .bool (false), .bool (false), .bool (false), .bool (false), .bool (false), .bool (false), .bool (false), .bool (false), .bool (false), .bool (false), .bool (false), .bool (false), .bool (false), .bool (false), .bool (false), .bool (false), .bool (false)]) rfl Tryz.zeroValue182 Tryz.underlying182 Tryz.sizeOf4 rfl rfl) rfl <| ops_mv (rv_alloc (cs := List.map (fun q : Bool => Value.bool q) [false, false, false, false, false, false, false, false, false, false, false, false, false, false, false, false, false, false, false, false, false, false, false, false]) hS rfl Tryz.zeroValue182 rfl) (want_yes rfl) rfl rfl ?_
   clear hS
   rintro _ w ⟨b2, rfl, hS⟩
   refine ops_ms (rs_box (vs := [.bool (false), .bool (false), .bool (false), .bool (false), .bool (false), .bool (false), .bool (false), .bool (false), .bool (false), .bool (false), .bool (false), .bool (false), .bool (false), .bool (false), .bool (false), .bool (false), .bool (false), .bool (false), .bool (false), .bool (false), .bool (false), .bool (false), .bool (false), .bool (false)]) hS (i := 1) rfl rfl rfl rfl rfl Tryz.sizeOf182 rfl rfl rfl) (want_yes rfl) rfl ?_
   clear hS
   intro w hS
   refine ops_nil fun a hA => cw_seq <| cw_seq <| cw_ops hA ?_
   clear hA
   refine oy (rv_fld (m := 0) Tryz.underlying54 rfl rfl Tryz.sizeOf52 rfl rfl) rfl <| oy (rv_load1 rfl rfl Tryz.isAgg52 (hS.cell 0 rfl rfl)) rfl <| oy (rv_fld (m := 0) Tryz.underlying54 rfl rfl Tryz.sizeOf52 rfl rfl) rfl <| oy (rv_load1 rfl rfl Tryz.isAgg52 (hS.cell 0 rfl rfl)) rfl <| ops_mv (rv_litRaw2 hS (hS.rd 1 rfl) (hS.rd 0 rfl) Tryz.underlying216 inf_Tryz52 rfl rfl rfl) (want_yes rfl) rfl rfl ?_
   clear hS
   rintro s3 w hS
   obtain ⟨hn1, hF⟩ := needE hF
   replace hS := hS.leak 2 rfl
   obtain ⟨u1, u2, hu1, hl1, hS⟩ := hS.concat2 rfl 2 1 0 rfl rfl rfl
   refine ops_c (rc_call Tryz.call152 rfl rfl) (want_yes rfl) rfl rfl (c_slices_Concat_SList hu1 (slices_Concat_SList_two hl1 hn1)) ?_
   rintro s4 w ⟨_, rfl, hk⟩
   replace hS := hS.after hk; clear hk
   replace hS := hS.leak 3 rfl
   replace hS := hS.unraw rfl 4 3 rfl rfl
   refine oy (rv_lenS (hS.rd 5 rfl) Tryz.underlying52 rfl rfl) rfl <| om rfl rfl <| ops_nil fun a hA => ?_
   obtain ⟨o1, hl2, hF⟩ := bindE hF
   refine cw_cut (J := fun a' w' => o1 = Out.brk (()) ∧ AEnv 61 [] a' ∧ St (cxAll w0) w' [] []) ?_ ?_
   ·refine cw_block ?_
    refine cw_loop (body := impl_ListsOk_l2 l) (r := o1) (fun sg a' w' => AEnv 61 [(1, .pointer (some ⟨b1, 0, none⟩)), (3, .pointer (some ⟨b2, 0, none⟩)), (24, s4), (25, .int .i64 (((l.Own ++ l.Global).length : Int))), (26, .int .i64 (sg.1))] a' ∧ St (cxAll w0) w' [cBox b1 [s1, s2], cBox b2 (List.map (fun q : Bool => Value.bool q) (sg.2 : List Bool))] [fRd [s4] (l.Own ++ l.Global : List SList), fRd [s1] (l.Global : List SList), fRd [s2] (l.Own : List SList)]) ?_ hl2 ⟨hA.part ⟨rfl, rfl, rfl, rfl, rfl, trivial⟩, ((hS).sel [0, 1] rfl).selR [5, 0, 1] rfl⟩
    clear hA hS hl2
    rintro ⟨x4, x5⟩ a w q2 ⟨hA, hS⟩ hG2 hr2
    try dsimp only at hA hS
    unfold impl_ListsOk_l2 at hG2
    refine cw_seq <| cw_ops hA ?_
    clear hA
    refine oy (rv_lss rfl rfl rfl) rfl <| ops_nil fun a hA => cw_seq <| cw_cond hA rfl (fun hc2 => ?_) (fun hc2 => ?_)
    ·replace hG2 := iteT hc2 hG2
     refine cw_skip <| cw_seq <| cw_block <| cw_seq <| cw_ops hA ?_
     clear hA
     refine om rfl rfl ?_
     obtain ⟨x6, hx6, hG2⟩ := bindE hG2
     refine oy (rv_idx (m := 1) (hS.rd 0 rfl) rfl hx6 Tryz.underlying52 Tryz.sizeOf91 rfl rfl rfl) rfl ?_
     obtain ⟨s5, hel, hS⟩ := hS.el_SList 0 rfl (idx_some hx6).2.2
     refine oy (rv_loadN rfl rfl Tryz.isAgg91 Tryz.sizeOf91 rfl hel) rfl <| ops_mv (rv_alloc (cs := [(.slice none 0 0)]) hS rfl Tryz.zeroValue91 rfl) (want_yes rfl) rfl rfl ?_
     clear hS
     rintro _ w ⟨b3, rfl, hS⟩
     refine oa rfl rfl <| ops_ms (rs_box (vs := [s5]) hS (i := 2) rfl rfl rfl rfl rfl Tryz.sizeOf91 rfl rfl (all1 (one_rd (hS.rd 3 rfl)) rfl)) (want_yes rfl) rfl ?_
     clear hS
     intro w hS
     refine ops_nil fun a hA => cw_seq <| cw_seq <| cw_cut (J := fun a' w' => ∃ (x7 : Bool), impl_ListsOk_j3 x4 x5 x6 x7 = some q2 ∧ AEnv 61 [(1, .pointer (some ⟨b1, 0, none⟩)), (3, .pointer (some ⟨b2, 0, none⟩)), (5, .pointer (some ⟨b3, 0, none⟩)), (24, s4), (25, .int .i64 (((l.Own ++ l.Global).length : Int))), (26, .int .i64 (x4)), (41, .bool (x7))] a' ∧ St (cxAll w0) w' [cBox b1 [s1, s2], cBox b2 (List.map (fun q : Bool => Value.bool q) (x5 : List Bool)), cBox b3 [s5]] [fRd [s4] (l.Own ++ l.Global : List SList), fRd [s1] (l.Global : List SList), fRd [s2] (l.Own : List SList), fRd [s5] (x6.Slots : List Int)]) ?_ ?_
     ·skip
      refine cw_ops hA ?_
      clear hA
      refine om rfl rfl <| oy (rv_fld (m := 0) Tryz.underlying54 rfl rfl Tryz.sizeOf52 rfl rfl) rfl <| oy (rv_load1 rfl rfl Tryz.isAgg52 (hS.cell 0 rfl rfl)) rfl <| oy (rv_lenS (hS.rd 2 rfl) Tryz.underlying52 rfl rfl) rfl <| oy (rv_lss rfl rfl rfl) rfl <| om rfl rfl <| ops_case (s := 36) rfl (fun hc7 => ?_) (fun hc7 => ?_)
      ·replace hG2 := iteT hc7 hG2
       refine ops_v (rv_fld (m := 0) Tryz.underlying91 rfl rfl Tryz.sizeOf30 rfl rfl) (want_if rfl rfl rfl (by rw [hc7]; rfl)) rfl rfl ?_
       refine ops_v (rv_load1 rfl rfl Tryz.isAgg30 (hS.cell 2 rfl rfl)) (want_if rfl rfl rfl (by rw [hc7]; rfl)) rfl rfl ?_
       refine ops_v (rv_lenS (hS.rd 3 rfl) Tryz.underlying30 rfl rfl) (want_if rfl rfl rfl (by rw [hc7]; rfl)) rfl rfl ?_
       refine ops_v (rv_gtr rfl rfl rfl) (want_if rfl rfl rfl (by rw [hc7]; rfl)) rfl rfl ?_
       refine oy (rv_pick_t rfl rfl hc7 rfl) rfl <| ops_nil fun a hA => ?_
       exact ⟨decide (2 < ((x6.Slots.length : Int))), hG2, hA.part ⟨rfl, rfl, rfl, rfl, rfl, rfl, rfl, trivial⟩, ((hS).sel [0, 1, 2] rfl).selR [0, 1, 2, 3] rfl⟩
      ·replace hG2 := iteF hc7 hG2
       refine ops_off (want_if rfl rfl rfl (by rw [hc7]; rfl)) rfl rfl ?_
       refine ops_off (want_if rfl rfl rfl (by rw [hc7]; rfl)) rfl rfl ?_
       refine ops_off (want_if rfl rfl rfl (by rw [hc7]; rfl)) rfl rfl ?_
       refine ops_off (want_if rfl rfl rfl (by rw [hc7]; rfl)) rfl rfl ?_
       refine oy (rv_pick_f rfl rfl hc7 rfl) rfl <| ops_nil fun a hA => ?_
       exact ⟨false, hG2, hA.part ⟨rfl, rfl, rfl, rfl, rfl, rfl, rfl, trivial⟩, ((hS).sel [0, 1, 2] rfl).selR [0, 1, 2, 3] rfl⟩
     ·skip
      clear hA hS hG2
      rintro a w ⟨x7, hG2, hA, hS⟩
      unfold impl_ListsOk_j3 at hG2
      refine cw_cond hA rfl (fun hc3 => ?_) (fun hc3 => ?_)
      ·replace hG2 := iteT hc3 hG2
       refine cw_seq <| cw_ops hA ?_
       clear hA
       refine oa rfl rfl <| ops_nil fun a hA => cw_ret ?_
       cases hG2
       have ho := hr2 _ rfl; subst ho
       replace hF : some false = some r := hF
       cases hF
       exact fy Tryz.results117 hA rfl hS
      ·replace hG2 := iteF hc3 hG2
       refine cw_skip <| cw_seq <| cw_ops hA ?_
       clear hA
       refine oy (rv_fld (m := 0) Tryz.underlying91 rfl rfl Tryz.sizeOf30 rfl rfl) rfl <| oy (rv_load1 rfl rfl Tryz.isAgg30 (hS.cell 2 rfl rfl)) rfl <| oy (rv_lenS (hS.rd 3 rfl) Tryz.underlying30 rfl rfl) rfl <| om rfl rfl <| ops_nil fun a hA => ?_
       obtain ⟨o2, hl3, hG2⟩ := bindE hG2
       refine cw_cut (J := fun a' w' => ∃ (x12 : List Bool), o2 = Out.brk x12 ∧ AEnv 61 [(1, .pointer (some ⟨b1, 0, none⟩)), (3, .pointer (some ⟨b2, 0, none⟩)), (24, s4), (25, .int .i64 (((l.Own ++ l.Global).length : Int))), (26, .int .i64 (x4))] a' ∧ St (cxAll w0) w' [cBox b1 [s1, s2], cBox b2 (List.map (fun q : Bool => Value.bool q) (x12 : List Bool))] [fRd [s4] (l.Own ++ l.Global : List SList), fRd [s1] (l.Global : List SList), fRd [s2] (l.Own : List SList)]) ?_ ?_
       ·refine cw_block ?_
        refine cw_loop (body := impl_ListsOk_l4 x6) (r := o2) (fun sg a' w' => AEnv 61 [(1, .pointer (some ⟨b1, 0, none⟩)), (3, .pointer (some ⟨b2, 0, none⟩)), (24, s4), (25, .int .i64 (((l.Own ++ l.Global).length : Int))), (26, .int .i64 (x4)), (43, s5), (44, .int .i64 ((x6.Slots.length : Int))), (45, .int .i64 (sg.1))] a' ∧ St (cxAll w0) w' [cBox b1 [s1, s2], cBox b2 (List.map (fun q : Bool => Value.bool q) (sg.2 : List Bool))] [fRd [s4] (l.Own ++ l.Global : List SList), fRd [s5] (x6.Slots : List Int), fRd [s1] (l.Global : List SList), fRd [s2] (l.Own : List SList)]) ?_ hl3 ⟨hA.part ⟨rfl, rfl, rfl, rfl, rfl, rfl, rfl, rfl, trivial⟩, ((hS).sel [0, 1] rfl).selR [0, 3, 1, 2] rfl⟩
        clear hA hS hl3
        rintro ⟨x10, x11⟩ a w q4 ⟨hA, hS⟩ hG4 hr4
        try dsimp only at hA hS
        unfold impl_ListsOk_l4 at hG4
        refine cw_seq <| cw_ops hA ?_
        clear hA
        refine oy (rv_lss rfl rfl rfl) rfl <| ops_nil fun a hA => cw_seq <| cw_cond hA rfl (fun hc4 => ?_) (fun hc4 => ?_)
        ·replace hG4 := iteT hc4 hG4
         refine cw_skip <| cw_seq <| cw_block <| cw_seq <| cw_ops hA ?_
         clear hA
         obtain ⟨x13, hx13, hG4⟩ := bindE hG4
         refine oy (rv_idx (m := 1) (hS.rd 1 rfl) rfl hx13 Tryz.underlying30 Tryz.sizeOf3 rfl rfl rfl) rfl <| oy (rv_load1 rfl rfl Tryz.isAgg3 (cell1 (el_Int (hS.rd 1 rfl) (idx_some hx13).2.2))) rfl <| oa rfl rfl <| ops_nil fun a hA => cw_seq <| cw_seq <| cw_cut (J := fun a' w' => ∃ (x14 : Bool), impl_ListsOk_j5 x10 x11 x13 x14 = some q4 ∧ AEnv 61 [(1, .pointer (some ⟨b1, 0, none⟩)), (3, .pointer (some ⟨b2, 0, none⟩)), (7, .int .i64 (x13)), (24, s4), (25, .int .i64 (((l.Own ++ l.Global).length : Int))), (26, .int .i64 (x4)), (43, s5), (44, .int .i64 ((x6.Slots.length : Int))), (45, .int .i64 (x10)), (56, .bool (x14))] a' ∧ St (cxAll w0) w' [cBox b1 [s1, s2], cBox b2 (List.map (fun q : Bool => Value.bool q) (x11 : List Bool))] [fRd [s4] (l.Own ++ l.Global : List SList), fRd [s5] (x6.Slots : List Int), fRd [s1] (l.Global : List SList), fRd [s2] (l.Own : List SList)]) ?_ ?_
         ·skip
          refine cw_ops hA ?_
          clear hA
          refine om rfl rfl ?_
          obtain ⟨x16, hx16, hG4⟩ := bindE hG4
          refine ops_c (rc_call Tryz.call153 rfl rfl) (want_yes rfl) rfl rfl (c_impl_isSlot (slot := x13)  hx16) ?_
          rintro _ w ⟨rfl, hk⟩
          replace hS := hS.after hk; clear hk
          refine oy (rv_not rfl rfl) rfl <| om rfl rfl <| ops_case (s := 52) rfl (fun hc6 => ?_) (fun hc6 => ?_)
          ·replace hG4 := iteT hc6 hG4
           refine ops_off (want_if rfl rfl rfl (by rw [hc6]; rfl)) rfl rfl ?_
           refine ops_off (want_if rfl rfl rfl (by rw [hc6]; rfl)) rfl rfl ?_
           refine ops_off (want_if rfl rfl rfl (by rw [hc6]; rfl)) rfl rfl ?_
           refine oy (rv_pick_t rfl rfl hc6 rfl) rfl <| ops_nil fun a hA => ?_
           exact ⟨true, hG4, hA.part ⟨rfl, rfl, rfl, rfl, rfl, rfl, rfl, rfl, rfl, rfl, trivial⟩, ((hS).sel [0, 1] rfl).selR [0, 1, 2, 3] rfl⟩
          ·replace hG4 := iteF hc6 hG4
           refine ops_v (rv_move rfl rfl) (want_if rfl rfl rfl (by rw [hc6]; rfl)) rfl rfl ?_
           obtain ⟨hn3, hG4⟩ := needE hG4
           refine ops_v (rv_idxA Tryz.underlying182 Tryz.sizeOf4 hn3 rfl rfl rfl) (want_if rfl rfl rfl (by rw [hc6]; rfl)) rfl rfl ?_
           obtain ⟨x17, hx17, hG4⟩ := bindE hG4
           refine ops_v (rv_load1 rfl rfl Tryz.isAgg4 (hS.arrcell 1 rfl hx17)) (want_if rfl rfl rfl (by rw [hc6]; rfl)) rfl rfl ?_
           refine oy (rv_pick_f rfl rfl hc6 rfl) rfl <| ops_nil fun a hA => ?_
           exact ⟨x17, hG4, hA.part ⟨rfl, rfl, rfl, rfl, rfl, rfl, rfl, rfl, rfl, rfl, trivial⟩, ((hS).sel [0, 1] rfl).selR [0, 1, 2, 3] rfl⟩
         ·skip
          clear hA hS hG4
          rintro a w ⟨x14, hG4, hA, hS⟩
          unfold impl_ListsOk_j5 at hG4
          refine cw_cond hA rfl (fun hc5 => ?_) (fun hc5 => ?_)
          ·replace hG4 := iteT hc5 hG4
           refine cw_seq <| cw_ops hA ?_
           clear hA
           refine oa rfl rfl <| ops_nil fun a hA => cw_ret ?_
           cases hG4
           have ho := hr4 _ rfl; subst ho
           replace hG2 : some (.stop (Out.ret false)) = some q2 := hG2
           cases hG2
           have ho := hr2 _ rfl; subst ho
           replace hF : some false = some r := hF
           cases hF
           exact fy Tryz.results117 hA rfl hS
          ·replace hG4 := iteF hc5 hG4
           refine cw_skip <| cw_ops hA ?_
           clear hA
           refine om rfl rfl ?_
           obtain ⟨hn2, hG4⟩ := needE hG4
           refine oy (rv_idxA Tryz.underlying182 Tryz.sizeOf4 hn2 rfl rfl rfl) rfl ?_
           obtain ⟨x15, hx15, hG4⟩ := bindE hG4
           refine ops_ms (rs_arr (xd := true) hS (m := 1) rfl hx15 Tryz.sizeOf4 rfl rfl rfl rfl rfl rfl) (want_yes rfl) rfl ?_
           clear hS
           intro w hS
           refine ops_nil fun a hA => cw_ops hA ?_
           clear hA
           refine oy (rv_add rfl rfl rfl) rfl <| om rfl rfl <| ops_nil fun a hA => ?_
           cases hG4
           exact ⟨_, rfl, ⟨hA.part ⟨rfl, rfl, rfl, rfl, rfl, rfl, rfl, rfl, trivial⟩, ((hS).sel [0, 1] rfl).selR [0, 1, 2, 3] rfl⟩⟩
        ·replace hG4 := iteF hc4 hG4
         refine cw_exit <| xcons_hit ?_
         cases hG4
         have ho := hr4 _ rfl; subst ho
         exact ⟨x11, rfl, hA.part ⟨rfl, rfl, rfl, rfl, rfl, trivial⟩, ((hS).sel [0, 1] rfl).selR [0, 2, 3] rfl⟩
       ·skip
        clear hA hS hl3
        rintro a w ⟨x12, heq, hA, hS⟩
        replace hG2 : impl_ListsOk_j4 x4 x12 = some q2 := by rw [heq] at hG2; exact hG2
        clear heq
        unfold impl_ListsOk_j4 at hG2
        refine cw_ops hA ?_
        clear hA
        refine oy (rv_add rfl rfl rfl) rfl <| om rfl rfl <| ops_nil fun a hA => ?_
        cases hG2
        exact ⟨_, rfl, ⟨hA.part ⟨rfl, rfl, rfl, rfl, rfl, trivial⟩, ((hS).sel [0, 1] rfl).selR [0, 1, 2] rfl⟩⟩
    ·replace hG2 := iteF hc2 hG2
     refine cw_exit <| xcons_hit ?_
     cases hG2
     have ho := hr2 _ rfl; subst ho
     exact ⟨rfl, hA.part trivial, ((hS).sel [] rfl).selR [] rfl⟩
   ·skip
    clear hA hS hl2
    rintro a w ⟨heq, hA, hS⟩
    replace hF : impl_ListsOk_j2 = some r := by rw [heq] at hF; exact hF
    clear heq
    unfold impl_ListsOk_j2 at hF
    refine cw_seq <| cw_ops hA ?_
    clear hA
    refine oa rfl rfl <| ops_nil fun a hA => cw_ret ?_
    cases hF
    exact fy Tryz.results117 hA rfl hS
theorem c_impl_HandleOk {w0 : World} {h : Int}  {r : Bool}  (hF : impl_HandleOk h = some r) :
    Calls Tryz.prog 85 #[.int .i64 (h)] w0 (Ret fun v w' => v = .bool (r) ∧ St (cxAll w0) w' [] []) := by
 have hS : St (cxAll w0) w0 [] [] := St.enter (by
   intro f hf; cases hf)
 refine calls_cwN (args := [_]) Tryz.func85 rfl Tryz.ntmps85 rfl ?_
 unfold impl_HandleOk at hF
 intro a hA
 refine cw_seq <| cw_ops hA ?_
 clear hA
 refine oa rfl rfl <| ops_nil fun a hA => cw_seq <| cw_cut (J := fun a' w' => ∃ (x1 : Bool), impl_HandleOk_j1 x1 = some r ∧ AEnv 10 [(2, .bool (x1))] a' ∧ St (cxAll w0) w' [] []) ?_ ?_
 ·skip
  refine cw_ops hA ?_
  clear hA
  refine om rfl rfl ?_
  obtain ⟨x2, hx2, hF⟩ := bindE hF
  refine ops_c (rc_call Tryz.call38 rfl rfl) (want_yes rfl) rfl rfl (c_impl_within (n := h) (low := 32) (high := 223)  hx2) ?_
  rintro _ w ⟨rfl, hk⟩
  replace hS := hS.after hk; clear hk
  refine om rfl rfl <| ops_case (s := 5) rfl (fun hc1 => ?_) (fun hc1 => ?_)
  ·replace hF := iteT hc1 hF
   refine ops_v (rv_move rfl rfl) (want_if rfl rfl rfl (by rw [hc1]; rfl)) rfl rfl ?_
   refine ops_v (rv_rem rfl rfl rfl (by decide)) (want_if rfl rfl rfl (by rw [hc1]; rfl)) rfl rfl ?_
   refine ops_v (rv_lss rfl rfl rfl) (want_if rfl rfl rfl (by rw [hc1]; rfl)) rfl rfl ?_
   refine oy (rv_pick_t rfl rfl hc1 rfl) rfl <| oa rfl rfl <| ops_nil fun a hA => ?_
   exact ⟨decide ((Int.tmod h 32) < 24), hF, hA.part ⟨rfl, trivial⟩, ((hS).sel [] rfl).selR [] rfl⟩
  ·replace hF := iteF hc1 hF
   refine ops_off (want_if rfl rfl rfl (by rw [hc1]; rfl)) rfl rfl ?_
   refine ops_off (want_if rfl rfl rfl (by rw [hc1]; rfl)) rfl rfl ?_
   refine ops_off (want_if rfl rfl rfl (by rw [hc1]; rfl)) rfl rfl ?_
   refine oy (rv_pick_f rfl rfl hc1 rfl) rfl <| oa rfl rfl <| ops_nil fun a hA => ?_
   exact ⟨false, hF, hA.part ⟨rfl, trivial⟩, ((hS).sel [] rfl).selR [] rfl⟩
 ·skip
  clear hA hS hF
  rintro a w ⟨x1, hF, hA, hS⟩
  unfold impl_HandleOk_j1 at hF
  refine cw_ret ?_
  cases hF
  exact fy Tryz.results85 hA rfl hS
theorem c_impl_LimboSize {w0 : World} {l : List LList} {s1 : Value} {r : Int} (h1 : Rep.rd (All w0) w0 [s1] (l : List LList)) (hF : impl_LimboSize l = some r) :
    Calls Tryz.prog 121 #[s1] w0 (Ret fun v w' => v = .int .i64 (r) ∧ St (cxAll w0) w' [] []) := by
 have hS : St (cxAll w0) w0 [] [fRd [s1] (l : List LList)] := St.enter (by
   intro f hf
   simp only [List.mem_cons, List.not_mem_nil, or_false] at hf
   subst hf; exact h1)
 refine calls_cwN (args := [_]) Tryz.func121 rfl Tryz.ntmps121 rfl ?_
 unfold impl_LimboSize at hF
 intro a hA
 refine cw_seq <| cw_ops hA ?_
 clear hA
 refine oa rfl rfl <| ops_nil fun a hA => cw_seq <| cw_ops hA ?_
 clear hA
 refine oa rfl rfl <| ops_nil fun a hA => cw_seq <| cw_seq <| cw_ops hA ?_
 clear hA
 refine om rfl rfl <| oy (rv_lenS (hS.rd 0 rfl) Tryz.underlying60 rfl rfl) rfl <| om rfl rfl <| ops_nil fun a hA => ?_
 obtain ⟨o1, hl1, hF⟩ := bindE hF
 refine cw_cut (J := fun a' w' => ∃ (x5 : Int), o1 = x5 ∧ AEnv 19 [(3, .int .i64 (x5))] a' ∧ St (cxAll w0) w' [] []) ?_ ?_
 ·refine cw_block ?_
  refine cw_loop (body := impl_LimboSize_l1 l) (r := o1) (fun sg a' w' => AEnv 19 [(3, .int .i64 (sg.1)), (6, s1), (7, .int .i64 ((l.length : Int))), (8, .int .i64 (sg.2))] a' ∧ St (cxAll w0) w' [] [fRd [s1] (l : List LList)]) ?_ hl1 ⟨hA.part ⟨rfl, rfl, rfl, rfl, trivial⟩, ((hS).sel [] rfl).selR [0] rfl⟩
  clear hA hS hl1
  rintro ⟨x3, x4⟩ a w q1 ⟨hA, hS⟩ hG1 hr1
  try dsimp only at hA hS
  unfold impl_LimboSize_l1 at hG1
  refine cw_seq <| cw_ops hA ?_
  clear hA
  refine oy (rv_lss rfl rfl rfl) rfl <| ops_nil fun a hA => cw_seq <| cw_cond hA rfl (fun hc1 => ?_) (fun hc1 => ?_)
  ·replace hG1 := iteT hc1 hG1
   refine cw_skip <| cw_seq <| cw_block <| cw_seq <| cw_ops hA ?_
   clear hA
   obtain ⟨x6, hx6, hG1⟩ := bindE hG1
   refine oy (rv_idx (m := 1) (hS.rd 0 rfl) rfl hx6 Tryz.underlying60 Tryz.sizeOf141 rfl rfl rfl) rfl ?_
   obtain ⟨s2, hel, hS⟩ := hS.el_LList 0 rfl (idx_some hx6).2.2
   refine oy (rv_loadN rfl rfl Tryz.isAgg141 Tryz.sizeOf141 rfl hel) rfl <| ops_mv (rv_alloc (cs := [(.slice none 0 0)]) hS rfl Tryz.zeroValue141 rfl) (want_yes rfl) rfl rfl ?_
   clear hS
   rintro _ w ⟨b1, rfl, hS⟩
   refine ops_ms (rs_box (vs := [s2]) hS (i := 0) rfl rfl rfl rfl rfl Tryz.sizeOf141 rfl rfl (all1 (one_rd (hS.rd 1 rfl)) rfl)) (want_yes rfl) rfl ?_
   clear hS
   intro w hS
   refine ops_nil fun a hA => cw_ops hA ?_
   clear hA
   refine om rfl rfl <| oy (rv_fld (m := 0) Tryz.underlying141 rfl rfl Tryz.sizeOf118 rfl rfl) rfl <| oy (rv_load1 rfl rfl Tryz.isAgg118 (hS.cell 0 rfl rfl)) rfl <| oy (rv_lenS (hS.rd 1 rfl) Tryz.underlying118 rfl rfl) rfl <| oy (rv_add rfl rfl rfl) rfl <| oa rfl rfl <| ops_nil fun a hA => cw_ops hA ?_
   clear hA
   refine oy (rv_add rfl rfl rfl) rfl <| om rfl rfl <| ops_nil fun a hA => ?_
   cases hG1
   exact ⟨_, rfl, ⟨hA.part ⟨rfl, rfl, rfl, rfl, trivial⟩, ((hS).sel [] rfl).selR [0] rfl⟩⟩
  ·replace hG1 := iteF hc1 hG1
   refine cw_exit <| xcons_hit ?_
   cases hG1
   have ho := hr1 _ rfl; subst ho
   exact ⟨x3, rfl, hA.part ⟨rfl, trivial⟩, ((hS).sel [] rfl).selR [] rfl⟩
 ·skip
  clear hA hS hl1
  rintro a w ⟨x5, heq, hA, hS⟩
  replace hF : impl_LimboSize_j1 x5 = some r := by rw [heq] at hF; exact hF
  clear heq
  unfold impl_LimboSize_j1 at hF
  refine cw_seq <| cw_ops hA ?_
  clear hA
  refine om rfl rfl <| oa rfl rfl <| ops_nil fun a hA => cw_ret ?_
  cases hF
  exact fy Tryz.results121 hA rfl hS
theorem c_impl_LimboOk {w0 : World} {l : List LList} {s1 : Value} {r : Bool} (h1 : Rep.rd (All w0) w0 [s1] (l : List LList)) (hF : impl_LimboOk l = some r) :
    Calls Tryz.prog 72 #[s1] w0 (Ret fun v w' => v = .bool (r) ∧ St (cxAll w0) w' [] []) := by
 have hS : St (cxAll w0) w0 [] [fRd [s1] (l : List LList)] := St.enter (by
   intro f hf
   simp only [List.mem_cons, List.not_mem_nil, or_false] at hf
   subst hf; exact h1)
 refine calls_cwN (args := [_]) Tryz.func72 rfl Tryz.ntmps72 rfl ?_
 unfold impl_LimboOk at hF
 intro a hA
 refine cw_seq <| cw_ops hA ?_
 clear hA
 refine oa rfl rfl <| ops_nil fun a hA => cw_seq <| cw_seq <| cw_ops hA ?_
 clear hA
 refine om rfl rfl <| oy (rv_lenS (hS.rd 0 rfl) Tryz.underlying60 rfl rfl) rfl <| oy (rv_neq rfl rfl rfl) rfl <| ops_nil fun a hA => cw_cond hA rfl (fun hc1 => ?_) (fun hc1 => ?_)
 ·replace hF := iteT hc1 hF
  refine cw_seq <| cw_ops hA ?_
  clear hA
  refine oa rfl rfl <| ops_nil fun a hA => cw_ret ?_
  cases hF
  exact fy Tryz.results72 hA rfl hS
 ·replace hF := iteF hc1 hF
  refine cw_skip <| cw_seq <| cw_ops hA ?_
  clear hA
  refine oy (rv_buildA (cells := #[.bool (false), .bool (false), .bool (false), .bool (false), .bool (false), .bool (false), .bool (false), .bool (false), .bool (false), .bool (false), .bool (false), .bool (false), .bool (false), .bool (false), .bool (false), .bool (false), .bool (false), .bool (false), .bool (false), .bool (false), .bool (false), .bool (false), .bool (false), .bool (false)]) rfl Tryz.zeroValue182 Tryz.underlying182 Tryz.sizeOf4 rfl rfl) rfl <| ops_mv (rv_alloc (cs := List.map (fun q : Bool => Value.bool q) [false, false, false, false, false, false, false, false, false, false, false, false, false, false, false, false, false, false, false, false, false, false, false, false]) hS rfl Tryz.zeroValue182 rfl) (want_yes rfl) rfl rfl ?_
  clear hS
  rintro _ w ⟨b1, rfl, hS⟩
  refine ops_ms (rs_box (vs := [.bool (false), .bool (false), .bool (false), .bool (false), .bool (false), .bool (false), .bool (false), .bool (false), .bool (false), .bool (false), .bool (false), .bool (false), .bool (false), .bool (false), .bool (false), .bool (false), .bool (false), .bool (false), .bool (false), .bool (false), .bool (false), .bool (false), .bool (false), .bool (false)]) hS (i := 0) rfl rfl rfl rfl rfl Tryz.sizeOf182 rfl rfl rfl) (want_yes rfl) rfl ?_
  clear hS
  intro w hS
  refine ops_nil fun a hA => cw_seq <| cw_seq <| cw_ops hA ?_
  clear hA
  refine om rfl rfl <| oy (rv_lenS (hS.rd 0 rfl) Tryz.underlying60 rfl rfl) rfl <| om rfl rfl <| ops_nil fun a hA => ?_
  obtain ⟨o1, hl1, hF⟩ := bindE hF
  refine cw_cut (J := fun a' w' => o1 = Out.brk (()) ∧ AEnv 51 [(0, s1)] a' ∧ St (cxAll w0) w' [] [fRd [s1] (l : List LList)]) ?_ ?_
  ·refine cw_block ?_
   refine cw_loop (body := impl_LimboOk_l1 l) (r := o1) (fun sg a' w' => AEnv 51 [(0, s1), (3, .pointer (some ⟨b1, 0, none⟩)), (12, s1), (13, .int .i64 ((l.length : Int))), (14, .int .i64 (sg.1))] a' ∧ St (cxAll w0) w' [cBox b1 (List.map (fun q : Bool => Value.bool q) (sg.2 : List Bool))] [fRd [s1] (l : List LList)]) ?_ hl1 ⟨hA.part ⟨rfl, rfl, rfl, rfl, rfl, trivial⟩, ((hS).sel [0] rfl).selR [0] rfl⟩
   clear hA hS hl1
   rintro ⟨x3, x4⟩ a w q1 ⟨hA, hS⟩ hG1 hr1
   try dsimp only at hA hS
   unfold impl_LimboOk_l1 at hG1
   refine cw_seq <| cw_ops hA ?_
   clear hA
   refine oy (rv_lss rfl rfl rfl) rfl <| ops_nil fun a hA => cw_seq <| cw_cond hA rfl (fun hc2 => ?_) (fun hc2 => ?_)
   ·replace hG1 := iteT hc2 hG1
    refine cw_skip <| cw_seq <| cw_block <| cw_seq <| cw_ops hA ?_
    clear hA
    obtain ⟨x6, hx6, hG1⟩ := bindE hG1
    refine oy (rv_idx (m := 1) (hS.rd 0 rfl) rfl hx6 Tryz.underlying60 Tryz.sizeOf141 rfl rfl rfl) rfl ?_
    obtain ⟨s2, hel, hS⟩ := hS.el_LList 0 rfl (idx_some hx6).2.2
    refine oy (rv_loadN rfl rfl Tryz.isAgg141 Tryz.sizeOf141 rfl hel) rfl <| ops_mv (rv_alloc (cs := [(.slice none 0 0)]) hS rfl Tryz.zeroValue141 rfl) (want_yes rfl) rfl rfl ?_
    clear hS
    rintro _ w ⟨b2, rfl, hS⟩
    refine ops_ms (rs_box (vs := [s2]) hS (i := 1) rfl rfl rfl rfl rfl Tryz.sizeOf141 rfl rfl (all1 (one_rd (hS.rd 1 rfl)) rfl)) (want_yes rfl) rfl ?_
    clear hS
    intro w hS
    refine ops_nil fun a hA => cw_seq <| cw_ops hA ?_
    clear hA
    refine oy (rv_fld (m := 0) Tryz.underlying141 rfl rfl Tryz.sizeOf118 rfl rfl) rfl <| oy (rv_load1 rfl rfl Tryz.isAgg118 (hS.cell 1 rfl rfl)) rfl <| oy (rv_lenS (hS.rd 1 rfl) Tryz.underlying118 rfl rfl) rfl <| om rfl rfl <| ops_nil fun a hA => ?_
    obtain ⟨o2, hl2, hG1⟩ := bindE hG1
    refine cw_cut (J := fun a' w' => ∃ (x11 : List Bool), o2 = Out.brk x11 ∧ AEnv 51 [(0, s1), (3, .pointer (some ⟨b1, 0, none⟩)), (12, s1), (13, .int .i64 ((l.length : Int))), (14, .int .i64 (x3))] a' ∧ St (cxAll w0) w' [cBox b1 (List.map (fun q : Bool => Value.bool q) (x11 : List Bool))] [fRd [s1] (l : List LList)]) ?_ ?_
    ·refine cw_block ?_
     refine cw_loop (body := impl_LimboOk_l2 x6) (r := o2) (fun sg a' w' => AEnv 51 [(0, s1), (3, .pointer (some ⟨b1, 0, none⟩)), (12, s1), (13, .int .i64 ((l.length : Int))), (14, .int .i64 (x3)), (19, s2), (20, .int .i64 ((x6.Rows.length : Int))), (21, .int .i64 (sg.1))] a' ∧ St (cxAll w0) w' [cBox b1 (List.map (fun q : Bool => Value.bool q) (sg.2 : List Bool))] [fRd [s1] (l : List LList), fRd [s2] (x6.Rows : List LRow)]) ?_ hl2 ⟨hA.part ⟨rfl, rfl, rfl, rfl, rfl, rfl, rfl, rfl, trivial⟩, ((hS).sel [0] rfl).selR [0, 1] rfl⟩
     clear hA hS hl2
     rintro ⟨x9, x10⟩ a w q2 ⟨hA, hS⟩ hG2 hr2
     try dsimp only at hA hS
     unfold impl_LimboOk_l2 at hG2
     refine cw_seq <| cw_ops hA ?_
     clear hA
     refine oy (rv_lss rfl rfl rfl) rfl <| ops_nil fun a hA => cw_seq <| cw_cond hA rfl (fun hc3 => ?_) (fun hc3 => ?_)
     ·replace hG2 := iteT hc3 hG2
      refine cw_skip <| cw_seq <| cw_block <| cw_seq <| cw_ops hA ?_
      clear hA
      obtain ⟨x12, hx12, hG2⟩ := bindE hG2
      refine oy (rv_idx (m := 2) (hS.rd 1 rfl) rfl hx12 Tryz.underlying118 Tryz.sizeOf122 rfl rfl rfl) rfl <| oy (rv_loadN rfl rfl Tryz.isAgg122 Tryz.sizeOf122 rfl (el_LRow (hS.rd 1 rfl) (idx_some hx12).2.2)) rfl <| ops_mv (rv_alloc (cs := [.int .i64 (0), .int .i64 (0)]) hS rfl Tryz.zeroValue122 rfl) (want_yes rfl) rfl rfl ?_
      clear hS
      rintro _ w ⟨b3, rfl, hS⟩
      refine ops_ms (rs_box (vs := [.int .i64 (x12.Handle), .int .i64 (x12.Epoch)]) hS (i := 1) rfl rfl rfl rfl rfl Tryz.sizeOf122 rfl rfl rfl) (want_yes rfl) rfl ?_
      clear hS
      intro w hS
      refine ops_nil fun a hA => cw_seq <| cw_seq <| cw_cut (J := fun a' w' => ∃ (x13 : Bool), impl_LimboOk_j3 x9 x10 x12 x13 = some q2 ∧ AEnv 51 [(0, s1), (3, .pointer (some ⟨b1, 0, none⟩)), (7, .pointer (some ⟨b3, 0, none⟩)), (12, s1), (13, .int .i64 ((l.length : Int))), (14, .int .i64 (x3)), (19, s2), (20, .int .i64 ((x6.Rows.length : Int))), (21, .int .i64 (x9)), (41, .bool (x13))] a' ∧ St (cxAll w0) w' [cBox b1 (List.map (fun q : Bool => Value.bool q) (x10 : List Bool)), cBox b3 [.int .i64 (x12.Handle), .int .i64 (x12.Epoch)]] [fRd [s1] (l : List LList), fRd [s2] (x6.Rows : List LRow)]) ?_ ?_
      ·skip
       refine cw_ops hA ?_
       clear hA
       refine oy (rv_fld (m := 0) Tryz.underlying122 rfl rfl Tryz.sizeOf3 rfl rfl) rfl <| oy (rv_load1 rfl rfl Tryz.isAgg3 (hS.cell 1 rfl rfl)) rfl ?_
       obtain ⟨x15, hx15, hG2⟩ := bindE hG2
       refine ops_c (rc_call Tryz.call85 rfl rfl) (want_yes rfl) rfl rfl (c_impl_HandleOk (h := x12.Handle)  hx15) ?_
       rintro _ w ⟨rfl, hk⟩
       replace hS := hS.after hk; clear hk
       refine oy (rv_not rfl rfl) rfl <| om rfl rfl <| ops_case (s := 29) rfl (fun hc5 => ?_) (fun hc5 => ?_)
       ·replace hG2 := iteT hc5 hG2
        refine ops_off (want_if rfl rfl rfl (by rw [hc5]; rfl)) rfl rfl ?_
        refine ops_off (want_if rfl rfl rfl (by rw [hc5]; rfl)) rfl rfl ?_
        refine ops_off (want_if rfl rfl rfl (by rw [hc5]; rfl)) rfl rfl ?_
        refine ops_off (want_if rfl rfl rfl (by rw [hc5]; rfl)) rfl rfl ?_
        refine oy (rv_pick_t rfl rfl hc5 rfl) rfl <| om rfl rfl <| ops_off (want_if rfl rfl rfl rfl) rfl rfl <| ops_off (want_if rfl rfl rfl rfl) rfl rfl <| ops_off (want_if rfl rfl rfl rfl) rfl rfl <| ops_off (want_if rfl rfl rfl rfl) rfl rfl <| ops_off (want_if rfl rfl rfl rfl) rfl rfl <| oy (rv_pick_t rfl rfl rfl rfl) rfl <| ops_nil fun a hA => ?_
        exact ⟨true, hG2, hA.part ⟨rfl, rfl, rfl, rfl, rfl, rfl, rfl, rfl, rfl, rfl, trivial⟩, ((hS).sel [0, 1] rfl).selR [0, 1] rfl⟩
       ·replace hG2 := iteF hc5 hG2
        refine ops_v (rv_fld (m := 0) Tryz.underlying122 rfl rfl Tryz.sizeOf3 rfl rfl) (want_if rfl rfl rfl (by rw [hc5]; rfl)) rfl rfl ?_
        refine ops_v (rv_load1 rfl rfl Tryz.isAgg3 (hS.cell 1 rfl rfl)) (want_if rfl rfl rfl (by rw [hc5]; rfl)) rfl rfl ?_
        obtain ⟨x16, hx16, hG2⟩ := bindE hG2
        refine ops_c (rc_call Tryz.call38 rfl rfl) (want_if rfl rfl rfl (by rw [hc5]; rfl)) rfl rfl (c_impl_within (n := x12.Epoch) (low := 0) (high := 100000)  hx16) ?_
        rintro _ w ⟨rfl, hk⟩
        replace hS := hS.after hk; clear hk
        refine ops_v (rv_not rfl rfl) (want_if rfl rfl rfl (by rw [hc5]; rfl)) rfl rfl ?_
        refine oy (rv_pick_f rfl rfl hc5 rfl) rfl <| om rfl rfl <| ops_case (s := 35) rfl (fun hc6 => ?_) (fun hc6 => ?_)
        ·replace hG2 := iteT hc6 hG2
         refine ops_off (want_if rfl rfl rfl (by rw [hc6]; rfl)) rfl rfl ?_
         refine ops_off (want_if rfl rfl rfl (by rw [hc6]; rfl)) rfl rfl ?_
         refine ops_off (want_if rfl rfl rfl (by rw [hc6]; rfl)) rfl rfl ?_
         refine ops_off (want_if rfl rfl rfl (by rw [hc6]; rfl)) rfl rfl ?_
         refine ops_off (want_if rfl rfl rfl (by rw [hc6]; rfl)) rfl rfl ?_
         refine oy (rv_pick_t rfl rfl hc6 rfl) rfl <| ops_nil fun a hA => ?_
         exact ⟨true, hG2, hA.part ⟨rfl, rfl, rfl, rfl, rfl, rfl, rfl, rfl, rfl, rfl, trivial⟩, ((hS).sel [0, 1] rfl).selR [0, 1] rfl⟩
        ·replace hG2 := iteF hc6 hG2
         refine ops_v (rv_fld (m := 0) Tryz.underlying122 rfl rfl Tryz.sizeOf3 rfl rfl) (want_if rfl rfl rfl (by rw [hc6]; rfl)) rfl rfl ?_
         refine ops_v (rv_load1 rfl rfl Tryz.isAgg3 (hS.cell 1 rfl rfl)) (want_if rfl rfl rfl (by rw [hc6]; rfl)) rfl rfl ?_
         refine ops_v (rv_rem rfl rfl rfl (by decide)) (want_if rfl rfl rfl (by rw [hc6]; rfl)) rfl rfl ?_
         obtain ⟨hn2, hG2⟩ := needE hG2
         refine ops_v (rv_idxA Tryz.underlying182 Tryz.sizeOf4 hn2 rfl rfl rfl) (want_if rfl rfl rfl (by rw [hc6]; rfl)) rfl rfl ?_
         obtain ⟨x17, hx17, hG2⟩ := bindE hG2
         refine ops_v (rv_load1 rfl rfl Tryz.isAgg4 (hS.arrcell 0 rfl hx17)) (want_if rfl rfl rfl (by rw [hc6]; rfl)) rfl rfl ?_
         refine oy (rv_pick_f rfl rfl hc6 rfl) rfl <| ops_nil fun a hA => ?_
         exact ⟨x17, hG2, hA.part ⟨rfl, rfl, rfl, rfl, rfl, rfl, rfl, rfl, rfl, rfl, trivial⟩, ((hS).sel [0, 1] rfl).selR [0, 1] rfl⟩
      ·skip
       clear hA hS hG2
       rintro a w ⟨x13, hG2, hA, hS⟩
       unfold impl_LimboOk_j3 at hG2
       refine cw_cond hA rfl (fun hc4 => ?_) (fun hc4 => ?_)
       ·replace hG2 := iteT hc4 hG2
        refine cw_seq <| cw_ops hA ?_
        clear hA
        refine oa rfl rfl <| ops_nil fun a hA => cw_ret ?_
        cases hG2
        have ho := hr2 _ rfl; subst ho
        replace hG1 : some (.stop (Out.ret false)) = some q1 := hG1
        cases hG1
        have ho := hr1 _ rfl; subst ho
        replace hF : some false = some r := hF
        cases hF
        exact fy Tryz.results72 hA rfl hS
       ·replace hG2 := iteF hc4 hG2
        refine cw_skip <| cw_ops hA ?_
        clear hA
        refine oy (rv_fld (m := 0) Tryz.underlying122 rfl rfl Tryz.sizeOf3 rfl rfl) rfl <| oy (rv_load1 rfl rfl Tryz.isAgg3 (hS.cell 1 rfl rfl)) rfl <| oy (rv_rem rfl rfl rfl (by decide)) rfl ?_
        obtain ⟨hn1, hG2⟩ := needE hG2
        refine oy (rv_idxA Tryz.underlying182 Tryz.sizeOf4 hn1 rfl rfl rfl) rfl ?_
        obtain ⟨x14, hx14, hG2⟩ := bindE hG2
        refine ops_ms (rs_arr (xd := true) hS (m := 0) rfl hx14 Tryz.sizeOf4 rfl rfl rfl rfl rfl rfl) (want_yes rfl) rfl ?_
        clear hS
        intro w hS
        refine ops_nil fun a hA => cw_ops hA ?_
        clear hA
        refine oy (rv_add rfl rfl rfl) rfl <| om rfl rfl <| ops_nil fun a hA => ?_
        cases hG2
        exact ⟨_, rfl, ⟨hA.part ⟨rfl, rfl, rfl, rfl, rfl, rfl, rfl, rfl, trivial⟩, ((hS).sel [0] rfl).selR [0, 1] rfl⟩⟩
     ·replace hG2 := iteF hc3 hG2
      refine cw_exit <| xcons_hit ?_
      cases hG2
      have ho := hr2 _ rfl; subst ho
      exact ⟨x10, rfl, hA.part ⟨rfl, rfl, rfl, rfl, rfl, trivial⟩, ((hS).sel [0] rfl).selR [0] rfl⟩
    ·skip
     clear hA hS hl2
     rintro a w ⟨x11, heq, hA, hS⟩
     replace hG1 : impl_LimboOk_j2 x3 x11 = some q1 := by rw [heq] at hG1; exact hG1
     clear heq
     unfold impl_LimboOk_j2 at hG1
     refine cw_ops hA ?_
     clear hA
     refine oy (rv_add rfl rfl rfl) rfl <| om rfl rfl <| ops_nil fun a hA => ?_
     cases hG1
     exact ⟨_, rfl, ⟨hA.part ⟨rfl, rfl, rfl, rfl, rfl, trivial⟩, ((hS).sel [0] rfl).selR [0] rfl⟩⟩
   ·replace hG1 := iteF hc2 hG1
    refine cw_exit <| xcons_hit ?_
    cases hG1
    have ho := hr1 _ rfl; subst ho
    exact ⟨rfl, hA.part ⟨rfl, trivial⟩, ((hS).sel [] rfl).selR [0] rfl⟩
  ·skip
   clear hA hS hl1
   rintro a w ⟨heq, hA, hS⟩
   replace hF : impl_LimboOk_j1 l = some r := by rw [heq] at hF; exact hF
   clear heq
   unfold impl_LimboOk_j1 at hF
   refine cw_seq <| cw_ops hA ?_
   clear hA
   refine om rfl rfl ?_
   obtain ⟨x5, hx5, hF⟩ := bindE hF
   refine ops_c (rc_call Tryz.call121 rfl rfl) (want_yes rfl) rfl rfl (c_impl_LimboSize (l := l) (hS.rd 0 rfl) hx5) ?_
   rintro _ w ⟨rfl, hk⟩
   replace hS := hS.after hk; clear hk
   refine oy (rv_leq rfl rfl rfl) rfl <| oa rfl rfl <| ops_nil fun a hA => cw_ret ?_
   cases hF
   exact fy Tryz.results72 hA rfl hS
end Go.Proofs.YtkcicilgoehljabGreat
end
