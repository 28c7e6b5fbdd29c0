import Derived.Test.YtpndngnohcffnaaGreatXTypes
set_option linter.unusedVariables false
namespace Go.Gv
noncomputable def laws_szIntS (a_ : List Int) (left : Int) : Option Int :=
  (if decide ((w64 (left - ((a_.length : Int)))) < 0) then some ((-1)) else some (w64 (left - ((a_.length : Int)))))

noncomputable def laws_szHeap (a_ : Heap) (left : Int) : Option Int :=
  (laws_szIntS a_.Bytes left).bind fun x1 => (if decide (x1 < 0) then some ((-1)) else (laws_szIntS a_.Class x1).bind fun x2 => (if decide (x2 < 0) then some ((-1)) else some x2))

noncomputable def laws_szSList (a_ : SList) (left : Int) : Option Int :=
  (laws_szIntS a_.Slots left).bind fun x1 => (if decide (x1 < 0) then some ((-1)) else some x1)

noncomputable def laws_szSListS_j1 (x5 : Int) : Option Int :=
  some x5

noncomputable def laws_szSListS_l1 (a_ : List SList) : (Int × Int) → Option (Step (Int × Int) (Out Int Int))
  | (x3, x4) => (if decide (x4 < ((a_.length : Int))) then (idx a_ x4).bind fun x6 => (laws_szSList x6 x3).bind fun x7 => (if decide (x7 < 0) then some (.stop (Out.ret ((-1)))) else some (.next ((x7, w64 (x4 + 1))))) else some (.stop (Out.brk x3)))

noncomputable def laws_szSListS_m1  : (Out Int Int) → Option Int
  | .brk x5 => laws_szSListS_j1 x5
  | .ret r => some r

noncomputable def laws_szSListS (a_ : List SList) (left : Int) : Option Int :=
  (if decide ((w64 (left - ((a_.length : Int)))) < 0) then some ((-1)) else (loop (laws_szSListS_l1 a_) ((w64 (left - ((a_.length : Int))), 0))).bind (laws_szSListS_m1))

noncomputable def laws_szLists (a_ : Lists) (left : Int) : Option Int :=
  (laws_szSListS a_.Global left).bind fun x1 => (if decide (x1 < 0) then some ((-1)) else (laws_szSListS a_.Own x1).bind fun x2 => (if decide (x2 < 0) then some ((-1)) else some x2))

noncomputable def laws_szMem (a_ : Mem) (left : Int) : Option Int :=
  (laws_szHeap a_.Heap left).bind fun x1 => (if decide (x1 < 0) then some ((-1)) else (laws_szLists a_.Lists x1).bind fun x2 => (if decide (x2 < 0) then some ((-1)) else some x2))

noncomputable def laws_szPinS (a_ : List Pin) (left : Int) : Option Int :=
  (if decide ((w64 (left - ((a_.length : Int)))) < 0) then some ((-1)) else some (w64 (left - ((a_.length : Int)))))

noncomputable def laws_szClock (a_ : Clock) (left : Int) : Option Int :=
  (laws_szPinS a_.Pins left).bind fun x1 => (if decide (x1 < 0) then some ((-1)) else some x1)

noncomputable def laws_szLRowS (a_ : List LRow) (left : Int) : Option Int :=
  (if decide ((w64 (left - ((a_.length : Int)))) < 0) then some ((-1)) else some (w64 (left - ((a_.length : Int)))))

noncomputable def laws_szLList (a_ : LList) (left : Int) : Option Int :=
  (laws_szLRowS a_.Rows left).bind fun x1 => (if decide (x1 < 0) then some ((-1)) else some x1)

noncomputable def laws_szLListS_j1 (x5 : Int) : Option Int :=
  some x5

noncomputable def laws_szLListS_l1 (a_ : List LList) : (Int × Int) → Option (Step (Int × Int) (Out Int Int))
  | (x3, x4) => (if decide (x4 < ((a_.length : Int))) then (idx a_ x4).bind fun x6 => (laws_szLList x6 x3).bind fun x7 => (if decide (x7 < 0) then some (.stop (Out.ret ((-1)))) else some (.next ((x7, w64 (x4 + 1))))) else some (.stop (Out.brk x3)))

noncomputable def laws_szLListS_m1  : (Out Int Int) → Option Int
  | .brk x5 => laws_szLListS_j1 x5
  | .ret r => some r

noncomputable def laws_szLListS (a_ : List LList) (left : Int) : Option Int :=
  (if decide ((w64 (left - ((a_.length : Int)))) < 0) then some ((-1)) else (loop (laws_szLListS_l1 a_) ((w64 (left - ((a_.length : Int))), 0))).bind (laws_szLListS_m1))

noncomputable def laws_szBase (a_ : Base) (left : Int) : Option Int :=
  (laws_szMem a_.Mem left).bind fun x1 => (if decide (x1 < 0) then some ((-1)) else (laws_szClock a_.Clock x1).bind fun x2 => (if decide (x2 < 0) then some ((-1)) else (laws_szLListS a_.Limbo x2).bind fun x3 => (if decide (x3 < 0) then some ((-1)) else (laws_szIntS a_.Haz x3).bind fun x4 => (if decide (x4 < 0) then some ((-1)) else some x4))))

noncomputable def laws_toIntS_j1 (x5 : List Int) : Option ((List Int)) :=
  some x5

noncomputable def laws_toIntS_l1 (a_ : List Int) : ((List Int) × Int) → Option (Step ((List Int) × Int) ((List Int)))
  | (x3, x4) => (if decide (x4 < ((a_.length : Int))) then (idx a_ x4).bind fun x6 => (idx x3 x4).bind fun x7 => some (.next ((x3.set (x4.toNat) x6, w64 (x4 + 1)))) else some (.stop (x3)))

noncomputable def laws_toIntS_m1  : ((List Int)) → Option ((List Int))
  | x5 => laws_toIntS_j1 x5

noncomputable def laws_toIntS (a_ : List Int) : Option ((List Int)) :=
  need (0 ≤ ((a_.length : Int)) ∧ ((a_.length : Int)) ≤ 4294967296) ((loop (laws_toIntS_l1 a_) ((List.replicate (((a_.length : Int)).toNat) 0, 0))).bind (laws_toIntS_m1))

noncomputable def laws_toHeap (a_ : Heap) : Option Heap :=
  (laws_toIntS a_.Bytes).bind fun x1 => (laws_toIntS a_.Class).bind fun x2 => some ((⟨x1, x2⟩ : Heap))

noncomputable def laws_toSList (a_ : SList) : Option SList :=
  (laws_toIntS a_.Slots).bind fun x1 => some ((⟨x1⟩ : SList))

noncomputable def laws_toSListS_j1 (x5 : List SList) : Option ((List SList)) :=
  some x5

noncomputable def laws_toSListS_l1 (a_ : List SList) : ((List SList) × Int) → Option (Step ((List SList) × Int) ((List SList)))
  | (x3, x4) => (if decide (x4 < ((a_.length : Int))) then (idx a_ x4).bind fun x6 => (laws_toSList x6).bind fun x7 => (idx x3 x4).bind fun x8 => some (.next ((x3.set x4.toNat x7, w64 (x4 + 1)))) else some (.stop (x3)))

noncomputable def laws_toSListS_m1  : ((List SList)) → Option ((List SList))
  | x5 => laws_toSListS_j1 x5

noncomputable def laws_toSListS (a_ : List SList) : Option ((List SList)) :=
  need (0 ≤ ((a_.length : Int)) ∧ ((a_.length : Int)) ≤ 4294967296) ((loop (laws_toSListS_l1 a_) ((List.replicate (((a_.length : Int)).toNat) ((⟨[]⟩ : SList)), 0))).bind (laws_toSListS_m1))

noncomputable def laws_toLists (a_ : Lists) : Option Lists :=
  (laws_toSListS a_.Global).bind fun x1 => (laws_toSListS a_.Own).bind fun x2 => some ((⟨x1, x2⟩ : Lists))

noncomputable def laws_toMem (a_ : Mem) : Option Mem :=
  (laws_toHeap a_.Heap).bind fun x1 => (laws_toLists a_.Lists).bind fun x2 => some ((⟨x1, x2⟩ : Mem))

noncomputable def laws_toPin (a_ : Pin) : Option Pin :=
  some a_

noncomputable def laws_toPinS_j1 (x5 : List Pin) : Option ((List Pin)) :=
  some x5

noncomputable def laws_toPinS_l1 (a_ : List Pin) : ((List Pin) × Int) → Option (Step ((List Pin) × Int) ((List Pin)))
  | (x3, x4) => (if decide (x4 < ((a_.length : Int))) then (idx a_ x4).bind fun x6 => (laws_toPin x6).bind fun x7 => (idx x3 x4).bind fun x8 => some (.next ((x3.set (x4.toNat) x7, w64 (x4 + 1)))) else some (.stop (x3)))

noncomputable def laws_toPinS_m1  : ((List Pin)) → Option ((List Pin))
  | x5 => laws_toPinS_j1 x5

noncomputable def laws_toPinS (a_ : List Pin) : Option ((List Pin)) :=
  need (0 ≤ ((a_.length : Int)) ∧ ((a_.length : Int)) ≤ 4294967296) ((loop (laws_toPinS_l1 a_) ((List.replicate (((a_.length : Int)).toNat) ((⟨false, 0, false, 0⟩ : Pin)), 0))).bind (laws_toPinS_m1))

noncomputable def laws_toClock (a_ : Clock) : Option Clock :=
  (laws_toPinS a_.Pins).bind fun x1 => some ((⟨a_.Epoch, x1⟩ : Clock))

noncomputable def laws_toLRow (a_ : LRow) : Option LRow :=
  some a_

noncomputable def laws_toLRowS_j1 (x5 : List LRow) : Option ((List LRow)) :=
  some x5

noncomputable def laws_toLRowS_l1 (a_ : List LRow) : ((List LRow) × Int) → Option (Step ((List LRow) × Int) ((List LRow)))
  | (x3, x4) => (if decide (x4 < ((a_.length : Int))) then (idx a_ x4).bind fun x6 => (laws_toLRow x6).bind fun x7 => (idx x3 x4).bind fun x8 => some (.next ((x3.set (x4.toNat) x7, w64 (x4 + 1)))) else some (.stop (x3)))

noncomputable def laws_toLRowS_m1  : ((List LRow)) → Option ((List LRow))
  | x5 => laws_toLRowS_j1 x5

noncomputable def laws_toLRowS (a_ : List LRow) : Option ((List LRow)) :=
  need (0 ≤ ((a_.length : Int)) ∧ ((a_.length : Int)) ≤ 4294967296) ((loop (laws_toLRowS_l1 a_) ((List.replicate (((a_.length : Int)).toNat) ((⟨0, 0⟩ : LRow)), 0))).bind (laws_toLRowS_m1))

noncomputable def laws_toLList (a_ : LList) : Option LList :=
  (laws_toLRowS a_.Rows).bind fun x1 => some ((⟨x1⟩ : LList))

noncomputable def laws_toLListS_j1 (x5 : List LList) : Option ((List LList)) :=
  some x5

noncomputable def laws_toLListS_l1 (a_ : List LList) : ((List LList) × Int) → Option (Step ((List LList) × Int) ((List LList)))
  | (x3, x4) => (if decide (x4 < ((a_.length : Int))) then (idx a_ x4).bind fun x6 => (laws_toLList x6).bind fun x7 => (idx x3 x4).bind fun x8 => some (.next ((x3.set x4.toNat x7, w64 (x4 + 1)))) else some (.stop (x3)))

noncomputable def laws_toLListS_m1  : ((List LList)) → Option ((List LList))
  | x5 => laws_toLListS_j1 x5

noncomputable def laws_toLListS (a_ : List LList) : Option ((List LList)) :=
  need (0 ≤ ((a_.length : Int)) ∧ ((a_.length : Int)) ≤ 4294967296) ((loop (laws_toLListS_l1 a_) ((List.replicate (((a_.length : Int)).toNat) ((⟨[]⟩ : LList)), 0))).bind (laws_toLListS_m1))

noncomputable def laws_toBase (a_ : Base) : Option Base :=
  (laws_toMem a_.Mem).bind fun x1 => (laws_toClock a_.Clock).bind fun x2 => (laws_toLListS a_.Limbo).bind fun x3 => (laws_toIntS a_.Haz).bind fun x4 => some ((⟨x1, x2, x3, x4⟩ : Base))

noncomputable def spec_l1In_j1 (x1 : Bool) : Option Bool :=
  some x1

noncomputable def spec_l1In (x : Int) (low : Int) (high : Int) : Option Bool :=
  (if decide (low ≤ x) then spec_l1In_j1 (decide (x ≤ high)) else spec_l1In_j1 false)

noncomputable def spec_BytesOk_j1 (b : List Int) : Option Bool :=
  some (decide (((b.length : Int)) ≤ 1000))

noncomputable def spec_BytesOk_l1 (b : List Int) : Int → Option (Step Int (Out Unit Bool))
  | x2 => (if decide (x2 < ((b.length : Int))) then (idx b x2).bind fun x3 => (spec_l1In x3 0 255).bind fun x4 => (if !x4 then some (.stop (Out.ret false)) else some (.next (w64 (x2 + 1)))) else some (.stop (Out.brk (()))))

noncomputable def spec_BytesOk_m1 (b : List Int) : (Out Unit Bool) → Option Bool
  | .brk (()) => spec_BytesOk_j1 b
  | .ret r => some r

noncomputable def spec_BytesOk (b : List Int) : Option Bool :=
  (loop (spec_BytesOk_l1 b) 0).bind (spec_BytesOk_m1 b)

noncomputable def spec_l7Shape_j2  : Option Bool :=
  some true

noncomputable def spec_l7Shape_l2 (h : Heap) : Int → Option (Step Int (Out Unit Bool))
  | x3 => (if decide (x3 < 6) then (idx h.Class x3).bind fun x4 => (spec_l1In x4 ((-1)) 2).bind fun x5 => (if !x5 then some (.stop (Out.ret false)) else some (.next (w64 (x3 + 1)))) else some (.stop (Out.brk (()))))

noncomputable def spec_l7Shape_m2  : (Out Unit Bool) → Option Bool
  | .brk (()) => spec_l7Shape_j2
  | .ret r => some r

noncomputable def spec_l7Shape_j1 (h : Heap) (x1 : Bool) : Option Bool :=
  (if x1 then some false else (loop (spec_l7Shape_l2 h) 0).bind (spec_l7Shape_m2))

noncomputable def spec_l7Shape (h : Heap) : Option Bool :=
  (if ((h.Bytes.length : Int)) != 384 then spec_l7Shape_j1 h true else (if ((h.Class.length : Int)) != 6 then spec_l7Shape_j1 h true else (spec_BytesOk h.Bytes).bind fun x6 => spec_l7Shape_j1 h (!x6)))

noncomputable def spec_SizeOf (c : Int) : Option Int :=
  (if c == 0 then some 8 else (if c == 1 then some 16 else (if c == 2 then some 40 else some 0)))

noncomputable def spec_StrideOf (c : Int) : Option Int :=
  (spec_l1In c 0 2).bind fun x1 => (if !x1 then some 0 else (spec_SizeOf c).bind fun x2 => some (w64 (4 + x2)))

noncomputable def spec_PerPage (c : Int) : Option Int :=
  (spec_l1In c 0 2).bind fun x1 => (if !x1 then some 0 else (spec_StrideOf c).bind fun x2 => need (x2 ≠ 0) (some (w64 (Int.tdiv 56 x2))))

noncomputable def spec_SlotAt_j1 (page : Int) (index : Int) (x1 : Bool) : Option Int :=
  (if x1 then some ((-1)) else some (w64 ((w64 (page * 4)) + index)))

noncomputable def spec_SlotAt (page : Int) (index : Int) : Option Int :=
  (spec_l1In page 0 5).bind fun x2 => (if !x2 then spec_SlotAt_j1 page index true else (spec_l1In index 0 3).bind fun x3 => spec_SlotAt_j1 page index (!x3))

noncomputable def spec_PageOf (slot : Int) : Option Int :=
  (spec_l1In slot 0 23).bind fun x1 => (if !x1 then some ((-1)) else some (w64 (Int.tdiv slot 4)))

noncomputable def spec_IndexOf (slot : Int) : Option Int :=
  (spec_l1In slot 0 23).bind fun x1 => (if !x1 then some ((-1)) else some (Int.tmod slot 4))

noncomputable def spec_GenAt_j1 (slot : Int) (c : Int) (x1 : Bool) : Option Int :=
  (if x1 then some ((-1)) else (spec_PageOf slot).bind fun x2 => (spec_IndexOf slot).bind fun x3 => (spec_StrideOf c).bind fun x4 => some (w64 ((w64 ((w64 (x2 * 64)) + 8)) + (w64 (x3 * x4)))))

noncomputable def spec_GenAt (slot : Int) (c : Int) : Option Int :=
  (spec_PageOf slot).bind fun x5 => (if decide (x5 < 0) then spec_GenAt_j1 slot c true else (spec_IndexOf slot).bind fun x6 => (spec_PerPage c).bind fun x7 => (spec_l1In x6 0 (w64 (x7 - 1))).bind fun x8 => spec_GenAt_j1 slot c (!x8))

noncomputable def spec_l3Load_j1 (x5 : Int) : Option Int :=
  some x5

noncomputable def spec_l3Load_l1 (b : List Int) (at_ : Int) (width : Int) : (Int × Int) → Option (Step (Int × Int) Int)
  | (x3, x4) => (if decide (x4 < width) then (idx b (w64 (at_ + x4))).bind fun x6 => some (.next ((w64 ((w64 (x3 * 256)) + x6), w64 (x4 + 1)))) else some (.stop (x3)))

noncomputable def spec_l3Load_m1  : Int → Option Int
  | x5 => spec_l3Load_j1 x5

noncomputable def spec_l3Load (b : List Int) (at_ : Int) (width : Int) : Option Int :=
  (loop (spec_l3Load_l1 b at_ width) ((0, 0))).bind (spec_l3Load_m1)

noncomputable def spec_l7Page_j1  : Option Bool :=
  some true

noncomputable def spec_l7Page_l1 (h : Heap) (p : Int) : Int → Option (Step Int (Out Unit Bool))
  | x3 => (if decide (x3 < (w64 ((w64 (p * 64)) + 64))) then (idx h.Bytes x3).bind fun x4 => (if x4 != 0 then some (.stop (Out.ret false)) else some (.next (w64 (x3 + 1)))) else some (.stop (Out.brk (()))))

noncomputable def spec_l7Page_m1  : (Out Unit Bool) → Option Bool
  | .brk (()) => spec_l7Page_j1
  | .ret r => some r

noncomputable def spec_l7Page_j4  : Option Bool :=
  some true

noncomputable def spec_l7Page_l4 (h : Heap) (p : Int) (x1 : Int) : Int → Option (Step Int (Out Unit Bool))
  | x9 => (spec_PerPage x1).bind fun x10 => (if decide (x9 < x10) then (spec_SlotAt p x9).bind fun x11 => (spec_GenAt x11 x1).bind fun x12 => (spec_l3Load h.Bytes x12 4).bind fun x13 => (spec_l1In x13 1 7).bind fun x14 => (if !x14 then some (.stop (Out.ret false)) else some (.next (w64 (x9 + 1)))) else some (.stop (Out.brk (()))))

noncomputable def spec_l7Page_m4  : (Out Unit Bool) → Option Bool
  | .brk (()) => spec_l7Page_j4
  | .ret r => some r

noncomputable def spec_l7Page_j3 (h : Heap) (p : Int) (x1 : Int) : Option Bool :=
  (loop (spec_l7Page_l4 h p x1) 0).bind (spec_l7Page_m4)

noncomputable def spec_l7Page_l3 (h : Heap) (p : Int) : Int → Option (Step Int (Out Unit Bool))
  | x7 => (if decide (x7 < (w64 ((w64 (p * 64)) + 8))) then (idx h.Bytes x7).bind fun x15 => (if x15 != 0 then some (.stop (Out.ret false)) else some (.next (w64 (x7 + 1)))) else some (.stop (Out.brk (()))))

noncomputable def spec_l7Page_m3 (h : Heap) (p : Int) (x1 : Int) : (Out Unit Bool) → Option Bool
  | .brk (()) => spec_l7Page_j3 h p x1
  | .ret r => some r

noncomputable def spec_l7Page_j2 (h : Heap) (p : Int) (x1 : Int) (x5 : Bool) : Option Bool :=
  (if x5 then some false else (loop (spec_l7Page_l3 h p) (w64 ((w64 (p * 64)) + 3))).bind (spec_l7Page_m3 h p x1))

noncomputable def spec_l7Page (h : Heap) (p : Int) : Option Bool :=
  (idx h.Class p).bind fun x1 => (if decide (x1 < 0) then (loop (spec_l7Page_l1 h p) (w64 (p * 64))).bind (spec_l7Page_m1) else (idx h.Bytes (w64 (p * 64))).bind fun x16 => (if x16 != 171 then spec_l7Page_j2 h p x1 true else (idx h.Bytes (w64 ((w64 (p * 64)) + 1))).bind fun x17 => (if x17 != x1 then spec_l7Page_j2 h p x1 true else (idx h.Bytes (w64 ((w64 (p * 64)) + 2))).bind fun x18 => (spec_PerPage x1).bind fun x19 => spec_l7Page_j2 h p x1 (x18 != x19))))

noncomputable def spec_HeapOk_j1  : Option Bool :=
  some true

noncomputable def spec_HeapOk_l1 (h : Heap) : Int → Option (Step Int (Out Unit Bool))
  | x3 => (if decide (x3 < 6) then (spec_l7Page h x3).bind fun x4 => (if !x4 then some (.stop (Out.ret false)) else some (.next (w64 (x3 + 1)))) else some (.stop (Out.brk (()))))

noncomputable def spec_HeapOk_m1  : (Out Unit Bool) → Option Bool
  | .brk (()) => spec_HeapOk_j1
  | .ret r => some r

noncomputable def spec_HeapOk (h : Heap) : Option Bool :=
  (spec_l7Shape h).bind fun x1 => (if !x1 then some false else (loop (spec_HeapOk_l1 h) 0).bind (spec_HeapOk_m1))

noncomputable def spec_l8All_j2 (x10 : List Int) : Option ((List Int)) :=
  some x10

noncomputable def spec_l8All_l2 (l : Lists) : ((List Int) × Int) → Option (Step ((List Int) × Int) ((List Int)))
  | (x8, x9) => (if decide (x9 < ((l.Own.length : Int))) then (idx l.Own x9).bind fun x11 => need (x8.length + x11.Slots.length ≤ 1073741824) (some (.next ((x8 ++ x11.Slots, w64 (x9 + 1))))) else some (.stop (x8)))

noncomputable def spec_l8All_m2  : ((List Int)) → Option ((List Int))
  | x10 => spec_l8All_j2 x10

noncomputable def spec_l8All_j1 (l : Lists) (x5 : List Int) : Option ((List Int)) :=
  (loop (spec_l8All_l2 l) ((x5, 0))).bind (spec_l8All_m2)

noncomputable def spec_l8All_l1 (l : Lists) : ((List Int) × Int) → Option (Step ((List Int) × Int) ((List Int)))
  | (x3, x4) => (if decide (x4 < ((l.Global.length : Int))) then (idx l.Global x4).bind fun x12 => need (x3.length + x12.Slots.length ≤ 1073741824) (some (.next ((x3 ++ x12.Slots, w64 (x4 + 1))))) else some (.stop (x3)))

noncomputable def spec_l8All_m1 (l : Lists) : ((List Int)) → Option ((List Int))
  | x5 => spec_l8All_j1 l x5

noncomputable def spec_l8All (l : Lists) : Option ((List Int)) :=
  (loop (spec_l8All_l1 l) (([], 0))).bind (spec_l8All_m1 l)

noncomputable def spec_l8Has_j1  : Option Bool :=
  some false

noncomputable def spec_l8Has_l1 (l : List Int) (x : Int) : Int → Option (Step Int (Out Unit Bool))
  | x2 => (if decide (x2 < ((l.length : Int))) then (idx l x2).bind fun x3 => (if x3 == x then some (.stop (Out.ret true)) else some (.next (w64 (x2 + 1)))) else some (.stop (Out.brk (()))))

noncomputable def spec_l8Has_m1  : (Out Unit Bool) → Option Bool
  | .brk (()) => spec_l8Has_j1
  | .ret r => some r

noncomputable def spec_l8Has (l : List Int) (x : Int) : Option Bool :=
  (loop (spec_l8Has_l1 l x) 0).bind (spec_l8Has_m1)

noncomputable def spec_ListsOk_j3  : Option Bool :=
  some true

noncomputable def spec_ListsOk_j4 (x6 : Int) (x7 : Bool) : Option (Step Int (Out Unit Bool)) :=
  (if x7 then some (.stop (Out.ret false)) else some (.next (w64 (x6 + 1))))

noncomputable def spec_ListsOk_l3 (x4 : (List Int)) : Int → Option (Step Int (Out Unit Bool))
  | x6 => (if decide (x6 < ((x4.length : Int))) then (idx x4 x6).bind fun x8 => (spec_l1In x8 0 23).bind fun x9 => (if !x9 then spec_ListsOk_j4 x6 true else need (0 ≤ (x6 : Int) ∧ (x6 : Int) ≤ (x4.length : Int)) ((idx x4 x6).bind fun x10 => (spec_l8Has ((x4.take x6.toNat).drop 0) x10).bind fun x11 => spec_ListsOk_j4 x6 x11)) else some (.stop (Out.brk (()))))

noncomputable def spec_ListsOk_m3  : (Out Unit Bool) → Option Bool
  | .brk (()) => spec_ListsOk_j3
  | .ret r => some r

noncomputable def spec_ListsOk_j2 (l : Lists) : Option Bool :=
  (spec_l8All l).bind fun x4 => (loop (spec_ListsOk_l3 x4) 0).bind (spec_ListsOk_m3)

noncomputable def spec_ListsOk_l2 (l : Lists) : Int → Option (Step Int (Out Unit Bool))
  | x3 => (if decide (x3 < ((l.Own.length : Int))) then (idx l.Own x3).bind fun x12 => (if decide (2 < ((x12.Slots.length : Int))) then some (.stop (Out.ret false)) else some (.next (w64 (x3 + 1)))) else some (.stop (Out.brk (()))))

noncomputable def spec_ListsOk_m2 (l : Lists) : (Out Unit Bool) → Option Bool
  | .brk (()) => spec_ListsOk_j2 l
  | .ret r => some r

noncomputable def spec_ListsOk_j1 (l : Lists) (x1 : Bool) : Option Bool :=
  (if x1 then some false else (loop (spec_ListsOk_l2 l) 0).bind (spec_ListsOk_m2 l))

noncomputable def spec_ListsOk (l : Lists) : Option Bool :=
  (if ((l.Global.length : Int)) != 3 then spec_ListsOk_j1 l true else spec_ListsOk_j1 l (((l.Own.length : Int)) != 9))

noncomputable def spec_l7Class_j1 (h : Heap) (x1 : Int) (x2 : Bool) : Option Int :=
  (if x2 then some ((-1)) else (idx h.Class x1).bind fun x3 => some x3)

noncomputable def spec_l7Class (h : Heap) (slot : Int) : Option Int :=
  (spec_PageOf slot).bind fun x1 => (if decide (x1 < 0) then spec_l7Class_j1 h x1 true else (idx h.Class x1).bind fun x4 => (if decide (x4 < 0) then spec_l7Class_j1 h x1 true else (idx h.Class x1).bind fun x5 => (spec_IndexOf slot).bind fun x6 => (spec_PerPage x5).bind fun x7 => spec_l7Class_j1 h x1 (decide (x7 ≤ x6))))

noncomputable def spec_l7Gen (h : Heap) (slot : Int) : Option Int :=
  (spec_l7Class h slot).bind fun x1 => (spec_GenAt slot x1).bind fun x2 => (spec_l3Load h.Bytes x2 4).bind fun x3 => some x3

noncomputable def spec_l9Listed_j1  : Option Bool :=
  some true

noncomputable def spec_l9Listed_j2 (x2 : Int) (x3 : Bool) : Option (Step Int (Out Unit Bool)) :=
  (if x3 then some (.stop (Out.ret false)) else some (.next (w64 (x2 + 1))))

noncomputable def spec_l9Listed_l1 (h : Heap) (l : List Int) (c : Int) : Int → Option (Step Int (Out Unit Bool))
  | x2 => (if decide (x2 < ((l.length : Int))) then (idx l x2).bind fun x4 => (spec_l7Class h x4).bind fun x5 => (if x5 != c then spec_l9Listed_j2 x2 true else (idx l x2).bind fun x6 => (spec_l7Gen h x6).bind fun x7 => spec_l9Listed_j2 x2 (decide (6 < x7))) else some (.stop (Out.brk (()))))

noncomputable def spec_l9Listed_m1  : (Out Unit Bool) → Option Bool
  | .brk (()) => spec_l9Listed_j1
  | .ret r => some r

noncomputable def spec_l9Listed (h : Heap) (l : List Int) (c : Int) : Option Bool :=
  (loop (spec_l9Listed_l1 h l c) 0).bind (spec_l9Listed_m1)

noncomputable def spec_OwnAt_j1 (w_ : Int) (c : Int) (x1 : Bool) : Option Int :=
  (if x1 then some ((-1)) else some (w64 ((w64 (w_ * 3)) + c)))

noncomputable def spec_OwnAt (w_ : Int) (c : Int) : Option Int :=
  (spec_l1In w_ 0 2).bind fun x2 => (if !x2 then spec_OwnAt_j1 w_ c true else (spec_l1In c 0 2).bind fun x3 => spec_OwnAt_j1 w_ c (!x3))

noncomputable def spec_MemOk_j2  : Option Bool :=
  some true

noncomputable def spec_MemOk_j3 (x3 : Int) : Option (Step Int (Out Unit Bool)) :=
  some (.next (w64 (x3 + 1)))

noncomputable def spec_MemOk_l3 (m : Mem) (x3 : Int) : Int → Option (Step Int (Out Unit Bool))
  | x7 => (if decide (x7 < 3) then (spec_OwnAt x7 x3).bind fun x8 => (idx m.Lists.Own x8).bind fun x9 => (spec_l9Listed m.Heap x9.Slots x3).bind fun x10 => (if !x10 then some (.stop (Out.ret false)) else some (.next (w64 (x7 + 1)))) else some (.stop (Out.brk (()))))

noncomputable def spec_MemOk_m3 (x3 : Int) : (Out Unit Bool) → Option (Step Int (Out Unit Bool))
  | .brk (()) => spec_MemOk_j3 x3
  | .ret r => some (.stop (Out.ret r))

noncomputable def spec_MemOk_l2 (m : Mem) : Int → Option (Step Int (Out Unit Bool))
  | x3 => (if decide (x3 < 3) then (idx m.Lists.Global x3).bind fun x4 => (spec_l9Listed m.Heap x4.Slots x3).bind fun x5 => (if !x5 then some (.stop (Out.ret false)) else (loop (spec_MemOk_l3 m x3) 0).bind (spec_MemOk_m3 x3)) else some (.stop (Out.brk (()))))

noncomputable def spec_MemOk_m2  : (Out Unit Bool) → Option Bool
  | .brk (()) => spec_MemOk_j2
  | .ret r => some r

noncomputable def spec_MemOk_j1 (m : Mem) (x1 : Bool) : Option Bool :=
  (if x1 then some false else (loop (spec_MemOk_l2 m) 0).bind (spec_MemOk_m2))

noncomputable def spec_MemOk (m : Mem) : Option Bool :=
  (spec_HeapOk m.Heap).bind fun x11 => (if !x11 then spec_MemOk_j1 m true else (spec_ListsOk m.Lists).bind fun x12 => spec_MemOk_j1 m (!x12))

noncomputable def spec_ClockOk_j2  : Option Bool :=
  some true

noncomputable def spec_ClockOk_j3 (x3 : Int) (x5 : Bool) : Option (Step Int (Out Unit Bool)) :=
  (if x5 then some (.stop (Out.ret false)) else some (.next (w64 (x3 + 1))))

noncomputable def spec_ClockOk_l2 (c : Clock) : Int → Option (Step Int (Out Unit Bool))
  | x3 => (if decide (x3 < 3) then (idx c.Pins x3).bind fun x4 => (if !x4.On then (if !(decide (x4 = (⟨false, 0, false, 0⟩ : Pin))) then spec_ClockOk_j3 x3 true else (spec_l1In x4.Epoch 0 c.Epoch).bind fun x6 => (if !x6 then spec_ClockOk_j3 x3 true else (spec_l1In x4.Seen 0 2).bind fun x7 => spec_ClockOk_j3 x3 (!x7))) else (spec_l1In x4.Epoch 0 c.Epoch).bind fun x8 => (if !x8 then spec_ClockOk_j3 x3 true else (spec_l1In x4.Seen 0 2).bind fun x9 => spec_ClockOk_j3 x3 (!x9))) else some (.stop (Out.brk (()))))

noncomputable def spec_ClockOk_m2  : (Out Unit Bool) → Option Bool
  | .brk (()) => spec_ClockOk_j2
  | .ret r => some r

noncomputable def spec_ClockOk_j1 (c : Clock) (x1 : Bool) : Option Bool :=
  (if x1 then some false else (loop (spec_ClockOk_l2 c) 0).bind (spec_ClockOk_m2))

noncomputable def spec_ClockOk (c : Clock) : Option Bool :=
  (spec_l1In c.Epoch 0 100000).bind fun x10 => (if !x10 then spec_ClockOk_j1 c true else spec_ClockOk_j1 c (((c.Pins.length : Int)) != 3))

noncomputable def spec_l11All_j1 (x5 : List LRow) : Option ((List LRow)) :=
  some x5

noncomputable def spec_l11All_l1 (l : List LList) : ((List LRow) × Int) → Option (Step ((List LRow) × Int) ((List LRow)))
  | (x3, x4) => (if decide (x4 < ((l.length : Int))) then (idx l x4).bind fun x6 => need (x3.length + x6.Rows.length ≤ 1073741824) (some (.next ((x3 ++ x6.Rows, w64 (x4 + 1))))) else some (.stop (x3)))

noncomputable def spec_l11All_m1  : ((List LRow)) → Option ((List LRow))
  | x5 => spec_l11All_j1 x5

noncomputable def spec_l11All (l : List LList) : Option ((List LRow)) :=
  (loop (spec_l11All_l1 l) (([], 0))).bind (spec_l11All_m1)

noncomputable def spec_HandleOk_j1 (x1 : Bool) : Option Bool :=
  some x1

noncomputable def spec_HandleOk (h : Int) : Option Bool :=
  (spec_l1In h 32 223).bind fun x2 => (if x2 then spec_HandleOk_j1 (decide ((Int.tmod h 32) < 24)) else spec_HandleOk_j1 false)

noncomputable def spec_HandleSlot (h : Int) : Option Int :=
  (spec_HandleOk h).bind fun x1 => (if !x1 then some ((-1)) else some (Int.tmod h 32))

noncomputable def spec_LimboOk_j2  : Option Bool :=
  some true

noncomputable def spec_LimboOk_j3 (x5 : List Int) (x6 : Int) (x8 : Int) (x9 : Bool) : Option (Step ((List Int) × Int) (Out Unit Bool)) :=
  (if x9 then some (.stop (Out.ret false)) else need (x5.length + ([x8]).length ≤ 1073741824) (some (.next ((x5 ++ ([x8]), w64 (x6 + 1))))))

noncomputable def spec_LimboOk_l2 (x1 : (List LRow)) : ((List Int) × Int) → Option (Step ((List Int) × Int) (Out Unit Bool))
  | (x5, x6) => (if decide (x6 < ((x1.length : Int))) then (idx x1 x6).bind fun x7 => (spec_HandleSlot x7.Handle).bind fun x8 => (if decide (x8 < 0) then spec_LimboOk_j3 x5 x6 x8 true else (idx x1 x6).bind fun x10 => (spec_l1In x10.Epoch 0 100000).bind fun x11 => (if !x11 then spec_LimboOk_j3 x5 x6 x8 true else (spec_l8Has x5 x8).bind fun x12 => spec_LimboOk_j3 x5 x6 x8 x12)) else some (.stop (Out.brk (()))))

noncomputable def spec_LimboOk_m2  : (Out Unit Bool) → Option Bool
  | .brk (()) => spec_LimboOk_j2
  | .ret r => some r

noncomputable def spec_LimboOk_j1 (x1 : (List LRow)) (x2 : Bool) : Option Bool :=
  (if x2 then some false else (loop (spec_LimboOk_l2 x1) (([], 0))).bind (spec_LimboOk_m2))

noncomputable def spec_LimboOk (l : List LList) : Option Bool :=
  (spec_l11All l).bind fun x1 => (if ((l.length : Int)) != 3 then spec_LimboOk_j1 x1 true else spec_LimboOk_j1 x1 (decide (24 < ((x1.length : Int)))))

noncomputable def spec_HazOk_j1 (z : List Int) : Option Bool :=
  some (((z.length : Int)) == 3)

noncomputable def spec_HazOk_j2 (x2 : Int) (x3 : Bool) : Option (Step Int (Out Unit Bool)) :=
  (if x3 then some (.stop (Out.ret false)) else some (.next (w64 (x2 + 1))))

noncomputable def spec_HazOk_l1 (z : List Int) : Int → Option (Step Int (Out Unit Bool))
  | x2 => (if decide (x2 < ((z.length : Int))) then (idx z x2).bind fun x4 => (if x4 != 0 then (idx z x2).bind fun x5 => (spec_HandleOk x5).bind fun x6 => spec_HazOk_j2 x2 (!x6) else spec_HazOk_j2 x2 false) else some (.stop (Out.brk (()))))

noncomputable def spec_HazOk_m1 (z : List Int) : (Out Unit Bool) → Option Bool
  | .brk (()) => spec_HazOk_j1 z
  | .ret r => some r

noncomputable def spec_HazOk (z : List Int) : Option Bool :=
  (loop (spec_HazOk_l1 z) 0).bind (spec_HazOk_m1 z)

noncomputable def spec_OnList (l : Lists) (slot : Int) : Option Bool :=
  (spec_l8All l).bind fun x1 => (spec_l8Has x1 slot).bind fun x2 => some x2

noncomputable def spec_l9State (m : Mem) (slot : Int) : Option Int :=
  (spec_l7Class m.Heap slot).bind fun x1 => (if decide (x1 < 0) then some 0 else (spec_OnList m.Lists slot).bind fun x2 => (if x2 then some 1 else (spec_l7Gen m.Heap slot).bind fun x3 => (if decide (6 < x3) then some 2 else some 3)))

noncomputable def spec_HandleGen (h : Int) : Option Int :=
  (spec_HandleOk h).bind fun x1 => (if !x1 then some 0 else some (w64 (Int.tdiv h 32)))

noncomputable def spec_l9Valid_j1 (x1 : Bool) : Option Bool :=
  some x1

noncomputable def spec_l9Valid (m : Mem) (h : Int) : Option Bool :=
  (spec_HandleOk h).bind fun x2 => (if x2 then (spec_HandleSlot h).bind fun x3 => (spec_l9State m x3).bind fun x4 => (if x4 == 3 then (spec_HandleSlot h).bind fun x5 => (spec_l7Gen m.Heap x5).bind fun x6 => (spec_HandleGen h).bind fun x7 => spec_l9Valid_j1 (x6 == x7) else spec_l9Valid_j1 false) else spec_l9Valid_j1 false)

noncomputable def spec_BaseOk_j2  : Option Bool :=
  some true

noncomputable def spec_BaseOk_j3 (x4 : Int) (x5 : Bool) : Option (Step Int (Out Unit Bool)) :=
  (if x5 then some (.stop (Out.ret false)) else some (.next (w64 (x4 + 1))))

noncomputable def spec_BaseOk_l2 (b : Base) (x2 : (List LRow)) : Int → Option (Step Int (Out Unit Bool))
  | x4 => (if decide (x4 < ((x2.length : Int))) then (idx x2 x4).bind fun x6 => (spec_l9Valid b.Mem x6.Handle).bind fun x7 => (if !x7 then spec_BaseOk_j3 x4 true else (idx x2 x4).bind fun x8 => spec_BaseOk_j3 x4 (decide (b.Clock.Epoch < x8.Epoch))) else some (.stop (Out.brk (()))))

noncomputable def spec_BaseOk_m2  : (Out Unit Bool) → Option Bool
  | .brk (()) => spec_BaseOk_j2
  | .ret r => some r

noncomputable def spec_BaseOk_j1 (b : Base) (x1 : Bool) : Option Bool :=
  (if x1 then some false else (spec_l11All b.Limbo).bind fun x2 => (loop (spec_BaseOk_l2 b x2) 0).bind (spec_BaseOk_m2))

noncomputable def spec_BaseOk (b : Base) : Option Bool :=
  (spec_MemOk b.Mem).bind fun x9 => (if !x9 then spec_BaseOk_j1 b true else (spec_ClockOk b.Clock).bind fun x10 => (if !x10 then spec_BaseOk_j1 b true else (spec_LimboOk b.Limbo).bind fun x11 => (if !x11 then spec_BaseOk_j1 b true else (spec_HazOk b.Haz).bind fun x12 => spec_BaseOk_j1 b (!x12))))

noncomputable def spec_Var_j1 (x6 : Int) (x7 : List UInt8) : Option ((List UInt8)) :=
  need (x7.length + ([u8 x6]).length ≤ 1073741824) (some (x7 ++ ([u8 x6])))

noncomputable def spec_Var_l1  : (Int × (List UInt8)) → Option (Step (Int × (List UInt8)) (Int × (List UInt8)))
  | (x4, x5) => (if decide (128 ≤ x4) then need (x5.length + ([u8 (w64 (128 + (Int.tmod x4 128)))]).length ≤ 1073741824) (some (.next ((w64 (Int.tdiv x4 128), x5 ++ ([u8 (w64 (128 + (Int.tmod x4 128)))]))))) else some (.stop ((x4, x5))))

noncomputable def spec_Var_m1  : (Int × (List UInt8)) → Option ((List UInt8))
  | (x6, x7) => spec_Var_j1 x6 x7

noncomputable def spec_Var (n : Int) : Option ((List UInt8)) :=
  (spec_l1In n 0 562949953421311).bind fun x1 => (if !x1 then some ([]) else (loop (spec_Var_l1) ((n, []))).bind (spec_Var_m1))

noncomputable def spec_l30Slots_j1 (x5 : List UInt8) : Option ((List UInt8)) :=
  some x5

noncomputable def spec_l30Slots_j2 (x4 : Int) (x12 : List UInt8) : Option (Step ((List UInt8) × Int) ((List UInt8))) :=
  some (.next ((x12, w64 (x4 + 1))))

noncomputable def spec_l30Slots_l2 (l : List SList) (x4 : Int) : ((List UInt8) × Int) → Option (Step ((List UInt8) × Int) ((List UInt8)))
  | (x10, x11) => (idx l x4).bind fun x13 => (if decide (x11 < ((x13.Slots.length : Int))) then (idx l x4).bind fun x14 => (idx x14.Slots x11).bind fun x15 => (spec_Var x15).bind fun x16 => need (x10.length + x16.length ≤ 9223372036854775807) (some (.next ((x10 ++ x16, w64 (x11 + 1))))) else some (.stop (x10)))

noncomputable def spec_l30Slots_m2 (x4 : Int) : ((List UInt8)) → Option (Step ((List UInt8) × Int) ((List UInt8)))
  | x12 => spec_l30Slots_j2 x4 x12

noncomputable def spec_l30Slots_l1 (l : List SList) : ((List UInt8) × Int) → Option (Step ((List UInt8) × Int) ((List UInt8)))
  | (x3, x4) => (if decide (x4 < ((l.length : Int))) then (idx l x4).bind fun x6 => (spec_Var ((x6.Slots.length : Int))).bind fun x7 => need (x3.length + x7.length ≤ 9223372036854775807) ((loop (spec_l30Slots_l2 l x4) ((x3 ++ x7, 0))).bind (spec_l30Slots_m2 x4)) else some (.stop (x3)))

noncomputable def spec_l30Slots_m1  : ((List UInt8)) → Option ((List UInt8))
  | x5 => spec_l30Slots_j1 x5

noncomputable def spec_l30Slots (l : List SList) : Option ((List UInt8)) :=
  (loop (spec_l30Slots_l1 l) (([], 0))).bind (spec_l30Slots_m1)

noncomputable def spec_ShowMem_j2 (m : Mem) (x11 : List UInt8) : Option ((List UInt8)) :=
  (spec_l30Slots m.Lists.Global).bind fun x12 => need (x11.length + x12.length ≤ 9223372036854775807) ((spec_l30Slots m.Lists.Own).bind fun x13 => need ((x11 ++ x12).length + x13.length ≤ 9223372036854775807) (some ((x11 ++ x12) ++ x13)))

noncomputable def spec_ShowMem_l2 (m : Mem) : ((List UInt8) × Int) → Option (Step ((List UInt8) × Int) ((List UInt8)))
  | (x9, x10) => (if decide (x10 < 6) then (idx m.Heap.Class x10).bind fun x14 => need (x9.length + ([u8 (w64 (x14 + 1))]).length ≤ 1073741824) (some (.next ((x9 ++ ([u8 (w64 (x14 + 1))]), w64 (x10 + 1))))) else some (.stop (x9)))

noncomputable def spec_ShowMem_m2 (m : Mem) : ((List UInt8)) → Option ((List UInt8))
  | x11 => spec_ShowMem_j2 m x11

noncomputable def spec_ShowMem_j1 (m : Mem) (x6 : List UInt8) : Option ((List UInt8)) :=
  (loop (spec_ShowMem_l2 m) ((x6, 0))).bind (spec_ShowMem_m2 m)

noncomputable def spec_ShowMem_l1 (m : Mem) : ((List UInt8) × Int) → Option (Step ((List UInt8) × Int) ((List UInt8)))
  | (x4, x5) => (if decide (x5 < ((m.Heap.Bytes.length : Int))) then (idx m.Heap.Bytes x5).bind fun x15 => need (x4.length + ([u8 x15]).length ≤ 1073741824) (some (.next ((x4 ++ ([u8 x15]), w64 (x5 + 1))))) else some (.stop (x4)))

noncomputable def spec_ShowMem_m1 (m : Mem) : ((List UInt8)) → Option ((List UInt8))
  | x6 => spec_ShowMem_j1 m x6

noncomputable def spec_ShowMem (m : Mem) : Option ((List UInt8)) :=
  (spec_MemOk m).bind fun x1 => (if !x1 then some ([]) else (loop (spec_ShowMem_l1 m) (([], 0))).bind (spec_ShowMem_m1 m))

noncomputable def spec_l30Bool (b : Bool) : Option Int :=
  (if b then some 1 else some 0)

noncomputable def spec_ShowBase_j3 (x18 : List UInt8) : Option ((List UInt8)) :=
  some x18

noncomputable def spec_ShowBase_l3 (b : Base) : ((List UInt8) × Int) → Option (Step ((List UInt8) × Int) ((List UInt8)))
  | (x16, x17) => (if decide (x17 < 3) then (idx b.Haz x17).bind fun x19 => (spec_Var x19).bind fun x20 => need (x16.length + x20.length ≤ 9223372036854775807) (some (.next ((x16 ++ x20, w64 (x17 + 1))))) else some (.stop (x16)))

noncomputable def spec_ShowBase_m3  : ((List UInt8)) → Option ((List UInt8))
  | x18 => spec_ShowBase_j3 x18

noncomputable def spec_ShowBase_j2 (b : Base) (x13 : List UInt8) : Option ((List UInt8)) :=
  (loop (spec_ShowBase_l3 b) ((x13, 0))).bind (spec_ShowBase_m3)

noncomputable def spec_ShowBase_j4 (x12 : Int) (x27 : List UInt8) : Option (Step ((List UInt8) × Int) ((List UInt8))) :=
  some (.next ((x27, w64 (x12 + 1))))

noncomputable def spec_ShowBase_l4 (b : Base) (x12 : Int) : ((List UInt8) × Int) → Option (Step ((List UInt8) × Int) ((List UInt8)))
  | (x25, x26) => (idx b.Limbo x12).bind fun x28 => (if decide (x26 < ((x28.Rows.length : Int))) then (idx b.Limbo x12).bind fun x29 => (idx x29.Rows x26).bind fun x30 => (idx b.Limbo x12).bind fun x31 => (idx x29.Rows x26).bind fun x32 => (spec_Var x30.Handle).bind fun x33 => need (x25.length + x33.length ≤ 9223372036854775807) ((spec_Var x32.Epoch).bind fun x34 => need ((x25 ++ x33).length + x34.length ≤ 9223372036854775807) (some (.next (((x25 ++ x33) ++ x34, w64 (x26 + 1)))))) else some (.stop (x25)))

noncomputable def spec_ShowBase_m4 (x12 : Int) : ((List UInt8)) → Option (Step ((List UInt8) × Int) ((List UInt8)))
  | x27 => spec_ShowBase_j4 x12 x27

noncomputable def spec_ShowBase_l2 (b : Base) : ((List UInt8) × Int) → Option (Step ((List UInt8) × Int) ((List UInt8)))
  | (x11, x12) => (if decide (x12 < 3) then (idx b.Limbo x12).bind fun x21 => (spec_Var ((x21.Rows.length : Int))).bind fun x22 => need (x11.length + x22.length ≤ 9223372036854775807) ((loop (spec_ShowBase_l4 b x12) ((x11 ++ x22, 0))).bind (spec_ShowBase_m4 x12)) else some (.stop (x11)))

noncomputable def spec_ShowBase_m2 (b : Base) : ((List UInt8)) → Option ((List UInt8))
  | x13 => spec_ShowBase_j2 b x13

noncomputable def spec_ShowBase_j1 (b : Base) (x8 : List UInt8) : Option ((List UInt8)) :=
  (loop (spec_ShowBase_l2 b) ((x8, 0))).bind (spec_ShowBase_m2 b)

noncomputable def spec_ShowBase_l1 (b : Base) : ((List UInt8) × Int) → Option (Step ((List UInt8) × Int) ((List UInt8)))
  | (x6, x7) => (if decide (x7 < 3) then (idx b.Clock.Pins x7).bind fun x35 => (spec_l30Bool x35.On).bind fun x36 => (spec_Var x36).bind fun x37 => need (x6.length + x37.length ≤ 9223372036854775807) ((spec_Var x35.Epoch).bind fun x38 => need ((x6 ++ x37).length + x38.length ≤ 9223372036854775807) ((spec_l30Bool x35.Marked).bind fun x39 => (spec_Var x39).bind fun x40 => need (((x6 ++ x37) ++ x38).length + x40.length ≤ 9223372036854775807) ((spec_Var x35.Seen).bind fun x41 => need ((((x6 ++ x37) ++ x38) ++ x40).length + x41.length ≤ 9223372036854775807) (some (.next (((((x6 ++ x37) ++ x38) ++ x40) ++ x41, w64 (x7 + 1)))))))) else some (.stop (x6)))

noncomputable def spec_ShowBase_m1 (b : Base) : ((List UInt8)) → Option ((List UInt8))
  | x8 => spec_ShowBase_j1 b x8

noncomputable def spec_ShowBase (b : Base) : Option ((List UInt8)) :=
  (spec_BaseOk b).bind fun x1 => (if !x1 then some ([]) else (spec_ShowMem b.Mem).bind fun x2 => (spec_Var b.Clock.Epoch).bind fun x3 => need (x2.length + x3.length ≤ 9223372036854775807) ((loop (spec_ShowBase_l1 b) ((x2 ++ x3, 0))).bind (spec_ShowBase_m1 b)))

noncomputable def slices_IndexFunc_int_j1  : Option Int :=
  some ((-1))

noncomputable def slices_IndexFunc_int_l1 (s : List Int) (f : (Int → Option Bool)) : Int → Option (Step Int (Out Unit Int))
  | x2 => (if decide (x2 < ((s.length : Int))) then (idx s x2).bind fun x3 => (f x3).bind fun x4 => (if x4 then some (.stop (Out.ret x2)) else some (.next (w64 (x2 + 1)))) else some (.stop (Out.brk (()))))

noncomputable def slices_IndexFunc_int_m1  : (Out Unit Int) → Option Int
  | .brk (()) => slices_IndexFunc_int_j1
  | .ret r => some r

noncomputable def slices_IndexFunc_int (s : List Int) (f : (Int → Option Bool)) : Option Int :=
  (loop (slices_IndexFunc_int_l1 s f) 0).bind (slices_IndexFunc_int_m1)

noncomputable def slices_ContainsFunc_int (s : List Int) (f : (Int → Option Bool)) : Option Bool :=
  (slices_IndexFunc_int s f).bind fun x1 => some (decide (0 ≤ x1))

noncomputable def impl_within_j1 (x1 : Bool) : Option Bool :=
  some x1

noncomputable def impl_within (n : Int) (low : Int) (high : Int) : Option Bool :=
  (if decide (low ≤ n) then impl_within_j1 (decide (n ≤ high)) else impl_within_j1 false)

noncomputable def impl_isByte (x : Int) : Option Bool :=
  (impl_within x 0 255).bind fun x1 => some x1

noncomputable def impl_BytesOk_1 (x : Int) : Option Bool :=
  (impl_isByte x).bind fun x1 => some (!x1)

noncomputable def impl_BytesOk_j1 (x1 : Bool) : Option Bool :=
  some x1

noncomputable def impl_BytesOk (b : List Int) : Option Bool :=
  (if decide (((b.length : Int)) ≤ 1000) then (slices_ContainsFunc_int b ((fun y0 => impl_BytesOk_1 y0 ))).bind fun x2 => impl_BytesOk_j1 (!x2) else impl_BytesOk_j1 false)

noncomputable def impl_shaped_1 (c : Int) : Option Bool :=
  (impl_within c ((-1)) 2).bind fun x1 => some (!x1)

noncomputable def impl_shaped_j1 (x1 : Bool) : Option Bool :=
  some x1

noncomputable def impl_shaped (h : Heap) : Option Bool :=
  (if ((h.Bytes.length : Int)) == 384 then (impl_BytesOk h.Bytes).bind fun x2 => (if x2 then (if ((h.Class.length : Int)) == 6 then (slices_ContainsFunc_int h.Class ((fun y0 => impl_shaped_1 y0 ))).bind fun x3 => impl_shaped_j1 (!x3) else impl_shaped_j1 false) else impl_shaped_j1 false) else impl_shaped_j1 false)

noncomputable def impl_isZero_1 (x : Int) : Option Bool :=
  some (x != 0)

noncomputable def impl_isZero (b : List Int) : Option Bool :=
  (slices_ContainsFunc_int b ((fun y0 => impl_isZero_1 y0 ))).bind fun x1 => some (!x1)

noncomputable def impl_isClass (c : Int) : Option Bool :=
  (impl_within c 0 2).bind fun x1 => some x1

noncomputable def impl_SizeOf (c : Int) : Option Int :=
  (impl_isClass c).bind fun x1 => (if !x1 then some 0 else (idx ([8, 16, 40] : List Int) c).bind fun x2 => some x2)

noncomputable def impl_StrideOf (c : Int) : Option Int :=
  (impl_isClass c).bind fun x1 => (if !x1 then some 0 else (impl_SizeOf c).bind fun x2 => some (w64 (4 + x2)))

noncomputable def impl_PerPage (c : Int) : Option Int :=
  (impl_isClass c).bind fun x1 => (if !x1 then some 0 else (impl_StrideOf c).bind fun x2 => need (x2 ≠ 0) (some (w64 (Int.tdiv 56 x2))))

noncomputable def impl_loadNum_j1 (x5 : Int) : Option Int :=
  some x5

noncomputable def impl_loadNum_l1 (b : List Int) (at_ : Int) (width : Int) : (Int × Int) → Option (Step (Int × Int) Int)
  | (x3, x4) => (if decide (x4 < ((((b.take ((w64 (at_ + width)).toNat)).drop at_.toNat).length : Int))) then (idx ((b.take ((w64 (at_ + width)).toNat)).drop at_.toNat) x4).bind fun x6 => some (.next ((w64 ((w64 (256 * x3)) + x6), w64 (x4 + 1)))) else some (.stop (x3)))

noncomputable def impl_loadNum_m1  : Int → Option Int
  | x5 => impl_loadNum_j1 x5

noncomputable def impl_loadNum (b : List Int) (at_ : Int) (width : Int) : Option Int :=
  need (0 ≤ (at_ : Int) ∧ (at_ : Int) ≤ (w64 (at_ + width) : Int) ∧ (w64 (at_ + width) : Int) ≤ (b.length : Int)) ((loop (impl_loadNum_l1 b at_ width) ((0, 0))).bind (impl_loadNum_m1))

noncomputable def impl_pageOk_j2  : Option Bool :=
  some true

noncomputable def impl_pageOk_l2 (h : Heap) (page : Int) (x1 : Int) (x4 : Int) : Int → Option (Step Int (Out Unit Bool))
  | x6 => (if decide (x6 < x4) then (impl_StrideOf x1).bind fun x7 => (impl_loadNum ((h.Bytes.take ((w64 ((w64 (page + 1)) * 64)).toNat)).drop ((w64 (page * 64)).toNat)) (w64 (8 + (w64 (x6 * x7)))) 4).bind fun x8 => (impl_within x8 1 7).bind fun x9 => (if !x9 then some (.stop (Out.ret false)) else some (.next (w64 (x6 + 1)))) else some (.stop (Out.brk (()))))

noncomputable def impl_pageOk_m2  : (Out Unit Bool) → Option Bool
  | .brk (()) => impl_pageOk_j2
  | .ret r => some r

noncomputable def impl_pageOk_j1 (h : Heap) (page : Int) (x1 : Int) (x3 : Bool) : Option Bool :=
  (if x3 then some false else (impl_PerPage x1).bind fun x4 => (loop (impl_pageOk_l2 h page x1 x4) 0).bind (impl_pageOk_m2))

noncomputable def impl_pageOk (h : Heap) (page : Int) : Option Bool :=
  (idx h.Class page).bind fun x1 => need (0 ≤ (w64 (page * 64) : Int) ∧ (w64 (page * 64) : Int) ≤ (w64 ((w64 (page + 1)) * 64) : Int) ∧ (w64 ((w64 (page + 1)) * 64) : Int) ≤ (h.Bytes.length : Int)) ((if decide (x1 < 0) then (impl_isZero ((h.Bytes.take ((w64 ((w64 (page + 1)) * 64)).toNat)).drop ((w64 (page * 64)).toNat))).bind fun x2 => some x2 else (idx ((h.Bytes.take ((w64 ((w64 (page + 1)) * 64)).toNat)).drop ((w64 (page * 64)).toNat)) 0).bind fun x10 => (if x10 != 171 then impl_pageOk_j1 h page x1 true else (idx ((h.Bytes.take ((w64 ((w64 (page + 1)) * 64)).toNat)).drop ((w64 (page * 64)).toNat)) 1).bind fun x11 => (if x11 != x1 then impl_pageOk_j1 h page x1 true else (idx ((h.Bytes.take ((w64 ((w64 (page + 1)) * 64)).toNat)).drop ((w64 (page * 64)).toNat)) 2).bind fun x12 => (impl_PerPage x1).bind fun x13 => (if x12 != x13 then impl_pageOk_j1 h page x1 true else need (0 ≤ (3 : Int) ∧ (3 : Int) ≤ (8 : Int) ∧ (8 : Int) ≤ (((h.Bytes.take ((w64 ((w64 (page + 1)) * 64)).toNat)).drop ((w64 (page * 64)).toNat)).length : Int)) ((impl_isZero ((((h.Bytes.take ((w64 ((w64 (page + 1)) * 64)).toNat)).drop ((w64 (page * 64)).toNat)).take ((8 : Int).toNat)).drop ((3 : Int).toNat))).bind fun x14 => impl_pageOk_j1 h page x1 (!x14)))))))

noncomputable def impl_HeapOk_j1  : Option Bool :=
  some true

noncomputable def impl_HeapOk_l1 (h : Heap) : Int → Option (Step Int (Out Unit Bool))
  | x3 => (if decide (x3 < 6) then (impl_pageOk h x3).bind fun x4 => (if !x4 then some (.stop (Out.ret false)) else some (.next (w64 (x3 + 1)))) else some (.stop (Out.brk (()))))

noncomputable def impl_HeapOk_m1  : (Out Unit Bool) → Option Bool
  | .brk (()) => impl_HeapOk_j1
  | .ret r => some r

noncomputable def impl_HeapOk (h : Heap) : Option Bool :=
  (impl_shaped h).bind fun x1 => (if !x1 then some false else (loop (impl_HeapOk_l1 h) 0).bind (impl_HeapOk_m1))

noncomputable def slices_Concat_SList_j2 (x10 : List Raw) : Option ((List Raw)) :=
  some x10

noncomputable def slices_Concat_SList_l2 (slices : List (List Raw)) : ((List Raw) × Int) → Option (Step ((List Raw) × Int) ((List Raw)))
  | (x8, x9) => (if decide (x9 < ((slices.length : Int))) then (idx slices x9).bind fun x11 => need (x8.length + x11.length ≤ 1073741824) (some (.next ((x8 ++ x11, w64 (x9 + 1))))) else some (.stop (x8)))

noncomputable def slices_Concat_SList_m2  : ((List Raw)) → Option ((List Raw))
  | x10 => slices_Concat_SList_j2 x10

noncomputable def slices_Concat_SList_j1 (slices : List (List Raw)) (x5 : Int) : Option ((List Raw)) :=
  need (0 ≤ x5 ∧ x5 ≤ 1073741824) ((loop (slices_Concat_SList_l2 slices) (([], 0))).bind (slices_Concat_SList_m2))

noncomputable def slices_Concat_SList_l1 (slices : List (List Raw)) : (Int × Int) → Option (Step (Int × Int) Int)
  | (x3, x4) => (if decide (x4 < ((slices.length : Int))) then (idx slices x4).bind fun x12 => (if decide ((w64 (x3 + ((x12.length : Int)))) < 0) then none else some (.next ((w64 (x3 + ((x12.length : Int))), w64 (x4 + 1))))) else some (.stop (x3)))

noncomputable def slices_Concat_SList_m1 (slices : List (List Raw)) : Int → Option ((List Raw))
  | x5 => slices_Concat_SList_j1 slices x5

noncomputable def slices_Concat_SList (slices : List (List Raw)) : Option ((List Raw)) :=
  (loop (slices_Concat_SList_l1 slices) ((0, 0))).bind (slices_Concat_SList_m1 slices)

theorem slices_Concat_SList_sizes {u1 u2 : List Raw} (h : u1.length + u2.length ≤ 1073741824) : loop (slices_Concat_SList_l1 [u1, u2]) (0, 0) = some ((u1.length + u2.length : Nat) : Int) := by
  have e1 : w64 (u1.length : Int) = u1.length := w64_id (by omega)
  have e2 : w64 ((u1.length : Int) + (u2.length : Int)) = ((u1.length + u2.length : Nat) : Int) := by rw [w64_id (by omega)]; rfl
  have e3 : w64 (0 + 1) = 1 := w64_id (by omega)
  have e4 : w64 2 = 2 := w64_id (by omega)
  have n1 : ¬ (u1.length : Int) < 0 := by omega
  have n2 : ¬ ((u1.length + u2.length : Nat) : Int) < 0 := by omega
  rw [loop_next (s' := ((u1.length : Int), 1)) ?_, loop_next (s' := (((u1.length + u2.length : Nat) : Int), 2)) ?_, loop_stop (r := ((u1.length + u2.length : Nat) : Int)) ?_]
  · simp [slices_Concat_SList_l1]
  · simp [slices_Concat_SList_l1, idx, e2, e4]
    omega
  · simp [slices_Concat_SList_l1, idx, e1, n1]
    exact e3
theorem slices_Concat_SList_two {u1 u2 : List Raw} {n1 n2 : Nat} (hl : u1.length = n1 ∧ u2.length = n2) (h : n1 + n2 ≤ 1073741824) : slices_Concat_SList [u1, u2] = some (u1 ++ u2) := by
  obtain ⟨rfl, rfl⟩ := hl
  have e3 : w64 (0 + 1) = 1 := w64_id (by omega)
  have e4 : w64 2 = 2 := w64_id (by omega)
  unfold slices_Concat_SList
  rw [slices_Concat_SList_sizes h]
  simp only [Option.bind_some, slices_Concat_SList_m1, slices_Concat_SList_j1]
  rw [need_yes (by omega), loop_next (s' := (u1, 1)) ?_, loop_next (s' := (u1 ++ u2, 2)) ?_, loop_stop (r := u1 ++ u2) ?_]
  · rfl
  · simp [slices_Concat_SList_l2]
  · simp [slices_Concat_SList_l2, idx, e4, need_yes h]
  · have h1 : u1.length ≤ 1073741824 := by omega
    simp [slices_Concat_SList_l2, idx, need_yes h1]
    exact e3

noncomputable def impl_isSlot (slot : Int) : Option Bool :=
  (impl_within slot 0 23).bind fun x1 => some x1

noncomputable def impl_ListsOk_j2  : Option Bool :=
  some true

noncomputable def impl_ListsOk_j4 (x4 : Int) (x12 : List Bool) : Option (Step (Int × (List Bool)) (Out Unit Bool)) :=
  some (.next ((w64 (x4 + 1), x12)))

noncomputable def impl_ListsOk_j5 (x10 : Int) (x11 : List Bool) (x13 : Int) (x14 : Bool) : Option (Step (Int × (List Bool)) (Out ((List Bool)) Bool)) :=
  (if x14 then some (.stop (Out.ret false)) else need (0 ≤ (x13 : Int) ∧ (x13 : Int) < 24) ((idx (x11 : List Bool) x13).bind fun x15 => some (.next ((w64 (x10 + 1), x11.set (x13.toNat) true)))))

noncomputable def impl_ListsOk_l4 (x6 : SList) : (Int × (List Bool)) → Option (Step (Int × (List Bool)) (Out ((List Bool)) Bool))
  | (x10, x11) => (if decide (x10 < ((x6.Slots.length : Int))) then (idx x6.Slots x10).bind fun x13 => (impl_isSlot x13).bind fun x16 => (if !x16 then impl_ListsOk_j5 x10 x11 x13 true else need (0 ≤ (x13 : Int) ∧ (x13 : Int) < 24) ((idx (x11 : List Bool) x13).bind fun x17 => impl_ListsOk_j5 x10 x11 x13 x17)) else some (.stop (Out.brk x11)))

noncomputable def impl_ListsOk_m4 (x4 : Int) : (Out ((List Bool)) Bool) → Option (Step (Int × (List Bool)) (Out Unit Bool))
  | .brk x12 => impl_ListsOk_j4 x4 x12
  | .ret r => some (.stop (Out.ret r))

noncomputable def impl_ListsOk_j3 (x4 : Int) (x5 : List Bool) (x6 : SList) (x7 : Bool) : Option (Step (Int × (List Bool)) (Out Unit Bool)) :=
  (if x7 then some (.stop (Out.ret false)) else (loop (impl_ListsOk_l4 x6) ((0, x5))).bind (impl_ListsOk_m4 x4))

noncomputable def impl_ListsOk_l2 (l : Lists) : (Int × (List Bool)) → Option (Step (Int × (List Bool)) (Out Unit Bool))
  | (x4, x5) => (if decide (x4 < (((l.Own ++ l.Global).length : Int))) then (idx (l.Own ++ l.Global) x4).bind fun x6 => (if decide (x4 < ((l.Own.length : Int))) then impl_ListsOk_j3 x4 x5 x6 (decide (2 < ((x6.Slots.length : Int)))) else impl_ListsOk_j3 x4 x5 x6 false) else some (.stop (Out.brk (()))))

noncomputable def impl_ListsOk_m2  : (Out Unit Bool) → Option Bool
  | .brk (()) => impl_ListsOk_j2
  | .ret r => some r

noncomputable def impl_ListsOk_j1 (l : Lists) (x1 : Bool) : Option Bool :=
  (if x1 then some false else need (l.Own.length + l.Global.length ≤ 1073741824) ((loop (impl_ListsOk_l2 l) ((0, [false, false, false, false, false, false, false, false, false, false, false, false, false, false, false, false, false, false, false, false, false, false, false, false]))).bind (impl_ListsOk_m2)))

noncomputable def impl_ListsOk (l : Lists) : Option Bool :=
  (if ((l.Global.length : Int)) != 3 then impl_ListsOk_j1 l true else impl_ListsOk_j1 l (((l.Own.length : Int)) != 9))

noncomputable def impl_GenAt_j1 (slot : Int) (c : Int) (x1 : Bool) : Option Int :=
  (if x1 then some ((-1)) else (impl_StrideOf c).bind fun x2 => some (w64 ((w64 ((w64 ((w64 (Int.tdiv slot 4)) * 64)) + 8)) + (w64 ((Int.tmod slot 4) * x2)))))

noncomputable def impl_GenAt (slot : Int) (c : Int) : Option Int :=
  (impl_isSlot slot).bind fun x3 => (if !x3 then impl_GenAt_j1 slot c true else (impl_isClass c).bind fun x4 => (if !x4 then impl_GenAt_j1 slot c true else (impl_PerPage c).bind fun x5 => impl_GenAt_j1 slot c (decide (x5 ≤ (Int.tmod slot 4)))))

noncomputable def impl_classIn_j1 (h : Heap) (slot : Int) (x1 : Bool) : Option Int :=
  (if x1 then some ((-1)) else (idx h.Class (w64 (Int.tdiv slot 4))).bind fun x2 => some x2)

noncomputable def impl_classIn (h : Heap) (slot : Int) : Option Int :=
  (impl_isSlot slot).bind fun x3 => (if !x3 then impl_classIn_j1 h slot true else (idx h.Class (w64 (Int.tdiv slot 4))).bind fun x4 => (impl_GenAt slot x4).bind fun x5 => impl_classIn_j1 h slot (decide (x5 < 0)))

noncomputable def impl_ClassAt (h : Heap) (slot : Int) : Option Int :=
  (impl_shaped h).bind fun x1 => (if !x1 then some ((-1)) else (impl_classIn h slot).bind fun x2 => some x2)

noncomputable def impl_GenIn (h : Heap) (slot : Int) : Option Int :=
  (impl_ClassAt h slot).bind fun x1 => (if decide (x1 < 0) then some 0 else (impl_GenAt slot x1).bind fun x2 => (impl_loadNum h.Bytes x2 4).bind fun x3 => some x3)

noncomputable def impl_listFits_j1  : Option Bool :=
  some true

noncomputable def impl_listFits_j2 (x2 : Int) (x4 : Bool) : Option (Step Int (Out Unit Bool)) :=
  (if x4 then some (.stop (Out.ret false)) else some (.next (w64 (x2 + 1))))

noncomputable def impl_listFits_l1 (h : Heap) (s : SList) (c : Int) : Int → Option (Step Int (Out Unit Bool))
  | x2 => (if decide (x2 < ((s.Slots.length : Int))) then (idx s.Slots x2).bind fun x3 => (impl_classIn h x3).bind fun x5 => (if x5 != c then impl_listFits_j2 x2 true else (impl_GenIn h x3).bind fun x6 => impl_listFits_j2 x2 (decide (6 < x6))) else some (.stop (Out.brk (()))))

noncomputable def impl_listFits_m1  : (Out Unit Bool) → Option Bool
  | .brk (()) => impl_listFits_j1
  | .ret r => some r

noncomputable def impl_listFits (h : Heap) (s : SList) (c : Int) : Option Bool :=
  (loop (impl_listFits_l1 h s c) 0).bind (impl_listFits_m1)

noncomputable def impl_MemOk_j3  : Option Bool :=
  some true

noncomputable def impl_MemOk_l3 (m : Mem) : Int → Option (Step Int (Out Unit Bool))
  | x5 => (if decide (x5 < ((m.Lists.Own.length : Int))) then (idx m.Lists.Own x5).bind fun x6 => (impl_listFits m.Heap x6 (Int.tmod x5 3)).bind fun x7 => (if !x7 then some (.stop (Out.ret false)) else some (.next (w64 (x5 + 1)))) else some (.stop (Out.brk (()))))

noncomputable def impl_MemOk_m3  : (Out Unit Bool) → Option Bool
  | .brk (()) => impl_MemOk_j3
  | .ret r => some r

noncomputable def impl_MemOk_j2 (m : Mem) : Option Bool :=
  (loop (impl_MemOk_l3 m) 0).bind (impl_MemOk_m3)

noncomputable def impl_MemOk_l2 (m : Mem) : Int → Option (Step Int (Out Unit Bool))
  | x3 => (if decide (x3 < ((m.Lists.Global.length : Int))) then (idx m.Lists.Global x3).bind fun x8 => (impl_listFits m.Heap x8 x3).bind fun x9 => (if !x9 then some (.stop (Out.ret false)) else some (.next (w64 (x3 + 1)))) else some (.stop (Out.brk (()))))

noncomputable def impl_MemOk_m2 (m : Mem) : (Out Unit Bool) → Option Bool
  | .brk (()) => impl_MemOk_j2 m
  | .ret r => some r

noncomputable def impl_MemOk_j1 (m : Mem) (x1 : Bool) : Option Bool :=
  (if x1 then some false else (loop (impl_MemOk_l2 m) 0).bind (impl_MemOk_m2 m))

noncomputable def impl_MemOk (m : Mem) : Option Bool :=
  (impl_HeapOk m.Heap).bind fun x10 => (if !x10 then impl_MemOk_j1 m true else (impl_ListsOk m.Lists).bind fun x11 => impl_MemOk_j1 m (!x11))

noncomputable def slices_IndexFunc_Pin_j1  : Option Int :=
  some ((-1))

noncomputable def slices_IndexFunc_Pin_l1 (s : List Pin) (f : (Pin → Option Bool)) : Int → Option (Step Int (Out Unit Int))
  | x2 => (if decide (x2 < ((s.length : Int))) then (idx s x2).bind fun x3 => (f x3).bind fun x4 => (if x4 then some (.stop (Out.ret x2)) else some (.next (w64 (x2 + 1)))) else some (.stop (Out.brk (()))))

noncomputable def slices_IndexFunc_Pin_m1  : (Out Unit Int) → Option Int
  | .brk (()) => slices_IndexFunc_Pin_j1
  | .ret r => some r

noncomputable def slices_IndexFunc_Pin (s : List Pin) (f : (Pin → Option Bool)) : Option Int :=
  (loop (slices_IndexFunc_Pin_l1 s f) 0).bind (slices_IndexFunc_Pin_m1)

noncomputable def slices_ContainsFunc_Pin (s : List Pin) (f : (Pin → Option Bool)) : Option Bool :=
  (slices_IndexFunc_Pin s f).bind fun x1 => some (decide (0 ≤ x1))

noncomputable def impl_ClockOk_1_j1 (x1 : Bool) : Option Bool :=
  some x1

noncomputable def impl_ClockOk_1 (p : Pin) (k0 : Clock) : Option Bool :=
  (impl_within p.Epoch 0 k0.Epoch).bind fun x2 => (if !x2 then impl_ClockOk_1_j1 true else (impl_within p.Seen 0 2).bind fun x3 => (if !x3 then impl_ClockOk_1_j1 true else (if !p.On then impl_ClockOk_1_j1 (!(decide (p = (⟨false, 0, false, 0⟩ : Pin)))) else impl_ClockOk_1_j1 false)))

noncomputable def impl_ClockOk_j1 (x1 : Bool) : Option Bool :=
  some x1

noncomputable def impl_ClockOk (c : Clock) : Option Bool :=
  (impl_within c.Epoch 0 100000).bind fun x2 => (if x2 then (if ((c.Pins.length : Int)) == 3 then (slices_ContainsFunc_Pin c.Pins ((fun y0 => impl_ClockOk_1 y0 c))).bind fun x3 => impl_ClockOk_j1 (!x3) else impl_ClockOk_j1 false) else impl_ClockOk_j1 false)

noncomputable def impl_HandleOk_j1 (x1 : Bool) : Option Bool :=
  some x1

noncomputable def impl_HandleOk (h : Int) : Option Bool :=
  (impl_within h 32 223).bind fun x2 => (if x2 then impl_HandleOk_j1 (decide ((Int.tmod h 32) < 24)) else impl_HandleOk_j1 false)

noncomputable def impl_LimboSize_j1 (x5 : Int) : Option Int :=
  some x5

noncomputable def impl_LimboSize_l1 (l : List LList) : (Int × Int) → Option (Step (Int × Int) Int)
  | (x3, x4) => (if decide (x4 < ((l.length : Int))) then (idx l x4).bind fun x6 => some (.next ((w64 (x3 + ((x6.Rows.length : Int))), w64 (x4 + 1)))) else some (.stop (x3)))

noncomputable def impl_LimboSize_m1  : Int → Option Int
  | x5 => impl_LimboSize_j1 x5

noncomputable def impl_LimboSize (l : List LList) : Option Int :=
  (loop (impl_LimboSize_l1 l) ((0, 0))).bind (impl_LimboSize_m1)

noncomputable def impl_LimboOk_j1 (l : List LList) : Option Bool :=
  (impl_LimboSize l).bind fun x5 => some (decide (x5 ≤ 24))

noncomputable def impl_LimboOk_j2 (x3 : Int) (x11 : List Bool) : Option (Step (Int × (List Bool)) (Out Unit Bool)) :=
  some (.next ((w64 (x3 + 1), x11)))

noncomputable def impl_LimboOk_j3 (x9 : Int) (x10 : List Bool) (x12 : LRow) (x13 : Bool) : Option (Step (Int × (List Bool)) (Out ((List Bool)) Bool)) :=
  (if x13 then some (.stop (Out.ret false)) else need (0 ≤ (Int.tmod x12.Handle 32 : Int) ∧ (Int.tmod x12.Handle 32 : Int) < 24) ((idx (x10 : List Bool) (Int.tmod x12.Handle 32)).bind fun x14 => some (.next ((w64 (x9 + 1), x10.set ((Int.tmod x12.Handle 32).toNat) true)))))

noncomputable def impl_LimboOk_l2 (x6 : LList) : (Int × (List Bool)) → Option (Step (Int × (List Bool)) (Out ((List Bool)) Bool))
  | (x9, x10) => (if decide (x9 < ((x6.Rows.length : Int))) then (idx x6.Rows x9).bind fun x12 => (impl_HandleOk x12.Handle).bind fun x15 => (if !x15 then impl_LimboOk_j3 x9 x10 x12 true else (impl_within x12.Epoch 0 100000).bind fun x16 => (if !x16 then impl_LimboOk_j3 x9 x10 x12 true else need (0 ≤ (Int.tmod x12.Handle 32 : Int) ∧ (Int.tmod x12.Handle 32 : Int) < 24) ((idx (x10 : List Bool) (Int.tmod x12.Handle 32)).bind fun x17 => impl_LimboOk_j3 x9 x10 x12 x17))) else some (.stop (Out.brk x10)))

noncomputable def impl_LimboOk_m2 (x3 : Int) : (Out ((List Bool)) Bool) → Option (Step (Int × (List Bool)) (Out Unit Bool))
  | .brk x11 => impl_LimboOk_j2 x3 x11
  | .ret r => some (.stop (Out.ret r))

noncomputable def impl_LimboOk_l1 (l : List LList) : (Int × (List Bool)) → Option (Step (Int × (List Bool)) (Out Unit Bool))
  | (x3, x4) => (if decide (x3 < ((l.length : Int))) then (idx l x3).bind fun x6 => (loop (impl_LimboOk_l2 x6) ((0, x4))).bind (impl_LimboOk_m2 x3) else some (.stop (Out.brk (()))))

noncomputable def impl_LimboOk_m1 (l : List LList) : (Out Unit Bool) → Option Bool
  | .brk (()) => impl_LimboOk_j1 l
  | .ret r => some r

noncomputable def impl_LimboOk (l : List LList) : Option Bool :=
  (if ((l.length : Int)) != 3 then some false else (loop (impl_LimboOk_l1 l) ((0, [false, false, false, false, false, false, false, false, false, false, false, false, false, false, false, false, false, false, false, false, false, false, false, false]))).bind (impl_LimboOk_m1 l))

noncomputable def impl_isLink_j1 (x1 : Bool) : Option Bool :=
  some x1

noncomputable def impl_isLink (h : Int) : Option Bool :=
  (if h == 0 then impl_isLink_j1 true else (impl_HandleOk h).bind fun x2 => impl_isLink_j1 x2)

noncomputable def impl_HazOk_1 (h : Int) : Option Bool :=
  (impl_isLink h).bind fun x1 => some (!x1)

noncomputable def impl_HazOk_j1 (x1 : Bool) : Option Bool :=
  some x1

noncomputable def impl_HazOk (z : List Int) : Option Bool :=
  (if ((z.length : Int)) == 3 then (slices_ContainsFunc_int z ((fun y0 => impl_HazOk_1 y0 ))).bind fun x2 => impl_HazOk_j1 (!x2) else impl_HazOk_j1 false)

noncomputable def slices_IndexFunc_LList_j1  : Option Int :=
  some ((-1))

noncomputable def slices_IndexFunc_LList_l1 (s : List LList) (f : (LList → Option Bool)) : Int → Option (Step Int (Out Unit Int))
  | x2 => (if decide (x2 < ((s.length : Int))) then (idx s x2).bind fun x3 => (f x3).bind fun x4 => (if x4 then some (.stop (Out.ret x2)) else some (.next (w64 (x2 + 1)))) else some (.stop (Out.brk (()))))

noncomputable def slices_IndexFunc_LList_m1  : (Out Unit Int) → Option Int
  | .brk (()) => slices_IndexFunc_LList_j1
  | .ret r => some r

noncomputable def slices_IndexFunc_LList (s : List LList) (f : (LList → Option Bool)) : Option Int :=
  (loop (slices_IndexFunc_LList_l1 s f) 0).bind (slices_IndexFunc_LList_m1)

noncomputable def slices_ContainsFunc_LList (s : List LList) (f : (LList → Option Bool)) : Option Bool :=
  (slices_IndexFunc_LList s f).bind fun x1 => some (decide (0 ≤ x1))

noncomputable def slices_IndexFunc_LRow_j1  : Option Int :=
  some ((-1))

noncomputable def slices_IndexFunc_LRow_l1 (s : List LRow) (f : (LRow → Option Bool)) : Int → Option (Step Int (Out Unit Int))
  | x2 => (if decide (x2 < ((s.length : Int))) then (idx s x2).bind fun x3 => (f x3).bind fun x4 => (if x4 then some (.stop (Out.ret x2)) else some (.next (w64 (x2 + 1)))) else some (.stop (Out.brk (()))))

noncomputable def slices_IndexFunc_LRow_m1  : (Out Unit Int) → Option Int
  | .brk (()) => slices_IndexFunc_LRow_j1
  | .ret r => some r

noncomputable def slices_IndexFunc_LRow (s : List LRow) (f : (LRow → Option Bool)) : Option Int :=
  (loop (slices_IndexFunc_LRow_l1 s f) 0).bind (slices_IndexFunc_LRow_m1)

noncomputable def slices_ContainsFunc_LRow (s : List LRow) (f : (LRow → Option Bool)) : Option Bool :=
  (slices_IndexFunc_LRow s f).bind fun x1 => some (decide (0 ≤ x1))

noncomputable def slices_IndexFunc_SList_j1  : Option Int :=
  some ((-1))

noncomputable def slices_IndexFunc_SList_l1 (s : List SList) (f : (SList → Option Bool)) : Int → Option (Step Int (Out Unit Int))
  | x2 => (if decide (x2 < ((s.length : Int))) then (idx s x2).bind fun x3 => (f x3).bind fun x4 => (if x4 then some (.stop (Out.ret x2)) else some (.next (w64 (x2 + 1)))) else some (.stop (Out.brk (()))))

noncomputable def slices_IndexFunc_SList_m1  : (Out Unit Int) → Option Int
  | .brk (()) => slices_IndexFunc_SList_j1
  | .ret r => some r

noncomputable def slices_IndexFunc_SList (s : List SList) (f : (SList → Option Bool)) : Option Int :=
  (loop (slices_IndexFunc_SList_l1 s f) 0).bind (slices_IndexFunc_SList_m1)

noncomputable def slices_ContainsFunc_SList (s : List SList) (f : (SList → Option Bool)) : Option Bool :=
  (slices_IndexFunc_SList s f).bind fun x1 => some (decide (0 ≤ x1))

noncomputable def slices_Index_int_j1  : Option Int :=
  some ((-1))

noncomputable def slices_Index_int_l1 (s : List Int) (v : Int) : Int → Option (Step Int (Out Unit Int))
  | x2 => (if decide (x2 < ((s.length : Int))) then (idx s x2).bind fun x3 => (if v == x3 then some (.stop (Out.ret x2)) else some (.next (w64 (x2 + 1)))) else some (.stop (Out.brk (()))))

noncomputable def slices_Index_int_m1  : (Out Unit Int) → Option Int
  | .brk (()) => slices_Index_int_j1
  | .ret r => some r

noncomputable def slices_Index_int (s : List Int) (v : Int) : Option Int :=
  (loop (slices_Index_int_l1 s v) 0).bind (slices_Index_int_m1)

noncomputable def slices_Contains_int (s : List Int) (v : Int) : Option Bool :=
  (slices_Index_int s v).bind fun x1 => some (decide (0 ≤ x1))

noncomputable def impl_OnList_1 (s : SList) (k0 : Int) : Option Bool :=
  (slices_Contains_int s.Slots k0).bind fun x1 => some x1

noncomputable def impl_OnList_j1 (x1 : Bool) : Option Bool :=
  some x1

noncomputable def impl_OnList (l : Lists) (slot : Int) : Option Bool :=
  (slices_ContainsFunc_SList l.Global ((fun y0 => impl_OnList_1 y0 slot))).bind fun x2 => (if x2 then impl_OnList_j1 true else (slices_ContainsFunc_SList l.Own ((fun y0 => impl_OnList_1 y0 slot))).bind fun x3 => impl_OnList_j1 x3)

noncomputable def impl_stateOf (m : Mem) (slot : Int) : Option Int :=
  (impl_classIn m.Heap slot).bind fun x1 => (if decide (x1 < 0) then some 0 else (impl_OnList m.Lists slot).bind fun x2 => (if x2 then some 1 else (impl_GenIn m.Heap slot).bind fun x3 => (if decide (6 < x3) then some 2 else some 3)))

noncomputable def impl_isLive_j1 (x1 : Bool) : Option Bool :=
  some x1

noncomputable def impl_isLive (m : Mem) (h : Int) : Option Bool :=
  (impl_HandleOk h).bind fun x2 => (if x2 then (impl_stateOf m (Int.tmod h 32)).bind fun x3 => (if x3 == 3 then (impl_GenIn m.Heap (Int.tmod h 32)).bind fun x4 => impl_isLive_j1 (x4 == (w64 (Int.tdiv h 32))) else impl_isLive_j1 false) else impl_isLive_j1 false)

noncomputable def impl_BaseOk_1_1_j1 (x1 : Bool) : Option Bool :=
  some x1

noncomputable def impl_BaseOk_1_1 (r_ : LRow) (k0 : Base) : Option Bool :=
  (impl_isLive k0.Mem r_.Handle).bind fun x2 => (if !x2 then impl_BaseOk_1_1_j1 true else impl_BaseOk_1_1_j1 (decide (k0.Clock.Epoch < r_.Epoch)))

noncomputable def impl_BaseOk_1 (l : LList) (k0 : Base) : Option Bool :=
  (slices_ContainsFunc_LRow l.Rows ((fun y0 => impl_BaseOk_1_1 y0 k0))).bind fun x1 => some x1

noncomputable def impl_BaseOk_j1 (b : Base) (x1 : Bool) : Option Bool :=
  (if x1 then some false else (slices_ContainsFunc_LList b.Limbo ((fun y0 => impl_BaseOk_1 y0 b))).bind fun x2 => some (!x2))

noncomputable def impl_BaseOk (b : Base) : Option Bool :=
  (impl_MemOk b.Mem).bind fun x3 => (if !x3 then impl_BaseOk_j1 b true else (impl_ClockOk b.Clock).bind fun x4 => (if !x4 then impl_BaseOk_j1 b true else (impl_LimboOk b.Limbo).bind fun x5 => (if !x5 then impl_BaseOk_j1 b true else (impl_HazOk b.Haz).bind fun x6 => impl_BaseOk_j1 b (!x6))))

noncomputable def impl_Var_j1 (x6 : Int) (x7 : List UInt8) : Option ((List UInt8)) :=
  need (x7.length + ([u8 x6]).length ≤ 1073741824) (some (x7 ++ ([u8 x6])))

noncomputable def impl_Var_l1  : (Int × (List UInt8)) → Option (Step (Int × (List UInt8)) (Int × (List UInt8)))
  | (x4, x5) => (if decide (127 < x4) then need (x5.length + ([u8 (bitsOp .or .i64 (bitsOp .and .i64 x4 127) 128)]).length ≤ 1073741824) (some (.next ((shrOp .i64 x4 7, x5 ++ ([u8 (bitsOp .or .i64 (bitsOp .and .i64 x4 127) 128)]))))) else some (.stop ((x4, x5))))

noncomputable def impl_Var_m1  : (Int × (List UInt8)) → Option ((List UInt8))
  | (x6, x7) => impl_Var_j1 x6 x7

noncomputable def impl_Var (n : Int) : Option ((List UInt8)) :=
  (impl_within n 0 562949953421311).bind fun x1 => (if !x1 then some ([]) else (loop (impl_Var_l1) ((n, []))).bind (impl_Var_m1))

noncomputable def impl_showList_j1 (x6 : List UInt8) : Option ((List UInt8)) :=
  some x6

noncomputable def impl_showList_l1 (s : SList) : ((List UInt8) × Int) → Option (Step ((List UInt8) × Int) ((List UInt8)))
  | (x4, x5) => (if decide (x5 < ((s.Slots.length : Int))) then (idx s.Slots x5).bind fun x7 => (impl_Var x7).bind fun x8 => need (x4.length + x8.length ≤ 9223372036854775807) (some (.next ((x4 ++ x8, w64 (x5 + 1))))) else some (.stop (x4)))

noncomputable def impl_showList_m1  : ((List UInt8)) → Option ((List UInt8))
  | x6 => impl_showList_j1 x6

noncomputable def impl_showList (s : SList) : Option ((List UInt8)) :=
  (impl_Var ((s.Slots.length : Int))).bind fun x1 => (loop (impl_showList_l1 s) ((x1, 0))).bind (impl_showList_m1)

noncomputable def impl_ShowMem_j4 (x21 : List UInt8) : Option ((List UInt8)) :=
  some x21

noncomputable def impl_ShowMem_l4 (m : Mem) : ((List UInt8) × Int) → Option (Step ((List UInt8) × Int) ((List UInt8)))
  | (x19, x20) => (if decide (x20 < ((m.Lists.Own.length : Int))) then (idx m.Lists.Own x20).bind fun x22 => (impl_showList x22).bind fun x23 => need (x19.length + x23.length ≤ 9223372036854775807) (some (.next ((x19 ++ x23, w64 (x20 + 1))))) else some (.stop (x19)))

noncomputable def impl_ShowMem_m4  : ((List UInt8)) → Option ((List UInt8))
  | x21 => impl_ShowMem_j4 x21

noncomputable def impl_ShowMem_j3 (m : Mem) (x16 : List UInt8) : Option ((List UInt8)) :=
  (loop (impl_ShowMem_l4 m) ((x16, 0))).bind (impl_ShowMem_m4)

noncomputable def impl_ShowMem_l3 (m : Mem) : ((List UInt8) × Int) → Option (Step ((List UInt8) × Int) ((List UInt8)))
  | (x14, x15) => (if decide (x15 < ((m.Lists.Global.length : Int))) then (idx m.Lists.Global x15).bind fun x24 => (impl_showList x24).bind fun x25 => need (x14.length + x25.length ≤ 9223372036854775807) (some (.next ((x14 ++ x25, w64 (x15 + 1))))) else some (.stop (x14)))

noncomputable def impl_ShowMem_m3 (m : Mem) : ((List UInt8)) → Option ((List UInt8))
  | x16 => impl_ShowMem_j3 m x16

noncomputable def impl_ShowMem_j2 (m : Mem) (x11 : List UInt8) : Option ((List UInt8)) :=
  (loop (impl_ShowMem_l3 m) ((x11, 0))).bind (impl_ShowMem_m3 m)

noncomputable def impl_ShowMem_l2 (m : Mem) : ((List UInt8) × Int) → Option (Step ((List UInt8) × Int) ((List UInt8)))
  | (x9, x10) => (if decide (x10 < ((m.Heap.Class.length : Int))) then (idx m.Heap.Class x10).bind fun x26 => need (x9.length + ([u8 (w64 (x26 + 1))]).length ≤ 1073741824) (some (.next ((x9 ++ ([u8 (w64 (x26 + 1))]), w64 (x10 + 1))))) else some (.stop (x9)))

noncomputable def impl_ShowMem_m2 (m : Mem) : ((List UInt8)) → Option ((List UInt8))
  | x11 => impl_ShowMem_j2 m x11

noncomputable def impl_ShowMem_j1 (m : Mem) (x6 : List UInt8) : Option ((List UInt8)) :=
  (loop (impl_ShowMem_l2 m) ((x6, 0))).bind (impl_ShowMem_m2 m)

noncomputable def impl_ShowMem_l1 (m : Mem) : ((List UInt8) × Int) → Option (Step ((List UInt8) × Int) ((List UInt8)))
  | (x4, x5) => (if decide (x5 < ((m.Heap.Bytes.length : Int))) then (idx m.Heap.Bytes x5).bind fun x27 => need (x4.length + ([u8 x27]).length ≤ 1073741824) (some (.next ((x4 ++ ([u8 x27]), w64 (x5 + 1))))) else some (.stop (x4)))

noncomputable def impl_ShowMem_m1 (m : Mem) : ((List UInt8)) → Option ((List UInt8))
  | x6 => impl_ShowMem_j1 m x6

noncomputable def impl_ShowMem (m : Mem) : Option ((List UInt8)) :=
  (impl_MemOk m).bind fun x1 => (if !x1 then some ([]) else (loop (impl_ShowMem_l1 m) (([], 0))).bind (impl_ShowMem_m1 m))

noncomputable def impl_flag (is : Bool) : Option Int :=
  (if is then some 1 else some 0)

noncomputable def impl_ShowBase_j3 (x18 : List UInt8) : Option ((List UInt8)) :=
  some x18

noncomputable def impl_ShowBase_l3 (b : Base) : ((List UInt8) × Int) → Option (Step ((List UInt8) × Int) ((List UInt8)))
  | (x16, x17) => (if decide (x17 < ((b.Haz.length : Int))) then (idx b.Haz x17).bind fun x19 => (impl_Var x19).bind fun x20 => need (x16.length + x20.length ≤ 9223372036854775807) (some (.next ((x16 ++ x20, w64 (x17 + 1))))) else some (.stop (x16)))

noncomputable def impl_ShowBase_m3  : ((List UInt8)) → Option ((List UInt8))
  | x18 => impl_ShowBase_j3 x18

noncomputable def impl_ShowBase_j2 (b : Base) (x13 : List UInt8) : Option ((List UInt8)) :=
  (loop (impl_ShowBase_l3 b) ((x13, 0))).bind (impl_ShowBase_m3)

noncomputable def impl_ShowBase_j4 (x12 : Int) (x27 : List UInt8) : Option (Step ((List UInt8) × Int) ((List UInt8))) :=
  some (.next ((x27, w64 (x12 + 1))))

noncomputable def impl_ShowBase_l4 (x21 : LList) : ((List UInt8) × Int) → Option (Step ((List UInt8) × Int) ((List UInt8)))
  | (x25, x26) => (if decide (x26 < ((x21.Rows.length : Int))) then (idx x21.Rows x26).bind fun x28 => (impl_Var x28.Handle).bind fun x29 => (impl_Var x28.Epoch).bind fun x30 => need (x29.length + x30.length ≤ 9223372036854775807) (need (x25.length + (x29 ++ x30).length ≤ 9223372036854775807) (some (.next ((x25 ++ (x29 ++ x30), w64 (x26 + 1)))))) else some (.stop (x25)))

noncomputable def impl_ShowBase_m4 (x12 : Int) : ((List UInt8)) → Option (Step ((List UInt8) × Int) ((List UInt8)))
  | x27 => impl_ShowBase_j4 x12 x27

noncomputable def impl_ShowBase_l2 (b : Base) : ((List UInt8) × Int) → Option (Step ((List UInt8) × Int) ((List UInt8)))
  | (x11, x12) => (if decide (x12 < ((b.Limbo.length : Int))) then (idx b.Limbo x12).bind fun x21 => (impl_Var ((x21.Rows.length : Int))).bind fun x22 => need (x11.length + x22.length ≤ 9223372036854775807) ((loop (impl_ShowBase_l4 x21) ((x11 ++ x22, 0))).bind (impl_ShowBase_m4 x12)) else some (.stop (x11)))

noncomputable def impl_ShowBase_m2 (b : Base) : ((List UInt8)) → Option ((List UInt8))
  | x13 => impl_ShowBase_j2 b x13

noncomputable def impl_ShowBase_j1 (b : Base) (x8 : List UInt8) : Option ((List UInt8)) :=
  (loop (impl_ShowBase_l2 b) ((x8, 0))).bind (impl_ShowBase_m2 b)

noncomputable def impl_ShowBase_l1 (b : Base) : ((List UInt8) × Int) → Option (Step ((List UInt8) × Int) ((List UInt8)))
  | (x6, x7) => (if decide (x7 < ((b.Clock.Pins.length : Int))) then (idx b.Clock.Pins x7).bind fun x31 => (impl_flag x31.On).bind fun x32 => (impl_Var x32).bind fun x33 => (impl_Var x31.Epoch).bind fun x34 => need (x33.length + x34.length ≤ 9223372036854775807) ((impl_flag x31.Marked).bind fun x35 => (impl_Var x35).bind fun x36 => need ((x33 ++ x34).length + x36.length ≤ 9223372036854775807) ((impl_Var x31.Seen).bind fun x37 => need (((x33 ++ x34) ++ x36).length + x37.length ≤ 9223372036854775807) (need (x6.length + (((x33 ++ x34) ++ x36) ++ x37).length ≤ 9223372036854775807) (some (.next ((x6 ++ (((x33 ++ x34) ++ x36) ++ x37), w64 (x7 + 1)))))))) else some (.stop (x6)))

noncomputable def impl_ShowBase_m1 (b : Base) : ((List UInt8)) → Option ((List UInt8))
  | x8 => impl_ShowBase_j1 b x8

noncomputable def impl_ShowBase (b : Base) : Option ((List UInt8)) :=
  (impl_BaseOk b).bind fun x1 => (if !x1 then some ([]) else (impl_ShowMem b.Mem).bind fun x2 => (impl_Var b.Clock.Epoch).bind fun x3 => need (x2.length + x3.length ≤ 9223372036854775807) ((loop (impl_ShowBase_l1 b) ((x2 ++ x3, 0))).bind (impl_ShowBase_m1 b)))

noncomputable def laws_eqIntS_j1  : Option Bool :=
  some true

noncomputable def laws_eqIntS_l1 (a_ : List Int) (b : List Int) : Int → Option (Step Int (Out Unit Bool))
  | x2 => (if decide (x2 < ((a_.length : Int))) then (idx a_ x2).bind fun x3 => (idx b x2).bind fun x4 => (if x3 != x4 then some (.stop (Out.ret false)) else some (.next (w64 (x2 + 1)))) else some (.stop (Out.brk (()))))

noncomputable def laws_eqIntS_m1  : (Out Unit Bool) → Option Bool
  | .brk (()) => laws_eqIntS_j1
  | .ret r => some r

noncomputable def laws_eqIntS (a_ : List Int) (b : List Int) : Option Bool :=
  (if ((a_.length : Int)) != ((b.length : Int)) then some false else (loop (laws_eqIntS_l1 a_ b) 0).bind (laws_eqIntS_m1))

noncomputable def laws_eqHeap (a_ : Heap) (b : Heap) : Option Bool :=
  (laws_eqIntS a_.Bytes b.Bytes).bind fun x1 => (if !x1 then some false else (laws_eqIntS a_.Class b.Class).bind fun x2 => (if !x2 then some false else some true))

noncomputable def laws_eqSList (a_ : SList) (b : SList) : Option Bool :=
  (laws_eqIntS a_.Slots b.Slots).bind fun x1 => (if !x1 then some false else some true)

noncomputable def laws_eqSListS_j1  : Option Bool :=
  some true

noncomputable def laws_eqSListS_l1 (a_ : List SList) (b : List SList) : Int → Option (Step Int (Out Unit Bool))
  | x2 => (if decide (x2 < ((a_.length : Int))) then (idx a_ x2).bind fun x3 => (idx b x2).bind fun x4 => (laws_eqSList x3 x4).bind fun x5 => (if !x5 then some (.stop (Out.ret false)) else some (.next (w64 (x2 + 1)))) else some (.stop (Out.brk (()))))

noncomputable def laws_eqSListS_m1  : (Out Unit Bool) → Option Bool
  | .brk (()) => laws_eqSListS_j1
  | .ret r => some r

noncomputable def laws_eqSListS (a_ : List SList) (b : List SList) : Option Bool :=
  (if ((a_.length : Int)) != ((b.length : Int)) then some false else (loop (laws_eqSListS_l1 a_ b) 0).bind (laws_eqSListS_m1))

noncomputable def laws_eqLists (a_ : Lists) (b : Lists) : Option Bool :=
  (laws_eqSListS a_.Global b.Global).bind fun x1 => (if !x1 then some false else (laws_eqSListS a_.Own b.Own).bind fun x2 => (if !x2 then some false else some true))

noncomputable def laws_eqMem (a_ : Mem) (b : Mem) : Option Bool :=
  (laws_eqHeap a_.Heap b.Heap).bind fun x1 => (if !x1 then some false else (laws_eqLists a_.Lists b.Lists).bind fun x2 => (if !x2 then some false else some true))

noncomputable def laws_eqPin (a_ : Pin) (b : Pin) : Option Bool :=
  (if !(a_.On == b.On) then some false else (if a_.Epoch != b.Epoch then some false else (if !(a_.Marked == b.Marked) then some false else (if a_.Seen != b.Seen then some false else some true))))

noncomputable def laws_eqPinS_j1  : Option Bool :=
  some true

noncomputable def laws_eqPinS_l1 (a_ : List Pin) (b : List Pin) : Int → Option (Step Int (Out Unit Bool))
  | x2 => (if decide (x2 < ((a_.length : Int))) then (idx a_ x2).bind fun x3 => (idx b x2).bind fun x4 => (laws_eqPin x3 x4).bind fun x5 => (if !x5 then some (.stop (Out.ret false)) else some (.next (w64 (x2 + 1)))) else some (.stop (Out.brk (()))))

noncomputable def laws_eqPinS_m1  : (Out Unit Bool) → Option Bool
  | .brk (()) => laws_eqPinS_j1
  | .ret r => some r

noncomputable def laws_eqPinS (a_ : List Pin) (b : List Pin) : Option Bool :=
  (if ((a_.length : Int)) != ((b.length : Int)) then some false else (loop (laws_eqPinS_l1 a_ b) 0).bind (laws_eqPinS_m1))

noncomputable def laws_eqClock (a_ : Clock) (b : Clock) : Option Bool :=
  (if a_.Epoch != b.Epoch then some false else (laws_eqPinS a_.Pins b.Pins).bind fun x1 => (if !x1 then some false else some true))

noncomputable def laws_eqLRow (a_ : LRow) (b : LRow) : Option Bool :=
  (if a_.Handle != b.Handle then some false else (if a_.Epoch != b.Epoch then some false else some true))

noncomputable def laws_eqLRowS_j1  : Option Bool :=
  some true

noncomputable def laws_eqLRowS_l1 (a_ : List LRow) (b : List LRow) : Int → Option (Step Int (Out Unit Bool))
  | x2 => (if decide (x2 < ((a_.length : Int))) then (idx a_ x2).bind fun x3 => (idx b x2).bind fun x4 => (laws_eqLRow x3 x4).bind fun x5 => (if !x5 then some (.stop (Out.ret false)) else some (.next (w64 (x2 + 1)))) else some (.stop (Out.brk (()))))

noncomputable def laws_eqLRowS_m1  : (Out Unit Bool) → Option Bool
  | .brk (()) => laws_eqLRowS_j1
  | .ret r => some r

noncomputable def laws_eqLRowS (a_ : List LRow) (b : List LRow) : Option Bool :=
  (if ((a_.length : Int)) != ((b.length : Int)) then some false else (loop (laws_eqLRowS_l1 a_ b) 0).bind (laws_eqLRowS_m1))

noncomputable def laws_eqLList (a_ : LList) (b : LList) : Option Bool :=
  (laws_eqLRowS a_.Rows b.Rows).bind fun x1 => (if !x1 then some false else some true)

noncomputable def laws_eqLListS_j1  : Option Bool :=
  some true

noncomputable def laws_eqLListS_l1 (a_ : List LList) (b : List LList) : Int → Option (Step Int (Out Unit Bool))
  | x2 => (if decide (x2 < ((a_.length : Int))) then (idx a_ x2).bind fun x3 => (idx b x2).bind fun x4 => (laws_eqLList x3 x4).bind fun x5 => (if !x5 then some (.stop (Out.ret false)) else some (.next (w64 (x2 + 1)))) else some (.stop (Out.brk (()))))

noncomputable def laws_eqLListS_m1  : (Out Unit Bool) → Option Bool
  | .brk (()) => laws_eqLListS_j1
  | .ret r => some r

noncomputable def laws_eqLListS (a_ : List LList) (b : List LList) : Option Bool :=
  (if ((a_.length : Int)) != ((b.length : Int)) then some false else (loop (laws_eqLListS_l1 a_ b) 0).bind (laws_eqLListS_m1))

noncomputable def laws_eqBase (a_ : Base) (b : Base) : Option Bool :=
  (laws_eqMem a_.Mem b.Mem).bind fun x1 => (if !x1 then some false else (laws_eqClock a_.Clock b.Clock).bind fun x2 => (if !x2 then some false else (laws_eqLListS a_.Limbo b.Limbo).bind fun x3 => (if !x3 then some false else (laws_eqIntS a_.Haz b.Haz).bind fun x4 => (if !x4 then some false else some true))))

noncomputable def laws_FnExactShowBase (aB : Base) : Option Bool :=
  (laws_szBase aB 1048576).bind fun x1 => (if decide (x1 < 0) then some true else (laws_toBase aB).bind fun x2 => (spec_ShowBase x2).bind fun x3 => (laws_toBase aB).bind fun x4 => (impl_ShowBase x4).bind fun x5 => (if !(x5 == x3) then some false else (laws_toBase aB).bind fun x6 => (laws_eqBase x4 x6).bind fun x7 => (if !x7 then some false else some true)))
end Go.Gv
