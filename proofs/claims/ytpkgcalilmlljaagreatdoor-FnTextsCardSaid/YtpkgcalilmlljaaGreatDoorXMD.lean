import Derived.Test.YtpkgcalilmlljaaGreatDoorXMB
import Derived.Deep.RegionWith
import Derived.IntWalk
import Derived.Deep.DeepCutAuto
set_option linter.unusedVariables false
set_option linter.unusedSimpArgs false
set_option linter.unusedSectionVars false
set_option linter.unnecessarySimpa false
set_option linter.constructorNameAsVariable false
section
/- Texts: walks: a command read. -/
namespace Go.Proofs.YtpkgcalilmlljaaGreatDoor
open Go.RowKit Go.Sort
open Go.Gv (numL)
theorem GW.words' {w : World} (g : GW w) : w.cell? ⟨0, 0, none⟩ = some (.string ⟨#[103, 101, 116]⟩) ∧ w.cell? ⟨0, 1, none⟩ = some (.string ⟨#[112, 117, 116]⟩) ∧ w.cell? ⟨0, 2, none⟩ = some (.string ⟨#[100, 101, 108]⟩) ∧ w.cell? ⟨0, 3, none⟩ = some (.string ⟨#[97, 100, 100]⟩) := by
  have h := World.var?_cell (show Tryz.prog.globalNamed (nmL 6) = some 0 by kernel_rfl) g.cw
  exact ⟨h 0, h 1, h 2, h 3⟩
def words4 : List ByteArray := [⟨#[103, 101, 116]⟩, ⟨#[112, 117, 116]⟩, ⟨#[100, 101, 108]⟩, ⟨#[97, 100, 100]⟩]
structure Arr3 (W : World) (b : Nat) : Prop where
  c0 : W.cell? ⟨b, 0, none⟩ = some (.int .i64 0)
  c1 : W.cell? ⟨b, 1, none⟩ = some (.int .i64 0)
  c2 : W.cell? ⟨b, 2, none⟩ = some (.int .i64 0)
  f0 : W.frozen? ⟨b, 0, none⟩ = false
  f1 : W.frozen? ⟨b, 1, none⟩ = false
  f2 : W.frozen? ⟨b, 2, none⟩ = false
  lt : b < W.heap.size
theorem Arr3.below {W W' : World} {b : Nat} (h : Arr3 W b) (k : Below W.heap.size W W') : Arr3 W' b :=
  ⟨(k.cell h.lt).trans h.c0, (k.cell h.lt).trans h.c1, (k.cell h.lt).trans h.c2, (k.frozen h.lt).trans h.f0, (k.frozen h.lt).trans h.f1, (k.frozen h.lt).trans h.f2, Nat.lt_of_lt_of_le h.lt k.size⟩
theorem set3 {W : World} {b : Nat} (h : Arr3 W b) (x y z : Int) : (((W.setCell ⟨b, 0, none⟩ (.int .i64 x)).setCell ⟨b, 1, none⟩ (.int .i64 y)).setCell ⟨b, 2, none⟩ (.int .i64 z)).cell? ⟨b, 0, none⟩ = some (.int .i64 x) ∧ (((W.setCell ⟨b, 0, none⟩ (.int .i64 x)).setCell ⟨b, 1, none⟩ (.int .i64 y)).setCell ⟨b, 2, none⟩ (.int .i64 z)).cell? ⟨b, 1, none⟩ = some (.int .i64 y) ∧ (((W.setCell ⟨b, 0, none⟩ (.int .i64 x)).setCell ⟨b, 1, none⟩ (.int .i64 y)).setCell ⟨b, 2, none⟩ (.int .i64 z)).cell? ⟨b, 2, none⟩ = some (.int .i64 z) := by
  obtain ⟨c0, c1, c2, _, _, _, _⟩ := h
  refine ⟨?_, ?_, ?_⟩ <;> go_simp
theorem at_old' {W : World} {p : Addr} {v : Value} (h : W.cell? p = some v) (o : Obj) : (W.alloc o).cell? p = some v := by
  have := World.block_lt_of_cell? _ _ h
  rw [World.cell?_alloc_old _ _ _ (Nat.ne_of_lt this)]; exact h
theorem c_Index {x : ByteArray} {w : World} (g : GW w) : Calls Tryz.prog 30 #[.slice (some ⟨0, 0, none⟩) 4 4, .string x] w fun e w' => e = .returned (.int .i64 (Lib.idxOfS words4 x)) ∧ w' = w := by
  obtain ⟨h0, h1, h2, h3⟩ := g.words'
  refine Any.slices_Index_string Tryz.lays109 0 0 4 4 words4 x w (by decide) (by decide) fun j hj => ?_
  rcases (by simp [words4] at hj; omega : j = 0 ∨ j = 1 ∨ j = 2 ∨ j = 3) with rfl | rfl | rfl | rfl
  · exact h0
  · exact h1
  · exact h2
  · exact h3
theorem idx_rng (x : ByteArray) : -1 ≤ Lib.idxOfS words4 x ∧ Lib.idxOfS words4 x ≤ 3 := by
  simp only [Lib.idxOfS, words4, Lib.idxFromS]
  repeat' split
  all_goals decide
def cmV (o : Bool) (k a b : Int) : Value := if o then .tuple #[.agg #[.int .i64 k, .int .i64 a, .int .i64 b], .bool true] else .tuple #[.agg #[.int .i64 0, .int .i64 0, .int .i64 0], .bool false]
set_option maxRecDepth 100000 in
set_option maxHeartbeats 40000000 in
theorem c_ReadCmd {sh : Int → Int → Int → Option (List UInt8)} (cS : ∀ {k a b : Int} {t : List UInt8}, sh k a b = some t → ∀ {W : World}, GW W → Calls Tryz.prog 9 #[.agg #[.int .i64 k, .int .i64 a, .int .i64 b]] W fun e W' => e = .returned (.string ⟨t.toArray⟩) ∧ Below W.heap.size W W')
    {s : ByteArray} (hs : s.size < 4294967281) {k a b : Int} (hk : Lib.idxOfS words4 ((spB s).getD 0 ByteArray.empty) + 1 = k) (ha : numL (Lib.split s.data.toList [32]) 1 = a) (hb : numL (Lib.split s.data.toList [32]) 2 = b) {t : List UInt8} (ht : sh k a b = some t) {w : World} (g : GW w) :
    Calls Tryz.prog 10 #[.string s] w fun e w' => e = .returned (cmV (decide (s.data.toList ≠ [] ∧ t = s.data.toList)) k a b) ∧ Below w.heap.size w w' := by
  have hz0 : GW (w.alloc (.cells #[.int .i64 0, .int .i64 0, .int .i64 0] 31)) := g.below ((Below.refl _ _).alloc (Nat.le_refl _) _)
  have cW := c_words hs hz0
  obtain ⟨c, hc⟩ : ∃ c, numL (Lib.split s.data.toList [32]) 3 = c := ⟨_, rfl⟩
  have cN0 := fun h0 : Lib.countB s ⟨#[32]⟩ = 0 => c_nums hs ha hb hc hz0 (B := w.heap.size + 1) (n := 0) (o := 0) (by simp) h0.symm (.inr rfl)
  have cN1 := c_nums hs ha hb hc hz0 (B := w.heap.size + 1) (n := Lib.countB s ⟨#[32]⟩) (o := 1) (by simp) rfl (.inl rfl)
  go_enter Tryz.func10, Tryz.ntmps10
  go_upto_region 2 with (go_at_call 25; go_fit cW; rintro e w1 ⟨rfl, rfl⟩)
  go_cut [5] (fun v wx => ∃ w2 : World, Below (w.heap.size + 1 + 1) ((w.alloc (.cells #[.int .i64 0, .int .i64 0, .int .i64 0] 31)).alloc (.cells ((spB s).map Value.string).toArray 9)) w2 ∧ v = .pointer (some ⟨w2.heap.size, 0, none⟩) ∧ wx = w2.alloc (.cells #[.int .i64 a, .int .i64 b, .int .i64 c] 51))
  case first =>
    go_wp2_with (go_at_call 26; (first | go_fit cN1 | (have cN := cN0 (by first | assumption | omega); go_fit cN)); rintro e w2 ⟨rfl, hb2⟩)
    · have hz0 : Lib.countB s ⟨#[32]⟩ = 0 := by first | assumption | omega
      refine Met.intro ?_
      go_step
      repeat apply Exists.intro
      refine ⟨⟨_, by simpa using hb2, rfl, rfl⟩, by rw [hz0]⟩
    · go_meet
      exact ⟨_, by simpa using hb2, rfl, rfl⟩
  case rest =>
  obtain ⟨w2, hb2, rfl, rfl⟩ := hcut
  clear cN0 cN1
  go_upto_region 3 with fail
  have hB2 : Below w.heap.size w w2 := (alloc_below _ _).trans (((alloc_below _ _).trans (hb2.mono (by simp))).mono (by simp))
  have hR2 : Arr3 w2 w.heap.size := by
    have hlt : w.heap.size < w.heap.size + 1 + 1 := by omega
    constructor
    all_goals first | (rw [hb2.cell hlt]; go_simp; done) | (rw [hb2.frozen hlt]; go_simp; done) | (have := hb2.size; simp at this; omega)
  have hz : w2.cell? ⟨w.heap.size + 1, 0, none⟩ = some (.string ((spB s).getD 0 ByteArray.empty)) := by
    rw [hb2.cell (p := ⟨w.heap.size + 1, 0, none⟩) (by simp), World.cell?_alloc_at _ _ _ _ (by simp)]
    have := spB_len s
    simp [List.getD_eq_getElem?_getD, List.getElem?_eq_getElem (show 0 < (spB s).length by omega)]
  have g2 : GW (w2.alloc (.cells #[.int .i64 a, .int .i64 b, .int .i64 c] 51)).drew := (g.below hB2).below (alloc_below _ _).drew
  obtain ⟨x, hx⟩ : ∃ x, (spB s).getD 0 ByteArray.empty = x := ⟨_, rfl⟩
  obtain ⟨i, hi⟩ : ∃ i, Lib.idxOfS words4 x = i := ⟨_, rfl⟩
  have cI := c_Index (x := x) g2
  have cI2 := c_Index (x := x) (w := ((w2.alloc (.cells #[.int .i64 a, .int .i64 b, .int .i64 c] 51)).alloc (.cells #[.int .i64 0, .int .i64 0, .int .i64 0] 31)).drew) (((g.below hB2).below (alloc_below _ _)).below (alloc_below _ _).drew)
  rw [hx] at hz hk
  have hir : -1 ≤ i ∧ i ≤ 3 := hi ▸ idx_rng x
  rw [hi] at hk cI cI2
  have hw : IntKind.i64.wrap k = k := IntWalk.i64_in _ (by omega)
  have hz' := at_old' hz
  have hz'' := fun o o' => at_old' (hz' o) o'
  clear cW
  go_cut [6] (fun v wx => v = .pointer (some ⟨w2.heap.size + 1, 0, none⟩) ∧ wx = ((w2.alloc (.cells #[.int .i64 a, .int .i64 b, .int .i64 c] 51)).alloc (.cells #[.int .i64 k, .int .i64 a, .int .i64 b] 31)).drew)
  case first =>
    go_region_with (go_at_call 30; (first | refine cI.mono ?_ | refine cI2.mono ?_); rintro e w3 ⟨rfl, rfl⟩)
    all_goals (go_wp2_with fail; go_meet; exact ⟨rfl, rfl⟩)
  case rest =>
    obtain ⟨rfl, rfl⟩ := hcut
    have gW : GW ((w2.alloc (.cells #[.int .i64 a, .int .i64 b, .int .i64 c] 51)).alloc (.cells #[.int .i64 k, .int .i64 a, .int .i64 b] 31)).drew := ((g.below hB2).below (alloc_below _ _)).below (alloc_below _ _).drew
    have cT := cS ht gW
    have hBW : Below w.heap.size w ((w2.alloc (.cells #[.int .i64 a, .int .i64 b, .int .i64 c] 51)).alloc (.cells #[.int .i64 k, .int .i64 a, .int .i64 b] 31)).drew := (((hB2.alloc hB2.size _).alloc (by have := hB2.size; simp; omega) _)).drew
    have hRW : Arr3 ((w2.alloc (.cells #[.int .i64 a, .int .i64 b, .int .i64 c] 51)).alloc (.cells #[.int .i64 k, .int .i64 a, .int .i64 b] 31)).drew w.heap.size := (hR2.below (alloc_below _ _)).below (alloc_below _ _).drew
    have q0 : ((w2.alloc (.cells #[.int .i64 a, .int .i64 b, .int .i64 c] 51)).alloc (.cells #[.int .i64 k, .int .i64 a, .int .i64 b] 31)).drew.cell? ⟨w2.heap.size + 1, 0, none⟩ = some (.int .i64 k) := by go_simp
    have q1 : ((w2.alloc (.cells #[.int .i64 a, .int .i64 b, .int .i64 c] 51)).alloc (.cells #[.int .i64 k, .int .i64 a, .int .i64 b] 31)).drew.cell? ⟨w2.heap.size + 1, 1, none⟩ = some (.int .i64 a) := by go_simp
    have q2 : ((w2.alloc (.cells #[.int .i64 a, .int .i64 b, .int .i64 c] 51)).alloc (.cells #[.int .i64 k, .int .i64 a, .int .i64 b] 31)).drew.cell? ⟨w2.heap.size + 1, 2, none⟩ = some (.int .i64 b) := by go_simp
    have qs : w2.heap.size + 1 < ((w2.alloc (.cells #[.int .i64 a, .int .i64 b, .int .i64 c] 51)).alloc (.cells #[.int .i64 k, .int .i64 a, .int .i64 b] 31)).drew.heap.size := by simp
    generalize ((w2.alloc (.cells #[.int .i64 a, .int .i64 b, .int .i64 c] 51)).alloc (.cells #[.int .i64 k, .int .i64 a, .int .i64 b] 31)).drew = W at *
    obtain ⟨r0, r1, r2, f0, f1, f2, rl⟩ := id hRW
    by_cases hse : s.data.toList = []
    · have hemp : s.toList.isEmpty = true := by rw [toL, hse]; rfl
      go_wp2
      have hd : decide (s.data.toList ≠ [] ∧ t = s.data.toList) = false := decide_eq_false fun q => q.1 hse
      rw [hd]
      obtain ⟨d0, d1, d2⟩ := set3 hRW 0 0 0
      refine bodyPost_ret (v := cmV false k a b) ((results_cell_tmp rfl _ _ _).trans ?_) rfl ⟨rfl, ((hBW.setCell (by simp) _).setCell (by simp) _).setCell (by simp) _⟩
      generalize (((W.setCell ⟨w.heap.size, 0, none⟩ (.int .i64 0)).setCell ⟨w.heap.size, 1, none⟩ (.int .i64 0)).setCell ⟨w.heap.size, 2, none⟩ (.int .i64 0)) = F at *
      go_simp
      rfl
    · have hemp : s.toList.isEmpty = false := by rw [toL]; simpa using hse
      by_cases hte : t = s.data.toList
      · have hq : (t == s.toList) = true := by rw [toL]; simpa using hte
        go_wp2_with (go_at_call 9; go_fit cT; rintro e w4 ⟨rfl, hb4⟩; have hR4 := hRW.below hb4; obtain ⟨y0, y1, y2, z0, z1, z2, _⟩ := id hR4; have e0 := (hb4.cell qs).trans q0; have e1 := (hb4.cell qs).trans q1; have e2 := (hb4.cell qs).trans q2)
        have hd : decide (s.data.toList ≠ [] ∧ t = s.data.toList) = true := decide_eq_true ⟨hse, hte⟩
        rw [hd]
        obtain ⟨d0, d1, d2⟩ := set3 hR4 k a b
        refine bodyPost_ret (v := cmV true k a b) ((results_cell_tmp rfl _ _ _).trans ?_) rfl ⟨rfl, (((hBW.trans (hb4.mono hBW.size)).setCell (by simp) _).setCell (by simp) _).setCell (by simp) _⟩
        generalize (((w4.setCell ⟨w.heap.size, 0, none⟩ (.int .i64 k)).setCell ⟨w.heap.size, 1, none⟩ (.int .i64 a)).setCell ⟨w.heap.size, 2, none⟩ (.int .i64 b)) = F at *
        go_simp
        rfl
      · have hq : (t == s.toList) = false := by rw [toL]; simpa using hte
        go_wp2_with (go_at_call 9; go_fit cT; rintro e w4 ⟨rfl, hb4⟩; have hR4 := hRW.below hb4; obtain ⟨y0, y1, y2, z0, z1, z2, _⟩ := id hR4)
        have hd : decide (s.data.toList ≠ [] ∧ t = s.data.toList) = false := decide_eq_false fun q => hte q.2
        rw [hd]
        obtain ⟨d0, d1, d2⟩ := set3 hR4 0 0 0
        refine bodyPost_ret (v := cmV false k a b) ((results_cell_tmp rfl _ _ _).trans ?_) rfl ⟨rfl, (((hBW.trans (hb4.mono hBW.size)).setCell (by simp) _).setCell (by simp) _).setCell (by simp) _⟩
        generalize (((w4.setCell ⟨w.heap.size, 0, none⟩ (.int .i64 0)).setCell ⟨w.heap.size, 1, none⟩ (.int .i64 0)).setCell ⟨w.heap.size, 2, none⟩ (.int .i64 0)) = F at *
        go_simp
        rfl
end Go.Proofs.YtpkgcalilmlljaaGreatDoor
end
