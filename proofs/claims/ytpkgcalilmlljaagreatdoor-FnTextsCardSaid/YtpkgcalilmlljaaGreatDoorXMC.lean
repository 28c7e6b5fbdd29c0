import Derived.Test.YtpkgcalilmlljaaGreatDoorXMB
import Derived.Lib.ItoaLen
import Derived.Deep.RegionWith
set_option linter.unusedVariables false
set_option linter.unusedSimpArgs false
set_option linter.unusedSectionVars false
set_option linter.unnecessarySimpa false
set_option linter.constructorNameAsVariable false
section
/- Texts: walks: a command's text. -/
namespace Go.Proofs.YtpkgcalilmlljaaGreatDoor
open Go.RowKit Go.Sort
open Go.Gv (decsL wordC shCmd)
theorem decsL_app (a b : List Int) : decsL (a ++ b) = decsL a ++ decsL b := by
  induction a with
  | nil => rfl
  | cons x a ih => simp [decsL, ih]
theorem decsL_len {l : List Int} (h : ∀ n ∈ l, -9223372036854775808 ≤ n ∧ n ≤ 9223372036854775807) : (decsL l).length ≤ 22 * l.length := by
  induction l with
  | nil => simp [decsL]
  | cons x l ih =>
    have a := ih fun n hn => h n (List.mem_cons_of_mem _ hn)
    have b := Lib.itoa_length_le x (h x (List.mem_cons_self ..)).1 (h x (List.mem_cons_self ..)).2
    simp [decsL]; omega
set_option maxRecDepth 100000 in
theorem c_decs {b off c : Nat} {zs : List Int} (hn : zs.length ≤ 1000) (hr : ∀ n ∈ zs, -9223372036854775808 ≤ n ∧ n ≤ 9223372036854775807) {w : World} (g : GW w) (hb : b < w.heap.size) (hc : ∀ j, j < zs.length → w.cell? ⟨b, off + j, none⟩ = some (.int .i64 (zs.getD j 0))) :
    Calls Tryz.prog 24 #[.slice (some ⟨b, off, none⟩) zs.length c] w fun e w' => e = .returned (.string ⟨(decsL zs).toArray⟩) ∧ Below w.heap.size w w' := by
  go_enter Tryz.func24, Tryz.ntmps24
  go_wp2
  go_loopw [3, 8] (fun o i wr => ∃ k : Nat, k ≤ zs.length ∧ i = .int .i64 k ∧ o = .string ⟨(decsL (zs.take k)).toArray⟩ ∧ Below w.heap.size w wr)
    (fun _ i _ => zs.length - (intOf i).toNat)
  case atStart => exact ⟨0, Nat.zero_le _, rfl, rfl, Below.refl _ _⟩
  case round =>
    obtain ⟨k, hk, rfl, rfl, hB⟩ := hrel
    by_cases hlt : k < zs.length
    · have hck := (hB.cell (p := ⟨b, off + k, none⟩) (by exact hb)).trans (hc k hlt)
      have ez : zs.getD k 0 = zs[k] := by simp [List.getD_eq_getElem?_getD, List.getElem?_eq_getElem hlt]
      have cD := c_Dec (hr zs[k] (List.getElem_mem hlt)) (g.below hB)
      rw [ez] at hck
      have et : zs.take (k + 1) = zs.take k ++ [zs[k]] := List.take_succ_eq_append_getElem hlt
      have l1 := decsL_len (l := zs.take k) fun n hn => hr n (List.mem_of_mem_take hn)
      rw [List.length_take] at l1
      have l2 := Lib.itoa_length_le zs[k] (hr _ (List.getElem_mem hlt)).1 (hr _ (List.getElem_mem hlt)).2
      generalize zs[k] = z at *
      go_wp2_with (go_at_call 50; go_fit cD; rintro e w2 ⟨rfl, hb2⟩)
      go_roundw
      case rel => exact ⟨k + 1, by omega, by simp, by rw [et, decsL_app]; exact congrArg Value.string (WideShapes.bytes_inj (by simp [decsL])), hB.trans (hb2.mono hB.size)⟩
      case measure => simp [intOf]; omega
    · obtain rfl : k = zs.length := by omega
      go_wp2
      go_ret
      rw [List.take_length]
      exact ⟨rfl, hB⟩
theorem at_old {W : World} {p : Addr} {v : Value} (h : W.cell? p = some v) (o : Obj) : (W.alloc o).cell? p = some v := by
  have := World.block_lt_of_cell? _ _ h
  rw [World.cell?_alloc_old _ _ _ (Nat.ne_of_lt this)]; exact h
theorem c_decs1 {W : World} (g : GW W) {a : Int} (ra : -9223372036854775808 ≤ a ∧ a ≤ 9223372036854775807) : Calls Tryz.prog 24 #[.slice (some ⟨W.heap.size, 0, none⟩) 1 1] (W.alloc (.cells #[.int .i64 a] 3)).drew fun e w' => e = .returned (.string ⟨(decsL [a]).toArray⟩) ∧ Below W.heap.size W w' := by
  have hb : Below W.heap.size W (W.alloc (.cells #[.int .i64 a] 3)).drew := (alloc_below _ _).drew
  refine (c_decs (b := W.heap.size) (off := 0) (c := 1) (zs := [a]) (by simp) (by simpa using ra) (g.below hb) (by simp) fun j hj => ?_).mono fun e w' ⟨h1, h2⟩ => ⟨h1, hb.trans (h2.mono hb.size)⟩
  obtain rfl : j = 0 := by simpa using hj
  go_simp
theorem c_decs2 {W : World} (g : GW W) {a b : Int} (ra : -9223372036854775808 ≤ a ∧ a ≤ 9223372036854775807) (rb : -9223372036854775808 ≤ b ∧ b ≤ 9223372036854775807) : Calls Tryz.prog 24 #[.slice (some ⟨W.heap.size, 0, none⟩) 2 2] (W.alloc (.cells #[.int .i64 a, .int .i64 b] 3)).drew fun e w' => e = .returned (.string ⟨(decsL [a, b]).toArray⟩) ∧ Below W.heap.size W w' := by
  have hb : Below W.heap.size W (W.alloc (.cells #[.int .i64 a, .int .i64 b] 3)).drew := (alloc_below _ _).drew
  refine (c_decs (b := W.heap.size) (off := 0) (c := 2) (zs := [a, b]) (by simp) (by simp; exact ⟨ra, rb⟩) (g.below hb) (by simp) fun j hj => ?_).mono fun e w' ⟨h1, h2⟩ => ⟨h1, hb.trans (h2.mono hb.size)⟩
  rcases (by simp at hj; omega : j = 0 ∨ j = 1) with rfl | rfl <;> go_simp
theorem GW.words {w : World} (g : GW w) : w.cell? ⟨0, 0, none⟩ = some (.string ⟨#[103, 101, 116]⟩) ∧ w.cell? ⟨0, 1, none⟩ = some (.string ⟨#[112, 117, 116]⟩) ∧ w.cell? ⟨0, 2, none⟩ = some (.string ⟨#[100, 101, 108]⟩) ∧ w.cell? ⟨0, 3, none⟩ = some (.string ⟨#[97, 100, 100]⟩) := by
  have h := World.var?_cell (show Tryz.prog.globalNamed (nmL 6) = some 0 by kernel_rfl) g.cw
  exact ⟨h 0, h 1, h 2, h 3⟩
set_option maxRecDepth 100000 in
set_option maxHeartbeats 40000000 in
theorem c_ShowCmd {ok : Bool} {k a b : Int} (cK : ∀ {W : World}, Calls Tryz.prog 29 #[.agg #[.int .i64 k, .int .i64 a, .int .i64 b]] W fun e W' => e = .returned (.bool ok) ∧ Below W.heap.size W W') (hk : ok = true → 1 ≤ k ∧ k ≤ 4) (ha : ok = true → (-9223372036854775808 ≤ a ∧ a ≤ 9223372036854775807) ∧ (-9223372036854775808 ≤ b ∧ b ≤ 9223372036854775807)) {w : World} (g : GW w) :
    Calls Tryz.prog 9 #[.agg #[.int .i64 k, .int .i64 a, .int .i64 b]] w fun e w' => e = .returned (.string ⟨(shCmd ok k a b).toArray⟩) ∧ Below w.heap.size w w' := by
  have cK1 := @cK (w.alloc (.cells #[.int .i64 k, .int .i64 a, .int .i64 b] 31))
  cases ok with
  | false =>
    go_enter Tryz.func9, Tryz.ntmps9
    go_wp2_with (go_at_call 29; go_fit cK1; rintro e w1 ⟨rfl, hb1⟩)
    go_ret
    exact ⟨rfl, (alloc_below _ _).trans (hb1.mono (by simp))⟩
  | true =>
    obtain ⟨k1, k4⟩ := hk rfl
    obtain ⟨ra, rb⟩ := ha rfl
    have post : ∀ w1, Below (w.alloc (.cells #[.int .i64 k, .int .i64 a, .int .i64 b] 31)).heap.size (w.alloc (.cells #[.int .i64 k, .int .i64 a, .int .i64 b] 31)) w1 → (Below w.heap.size w w1 ∧ w.heap.size < w1.heap.size) ∧ w1.cell? ⟨w.heap.size, 0, none⟩ = some (.int .i64 k) ∧ w1.cell? ⟨w.heap.size, 1, none⟩ = some (.int .i64 a) ∧ w1.cell? ⟨w.heap.size, 2, none⟩ = some (.int .i64 b) := fun w1 hb => by
      have hlt : w.heap.size < (w.alloc (.cells #[.int .i64 k, .int .i64 a, .int .i64 b] 31)).heap.size := by simp
      refine ⟨⟨(alloc_below _ _).trans (hb.mono (by simp)), Nat.lt_of_lt_of_le hlt hb.size⟩, ?_, ?_, ?_⟩ <;> rw [hb.cell hlt] <;> go_simp
    rcases (by omega : k = 1 ∨ k = 2 ∨ k = 3 ∨ k = 4) with rfl | rfl | rfl | rfl
    · go_enter Tryz.func9, Tryz.ntmps9
      go_wp2_with (go_at_call 29; go_fit cK1; rintro e w1 ⟨rfl, hb1⟩; obtain ⟨⟨p1, p2⟩, e0, e1, e2⟩ := post w1 hb1; have g1 := g.below p1; obtain ⟨z0, z1, z2, z3⟩ := g1.words)
      have cD := c_decs1 g1 ra
      have hl : (decsL [a]).length ≤ 22 := decsL_len (l := [a]) (by simpa using ra)
      have hw : IntKind.i64.wrap 0 = 0 := by decide
      have z0' := at_old z0; have z1' := at_old z1; have z2' := at_old z2; have z3' := at_old z3; have e0' := at_old e0; have e1' := at_old e1; have e2' := at_old e2
      go_region_with (go_at_call 24; refine cD.mono ?_; rintro e w2 ⟨rfl, hb2⟩; obtain ⟨y0, y1, y2, y3⟩ := (g1.below hb2).words; have d0 := (hb2.cell p2).trans e0; have d1 := (hb2.cell p2).trans e1; have d2 := (hb2.cell p2).trans e2)
      all_goals go_wp2
      all_goals go_ret
      all_goals exact ⟨congrArg (fun x => Ending.returned (Value.string x)) (WideShapes.bytes_inj (by simp [shCmd, wordC])), p1.trans (Below.mono (by assumption) p1.size)⟩
    · go_enter Tryz.func9, Tryz.ntmps9
      go_wp2_with (go_at_call 29; go_fit cK1; rintro e w1 ⟨rfl, hb1⟩; obtain ⟨⟨p1, p2⟩, e0, e1, e2⟩ := post w1 hb1; have g1 := g.below p1; obtain ⟨z0, z1, z2, z3⟩ := g1.words)
      have cD := c_decs2 g1 ra rb
      have hl : (decsL [a, b]).length ≤ 44 := decsL_len (l := [a, b]) (by simp; exact ⟨ra, rb⟩)
      have hw : IntKind.i64.wrap 1 = 1 := by decide
      have z0' := at_old z0; have z1' := at_old z1; have z2' := at_old z2; have z3' := at_old z3; have e0' := at_old e0; have e1' := at_old e1; have e2' := at_old e2
      go_region_with (go_at_call 24; refine cD.mono ?_; rintro e w2 ⟨rfl, hb2⟩; obtain ⟨y0, y1, y2, y3⟩ := (g1.below hb2).words; have d0 := (hb2.cell p2).trans e0; have d1 := (hb2.cell p2).trans e1; have d2 := (hb2.cell p2).trans e2)
      all_goals go_wp2
      all_goals go_ret
      all_goals exact ⟨congrArg (fun x => Ending.returned (Value.string x)) (WideShapes.bytes_inj (by simp [shCmd, wordC])), p1.trans (Below.mono (by assumption) p1.size)⟩
    · go_enter Tryz.func9, Tryz.ntmps9
      go_wp2_with (go_at_call 29; go_fit cK1; rintro e w1 ⟨rfl, hb1⟩; obtain ⟨⟨p1, p2⟩, e0, e1, e2⟩ := post w1 hb1; have g1 := g.below p1; obtain ⟨z0, z1, z2, z3⟩ := g1.words)
      have cD := c_decs1 g1 ra
      have hl : (decsL [a]).length ≤ 22 := decsL_len (l := [a]) (by simpa using ra)
      have hw : IntKind.i64.wrap 2 = 2 := by decide
      have z0' := at_old z0; have z1' := at_old z1; have z2' := at_old z2; have z3' := at_old z3; have e0' := at_old e0; have e1' := at_old e1; have e2' := at_old e2
      go_region_with (go_at_call 24; refine cD.mono ?_; rintro e w2 ⟨rfl, hb2⟩; obtain ⟨y0, y1, y2, y3⟩ := (g1.below hb2).words; have d0 := (hb2.cell p2).trans e0; have d1 := (hb2.cell p2).trans e1; have d2 := (hb2.cell p2).trans e2)
      all_goals go_wp2
      all_goals go_ret
      all_goals exact ⟨congrArg (fun x => Ending.returned (Value.string x)) (WideShapes.bytes_inj (by simp [shCmd, wordC])), p1.trans (Below.mono (by assumption) p1.size)⟩
    · go_enter Tryz.func9, Tryz.ntmps9
      go_wp2_with (go_at_call 29; go_fit cK1; rintro e w1 ⟨rfl, hb1⟩; obtain ⟨⟨p1, p2⟩, e0, e1, e2⟩ := post w1 hb1; have g1 := g.below p1; obtain ⟨z0, z1, z2, z3⟩ := g1.words)
      have cD := c_decs2 g1 ra rb
      have hl : (decsL [a, b]).length ≤ 44 := decsL_len (l := [a, b]) (by simp; exact ⟨ra, rb⟩)
      have hw : IntKind.i64.wrap 3 = 3 := by decide
      have z0' := at_old z0; have z1' := at_old z1; have z2' := at_old z2; have z3' := at_old z3; have e0' := at_old e0; have e1' := at_old e1; have e2' := at_old e2
      go_region_with (go_at_call 24; refine cD.mono ?_; rintro e w2 ⟨rfl, hb2⟩; obtain ⟨y0, y1, y2, y3⟩ := (g1.below hb2).words; have d0 := (hb2.cell p2).trans e0; have d1 := (hb2.cell p2).trans e1; have d2 := (hb2.cell p2).trans e2)
      all_goals go_wp2
      all_goals go_ret
      all_goals exact ⟨congrArg (fun x => Ending.returned (Value.string x)) (WideShapes.bytes_inj (by simp [shCmd, wordC])), p1.trans (Below.mono (by assumption) p1.size)⟩
end Go.Proofs.YtpkgcalilmlljaaGreatDoor
end
