import Derived.Test.YtpkgcalilmlljaaGreatDoorXKB
set_option linter.unusedVariables false
set_option linter.unusedSimpArgs false
set_option linter.unusedSectionVars false
set_option linter.unnecessarySimpa false
set_option linter.constructorNameAsVariable false
section
/-
  Functions az values. Nothing of a program here.
-/
namespace Go.Gv
section
variable {P : Program} {T : TT} {hT : TOk P T} {n : Nat} {c : Ctx} {B0 : Bl} {N : Act → World → Prop} {X : Nat → Act → World → Prop} {Q : Act → World → Prop} {K K' : List Fr} {m m' : Nat} {e e' : SE} {L L' : List Ch} {cf cf1 cf2 : Cfg} {o : Oper} {Lv : List Ch} {d : Nat}
/-- A function value that does what p does. -/
def Fu1 (P : Program) (c : Ctx) {α β : Type} {iR : Rep α} (C : Cel α) (sr : β → SV) (g : FuncId) (cap : List Value) (p : α → Option β) : Prop :=
  (∀ args w, (callFunc g args).run P w = .ok (.enter g args) w) ∧ ∀ w, Keep c.W c.w0 w → ∀ x y, C.sub (All w) w x y → ∀ q, p x = some q → ∀ v, toV [] (C.sv x y) = some v → Calls P g (v :: cap).toArray w (Ret fun u w' => toV [] (sr q) = some u ∧ StS (cxAll w) w' [] [])
def Fu2 (P : Program) (c : Ctx) {α α' β : Type} {iR : Rep α} {iR' : Rep α'} (C : Cel α) (C' : Cel α') (sr : β → SV) (g : FuncId) (cap : List Value) (p : α → α' → Option β) : Prop :=
  (∀ args w, (callFunc g args).run P w = .ok (.enter g args) w) ∧ ∀ w, Keep c.W c.w0 w → ∀ x y x' y', C.sub (All w) w x y → C'.sub (All w) w x' y' → ∀ q, p x x' = some q → ∀ v v', toV [] (C.sv x y) = some v → toV [] (C'.sv x' y') = some v' → Calls P g (v :: v' :: cap).toArray w (Ret fun u w' => toV [] (sr q) = some u ∧ StS (cxAll w) w' [] [])
theorem keep_sub {α : Type} {iR : Rep α} (C : Cel α) {w : World} {B : Bl} (hS : StS c w B L) {x : α} {y : C.ex} (h : C.sub c.S0 c.w0 x y) : C.sub (All w) w x y := by
  refine C.subk h (fun b o hb => ?_) (S0_All hS)
  obtain ⟨⟨R, s1, _⟩, s0⟩ := hS
  exact s1.keep.cell b o (s0 b o hb) fun hw => s1.apart b o hw hb
theorem StS.keepW {w : World} {B : Bl} (hS : StS c w B L) : Keep c.W c.w0 w := by
  obtain ⟨⟨R, s1, _⟩, s0⟩ := hS
  exact s1.keep
section
variable {α α' β γ : Type} {iR : Rep α} {iR' : Rep α'} {C : Cel α} {C' : Cel α'} {sr : β → SV} {g : FuncId} {cap : List Value} {q : γ} {kf : β → Option γ} {fo : Operand} {args : Array Operand} {ats : Array TypeId}
theorem rc_callc {f : FuncId} {x : Operand} {ts : Array TypeId} {vs : List Value} {E : Env} {w : World} (hcall : ∀ args w, (callFunc f args).run P w = .ok (.enter f args) w) (ho : o.op = .call { callee := .value x, args := args, argTypes := ts }) (hx : ev E x = some (.func (.func f) #[] cap.toArray)) (hv : evs E args.toList = some vs) : RunC P o E w f (vs ++ cap).toArray :=
  rc_callv (w := w) (cap := cap) (xs := args.toList) (vs := vs) hcall (by omega) hx hv
theorem take0 {B : Bl} {x : SV} {v : Value} (h : okN 0 x = true) (hv : toV B x = some v) : toV [] x = some v := by
  have := okN_toV h hv
  grind
theorem fa1 {p : α → Option β} (H : Fu1 P c C sr g cap p) (x : α) (y : C.ex) (hs : stq T n K cf m e L = .op o Lv cf1 cf2 K' m' e' L') (ho : (o.op, o.dst) = (.call { callee := .value fo, args := args, argTypes := ats }, some d)) (hf : evS e' fo = some (.k (.func (.func g) #[] cap.toArray))) (hx : (mapO (evS e') args.toList).map nbT = some [C.sv x y]) (hz : okN 0 (C.sv x y) = true) (hy : C.sub c.S0 c.w0 x y) (hF : (p x).bind kf = some q)
    (k : ∀ z, p x = some z → kf z = some q → G (.mk P T hT n c B0 N X Q) K' m' ((d, sr z) :: e') L' cf2) : G (.mk P T hT n c B0 N X Q) K m e L cf := by
  refine stq_ok (g := .mk P T hT n c B0 N X Q) ?_
  rw [hs]
  intro hdn _ hE
  obtain ⟨hcall, hrun⟩ := H
  cases hp : p x with
  | none => grind
  | some z =>
    rw [hp] at hF
    refine hE Unit (fun _ => m') (fun _ => (d, sr z) :: e') (fun _ => L') (fun _ => by simpa using frz_app (L := L') []) (fun B a w next Q' hm hA hS hnext => ?_) (fun _ => k z hp hF)
    cases hys : mapO (evS e') args.toList with
    | none => grind
    | some ys =>
      rw [hys] at hx
      simp at hx
      obtain ⟨vs, h1, h2⟩ := evs_S hA hys
      obtain ⟨u, h3, h4⟩ := evS_ok hA hf
      simp only [toV, gV, cellV] at h3
      split at h3
      · cases h3
        rw [← nbT_toV, hx] at h1
        simp only [mapO] at h1
        cases hv : toV (B0S (.mk P T hT n c B0 N X Q) cf1 ++ B) (C.sv x y) with
        | none => grind
        | some v =>
          rw [hv] at h1
          cases h1
          have h6 := rc_callc (w := w) hcall (congrArg Prod.fst ho) h4 h2
          have hd : o.dst = some d := congrArg Prod.snd ho
          unfold Oper.wp
          rw [h6 _ a hA.env, Oper.upon_enter]
          refine Calls.mono (hrun w hS.keepW x y (keep_sub C hS hy) z hp v (take0 hz hv)) fun en w' ⟨v', hv', g1, g2⟩ => ?_
          subst hv'
          rw [hd] at hdn ⊢
          have g3 := toV_app (B0S (.mk P T hT n c B0 N X Q) cf1 ++ B) g1
          exact hnext () _ _ ⟨[], by grind, by simpa using hA.of (by grind) (hA.env.put (by grind [dstOk, Nat.blt_eq]) v'), by simpa using hS.after (L2 := []) rfl g2⟩
      · cases h3
theorem fa2 {p : α → α' → Option β} (H : Fu2 P c C C' sr g cap p) (x : α) (y : C.ex) (x' : α') (y' : C'.ex) (hs : stq T n K cf m e L = .op o Lv cf1 cf2 K' m' e' L') (ho : (o.op, o.dst) = (.call { callee := .value fo, args := args, argTypes := ats }, some d)) (hf : evS e' fo = some (.k (.func (.func g) #[] cap.toArray))) (hx : (mapO (evS e') args.toList).map nbT = some [C.sv x y, C'.sv x' y']) (hz : (okN 0 (C.sv x y) && okN 0 (C'.sv x' y')) = true) (hy : C.sub c.S0 c.w0 x y) (hy' : C'.sub c.S0 c.w0 x' y') (hF : (p x x').bind kf = some q)
    (k : ∀ z, p x x' = some z → kf z = some q → G (.mk P T hT n c B0 N X Q) K' m' ((d, sr z) :: e') L' cf2) : G (.mk P T hT n c B0 N X Q) K m e L cf := by
  refine stq_ok (g := .mk P T hT n c B0 N X Q) ?_
  rw [hs]
  intro hdn _ hE
  obtain ⟨hcall, hrun⟩ := H
  rw [Bool.and_eq_true] at hz
  cases hp : p x x' with
  | none => grind
  | some z =>
    rw [hp] at hF
    refine hE Unit (fun _ => m') (fun _ => (d, sr z) :: e') (fun _ => L') (fun _ => by simpa using frz_app (L := L') []) (fun B a w next Q' hm hA hS hnext => ?_) (fun _ => k z hp hF)
    cases hys : mapO (evS e') args.toList with
    | none => grind
    | some ys =>
      rw [hys] at hx
      simp at hx
      obtain ⟨vs, h1, h2⟩ := evs_S hA hys
      obtain ⟨u, h3, h4⟩ := evS_ok hA hf
      simp only [toV, gV, cellV] at h3
      split at h3
      · cases h3
        rw [← nbT_toV, hx] at h1
        simp only [mapO] at h1
        cases hv : toV (B0S (.mk P T hT n c B0 N X Q) cf1 ++ B) (C.sv x y) with
        | none => grind
        | some v =>
          cases hv2 : toV (B0S (.mk P T hT n c B0 N X Q) cf1 ++ B) (C'.sv x' y') with
          | none => grind
          | some v2 =>
            rw [hv, hv2] at h1
            cases h1
            have h6 := rc_callc (w := w) hcall (congrArg Prod.fst ho) h4 h2
            have hd : o.dst = some d := congrArg Prod.snd ho
            unfold Oper.wp
            rw [h6 _ a hA.env, Oper.upon_enter]
            refine Calls.mono (hrun w hS.keepW x y x' y' (keep_sub C hS hy) (keep_sub C' hS hy') z hp v v2 (take0 hz.1 hv) (take0 hz.2 hv2)) fun en w' ⟨v', hv', g1, g2⟩ => ?_
            subst hv'
            rw [hd] at hdn ⊢
            have g3 := toV_app (B0S (.mk P T hT n c B0 N X Q) cf1 ++ B) g1
            exact hnext () _ _ ⟨[], by grind, by simpa using hA.of (by grind) (hA.env.put (by grind [dstOk, Nat.blt_eq]) v'), by simpa using hS.after (L2 := []) rfl g2⟩
      · cases h3
/-- A function that is named. -/
theorem fu1 {w : World} {p : α → Option β} (hc : ∀ args w, (callFunc g args).run P w = .ok (.enter g args) w) (hn : ∀ {κ : Ctx} {x y}, C.sub κ.S0 κ.w0 x y → ∀ {q}, p x = some q → Fn0 P g κ [C.sv x y] sr q) : Fu1 P (cxAll w) C sr g [] p :=
  ⟨hc, fun w1 _ x y hy q hq v hv => by
    refine Calls.mono ((hn (κ := cxAll w1) hy hq).run [v] (by simp [mapO, hv]) (stS0 w1)) fun en w' ⟨v', h1, y, h2, h3⟩ => ⟨v', h1, h2, h3⟩⟩
theorem fu2 {w : World} {p : α → α' → Option β} (hc : ∀ args w, (callFunc g args).run P w = .ok (.enter g args) w) (hn : ∀ {κ : Ctx} {x y x' y'}, C.sub κ.S0 κ.w0 x y → C'.sub κ.S0 κ.w0 x' y' → ∀ {q}, p x x' = some q → Fn0 P g κ [C.sv x y, C'.sv x' y'] sr q) : Fu2 P (cxAll w) C C' sr g [] p :=
  ⟨hc, fun w1 _ x y x' y' hy hy' q hq v v' hv hv' => by
    refine Calls.mono ((hn (κ := cxAll w1) hy hy' hq).run [v, v'] (by grind [mapO]) (stS0 w1)) fun en w' ⟨v', h1, y, h2, h3⟩ => ⟨v', h1, h2, h3⟩⟩
end
/-! ### Functions with captured boxes -/
def roL : Nat → List (Nat × List SV) → List Ch
  | _, [] => []
  | k, (_, cs) :: r => .ro k cs :: roL (k + 1) r
def roS : List (Nat × List SV) → List Ch
  | [] => []
  | (n, cs) :: r => .ro n cs :: roS r
def capP : Nat → List (Nat × List SV) → List SV
  | _, [] => []
  | k, _ :: r => .p k 0 :: capP (k + 1) r
def capB (Bs : Bl) : List Value := Bs.map fun b => .pointer (some ⟨b.1, b.2, none⟩)
theorem rk {α : Type} [Rep α] {w w1 : World} {s : AC} {l : List α} (hk : Keep F0 w w1) (h : RdA (cxAll w) s l) : RdA (cxAll w1) s l :=
  Rep.rd_mono (Rep.rd_agree h fun b o hb => hk.cell b o hb fun h => h) fun b o hb => Nat.lt_of_lt_of_le hb hk.size
/-- A function value with captured boxes, that none writes any more. -/
theorem fk1 {α β : Type} {iR : Rep α} {C : Cel α} {sr : β → SV} {g : FuncId} {w : World} {Bs : Bl} {cs : List (Nat × List SV)} {p : α → Option β} (hc : ∀ args w, (callFunc g args).run P w = .ok (.enter g args) w) (hB : ∀ w1, Keep F0 w w1 → StS (cxAll w1) w1 Bs (roL 0 cs)) (hl : mapO (toV Bs) (capP 0 cs) = some (capB Bs)) (hz : ∀ q, okN 0 (sr q) = true) (hn : ∀ {w1 x y}, Keep F0 w w1 → C.sub (All w1) w1 x y → ∀ {q}, p x = some q → FnS P g (cxAll w1) (C.sv x y :: capP 0 cs) Bs (roL 0 cs) (fun r (_ : Unit) => sr r) (fun _ _ => []) q) : Fu1 P (cxAll w) C sr g (capB Bs) p :=
  ⟨hc, fun w1 hk x y hy q hq v hv => by
    have hv' : toV Bs (C.sv x y) = some v := by simpa using toV_app (B := []) Bs hv
    refine Calls.mono ((hn hk hy hq).run (v :: capB Bs) (by grind [mapO]) (hB w1 hk)) fun en w' ⟨v', h1, y', h2, h3⟩ => ⟨v', h1, ?_, ?_⟩
    · grind [take0]
    · simpa using take_ok (m := 0) h3 rfl⟩
theorem roL_get : ∀ {cs : List (Nat × List SV)} {k : Nat} {x : Ch}, x ∈ roL k cs → ∃ j n c, cs[j]? = some (n, c) ∧ x = .ro (k + j) c
  | (n, c) :: r, k, x, h => by
    rcases List.mem_cons.1 h with h | h
    · simp_all
    · obtain ⟨j, n', c', h1, h2⟩ := roL_get h
      exact ⟨j + 1, n', c', by grind, by grind⟩
theorem roS_mem : ∀ {cs : List (Nat × List SV)} {n : Nat} {c : List SV}, (n, c) ∈ cs → Ch.ro n c ∈ roS cs
  | (n', c') :: r, n, c, h => by
    rcases List.mem_cons.1 h with h | h
    · cases h; exact List.mem_cons_self ..
    · exact List.mem_cons_of_mem _ (roS_mem h)
theorem kl_sub {L : List Ch} {is : List Nat} {x : Ch} (h : x ∈ kl L is) : x ∈ L := kl_mem h
/-- The blocks of captured boxes. -/
theorem cap_bl {B : Bl} {cs : List (Nat × List SV)} {cap : List Value} : mapO (capV B) (cs.map (·.1)) = some cap → ∃ Bs : Bl, cap = capB Bs ∧ Bs.length = cs.length ∧ ∀ (j : Nat) n c, cs[j]? = some (n, c) → ∃ b, Bs[j]? = some b ∧ B[n]? = some b := by
  induction cs generalizing cap with
  | nil => intro h; cases h; exact ⟨[], rfl, rfl, by simp⟩
  | cons p r ih =>
    obtain ⟨n, c⟩ := p
    intro h
    simp only [List.map_cons, mapO] at h
    split at h
    · cases h
    · rename_i v hv
      split at h
      · cases h
      · rename_i vs hvs
        cases h
        obtain ⟨Bs, h1, h2, h3⟩ := ih hvs
        simp only [capV] at hv
        split at hv
        · rename_i b z hb
          cases hv
          refine ⟨(b, z) :: Bs, by simp [capB, h1], by simp [h2], fun j n' c' hj => ?_⟩
          grind
        · cases hv
def okCs : List (Nat × List SV) → Bool
  | [] => true
  | (_, c) :: r => okN.okC 0 c && okCs r
theorem okCs_get : ∀ {cs : List (Nat × List SV)} {j n : Nat} {c : List SV}, okCs cs = true → cs[j]? = some (n, c) → okN.okC 0 c = true
  | (n', c') :: r, 0, n, c, h, hj => by
    simp_all [okCs]
  | (n', c') :: r, j + 1, n, c, h, hj => by
    simp only [okCs, Bool.and_eq_true] at h
    exact okCs_get h.2 (by simpa using hj)
theorem cap_st {w : World} {B Bs : Bl} {cs : List (Nat × List SV)} (hS : StS c w B L) (hk : ∀ x ∈ roS cs, x ∈ L) (ho : okCs cs = true) (hB : ∀ (j : Nat) n c, cs[j]? = some (n, c) → ∃ b, Bs[j]? = some b ∧ B[n]? = some b) : ∀ w1, Keep F0 w w1 → StS (cxAll w1) w1 Bs (roL 0 cs) := by
  intro w1 hkp
  have facts : ∀ x ∈ roL 0 cs, ∃ (f : Fact), f.P (All w1) w1 ∧ (∀ R, f ∈ R → roF Bs R x) ∧ chd Bs x = cNo := by
    intro x hx
    obtain ⟨j, n, cc, h1, h2⟩ := roL_get hx
    subst h2
    obtain ⟨⟨R, s1, s2⟩, s0⟩ := hS
    obtain ⟨b, z, vs, g1, g2, g3⟩ := s2 _ (hk _ (roS_mem (List.mem_of_getElem? h1)))
    obtain ⟨b', q1, q2⟩ := hB j n cc h1
    rw [g1] at q2; cases q2
    have hc0 := okC_map (okCs_get ho h1) g2
    rw [List.take_zero] at hc0
    obtain ⟨i, hi⟩ := List.getElem?_of_mem g3
    refine ⟨fAt b z vs, keepP (s1.fact i hi) hkp, fun R hR => ⟨b, z, vs, by simpa using q1, mapO_mono (fun x v h => by simpa using cellV_app (B := []) Bs h) hc0, hR⟩, rfl⟩
  have build : ∀ M : List Ch, (∀ x ∈ M, x ∈ roL 0 cs) → ∃ R : List Fact, (∀ f ∈ R, f.P (All w1) w1) ∧ (∀ x ∈ M, roF Bs R x) ∧ M.map (chd Bs) = List.replicate M.length cNo := by
    intro M
    induction M with
    | nil => exact fun _ => ⟨[], by simp, by simp, rfl⟩
    | cons x M ih =>
      intro hM
      obtain ⟨R, h1, h2, h3⟩ := ih fun y hy => hM y (List.mem_cons_of_mem _ hy)
      obtain ⟨f, f1, f2, f3⟩ := facts x (hM x (by simp))
      refine ⟨f :: R, fun g hg => ?_, fun y hy => ?_, by simp [f3, h3, List.replicate_succ]⟩
      · rcases List.mem_cons.1 hg with hg | hg
        · subst hg; exact f1
        · exact h1 g hg
      · rcases List.mem_cons.1 hy with hy | hy
        · subst hy; exact f2 _ (by simp)
        · exact roF_mono (fun g hg => List.mem_cons_of_mem _ hg) (h2 y hy)
  obtain ⟨R, h1, h2, h3⟩ := build (roL 0 cs) fun _ h => h
  refine ⟨⟨R, ?_, h2⟩, fun _ _ h => h⟩
  rw [h3]
  have h4 : St (cxAll w1) w1 [] R := St.enter h1
  generalize (roL 0 cs).length = k
  clear h3
  induction k with
  | zero => exact h4
  | succ k ih =>
    rw [List.replicate_succ']
    exact St.more (ch := cNo) ih (Keep.refl _ _) ⟨F0, fun _ _ h => h, fun _ _ h => h.elim⟩
/-- Captured boxes are never written again. -/
def shr (ns : List Nat) : List Ch → List Ch
  | [] => []
  | .box n cs :: L => match notIn n ns with
    | true => .box n cs :: shr ns L
    | false => .ro n cs :: shr ns L
  | x :: L => x :: shr ns L
theorem St.leakAt {w : World} {M : List Chunk} {R : List Fact} {b z i : Nat} {vs : List Value} (h : St c w M R) (hi : M[i]? = some (cAt b z vs)) : St c w (M.set i cNo) (R ++ [fAt b z vs]) := by
  have h1 := h.take i hi
  obtain ⟨F, S, ⟨F1, F2, h1, h2, hd, hF⟩, a2, a3, a4, a5, a6⟩ := h1.sep
  have hlt : ∀ b' o, F1 b' o → b' < w.heap.size := fun _ _ hf => Chunk.lt (cAt b z vs) h1 hf
  obtain ⟨g1, g2, g3⟩ := h1
  refine ⟨h.keep, ⟨F2, fun b o => S b o ∨ F1 b o, h2, ?_, fun b o hf => a3 b o ((hF b o).2 (.inr hf)), ?_, ?_, ?_⟩, h.apart⟩
  · rintro b o hf (hs | hs)
    · exact a2 b o ((hF b o).2 (.inr hf)) hs
    · exact hd b o hs hf
  · grind
  · grind
  · intro f hf
    rcases List.mem_append.1 hf with hf | hf
    · exact f.mono (a6 f hf) fun b o hs => .inl hs
    · simp at hf; subst hf
      exact ⟨g1, fun o ho => .inr ((g3 b o).2 ho)⟩
theorem shr_ok {w : World} {B : Bl} (ns : List Nat) : ∀ (M L : List Ch), StS c w B (M ++ L) → StS c w B (M ++ shr ns L)
  | M, [], h => h
  | M, x :: L, h => by
    have gen : StS c w B (M ++ x :: shr ns L) := by
      have := shr_ok ns (M ++ [x]) L (by simpa using h)
      grind
    cases x with
    | box n cs =>
      simp only [shr]
      split
      · exact gen
      · obtain ⟨⟨R, s1, s2⟩, s0⟩ := gen
        have hi : ((M ++ Ch.box n cs :: shr ns L).map (chd B))[M.length]? = some (boxC B n cs) := by simp [chd]
        obtain ⟨F, b, z, vs, h3, h4, h5⟩ := s1.chunk (ch := boxC B n cs) M.length hi
        have s3 := s1.imp (ImpL.put M.length hi fun F ⟨b', z', vs', q1, q2, q3⟩ => by
          rw [h3] at q1; cases q1; rw [h4] at q2; cases q2; exact q3)
        have s4 := s3.leakAt (b := b) (z := z) (vs := vs) (i := M.length) (by rw [List.getElem?_set_self]; simp)
        refine ⟨⟨R ++ [fAt b z vs], ?_, fun x hx => ?_⟩, s0⟩
        · have : ((M ++ Ch.ro n cs :: shr ns L).map (chd B)) = (((M ++ Ch.box n cs :: shr ns L).map (chd B)).set M.length (cAt b z vs)).set M.length cNo := by
            simp [chd]
          grind
        · rcases List.mem_append.1 hx with hx | hx
          · exact roF_mono (fun f hf => List.mem_append_left _ hf) (s2 x (List.mem_append_left _ hx))
          · rcases List.mem_cons.1 hx with hx | hx
            · subst hx; exact ⟨b, z, vs, h3, h4, by simp⟩
            · exact roF_mono (fun f hf => List.mem_append_left _ hf) (s2 x (List.mem_append_right _ (List.mem_cons_of_mem _ hx)))
    | _ => exact gen
/-- A function literal. -/
theorem mf {f : FuncId} {caps : Array Operand} {ops : Array Oper} {l : List Oper} (ns : List Nat) (hs : stq T n K cf m e L = .op o Lv (.r ops l) cf2 K' m' e' L') (ho : (o.op, o.dst) = (.makeFunc (.func f) #[] caps, some d)) (hx : mapO (evS e') caps.toList = some (ns.map fun n => .p n 0))
    (k : G (.mk P T hT n c B0 N X Q) K' m' ((d, .f f ns) :: e') (shr ns L') cf2) : G (.mk P T hT n c B0 N X Q) K m e L cf := by
  refine stq_ok (g := .mk P T hT n c B0 N X Q) ?_
  rw [hs]
  intro hdn _ hE
  refine hE Unit (fun _ => m') (fun _ => (d, .f f ns) :: e') (fun _ => shr ns L') (fun _ => trivial) (fun B a w next Q' hm hA hS hnext => ?_) (fun _ => k)
  obtain ⟨vs, h1, h2⟩ := evs_S hA hx
  have hd : o.dst = some d := congrArg Prod.snd ho
  have h3 : ∀ {ns : List Nat} {vs : List Value}, mapO (toV (B0S (.mk P T hT n c B0 N X Q) (.r ops l) ++ B)) (ns.map fun n => SV.p n 0) = some vs → mapO (capV (B0S (.mk P T hT n c B0 N X Q) (.r ops l) ++ B)) ns = some vs := by
    intro ns
    induction ns with
    | nil => intro vs h; exact h
    | cons jj ns ih =>
      grind [mapO, capV, toV, gV, cellV]
  have h5 : ∀ {os : List Operand} {vs : List Value}, evs (vE (B0S (.mk P T hT n c B0 N X Q) (.r ops l) ++ B) e') os = some vs → os.map (ev (vE (B0S (.mk P T hT n c B0 N X Q) (.r ops l) ++ B) e')) = vs.map some := by
    intro os
    induction os with
    | nil => intro vs h; cases h; rfl
    | cons o os ih =>
      grind [evs]
  have h6 := rv_func (P := P) (w := w) (vf := []) (vc := vs) (congrArg Prod.fst ho) rfl (h5 h2)
  unfold Oper.wp
  rw [h6 _ a hA.env, Oper.upon_value, hd]
  rw [hd] at hdn
  have h7 : toV (B0S (.mk P T hT n c B0 N X Q) (.r ops l) ++ B) (.f f ns) = some (.func (.func f) #[] vs.toArray) := by grind [toV]
  exact hnext () _ _ ⟨[], by grind, by simpa using hA.of h7 (hA.env.put (by grind [dstOk, Nat.blt_eq]) _), by simpa using shr_ok ns [] L' hS⟩
/-- A call that is handed a function with captured boxes, at the end of its arguments. -/
theorem clc {α β : Type} {fo : Option α} {kf : α → Option β} {q : β} {f g : FuncId} {xs xs0 : List SV} {sv : α → SV} (is : List Nat) (cs : List (Nat × List SV)) (hs : stq T n K cf m e L = .callp o (some d) f xs cf1 cf2 K' m' e' L') (hk : kl L' is = roS cs) (ho : (okCs cs && okA xs.dropLast) = true) (hx : xs = xs.dropLast ++ [.f g (cs.map (·.1))])
    (hc : ∀ {w}, HS c w L' → ∀ {Bs : Bl}, Bs.length = cs.length → (∀ w1, Keep F0 w w1 → StS (cxAll w1) w1 Bs (roL 0 cs)) → ∀ {x}, fo = some x → Fn0 P f (cxAll w) (xs.dropLast ++ [.k (.func (.func g) #[] (capB Bs).toArray)]) sv x) (hF : fo.bind kf = some q)
    (k : ∀ x, fo = some x → kf x = some q → G (.mk P T hT n c B0 N X Q) K' m' ((d, sv x) :: e') L' cf2) : G (.mk P T hT n c B0 N X Q) K m e L cf := by
  refine stq_ok (g := .mk P T hT n c B0 N X Q) ?_
  rw [hs]
  intro fo' args ats ho' hd hf ⟨ys, hys, hxs⟩ hdn hE
  rw [Bool.and_eq_true] at ho
  cases hfo : fo with
  | none => grind
  | some x =>
    rw [hfo] at hF
    refine hE Unit (fun _ => m') (fun _ => (d, sv x) :: e') (fun _ => L') (fun _ => by simpa using frz_app (L := L') []) (fun B a w next Q' hm hA hS hnext => ?_) (fun _ => k x hfo hF)
    obtain ⟨vs, h1, h2⟩ := evs_S hA hys
    obtain ⟨v, h3, h4⟩ := evS_ok hA hf
    simp [toV, mapO] at h3
    subst h3
    rw [← nbA_toV, hxs] at h1
    rw [hx] at h1
    have split : ∀ {az : List SV} {b : SV} {vs : List Value} {B : Bl}, mapO (toV B) (az ++ [b]) = some vs → ∃ us v, mapO (toV B) az = some us ∧ toV B b = some v ∧ vs = us ++ [v] := by
      intro az
      induction az with
      | nil =>
        grind [mapO]
      | cons a az ih =>
        intro b vs B h
        simp only [List.cons_append, mapO] at h
        grind [mapO]
    obtain ⟨us, fv, g1, g2, rfl⟩ := split h1
    simp only [toV] at g2
    split at g2
    · rename_i cap hcap
      cases g2
      obtain ⟨Bs, b1, b2, b3⟩ := cap_bl hcap
      subst b1
      have hmem : ∀ x ∈ roS cs, x ∈ L' := fun x hx => kl_mem (is := is) (by grind)
      obtain ⟨hcall, hrun⟩ := hc ⟨_, hS⟩ b2 (cap_st hS hmem ho.1 b3) hfo
      have join : ∀ {az : List SV} {us : List Value} {b : SV} {v : Value}, mapO (toV []) az = some us → toV [] b = some v → mapO (toV []) (az ++ [b]) = some (us ++ [v]) := by
        intro az
        induction az with
        | nil => grind [mapO]
        | cons a az ih =>
          intro us b v h hb
          simp only [mapO] at h
          split at h
          · cases h
          · rename_i u hu
            split at h
            · cases h
            · rename_i us' hus; cases h; simp [mapO, hu, ih hus hb]
      have h5 := hrun (us ++ [.func (.func g) #[] (capB Bs).toArray]) (join (okA_toV ho.2 g1) (by simp [toV, gV, cellV, Value.oneCell'])) (stS0 w)
      have h6 := rc_call' (w := w) hcall ho' h4 h2
      unfold Oper.wp
      rw [h6 _ a hA.env, Oper.upon_enter]
      refine Calls.mono h5 fun en w' ⟨v, hv, y, e1, e2⟩ => ?_
      subst hv
      rw [hd]
      have g3 := toV_app (B0S (.mk P T hT n c B0 N X Q) cf1 ++ B) e1
      exact hnext () _ _ ⟨[], by grind, by simpa using hA.of (by grind) (hA.env.put (by grind [dstOk, Nat.blt_eq]) v), by simpa using hS.after (L2 := []) rfl e2⟩
    · cases g2
theorem HS.u1 {α β : Type} {iR : Rep α} {C : Cel α} {sr : β → SV} {g : FuncId} {cap : List Value} {w : World} {p : α → Option β} (h : HS c w L) (H : Fu1 P c C sr g cap p) : Fu1 P (cxAll w) C sr g cap p := by
  obtain ⟨B, hS⟩ := h.ex
  exact ⟨H.1, fun w1 hk => H.2 w1 (hS.keepW.trans hk fun _ _ _ h => h.elim)⟩
theorem HS.u2 {α α' β : Type} {iR : Rep α} {iR' : Rep α'} {C : Cel α} {C' : Cel α'} {sr : β → SV} {g : FuncId} {cap : List Value} {w : World} {p : α → α' → Option β} (h : HS c w L) (H : Fu2 P c C C' sr g cap p) : Fu2 P (cxAll w) C C' sr g cap p := by
  obtain ⟨B, hS⟩ := h.ex
  exact ⟨H.1, fun w1 hk => H.2 w1 (hS.keepW.trans hk fun _ _ _ h => h.elim)⟩
theorem clc1 {α β : Type} {fo : Option α} {kf : α → Option β} {q : β} {f g : FuncId} {xs : List SV} {sv : α → SV} {n1 : Nat} {c1 : List SV} (is : List Nat) (hs : stq T n K cf m e L = .callp o (some d) f xs cf1 cf2 K' m' e' L') (hk : kl L' is = [.ro n1 c1]) (ho : (okCs [(n1, c1)] && okA xs.dropLast) = true) (hx : xs = xs.dropLast ++ [.f g [n1]])
    (hc : ∀ {w}, HS c w L' → ∀ {b1 : Nat × Nat}, (∀ w1, Keep F0 w w1 → StS (cxAll w1) w1 [b1] [.ro 0 c1]) → ∀ {x}, fo = some x → Fn0 P f (cxAll w) (xs.dropLast ++ [.k (.func (.func g) #[] (capB [b1]).toArray)]) sv x) (hF : fo.bind kf = some q)
    (k : ∀ x, fo = some x → kf x = some q → G (.mk P T hT n c B0 N X Q) K' m' ((d, sv x) :: e') L' cf2) : G (.mk P T hT n c B0 N X Q) K m e L cf :=
  clc (xs0 := []) is [(n1, c1)] hs hk ho hx (fun h Bs hl hB => match Bs, hl, hB with | [_], _, hB => hc h hB) hF k
theorem clc2 {α β : Type} {fo : Option α} {kf : α → Option β} {q : β} {f g : FuncId} {xs : List SV} {sv : α → SV} {n1 n2 : Nat} {c1 c2 : List SV} (is : List Nat) (hs : stq T n K cf m e L = .callp o (some d) f xs cf1 cf2 K' m' e' L') (hk : kl L' is = [.ro n1 c1, .ro n2 c2]) (ho : (okCs [(n1, c1), (n2, c2)] && okA xs.dropLast) = true) (hx : xs = xs.dropLast ++ [.f g [n1, n2]])
    (hc : ∀ {w}, HS c w L' → ∀ {b1 b2 : Nat × Nat}, (∀ w1, Keep F0 w w1 → StS (cxAll w1) w1 [b1, b2] [.ro 0 c1, .ro 1 c2]) → ∀ {x}, fo = some x → Fn0 P f (cxAll w) (xs.dropLast ++ [.k (.func (.func g) #[] (capB [b1, b2]).toArray)]) sv x) (hF : fo.bind kf = some q)
    (k : ∀ x, fo = some x → kf x = some q → G (.mk P T hT n c B0 N X Q) K' m' ((d, sv x) :: e') L' cf2) : G (.mk P T hT n c B0 N X Q) K m e L cf :=
  clc (xs0 := []) is [(n1, c1), (n2, c2)] hs hk ho hx (fun h Bs hl hB => match Bs, hl, hB with | [_, _], _, hB => hc h hB) hF k
end
end Go.Gv
end
section
/-
  Pure requests: the least and the greatest, elements and parts of strings, parts of slices. Nothing of a program here.
-/
set_option linter.unusedVariables false
namespace Go.Gv
section
variable {P : Program} {T : TT} {hT : TOk P T} {n : Nat} {c : Ctx} {B0 : Bl} {N : Act → World → Prop} {X : Nat → Act → World → Prop} {Q : Act → World → Prop} {K K' : List Fr} {m m' : Nat} {e e' : SE} {L L' : List Ch} {cf cf1 cf2 : Cfg} {o : Oper} {Lv : List Ch} {d : Nat}
variable {x y z : Operand} {t t2 : TypeId} {k k2 : IntKind} {i j : Int} {α β : Type} {A : Option β} {q : β}
theorem qmin (hs : opS (stq T n K cf m e L) = some (o, Lv, cf1, cf2, K', m', e', L')) (ho : (o.op, o.dst) = (.call { callee := .builtin .min, args := #[x, y], argTypes := #[t, t2] }, some d)) (hx : (evS e' x).bind numI = some (.i64, i)) (hy : (evS e' y).bind numI = some (k, j))
    (kk : G (.mk P T hT n c B0 N X Q) K' m' ((d, .i .i64 (if j < i then j else i)) :: e') L' cf2) : G (.mk P T hT n c B0 N X Q) K m e L cf :=
  pu hs (congrArg Prod.snd ho) (fun B a w hA _ => ⟨_, rfl, rv_min (congrArg Prod.fst ho) (numB hA hx) (numB hA hy)⟩) kk
theorem qmax (hs : opS (stq T n K cf m e L) = some (o, Lv, cf1, cf2, K', m', e', L')) (ho : (o.op, o.dst) = (.call { callee := .builtin .max, args := #[x, y], argTypes := #[t, t2] }, some d)) (hx : (evS e' x).bind numI = some (.i64, i)) (hy : (evS e' y).bind numI = some (k, j))
    (kk : G (.mk P T hT n c B0 N X Q) K' m' ((d, .i .i64 (if i < j then j else i)) :: e') L' cf2) : G (.mk P T hT n c B0 N X Q) K m e L cf :=
  pu hs (congrArg Prod.snd ho) (fun B a w hA _ => ⟨_, rfl, rv_max (congrArg Prod.fst ho) (numB hA hx) (numB hA hy)⟩) kk
/-! ### Strings -/
section
variable {l : List UInt8} {b1 : Bool} {n1 : Nat} {z1 : List SV}
theorem undS (ht : lkT T t = some ⟨.s, b1, n1, z1⟩) (hT : TOk P T) : P.underlying t = some .string := by
  obtain ⟨dd, hd1, hd2⟩ := hT.und _ _ ht
  grind
theorem qsi {kf : UInt8 → Option β} (hs : opS (stq T n K cf m e L) = some (o, Lv, cf1, cf2, K', m', e', L')) (ho : (o.op, o.dst) = (.index t x y, some d)) (ht : lkT T t = some ⟨.s, b1, n1, z1⟩) (hx : evS e' x = some (.s l)) (hy : (evS e' y).bind numI = some (k, i)) (hF : (idx l i).bind kf = some q)
    (kk : ∀ u, idx l i = some u → kf u = some q → G (.mk P T hT n c B0 N X Q) K' m' ((d, .y u) :: e') L' cf2) : G (.mk P T hT n c B0 N X Q) K m e L cf := by
  cases hi : idx l i with
  | none => grind
  | some u =>
    rw [hi] at hF
    exact pu hs (congrArg Prod.snd ho) (fun B a w hA _ => ⟨_, rfl, rv_stri (undS ht hT) hi (congrArg Prod.fst ho) (strB hA hx) (numB hA hy)⟩) (kk u hi hF)
theorem qst_lh (hs : opS (stq T n K cf m e L) = some (o, Lv, cf1, cf2, K', m', e', L')) (ho : (o.op, o.dst) = (.slice t x (some y) (some z) none, some d)) (ht : lkT T t = some ⟨.s, b1, n1, z1⟩) (hx : evS e' x = some (.s l)) (hy : (evS e' y).bind numI = some (k, i)) (hz : (evS e' z).bind numI = some (k2, j)) (hF : need (0 ≤ i ∧ i ≤ j ∧ j ≤ (l.length : Int)) A = some q)
    (kk : A = some q → G (.mk P T hT n c B0 N X Q) K' m' ((d, .s ((l.take j.toNat).drop i.toNat)) :: e') L' cf2) : G (.mk P T hT n c B0 N X Q) K m e L cf :=
  pu hs (congrArg Prod.snd ho) (fun B a w hA _ => ⟨_, rfl, rv_str_lh (undS ht hT) (needE hF).1 (congrArg Prod.fst ho) (strB hA hx) (numB hA hy) (numB hA hz)⟩) (kk (needE hF).2)
theorem qst_l (hs : opS (stq T n K cf m e L) = some (o, Lv, cf1, cf2, K', m', e', L')) (ho : (o.op, o.dst) = (.slice t x (some y) none none, some d)) (ht : lkT T t = some ⟨.s, b1, n1, z1⟩) (hx : evS e' x = some (.s l)) (hy : (evS e' y).bind numI = some (k, i)) (hF : need (0 ≤ i ∧ i ≤ (l.length : Int)) A = some q)
    (kk : A = some q → G (.mk P T hT n c B0 N X Q) K' m' ((d, .s (l.drop i.toNat)) :: e') L' cf2) : G (.mk P T hT n c B0 N X Q) K m e L cf :=
  pu hs (congrArg Prod.snd ho) (fun B a w hA _ => ⟨_, rfl, rv_str_l (undS ht hT) (needE hF).1 (congrArg Prod.fst ho) (strB hA hx) (numB hA hy)⟩) (kk (needE hF).2)
theorem qst_h (hs : opS (stq T n K cf m e L) = some (o, Lv, cf1, cf2, K', m', e', L')) (ho : (o.op, o.dst) = (.slice t x none (some z) none, some d)) (ht : lkT T t = some ⟨.s, b1, n1, z1⟩) (hx : evS e' x = some (.s l)) (hz : (evS e' z).bind numI = some (k2, j)) (hF : need (0 ≤ j ∧ j ≤ (l.length : Int)) A = some q)
    (kk : A = some q → G (.mk P T hT n c B0 N X Q) K' m' ((d, .s (l.take j.toNat)) :: e') L' cf2) : G (.mk P T hT n c B0 N X Q) K m e L cf :=
  pu hs (congrArg Prod.snd ho) (fun B a w hA _ => ⟨_, rfl, rv_str_h (undS ht hT) (needE hF).1 (congrArg Prod.fst ho) (strB hA hx) (numB hA hz)⟩) (kk (needE hF).2)
end
/-! ### Parts of slices -/
section
variable [Rep α] {s : AC} {l : List α} {el : TypeId} {b1 b2 : Bool} {n1 sz : Nat} {z1 z2 : List SV} {kt : TK}
theorem hdB {B : Bl} {a : Act} (hA : AEnvS n B e a) {ln : Nat} (h : evS e x = some (.h s ln)) : ev (vE B e) x = some (s.v ln) := by
  obtain ⟨v, h1, h2⟩ := evS_ok hA h
  cases h1; exact h2
theorem undL (ht : lkT T t = some ⟨.sl el, b1, n1, z1⟩) (hT : TOk P T) : P.underlying t = some (.slice el) := by
  obtain ⟨dd, hd1, hd2⟩ := hT.und _ _ ht
  grind
theorem qsb {a b : Nat} (h1 : RdA c s l) (hb : a ≤ b ∧ b ≤ l.length) (hs : opS (stq T n K cf m e L) = some (o, Lv, cf1, cf2, K', m', e', L')) (hd : o.dst = some d) (hr : ∀ B act w, AEnvS n B e' act → Rep.rd c.S0 w [s.v l.length] l → RunV P o (vE B e') w (subV (Rep.n α) a b (s.v l.length)) w)
    (kk : ∀ s', RdA c s' ((l.take b).drop a) → G (.mk P T hT n c B0 N X Q) K' m' ((d, .h s' ((l.take b).drop a).length) :: e') L' cf2) : G (.mk P T hT n c B0 N X Q) K m e L cf := by
  have h2 := rd_sub (n := Rep.n α) (a := a) (b := b) rfl h1 hb.1 hb.2
  obtain ⟨ad, cp, e1, _⟩ := rd_cap h2
  rw [e1] at h2
  exact pu hs hd (fun B act w hA hS => ⟨_, by grind [toV, gV, cellV], hr B act w hA (keep_S0 hS (f := fRd [s.v l.length] l) h1)⟩) (kk ⟨ad, cp⟩ h2)
theorem qsb_lh (hs : opS (stq T n K cf m e L) = some (o, Lv, cf1, cf2, K', m', e', L')) (ho : (o.op, o.dst) = (.slice t x (some y) (some z) none, some d)) (ht : lkT T t = some ⟨.sl el, b1, n1, z1⟩) (he : lkT T el = some ⟨kt, b2, sz, z2⟩) (hn : Rep.n α = sz) (h1 : RdA c s l) (hx : evS e' x = some (.h s l.length)) (hy : (evS e' y).bind numI = some (k, i)) (hz : (evS e' z).bind numI = some (k2, j)) (hF : need (0 ≤ i ∧ i ≤ j ∧ j ≤ (l.length : Int)) A = some q)
    (kk : A = some q → ∀ s', RdA c s' ((l.take j.toNat).drop i.toNat) → G (.mk P T hT n c B0 N X Q) K' m' ((d, .h s' ((l.take j.toNat).drop i.toNat).length) :: e') L' cf2) : G (.mk P T hT n c B0 N X Q) K m e L cf := by
  have hb := (needE hF).1
  subst hn
  exact qsb h1 (by omega) hs (congrArg Prod.snd ho) (fun B act w hA h => rv_sub_lh h rfl (undL ht hT) (hT.size _ _ he) hb (congrArg Prod.fst ho) (hdB hA hx) (numB hA hy) (numB hA hz)) (kk (needE hF).2)
theorem qsb_l (hs : opS (stq T n K cf m e L) = some (o, Lv, cf1, cf2, K', m', e', L')) (ho : (o.op, o.dst) = (.slice t x (some y) none none, some d)) (ht : lkT T t = some ⟨.sl el, b1, n1, z1⟩) (he : lkT T el = some ⟨kt, b2, sz, z2⟩) (hn : Rep.n α = sz) (h1 : RdA c s l) (hx : evS e' x = some (.h s l.length)) (hy : (evS e' y).bind numI = some (k, i)) (hF : need (0 ≤ i ∧ i ≤ (l.length : Int)) A = some q)
    (kk : A = some q → ∀ s', RdA c s' ((l.take l.length).drop i.toNat) → G (.mk P T hT n c B0 N X Q) K' m' ((d, .h s' ((l.take l.length).drop i.toNat).length) :: e') L' cf2) : G (.mk P T hT n c B0 N X Q) K m e L cf := by
  have hb := (needE hF).1
  subst hn
  exact qsb h1 (by omega) hs (congrArg Prod.snd ho) (fun B act w hA h => rv_sub_l h rfl (undL ht hT) (hT.size _ _ he) hb (congrArg Prod.fst ho) (hdB hA hx) (numB hA hy)) (kk (needE hF).2)
theorem qsb_h (hs : opS (stq T n K cf m e L) = some (o, Lv, cf1, cf2, K', m', e', L')) (ho : (o.op, o.dst) = (.slice t x none (some z) none, some d)) (ht : lkT T t = some ⟨.sl el, b1, n1, z1⟩) (he : lkT T el = some ⟨kt, b2, sz, z2⟩) (hn : Rep.n α = sz) (h1 : RdA c s l) (hx : evS e' x = some (.h s l.length)) (hz : (evS e' z).bind numI = some (k2, j)) (hF : need (0 ≤ j ∧ j ≤ (l.length : Int)) A = some q)
    (kk : A = some q → ∀ s', RdA c s' ((l.take j.toNat).drop 0) → G (.mk P T hT n c B0 N X Q) K' m' ((d, .h s' ((l.take j.toNat).drop 0).length) :: e') L' cf2) : G (.mk P T hT n c B0 N X Q) K m e L cf := by
  have hb := (needE hF).1
  subst hn
  exact qsb h1 (by omega) hs (congrArg Prod.snd ho) (fun B act w hA h => rv_sub_h h rfl (undL ht hT) (hT.size _ _ he) hb (congrArg Prod.fst ho) (hdB hA hx) (numB hA hz)) (kk (needE hF).2)
theorem qsb_n (hs : opS (stq T n K cf m e L) = some (o, Lv, cf1, cf2, K', m', e', L')) (ho : (o.op, o.dst) = (.slice t x none none none, some d)) (ht : lkT T t = some ⟨.sl el, b1, n1, z1⟩) (he : lkT T el = some ⟨kt, b2, sz, z2⟩) (hn : Rep.n α = sz) (h1 : RdA c s l) (hx : evS e' x = some (.h s l.length))
    (kk : ∀ s', RdA c s' ((l.take l.length).drop 0) → G (.mk P T hT n c B0 N X Q) K' m' ((d, .h s' ((l.take l.length).drop 0).length) :: e') L' cf2) : G (.mk P T hT n c B0 N X Q) K m e L cf := by
  subst hn
  exact qsb h1 (by omega) hs (congrArg Prod.snd ho) (fun B act w hA h => rv_sub_n h rfl (undL ht hT) (hT.size _ _ he) (congrArg Prod.fst ho) (hdB hA hx)) kk
end
/-! ### Values of array types -/
section
variable {zv : Value} {n1 m1 : Nat} {el : TypeId}
theorem mapO_toV {B : Bl} {xs : List SV} {vs : List Value} (h : mapO (toV []) xs = some vs) : mapO (toV B) xs = some vs := mapO_mono (fun x v h => by simpa using toV_app (B := []) B h) h
theorem qba {ps : Array (Nat × Operand)} {xs : List SV} {vs cells : List Value} (cs : List SV) (hz : ∀ w, (zeroValue t).run P w = .ok zv w) (hu : P.underlying t = some (.array n1 el)) (hp : ∀ w, (sizeOf el).run P w = .ok m1 w) (hs : opS (stq T n K cf m e L) = some (o, Lv, cf1, cf2, K', m', e', L')) (ho : (o.op, o.dst) = (.build t ps, some d)) (hv : mapO (evS e') (ps.toList.map (·.2)) = some xs) (hvs : mapO (toV []) xs = some vs) (hcs : mapO (cellV []) cs = some cells) (hc : Instr.fill (fun i => some (i * m1, m1)) zv.cells ((ps.toList.map (·.1)).zip vs) = some cells.toArray)
    (kk : G (.mk P T hT n c B0 N X Q) K' m' ((d, .g cs) :: e') L' cf2) : G (.mk P T hT n c B0 N X Q) K m e L cf :=
  pu hs (congrArg Prod.snd ho) (fun B a w hA _ => ⟨.agg cells.toArray, by
    simp only [toV, gV]
    rw [mapO_mono (g := cellV B) (fun x v h => by simpa using cellV_app (B := []) B h) hcs], by
    obtain ⟨us, h1, h2⟩ := evs_S hA hv
    rw [mapO_toV hvs] at h1
    cases h1
    exact rv_buildA (ps := ps.toList) (by simp_all) hz hu hp h2 hc⟩) kk
theorem qai {γ : Type} (f : γ → Value) (g : γ → SV) {l : List γ} {cs : List SV} {kf : γ → Option β} (hu : P.underlying t = some (.array n1 el)) (hz : ∀ w, (sizeOf el).run P w = .ok 1 w) (hg : ∀ w, (isAgg el).run P w = .ok false w) (hgf : ∀ u, toV [] (g u) = some (f u)) (hs : opS (stq T n K cf m e L) = some (o, Lv, cf1, cf2, K', m', e', L')) (ho : (o.op, o.dst) = (.index t x y, some d)) (hx : evS e' x = some (.g cs)) (hcs : mapO (cellV []) cs = some (l.map f)) (hn : l.length = n1) (hy : (evS e' y).bind numI = some (k, i)) (hF : (idx l i).bind kf = some q)
    (kk : ∀ u, idx l i = some u → kf u = some q → G (.mk P T hT n c B0 N X Q) K' m' ((d, g u) :: e') L' cf2) : G (.mk P T hT n c B0 N X Q) K m e L cf := by
  cases hi : idx l i with
  | none => grind
  | some u =>
    rw [hi] at hF
    refine pu hs (congrArg Prod.snd ho) (fun B a w hA _ => ⟨f u, by simpa using toV_app (B := []) B (hgf u), ?_⟩) (kk u hi hF)
    obtain ⟨v, h1, h2⟩ := evS_ok hA hx
    simp only [toV, gV] at h1
    rw [mapO_mono (g := cellV B) (fun x v h => by simpa using cellV_app (B := []) B h) hcs] at h1
    cases h1
    exact rv_arr f hu hz hg hi hn rfl (congrArg Prod.fst ho) h2 (numB hA hy)
end
end
end Go.Gv
end
section
/-
  States restated; slices made; elements of slices of ours opened as boxes. Nothing of a program here.
-/
set_option linter.unusedVariables false
namespace Go.Gv
section
variable {P : Program} {T : TT} {hT : TOk P T} {n : Nat} {c : Ctx} {B0 : Bl} {N : Act → World → Prop} {X : Nat → Act → World → Prop} {Q : Act → World → Prop} {K K' : List Fr} {m m' : Nat} {e e' : SE} {L L' : List Ch} {cf cf1 cf2 : Cfg} {o : Oper} {Lv : List Ch} {d : Nat}
/-- A state may be told in other words. -/
theorem chg {g : Gx} {ι : Type} (m2 : ι → Nat) (e2 : ι → SE) (L2 : ι → List Ch) (h : ∀ B a w, B.length = m → AEnvS g.n B e a → StS g.c w B L → ∃ i B', (B ++ B').length = m2 i ∧ AEnvS g.n (B ++ B') (e2 i) a ∧ StS g.c w (B ++ B') (L2 i))
    (hz : ∀ i, Frz g cf L (L2 i)) (k : ∀ i, G g K (m2 i) (e2 i) (L2 i) cf) : G g K m e L cf := by
  have key : ∀ a w, Rel g m e L a w → ∃ i, Rel g (m2 i) (e2 i) (L2 i) a w := fun a w ⟨B, h1, h2, h3⟩ => by
    obtain ⟨i, B', k1, k2, k3⟩ := h _ a w h1 h2 h3
    exact ⟨i, B ++ B', by grind, by grind, by grind⟩
  cases cf with
  | n => exact fun a w hr => let ⟨i, hi⟩ := key a w hr; k i a w hi
  | c x => exact fun a w hr => let ⟨i, hi⟩ := key a w hr; k i a w hi
  | r ops l => exact fun a w hr => let ⟨i, hi⟩ := key a w hr; k i a w hi
  | d B1 ops l is Lf Lv =>
    refine fun hD a w ⟨B, h1, h2, h3, h4⟩ => ?_
    obtain ⟨i, B', k1, k2, k3⟩ := h _ a w h1 h2 h3
    obtain ⟨z1, z2⟩ := hz i hD
    exact k i ⟨hD.pre, hD.len, hD.free, z1, z2, hD.okf, hD.ap⟩ a w ⟨B ++ B', by grind, by grind, by grind, fun w' hw => by
      have := (h4 w' hw).app B'
      grind⟩
  | o B1 ops l is Lf Lv ii =>
    refine fun hD a w ⟨B, h1, h2, h3, h4⟩ => ?_
    obtain ⟨i, B', k1, k2, k3⟩ := h _ a w h1 h2 h3
    obtain ⟨z1, z2⟩ := hz i hD
    exact k i ⟨hD.pre, hD.len, hD.free, z1, z2, hD.okf, hD.ap⟩ a w ⟨B ++ B', by grind, by grind, by grind, fun w' hw => by
      have := (h4 w' hw).app B'
      grind⟩
/-- make([]T, n). -/
theorem mks {α β : Type} [Rep α] {x y : Operand} {t el sz : Nat} {i : Int} {zv : Value} {b1 : Bool} {n1 : Nat} {z1 : List SV} {A : Option β} {q : β} (zd : α) (hinf : Inf P el sz zv) (hzd : ∀ w, Rep.own w zv.cells.toList zd F0) (hs : stq T n K cf m e L = .op o Lv cf1 cf2 K' m' e' L') (ho : (o.op, o.dst) = (.makeSlice t x y, some d)) (ht : lkT T t = some ⟨.sl el, b1, n1, z1⟩) (hn : Rep.n α = sz) (hzs : zv.cells.size = sz) (hx : (evS e' x).bind numI = some (.i64, i)) (hy : (evS e' y).bind numI = some (.i64, i)) (hF : need (0 ≤ i ∧ i ≤ 4294967296) A = some q)
    (k : A = some q → ∀ s' : AC, G (.mk P T hT n c B0 N X Q) K' m' ((d, .h s' (List.replicate i.toNat zd).length) :: e') (L' ++ [ow s' (List.replicate i.toNat zd)]) cf2) : G (.mk P T hT n c B0 N X Q) K m e L cf := by
  refine stq_ok (g := .mk P T hT n c B0 N X Q) ?_
  rw [hs]
  intro hdn _ hE
  refine hE AC (fun _ => m') (fun s' => (d, .h s' (List.replicate i.toNat zd).length) :: e') (fun s' => L' ++ [ow s' (List.replicate i.toNat zd)]) (fun _ => frz_app _) (fun B a w next Q' hm hA hS hnext => ?_) (k (needE hF).2)
  obtain ⟨⟨R, s1, s2⟩, s0⟩ := hS
  have hd : o.dst = some d := congrArg Prod.snd ho
  obtain ⟨v, w', k1, k2⟩ := rv_makeN zd s1 hn (undL ht hT) hinf hzs hzd (needE hF).1 (congrArg Prod.fst ho) (numB hA hx) (numB hA hy)
  have hrd : ∃ s' : AC, v = s'.v (List.replicate i.toNat zd).length := by
    have h1 := k2.rdOwn (cs := [v]) (d := List.replicate i.toNat zd) (L'.map (chd (B0S (.mk P T hT n c B0 N X Q) cf1 ++ B))).length (by simp)
    obtain ⟨ad, cp, h2, _⟩ := rd_cap h1
    exact ⟨⟨ad, cp⟩, h2⟩
  obtain ⟨s', rfl⟩ := hrd
  unfold Oper.wp
  rw [k1 _ a hA.env, Oper.upon_value, hd]
  refine hnext s' _ _ ⟨[], by grind, by simpa using hA.of (by simp [toV, gV, cellV]) (hA.env.put (by grind [dstOk, Nat.blt_eq]) _), ⟨⟨R, by grind [chd], fun x hx => ?_⟩, fun b o hb => Nat.lt_of_lt_of_le (s0 b o hb) (Nat.le_refl _)⟩⟩
  rcases List.mem_append.1 hx with hx | hx
  · grind
  · simp at hx; subst hx; exact trivial
end
end Go.Gv
end
section
/-
  Elements of slices of ours opened as boxes, and shut. Nothing of a program here.
-/
set_option linter.unusedVariables false
namespace Go.Gv
def Cfg.frz : Cfg → List Nat
  | .d _ _ _ is _ _ => is
  | .o _ _ _ is _ _ _ => is
  | _ => []
theorem kl_setA {L M : List Ch} {j : Nat} {z : Ch} : ∀ {is : List Nat}, (∀ i ∈ is, i < L.length) → notIn j is = true → kl (L.set j z ++ M) is = kl L is
  | [], _, _ => rfl
  | i :: is, h, hn => by
    have hi := h i (by simp)
    have h1 := notIn_ok hn
    have hne : j ≠ i := fun he => h1 (by simp [he])
    have h2 : (L.set j z ++ M)[i]? = L[i]? := by grind
    have h3 : notIn j is = true := by
      grind [notIn]
    simp only [kl, h2, kl_setA (fun i hi => h i (List.mem_cons_of_mem _ hi)) h3]
theorem kl_appA {L M : List Ch} : ∀ {is : List Nat}, (∀ i ∈ is, i < L.length) → kl (L ++ M) is = kl L is
  | [], _ => rfl
  | i :: is, h => by
    simp only [kl, List.getElem?_append_left (h i (by simp)), kl_appA (M := M) (fun i hi => h i (List.mem_cons_of_mem _ hi))]
theorem frz_set {g : Gx} {cf : Cfg} {L M : List Ch} {j : Nat} {z : Ch} (hn : notIn j cf.frz = true) : Frz g cf L (L.set j z ++ M) := by
  cases cf with
  | d B1 ops l is Lf Lv =>
    exact fun hD => ⟨(kl_setA hD.rng hn).trans hD.frz, fun i hi => by have := hD.rng i hi; simp; omega⟩
  | o B1 ops l is Lf Lv i =>
    exact fun hD => ⟨(kl_setA hD.rng hn).trans hD.frz, fun i hi => by have := hD.rng i hi; simp; omega⟩
  | _ => trivial
theorem st_addNo {c : Ctx} {w : World} {A : List Chunk} {R : List Fact} (h : St c w A R) : St c w (A ++ [cNo]) R := by
  obtain ⟨F, S, h1, rest⟩ := h.sep
  exact ⟨h.keep, ⟨F, S, Sep.append.2 ⟨F, F0, h1, Sep.one.2 (fun _ _ h => h), fun _ _ _ h => h, fun b o => by simp [F0]⟩, rest⟩, h.apart⟩
/-- How an element of ours lies in cells, and what it owns. -/
structure CO (α : Type) [Rep α] where
  ex : Type
  cs : α → ex → List SV
  Lx : α → ex → List Ch
  op : ∀ {w F ec q}, Rep.own w ec q F → ∃ y, mapO (cellV []) (cs q y) = some ec
  pk : ∀ {q y ec}, mapO (cellV []) (cs q y) = some ec → OP ec q ((Lx q y).map (chd []))
  no : ∀ q y, noF (Lx q y) = true
  nb : ∀ q y B, (Lx q y).map (chd B) = (Lx q y).map (chd [])
section
variable {P : Program} {T : TT} {hT : TOk P T} {n : Nat} {c : Ctx} {B0 : Bl} {N : Act → World → Prop} {X : Nat → Act → World → Prop} {Q : Act → World → Prop} {K K' : List Fr} {m m' : Nat} {e e' : SE} {L L' : List Ch} {cf cf1 cf2 : Cfg} {o : Oper} {Lv : List Ch} {d : Nat}
theorem chg2 {g : Gx} {ι : Type} (m2 : ι → Nat) (e2 : ι → SE) (L2 : ι → List Ch) (Ln : ι → List Ch) (h : ∀ B a w, B.length = m → AEnvS g.n B e a → StS g.c w B L → ∃ i B', (B ++ B').length = m2 i ∧ AEnvS g.n (B ++ B') (e2 i) a ∧ StS g.c w (B ++ B') (L2 i) ∧ ∀ w' M, StS g.c w' B M → StS g.c w' (B ++ B') (M ++ Ln i))
    (hz : ∀ i, Frz g cf L (L2 i)) (k : ∀ i, G g K (m2 i) (e2 i) (L2 i) (cf.ext (Ln i))) : G g K m e L cf := by
  have key : ∀ a w, Rel g m e L a w → ∃ i, Rel g (m2 i) (e2 i) (L2 i) a w := fun a w ⟨B, h1, h2, h3⟩ => by
    obtain ⟨i, B', k1, k2, k3, _⟩ := h _ a w h1 h2 h3
    exact ⟨i, B ++ B', by grind, by grind, by grind⟩
  cases cf with
  | n => exact fun a w hr => let ⟨i, hi⟩ := key a w hr; k i a w hi
  | c x => exact fun a w hr => let ⟨i, hi⟩ := key a w hr; k i a w hi
  | r ops l => exact fun a w hr => let ⟨i, hi⟩ := key a w hr; k i a w hi
  | d B1 ops l is Lf Lv =>
    refine fun hD a w ⟨B, h1, h2, h3, h4⟩ => ?_
    obtain ⟨i, B', k1, k2, k3, k4⟩ := h _ a w h1 h2 h3
    obtain ⟨z1, z2⟩ := hz i hD
    exact k i ⟨hD.pre, hD.len, hD.free, z1, z2, hD.okf, hD.ap⟩ a w ⟨B ++ B', by grind, by grind, by grind, fun w' hw => by
      grind⟩
  | o B1 ops l is Lf Lv ii =>
    refine fun hD a w ⟨B, h1, h2, h3, h4⟩ => ?_
    obtain ⟨i, B', k1, k2, k3, k4⟩ := h _ a w h1 h2 h3
    obtain ⟨z1, z2⟩ := hz i hD
    exact k i ⟨hD.pre, hD.len, hD.free, z1, z2, hD.okf, hD.ap⟩ a w ⟨B ++ B', by grind, by grind, by grind, fun w' hw => by
      grind⟩
abbrev Shp (s : AC) (len : Nat) : Prop := ∃ b off m, s.v len = .slice (some ⟨b, off, none⟩) len m ∧ len ≤ maxLen
abbrev wOf (α : Type) [Rep α] (nb : Nat) (s : AC) (len i : Nat) : Ch := .w nb (elB (s.v len)) (elO (Rep.n α) i (s.v len))
/-- An element of ours as a box. -/
theorem oe {α β : Type} [Rep α] (E : CO α) (j : Nat) {t : TypeId} {s : AC} {i : Int} {ls : List α} {kf : α → Option β} {q : β} (hs : stq T n K cf m e L = .idx o d t s ls.length i Lv cf1 cf2 K' m' e' L') (hj : L'[j]? = some (ow s ls)) (hz : notIn j cf1.frz = true) (hF : (idx ls i).bind kf = some q)
    (k : ∀ x, idx ls i = some x → kf x = some q → ∀ y : E.ex, Shp s ls.length → G (.mk P T hT n c B0 N X Q) K' (m' + 1) e' (L'.set j .no ++ ([.o (cHole (s.v ls.length) ls i.toNat), .box m' (E.cs x y), wOf α m' s ls.length i.toNat] ++ E.Lx x y)) (cf1.ext [wOf α m' s ls.length i.toNat])) : G (.mk P T hT n c B0 N X Q) K m e L cf := by
  refine stq_ok (g := .mk P T hT n c B0 N X Q) ?_
  rw [hs]
  intro x' y' ho hd hx hy hP
  cases hi : idx ls i with
  | none => grind
  | some x =>
    rw [hi] at hF
    refine chg2 (fun _ => m' + 1) (fun _ => e') (fun y : {y : E.ex // Shp s ls.length} => L'.set j .no ++ ([.o (cHole (s.v ls.length) ls i.toNat), .box m' (E.cs x y.1), wOf α m' s ls.length i.toNat] ++ E.Lx x y.1)) (fun _ => [wOf α m' s ls.length i.toNat]) (fun B a w hm hA hS => ?_) (fun y => frz_set hz) (fun y => k x hi hF y.1 y.2)
    obtain ⟨⟨R, s1, s2⟩, s0⟩ := hS
    have hj2 : (L'.map (chd B))[j]? = some (cOwn [s.v ls.length] ls) := by simp [hj, chd]
    obtain ⟨ec, h1⟩ := s1.open j hj2 (idx_some hi).2.2
    have hlen : ((L'.map (chd B)).set j cNo).length = L'.length := by simp
    have hsh : Shp s ls.length := hole_rd (k := i.toNat) h1 L'.length (by simp)
    obtain ⟨F, hF'⟩ := h1.chunk (L'.length + 2) (by rw [List.getElem?_append_right (by omega)]; simp; rfl)
    obtain ⟨y, hy2⟩ := E.op (show Rep.own w ec x F from hF')
    have h2 := h1.unpack (L'.length + 2) (by simp) (E.pk hy2)
    have hset : ((L'.map (chd B)).set j cNo ++ [cHole (s.v ls.length) ls i.toNat, cAt (elB (s.v ls.length)) (elO (Rep.n α) i.toNat (s.v ls.length)) ec, cOwn ec x]).set (L'.length + 2) cNo = (L'.map (chd B)).set j cNo ++ [cHole (s.v ls.length) ls i.toNat, cAt (elB (s.v ls.length)) (elO (Rep.n α) i.toNat (s.v ls.length)) ec, cNo] := by
      simp
    rw [hset] at h2
    refine ⟨⟨y, hsh⟩, [(elB (s.v ls.length), elO (Rep.n α) i.toNat (s.v ls.length))], by simp [hm], hA.app _, ⟨⟨R, ?_, fun z hz => ?_⟩, s0⟩, fun w' M hM => ?_⟩
    · have e1 : (L'.set j Ch.no).map (chd B) = (L'.map (chd B)).set j cNo := by rw [List.map_set]; rfl
      refine h2.imp ?_
      rw [List.map_append, List.map_append, ← e1, List.append_assoc]
      refine ImpL.append (imp_app _ _) (ImpL.append (.cons (fun _ h => h) (.cons (fun F h => ⟨_, _, ec, by grind, mapO_mono (fun x v h => by simpa using cellV_app (B := []) _ h) hy2, h⟩) (.cons (fun _ h => h) .nil))) ?_)
      have := imp_app (B := []) (B ++ [(elB (s.v ls.length), elO (Rep.n α) i.toNat (s.v ls.length))]) (w := w) (E.Lx x y)
      grind
    · rcases List.mem_append.1 hz with hz | hz
      · rcases List.mem_or_eq_of_mem_set hz with hz | hz
        · grind [roF_app]
        · subst hz; trivial
      · rcases List.mem_append.1 hz with hz | hz
        · simp at hz
          rcases hz with rfl | rfl | rfl
          · trivial
          · trivial
          · show (B ++ _)[m']? = _
            grind
        · exact noF_ok (E.no x y) z hz
    · obtain ⟨⟨R', t1, t2⟩, t0⟩ := hM.app [(elB (s.v ls.length), elO (Rep.n α) i.toNat (s.v ls.length))]
      refine ⟨⟨R', by grind [chd, st_addNo], fun z hz => ?_⟩, t0⟩
      rcases List.mem_append.1 hz with hz | hz
      · grind
      · simp at hz; subst hz
        show (B ++ _)[m']? = _
        grind
/-- The pointer to an element that is open. -/
theorem ie {α : Type} [Rep α] (p : Nat) {t el sz : Nat} {s : AC} {i : Int} {ls : List α} {x : α} {nb : Nat} {b1 b2 : Bool} {n1 : Nat} {z1 z2 : List SV} {k2 : TK} (hsh : Shp s ls.length) (hs : stq T n K cf m e L = .idx o d t s ls.length i Lv cf1 cf2 K' m' e' L') (hi : idx ls i = some x) (hw : Lv[p]? = some (wOf α nb s ls.length i.toNat)) (ht : lkT T t = some ⟨.sl el, b1, n1, z1⟩) (he : lkT T el = some ⟨k2, b2, sz, z2⟩) (hn : Rep.n α = sz)
    (k : G (.mk P T hT n c B0 N X Q) K' m' ((d, .p nb 0) :: e') L' cf2) : G (.mk P T hT n c B0 N X Q) K m e L cf := by
  refine stq_ok (g := .mk P T hT n c B0 N X Q) ?_
  rw [hs]
  intro x' y' ho hd hx hy hP
  subst hn
  refine hP d (.p nb 0) [] (fun _ => []) 0 hd (fun _ => rfl) (fun B a w hA hS hm => ?_) (fun B w L _ hS => by grind) (by grind [ext_nil])
  obtain ⟨v, g1, g2⟩ := evS_ok hA hx
  obtain ⟨u, g3, g4⟩ := evS_ok hA hy
  cases g1; cases g3
  obtain ⟨⟨R, s1, s2⟩, s0⟩ := hS
  have hB : B[nb]? = some (elB (s.v ls.length), elO (Rep.n α) i.toNat (s.v ls.length)) := s2 _ (List.mem_of_getElem? hw)
  exact ⟨_, by simp [toV, gV, cellV, hB], rv_idxH (P := P) (o := o) (w := w) hsh rfl hi (undL ht hT) (hT.size _ _ he) ho g2 g4⟩
def blk : List Ch → List Nat → List Ch
  | L, [] => L
  | L, i :: r => blk (L.set i .no) r
theorem blk_map {B : Bl} : ∀ (js : List Nat) (L : List Ch), (blk L js).map (chd B) = blank (L.map (chd B)) js
  | [], L => rfl
  | j :: js, L => by simp only [blk, blank]; rw [blk_map js, List.map_set]; rfl
theorem blk_mem {x : Ch} : ∀ (js : List Nat) (L : List Ch), x ∈ blk L js → x ∈ L ∨ x = .no
  | [], L, h => .inl h
  | j :: js, L, h => by
    rcases blk_mem js _ h with h | h
    · exact List.mem_or_eq_of_mem_set h
    · exact .inr h
theorem frz_blk {g : Gx} {cf : Cfg} {M : List Ch} : ∀ (js : List Nat) {L : List Ch}, (js.all fun j => notIn j cf.frz) = true → Frz g cf L (blk L js ++ M) := by
  intro js L hj
  have main : ∀ {B1 : Bl} {ops : Array Oper} {l : List Bool} {is : List Nat} {Lf : List Ch}, (js.all fun j => notIn j is) = true → DInv g B1 ops l is Lf L → kl (blk L js ++ M) is = Lf ∧ ∀ j ∈ is, j < (blk L js ++ M).length := by
    intro B1 ops l is Lf hj hD
    have key : ∀ (js : List Nat) (L : List Ch), (js.all fun j => notIn j is) = true → (∀ i ∈ is, i < L.length) → kl (blk L js ++ M) is = kl L is ∧ (blk L js).length = L.length := by
      intro js
      induction js with
      | nil =>
        intro L _ hr
        exact ⟨kl_appA hr, rfl⟩
      | cons j js ih =>
        intro L hj hr
        simp only [List.all_cons, Bool.and_eq_true] at hj
        obtain ⟨h1, h2⟩ := ih (L.set j .no) hj.2 (fun i hi => by grind)
        refine ⟨h1.trans ?_, by grind [blk]⟩
        have := kl_setA (M := []) (z := .no) hr hj.1
        grind
    obtain ⟨k1, k2⟩ := key js L hj hD.rng
    exact ⟨k1.trans hD.frz, fun i hi => by have := hD.rng i hi; grind⟩
  cases cf with
  | d B1 ops l is Lf Lv => exact fun hD => main hj hD
  | o B1 ops l is Lf Lv i => exact fun hD => main hj hD
  | _ => trivial
def ovh (v : SV) (e : SE) : List Nat → SE
  | [] => e
  | k :: ks => (k, v) :: ovh v e ks
theorem ovh_env {v : SV} {B : Bl} {a : Act} : ∀ (ks : List Nat), mapO (lkS e) ks = some (ks.map fun _ => v) → AEnvS n B e a → AEnvS n B (ovh v e ks) a := by
  intro ks
  have key : ∀ (ks : List Nat), mapO (lkS e) ks = some (ks.map fun _ => v) → ∀ k ∈ ks, lkS e k = some v := by
    intro ks
    induction ks with
    | nil => simp
    | cons s ks ih =>
      grind [mapO]
  intro hs hA
  have hk := key ks hs
  clear hs key
  have lk2 : ∀ k x, lkS (ovh v e ks) k = some x → lkS e k = some x := by
    induction ks with
    | nil => exact fun k x h => h
    | cons j ks ih =>
      grind [ovh, lkS, Nat.eq_of_beq_eq_true]
  exact ⟨hA.d, hA.size, fun k x h => hA.get k x (lk2 k x h)⟩
theorem pick_kl {B : Bl} : ∀ {is : List Nat} {M : List Ch}, mapO (fun i => L[i]?) is = some M → pick (L.map (chd B)) is = M.map (chd B)
  | [], M, h => by cases h; rfl
  | i :: is, M, h => by
    simp only [mapO] at h
    split at h
    · cases h
    · rename_i h1
      split at h
      · cases h
      · rename_i h2
        cases h
        simp only [pick, List.getElem?_map, h1, Option.map_some, Option.getD_some, pick_kl h2, List.map_cons]
theorem ce_rel {α : Type} [Rep α] (E : CO α) (h b v : Nat) (is ks : List Nat) {s : AC} {l : List α} {k nb : Nat} (x : α) (y : E.ex) {cs0 : List SV} {ec : List Value} (hs : L[h]? = some (.o (cHole (s.v l.length) l k))) (hb : L[b]? = some (.box nb cs0)) (hv : L[v]? = some (wOf α nb s l.length k)) (hi : mapO (fun i => L[i]?) is = some (E.Lx x y)) (hc : nbL cs0 = E.cs x y) (hec : mapO (cellV []) (E.cs x y) = some ec) (ha : apartB (h :: b :: is) = true) (hk : mapO (lkS e) ks = some (ks.map fun _ => .h s l.length)) {B : Bl} {a : Act} {w : World} (hA : AEnvS n B e a) (hS : StS c w B L) :
    AEnvS n B (ovh (.h s (l.set k x).length) e ks) a ∧ StS c w B (blk L (h :: b :: is) ++ [ow s (l.set k x)]) := by
  have hlen : (l.set k x).length = l.length := List.length_set
  unfold ow
  rw [hlen]
  refine ⟨ovh_env ks hk hA, ?_⟩
  obtain ⟨⟨R, s1, s2⟩, s0⟩ := hS
  have hB : B[nb]? = some (elB (s.v l.length), elO (Rep.n α) k (s.v l.length)) := s2 _ (List.mem_of_getElem? hv)
  refine ⟨⟨R, ?_, fun z hz => ?_⟩, s0⟩
  · rw [List.map_append, blk_map]
    refine s1.shift (h :: b :: is) ha fun F hF => ?_
    simp only [pick, List.getElem?_map, hs, hb, Option.map_some, Option.getD_some, pick_kl hi, E.nb] at hF
    have hE : mapO (cellV B) cs0 = some ec := by rw [← nbL_map, hc]; exact mapO_mono (fun x v h => by simpa using cellV_app (B := []) B h) hec
    have h2 : Sep w ([cHole (s.v l.length) l k, cAt (elB (s.v l.length)) (elO (Rep.n α) k (s.v l.length)) ec] ++ (E.Lx x y).map (chd [])) F := by
      refine Sep.imp (.cons (fun _ h => h) (.cons (fun F h => ?_) (ImpL.refl _))) hF
      obtain ⟨bb, z, vs, k1, k2, k3⟩ := h
      grind
    obtain ⟨F1, F2, g1, g2, gd, gF⟩ := Sep.append.1 h2
    have h3 : Sep w ([cHole (s.v l.length) l k, cAt (elB (s.v l.length)) (elO (Rep.n α) k (s.v l.length)) ec] ++ [cOwn ec x]) F := Sep.append.2 ⟨F1, F2, g1, Sep.one.2 ((E.pk hec w F2).2 g2), gd, gF⟩
    exact Sep.one.2 (own_close h3)
  · rcases List.mem_append.1 hz with hz | hz
    · rcases blk_mem _ _ hz with hz | hz
      · grind
      · subst hz; trivial
    · simp at hz; subst hz; trivial
/-- An element of ours is shut. -/
theorem ce {α : Type} [Rep α] (E : CO α) (h b v : Nat) (is ks : List Nat) {s : AC} {l : List α} {k nb : Nat} (x : α) (y : E.ex) {cs0 : List SV} {ec : List Value} (hs : L[h]? = some (.o (cHole (s.v l.length) l k))) (hb : L[b]? = some (.box nb cs0)) (hv : L[v]? = some (wOf α nb s l.length k)) (hi : mapO (fun i => L[i]?) is = some (E.Lx x y)) (hc : nbL cs0 = E.cs x y) (hec : mapO (cellV []) (E.cs x y) = some ec) (ha : apartB (h :: b :: is) = true) (hz : ((h :: b :: is).all fun j => notIn j cf.frz) = true) (hk : mapO (lkS e) ks = some (ks.map fun _ => .h s l.length))
    (kk : G (.mk P T hT n c B0 N X Q) K m (ovh (.h s (l.set k x).length) e ks) (blk L (h :: b :: is) ++ [ow s (l.set k x)]) cf) : G (.mk P T hT n c B0 N X Q) K m e L cf := by
  refine chg (fun _ : Unit => m) (fun _ => ovh (.h s (l.set k x).length) e ks) (fun _ => blk L (h :: b :: is) ++ [ow s (l.set k x)]) (fun B a w hm hA hS => ?_) (fun _ => frz_blk _ hz) (fun _ => kk)
  obtain ⟨h1, h2⟩ := ce_rel E h b v is ks x y hs hb hv hi hc hec ha hk hA hS
  simp_all
end
end Go.Gv
end
section
/-
  An element of ours is shut where the stepper stands; elements of one cell. Nothing of a program here.
-/
set_option linter.unusedVariables false
namespace Go.Gv
section
variable {P : Program} {T : TT} {hT : TOk P T} {n : Nat} {c : Ctx} {B0 : Bl} {N : Act → World → Prop} {X : Nat → Act → World → Prop} {Q : Act → World → Prop} {K K' : List Fr} {m m' : Nat} {e e' : SE} {L L' : List Ch} {cf cf' : Cfg}
theorem ceS {α : Type} [Rep α] (E : CO α) (h : Nat) (is ks : List Nat) {s : AC} {l : List α} {k nb : Nat} (x : α) (y : E.ex) {cs0 : List SV} {ec : List Value} (h0 : cfgS (stq T n K cf m e L) = some (K', cf', m', e', L')) (hs : L'[h]? = some (.o (cHole (s.v l.length) l k))) (hb : L'[h + 1]? = some (.box nb cs0)) (hv : L'[h + 2]? = some (wOf α nb s l.length k)) (hi : mapO (fun i => L'[i]?) is = some (E.Lx x y)) (hc : nbL cs0 = E.cs x y) (hec : mapO (cellV []) (E.cs x y) = some ec) (ha : apartB (h :: (h + 1) :: is) = true) (hz : ((h :: (h + 1) :: is).all fun j => notIn j cf'.frz) = true) (hk : mapO (lkS e') ks = some (ks.map fun _ => .h s l.length))
    (kk : G (.mk P T hT n c B0 N X Q) K' m' (ovh (.h s (l.set k x).length) e' ks) (blk L' (h :: (h + 1) :: is) ++ [ow s (l.set k x)]) cf') : G (.mk P T hT n c B0 N X Q) K m e L cf :=
  stq_ok (g := .mk P T hT n c B0 N X Q) (cfgS_ok h0 (ce E h (h + 1) (h + 2) is ks x y hs hb hv hi hc hec ha hz hk kk))
/-! At the end of a way: first what is open is shut, then as without. -/
theorem sF (hs : stq T n K cf m e L = .fin m' e' L') (h : ∀ a w, RelN n c B0 m' e' L' a w → N a w) : G (.mk P T hT n c B0 N X Q) K m e L cf :=
  stq_ok (g := .mk P T hT n c B0 N X Q) (by rw [hs]; exact h)
theorem sX {id : Nat} (hs : stq T n K cf m e L = .ex id m' e' L') (h : ∀ a w, RelN n c B0 m' e' L' a w → X id a w) : G (.mk P T hT n c B0 N X Q) K m e L cf :=
  stq_ok (g := .mk P T hT n c B0 N X Q) (by rw [hs]; exact h)
theorem sR (hs : stq T n K cf m e L = .ret m' e' L') (h : ∀ a w, RelN n c B0 m' e' L' a w → Q a w) : G (.mk P T hT n c B0 N X Q) K m e L cf :=
  stq_ok (g := .mk P T hT n c B0 N X Q) (by rw [hs]; exact h)
theorem nxR {σ ρ υ : Type} {o : Step σ ρ} {mj : Nat} {el : σ → υ → SE} {Ll : σ → υ → List Ch} {s : σ} (u : υ) (is : List Nat) (hG : some (Step.next s) = some o) (h : asT B0.length m' e' L' is mj (el s u) (Ll s u) = some (el s u, Ll s u)) : ∀ a w, RelN n c B0 m' e' L' a w → NxP n c B0 o mj el Ll a w := by
  cases hG
  exact fun a w hr => ⟨s, u, rfl, hr.asT is h⟩
theorem jnR {π υ : Type} {eq : π → Prop} {mj : Nat} {ej : π → υ → SE} {Lj : π → υ → List Ch} {p : π} (u : υ) (is : List Nat) (hF : eq p) (h : asT B0.length m' e' L' is mj (ej p u) (Lj p u) = some (ej p u, Lj p u)) : ∀ a w, RelN n c B0 m' e' L' a w → JP n c B0 eq mj ej Lj a w :=
  fun a w hr => ⟨p, u, hF, RelN.asT hr is h⟩
theorem bkR {σ ρ β υ : Type} {o : Step σ ρ} {ro : ρ} {enc : β → ρ} {mj id : Nat} {ej : β → υ → SE} {Lj : β → υ → List Ch} {b : β} (u : υ) (is : List Nat) (hG : some (Step.stop (enc b)) = some o) (hr : ∀ p, o = .stop p → p = ro) (h : asT B0.length m' e' L' is mj (ej b u) (Lj b u) = some (ej b u, Lj b u)) : ∀ a w, RelN n c B0 m' e' L' a w → BkP n c B0 ro enc mj ej Lj id X id a w := by
  cases hG
  have := hr _ rfl
  subst this
  intro a w hr
  unfold BkP
  rw [if_pos rfl]
  exact ⟨b, u, rfl, hr.asT is h⟩
include hT in
theorem rtR {fn : Func} {ρ ex : Type} {sv : ρ → ex → SV} {Lf : ρ → ex → List Ch} {r r' : ρ} {rs : List ResultVar} {zz : Option ρ} (y : ex) (is : List Nat) (hF : zz = some r) (hz : zz = some r') (hr : fn.results = rs.toArray) {x : SV} (hv : resS T e' L' rs = some x) (hx : nbS x = sv r' y) (hk : okN B0.length (sv r' y) = true) (hL : asT B0.length m' e' L' is B0.length [] (Lf r' y) = some ([], Lf r' y)) : ∀ a w, RelN n c B0 m' e' L' a w → QS P fn c B0 sv Lf r a w := by
  subst hz; cases hF
  intro a w hr'
  obtain ⟨B, hm, hA, hS⟩ := id hr'
  obtain ⟨v, h1, h2⟩ := resS_ok hr hT hA hS hv
  obtain ⟨B', hm', _, hS'⟩ := hr'.asT is hL
  have hB' : B' = [] := (by simp_all)
  subst hB'
  refine ⟨hA.d, v, h2, y, ?_, by grind⟩
  rw [← hx] at hk ⊢
  have := okN_toV hk (by rw [nbS_toV]; exact h1)
  grind
theorem ceR {Z : Act → World → Prop} {α : Type} [Rep α] (E : CO α) (h : Nat) (is ks : List Nat) {s : AC} {l : List α} {k nb : Nat} (x : α) (y : E.ex) {cs0 : List SV} {ec : List Value} (hs : L[h]? = some (.o (cHole (s.v l.length) l k))) (hb : L[h + 1]? = some (.box nb cs0)) (hv : L[h + 2]? = some (wOf α nb s l.length k)) (hi : mapO (fun i => L[i]?) is = some (E.Lx x y)) (hc : nbL cs0 = E.cs x y) (hec : mapO (cellV []) (E.cs x y) = some ec) (ha : apartB (h :: (h + 1) :: is) = true) (hk : mapO (lkS e) ks = some (ks.map fun _ => .h s l.length))
    (kk : ∀ a w, RelN n c B0 m (ovh (.h s (l.set k x).length) e ks) (blk L (h :: (h + 1) :: is) ++ [ow s (l.set k x)]) a w → Z a w) : ∀ a w, RelN n c B0 m e L a w → Z a w := by
  intro a w ⟨B, hm, hA, hS⟩
  obtain ⟨h1, h2⟩ := ce_rel E h (h + 1) (h + 2) is ks x y hs hb hv hi hc hec ha hk hA hS
  exact kk a w ⟨B, hm, h1, h2⟩
end
def wAt (n : Nat) : List Ch → Option (Nat × Nat)
  | [] => none
  | .w k b z :: L => match Nat.beq n k with
    | true => some (b, z)
    | false => wAt n L
  | _ :: L => wAt n L
theorem wAt_mem {n b z : Nat} : ∀ {L : List Ch}, wAt n L = some (b, z) → Ch.w n b z ∈ L
  | [], h => by cases h
  | x :: L, h => by
    cases x with
    | w k b' z' =>
      simp only [wAt] at h
      split at h
      · simp_all
      · exact List.mem_cons_of_mem _ (wAt_mem h)
    | box k cs => exact List.mem_cons_of_mem _ (wAt_mem (L := L) h)
    | ro k cs => exact List.mem_cons_of_mem _ (wAt_mem (L := L) h)
    | o ch => exact List.mem_cons_of_mem _ (wAt_mem (L := L) h)
    | f g => exact List.mem_cons_of_mem _ (wAt_mem (L := L) h)
    | no => exact List.mem_cons_of_mem _ (wAt_mem (L := L) h)
section
variable {P : Program} {T : TT} {hT : TOk P T} {n : Nat} {c : Ctx} {B0 : Bl} {N : Act → World → Prop} {X : Nat → Act → World → Prop} {Q : Act → World → Prop} {K K' : List Fr} {m m' : Nat} {e e' : SE} {L L' Lv : List Ch} {cf cf1 cf2 : Cfg} {o : Oper} {d : Nat}
/-- The pointer to an element that is open. -/
theorem ieW {α : Type} [Rep α] (nb : Nat) {t el sz : Nat} {s : AC} {i : Int} {ls : List α} {x : α} {b1 b2 : Bool} {n1 : Nat} {z1 z2 : List SV} {k2 : TK} (hsh : Shp s ls.length) (hi : idx ls i = some x) (hs : stq T n K cf m e L = .idx o d t s ls.length i Lv cf1 cf2 K' m' e' L') (hw : wAt nb Lv = some (elB (s.v ls.length), elO (Rep.n α) i.toNat (s.v ls.length))) (ht : lkT T t = some ⟨.sl el, b1, n1, z1⟩) (he : lkT T el = some ⟨k2, b2, sz, z2⟩) (hn : Rep.n α = sz)
    (k : G (.mk P T hT n c B0 N X Q) K' m' ((d, .p nb 0) :: e') L' cf2) : G (.mk P T hT n c B0 N X Q) K m e L cf := by
  obtain ⟨p, hp⟩ := List.mem_iff_getElem?.1 (wAt_mem hw)
  grind [ie]
end
/-- Out of how it lies in cells. -/
def Cel.o {α : Type} [Rep α] (C : Cel α) (Lx : α → C.ex → List Ch) (pk : ∀ {q y ec}, mapO (cellV []) (C.cs q y) = some ec → OP ec q ((Lx q y).map (chd []))) (no : ∀ q y, noF (Lx q y) = true) (nb : ∀ q y B, (Lx q y).map (chd B) = (Lx q y).map (chd [])) : CO α :=
  ⟨C.ex, C.cs, Lx, fun h => let ⟨y, h1, _⟩ := C.ok (Rep.own_rd h); ⟨y, h1⟩, pk, no, nb⟩
def oI : CO Int := cI.o (fun _ _ => []) (fun h => by cases h; exact op_flat rfl) (fun _ _ => rfl) (fun _ _ _ => rfl)
def oB : CO Bool := cB.o (fun _ _ => []) (fun h => by cases h; exact op_flat rfl) (fun _ _ => rfl) (fun _ _ _ => rfl)
def oU : CO UInt8 := cU.o (fun _ _ => []) (fun h => by cases h; exact op_flat rfl) (fun _ _ => rfl) (fun _ _ _ => rfl)
theorem own0 {α : Type} [Rep α] [Flat α] {cs : List Value} {d : α} (h : Rep.rd F0 default cs d) (w : World) : Rep.own w cs d F0 := Flat.own_of h
end Go.Gv
end
section
/-
  Conditions whose answer stays named. Nothing of a program here.
-/
set_option linter.unusedVariables false
namespace Go.Gv
section
variable {P : Program} {T : TT} {hT : TOk P T} {n : Nat} {c : Ctx} {B0 : Bl} {N : Act → World → Prop} {X : Nat → Act → World → Prop} {Q : Act → World → Prop} {K K' : List Fr} {m m' : Nat} {e e' : SE} {L L' : List Ch} {cf : Cfg}
variable {b : Bool} {α : Type} {A B' : Option α} {q : Option α}
theorem csK {o : Operand} {x y : Code} (ss : List Nat) (hs : stq T n K cf m e L = .cond o b x y K' m' e' L') (ho : mapO (lkS e') ss = some (ss.map fun _ => SV.b b)) (hF : (if b = true then A else B') = q)
    (k1 : b = true → A = q → G (.mk P T hT n c B0 N X Q) K' m' (ovr true e' ss) L' (.c x)) (k2 : b = false → B' = q → G (.mk P T hT n c B0 N X Q) K' m' (ovr false e' ss) L' (.c y)) : G (.mk P T hT n c B0 N X Q) K m e L cf :=
  stq_ok (g := .mk P T hT n c B0 N X Q) (by
    rw [hs]
    intro he a w hr
    have ⟨B, hm, hA, hS⟩ := hr
    obtain ⟨v, h1, h2⟩ := evS_ok hA he
    cases h1
    refine cw_cond hA.env h2 (fun hc => ?_) (fun hc => ?_)
    · rw [if_pos hc] at hF
      exact k1 hc hF a w (ovr_rel hc ss ho hr)
    · rw [if_neg (by grind)] at hF
      exact k2 hc hF a w (ovr_rel hc ss ho hr))
theorem caK {cf' : Cfg} (ss : List Nat) (hs : stq T n K cf m e L = .case b cf' K' m' e' L') (ho : mapO (lkS e') ss = some (ss.map fun _ => SV.b b)) (hF : (if b = true then A else B') = q)
    (k1 : b = true → A = q → G (.mk P T hT n c B0 N X Q) K' m' (ovr true e' ss) L' cf') (k2 : b = false → B' = q → G (.mk P T hT n c B0 N X Q) K' m' (ovr false e' ss) L' cf') : G (.mk P T hT n c B0 N X Q) K m e L cf :=
  stq_ok (g := .mk P T hT n c B0 N X Q) (by
    rw [hs]
    cases b with
    | true => exact G_mono (fun a B hA => ovr_env rfl ss ho hA) (k1 rfl (by grind))
    | false => exact G_mono (fun a B hA => ovr_env rfl ss ho hA) (k2 rfl (by grind)))
theorem knT (hb : b = true) (hF : (if (!b) = true then A else B') = q) : B' = q := by grind
theorem knF (hb : b = false) (hF : (if (!b) = true then A else B') = q) : A = q := by grind
end
end Go.Gv
end
section
/-
  T{} and append. Nothing of a program here.
-/
set_option linter.unusedVariables false
namespace Go.Gv
section
variable {P : Program} {T : TT} {hT : TOk P T} {n : Nat} {c : Ctx} {B0 : Bl} {N : Act → World → Prop} {X : Nat → Act → World → Prop} {Q : Act → World → Prop} {K K' : List Fr} {m m' : Nat} {e e' : SE} {L L' Lv : List Ch} {cf cf1 cf2 : Cfg} {o : Oper} {d : Nat}
/-- A slice that is made. -/
theorem estp {α : Type} [Rep α] {l : List α} (L2 : AC → List Ch) (hs : stq T n K cf m e L = .op o Lv cf1 cf2 K' m' e' L') (hd : o.dst = some d) (hz : ∀ s', Frz (.mk P T hT n c B0 N X Q) cf1 L' (L2 s')) (h : ∀ B a w, AEnvS n B e' a → StS c w B L' → ∃ s' w', RunV P o (vE B e') w (AC.v s' l.length) w' ∧ StS c w' B (L2 s'))
    (k : ∀ s' : AC, G (.mk P T hT n c B0 N X Q) K' m' ((d, .h s' l.length) :: e') (L2 s') cf2) : G (.mk P T hT n c B0 N X Q) K m e L cf := by
  refine stq_ok (g := .mk P T hT n c B0 N X Q) ?_
  rw [hs]
  intro hdn _ hE
  refine hE AC (fun _ => m') (fun s' => (d, .h s' l.length) :: e') L2 hz (fun B a w next Q' hm hA hS hnext => ?_) k
  obtain ⟨s', w', k1, k2⟩ := h _ a w hA hS
  unfold Oper.wp
  rw [k1 _ a hA.env, Oper.upon_value, hd]
  exact hnext s' _ _ ⟨[], by grind, by simpa using hA.of (by simp [toV, gV, cellV]) (hA.env.put (by grind [dstOk, Nat.blt_eq]) _), by grind⟩
theorem own_AC {α : Type} [Rep α] {w : World} {A : List Chunk} {R : List Fact} {v : Value} {l : List α} (h : St c w A R) (i : Nat) (hi : A[i]? = some (cOwn [v] l)) : ∃ s' : AC, v = s'.v l.length := by
  obtain ⟨ad, cp, h2, _⟩ := rd_cap (h.rdOwn i hi)
  exact ⟨⟨ad, cp⟩, h2⟩
section
variable {x y : Operand} {t el sz : Nat} {zv : Value} {b1 : Bool} {n1 : Nat} {z1 : List SV}
theorem lt0 {α : Type} [Rep α] (hinf : Inf P el sz zv) (hs : stq T n K cf m e L = .op o Lv cf1 cf2 K' m' e' L') (ho : (o.op, o.dst) = (.buildSlice t 0 #[], some d)) (ht : lkT T t = some ⟨.sl el, b1, n1, z1⟩) (hn : Rep.n α = sz)
    (k : ∀ s' : AC, G (.mk P T hT n c B0 N X Q) K' m' ((d, .h s' ([] : List α).length) :: e') (L' ++ [ow s' ([] : List α)]) cf2) : G (.mk P T hT n c B0 N X Q) K m e L cf := by
  refine estp (l := ([] : List α)) (fun s' => L' ++ [ow s' ([] : List α)]) hs (congrArg Prod.snd ho) (fun _ => frz_app _) (fun B a w hA hS => ?_) k
  obtain ⟨⟨R, s1, s2⟩, s0⟩ := hS
  obtain ⟨v, w', k1, k2⟩ := rv_lit0 (α := α) (e := vE B e') (o := o) s1 hn (undL ht hT) hinf (congrArg Prod.fst ho)
  obtain ⟨s', rfl⟩ := own_AC (v := v) (l := ([] : List α)) k2 (L'.map (chd B)).length (by simp)
  refine ⟨s', w', k1, ⟨⟨R, by grind [chd], fun z hz => ?_⟩, s0⟩⟩
  rcases List.mem_append.1 hz with hz | hz
  · grind
  · simp at hz; subst hz; trivial
theorem frz_set1 {g : Gx} {cf : Cfg} {L : List Ch} {j : Nat} {z : Ch} (hn : notIn j cf.frz = true) : Frz g cf L (L.set j z) := by
  have := frz_set (g := g) (M := []) (z := z) (L := L) hn
  grind
/-- append of one slice to another. -/
theorem ap {α β : Type} [Rep α] [Flat α] {A : Option β} {q : β} {s s2 : AC} {l xs : List α} (i : Nat) (hinf : Inf P el sz zv) (hs : stq T n K cf m e L = .op o Lv cf1 cf2 K' m' e' L') (ho : (o.op, o.dst) = (.call { callee := .builtin .append, args := #[x, y], argTypes := #[t, t] }, some d)) (ht : lkT T t = some ⟨.sl el, b1, n1, z1⟩) (hn : Rep.n α = sz) (hzs : zv.cells.size = sz) (hi : L'[i]? = some (ow s l)) (hz : notIn i cf1.frz = true) (hsrc : ∀ {w}, HS c w L' → RdA (cxAll w) s2 xs) (hx : evS e' x = some (.h s l.length)) (hy : evS e' y = some (.h s2 xs.length)) (hF : need (l.length + xs.length ≤ 1073741824) A = some q)
    (k : A = some q → ∀ s' : AC, G (.mk P T hT n c B0 N X Q) K' m' ((d, .h s' (l ++ xs).length) :: e') (L'.set i (ow s' (l ++ xs))) cf2) : G (.mk P T hT n c B0 N X Q) K m e L cf := by
  refine estp (l := l ++ xs) (fun s' => L'.set i (ow s' (l ++ xs))) hs (congrArg Prod.snd ho) (fun _ => frz_set1 hz) (fun B a w hA hS => ?_) (k (needE hF).2)
  have hr : RdA (cxAll w) s2 xs := hsrc ⟨_, hS⟩
  obtain ⟨⟨R, s1, s2'⟩, s0⟩ := hS
  have hj2 : (L'.map (chd B))[i]? = some (cOwn [s.v l.length] l) := by simp [hi, chd]
  obtain ⟨v, w', k1, k2⟩ := rv_append i s1 hj2 hr hn (undL ht hT) hinf hzs (needE hF).1 (congrArg Prod.fst ho) (hdB hA hx) (hdB hA hy)
  have hlt : i < L'.length := (List.getElem?_eq_some_iff.1 hi).1
  obtain ⟨s', rfl⟩ := own_AC k2 i (by rw [List.getElem?_set_self (by grind)])
  refine ⟨s', w', k1, ⟨⟨R, ?_, fun z hz => ?_⟩, s0⟩⟩
  · rw [List.map_set]; exact k2
  · rcases List.mem_or_eq_of_mem_set hz with hz | hz
    · grind
    · subst hz; trivial
end
end
end Go.Gv
end
section
/-
  Elements of ours that were looked at alone. Nothing of a program here.
-/
set_option linter.unusedVariables false
namespace Go.Gv
theorem set_same {α : Type} {l : List α} {i : Int} {x : α} (h : idx l i = some x) : l.set i.toNat x = l := by
  obtain ⟨hk, h2⟩ := List.getElem?_eq_some_iff.1 (idx_some h).2.2
  rw [← h2]; simp
section
variable {P : Program} {T : TT} {hT : TOk P T} {n : Nat} {c : Ctx} {B0 : Bl} {N : Act → World → Prop} {X : Nat → Act → World → Prop} {Q : Act → World → Prop} {K K' : List Fr} {m m' : Nat} {e e' : SE} {L L' Lv : List Ch} {cf cf' cf1 cf2 : Cfg} {o : Oper} {d : Nat}
theorem cqS {α : Type} [Rep α] (E : CO α) (h : Nat) (is : List Nat) {s : AC} {l : List α} {i : Int} {nb : Nat} {x : α} (hx : idx l i = some x) (y : E.ex) {cs0 : List SV} {ec : List Value} (h0 : cfgS (stq T n K cf m e L) = some (K', cf', m', e', L')) (hs : L'[h]? = some (.o (cHole (s.v l.length) l i.toNat))) (hb : L'[h + 1]? = some (.box nb cs0)) (hv : L'[h + 2]? = some (wOf α nb s l.length i.toNat)) (hi : mapO (fun i => L'[i]?) is = some (E.Lx x y)) (hc : nbL cs0 = E.cs x y) (hec : mapO (cellV []) (E.cs x y) = some ec) (ha : apartB (h :: (h + 1) :: is) = true) (hz : ((h :: (h + 1) :: is).all fun j => notIn j cf'.frz) = true)
    (kk : G (.mk P T hT n c B0 N X Q) K' m' e' (blk L' (h :: (h + 1) :: is) ++ [ow s l]) cf') : G (.mk P T hT n c B0 N X Q) K m e L cf :=
  ceS E h is [] x y h0 hs hb hv hi hc hec ha hz rfl (by rw [set_same hx]; exact kk)
theorem cqR {Z : Act → World → Prop} {α : Type} [Rep α] (E : CO α) (h : Nat) (is : List Nat) {s : AC} {l : List α} {i : Int} {nb : Nat} {x : α} (hx : idx l i = some x) (y : E.ex) {cs0 : List SV} {ec : List Value} (hs : L[h]? = some (.o (cHole (s.v l.length) l i.toNat))) (hb : L[h + 1]? = some (.box nb cs0)) (hv : L[h + 2]? = some (wOf α nb s l.length i.toNat)) (hi : mapO (fun i => L[i]?) is = some (E.Lx x y)) (hc : nbL cs0 = E.cs x y) (hec : mapO (cellV []) (E.cs x y) = some ec) (ha : apartB (h :: (h + 1) :: is) = true)
    (kk : ∀ a w, RelN n c B0 m e (blk L (h :: (h + 1) :: is) ++ [ow s l]) a w → Z a w) : ∀ a w, RelN n c B0 m e L a w → Z a w :=
  ceR E h is [] x y hs hb hv hi hc hec ha rfl (by rw [set_same hx]; exact kk)
section
variable {x : Operand} {t el : Nat} {zv : Value} {b1 : Bool} {n1 : Nat} {z1 : List SV}
/-- T{x}, of Ints. -/
theorem lt1 {k : IntKind} {i : Int} (hk : k = .i64) (hinf : Inf P el 1 zv) (hs : stq T n K cf m e L = .op o Lv cf1 cf2 K' m' e' L') (ho : (o.op, o.dst) = (.buildSlice t 1 #[(0, x)], some d)) (ht : lkT T t = some ⟨.sl el, b1, n1, z1⟩) (hx : (evS e' x).bind numI = some (k, i))
    (kk : ∀ s' : AC, G (.mk P T hT n c B0 N X Q) K' m' ((d, .h s' [i].length) :: e') (L' ++ [ow s' [i]]) cf2) : G (.mk P T hT n c B0 N X Q) K m e L cf := by
  subst hk
  refine estp (l := [i]) (fun s' => L' ++ [ow s' [i]]) hs (congrArg Prod.snd ho) (fun _ => frz_app _) (fun B a w hA hS => ?_) kk
  obtain ⟨⟨R, s1, s2⟩, s0⟩ := hS
  obtain ⟨v, w', k1, k2⟩ := rv_lit1 (α := Int) (e := vE B e') (o := o) i s1 rfl (undL ht hT) hinf (c0 := .int .i64 i) rfl (congrArg Prod.fst ho) (numB hA hx) rfl
  obtain ⟨s', rfl⟩ := own_AC (v := v) (l := [i]) k2 (L'.map (chd B)).length (by simp)
  refine ⟨s', w', k1, ⟨⟨R, by grind [chd], fun z hz => ?_⟩, s0⟩⟩
  rcases List.mem_append.1 hz with hz | hz
  · grind
  · simp at hz; subst hz; trivial
end
end
end Go.Gv
end
section
/-
  Parts of slices of ours. Nothing of a program here.
-/
set_option linter.unusedVariables false
namespace Go.Gv
theorem RdA.sub {c : Ctx} {α : Type} [Rep α] {s s' : AC} {l : List α} {a b : Nat} (h : RdA c s l) (hp : subV (Rep.n α) a b (s.v l.length) = s'.v ((l.take b).drop a).length) (hb : a ≤ b ∧ b ≤ l.length) : RdA c s' ((l.take b).drop a) := by
  have := rd_sub (n := Rep.n α) rfl h hb.1 hb.2
  rw [hp] at this
  exact this
section
variable {P : Program} {T : TT} {hT : TOk P T} {n : Nat} {c : Ctx} {B0 : Bl} {N : Act → World → Prop} {X : Nat → Act → World → Prop} {Q : Act → World → Prop} {K K' : List Fr} {m m' : Nat} {e e' : SE} {L L' Lv : List Ch} {cf cf1 cf2 : Cfg} {o : Oper} {d : Nat}
theorem sub_AC {α : Type} {s : AC} {l : List α} {n a b : Nat} (hb : a ≤ b ∧ b ≤ l.length) : ∃ s' : AC, subV n a b (s.v l.length) = s'.v ((l.take b).drop a).length := by
  have h := sub_len hb.1 hb.2
  exact ⟨⟨_, _⟩, by rw [h]; rfl⟩
variable {x y z : Operand} {t el sz : Nat} {k k2 : IntKind} {i j : Int} {α β : Type} [Rep α] {A : Option β} {q : β} {s : AC} {l : List α} {b1 b2 : Bool} {n1 : Nat} {z1 z2 : List SV} {kt : TK}
theorem qso_h (p : Nat) (hs : opS (stq T n K cf m e L) = some (o, Lv, cf1, cf2, K', m', e', L')) (ho : (o.op, o.dst) = (.slice t x none (some z) none, some d)) (ht : lkT T t = some ⟨.sl el, b1, n1, z1⟩) (he : lkT T el = some ⟨kt, b2, sz, z2⟩) (hn : Rep.n α = sz) (h1 : Lv[p]? = some (ow s l)) (hx : evS e' x = some (.h s l.length)) (hz : (evS e' z).bind numI = some (k2, j)) (hF : need (0 ≤ j ∧ j ≤ (l.length : Int)) A = some q)
    (kk : A = some q → ∀ s', subV (Rep.n α) 0 j.toNat (s.v l.length) = AC.v s' ((l.take j.toNat).drop 0).length → (0 ≤ j.toNat ∧ j.toNat ≤ l.length) → G (.mk P T hT n c B0 N X Q) K' m' ((d, .h s' ((l.take j.toNat).drop 0).length) :: e') L' cf2) : G (.mk P T hT n c B0 N X Q) K m e L cf := by
  have hb := (needE hF).1
  have hb2 : 0 ≤ j.toNat ∧ j.toNat ≤ l.length := by omega
  subst hn
  obtain ⟨s', hs'⟩ := sub_AC (s := s) (n := Rep.n α) hb2
  refine pu hs (congrArg Prod.snd ho) (fun B a w hA hS => ⟨subV (Rep.n α) 0 j.toNat (s.v l.length), by grind [toV, gV, cellV], ?_⟩) (kk (needE hF).2 s' hs' hb2)
  obtain ⟨⟨R, s1, s2⟩, s0⟩ := hS
  have hr := s1.rdOwn (cs := [s.v l.length]) (d := l) p (by simp [h1, chd])
  exact rv_sub_h hr rfl (undL ht hT) (hT.size _ _ he) hb (congrArg Prod.fst ho) (hdB hA hx) (numB hA hz)
end
end Go.Gv
end
section
/-
  Calls that are handed memory of ours: boxes (by pointers), slices. Nothing of a program here.
-/
set_option linter.unusedVariables false
namespace Go.Gv
theorem Sep.perm {w : World} {A B : List Chunk} (h : A.Perm B) : ∀ {F : Foot}, Sep w A F → Sep w B F := by
  induction h with
  | nil => simp
  | cons a _ ih => exact fun ⟨F1, F2, h1, h2, hd, hF⟩ => ⟨F1, F2, h1, ih h2, hd, hF⟩
  | swap a b L =>
    intro F h
    have h : Sep w (([b] ++ [a]) ++ L) F := h
    obtain ⟨F1, F2, h1, h2, hd, hF⟩ := Sep.append.1 h
    exact (Sep.append (A := [a] ++ [b])).2 ⟨F1, F2, h1.swap, h2, hd, hF⟩
  | trans _ _ i1 i2 => grind
theorem St.via {c : Ctx} {w : World} {A B : List Chunk} {R : List Fact} (h : St c w A R) (hs : ∀ F, Sep w A F → Sep w B F) : St c w B R := by
  obtain ⟨F, S, hsep, rest⟩ := h.sep
  exact ⟨h.keep, ⟨F, S, hs F hsep, rest⟩, h.apart⟩
/-- A box with a part: its place, the values ahead, of the part, behind. -/
structure PV where
  b : Nat
  z : Nat
  A : List Value
  V : List Value
  C : List Value
def PV.whole (p : PV) : Chunk := cAt p.b p.z (p.A ++ (p.V ++ p.C))
def PV.mid (p : PV) : Chunk := cAt p.b (p.z + p.A.length) p.V
def PV.rest (p : PV) : List Chunk := [cAt p.b p.z p.A, cAt p.b (p.z + p.A.length + p.V.length) p.C]
theorem permP {α : Type} {a v c : α} {M R : List α} : (a :: v :: c :: (M ++ R)).Perm (v :: (M ++ (a :: c :: R))) := by
  refine (List.Perm.swap v a _).trans (List.Perm.cons v ?_)
  exact ((List.perm_middle (a := c)).symm.cons a).trans (List.perm_middle (a := a)).symm
theorem sepP {w : World} : ∀ {ps : List PV} {F : Foot}, Sep w (ps.map PV.whole) F → Sep w (ps.map PV.mid ++ ps.flatMap PV.rest) F
  | [], F, h => h
  | p :: ps, F, h => by
    obtain ⟨F1, F2, h1, h2, hd, hF⟩ := h
    exact Sep.perm permP (Sep.append.2 ⟨F1, F2, sep_split h1, sepP h2, hd, hF⟩)
theorem sepQ {w : World} : ∀ {ps : List PV} {F : Foot}, Sep w (ps.map PV.mid ++ ps.flatMap PV.rest) F → Sep w (ps.map PV.whole) F
  | [], F, h => h
  | p :: ps, F, h => by
    have h2 : Sep w ([cAt p.b p.z p.A, p.mid, cAt p.b (p.z + p.A.length + p.V.length) p.C] ++ (ps.map PV.mid ++ ps.flatMap PV.rest)) F := Sep.perm (permP (M := ps.map PV.mid) (R := ps.flatMap PV.rest)).symm h
    obtain ⟨F1, F2, h1, h3, hd, hF⟩ := Sep.append.1 h2
    exact ⟨F1, F2, sep_join h1, sepQ h3, hd, hF⟩
/-- Some chunks ahead are handed in. -/
theorem St.giveF {c : Ctx} {w : World} {A M : List Chunk} {R : List Fact} (h : St c w (A ++ M) R) (s0 : ∀ b o, c.S0 b o → b < c.w0.heap.size) :
    ∃ κ : Ctx, κ.w0 = w ∧ (∀ b o, κ.S0 b o → b < w.heap.size) ∧ St κ w A [] ∧ (∀ f : Fact, f.P c.S0 c.w0 → f.P κ.S0 w) ∧ (∀ f ∈ R, f.P κ.S0 w) ∧
      (∀ ch ∈ M, ∀ f : Fact, (∀ w F, ch.P w F → f.P F w) → f.P κ.S0 w) ∧ ∀ w' A' R', St κ w' A' R' → St c w' (A' ++ M) R := by
  obtain ⟨F, S, hsep, hFS, hFW, hSS, hSlt, hR⟩ := h.sep
  obtain ⟨F1, F2, h1, h2, hd, hF⟩ := Sep.append.1 hsep
  have hk0 : c.w0.heap.size ≤ w.heap.size := h.keep.size
  have h1S0 : ∀ b o, F1 b o → c.S0 b o → False := fun b o p q => by
    rcases hFW b o ((hF b o).2 (.inl p)) with hw | hw
    · exact h.apart b o hw q
    grind
  have hlt : ∀ b o, (S b o ∨ F2 b o) ∨ c.S0 b o → b < w.heap.size := by
    rintro b o ((q | q) | q)
    · grind
    · exact Sep.lt h2 q
    grind
  have hap : ∀ b o, F1 b o → ((S b o ∨ F2 b o) ∨ c.S0 b o) → False := by
    rintro b o p ((q | q) | q)
    · exact hFS b o ((hF b o).2 (.inl p)) q
    · exact hd b o p q
    grind
  refine ⟨⟨w, F1, fun b o => (S b o ∨ F2 b o) ∨ c.S0 b o⟩, rfl, hlt, ⟨Keep.refl _ _, ⟨F1, fun b o => (S b o ∨ F2 b o) ∨ c.S0 b o, h1, hap, fun _ _ h => .inl h, fun _ _ h => .inl h, hlt, by simp⟩, hap⟩, fun f hf => ?_, fun f hf => f.mono (hR f hf) fun b o q => .inl (.inl q), fun ch hch f hf => ?_, ?_⟩
  · exact f.mono (f.agree hf fun b o q => h.keep.cell b o (s0 b o q) fun hw => h.apart b o hw q) fun b o q => .inr q
  · obtain ⟨j, hj⟩ := List.getElem?_of_mem hch
    obtain ⟨G1, G2, g1, _, _, gF⟩ := (Sep.take hj).1 h2
    exact f.mono (hf w G1 g1) fun b o q => .inl (.inr ((gF b o).2 (.inl q)))
  · intro w' A' R' k
    obtain ⟨F', S', b1, b2, b3, b4, b5, b6⟩ := k.sep
    have hk : Keep F1 w w' := k.keep
    have hGW : ∀ b o, b < c.w0.heap.size → F1 b o → c.W b o := fun b o hb g => by
      grind
    refine ⟨h.keep.trans hk hGW, ⟨fun b o => F' b o ∨ F2 b o, S, Sep.append.2 ⟨F', F2, b1, Sep.keep hk h2 fun b o hf g => hd b o g hf, ?_, fun _ _ => Iff.rfl⟩, ?_, ?_, hSS, fun b o hS => Nat.lt_of_lt_of_le (hSlt b o hS) hk.size, ?_⟩, h.apart⟩
    · intro b o hg hf
      grind
    · rintro b o (hf | hf) hS
      · grind
      · exact hFS b o ((hF b o).2 (.inr hf)) hS
    · grind
    · intro f hf
      exact f.agree (hR f hf) fun b o hS => hk.cell b o (hSlt b o hS) fun g => hFS b o ((hF b o).2 (.inl g)) hS
/-! ### Pointers that are handed in -/
/-- Where the box stands, its block, the part's beginning and length. -/
abbrev PS := List (Nat × Nat × Nat × Nat)
def boxL : Nat → List (List SV) → List Ch
  | _, [] => []
  | k, c :: r => .box k c :: boxL (k + 1) r
def cellsAt (L : List Ch) (i n : Nat) : List SV := match L[i]? with
  | some (.box k cs) => match Nat.beq n k with
    | true => cs
    | false => []
  | _ => []
def getB (L : List Ch) : PS → Option (List (List SV))
  | [] => some []
  | (i, n, o, k) :: r => match Nat.ble (o + k) (cellsAt L i n).length, Nat.ble 1 k, frc (((cellsAt L i n).drop o).take k), getB L r with
    | true, true, some d, some ds => some (d :: ds)
    | _, _, _, _ => none
def putB (L M : List Ch) : PS → List (List SV) → List Ch
  | (i, n, o, _) :: r, c :: cs => putB L (M.set i (.box n (ovw (cellsAt L i n) o c))) r cs
  | _, _ => M
def fstP : PS → List Nat
  | [] => []
  | p :: r => p.1 :: fstP r
/-- The pointer as the callee's. -/
def rnP : PS → Nat → SV → Option SV
  | [], _, x => match okN 0 x with
    | true => some x
    | false => none
  | (_, n, o, _) :: r, j, x => match x with
    | .p n' o' => match Nat.beq n n', Nat.beq o o' with
      | true, true => some (.p j 0)
      | _, _ => rnP r (j + 1) (.p n' o')
    | x => rnP r (j + 1) x
structure HG (c κ : Ctx) (L : List Ch) (js : List Nat) : Prop where
  a : ∀ {α : Type} [Rep α] {s : AC} {d : List α}, RdA c s d → RdA κ s d
  o : ∀ {α : Type} [Rep α] {s : AC} {d : List α} (i : Nat), L[i]? = some (ow s d) → notIn i js = true → RdA κ s d
  f : ∀ {α : Type} [Rep α] {s : AC} {d : List α} (i : Nat), L[i]? = some (fr s d) → RdA κ s d
def PvR (B : Bl) (L : List Ch) : PS → List (List SV) → List PV → Prop
  | [], [], [] => True
  | (i, n, o, k) :: r, d :: ds, p :: ps => (∃ cs vs, L[i]? = some (.box n cs) ∧ B[n]? = some (p.b, p.z) ∧ mapO (cellV B) cs = some vs ∧ o + k ≤ cs.length ∧ p.A = vs.take o ∧ p.V = (vs.drop o).take k ∧ p.C = vs.drop (o + k) ∧ d = (cs.drop o).take k) ∧ PvR B L r ds ps
  | _, _, _ => False
def blP (pv : List PV) : Bl := pv.map fun p => (p.b, p.z + p.A.length)
section
variable {c : Ctx} {w : World} {B : Bl} {L : List Ch} {R : List Fact}
theorem cellsAt_get {i n : Nat} {x : SV} {r : List SV} (h : cellsAt L i n = x :: r) : L[i]? = some (.box n (x :: r)) := by
  unfold cellsAt at h
  split at h
  · rename_i k cs hk
    grind [Nat.eq_of_beq_eq_true]
  · cases h
theorem pv_ex (hS : St c w (L.map (chd B)) R) : ∀ {ps : PS} {ds : List (List SV)}, getB L ps = some ds → ∃ pv, PvR B L ps ds pv
  | [], ds, h => by cases h; exact ⟨[], trivial⟩
  | (i, n, o, k) :: r, ds, h => by
    simp only [getB] at h
    split at h
    · rename_i d ds' h1 h2 h3 h4
      cases h
      have h1 := Nat.le_of_ble_eq_true h1
      have h2 := Nat.le_of_ble_eq_true h2
      obtain ⟨pv, hpv⟩ := pv_ex hS h4
      have h3 := frc_eq h3
      subst h3
      cases hc : cellsAt L i n with
      | nil => grind
      | cons x cs =>
        have hL := cellsAt_get hc
        obtain ⟨F, b, z, vs, g1, g2, g3⟩ := hS.chunk (ch := boxC B n (x :: cs)) i (by simp [hL, chd])
        exact ⟨⟨b, z, vs.take o, (vs.drop o).take k, vs.drop (o + k)⟩ :: pv, ⟨x :: cs, vs, hL, g1, g2, by grind, rfl, rfl, rfl, by simp⟩, hpv⟩
    · cases h
theorem parts {vs : List Value} {o k : Nat} : vs.take o ++ ((vs.drop o).take k ++ vs.drop (o + k)) = vs := by
  grind [List.drop_drop, List.take_append_drop]
theorem pv_pick {F : Foot} : ∀ {ps : PS} {ds : List (List SV)} {pv : List PV} {F : Foot}, PvR B L ps ds pv → Sep w (pick (L.map (chd B)) (fstP ps)) F → Sep w (pv.map PV.whole) F
  | [], [], [], F, _, h => h
  | (i, n, o, k) :: r, d :: ds, p :: ps, F, ⟨⟨cs, vs, h1, h2, h3, h4, h5, h6, h7, h8⟩, hr⟩, h => by
    simp only [fstP, pick, List.getElem?_map, h1, Option.map_some, Option.getD_some] at h
    obtain ⟨F1, F2, g1, g2, gd, gF⟩ := h
    refine ⟨F1, F2, ?_, pv_pick (F := F) hr g2, gd, gF⟩
    obtain ⟨b, z, vs', k1, k2, k3⟩ := g1
    grind [PV.whole, parts]
theorem bl_get {Bs : Bl} {p : PV} {ps : List PV} {j : Nat} (h : ∀ i, Bs[j + i]? = (blP (p :: ps))[i]?) : Bs[j]? = some (p.b, p.z + p.A.length) ∧ ∀ i, Bs[j + 1 + i]? = (blP ps)[i]? := by
  refine ⟨?_, fun i => ?_⟩
  · have := h 0
    grind [blP]
  · have := h (i + 1)
    grind [blP]
theorem pv_mid {Bs : Bl} : ∀ {ps : PS} {ds : List (List SV)} {pv : List PV} {j : Nat} {F : Foot}, PvR B L ps ds pv → ds.all (okN.okC 0) = true → (∀ i, Bs[j + i]? = (blP pv)[i]?) → Sep w (pv.map PV.mid) F → Sep w ((boxL j ds).map (chd Bs)) F
  | [], [], [], _, F, _, _, _, h => h
  | (i, n, o, k) :: r, d :: ds, p :: ps, j, F, ⟨⟨cs, vs, h1, h2, h3, h4, h5, h6, h7, h8⟩, hr⟩, ho, hB, h => by
    simp only [List.all_cons, Bool.and_eq_true] at ho
    obtain ⟨F1, F2, g1, g2, gd, gF⟩ := h
    obtain ⟨b1, b2⟩ := bl_get hB
    refine ⟨F1, F2, ⟨p.b, p.z + p.A.length, p.V, b1, ?_, g1⟩, pv_mid hr ho.2 b2 g2, gd, gF⟩
    have e1 : mapO (cellV B) d = some p.V := by grind [mapO_take, mapO_drop]
    have e2 := okC_map ho.1 e1
    rw [List.take_zero] at e2
    exact mapO_mono (fun x v h => by simpa using cellV_app (B := []) Bs h) e2
theorem rnP_ok {Bs : Bl} : ∀ {ps : PS} {ds : List (List SV)} {pv : List PV} {j : Nat} {x x' : SV} {v : Value}, PvR B L ps ds pv → (∀ i, Bs[j + i]? = (blP pv)[i]?) → rnP ps j x = some x' → toV B x = some v → toV Bs x' = some v
  | [], [], [], j, x, x', v, _, _, hx, hv => by
    simp only [rnP] at hx
    split at hx
    · rename_i h0
      cases hx
      have := okN_toV h0 hv
      rw [List.take_zero] at this
      simpa using toV_app (B := []) Bs this
    · cases hx
  | (i, n, o, k) :: r, d :: ds, p :: ps, j, x, x', v, ⟨⟨cs, vs, h1, h2, h3, h4, h5, h6, h7, h8⟩, hr⟩, hB, hx, hv => by
    obtain ⟨b1, b2⟩ := bl_get hB
    simp only [rnP] at hx
    split at hx
    · rename_i n' o'
      split at hx
      · rename_i e1 e2
        cases hx
        have e1 := Nat.eq_of_beq_eq_true e1
        have e2 := Nat.eq_of_beq_eq_true e2
        subst e1; subst e2
        simp only [toV, gV, cellV, h2] at hv
        have hA : p.A.length = o := by grind [mapO_len]
        simp_all [toV, gV, cellV]
      · exact rnP_ok hr b2 hx hv
    · exact rnP_ok hr b2 hx hv
theorem rnP_map {Bs : Bl} {ps : PS} {ds : List (List SV)} {pv : List PV} (hr : PvR B L ps ds pv) (hB : ∀ i, Bs[0 + i]? = (blP pv)[i]?) : ∀ {xs xs' : List SV} {vs : List Value}, mapO (rnP ps 0) xs = some xs' → mapO (toV B) xs = some vs → mapO (toV Bs) xs' = some vs
  | [], _, _, h, hv => by cases h; exact hv
  | x :: xs, xs', vs, h, hv => by
    simp only [mapO] at h hv
    split at h
    · cases h
    · rename_i h1
      split at h
      · cases h
      · rename_i h2
        cases h
        split at hv
        · cases hv
        · rename_i v1
          split at hv
          · cases hv
          · rename_i v2
            cases hv
            simp only [mapO, rnP_ok hr hB h1 v1, rnP_map hr hB h2 v2]
/-- The boxes as they come back. -/
def PvN (B : Bl) : List PV → List (List SV) → List PV → Prop
  | [], [], [] => True
  | p :: ps, d :: ds, q :: qs => (q.b = p.b ∧ q.z = p.z ∧ q.A = p.A ∧ q.C = p.C ∧ q.V.length = p.V.length ∧ mapO (cellV B) d = some q.V) ∧ PvN B ps ds qs
  | _, _, _ => False
theorem pvN_rest : ∀ {ps : List PV} {ds : List (List SV)} {qs : List PV}, PvN B ps ds qs → qs.flatMap PV.rest = ps.flatMap PV.rest ∧ blP qs = blP ps
  | [], [], [], _ => ⟨rfl, rfl⟩
  | p :: ps, d :: ds, q :: qs, ⟨⟨h1, h2, h3, h4, h5, h6⟩, hr⟩ => by
    obtain ⟨e1, e2⟩ := pvN_rest hr
    simp_all [PV.rest, blP]
def lenP : PS → List (List SV) → Bool
  | [], [] => true
  | (_, _, _, k) :: r, d :: ds => match Nat.beq d.length k with
    | true => lenP r ds
    | false => false
  | _, _ => false
theorem pv_len : ∀ {ps : PS} {ds : List (List SV)} {pv : List PV}, PvR B L ps ds pv → pv.length = ps.length
  | [], [], [], _ => rfl
  | (i, n, o, k) :: r, d :: ds, p :: ps, ⟨_, hr⟩ => by simp [pv_len hr]
/-- What comes back, taken as values. -/
theorem pv_back {Bs : Bl} : ∀ {ps : PS} {ds : List (List SV)} {pv : List PV} {es : List (List SV)} {j : Nat}, PvR B L ps ds pv → lenP ps es = true → es.all (okN.okC 0) = true → (∀ i, Bs[j + i]? = (blP pv)[i]?) → (∀ i cs, es[i]? = some cs → ∃ F, (boxC Bs (j + i) cs).P w F) → ∃ qs, PvN B pv es qs ∧ ImpL w ((boxL j es).map (chd Bs)) (qs.map PV.mid)
  | [], [], [], [], j, _, _, _, _, _ => ⟨[], trivial, .nil⟩
  | [], [], [], e :: es, j, _, hl, _, _, _ => by grind [lenP]
  | (i, n, o, k) :: r, d :: ds, p :: ps, [], j, _, hl, _, _, _ => by grind [lenP]
  | (i, n, o, k) :: r, d :: ds, p :: ps, e :: es, j, ⟨⟨cs, vs, h1, h2, h3, h4, h5, h6, h7, h8⟩, hr⟩, hl, ho, hB, hc => by
    simp only [lenP] at hl
    split at hl
    · rename_i he
      have he := Nat.eq_of_beq_eq_true he
      simp only [List.all_cons, Bool.and_eq_true] at ho
      obtain ⟨b1, b2⟩ := bl_get hB
      obtain ⟨qs, q1, q2⟩ := pv_back hr hl ho.2 b2 fun i cs hi => by
        have := hc (i + 1) cs (by grind)
        grind
      obtain ⟨F, b, z, us, g1, g2, g3⟩ := hc 0 e rfl
      have hlen := mapO_len h3
      have g4 := okC_map ho.1 g2
      rw [List.take_zero] at g4
      refine ⟨⟨p.b, p.z, p.A, us, p.C⟩ :: qs, ⟨⟨rfl, rfl, rfl, rfl, ?_, mapO_mono (fun x v h => by simpa using cellV_app (B := []) B h) g4⟩, q1⟩, .cons (fun F hF => ?_) q2⟩
      · grind [mapO_len]
      · obtain ⟨b', z', us', k1, k2, k3⟩ := hF
        rw [show j = j + 0 by omega] at b1
        simp only [Nat.add_zero] at g2 k2 k1 b1
        rw [b1] at k1; cases k1
        rw [g2] at k2; cases k2
        exact k3
    · cases hl
theorem setN_parts : ∀ {ws vs : List Value} {o : Nat}, o + ws.length ≤ vs.length → setN vs o ws = vs.take o ++ (ws ++ vs.drop (o + ws.length))
  | [], vs, o, h => by simp [setN]
  | x :: ws, vs, o, h => by
    simp only [List.length_cons] at h
    simp only [setN]
    rw [setN_parts (by simp; omega)]
    have t1 : (vs.set o x).take (o + 1) = vs.take o ++ [x] := by
      rw [List.take_add_one, List.getElem?_set_self (by omega)]
      grind [List.take_set, List.set_eq_of_length_le]
    grind [List.drop_set_of_lt]
theorem pv_put : ∀ {ps : PS} {ds es : List (List SV)} {pv qs : List PV} {M : List Ch} {F : Foot}, PvR B L ps ds pv → PvN B pv es qs → (∀ i ∈ fstP ps, M[i]? = some .no) → apartB (fstP ps) = true → Sep w (qs.map PV.whole ++ M.map (chd B)) F → Sep w ((putB L M ps es).map (chd B)) F
  | [], [], [], [], [], M, F, _, _, _, _, h => h
  | (i, n, o, k) :: r, d :: ds, e :: es, p :: ps, q :: qs, M, F, ⟨⟨cs, vs, h1, h2, h3, h4, h5, h6, h7, h8⟩, hr⟩, ⟨⟨n1, n2, n3, n4, n5, n6⟩, hn⟩, hM, ha, h => by
    simp only [fstP, apartB, Bool.and_eq_true] at ha
    have hi : M[i]? = some .no := hM i (by simp [fstP])
    have hlt : i < M.length := (List.getElem?_eq_some_iff.1 hi).1
    simp only [putB]
    refine pv_put (ps := r) (ds := ds) (es := es) (pv := ps) (qs := qs) hr hn (fun j hj => ?_) ha.2 ?_
    · have hne : i ≠ j := fun e => by
        subst e
        have := List.all_eq_true.1 ha.1 _ hj
        simp at this
      grind [fstP]
    · have h9 : Sep w (qs.map PV.whole ++ (q.whole :: M.map (chd B))) F := Sep.perm List.perm_middle.symm h
      obtain ⟨F1, F2, g1, g2, gd, gF⟩ := Sep.append.1 h9
      refine Sep.append.2 ⟨F1, F2, g1, ?_, gd, gF⟩
      have hc : cellsAt L i n = cs := by
        simp_all [cellsAt]
      have e0 : (M.map (chd B)).set i cNo = M.map (chd B) := by
        have : (M.map (chd B))[i]? = some cNo := by simp [hi, chd]
        grind [List.set_getElem_self]
      have e1 : Sep w ((M.map (chd B)).set i q.whole) F2 := Sep.put (by grind) (by grind)
      rw [List.map_set, hc]
      refine Sep.imp ?_ e1
      refine ImpL.set i (ImpL.refl _) fun F hF => ⟨p.b, p.z, q.A ++ (q.V ++ q.C), h2, ?_, by rw [← n1, ← n2]; exact hF⟩
      have hlen := mapO_len h3
      have hV : p.V.length = k := by grind
      have hVe : e.length = k := by grind [mapO_len]
      simp_all [ovw_eq, mapO_put, setN_parts]
  | [], [], e :: es, [], _, M, F, _, hn, _, _, _ => by grind [PvN]
  | [], [], [], [], q :: qs, M, F, _, hn, _, _, _ => by grind [PvN]
  | (i, n, o, k) :: r, d :: ds, [], p :: ps, qs, M, F, _, hn, _, _, _ => by grind [PvN]
  | (i, n, o, k) :: r, d :: ds, e :: es, p :: ps, [], M, F, _, hn, _, _, _ => by grind [PvN]
theorem putB_mem {x : Ch} : ∀ {ps : PS} {es : List (List SV)} {M : List Ch}, x ∈ putB L M ps es → x ∈ M ∨ ∃ n cs, x = .box n cs
  | [], _, M, h => .inl (by simpa [putB] using h)
  | (i, n, o, k) :: r, [], M, h => .inl (by simpa [putB] using h)
  | (i, n, o, k) :: r, e :: es, M, h => by
    rcases putB_mem (ps := r) (es := es) (by simpa [putB] using h) with h | h
    · rcases List.mem_or_eq_of_mem_set h with h | h
      · exact .inl h
      · exact .inr ⟨_, _, h⟩
    · exact .inr h
end
end Go.Gv
end
section
/-
  The call that is handed memory of ours. Nothing of a program here.
-/
set_option linter.unusedVariables false
namespace Go.Gv
def cpS : Stop → Option (Oper × Option Nat × FuncId × List SV × Cfg × Cfg × List Fr × Nat × SE × List Ch)
  | .call o d f xs cf cf' K m e L => some (o, d, f, xs, cf, cf', K, m, e, L)
  | .callp o d f xs cf cf' K m e L => some (o, d, f, xs, cf, cf', K, m, e, L)
  | _ => none
def dse (d : Option Nat) (v : SV) (e : SE) : SE := match d with
  | some d => (d, v) :: e
  | none => e
def allO : List Ch → Bool
  | [] => true
  | .o _ :: L => allO L
  | _ :: _ => false
theorem allO_map {B B' : Bl} : ∀ {L : List Ch}, allO L = true → L.map (chd B) = L.map (chd B')
  | [], _ => rfl
  | .o c :: L, h => by simp only [List.map_cons, chd]; rw [allO_map (L := L) h]
theorem allO_mem {B : Bl} {R : List Fact} : ∀ {L : List Ch}, allO L = true → ∀ x ∈ L, roF B R x
  | [], _, x, hx => by cases hx
  | .o c :: L, h, x, hx => by
    rcases List.mem_cons.1 hx with hx | hx
    · subst hx; trivial
    · exact allO_mem (L := L) h x hx
theorem boxL_mem {B : Bl} {R : List Fact} : ∀ {cs : List (List SV)} {k : Nat}, ∀ x ∈ boxL k cs, roF B R x
  | [], k, x, hx => by cases hx
  | c :: cs, k, x, hx => by
    rcases List.mem_cons.1 hx with hx | hx
    · subst hx; trivial
    · exact boxL_mem x hx
theorem boxL_get : ∀ {cs : List (List SV)} {k i : Nat} {c : List SV}, cs[i]? = some c → (boxL k cs)[i]? = some (.box (k + i) c)
  | c' :: cs, k, 0, c, h => by simp at h; subst h; rfl
  | c' :: cs, k, i + 1, c, h => by
    have := boxL_get (k := k + 1) (show cs[i]? = some c by grind)
    grind [boxL]
theorem pick_app {L : List Chunk} : ∀ {a b : List Nat}, pick L (a ++ b) = pick L a ++ pick L b
  | [], b => rfl
  | i :: a, b => by simp only [List.cons_append, pick, pick_app (a := a)]
theorem blk_len : ∀ {js : List Nat} {L : List Ch}, (blk L js).length = L.length
  | [], L => rfl
  | j :: js, L => by simp only [blk]; rw [blk_len]; simp
theorem blk_no : ∀ {js : List Nat} {L : List Ch} {i : Nat}, i < L.length → L[i]? = some .no ∨ i ∈ js → (blk L js)[i]? = some .no
  | [], L, i, _, h => by rcases h with h | h; exact h; cases h
  | j :: js, L, i, hl, h => by
    simp only [blk]
    refine blk_no (by grind) ?_
    grind
theorem fst_lt {B : Bl} {L : List Ch} : ∀ {ps : PS} {ds : List (List SV)} {pv : List PV}, PvR B L ps ds pv → ∀ i ∈ fstP ps, i < L.length
  | [], [], [], _, i, h => by cases h
  | (i, n, o, k) :: r, d :: ds, p :: ps, ⟨⟨cs, vs, h1, _⟩, hr⟩, j, h => by
    rcases List.mem_cons.1 h with h | h
    · grind
    · exact fst_lt hr j h
theorem apart_l : ∀ {a b : List Nat}, apartB (a ++ b) = true → apartB a = true
  | [], b, _ => rfl
  | i :: a, b, h => by
    simp only [List.cons_append, apartB, Bool.and_eq_true, List.all_append] at h ⊢
    exact ⟨h.1.1, apart_l h.2⟩
theorem frz_setN {g : Gx} {cf : Cfg} {L M : List Ch} {j : Nat} {z : Ch} (h : Frz g cf L M) (hn : notIn j cf.frz = true) : Frz g cf L (M.set j z) := by
  cases cf with
  | d B1 ops l is Lf Lv =>
    intro hD
    obtain ⟨h1, h2⟩ := h hD
    have := kl_setA (L := M) (M := []) (j := j) (z := z) h2 hn
    grind
  | o B1 ops l is Lf Lv ii =>
    intro hD
    obtain ⟨h1, h2⟩ := h hD
    have := kl_setA (L := M) (M := []) (j := j) (z := z) h2 hn
    grind
  | _ => trivial
theorem frz_putB {g : Gx} {cf : Cfg} {L L0 : List Ch} : ∀ {ps : PS} {es : List (List SV)} {M : List Ch}, Frz g cf L M → ((fstP ps).all fun j => notIn j cf.frz) = true → Frz g cf L (putB L0 M ps es)
  | [], _, M, h, _ => by grind [putB]
  | (i, n, o, k) :: r, [], M, h, _ => by grind [putB]
  | (i, n, o, k) :: r, e :: es, M, h, hz => by
    simp only [fstP, List.all_cons, Bool.and_eq_true] at hz
    exact frz_putB (ps := r) (es := es) (frz_setN h hz.1) hz.2
theorem notIn_all {i : Nat} : ∀ {js : List Nat}, notIn i js = true → (js.all fun j => !Nat.beq j i) = true
  | [], _ => rfl
  | j :: js, h => by
    simp only [notIn] at h
    split at h
    · cases h
    · rename_i hb
      simp only [List.all_cons, Bool.and_eq_true, Bool.not_eq_true']
      refine ⟨?_, notIn_all h⟩
      grind [Nat.eq_of_beq_eq_true]
theorem cpS_ok {g : Gx} {s : Stop} {o : Oper} {d : Option Nat} {f : FuncId} {xs : List SV} {cf cf' : Cfg} {K : List Fr} {m : Nat} {e : SE} {L : List Ch} (hs : cpS s = some (o, d, f, xs, cf, cf', K, m, e, L))
    (h : ∀ fo args ats, o.op = .call { callee := .value fo, args := args, argTypes := ats } → o.dst = d → evS e fo = some (.f f []) → (∃ ys, mapO (evS e) args.toList = some ys ∧ nbA ys = xs) → dstOk g.n d = true → EStep g K m e L o cf cf' → G g K m e L cf) : Gs g s := by
  cases s <;> simp only [cpS] at hs <;> cases hs
  · exact fun fo args ats a1 a2 a3 a4 _ a6 a7 => h fo args ats a1 a2 a3 a4 a6 a7
  · exact h
section
variable {P : Program} {T : TT} {hT : TOk P T} {n : Nat} {c : Ctx} {B0 : Bl} {N : Act → World → Prop} {X : Nat → Act → World → Prop} {Q : Act → World → Prop} {K K' : List Fr} {m m' : Nat} {e e' : SE} {L L' : List Ch} {cf cf1 cf2 : Cfg} {o : Oper}
theorem cwk {α β ex : Type} {fo : Option α} {kf : α → Option β} {q : β} {d : Option Nat} {f : FuncId} {xs xs0 : List SV} {cs0 : List (List SV)} {M : List Ch} {sv : α → ex → SV} {cb : α → ex → List (List SV)} {Lr : α → ex → List Ch} (ps : PS) (is : List Nat)
    (hs : cpS (stq T n K cf m e L) = some (o, d, f, xs, cf1, cf2, K', m', e', L')) (hb : getB L' ps = some cs0) (hi : mapO (fun i => L'[i]?) is = some M) (hx : mapO (rnP ps 0) xs = some xs0)
    (hk : (allO M && (cs0.all (okN.okC 0) && (apartB (fstP ps ++ is) && (fstP ps ++ is).all fun j => notIn j cf1.frz))) = true)
    (hn : ∀ x y, (lenP ps (cb x y) && ((cb x y).all (okN.okC 0) && (allO (Lr x y) && okN 0 (sv x y)))) = true)
    (hc : ∀ {κ : Ctx}, HG c κ L' (fstP ps ++ is) → ∀ {Bs : Bl}, Bs.length = ps.length → ∀ {x}, fo = some x → FnS P f κ xs0 Bs (boxL 0 cs0 ++ M) sv (fun x y => boxL 0 (cb x y) ++ Lr x y) x)
    (hF : fo.bind kf = some q)
    (k : ∀ x, fo = some x → kf x = some q → ∀ y : ex, G (.mk P T hT n c B0 N X Q) K' m' (dse d (sv x y) e') (putB L' (blk L' (fstP ps ++ is) ++ Lr x y) ps (cb x y)) cf2) : G (.mk P T hT n c B0 N X Q) K m e L cf := by
  refine stq_ok (g := .mk P T hT n c B0 N X Q) (cpS_ok hs ?_)
  intro fo' args ats ho hd hf ⟨ys, hys, hxs⟩ hdn hE
  simp only [Bool.and_eq_true] at hk hn
  obtain ⟨hkM, hkc, hka, hkz⟩ := hk
  cases hfo : fo with
  | none => grind
  | some x =>
    rw [hfo] at hF
    have hz2 : ((fstP ps).all fun j => notIn j cf1.frz) = true := by
      grind
    refine hE ex (fun _ => m') (fun y => dse d (sv x y) e') (fun y => putB L' (blk L' (fstP ps ++ is) ++ Lr x y) ps (cb x y)) (fun y => frz_putB (frz_blk _ hkz) hz2) (fun B a w next Q' hm hA hS hnext => ?_) (k x hfo hF)
    generalize hBB : B0S (.mk P T hT n c B0 N X Q) cf1 ++ B = BB at hm hA hS hnext
    obtain ⟨⟨R, s1, s2⟩, s0⟩ := hS
    obtain ⟨pv, hpv⟩ := pv_ex s1 hb
    have hBs : (blP pv).length = ps.length := by grind [blP, pv_len]
    have hB0 : ∀ i, (blP pv)[0 + i]? = (blP pv)[i]? := fun i => by simp
    -- what is handed in, ahead
    have f1 := s1.front (fstP ps ++ is) hka
    have f2 : St c w ((pv.map PV.mid ++ M.map (chd BB)) ++ (pv.flatMap PV.rest ++ blank (L'.map (chd BB)) (fstP ps ++ is))) R := by
      refine f1.via fun F h => ?_
      rw [pick_app, pick_kl hi] at h
      obtain ⟨F1, F2, g1, g2, gd, gF⟩ := Sep.append.1 h
      obtain ⟨F3, F4, g3, g4, gd2, gF2⟩ := Sep.append.1 g1
      have g5 := sepP (pv_pick (F := F) hpv g3)
      have g6 : Sep w (((pv.map PV.mid ++ pv.flatMap PV.rest) ++ M.map (chd BB)) ++ blank (L'.map (chd BB)) (fstP ps ++ is)) F := Sep.append.2 ⟨F1, F2, Sep.append.2 ⟨F3, F4, g5, g4, gd2, gF2⟩, g2, gd, gF⟩
      refine Sep.perm ?_ g6
      grind [List.Perm.append_left, List.Perm.append_right, List.perm_append_comm]
    obtain ⟨κ, k1, k2, k3, k4, k5, k6, k7⟩ := f2.giveF s0
    subst k1
    have hHG : HG c κ L' (fstP ps ++ is) := by
      refine ⟨fun {α} _ {s d} h => k4 (fRd [s.v d.length] d) h, fun {α} _ {s d} i hi hj => ?_, fun {α} _ {s d} i hi => k5 _ (s2 _ (List.mem_of_getElem? hi))⟩
      have : (blank (L'.map (chd BB)) (fstP ps ++ is))[i]? = some (cOwn [s.v d.length] d) := by
        rw [blank_get (notIn_all hj), List.getElem?_map, hi]; rfl
      exact k6 _ (List.mem_append_right _ (List.mem_of_getElem? this)) (fRd [s.v d.length] d) fun w F h => Rep.own_rd h
    obtain ⟨hcall, hrun⟩ := hc hHG hBs hfo
    obtain ⟨vs, h1, h2⟩ := evs_S hA hys
    obtain ⟨v, h3, h4⟩ := evS_ok hA hf
    simp [toV, mapO] at h3
    subst h3
    have h1' : mapO (toV BB) xs = some vs := by grind [nbA_toV]
    have hst : StS κ κ.w0 (blP pv) (boxL 0 cs0 ++ M) := by
      refine ⟨⟨[], ?_, fun x hx => ?_⟩, k2⟩
      · rw [List.map_append, allO_map (B' := BB) hkM]
        refine k3.via fun F h => ?_
        grind [Sep.append, pv_mid]
      grind [boxL_mem, allO_mem]
    have h5 := hrun vs (rnP_map hpv hB0 hx h1') hst
    have h6 := rc_call' (w := κ.w0) hcall ho h4 h2
    unfold Oper.wp
    rw [h6 _ a hA.env, Oper.upon_enter]
    refine Calls.mono h5 fun en w' ⟨v, hv, y, g1, g2⟩ => ?_
    subst hv
    obtain ⟨n1, n2, n3, n4⟩ := hn x y
    have g3 := toV_app BB (take0 n4 g1)
    rw [List.nil_append] at g3
    -- behind
    obtain ⟨⟨R', t1, t2⟩, t0⟩ := g2
    obtain ⟨qs, q1, q2⟩ := pv_back (w := w') hpv n1 n2 hB0 fun i cs hi => t1.chunk (ch := boxC (blP pv) (0 + i) cs) i (by
      rw [List.getElem?_map, List.getElem?_append_left (by
        have := (List.getElem?_eq_some_iff.1 (boxL_get (k := 0) hi)).1
        exact this), boxL_get hi]; rfl)
    obtain ⟨e1, e2⟩ := pvN_rest q1
    have t3 : St κ w' (qs.map PV.mid ++ (Lr x y).map (chd BB)) R' := by
      refine t1.imp ?_
      grind [allO_map, ImpL.append, ImpL.refl]
    have t4 := k7 w' _ R' t3
    have t5 : St c w' ((putB L' (blk L' (fstP ps ++ is) ++ Lr x y) ps (cb x y)).map (chd BB)) R := by
      refine t4.via fun F h => ?_
      refine pv_put hpv q1 (fun i hi => ?_) (apart_l hka) ?_
      · grind [fst_lt, blk_len, blk_no]
      · rw [List.map_append, blk_map]
        have h7 : Sep w' ((qs.map PV.mid ++ qs.flatMap PV.rest) ++ (blank (L'.map (chd BB)) (fstP ps ++ is) ++ (Lr x y).map (chd BB))) F := by
          rw [e1]
          refine Sep.perm ?_ h
          grind [List.Perm.append_left, List.perm_append_comm]
        grind [Sep.append, sepQ]
    have t6 : StS c w' BB (putB L' (blk L' (fstP ps ++ is) ++ Lr x y) ps (cb x y)) := by
      refine ⟨⟨R, t5, fun z hz => ?_⟩, s0⟩
      rcases putB_mem hz with hz | ⟨_, _, hz⟩
      · rcases List.mem_append.1 hz with hz | hz
        · rcases blk_mem _ _ hz with hz | hz
          · grind
          · subst hz; trivial
        grind [allO_mem]
      · subst hz; trivial
    rw [hd]
    cases d with
    | none => exact hnext y _ _ ⟨[], by grind, by grind [dse, Act.put], by grind⟩
    | some d => exact hnext y _ _ ⟨[], by grind, by simpa [dse] using hA.of g3 (hA.env.put (by grind [dstOk, Nat.blt_eq]) v), by grind⟩
end
end Go.Gv
end
section
/-
  Calls by the number of pointers; elements opened anew; slices that are nil as ours. Nothing of a program here.
-/
set_option linter.unusedVariables false
namespace Go.Gv
section
variable {P : Program} {T : TT} {hT : TOk P T} {n : Nat} {c : Ctx} {B0 : Bl} {N : Act → World → Prop} {X : Nat → Act → World → Prop} {Q : Act → World → Prop} {K K' : List Fr} {m m' : Nat} {e e' : SE} {L L' Lv : List Ch} {cf cf' cf1 cf2 : Cfg} {o : Oper}
section
variable {α β ex : Type} {fo : Option α} {kf : α → Option β} {q : β} {d : Option Nat} {f : FuncId} {xs xs0 : List SV} {M : List Ch} {sv : α → ex → SV} {Lr : α → ex → List Ch}
theorem cw0 (is : List Nat)
    (hs : cpS (stq T n K cf m e L) = some (o, d, f, xs, cf1, cf2, K', m', e', L')) (hi : mapO (fun i => L'[i]?) is = some M) (hx : mapO (rnP [] 0) xs = some xs0)
    (hk : (allO M && (apartB is && is.all fun j => notIn j cf1.frz)) = true) (hn : ∀ x y, (allO (Lr x y) && okN 0 (sv x y)) = true)
    (hc : ∀ {κ : Ctx}, HG c κ L' is → ∀ {x}, fo = some x → FnS P f κ xs0 [] M sv Lr x) (hF : fo.bind kf = some q)
    (k : ∀ x, fo = some x → kf x = some q → ∀ y : ex, G (.mk P T hT n c B0 N X Q) K' m' (dse d (sv x y) e') (blk L' is ++ Lr x y) cf2) : G (.mk P T hT n c B0 N X Q) K m e L cf :=
  cwk (cb := fun _ _ => []) (Lr := Lr) [] is hs rfl hi hx (by grind [fstP]) (fun x y => by grind [lenP]) (fun {κ} h Bs hl x hx => match Bs, hl with | [], _ => hc (by grind [fstP]) hx) hF (fun x h1 h2 y => by grind [putB, fstP])
theorem cw1 {c1 : List SV} {a1 : α → ex → List SV} (i1 n1 o1 k1 : Nat) (is : List Nat)
    (hs : cpS (stq T n K cf m e L) = some (o, d, f, xs, cf1, cf2, K', m', e', L')) (hb : getB L' [(i1, n1, o1, k1)] = some [c1]) (hi : mapO (fun i => L'[i]?) is = some M) (hx : mapO (rnP [(i1, n1, o1, k1)] 0) xs = some xs0)
    (hk : (allO M && ([c1].all (okN.okC 0) && (apartB (i1 :: is) && (i1 :: is).all fun j => notIn j cf1.frz))) = true) (hn : ∀ x y, (lenP [(i1, n1, o1, k1)] [a1 x y] && ([a1 x y].all (okN.okC 0) && (allO (Lr x y) && okN 0 (sv x y)))) = true)
    (hc : ∀ {κ : Ctx}, HG c κ L' (i1 :: is) → ∀ {b1 : Nat × Nat} {x}, fo = some x → FnS P f κ xs0 [b1] (.box 0 c1 :: M) sv (fun x y => .box 0 (a1 x y) :: Lr x y) x) (hF : fo.bind kf = some q)
    (k : ∀ x, fo = some x → kf x = some q → ∀ y : ex, G (.mk P T hT n c B0 N X Q) K' m' (dse d (sv x y) e') (putB L' (blk L' (i1 :: is) ++ Lr x y) [(i1, n1, o1, k1)] [a1 x y]) cf2) : G (.mk P T hT n c B0 N X Q) K m e L cf :=
  cwk (cb := fun x y => [a1 x y]) (Lr := Lr) [(i1, n1, o1, k1)] is hs hb hi hx hk hn (fun {κ} h Bs hl x hx => match Bs, hl with | [b1], _ => hc h hx) hF k
theorem cw2 {c1 c2 : List SV} {a1 a2 : α → ex → List SV} (i1 n1 o1 k1 : Nat) (i2 n2 o2 k2 : Nat) (is : List Nat)
    (hs : cpS (stq T n K cf m e L) = some (o, d, f, xs, cf1, cf2, K', m', e', L')) (hb : getB L' [(i1, n1, o1, k1), (i2, n2, o2, k2)] = some [c1, c2]) (hi : mapO (fun i => L'[i]?) is = some M) (hx : mapO (rnP [(i1, n1, o1, k1), (i2, n2, o2, k2)] 0) xs = some xs0)
    (hk : (allO M && ([c1, c2].all (okN.okC 0) && (apartB (i1 :: i2 :: is) && (i1 :: i2 :: is).all fun j => notIn j cf1.frz))) = true) (hn : ∀ x y, (lenP [(i1, n1, o1, k1), (i2, n2, o2, k2)] [a1 x y, a2 x y] && ([a1 x y, a2 x y].all (okN.okC 0) && (allO (Lr x y) && okN 0 (sv x y)))) = true)
    (hc : ∀ {κ : Ctx}, HG c κ L' (i1 :: i2 :: is) → ∀ {b1 b2 : Nat × Nat} {x}, fo = some x → FnS P f κ xs0 [b1, b2] (.box 0 c1 :: .box 1 c2 :: M) sv (fun x y => .box 0 (a1 x y) :: .box 1 (a2 x y) :: Lr x y) x) (hF : fo.bind kf = some q)
    (k : ∀ x, fo = some x → kf x = some q → ∀ y : ex, G (.mk P T hT n c B0 N X Q) K' m' (dse d (sv x y) e') (putB L' (blk L' (i1 :: i2 :: is) ++ Lr x y) [(i1, n1, o1, k1), (i2, n2, o2, k2)] [a1 x y, a2 x y]) cf2) : G (.mk P T hT n c B0 N X Q) K m e L cf :=
  cwk (cb := fun x y => [a1 x y, a2 x y]) (Lr := Lr) [(i1, n1, o1, k1), (i2, n2, o2, k2)] is hs hb hi hx hk hn (fun {κ} h Bs hl x hx => match Bs, hl with | [b1, b2], _ => hc h hx) hF k
theorem cw3 {c1 c2 c3 : List SV} {a1 a2 a3 : α → ex → List SV} (i1 n1 o1 k1 : Nat) (i2 n2 o2 k2 : Nat) (i3 n3 o3 k3 : Nat) (is : List Nat)
    (hs : cpS (stq T n K cf m e L) = some (o, d, f, xs, cf1, cf2, K', m', e', L')) (hb : getB L' [(i1, n1, o1, k1), (i2, n2, o2, k2), (i3, n3, o3, k3)] = some [c1, c2, c3]) (hi : mapO (fun i => L'[i]?) is = some M) (hx : mapO (rnP [(i1, n1, o1, k1), (i2, n2, o2, k2), (i3, n3, o3, k3)] 0) xs = some xs0)
    (hk : (allO M && ([c1, c2, c3].all (okN.okC 0) && (apartB (i1 :: i2 :: i3 :: is) && (i1 :: i2 :: i3 :: is).all fun j => notIn j cf1.frz))) = true) (hn : ∀ x y, (lenP [(i1, n1, o1, k1), (i2, n2, o2, k2), (i3, n3, o3, k3)] [a1 x y, a2 x y, a3 x y] && ([a1 x y, a2 x y, a3 x y].all (okN.okC 0) && (allO (Lr x y) && okN 0 (sv x y)))) = true)
    (hc : ∀ {κ : Ctx}, HG c κ L' (i1 :: i2 :: i3 :: is) → ∀ {b1 b2 b3 : Nat × Nat} {x}, fo = some x → FnS P f κ xs0 [b1, b2, b3] (.box 0 c1 :: .box 1 c2 :: .box 2 c3 :: M) sv (fun x y => .box 0 (a1 x y) :: .box 1 (a2 x y) :: .box 2 (a3 x y) :: Lr x y) x) (hF : fo.bind kf = some q)
    (k : ∀ x, fo = some x → kf x = some q → ∀ y : ex, G (.mk P T hT n c B0 N X Q) K' m' (dse d (sv x y) e') (putB L' (blk L' (i1 :: i2 :: i3 :: is) ++ Lr x y) [(i1, n1, o1, k1), (i2, n2, o2, k2), (i3, n3, o3, k3)] [a1 x y, a2 x y, a3 x y]) cf2) : G (.mk P T hT n c B0 N X Q) K m e L cf :=
  cwk (cb := fun x y => [a1 x y, a2 x y, a3 x y]) (Lr := Lr) [(i1, n1, o1, k1), (i2, n2, o2, k2), (i3, n3, o3, k3)] is hs hb hi hx hk hn (fun {κ} h Bs hl x hx => match Bs, hl with | [b1, b2, b3], _ => hc h hx) hF k
end
theorem elB_v (s : AC) (n1 n2 : Nat) : elB (s.v n1) = elB (s.v n2) := by obtain ⟨a, c⟩ := s; cases a <;> rfl
theorem elO_v (s : AC) (q k n1 n2 : Nat) : elO q k (s.v n1) = elO q k (s.v n2) := by obtain ⟨a, c⟩ := s; cases a <;> rfl
/-- An element that was shut is opened anew. -/
theorem ro {α β : Type} [Rep α] (E : CO α) (j v nb : Nat) {s : AC} {i : Int} {n0 : Nat} {ls : List α} {kf : α → Option β} {q : β} (hs : cfgS (stq T n K cf m e L) = some (K', cf', m', e', L')) (hj : L'[j]? = some (ow s ls)) (hv : L'[v]? = some (wOf α nb s n0 i.toNat)) (hz : notIn j cf'.frz = true) (hF : (idx ls i).bind kf = some q)
    (k : ∀ x, idx ls i = some x → kf x = some q → ∀ y : E.ex, G (.mk P T hT n c B0 N X Q) K' m' e' (L'.set j .no ++ ([.o (cHole (s.v ls.length) ls i.toNat), .box nb (E.cs x y), wOf α nb s ls.length i.toNat] ++ E.Lx x y)) cf') : G (.mk P T hT n c B0 N X Q) K m e L cf := by
  refine go hs ?_
  cases hi : idx ls i with
  | none => grind
  | some x =>
    rw [hi] at hF
    refine chg (fun _ => m') (fun _ => e') (fun y : E.ex => L'.set j .no ++ ([.o (cHole (s.v ls.length) ls i.toNat), .box nb (E.cs x y), wOf α nb s ls.length i.toNat] ++ E.Lx x y)) (fun B a w hm hA hS => ?_) (fun y => frz_set hz) (fun y => k x hi hF y)
    obtain ⟨⟨R, s1, s2⟩, s0⟩ := hS
    have hB : B[nb]? = some (elB (s.v ls.length), elO (Rep.n α) i.toNat (s.v ls.length)) := by
      rw [elB_v s ls.length n0, elO_v s _ _ ls.length n0]; exact s2 _ (List.mem_of_getElem? hv)
    have hj2 : (L'.map (chd B))[j]? = some (cOwn [s.v ls.length] ls) := by simp [hj, chd]
    obtain ⟨ec, h1⟩ := s1.open j hj2 (idx_some hi).2.2
    have hlen : ((L'.map (chd B)).set j cNo).length = L'.length := by simp
    obtain ⟨F, hF'⟩ := h1.chunk (L'.length + 2) (by rw [List.getElem?_append_right (by omega)]; simp; rfl)
    obtain ⟨y, hy2⟩ := E.op (show Rep.own w ec x F from hF')
    have h2 := h1.unpack (L'.length + 2) (by simp) (E.pk hy2)
    have hset : ((L'.map (chd B)).set j cNo ++ [cHole (s.v ls.length) ls i.toNat, cAt (elB (s.v ls.length)) (elO (Rep.n α) i.toNat (s.v ls.length)) ec, cOwn ec x]).set (L'.length + 2) cNo = (L'.map (chd B)).set j cNo ++ [cHole (s.v ls.length) ls i.toNat, cAt (elB (s.v ls.length)) (elO (Rep.n α) i.toNat (s.v ls.length)) ec, cNo] := by
      simp
    rw [hset] at h2
    refine ⟨y, [], by grind, by grind, ⟨⟨R, ?_, fun z hz => ?_⟩, s0⟩⟩
    · have e1 : (L'.set j Ch.no).map (chd B) = (L'.map (chd B)).set j cNo := by rw [List.map_set]; rfl
      refine h2.imp ?_
      rw [List.append_nil, List.map_append, List.map_append, ← e1, List.append_assoc]
      refine ImpL.append (ImpL.refl _) (ImpL.append (.cons (fun _ h => h) (.cons (fun F h => ⟨_, _, ec, hB, mapO_mono (fun x v h => by simpa using cellV_app (B := []) B h) hy2, h⟩) (.cons (fun _ h => h) .nil))) ?_)
      rw [E.nb x y B]; exact ImpL.refl _
    · rw [List.append_nil]
      rcases List.mem_append.1 hz with hz | hz
      · rcases List.mem_or_eq_of_mem_set hz with hz | hz
        · grind
        · subst hz; trivial
      · rcases List.mem_append.1 hz with hz | hz
        · simp at hz
          rcases hz with rfl | rfl | rfl
          · trivial
          · trivial
          · exact hB
        · exact noF_ok (E.no x y) z hz
/-- A box whose known Bools are told as Bools. -/
theorem bx (i : Nat) {nb : Nat} {cs : List SV} (hs : cfgS (stq T n K cf m e L) = some (K', cf', m', e', L')) (hb : L'[i]? = some (.box nb cs)) (hz : notIn i cf'.frz = true) (k : G (.mk P T hT n c B0 N X Q) K' m' e' (L'.set i (.box nb (nbL cs))) cf') : G (.mk P T hT n c B0 N X Q) K m e L cf := by
  refine go hs (chg (fun _ : Unit => m') (fun _ => e') (fun _ => L'.set i (.box nb (nbL cs))) (fun B a w hm hA hS => ?_) (fun _ => frz_set1 hz) (fun _ => k))
  obtain ⟨⟨R, s1, s2⟩, s0⟩ := hS
  have e1 : (L'.set i (.box nb (nbL cs))).map (chd B) = L'.map (chd B) := by
    obtain ⟨hl, he⟩ := List.getElem?_eq_some_iff.1 hb
    rw [List.map_set]
    have : chd B (.box nb (nbL cs)) = (L'.map (chd B))[i]'(by grind) := by
      grind [chd, boxC, nbL_map]
    grind [List.set_getElem_self]
  refine ⟨(), [], by grind, by grind, ⟨⟨R, ?_, fun z hz => ?_⟩, s0⟩⟩
  · grind
  · rw [List.append_nil]
    rcases List.mem_or_eq_of_mem_set hz with hz | hz
    · grind
    · subst hz; trivial
/-- nil as a slice of ours. -/
theorem nw (α : Type) [Rep α] (hs : cfgS (stq T n K cf m e L) = some (K', cf', m', e', L'))
    (k : G (.mk P T hT n c B0 N X Q) K' m' e' (L' ++ [ow ⟨none, 0⟩ ([] : List α)]) cf') : G (.mk P T hT n c B0 N X Q) K m e L cf := by
  refine go hs ?_
  refine chg (fun _ : Unit => m') (fun _ => e') (fun _ => L' ++ [ow ⟨none, 0⟩ ([] : List α)]) (fun B a w hm hA hS => ?_) (fun _ => frz_app _) (fun _ => k)
  obtain ⟨⟨R, s1, s2⟩, s0⟩ := hS
  refine ⟨(), [], by grind, by grind, ⟨⟨R, ?_, fun z hz => ?_⟩, s0⟩⟩
  · rw [List.append_nil, List.map_append]
    exact St.more s1 (Keep.refl _ _) ⟨F0, ⟨none, 0, rfl, Nat.le_refl _, Nat.zero_le _, .inl ⟨rfl, rfl, fun _ _ h => h⟩⟩, fun _ _ h => h.elim⟩
  · rw [List.append_nil]
    rcases List.mem_append.1 hz with hz | hz
    · grind
    · simp at hz; subst hz; trivial
theorem nwR {Z : Act → World → Prop} (α : Type) [Rep α] (kk : ∀ a w, RelN n c B0 m e (L ++ [ow ⟨none, 0⟩ ([] : List α)]) a w → Z a w) : ∀ a w, RelN n c B0 m e L a w → Z a w := by
  intro a w ⟨B, hm, hA, hS⟩
  refine kk a w ⟨B, hm, hA, ?_⟩
  obtain ⟨⟨R, s1, s2⟩, s0⟩ := hS
  refine ⟨⟨R, ?_, fun z hz => ?_⟩, s0⟩
  · rw [List.map_append]
    exact St.more s1 (Keep.refl _ _) ⟨F0, ⟨none, 0, rfl, Nat.le_refl _, Nat.zero_le _, .inl ⟨rfl, rfl, fun _ _ h => h⟩⟩, fun _ _ h => h.elim⟩
  · rcases List.mem_append.1 hz with hz | hz
    · grind
    · simp at hz; subst hz; trivial
end
end Go.Gv
end
section
/- Full slices s[a:b:m], for what is ours and for what others hold. -/
set_option linter.unusedVariables false
set_option linter.unusedSimpArgs false
namespace Go.Gv
/-- s[a:b:m]. -/
def subC (n a b m : Nat) : Value → Value
  | .slice ad _ _ => .slice (if m = a then ad else ad.map (·.add (a * n))) (b - a) (m - a)
  | v => v
/-- Less room. -/
theorem own_cut {α : Type} [Rep α] {w : World} {ad : Option Addr} {l : List α} {c m : Nat} {F : Foot} (h : Rep.own w [.slice ad l.length c] l F) (h1 : l.length ≤ m) (h2 : m ≤ c) (h0 : 0 < m) : ∃ F', Rep.own w [.slice ad l.length m] l F' ∧ ∀ b o, F' b o → F b o := by
  obtain ⟨ad', c', e, k1, k2, k3⟩ := own_iff.1 h
  simp at e
  obtain ⟨rfl, rfl⟩ := e
  rcases k3 with ⟨_, hc, _⟩ | ⟨bl, off, cc, Fe, rfl, hr, hc, ho, hd, hF⟩
  · omega
  · have hmul : m * Rep.n α ≤ c * Rep.n α := Nat.mul_le_mul_right _ h2
    refine ⟨fun b' o => inRow bl off (m * Rep.n α) b' o ∨ Fe b' o, own_of_row (fun o p => hr o ?_) hc ho (fun b' o p q => hd b' o p ?_) h1 (by omega), ?_⟩
    · obtain ⟨p0, p1, p2⟩ := p; exact ⟨p0, p1, by omega⟩
    · obtain ⟨p0, p1, p2⟩ := q; exact ⟨p0, p1, by omega⟩
    · rintro b' o (p | p)
      · obtain ⟨p0, p1, p2⟩ := p; exact (hF b' o).2 (.inl ⟨p0, p1, by omega⟩)
      grind
theorem own_shape {α : Type} [Rep α] {w : World} {s : Value} {l : List α} {F : Foot} (h : Rep.own w [s] l F) : ∃ ad c, s = .slice ad l.length c ∧ l.length ≤ c := by
  grind [own_iff]
theorem own_subC {α : Type} [Rep α] {w : World} {s : Value} {l : List α} {n a b m : Nat} {F : Foot} (hn : Rep.n α = n) (h : Rep.own w [s] l F) (h1 : a ≤ b) (h2 : b ≤ m) (h3 : m ≤ l.length) : ∃ F', Rep.own w [subC n a b m s] ((l.take b).drop a) F' ∧ ∀ b o, F' b o → F b o := by
  have hl := sub_len h1 (Nat.le_trans h2 h3)
  obtain ⟨ad, c, rfl, hc⟩ := own_shape h
  by_cases hm : m = a
  · have hb : b = a := by omega
    have hz : (l.take b).drop a = [] := by grind
    rw [hz]
    simp only [subC, hm, hb, Nat.sub_self, if_true]
    refine ⟨F0, ?_, fun _ _ h => h.elim⟩
    obtain ⟨ad', c', e, k1, k2, k3⟩ := own_iff.1 h
    simp at e
    obtain ⟨rfl, rfl⟩ := e
    rcases k3 with ⟨rfl, hc0, _⟩ | ⟨bl, off, cc, Fe, rfl, _⟩
    · exact ⟨none, 0, rfl, Nat.le_refl _, Nat.zero_le _, .inl ⟨rfl, rfl, fun _ _ h => h⟩⟩
    · exact own_iff.2 ⟨some ⟨bl, off, none⟩, 0, rfl, Nat.le_refl _, Nat.zero_le _, .inr ⟨bl, off, [], F0, rfl, fun o p => by obtain ⟨_, p1, p2⟩ := p; omega, fun j v h => by simp at h, ⟨rfl, fun _ _ h => h⟩, fun _ _ h => h.elim, fun b' o => by
        simp [F0, inRow]⟩⟩
  · obtain ⟨F1, k1, k2⟩ := own_sub hn h h1 (Nat.le_trans h2 h3)
    have hca : c ≠ a := by omega
    have e : subV n a b (.slice ad l.length c) = .slice (ad.map (·.add (a * n))) ((l.take b).drop a).length (c - a) := by simp_all [subV]
    rw [e] at k1
    obtain ⟨F2, k3, k4⟩ := own_cut (m := m - a) k1 (by omega) (by omega) (by omega)
    refine ⟨F2, ?_, fun b' o p => k2 _ _ (k4 _ _ p)⟩
    simp_all [subC]
theorem rd_subC {α : Type} [Rep α] {S : Foot} {w : World} {s : Value} {l : List α} {n a b m : Nat} (hn : Rep.n α = n) (h : Rep.rd S w [s] l) (h1 : a ≤ b) (h2 : b ≤ m) (h3 : m ≤ l.length) : Rep.rd S w [subC n a b m s] ((l.take b).drop a) := by
  have hl := sub_len h1 (Nat.le_trans h2 h3)
  have h0 := rd_sub hn h h1 (Nat.le_trans h2 h3)
  obtain ⟨ad, c, rfl, hc⟩ := rd_cap h
  obtain ⟨ad1, c1, e1, k1, k2, k3⟩ := (show rdSlice S w [_] _ from h0)
  obtain ⟨ad2, c2, e2, _, hcm, _⟩ := (show rdSlice S w [_] _ from h)
  simp at e2
  obtain ⟨rfl, rfl⟩ := e2
  by_cases hm : m = a
  · have hz : (l.take b).drop a = [] := by grind
    rw [hz]
    refine ⟨ad, 0, ?_, Nat.zero_le _, Nat.zero_le _, .inl rfl⟩
    simp_all [subC]
  · have hca : c ≠ a := by omega
    refine ⟨ad.map (·.add (a * n)), m - a, ?_, by omega, by omega, ?_⟩
    · simp_all [subC]
    simp_all [subV]
section
variable {v : Value} {k k2 k3 : IntKind} {i j q : Int} {P : Program} {o : Oper} {e : Env} {w w' : World} {c : Ctx} {L : List Chunk} {R : List Fact} {x y z u : Operand} {t el : TypeId}
theorem St.subOwnC (h : St c w L R) {α : Type} [Rep α] {s : Value} {l : List α} {n a b m : Nat} (p : Nat) (hp : L[p]? = some (cOwn [s] l)) (hn : Rep.n α = n) (h1 : a ≤ b) (h2 : b ≤ m) (h3 : m ≤ l.length) : St c w (L.set p (cOwn [subC n a b m s] ((l.take b).drop a))) R :=
  h.turn p hp fun F hF => by
    obtain ⟨F', k1, k2⟩ := own_subC hn hF h1 h2 h3
    exact ⟨F', F0, Keep.refl _ _, fun _ _ h => h.elim, k1, fun b o q => .inl (k2 b o q)⟩
theorem St.subFC (h : St c w L R) {α : Type} [Rep α] {s : Value} {l : List α} {n a b m : Nat} (p : Nat) (hp : R[p]? = some (fRd [s] l)) (hn : Rep.n α = n) (h1 : a ≤ b) (h2 : b ≤ m) (h3 : m ≤ l.length) : St c w L (R ++ [fRd [subC n a b m s] ((l.take b).drop a)]) :=
  h.derive p hp fun S hS g hg => by simp at hg; subst hg; exact rd_subC hn hS h1 h2 h3
theorem rv_subC_lhm {α : Type} [Rep α] {S : Foot} {s : Value} {l : List α} {n : Nat} (h : Rep.rd S w [s] l) (hn : Rep.n α = n) (hu : P.underlying t = some (.slice el)) (hz : ∀ w, (sizeOf el).run P w = .ok n w) (hb : 0 ≤ i ∧ i ≤ j ∧ j ≤ q ∧ q ≤ l.length) (ho : o.op = .slice t x (some y) (some z) (some u)) (hx : ev e x = some s) (hy : ev e y = some (.int k i)) (hw : ev e z = some (.int k2 j)) (hv : ev e u = some (.int k3 q)) : RunV P o e w (subC n i.toNat j.toNat q.toNat s) w := fun _ a hA => by
  obtain ⟨ad, cp, rfl, hc⟩ := rd_cap h
  obtain ⟨b0, b1, b2, b3⟩ := hb
  have h1 : q ≤ (cp : Int) := by omega
  have h3 : 0 ≤ j := by omega
  have h4 : 0 ≤ q := by omega
  have h2 : max j 0 = j := by omega
  have h5 : max q 0 = q := by omega
  simp [execOp, ho, Instr.sliceAt, Instr.slice, run_underlying hu, Instr.sliceBounds, hA.eval hx, hA.eval hy, hA.eval hw, hA.eval hv, Instr.sliceBound, asIntOf, hz, b0, b1, b2, h1, h2, h3, h4, h5, subC]
theorem rv_subC_hm {α : Type} [Rep α] {S : Foot} {s : Value} {l : List α} {n : Nat} (h : Rep.rd S w [s] l) (hn : Rep.n α = n) (hu : P.underlying t = some (.slice el)) (hz : ∀ w, (sizeOf el).run P w = .ok n w) (hb : 0 ≤ j ∧ j ≤ q ∧ q ≤ l.length) (ho : o.op = .slice t x none (some z) (some u)) (hx : ev e x = some s) (hw : ev e z = some (.int k2 j)) (hv : ev e u = some (.int k3 q)) : RunV P o e w (subC n 0 j.toNat q.toNat s) w := fun _ a hA => by
  obtain ⟨ad, cp, rfl, hc⟩ := rd_cap h
  obtain ⟨b0, b1, b2⟩ := hb
  have h1 : q ≤ (cp : Int) := by omega
  have h3 : 0 ≤ j := by omega
  have h4 : 0 ≤ q := by omega
  have h2 : max j 0 = j := by omega
  have h5 : max q 0 = q := by omega
  simp [execOp, ho, Instr.sliceAt, Instr.slice, run_underlying hu, Instr.sliceBounds, hA.eval hx, hA.eval hw, hA.eval hv, Instr.sliceBound, asIntOf, hz, b0, b1, h1, h2, h3, h4, h5, subC]
end
end Go.Gv
end
section
/- copy(s[a:], x) into what is ours. -/
set_option linter.unusedVariables false
set_option linter.unusedSimpArgs false
namespace Go.Gv
/-- l with xs laid over it from a on, as far as l goes. -/
def blitL {α : Type} (l : List α) (a : Nat) (xs : List α) : List α := l.take a ++ (xs.take (l.length - a) ++ l.drop (a + xs.length))
theorem blitL_len {α : Type} {l : List α} {a : Nat} {xs : List α} (h : a ≤ l.length) : (blitL l a xs).length = l.length := by
  grind [blitL]
theorem blitL_get {α : Type} {l : List α} {a : Nat} {xs : List α} (h : a ≤ l.length) {i : Nat} {x : α} (hx : (blitL l a xs)[i]? = some x) :
    (a ≤ i ∧ i < a + min xs.length (l.length - a) ∧ xs[i - a]? = some x) ∨ ((i < a ∨ a + min xs.length (l.length - a) ≤ i) ∧ l[i]? = some x) := by
  unfold blitL at hx
  rw [List.getElem?_append] at hx
  grind
/-- Cells stored into a row of ours. -/
theorem own_blit {α : Type} [Rep α] [Flat α] (P : Program) {w w0 : World} {S : Foot} {b off cap a k : Nat} {l l' : List α} {F : Foot} {ncc : List Value} (h : Rep.own w [.slice (some ⟨b, off, none⟩) l.length cap] l F) (hl' : l'.length = l.length) (hk : ncc.length = k * Rep.n α) (hak : a + k ≤ cap) (hone : ∀ v ∈ ncc, v.oneCell' = true)
    (hr : ∀ i x, l'[i]? = some x → (a ≤ i ∧ i < a + k ∧ Rep.rd S w0 (seg ncc (Rep.n α) (i - a)) x) ∨ ((i < a ∨ a + k ≤ i) ∧ l[i]? = some x)) :
    ∃ w' G F', (storeCells ⟨b, off + a * Rep.n α, none⟩ ncc).run P w = .ok () w' ∧ Keep G w w' ∧ (∀ b o, G b o → F b o) ∧ Rep.own w' [.slice (some ⟨b, off, none⟩) l'.length cap] l' F' ∧ ∀ b o, F' b o → F b o := by
  obtain ⟨ad, c, e, k1, k2, k3⟩ := (show ownSlice w [_] l F from h)
  simp at e
  obtain ⟨rfl, rfl⟩ := e
  rcases k3 with ⟨h0, _, _⟩ | ⟨b2, off2, Fs, h0, hrow, hel, hd1, hd2, hFF⟩
  · cases h0
  simp at h0
  obtain ⟨rfl, rfl⟩ := h0
  have hmul : a * Rep.n α + k * Rep.n α ≤ cap * Rep.n α := by rw [← Nat.add_mul]; exact Nat.mul_le_mul_right _ hak
  obtain ⟨w', hst, hkp, hws, hcell⟩ := run_storeCells_in (b := b) P ncc w (off + a * Rep.n α) 0 hone (fun q _ hq => hrow _ ⟨rfl, by omega, by omega⟩)
  refine ⟨w', _, inRow b off (cap * Rep.n α), hst, hkp, fun b' o' p => (hFF b' o').2 (.inl ?_), ?_, fun b' o' p => (hFF b' o').2 (.inl p)⟩
  · obtain ⟨e1, e2, e3⟩ := p; exact ⟨e1, by omega, by omega⟩
  · refine ⟨_, cap, rfl, by omega, k2, .inr ⟨b, off, fun _ => F0, rfl, fun o' ho' => ⟨hkp.stay b o' (hrow o' ho').1, (hkp.frz b o' (lt_of_cell (hrow o' ho').1)).trans (hrow o' ho').2⟩, fun i hi => ?_, fun _ _ _ _ _ _ _ h _ => h, fun _ _ _ _ h _ => h, fun b' o => by simp [F0]⟩⟩
    rcases hr i l'[i] (List.getElem?_eq_getElem hi) with ⟨g1, g2, g3⟩ | ⟨g1, g2⟩
    · refine ⟨seg ncc (Rep.n α) (i - a), ?_, Flat.own_of g3⟩
      intro j v hj
      have hlt := (List.getElem?_eq_some_iff.1 hj).1
      rw [seg_length hk (by omega)] at hlt
      rw [seg_get hlt] at hj
      have := hcell _ v hj
      have hi2 : i * Rep.n α = a * Rep.n α + (i - a) * Rep.n α := by rw [← Nat.add_mul]; grind
      rw [show off + i * Rep.n α + j = off + a * Rep.n α + 0 + ((i - a) * Rep.n α + j) from by omega]; exact this
    · obtain ⟨hi0, hx⟩ := List.getElem?_eq_some_iff.1 g2
      obtain ⟨ec, c1, c2⟩ := hel i hi0
      have hrd := Rep.own_rd c2
      have hn := Rep.rd_len hrd
      refine ⟨ec, ?_, hx ▸ Flat.own_of hrd⟩
      intro j v hj
      have hlt := (List.getElem?_eq_some_iff.1 hj).1
      have hc := c1 j v hj
      have hi2 : (i + 1) * Rep.n α = i * Rep.n α + Rep.n α := by grind
      rw [hkp.cell b (off + i * Rep.n α + j) (World.block_lt_of_cell? w _ hc) (fun hh => by
        obtain ⟨_, e2, e3⟩ := hh
        rw [hk] at e3
        rcases g1 with g1 | g1
        · have : (i + 1) * Rep.n α ≤ a * Rep.n α := Nat.mul_le_mul_right _ (by omega)
          omega
        · have : (a + k) * Rep.n α ≤ i * Rep.n α := Nat.mul_le_mul_right _ g1
          grind)]
      exact hc
section
variable {v : Value} {i j : Int} {P : Program} {o : Oper} {e : Env} {w w' : World} {c : Ctx} {L : List Chunk} {R : List Fact} {x y z : Operand} {t t2 el : TypeId}
theorem rv_copy {α : Type} [Rep α] [Flat α] {s s2 : Value} {l xs : List α} {n a : Nat} (m : Nat) (hS : St c w L R) (hm : L[m]? = some (cOwn [s] l)) (hsrc : Rep.rd (All w) w [s2] xs) (hn : Rep.n α = n) (ha : a ≤ l.length) (hu : P.underlying t = some (.slice el)) (hz : ∀ w, (sizeOf el).run P w = .ok n w)
    (ho : o.op = .call { callee := .builtin .copy, args := #[x, y], argTypes := #[t, t2] }) (hx : ev e x = some (subV n a l.length s)) (hy : ev e y = some s2) :
    ∃ v w', RunV P o e w v w' ∧ (v = .int .i64 ((min xs.length (l.length - a) : Nat) : Int) ∧ St c w' (L.set m (cOwn [s] (blitL l a xs))) R) := by
  subst hn
  obtain ⟨ad2, c2, cc2, rfl, hl2, hc2, hr2⟩ := rd_cells hsrc
  obtain ⟨F, hF⟩ := hS.chunk m hm
  have hF : Rep.own w [s] l F := hF
  obtain ⟨ad, cap, rfl, hlc⟩ := own_shape hF
  have hk : (cc2.take (min xs.length (l.length - a) * Rep.n α)).length = min xs.length (l.length - a) * Rep.n α := by
    simp_all
  have hfirst : (Builtin.firstCells (Rep.n α) (min xs.length (l.length - a)) (.slice ad2 xs.length c2)).run P w = .ok (cc2.take (min xs.length (l.length - a) * Rep.n α)).toArray w := by
    rcases hc2 with h | ⟨b, off, rfl, h⟩
    · subst h
      have h0 : cc2 = [] := List.eq_nil_of_length_eq_zero (by grind)
      subst h0
      cases ad2 <;> simp [Builtin.firstCells, loadCells, loadCellsFrom]
    grind [CellsAt, run_loadCells_at, Builtin.firstCells]
  have hone : ∀ v ∈ cc2.take (min xs.length (l.length - a) * Rep.n α), v.oneCell' = true := fun v hv => one_seg hl2 hr2 v (List.mem_of_mem_take hv)
  have hexec : ∀ (w' : World), (Builtin.copy_ #[t, t2] o.type #[subV (Rep.n α) a l.length (.slice ad l.length cap), .slice ad2 xs.length c2]).run P w = .ok (.int .i64 ((min xs.length (l.length - a) : Nat) : Int)) w' → RunV P o e w (.int .i64 ((min xs.length (l.length - a) : Nat) : Int)) w' := by
    intro w' h _ a' hA
    simp [execOp, ho, resolve, invoke, builtin, hA.eval hx, hA.eval hy, h]
  have hmn : Nat.min xs.length (l.length - a) = min xs.length (l.length - a) := rfl
  obtain ⟨ad', cap', he, _, _, hrest⟩ := (show ownSlice w [_] l F from hF)
  simp at he
  obtain ⟨rfl, rfl⟩ := he
  by_cases h0 : min xs.length (l.length - a) = 0
  · -- nothing is laid
    have hsame : blitL l a xs = l := by
      unfold blitL
      by_cases h1 : xs.length = 0
      · simp_all
      · have h2 : l.length = a := by omega
        rw [← h2]; simp
    rw [hsame]
    have hcz : cc2.take (min xs.length (l.length - a) * Rep.n α) = [] := by grind
    rw [hcz] at hfirst
    refine ⟨_, w, hexec _ ?_, rfl, ?_⟩
    · rw [h0] at hfirst ⊢
      have hmn0 : Nat.min xs.length (l.length - a) = 0 := h0
      cases ad with
      | none => simp [Builtin.copy_, run_underlying hu, subV, Builtin.lenOf, hz, hmn0, hfirst, goInt]
      | some a0 =>
        by_cases hca : cap = a
        · simp [Builtin.copy_, run_underlying hu, subV, hca, Builtin.lenOf, hz, hmn0, hfirst, goInt, storeCells]
        · simp [Builtin.copy_, run_underlying hu, subV, hca, Builtin.lenOf, hz, hmn0, hfirst, goInt, storeCells]
    · refine hS.turn m hm fun F hF => ⟨F, F0, Keep.refl _ _, fun _ _ h => h.elim, hF, fun _ _ h => .inl h⟩
  · have hca : cap ≠ a := by omega
    rcases hrest with ⟨_, hc0, _⟩ | ⟨b, off, Fs, rfl, _⟩
    · omega
    have hadd : (⟨b, off, none⟩ : Addr).add (a * Rep.n α) = ⟨b, off + a * Rep.n α, none⟩ := by
      grind [Addr.add]
    have hbl := own_blit P (S := All w) (w0 := w) (a := a) (k := min xs.length (l.length - a)) (l' := blitL l a xs) hF (blitL_len ha) hk (by omega) hone (fun i x hx => by
      rcases blitL_get ha hx with ⟨g1, g2, g3⟩ | g
      · refine .inl ⟨g1, g2, ?_⟩
        have hs : seg (cc2.take (min xs.length (l.length - a) * Rep.n α)) (Rep.n α) (i - a) = seg cc2 (Rep.n α) (i - a) := by
          apply List.ext_getElem?
          intro p
          by_cases hp : p < Rep.n α
          · have : (i - a + 1) * Rep.n α ≤ min xs.length (l.length - a) * Rep.n α := Nat.mul_le_mul_right _ (by omega)
            rw [Nat.add_mul] at this
            rw [seg_get hp, seg_get hp, List.getElem?_take, if_pos (by omega)]
          grind [seg]
        grind
      grind)
    obtain ⟨w', G, F', hst, hkp, hGF, hown, hFF⟩ := hbl
    refine ⟨_, w', hexec w' ?_, rfl, ?_⟩
    · simp [Builtin.copy_, run_underlying hu, subV, hca, Builtin.lenOf, hz, hmn, hfirst, hadd, hst, goInt]
    · refine hS.turn m hm fun F2 hF2 => ?_
      have hF2 : Rep.own w [.slice (some ⟨b, off, none⟩) l.length cap] l F2 := hF2
      have hbl2 := own_blit P (S := All w) (w0 := w) (a := a) (k := min xs.length (l.length - a)) (l' := blitL l a xs) hF2 (blitL_len ha) hk (by omega) hone (fun i x hx => by
        rcases blitL_get ha hx with ⟨g1, g2, g3⟩ | g
        · refine .inl ⟨g1, g2, ?_⟩
          have hs : seg (cc2.take (min xs.length (l.length - a) * Rep.n α)) (Rep.n α) (i - a) = seg cc2 (Rep.n α) (i - a) := by
            apply List.ext_getElem?
            intro p
            by_cases hp : p < Rep.n α
            · have : (i - a + 1) * Rep.n α ≤ min xs.length (l.length - a) * Rep.n α := Nat.mul_le_mul_right _ (by omega)
              rw [Nat.add_mul] at this
              rw [seg_get hp, seg_get hp, List.getElem?_take, if_pos (by omega)]
            grind [seg]
          grind
        grind)
      obtain ⟨w2, G2, F3, hst2, hkp2, hGF2, hown2, hFF2⟩ := hbl2
      rw [hst] at hst2
      cases hst2
      rw [blitL_len ha] at hown2
      exact ⟨F3, G2, hkp2, hGF2, hown2, fun b' o' p => .inl (hFF2 b' o' p)⟩
theorem subV_all {α : Type} [Rep α] {w : World} {s : Value} {l : List α} {F : Foot} {n : Nat} (h : Rep.own w [s] l F) : subV n 0 l.length s = s := by
  obtain ⟨ad, c, rfl, _⟩ := own_shape h
  simp [subV, Addr.add]
theorem rv_copy0 {α : Type} [Rep α] [Flat α] {s s2 : Value} {l xs : List α} {n : Nat} (m : Nat) (hS : St c w L R) (hm : L[m]? = some (cOwn [s] l)) (hsrc : Rep.rd (All w) w [s2] xs) (hn : Rep.n α = n) (hu : P.underlying t = some (.slice el)) (hz : ∀ w, (sizeOf el).run P w = .ok n w)
    (ho : o.op = .call { callee := .builtin .copy, args := #[x, y], argTypes := #[t, t2] }) (hx : ev e x = some s) (hy : ev e y = some s2) :
    ∃ v w', RunV P o e w v w' ∧ (v = .int .i64 ((min xs.length (l.length - 0) : Nat) : Int) ∧ St c w' (L.set m (cOwn [s] (blitL l 0 xs))) R) := by
  obtain ⟨F, hF⟩ := hS.chunk m hm
  exact rv_copy m hS hm hsrc hn (Nat.zero_le _) hu hz ho (by rw [subV_all (show Rep.own w [s] l F from hF)]; exact hx) hy
/-- An operation whose value nobody takes. -/
theorem ops_v0 {ops : Array Oper} {rest : List Oper} {Q : Exit → Act → World → Prop} {n : Nat} {v : Value} {w' : World} (hr : RunV P o e w v w') (hw : Want ops o e true) (hd : o.dst = none) (k : Ops P ops Q rest n e w') : Ops P ops Q (o :: rest) n e w := fun a hA => by
  refine wpList_step fun K hK => ?_
  rw [hw n a hA, if_pos rfl]
  unfold Oper.wp
  rw [hr n a hA, Oper.upon_value, hd]
  exact hK _ _ (k _ hA)
theorem ops_mv0 {ops : Array Oper} {rest : List Oper} {Q : Exit → Act → World → Prop} {n : Nat} {S : Value → World → Prop} (hr : ∃ v w', RunV P o e w v w' ∧ S v w') (hw : Want ops o e true) (hd : o.dst = none) (k : ∀ v w', S v w' → Ops P ops Q rest n e w') : Ops P ops Q (o :: rest) n e w := by
  grind [ops_v0]
end
end Go.Gv
end
section
/- append(s[:i], s[j:]...) in its place; clear of a part of what is ours. -/
set_option linter.unusedVariables false
set_option linter.unusedSimpArgs false
namespace Go.Gv
section
variable {v : Value} {i j : Int} {P : Program} {o : Oper} {e : Env} {w w' : World} {c : Ctx} {L : List Chunk} {R : List Fact} {x y z : Operand} {t t2 el : TypeId}
theorem add_zero_addr {b off n : Nat} : (⟨b, off, none⟩ : Addr).add (n * 0) = ⟨b, off, none⟩ := by
  grind [Addr.add]
theorem add_addr {b off n : Nat} : (⟨b, off, none⟩ : Addr).add n = ⟨b, off + n, none⟩ := by
  grind [Addr.add]
/-- What a part of ours is, as cells. -/
theorem own_cells {α : Type} [Rep α] {s : Value} {l : List α} {F : Foot} (h : Rep.own w [s] l F) : ∃ ad cap cc, s = .slice ad l.length cap ∧ l.length ≤ cap ∧ cc.length = l.length * Rep.n α ∧ ((ad = none ∧ cap = 0 ∧ l = []) ∨ ∃ b off, ad = some ⟨b, off, none⟩ ∧ CellsAt w b off cc) ∧ ∀ i x, l[i]? = some x → Rep.rd (All w) w (seg cc (Rep.n α) i) x := by
  have hr : Rep.rd (All w) w [s] l := Rep.rd_mono (Rep.own_rd h) fun b o hf => Rep.own_lt h hf
  obtain ⟨ad, cap, cc, rfl, h1, h2, h3⟩ := rd_cells hr
  obtain ⟨ad', cap', e, k1, k2, k3⟩ := own_iff.1 h
  simp at e
  obtain ⟨rfl, rfl⟩ := e
  refine ⟨ad, cap, cc, rfl, k1, h1, ?_, h3⟩
  rcases k3 with ⟨rfl, rfl, _⟩ | ⟨b, off, cc2, Fe, rfl, _⟩
  · grind
  · right
    rcases h2 with h2 | ⟨b2, off2, h2, h4⟩
    · subst h2
      have : cc = [] := List.eq_nil_of_length_eq_zero (by grind)
      subst this
      exact ⟨b, off, rfl, fun j v hj => by simp at hj⟩
    grind
theorem rv_appendP {α : Type} [Rep α] [Flat α] {s : Value} {l : List α} {n a b : Nat} (m : Nat) (hS : St c w L R) (hm : L[m]? = some (cOwn [s] l)) (hn : Rep.n α = n) (hab : a ≤ b) (hb : b ≤ l.length) (hu : P.underlying t = some (.slice el)) (hz : ∀ w, (sizeOf el).run P w = .ok n w)
    (ho : o.op = .call { callee := .builtin .append, args := #[x, y], argTypes := #[t, t] }) (hx : ev e x = some (subV n 0 a s)) (hy : ev e y = some (subV n b l.length s)) :
    ∃ v w', RunV P o e w v w' ∧ (v = subV n 0 (a + (l.length - b)) s ∧ St c w' (L.set m (cOwn [s] (blitL l a (l.drop b)))) R) := by
  subst hn
  obtain ⟨F, hF⟩ := hS.chunk m hm
  have hF : Rep.own w [s] l F := hF
  obtain ⟨ad, cap, cc, rfl, hlc, hcc, had, hrd⟩ := own_cells hF
  have hexec : ∀ (v : Value) (w' : World), (Builtin.append_ #[t, t] o.type #[subV (Rep.n α) 0 a (.slice ad l.length cap), subV (Rep.n α) b l.length (.slice ad l.length cap)]).run P w = .ok v w' → RunV P o e w v w' := by
    intro v w' h _ a' hA
    simp [execOp, ho, resolve, invoke, builtin, hA.eval hx, hA.eval hy, h]
  rcases had with ⟨rfl, rfl, rfl⟩ | ⟨bl, off, rfl, hcells⟩
  · have ha : a = 0 := by omega
    have hb0 : b = 0 := by omega
    subst ha; subst hb0
    refine ⟨_, w, hexec (subV (Rep.n α) 0 0 (.slice none 0 0)) w ?_, rfl, ?_⟩
    · simp [Builtin.append_, run_underlying hu, subV, Builtin.lenOf, hz, Builtin.firstCells]
    · have : blitL ([] : List α) 0 (([] : List α).drop 0) = [] := rfl
      rw [this]
      exact hS.turn m hm fun F hF => ⟨F, F0, Keep.refl _ _, fun _ _ h => h.elim, hF, fun _ _ h => .inl h⟩
  · -- the tail's cells
    have hk : (cc.drop (b * Rep.n α)).length = (l.length - b) * Rep.n α := by
      grind [Nat.sub_mul]
    have hfirst : ∀ q, (Builtin.firstCells (Rep.n α) (l.length - b) (.slice (if cap = b then some ⟨bl, off, none⟩ else some ⟨bl, off + b * Rep.n α, none⟩) (l.length - b) q)).run P w = .ok (cc.drop (b * Rep.n α)).toArray w := by
      intro q
      by_cases h0 : l.length - b = 0
      · have : cc.drop (b * Rep.n α) = [] := List.eq_nil_of_length_eq_zero (by grind)
        rw [this, h0]
        split <;> simp [Builtin.firstCells, loadCells, loadCellsFrom]
      · have hcb : cap ≠ b := by omega
        rw [if_neg hcb]
        refine run_first (α := α) hk (.inr ⟨bl, off + b * Rep.n α, rfl, fun p v hp => ?_⟩)
        rw [List.getElem?_drop] at hp
        have := hcells _ v hp
        grind
    have hone : ∀ v ∈ cc.drop (b * Rep.n α), v.oneCell' = true := fun v hv => one_seg hcc hrd v (List.mem_of_mem_drop hv)
    have hdl : (l.drop b).length = l.length - b := List.length_drop
    have hget : ∀ i x, (blitL l a (l.drop b))[i]? = some x → (a ≤ i ∧ i < a + (l.length - b) ∧ Rep.rd (All w) w (seg (cc.drop (b * Rep.n α)) (Rep.n α) (i - a)) x) ∨ ((i < a ∨ a + (l.length - b) ≤ i) ∧ l[i]? = some x) := by
      intro i x hx
      have hmin : min (l.drop b).length (l.length - a) = l.length - b := by omega
      grind [blitL_get, seg, List.drop_drop, Nat.add_mul]
    have hroom : a + (l.length - b) ≤ cap := by omega
    obtain ⟨w', G, F', hst, hkp, hGF, hown, hFF⟩ := own_blit P (S := All w) (w0 := w) (a := a) (k := l.length - b) (l' := blitL l a (l.drop b)) hF (blitL_len (by omega)) hk hroom hone hget
    have hv1 : subV (Rep.n α) 0 a (.slice (some ⟨bl, off, none⟩) l.length cap) = .slice (some ⟨bl, off, none⟩) a cap := by
      simp [subV, add_addr]
    have hv2 : subV (Rep.n α) b l.length (.slice (some ⟨bl, off, none⟩) l.length cap) = .slice (if cap = b then some ⟨bl, off, none⟩ else some ⟨bl, off + b * Rep.n α, none⟩) (l.length - b) (cap - b) := by
      grind [subV, add_addr]
    have hv3 : subV (Rep.n α) 0 (a + (l.length - b)) (.slice (some ⟨bl, off, none⟩) l.length cap) = .slice (some ⟨bl, off, none⟩) (a + (l.length - b)) cap := by
      simp [subV, add_addr]
    refine ⟨_, w', hexec (.slice (some ⟨bl, off, none⟩) (a + (l.length - b)) cap) w' ?_, hv3.symm, ?_⟩
    · rw [hv1, hv2]
      simp [Builtin.append_, run_underlying hu, Builtin.lenOf, hz, hfirst, hroom, add_addr, hst]
    · refine hS.turn m hm fun F2 hF2 => ?_
      have hF2 : Rep.own w [.slice (some ⟨bl, off, none⟩) l.length cap] l F2 := hF2
      obtain ⟨w2, G2, F3, hst2, hkp2, hGF2, hown2, hFF2⟩ := own_blit P (S := All w) (w0 := w) (a := a) (k := l.length - b) (l' := blitL l a (l.drop b)) hF2 (blitL_len (by omega)) hk hroom hone hget
      rw [hst] at hst2
      cases hst2
      rw [blitL_len (by omega)] at hown2
      exact ⟨F3, G2, hkp2, hGF2, hown2, fun b' o' p => .inl (hFF2 b' o' p)⟩
/-- s[a:b] of s[:k], beyond its length. -/
theorem sub_sub0 {n a b k : Nat} {s : Value} (h : (∃ len cap, s = .slice none len cap ∧ cap = 0 ∧ a = 0) ∨ ∃ bl off len cap, s = .slice (some ⟨bl, off, none⟩) len cap) : subV n a b (subV n 0 k s) = subV n a b s := by
  rcases h with ⟨len, cap, rfl, rfl, rfl⟩ | ⟨bl, off, len, cap, rfl⟩
  · simp [subV]
  · simp only [subV, Option.map_some, Nat.zero_mul, add_addr, Nat.add_zero, Nat.sub_zero, ite_self]
theorem own_addr {α : Type} [Rep α] {s : Value} {l : List α} {F : Foot} {n a b k : Nat} (h : Rep.own w [s] l F) (hab : a ≤ b) (hb : b ≤ l.length) : subV n a b (subV n 0 k s) = subV n a b s := by
  grind [own_cells, sub_sub0]
/-- s[i:j] of s[:k], where it may go beyond k. -/
theorem rv_sub_bey {α : Type} [Rep α] {s : Value} {l : List α} {n k' : Nat} {k k2 : IntKind} (m : Nat) (hS : St c w L R) (hm : L[m]? = some (cOwn [s] l)) (hn : Rep.n α = n) (hu : P.underlying t = some (.slice el)) (hz : ∀ w, (sizeOf el).run P w = .ok n w) (hb : 0 ≤ i ∧ i ≤ j ∧ j ≤ l.length) (ho : o.op = .slice t x (some y) (some z) none) (hx : ev e x = some (subV n 0 k' s)) (hy : ev e y = some (.int k i)) (hw : ev e z = some (.int k2 j)) : RunV P o e w (subV n i.toNat j.toNat s) w := fun _ a hA => by
  obtain ⟨F, hF⟩ := hS.chunk m hm
  have hF : Rep.own w [s] l F := hF
  obtain ⟨b0, b1, b2⟩ := hb
  rw [← own_addr (k := k') hF (show i.toNat ≤ j.toNat by omega) (by omega)]
  obtain ⟨ad, cp, rfl, hc⟩ := own_shape hF
  have h1 : j ≤ (cp : Int) := by omega
  have h3 : 0 ≤ j := by omega
  have h2 : max j 0 = j := by omega
  simp [execOp, ho, Instr.sliceAt, Instr.slice, run_underlying hu, Instr.sliceBounds, hA.eval hx, hA.eval hy, hA.eval hw, Instr.sliceBound, asIntOf, hz, b0, b1, h1, h2, h3, subV]
theorem seg_zero {zc : Array Value} {n k i : Nat} (hz : zc.size = n) (hi : i < k) : seg (Builtin.zeroCells zc k).toList n i = zc.toList := by
  have hmul : (i + 1) * n ≤ k * n := Nat.mul_le_mul_right n (by omega)
  rw [Nat.add_mul] at hmul
  apply List.ext_getElem?
  grind [Nat.mul_comm, Nat.mul_add_mod, Nat.mod_eq_of_lt, Builtin.zeroCells, seg]
theorem rv_clear {α : Type} [Rep α] [Flat α] {s zv : Value} {l : List α} {n a b : Nat} (zd : α) (m : Nat) (hS : St c w L R) (hm : L[m]? = some (cOwn [s] l)) (hn : Rep.n α = n) (hab : a ≤ b) (hb : b ≤ l.length) (hu : P.underlying t = some (.slice el)) (hinf : Inf P el n zv) (hzs : zv.cells.size = n) (hzd : ∀ w, Rep.rd F0 w zv.cells.toList zd) (hone : ∀ v ∈ zv.cells.toList, v.oneCell' = true)
    (ho : o.op = .call { callee := .builtin .clear, args := #[x], argTypes := #[t] }) (hx : ev e x = some (subV n a b s)) :
    ∃ v w', RunV P o e w v w' ∧ (v = .tuple #[] ∧ St c w' (L.set m (cOwn [s] (blitL l a (List.replicate (b - a) zd)))) R) := by
  subst hn
  obtain ⟨ti, hti, hz, hsz, hby⟩ := hinf
  obtain ⟨F, hF⟩ := hS.chunk m hm
  have hF : Rep.own w [s] l F := hF
  obtain ⟨ad, cap, cc, rfl, hlc, hcc, had, hrd⟩ := own_cells hF
  have hexec : ∀ (w' : World), (Builtin.clear_ #[t] o.type #[subV (Rep.n α) a b (.slice ad l.length cap)]).run P w = .ok (.tuple #[]) w' → RunV P o e w (.tuple #[]) w' := by
    intro w' h _ a' hA
    simp [execOp, ho, resolve, invoke, builtin, hA.eval hx, h]
  by_cases h0 : b - a = 0
  · have hsame : blitL l a (List.replicate (b - a) zd) = l := by simp_all [blitL]
    rw [hsame]
    refine ⟨_, w, hexec w ?_, rfl, hS.turn m hm fun F hF => ⟨F, F0, Keep.refl _ _, fun _ _ h => h.elim, hF, fun _ _ h => .inl h⟩⟩
    rcases had with ⟨rfl, rfl, rfl⟩ | ⟨bl, off, rfl, _⟩
    · simp_all [Builtin.clear_, run_underlying, subV]
    · by_cases hca : cap = a <;> simp [Builtin.clear_, run_underlying hu, subV, hca, h0]
  · rcases had with ⟨rfl, rfl, rfl⟩ | ⟨bl, off, rfl, hcells⟩
    · omega
    have hca : cap ≠ a := by omega
    have hk : (Builtin.zeroCells zv.cells (b - a)).toList.length = (b - a) * Rep.n α := by
      grind [size_zeroCells]
    have hone2 : ∀ v ∈ (Builtin.zeroCells zv.cells (b - a)).toList, v.oneCell' = true := by
      intro v hv
      obtain ⟨p, hp, rfl⟩ := List.mem_iff_getElem.1 hv
      have hn0 : 0 < Rep.n α := by rcases Nat.eq_zero_or_pos (Rep.n α) with h | h; rw [hk, h] at hp; omega; exact h
      have hp2 : p < (b - a) * Rep.n α := by rw [← hk]; exact hp
      have hi : p / Rep.n α < b - a := Nat.div_lt_of_lt_mul (by rw [Nat.mul_comm]; exact hp2)
      have hs := seg_zero (k := b - a) hzs hi
      have hpe : p / Rep.n α * Rep.n α + p % Rep.n α = p := by rw [Nat.mul_comm]; exact Nat.div_add_mod p (Rep.n α)
      have hg := seg_get (cc := (Builtin.zeroCells zv.cells (b - a)).toList) (n := Rep.n α) (i := p / Rep.n α) (j := p % Rep.n α) (Nat.mod_lt _ hn0)
      rw [hs, hpe, List.getElem?_eq_getElem hp] at hg
      exact hone _ (List.mem_of_getElem? hg)
    have hget : ∀ i x, (blitL l a (List.replicate (b - a) zd))[i]? = some x → (a ≤ i ∧ i < a + (b - a) ∧ Rep.rd F0 w (seg (Builtin.zeroCells zv.cells (b - a)).toList (Rep.n α) (i - a)) x) ∨ ((i < a ∨ a + (b - a) ≤ i) ∧ l[i]? = some x) := by
      intro i x hx
      have hmin : min (List.replicate (b - a) zd).length (l.length - a) = b - a := by simp; omega
      rcases blitL_get (by omega) hx with ⟨g1, g2, g3⟩ | ⟨g1, g2⟩
      · rw [hmin] at g2
        rw [List.getElem?_replicate, if_pos (by omega)] at g3
        simp at g3; subst g3
        refine .inl ⟨g1, g2, ?_⟩
        rw [seg_zero hzs (by omega)]; exact hzd w
      · rw [hmin] at g1; exact .inr ⟨g1, g2⟩
    obtain ⟨w', G, F', hst, hkp, hGF, hown, hFF⟩ := own_blit P (S := F0) (w0 := w) (a := a) (k := b - a) (l' := blitL l a (List.replicate (b - a) zd)) hF (blitL_len (by omega)) hk (by omega) hone2 hget
    refine ⟨_, w', hexec w' ?_, rfl, ?_⟩
    · obtain ⟨q, hq⟩ : ∃ q, b - a = q + 1 := ⟨b - a - 1, by omega⟩
      rw [hq] at hst
      simp [Builtin.clear_, run_underlying hu, subV, hca, hq, add_addr, zeroValue, typeInfo, hti, hz, hst]
    · refine hS.turn m hm fun F2 hF2 => ?_
      have hF2 : Rep.own w [.slice (some ⟨bl, off, none⟩) l.length cap] l F2 := hF2
      obtain ⟨w2, G2, F3, hst2, hkp2, hGF2, hown2, hFF2⟩ := own_blit P (S := F0) (w0 := w) (a := a) (k := b - a) (l' := blitL l a (List.replicate (b - a) zd)) hF2 (blitL_len (by omega)) hk (by omega) hone2 hget
      rw [hst] at hst2
      cases hst2
      rw [blitL_len (by omega)] at hown2
      exact ⟨F3, G2, hkp2, hGF2, hown2, fun b' o' p => .inl (hFF2 b' o' p)⟩
end
end Go.Gv
end
section
/-
  Parts of slices of ours, turned and handed on. Nothing of a program here.
-/
set_option linter.unusedVariables false
namespace Go.Gv
/-- Where a part begins, and its room. -/
def AC.sub (s : AC) (n a : Nat) : AC := ⟨if s.c = a then s.a else s.a.map (·.add (a * n)), s.c - a⟩
theorem sub_v {α : Type} {l : List α} {s : AC} {n a b k : Nat} (h1 : a ≤ b) (h2 : b ≤ l.length) : subV n a b (s.v k) = (s.sub n a).v ((l.take b).drop a).length := by
  rw [sub_len h1 h2]; rfl
section
variable {P : Program} {T : TT} {hT : TOk P T} {n : Nat} {c : Ctx} {B0 : Bl} {N : Act → World → Prop} {X : Nat → Act → World → Prop} {Q : Act → World → Prop} {K K' : List Fr} {m m' : Nat} {e e' : SE} {L L' Lv : List Ch} {cf cf' cf1 cf2 : Cfg} {o : Oper} {d : Nat}
/-- There is room for what is there. -/
theorem cpc {α : Type} [Rep α] (j : Nat) {s : AC} {l : List α} (hs : cfgS (stq T n K cf m e L) = some (K', cf', m', e', L')) (hj : L'[j]? = some (ow s l)) (k : l.length ≤ s.c → G (.mk P T hT n c B0 N X Q) K' m' e' L' cf') : G (.mk P T hT n c B0 N X Q) K m e L cf := by
  refine go hs ?_
  refine chg (fun _ : PLift (l.length ≤ s.c) => m') (fun _ => e') (fun _ => L') (fun B a w hm hA hS => ?_) (fun _ => by simpa using frz_app (L := L') []) (fun h => k h.down)
  obtain ⟨⟨R, s1, s2⟩, s0⟩ := hS
  obtain ⟨F, hF⟩ := s1.chunk (ch := cOwn [s.v l.length] l) j (by simp [hj, chd])
  obtain ⟨ad, cp, h1, h2⟩ := own_shape (show Rep.own w [s.v l.length] l F from hF)
  simp only [AC.v, Value.slice.injEq] at h1
  exact ⟨⟨by omega⟩, [], by grind, by grind, ⟨⟨R, by grind, by grind⟩, s0⟩⟩
theorem rdA_cap {α : Type} [Rep α] {s : AC} {l : List α} (h : RdA c s l) : l.length ≤ s.c := by
  obtain ⟨ad, cp, h1, h2, _⟩ := (show rdSlice c.S0 c.w0 [s.v l.length] l from h)
  grind
section
variable {x y z u : Operand} {t el sz : Nat} {k1 k2 k3 : IntKind} {i j p : Int} {α β : Type} [Rep α] {A : Option β} {q : β} {s : AC} {l : List α} {b1 b2 : Bool} {n1 : Nat} {z1 z2 : List SV} {kt : TK}
theorem qp_lh (hc : l.length ≤ s.c) (hs : opS (stq T n K cf m e L) = some (o, Lv, cf1, cf2, K', m', e', L')) (ho : (o.op, o.dst) = (.slice t x (some y) (some z) none, some d)) (ht : lkT T t = some ⟨.sl el, b1, n1, z1⟩) (he : lkT T el = some ⟨kt, b2, sz, z2⟩) (hx : evS e' x = some (.h s l.length)) (hy : (evS e' y).bind numI = some (k1, i)) (hz : (evS e' z).bind numI = some (k2, j)) (hF : need (0 ≤ i ∧ i ≤ j ∧ j ≤ (l.length : Int)) A = some q)
    (kk : A = some q → (i.toNat ≤ j.toNat ∧ j.toNat ≤ l.length) → G (.mk P T hT n c B0 N X Q) K' m' ((d, .h (s.sub sz i.toNat) ((l.take j.toNat).drop i.toNat).length) :: e') L' cf2) : G (.mk P T hT n c B0 N X Q) K m e L cf := by
  have hop : o.op = .slice t x (some y) (some z) none := congrArg Prod.fst ho
  have hb := (needE hF).1
  have hb2 : i.toNat ≤ j.toNat ∧ j.toNat ≤ l.length := by omega
  refine pu hs (congrArg Prod.snd ho) (fun B a w hA hS => ⟨subV sz i.toNat j.toNat (s.v l.length), by grind [sub_v, toV, gV, cellV], fun _ a hA' => ?_⟩) (kk (needE hF).2 hb2)
  obtain ⟨h0, h1, h2⟩ := hb
  have h3 : j ≤ (s.c : Int) := by omega
  have h4 : 0 ≤ j := by omega
  have h5 : max j 0 = j := by omega
  simp [execOp, hop, Instr.sliceAt, Instr.slice, run_underlying (undL ht hT), Instr.sliceBounds, hA'.eval (hdB hA hx), hA'.eval (numB hA hy), hA'.eval (numB hA hz), Instr.sliceBound, asIntOf, hT.size _ _ he, h0, h1, h3, h4, h5, subV]
theorem qp_l (hc : l.length ≤ s.c) (hs : opS (stq T n K cf m e L) = some (o, Lv, cf1, cf2, K', m', e', L')) (ho : (o.op, o.dst) = (.slice t x (some y) none none, some d)) (ht : lkT T t = some ⟨.sl el, b1, n1, z1⟩) (he : lkT T el = some ⟨kt, b2, sz, z2⟩) (hx : evS e' x = some (.h s l.length)) (hy : (evS e' y).bind numI = some (k1, i)) (hF : need (0 ≤ i ∧ i ≤ (l.length : Int)) A = some q)
    (kk : A = some q → (i.toNat ≤ l.length ∧ l.length ≤ l.length) → G (.mk P T hT n c B0 N X Q) K' m' ((d, .h (s.sub sz i.toNat) ((l.take l.length).drop i.toNat).length) :: e') L' cf2) : G (.mk P T hT n c B0 N X Q) K m e L cf := by
  have hop : o.op = .slice t x (some y) none none := congrArg Prod.fst ho
  have hb := (needE hF).1
  have hb2 : i.toNat ≤ l.length ∧ l.length ≤ l.length := by omega
  refine pu hs (congrArg Prod.snd ho) (fun B a w hA hS => ⟨subV sz i.toNat l.length (s.v l.length), by grind [sub_v, toV, gV, cellV], fun _ a hA' => ?_⟩) (kk (needE hF).2 hb2)
  obtain ⟨h0, h1⟩ := hb
  have h5 : max i 0 = i := by omega
  simp [execOp, hop, Instr.sliceAt, Instr.slice, run_underlying (undL ht hT), Instr.sliceBounds, hA'.eval (hdB hA hx), hA'.eval (numB hA hy), Instr.sliceBound, asIntOf, hT.size _ _ he, h0, h1, hc, h5, subV]
theorem qp_h (hc : l.length ≤ s.c) (hs : opS (stq T n K cf m e L) = some (o, Lv, cf1, cf2, K', m', e', L')) (ho : (o.op, o.dst) = (.slice t x none (some z) none, some d)) (ht : lkT T t = some ⟨.sl el, b1, n1, z1⟩) (he : lkT T el = some ⟨kt, b2, sz, z2⟩) (hx : evS e' x = some (.h s l.length)) (hz : (evS e' z).bind numI = some (k2, j)) (hF : need (0 ≤ j ∧ j ≤ (l.length : Int)) A = some q)
    (kk : A = some q → (0 ≤ j.toNat ∧ j.toNat ≤ l.length) → G (.mk P T hT n c B0 N X Q) K' m' ((d, .h (s.sub sz 0) ((l.take j.toNat).drop 0).length) :: e') L' cf2) : G (.mk P T hT n c B0 N X Q) K m e L cf := by
  have hop : o.op = .slice t x none (some z) none := congrArg Prod.fst ho
  have hb := (needE hF).1
  have hb2 : 0 ≤ j.toNat ∧ j.toNat ≤ l.length := by omega
  refine pu hs (congrArg Prod.snd ho) (fun B a w hA hS => ⟨subV sz 0 j.toNat (s.v l.length), by grind [sub_v, toV, gV, cellV], fun _ a hA' => ?_⟩) (kk (needE hF).2 hb2)
  obtain ⟨h0, h1⟩ := hb
  have h3 : j ≤ (s.c : Int) := by omega
  have h5 : max j 0 = j := by omega
  simp [execOp, hop, Instr.sliceAt, Instr.slice, run_underlying (undL ht hT), Instr.sliceBounds, hA'.eval (hdB hA hx), hA'.eval (numB hA hz), Instr.sliceBound, asIntOf, hT.size _ _ he, h0, h3, h5, subV]
theorem qp_hm (hc : l.length ≤ s.c) (hs : opS (stq T n K cf m e L) = some (o, Lv, cf1, cf2, K', m', e', L')) (ho : (o.op, o.dst) = (.slice t x none (some z) (some u), some d)) (ht : lkT T t = some ⟨.sl el, b1, n1, z1⟩) (he : lkT T el = some ⟨kt, b2, sz, z2⟩) (hx : evS e' x = some (.h s l.length)) (hz : (evS e' z).bind numI = some (k2, j)) (hu : (evS e' u).bind numI = some (k3, p)) (hF : need (0 ≤ j ∧ j ≤ p ∧ p ≤ (l.length : Int)) A = some q)
    (kk : A = some q → (0 ≤ j.toNat ∧ j.toNat ≤ p.toNat ∧ p.toNat ≤ l.length) → G (.mk P T hT n c B0 N X Q) K' m' ((d, .h ⟨(s.sub sz 0).a, p.toNat⟩ ((l.take j.toNat).drop 0).length) :: e') L' cf2) : G (.mk P T hT n c B0 N X Q) K m e L cf := by
  have hop : o.op = .slice t x none (some z) (some u) := congrArg Prod.fst ho
  have hb := (needE hF).1
  have hb2 : 0 ≤ j.toNat ∧ j.toNat ≤ p.toNat ∧ p.toNat ≤ l.length := by omega
  have hl := sub_len (l := l) (a := 0) (b := j.toNat) (by omega) (by omega)
  refine pu hs (congrArg Prod.snd ho) (fun B a w hA hS => ⟨AC.v ⟨(s.sub sz 0).a, p.toNat⟩ ((l.take j.toNat).drop 0).length, by simp [toV, gV, cellV], fun _ a hA' => ?_⟩) (kk (needE hF).2 hb2)
  obtain ⟨h0, h1, h2⟩ := hb
  have h3 : p ≤ (s.c : Int) := by omega
  have h4 : 0 ≤ p := by omega
  have h5 : max j 0 = j := by omega
  have h6 : max p 0 = p := by omega
  rw [hl]
  have hadd : s.a.map (fun x => x.add 0) = s.a := by simp [Addr.add]
  by_cases hp : p = 0
  · subst hp
    simp [execOp, hop, Instr.sliceAt, Instr.slice, run_underlying (undL ht hT), Instr.sliceBounds, hA'.eval (hdB hA hx), hA'.eval (numB hA hz), hA'.eval (numB hA hu), Instr.sliceBound, asIntOf, hT.size _ _ he, h0, h1, h3, h4, h5, h6, AC.sub, hadd]
  · simp [execOp, hop, Instr.sliceAt, Instr.slice, run_underlying (undL ht hT), Instr.sliceBounds, hA'.eval (hdB hA hx), hA'.eval (numB hA hz), hA'.eval (numB hA hu), Instr.sliceBound, asIntOf, hT.size _ _ he, h0, h1, h3, h4, h5, h6, AC.sub, hadd]
end
end
end Go.Gv
end
section
/-
  Parts handed on, turned in place; elements that are great; headers restated. Nothing of a program here.
-/
set_option linter.unusedVariables false
namespace Go.Gv
section
variable {P : Program} {T : TT} {hT : TOk P T} {n : Nat} {c : Ctx} {B0 : Bl} {N : Act → World → Prop} {X : Nat → Act → World → Prop} {Q : Act → World → Prop} {K K' : List Fr} {m m' : Nat} {e e' : SE} {L L' Lv : List Ch} {cf cf' cf1 cf2 : Cfg} {o : Oper} {d : Nat}
theorem po_st {α : Type} [Rep α] {B : Bl} {w : World} {R : List Fact} {j a b sz : Nat} {s s' : AC} {l l' : List α} (hn : Rep.n α = sz) (hj : L[j]? = some (ow s l)) (hb : a ≤ b ∧ b ≤ l.length) (hl : (l.take b).drop a = l') (hs : ∀ w F, Rep.own w [s.v l.length] l F → ∃ F', Rep.own w [s'.v l'.length] l' F' ∧ ∀ b o, F' b o → F b o) (hS : StS c w B L) : StS c w B (L.set j (ow s' l')) := by
  obtain ⟨⟨R, s1, s2⟩, s0⟩ := hS
  refine ⟨⟨R, ?_, fun z hz => ?_⟩, s0⟩
  · rw [List.map_set]
    refine s1.turn j (by rw [List.getElem?_map, hj]; rfl) fun F hF => ?_
    obtain ⟨F', h1, h2⟩ := hs w F hF
    exact ⟨F', F0, Keep.refl _ _, fun _ _ h => h.elim, h1, fun b o h => .inl (h2 b o h)⟩
  · rcases List.mem_or_eq_of_mem_set hz with hz | hz
    · grind
    · subst hz; trivial
theorem own_subA {α : Type} [Rep α] {s : AC} {l l' : List α} {sz a b : Nat} (hn : Rep.n α = sz) (hb : a ≤ b ∧ b ≤ l.length) (hl : (l.take b).drop a = l') : ∀ w F, Rep.own w [s.v l.length] l F → ∃ F', Rep.own w [(s.sub sz a).v l'.length] l' F' ∧ ∀ b o, F' b o → F b o := by
  intro w F h
  obtain ⟨F', h1, h2⟩ := own_sub hn h hb.1 hb.2
  grind [sub_v]
theorem own_subM {α : Type} [Rep α] {s : AC} {l l' : List α} {sz b p : Nat} (hn : Rep.n α = sz) (hb : 0 ≤ b ∧ b ≤ p ∧ p ≤ l.length) (hl : (l.take b).drop 0 = l') : ∀ w F, Rep.own w [s.v l.length] l F → ∃ F', Rep.own w [AC.v ⟨(s.sub sz 0).a, p⟩ l'.length] l' F' ∧ ∀ b o, F' b o → F b o := by
  intro w F h
  obtain ⟨F', h1, h2⟩ := own_subC hn h hb.1 hb.2.1 hb.2.2
  have hadd : s.a.map (fun x => x.add 0) = s.a := by simp [Addr.add]
  have hln := sub_len (l := l) (a := 0) (b := b) (by omega) (by omega)
  rw [hl] at hln h1
  refine ⟨F', ?_, h2⟩
  simp_all [subC, AC.sub]
/-- A part of ours is handed on as ours. -/
theorem po {α : Type} [Rep α] (j a b : Nat) {sz : Nat} {s : AC} {l l' : List α} (hn : Rep.n α = sz) (hs : cfgS (stq T n K cf m e L) = some (K', cf', m', e', L')) (hj : L'[j]? = some (ow s l)) (hz : notIn j cf'.frz = true) (hb : a ≤ b ∧ b ≤ l.length) (hl : (l.take b).drop a = l')
    (k : G (.mk P T hT n c B0 N X Q) K' m' e' (L'.set j (ow (s.sub sz a) l')) cf') : G (.mk P T hT n c B0 N X Q) K m e L cf := by
  refine go hs (chg (fun _ : Unit => m') (fun _ => e') (fun _ => L'.set j (ow (s.sub sz a) l')) (fun B a' w hm hA hS => ?_) (fun _ => frz_set1 hz) (fun _ => k))
  exact ⟨(), [], by grind, by grind, by simpa using po_st (R := []) hn hj hb hl (own_subA hn hb hl) hS⟩
theorem poR {Z : Act → World → Prop} {α : Type} [Rep α] (j a b : Nat) {sz : Nat} {s : AC} {l l' : List α} (hn : Rep.n α = sz) (hj : L[j]? = some (ow s l)) (hb : a ≤ b ∧ b ≤ l.length) (hl : (l.take b).drop a = l')
    (kk : ∀ a' w, RelN n c B0 m e (L.set j (ow (s.sub sz a) l')) a' w → Z a' w) : ∀ a' w, RelN n c B0 m e L a' w → Z a' w := by
  intro a' w ⟨B, hm, hA, hS⟩
  exact kk a' w ⟨B, hm, hA, po_st (R := []) hn hj hb hl (own_subA hn hb hl) hS⟩
/-- The same of s[:b:p]. -/
theorem pm {α : Type} [Rep α] (j b p : Nat) {sz : Nat} {s : AC} {l l' : List α} (hn : Rep.n α = sz) (hs : cfgS (stq T n K cf m e L) = some (K', cf', m', e', L')) (hj : L'[j]? = some (ow s l)) (hz : notIn j cf'.frz = true) (hb : 0 ≤ b ∧ b ≤ p ∧ p ≤ l.length) (hl : (l.take b).drop 0 = l')
    (k : G (.mk P T hT n c B0 N X Q) K' m' e' (L'.set j (ow ⟨(s.sub sz 0).a, p⟩ l')) cf') : G (.mk P T hT n c B0 N X Q) K m e L cf := by
  refine go hs (chg (fun _ : Unit => m') (fun _ => e') (fun _ => L'.set j (ow ⟨(s.sub sz 0).a, p⟩ l')) (fun B a' w hm hA hS => ?_) (fun _ => frz_set1 hz) (fun _ => k))
  exact ⟨(), [], by grind, by grind, by simpa using po_st (R := []) hn hj ⟨by omega, by omega⟩ hl (own_subM hn hb hl) hS⟩
theorem pmR {Z : Act → World → Prop} {α : Type} [Rep α] (j b p : Nat) {sz : Nat} {s : AC} {l l' : List α} (hn : Rep.n α = sz) (hj : L[j]? = some (ow s l)) (hb : 0 ≤ b ∧ b ≤ p ∧ p ≤ l.length) (hl : (l.take b).drop 0 = l')
    (kk : ∀ a' w, RelN n c B0 m e (L.set j (ow ⟨(s.sub sz 0).a, p⟩ l')) a' w → Z a' w) : ∀ a' w, RelN n c B0 m e L a' w → Z a' w := by
  intro a' w ⟨B, hm, hA, hS⟩
  exact kk a' w ⟨B, hm, hA, po_st (R := []) hn hj ⟨by omega, by omega⟩ hl (own_subM hn hb hl) hS⟩
theorem cl_len {α : Type} {l xs : List α} {k a n : Nat} (h : k ≤ n ∧ n ≤ l.length) (ha : a ≤ l.length) : k ≤ n ∧ n ≤ (blitL l a xs).length := ⟨h.1, by grind [blitL_len]⟩
theorem cl_part {α : Type} {l xs : List α} {k a : Nat} (h : k ≤ a) (ha : a ≤ l.length) : ((blitL l a xs).take k).drop 0 = (l.take k).drop 0 := by
  grind [blitL]
/-- s[i:j:p]. -/
def AC.subm (s : AC) (n a p : Nat) : AC := ⟨if p = a then s.a else s.a.map (·.add (a * n)), p - a⟩
section
variable {x y z : Operand} {t el sz : Nat} {zv : Value} {k1 k2 : IntKind} {i j : Int} {α β : Type} [Rep α] {A : Option β} {q : β} {s : AC} {l : List α} {b1 b2 : Bool} {n1 : Nat} {z1 z2 : List SV} {kt : TK}
/-- append(s[:a], s[b:]..), in its place. -/
theorem ap2 [Flat α] (p a b : Nat) (hb : a ≤ b ∧ b ≤ l.length) (hs : stq T n K cf m e L = .op o Lv cf1 cf2 K' m' e' L') (ho : (o.op, o.dst) = (.call { callee := .builtin .append, args := #[x, y], argTypes := #[t, t] }, some d)) (ht : lkT T t = some ⟨.sl el, b1, n1, z1⟩) (he : lkT T el = some ⟨kt, b2, sz, z2⟩) (hn : Rep.n α = sz) (hp : L'[p]? = some (ow s l)) (hz : notIn p cf1.frz = true) (hx : evS e' x = some (.h (s.sub sz 0) ((l.take a).drop 0).length)) (hy : evS e' y = some (.h (s.sub sz b) ((l.take l.length).drop b).length))
    (k : (0 ≤ a + (l.length - b) ∧ a + (l.length - b) ≤ (blitL l a (l.drop b)).length) → G (.mk P T hT n c B0 N X Q) K' m' ((d, .h (s.sub sz 0) (((blitL l a (l.drop b)).take (a + (l.length - b))).drop 0).length) :: e') (L'.set p (ow s (blitL l a (l.drop b)))) cf2) : G (.mk P T hT n c B0 N X Q) K m e L cf := by
  have hlen : (blitL l a (l.drop b)).length = l.length := blitL_len (by omega)
  have hk : 0 ≤ a + (l.length - b) ∧ a + (l.length - b) ≤ (blitL l a (l.drop b)).length := by omega
  refine stq_ok (g := .mk P T hT n c B0 N X Q) ?_
  rw [hs]
  intro hdn _ hE
  refine hE Unit (fun _ => m') (fun _ => (d, .h (s.sub sz 0) (((blitL l a (l.drop b)).take (a + (l.length - b))).drop 0).length) :: e') (fun _ => L'.set p (ow s (blitL l a (l.drop b)))) (fun _ => frz_set1 hz) (fun B act w next Q' hm hA hS hnext => ?_) (fun _ => k hk)
  obtain ⟨⟨R, s1, s2⟩, s0⟩ := hS
  have hx2 : ev (vE (B0S (.mk P T hT n c B0 N X Q) cf1 ++ B) e') x = some (subV sz 0 a (s.v l.length)) := by rw [hdB hA hx, sub_v (Nat.zero_le a) (Nat.le_trans hb.1 hb.2)]
  have hy2 : ev (vE (B0S (.mk P T hT n c B0 N X Q) cf1 ++ B) e') y = some (subV sz b l.length (s.v l.length)) := by rw [hdB hA hy, sub_v hb.2 (Nat.le_refl _)]
  have hop : o.op = .call { callee := .builtin .append, args := #[x, y], argTypes := #[t, t] } := congrArg Prod.fst ho
  have hd : o.dst = some d := congrArg Prod.snd ho
  obtain ⟨v, w', k1, rfl, k2⟩ := rv_appendP p s1 (by rw [List.getElem?_map, hp]; rfl) hn hb.1 hb.2 (undL ht hT) (hT.size _ _ he) hop hx2 hy2
  unfold Oper.wp
  rw [k1 _ act hA.env, Oper.upon_value, hd]
  have hv : toV (B0S (.mk P T hT n c B0 N X Q) cf1 ++ B) (.h (s.sub sz 0) (((blitL l a (l.drop b)).take (a + (l.length - b))).drop 0).length) = some (subV sz 0 (a + (l.length - b)) (s.v l.length)) := by
    grind [sub_v, toV, gV, cellV]
  refine hnext () _ _ ⟨[], by grind, by simpa using hA.of hv (hA.env.put (by grind [dstOk, Nat.blt_eq]) _), ?_⟩
  rw [List.append_nil]
  refine ⟨⟨R, ?_, fun z hz => ?_⟩, s0⟩
  · rw [List.map_set]
    show St c w' ((L'.map _).set p (cOwn [s.v (blitL l a (l.drop b)).length] _)) R
    grind
  · rcases List.mem_or_eq_of_mem_set hz with hz | hz
    · grind
    · subst hz; trivial
/-- s[i:j] of s[:k], where it may go beyond k. -/
theorem qb_lh (p k' : Nat) (hk : k' ≤ l.length) {l0 : List α} (h0 : l0.length = k') (hs : opS (stq T n K cf m e L) = some (o, Lv, cf1, cf2, K', m', e', L')) (ho : (o.op, o.dst) = (.slice t x (some y) (some z) none, some d)) (ht : lkT T t = some ⟨.sl el, b1, n1, z1⟩) (he : lkT T el = some ⟨kt, b2, sz, z2⟩) (hn : Rep.n α = sz) (hp : Lv[p]? = some (ow s l)) (hx : evS e' x = some (.h (s.sub sz 0) l0.length)) (hy : (evS e' y).bind numI = some (k1, i)) (hz : (evS e' z).bind numI = some (k2, j)) (hF : need (0 ≤ i ∧ i ≤ j ∧ j ≤ (l.length : Int)) A = some q)
    (kk : A = some q → (i.toNat ≤ j.toNat ∧ j.toNat ≤ l.length) → G (.mk P T hT n c B0 N X Q) K' m' ((d, .h (s.sub sz i.toNat) ((l.take j.toNat).drop i.toNat).length) :: e') L' cf2) : G (.mk P T hT n c B0 N X Q) K m e L cf := by
  have hop : o.op = .slice t x (some y) (some z) none := congrArg Prod.fst ho
  have hb := (needE hF).1
  have hb2 : i.toNat ≤ j.toNat ∧ j.toNat ≤ l.length := by omega
  refine pu hs (congrArg Prod.snd ho) (fun B a w hA hS => ⟨subV sz i.toNat j.toNat (s.v l.length), by grind [sub_v, toV, gV, cellV], ?_⟩) (kk (needE hF).2 hb2)
  obtain ⟨⟨R, s1, s2⟩, s0⟩ := hS
  have hx2 : ev (vE B e') x = some (subV sz 0 k' (s.v l.length)) := by
    rw [hdB hA hx, h0]; rfl
  exact rv_sub_bey p s1 (by rw [List.getElem?_map, hp]; rfl) hn (undL ht hT) (hT.size _ _ he) hb hop hx2 (numB hA hy) (numB hA hz)
/-- clear(s[a:b]). -/
theorem clr [Flat α] (p a b : Nat) (zd : α) (hb : a ≤ b ∧ b ≤ l.length) (hinf : Inf P el sz zv) (hzs : zv.cells.size = sz) (hzd : ∀ w, Rep.rd F0 w zv.cells.toList zd) (hone : (zv.cells.toList.all fun v => v.oneCell') = true) (hs : stq T n K cf m e L = .op o Lv cf1 cf2 K' m' e' L') (ho : (o.op, o.dst) = (.call { callee := .builtin .clear, args := #[x], argTypes := #[t] }, none)) (ht : lkT T t = some ⟨.sl el, b1, n1, z1⟩) (hn : Rep.n α = sz) (hp : L'[p]? = some (ow s l)) (hz : notIn p cf1.frz = true) (hx : evS e' x = some (.h (s.sub sz a) ((l.take b).drop a).length))
    (k : G (.mk P T hT n c B0 N X Q) K' m' e' (L'.set p (ow s (blitL l a (List.replicate (b - a) zd)))) cf2) : G (.mk P T hT n c B0 N X Q) K m e L cf := by
  have hlen : (blitL l a (List.replicate (b - a) zd)).length = l.length := blitL_len (by omega)
  refine stq_ok (g := .mk P T hT n c B0 N X Q) ?_
  rw [hs]
  intro hdn _ hE
  refine hE Unit (fun _ => m') (fun _ => e') (fun _ => L'.set p (ow s (blitL l a (List.replicate (b - a) zd)))) (fun _ => frz_set1 hz) (fun B act w next Q' hm hA hS hnext => ?_) (fun _ => k)
  obtain ⟨⟨R, s1, s2⟩, s0⟩ := hS
  have hx2 : ev (vE (B0S (.mk P T hT n c B0 N X Q) cf1 ++ B) e') x = some (subV sz a b (s.v l.length)) := by grind [hdB, sub_v]
  have hop : o.op = .call { callee := .builtin .clear, args := #[x], argTypes := #[t] } := congrArg Prod.fst ho
  have hd : o.dst = none := congrArg Prod.snd ho
  obtain ⟨v, w', k1, rfl, k2⟩ := rv_clear zd p s1 (by rw [List.getElem?_map, hp]; rfl) hn hb.1 hb.2 (undL ht hT) hinf hzs hzd (fun v hv => List.all_eq_true.1 hone v hv) hop hx2
  unfold Oper.wp
  rw [k1 _ act hA.env, Oper.upon_value, hd]
  refine hnext () _ _ ⟨[], by grind, by grind [Act.put], ?_⟩
  rw [List.append_nil]
  refine ⟨⟨R, ?_, fun z hz => ?_⟩, s0⟩
  · rw [List.map_set]
    show St c w' ((L'.map _).set p (cOwn [s.v (blitL l a (List.replicate (b - a) zd)).length] _)) R
    grind
  · rcases List.mem_or_eq_of_mem_set hz with hz | hz
    · grind
    · subst hz; trivial
theorem qp_lhm {u : Operand} {k3 : IntKind} {pz : Int} (hc : l.length ≤ s.c) (hs : opS (stq T n K cf m e L) = some (o, Lv, cf1, cf2, K', m', e', L')) (ho : (o.op, o.dst) = (.slice t x (some y) (some z) (some u), some d)) (ht : lkT T t = some ⟨.sl el, b1, n1, z1⟩) (he : lkT T el = some ⟨kt, b2, sz, z2⟩) (hx : evS e' x = some (.h s l.length)) (hy : (evS e' y).bind numI = some (k1, i)) (hz : (evS e' z).bind numI = some (k2, j)) (hu : (evS e' u).bind numI = some (k3, pz)) (hF : need (0 ≤ i ∧ i ≤ j ∧ j ≤ pz ∧ pz ≤ (l.length : Int)) A = some q)
    (kk : A = some q → (i.toNat ≤ j.toNat ∧ j.toNat ≤ pz.toNat ∧ pz.toNat ≤ l.length) → G (.mk P T hT n c B0 N X Q) K' m' ((d, .h (s.subm sz i.toNat pz.toNat) ((l.take j.toNat).drop i.toNat).length) :: e') L' cf2) : G (.mk P T hT n c B0 N X Q) K m e L cf := by
  have hop : o.op = .slice t x (some y) (some z) (some u) := congrArg Prod.fst ho
  have hb := (needE hF).1
  have hb2 : i.toNat ≤ j.toNat ∧ j.toNat ≤ pz.toNat ∧ pz.toNat ≤ l.length := by omega
  have hl := sub_len (l := l) (a := i.toNat) (b := j.toNat) (by omega) (by omega)
  refine pu hs (congrArg Prod.snd ho) (fun B a w hA hS => ⟨AC.v (s.subm sz i.toNat pz.toNat) ((l.take j.toNat).drop i.toNat).length, by simp [toV, gV, cellV], fun _ a hA' => ?_⟩) (kk (needE hF).2 hb2)
  obtain ⟨h0, h1, h2, h2'⟩ := hb
  have h3 : pz ≤ (s.c : Int) := by omega
  have h4 : 0 ≤ pz := by omega
  have h4' : 0 ≤ j := by omega
  have h5 : max j 0 = j := by omega
  have h6 : max pz 0 = pz := by omega
  have h7 : max i 0 = i := by omega
  rw [hl]
  by_cases hp : pz.toNat = i.toNat
  · have : pz = i := by omega
    subst this
    simp [execOp, hop, Instr.sliceAt, Instr.slice, run_underlying (undL ht hT), Instr.sliceBounds, hA'.eval (hdB hA hx), hA'.eval (numB hA hy), hA'.eval (numB hA hz), hA'.eval (numB hA hu), Instr.sliceBound, asIntOf, hT.size _ _ he, h0, h1, h2, h3, h4, h4', h5, h6, h7, AC.subm]
  · have hp2 : ¬ pz = i := fun h => hp (by rw [h])
    simp [execOp, hop, Instr.sliceAt, Instr.slice, run_underlying (undL ht hT), Instr.sliceBounds, hA'.eval (hdB hA hx), hA'.eval (numB hA hy), hA'.eval (numB hA hz), hA'.eval (numB hA hu), Instr.sliceBound, asIntOf, hT.size _ _ he, h0, h1, h2, h3, h4, h4', h5, h6, h7, hp, hp2, AC.subm]
/-- x << y. -/
theorem qshl {t2 : Nat} (hs : opS (stq T n K cf m e L) = some (o, Lv, cf1, cf2, K', m', e', L')) (ho : (o.op, o.dst) = (.binOp .shl t x y t2, some d)) (hx : (evS e' x).bind numI = some (k1, i)) (hy : (evS e' y).bind numI = some (k2, j)) (hF : need (0 ≤ j) A = some q)
    (kk : A = some q → G (.mk P T hT n c B0 N X Q) K' m' ((d, .i k1 (shlOp k1 i j)) :: e') L' cf2) : G (.mk P T hT n c B0 N X Q) K m e L cf :=
  pu hs (congrArg Prod.snd ho) (fun B a w hA _ => ⟨_, rfl, rv_shl (congrArg Prod.fst ho) (numB hA hx) (numB hA hy) (by grind [needE])⟩) (kk (needE hF).2)
theorem qshr {t2 : Nat} (hs : opS (stq T n K cf m e L) = some (o, Lv, cf1, cf2, K', m', e', L')) (ho : (o.op, o.dst) = (.binOp .shr t x y t2, some d)) (hx : (evS e' x).bind numI = some (k1, i)) (hy : (evS e' y).bind numI = some (k2, j)) (hF : need (0 ≤ j) A = some q)
    (kk : A = some q → G (.mk P T hT n c B0 N X Q) K' m' ((d, .i k1 (shrOp k1 i j)) :: e') L' cf2) : G (.mk P T hT n c B0 N X Q) K m e L cf :=
  pu hs (congrArg Prod.snd ho) (fun B a w hA _ => ⟨_, rfl, rv_shr (congrArg Prod.fst ho) (numB hA hx) (numB hA hy) (by grind [needE])⟩) (kk (needE hF).2)
/-- A slice held against nil. -/
theorem eqn {t2 : Nat} {ln : Nat} (hs : opS (stq T n K cf m e L) = some (o, Lv, cf1, cf2, K', m', e', L')) (ho : (o.op, o.dst) = (.binOp .eql t x (.const (.slice none 0 0)) t2, some d)) (ht : lkT T t = some ⟨.sl el, b1, n1, z1⟩) (hx : evS e' x = some (.h s ln))
    (kt : s.a = none → G (.mk P T hT n c B0 N X Q) K' m' ((d, .l true) :: e') L' cf2) (kf : G (.mk P T hT n c B0 N X Q) K' m' ((d, .l false) :: e') L' cf2) : G (.mk P T hT n c B0 N X Q) K m e L cf := by
  cases hs' : s.a with
  | none => exact pu hs (congrArg Prod.snd ho) (fun B a w hA _ => ⟨_, rfl, rv_eqnil_t (undL ht hT) ⟨ln, s.c, by grind⟩ (congrArg Prod.fst ho) (hdB hA hx) rfl⟩) (kt hs')
  | some ad => exact pu hs (congrArg Prod.snd ho) (fun B a w hA _ => ⟨_, rfl, rv_eqnil_f (undL ht hT) ⟨ad, ln, s.c, by grind⟩ (congrArg Prod.fst ho) (hdB hA hx) rfl⟩) kf
theorem cln {w : Ctx} {r : List α} (h : RdA w s l) (hn : s.a = none) (hF : need (([] : List α).length + l.length ≤ 1073741824) (some (([] : List α) ++ l)) = some r) : some ([] : List α) = some r := by
  obtain ⟨ad, cp, h1, h2, h3, h4⟩ := (show rdSlice w.S0 w.w0 [s.v l.length] l from h)
  grind [need]
end
section
variable {x y : Operand} {t el sz : Nat} {zv : Value} {b1 : Bool} {n1 : Nat} {z1 : List SV}
/-- T{x}, of an element packed. -/
theorem ltN {α : Type} [Rep α] (E : CO α) (is : List Nat) (q : α) (ye : E.ex) (hinf : Inf P el sz zv) (hs : stq T n K cf m e L = .op o Lv cf1 cf2 K' m' e' L') (ho : (o.op, o.dst) = (.buildSlice t 1 #[(0, x)], some d)) (ht : lkT T t = some ⟨.sl el, b1, n1, z1⟩) (hn : Rep.n α = sz) (hm : Nat.ble 1 sz = true) (hm2 : Nat.ble sz 16777216 = true) (hx : (evS e' x).map (fun v => nbL (cellsS v)) = some (E.cs q ye)) (hxc : (evS e' x).map isCells = some true) (hle : (E.cs q ye).length = sz) (hec : (mapO (cellV []) (E.cs q ye)).isSome = true) (hi : mapO (fun i => L'[i]?) is = some (E.Lx q ye)) (ha : apartB is = true) (hz : (is.all fun j => notIn j cf1.frz) = true)
    (k : ∀ s' : AC, G (.mk P T hT n c B0 N X Q) K' m' ((d, .h s' [q].length) :: e') (blk L' is ++ [ow s' [q]]) cf2) : G (.mk P T hT n c B0 N X Q) K m e L cf := by
  obtain ⟨ec, hec⟩ := Option.isSome_iff_exists.1 hec
  refine estp (l := [q]) (fun s' => blk L' is ++ [ow s' [q]]) hs (congrArg Prod.snd ho) (fun _ => frz_blk _ hz) (fun B a w hA hS => ?_) k
  obtain ⟨⟨R, s1, s2⟩, s0⟩ := hS
  have hecl : ec.length = sz := by grind [mapO_len]
  cases hxv : evS e' x with
  | none => grind
  | some xv =>
    rw [hxv] at hx hxc
    simp at hx hxc
    obtain ⟨v, v1, v2⟩ := evS_ok hA hxv
    have hcell : mapO (cellV B) (cellsS xv) = some ec := by
      rw [← nbL_map, hx]; exact mapO_mono (fun x v h => by simpa using cellV_app (B := []) B h) hec
    have hvc : v.cells.toList = ec := cellsS_ok v1 hcell
    -- pack
    have p1 := s1.shift is ha (A' := [cOwn ec q]) fun F hF => by
      rw [pick_kl hi, E.nb] at hF
      exact Sep.one.2 ((E.pk hec w F).2 hF)
    have hlen : (blank (L'.map (chd B)) is).length = L'.length := by rw [← blk_map]; simp [blk_len]
    obtain ⟨v', w', k1, k2⟩ := rv_litN (e := vE B e') (o := o) (ps := [(0, x)]) (vs := [v]) (cells := ec) [q] p1 [L'.length] rfl ⟨[], by
        simp only [pick, List.getElem?_append_right (Nat.le_of_eq hlen), hlen, Nat.sub_self]
        grind, by grind, ⟨by grind, rfl⟩⟩ hn (undL ht hT) hinf rfl hm (by grind) (congrArg Prod.fst ho) (by simp [evs, v2]) (lit_fill (vs := [v]) (ps := [(0, x)]) rfl rfl (by grind) (by simp [hvc]))
    have hb2 : blank (blank (L'.map (chd B)) is ++ [cOwn ec q]) [L'.length] = blank (L'.map (chd B)) is ++ [cNo] := by
      simp_all [blank]
    rw [hb2] at k2
    obtain ⟨s', rfl⟩ := own_AC (v := v') (l := [q]) k2 (L'.length + 1) (by grind)
    refine ⟨s', w', k1, ⟨⟨R, ?_, fun z hz => ?_⟩, s0⟩⟩
    · have k3 := k2.sel ((List.range L'.length) ++ [L'.length + 1]) ?_
      · refine k3.imp ?_
        rw [List.map_append, blk_map, pick_app]
        refine ImpL.append ?_ ?_
        · have : pick (blank (L'.map (chd B)) is ++ [cNo] ++ [cOwn [s'.v [q].length] [q]]) (List.range L'.length) = blank (L'.map (chd B)) is := by
            have gen : ∀ (M M' : List Chunk) (j : Nat), pick (M ++ M') ((List.range j)) = (M ++ M').take j ∨ ¬ j ≤ (M ++ M').length := by
              intro M M' j
              by_cases hj : j ≤ (M ++ M').length
              · left
                induction j with
                | zero => rfl
                | succ j ih =>
                  grind [List.range_succ, pick_app, pick, List.take_add_one]
              omega
            grind
          grind [ImpL.refl]
        simp_all [pick, chd, ImpL.refl]
      · have gen : ∀ (j : Nat), apartB (List.range' j (L'.length - j) ++ [L'.length + 1]) = true := by
          intro j
          generalize hk : L'.length - j = k
          induction k generalizing j with
          | zero => rfl
          | succ k ih =>
            rw [List.range'_succ, List.cons_append]
            simp only [apartB, Bool.and_eq_true, List.all_eq_true, Bool.not_eq_true']
            grind [Nat.eq_of_beq_eq_true]
        have := gen 0
        simp_all [List.range_eq_range']
    · rcases List.mem_append.1 hz with hz | hz
      · rcases blk_mem _ _ hz with hz | hz
        · grind
        · subst hz; trivial
      · simp at hz; subst hz; trivial
/-- append of ours to ours. -/
theorem apN {α β : Type} [Rep α] {A : Option β} {q : β} {s s2 : AC} {l xs : List α} (i j : Nat) (hinf : Inf P el sz zv) (hs : stq T n K cf m e L = .op o Lv cf1 cf2 K' m' e' L') (ho : (o.op, o.dst) = (.call { callee := .builtin .append, args := #[x, y], argTypes := #[t, t] }, some d)) (ht : lkT T t = some ⟨.sl el, b1, n1, z1⟩) (hn : Rep.n α = sz) (hzs : zv.cells.size = sz) (hi : L'[i]? = some (ow s l)) (hj : L'[j]? = some (ow s2 xs)) (ha : apartB [i, j] = true) (hz : ([i, j].all fun j => notIn j cf1.frz) = true) (hx : evS e' x = some (.h s l.length)) (hy : evS e' y = some (.h s2 xs.length)) (hF : need (l.length + xs.length ≤ 1073741824) A = some q)
    (k : A = some q → ∀ s' : AC, G (.mk P T hT n c B0 N X Q) K' m' ((d, .h s' (l ++ xs).length) :: e') (blk L' [i, j] ++ [ow s' (l ++ xs)]) cf2) : G (.mk P T hT n c B0 N X Q) K m e L cf := by
  refine estp (l := l ++ xs) (fun s' => blk L' [i, j] ++ [ow s' (l ++ xs)]) hs (congrArg Prod.snd ho) (fun _ => frz_blk _ hz) (fun B a w hA hS => ?_) (k (needE hF).2)
  obtain ⟨⟨R, s1, s2'⟩, s0⟩ := hS
  have hp : pick (L'.map (chd B)) [i, j] = [cOwn [s.v l.length] l, cOwn [s2.v xs.length] xs] := by grind [pick, chd]
  obtain ⟨v, w', k1, k2⟩ := rv_appN [i, j] s1 ha hp hn (undL ht hT) hinf hzs (needE hF).1 (congrArg Prod.fst ho) (hdB hA hx) (hdB hA hy)
  have hlen : (blank (L'.map (chd B)) [i, j]).length = L'.length := by rw [← blk_map]; simp [blk_len]
  obtain ⟨s', rfl⟩ := own_AC k2 L'.length (by rw [List.getElem?_append_right (Nat.le_of_eq hlen), hlen, Nat.sub_self]; rfl)
  refine ⟨s', w', k1, ⟨⟨R, ?_, fun z hz => ?_⟩, s0⟩⟩
  · rw [List.map_append, blk_map]; exact k2
  · rcases List.mem_append.1 hz with hz | hz
    · rcases blk_mem _ _ hz with hz | hz
      · grind
      · subst hz; trivial
    · simp at hz; subst hz; trivial
end
/-- A Bool that is known. -/
theorem kb {b cb : Bool} (ss : List Nat) (hb : b = cb) (hs : cfgS (stq T n K cf m e L) = some (K', cf', m', e', L')) (ho : mapO (lkS e') ss = some (ss.map fun _ => SV.b b)) (k : G (.mk P T hT n c B0 N X Q) K' m' (ovr cb e' ss) L' cf') : G (.mk P T hT n c B0 N X Q) K m e L cf :=
  go hs (G_mono (fun a B hA => ovr_env hb ss ho hA) k)
/-! ### Headers restated: of the same slice, by another text of its length. -/
def rhE (v : SV) (e : SE) : List (Nat × Nat) → SE
  | [] => e
  | (k, j) :: r => match lkS e k with
    | some (.g cs) => (k, .g (ovw cs j [v])) :: rhE v e r
    | some (.t cs) => (k, .t (ovw cs j [v])) :: rhE v e r
    | _ => rhE v e r
def rhL (v : SV) (L : List Ch) : List (Nat × Nat) → List Ch
  | [] => L
  | (k, j) :: r => match L[k]? with
    | some (.box n cs) => rhL v (L.set k (.box n (ovw cs j [v]))) r
    | _ => rhL v L r
def isAt (s : AC) (n : Nat) (v : Option SV) : Prop := v = some (.h s n)
theorem ovw_map {B : Bl} {f : Bl → SV → Option Value} {u v : SV} (huv : ∀ B, f B u = f B v) : ∀ {cs : List SV} {j : Nat}, cs[j]? = some u → mapO (f B) (ovw cs j [v]) = mapO (f B) cs
  | [], j, h => by simp at h
  | x :: cs, 0, h => by
    grind [mapO, ovw, ovw_nil]
  | x :: cs, j + 1, h => by
    show mapO (f B) (x :: ovw cs j [v]) = _
    simp only [mapO, ovw_map (B := B) huv (show cs[j]? = some u by grind)]
theorem rhE_lk {s : AC} {n0 n1 : Nat} (hn : n0 = n1) {B : Bl} : ∀ {ps : List (Nat × Nat)} {k : Nat} {x : SV}, (∀ p ∈ ps, ∃ cs, (lkS e p.1 = some (.g cs) ∨ lkS e p.1 = some (.t cs)) ∧ cs[p.2]? = some (.h s n0)) → lkS (rhE (.h s n1) e ps) k = some x → ∃ y, lkS e k = some y ∧ toV B x = toV B y
  | [], k, x, _, h => ⟨x, h, rfl⟩
  | (k', j) :: r, k, x, hp, h => by
    have ih := fun h => rhE_lk hn (B := B) (ps := r) (k := k) (x := x) (fun p hp' => hp p (List.mem_cons_of_mem _ hp')) h
    obtain ⟨cs, h1, h2⟩ := hp (k', j) (by simp)
    have hc : ∀ B, cellV B (.h s n0) = cellV B (.h s n1) := fun B => by rw [hn]
    have hg : ∀ B, gV B (.h s n0) = gV B (.h s n1) := fun B => by rw [hn]
    rcases h1 with h1 | h1
    · simp only [rhE, h1, lkS] at h
      split at h
      · rename_i hb
        cases h
        have := Nat.eq_of_beq_eq_true hb
        subst this
        exact ⟨_, h1, by simp only [toV, gV, ovw_map (f := cellV) hc h2]⟩
      grind
    · simp only [rhE, h1, lkS] at h
      split at h
      · rename_i hb
        cases h
        have := Nat.eq_of_beq_eq_true hb
        subst this
        exact ⟨_, h1, by simp only [toV, ovw_map (f := gV) hg h2]⟩
      grind
theorem rhL_imp {s : AC} {n0 n1 : Nat} (hn : n0 = n1) {B : Bl} {w : World} {R : List Fact} : ∀ {ps : List (Nat × Nat)} {L : List Ch}, (∀ p ∈ ps, ∃ k cs, L[p.1]? = some (.box k cs) ∧ cs[p.2]? = some (.h s n0)) → apartB (ps.map (·.1)) = true → ImpL w (L.map (chd B)) ((rhL (.h s n1) L ps).map (chd B)) ∧ ((∀ x ∈ L, roF B R x) → ∀ x ∈ rhL (.h s n1) L ps, roF B R x)
  | [], L, _, _ => ⟨ImpL.refl _, fun h => h⟩
  | (i, j) :: r, L, hp, ha => by
    obtain ⟨k, cs, h1, h2⟩ := hp (i, j) (by simp)
    have hc : ∀ B, cellV B (.h s n0) = cellV B (.h s n1) := fun B => by rw [hn]
    simp only [List.map_cons, apartB, Bool.and_eq_true] at ha
    have ih := rhL_imp hn (B := B) (w := w) (R := R) (ps := r) (L := L.set i (.box k (ovw cs j [.h s n1]))) (fun p hp' => by
      obtain ⟨k', cs', h3, h4⟩ := hp p (List.mem_cons_of_mem _ hp')
      have hne : i ≠ p.1 := fun he => by
        have := List.all_eq_true.1 ha.1 p.1 (List.mem_map_of_mem hp')
        simp_all
      exact ⟨k', cs', by grind, h4⟩) ha.2
    simp only [rhL, h1]
    refine ⟨?_, fun h => ih.2 fun x hx => ?_⟩
    · have h5 : ImpL w (L.map (chd B)) ((L.set i (.box k (ovw cs j [.h s n1]))).map (chd B)) := by
        rw [List.map_set]
        exact ImpL.put (a := boxC B k cs) (b := boxC B k (ovw cs j [.h s n1])) i (by rw [List.getElem?_map, h1]; rfl) fun F ⟨b, z, vs, q1, q2, q3⟩ => ⟨b, z, vs, q1, by rw [ovw_map (f := cellV) hc h2]; exact q2, q3⟩
      have tr : ∀ {A B C : List Chunk}, ImpL w A B → ImpL w B C → ImpL w A C := by
        intro A B C h1
        induction h1 generalizing C with
        | nil => simp
        | cons h t ih => intro h2; cases h2 with | cons h' t' => exact .cons (fun F hF => h' F (h F hF)) (ih t')
      grind
    · rcases List.mem_or_eq_of_mem_set hx with hx | hx
      · exact h x hx
      · subst hx; trivial
def atE (e : SE) (p : Nat × Nat) : Option SV := match lkS e p.1 with
  | some (.g cs) => cs[p.2]?
  | some (.t cs) => cs[p.2]?
  | _ => none
def atL (L : List Ch) (p : Nat × Nat) : Option SV := match L[p.1]? with
  | some (.box _ cs) => cs[p.2]?
  | _ => none
theorem rh_ok {B : Bl} {a : Act} {w : World} (s : AC) {n0 n1 : Nat} (hn : n0 = n1) {ps qs : List (Nat × Nat)} (hp : mapO (atE e) ps = some (ps.map fun _ => .h s n0)) (hq : mapO (atL L) qs = some (qs.map fun _ => .h s n0)) (ha : apartB (qs.map (·.1)) = true) (hA : AEnvS n B e a) (hS : StS c w B L) : AEnvS n B (rhE (.h s n1) e ps) a ∧ StS c w B (rhL (.h s n1) L qs) := by
  have key : ∀ {γ : Type} {f : γ → Option SV} {ps : List γ}, mapO f ps = some (ps.map fun _ => .h s n0) → ∀ p ∈ ps, f p = some (.h s n0) := by
    intro γ f ps
    induction ps with
    | nil => simp
    | cons q ps ih =>
      grind [mapO]
  refine ⟨⟨hA.d, hA.size, fun k x hk => ?_⟩, ?_⟩
  · obtain ⟨y, h1, h2⟩ := rhE_lk hn (B := B) (fun p hp' => by
      have := key hp p hp'
      unfold atE at this
      grind) hk
    obtain ⟨v, h3, h4⟩ := hA.get k y h1
    grind
  · obtain ⟨⟨R, s1, s2⟩, s0⟩ := hS
    obtain ⟨h1, h2⟩ := rhL_imp hn (B := B) (w := w) (R := R) (L := L) (fun p hp' => by
      have := key hq p hp'
      unfold atL at this
      split at this
      · rename_i k cs hc; exact ⟨k, cs, hc, this⟩
      grind) ha
    exact ⟨⟨R, s1.imp h1, h2 s2⟩, s0⟩
theorem frz_rhL {g : Gx} {cf : Cfg} {v : SV} : ∀ {qs : List (Nat × Nat)} {L M : List Ch}, Frz g cf L M → ((qs.map (·.1)).all fun j => notIn j cf.frz) = true → Frz g cf L (rhL v M qs)
  | [], L, M, h, _ => h
  | (i, j) :: r, L, M, h, hz => by
    simp only [List.map_cons, List.all_cons, Bool.and_eq_true] at hz
    simp only [rhL]
    split
    · exact frz_rhL (qs := r) (frz_setN h hz.1) hz.2
    · exact frz_rhL (qs := r) h hz.2
theorem rh (s : AC) {n0 n1 : Nat} (hn : n0 = n1) (ps qs : List (Nat × Nat)) (hp : mapO (atE e) ps = some (ps.map fun _ => .h s n0)) (hq : mapO (atL L) qs = some (qs.map fun _ => .h s n0)) (ha : (apartB (qs.map (·.1)) && (qs.map (·.1)).all fun j => notIn j cf.frz) = true)
    (k : G (.mk P T hT n c B0 N X Q) K m (rhE (.h s n1) e ps) (rhL (.h s n1) L qs) cf) : G (.mk P T hT n c B0 N X Q) K m e L cf := by
  rw [Bool.and_eq_true] at ha
  refine chg (fun _ : Unit => m) (fun _ => rhE (.h s n1) e ps) (fun _ => rhL (.h s n1) L qs) (fun B a w hm hA hS => ?_) (fun _ => frz_rhL (by simpa using frz_app (L := L) []) ha.2) (fun _ => k)
  obtain ⟨h1, h2⟩ := rh_ok s hn hp hq ha.1 hA hS
  simp_all
theorem rhR {Z : Act → World → Prop} (s : AC) {n0 n1 : Nat} (hn : n0 = n1) (ps qs : List (Nat × Nat)) (hp : mapO (atE e) ps = some (ps.map fun _ => .h s n0)) (hq : mapO (atL L) qs = some (qs.map fun _ => .h s n0)) (ha : apartB (qs.map (·.1)) = true)
    (kk : ∀ a w, RelN n c B0 m (rhE (.h s n1) e ps) (rhL (.h s n1) L qs) a w → Z a w) : ∀ a w, RelN n c B0 m e L a w → Z a w := by
  intro a w ⟨B, hm, hA, hS⟩
  obtain ⟨h1, h2⟩ := rh_ok s hn hp hq ha hA hS
  exact kk a w ⟨B, hm, h1, h2⟩
end
end Go.Gv
end
section
/-
  Literals of several elements, bytes as a string. Nothing of a program here.
-/
set_option linter.unusedVariables false
namespace Go.Gv
section
variable {P : Program} {T : TT} {hT : TOk P T} {n : Nat} {c : Ctx} {B0 : Bl} {N : Act → World → Prop} {X : Nat → Act → World → Prop} {Q : Act → World → Prop} {K K' : List Fr} {m m' : Nat} {e e' : SE} {L L' Lv : List Ch} {cf cf' cf1 cf2 : Cfg} {o : Oper} {d : Nat}
section
variable {x : Operand} {t t2 el sz : Nat} {b1 b2 b3 : Bool} {n1 n2 n3 : Nat} {z1 z2 z3 : List SV}
theorem qbs {s : AC} {l : List UInt8} (h1 : RdA c s l) (hs : opS (stq T n K cf m e L) = some (o, Lv, cf1, cf2, K', m', e', L')) (ho : (o.op, o.dst) = (.convert t t2 x, some d)) (ht : lkT T t = some ⟨.sl el, b1, n1, z1⟩) (he : lkT T el = some ⟨.i .u8, b2, n2, z2⟩) (h2 : lkT T t2 = some ⟨.s, b3, n3, z3⟩) (hx : evS e' x = some (.h s l.length))
    (kk : G (.mk P T hT n c B0 N X Q) K' m' ((d, .s l) :: e') L' cf2) : G (.mk P T hT n c B0 N X Q) K m e L cf := by
  refine pu hs (congrArg Prod.snd ho) (fun B a w hA hS => ⟨_, rfl, ?_⟩) kk
  have hr : Rep.rd c.S0 w [s.v l.length] l := keep_S0 hS (f := fRd [s.v l.length] l) h1
  obtain ⟨de, q1, q2⟩ := hT.und _ _ he
  exact rv_b2s hr (undL ht hT) (by grind) (undS h2 hT) (congrArg Prod.fst ho) (hdB hA hx)
theorem qbo (p : Nat) {s : AC} {l : List UInt8} (hs : opS (stq T n K cf m e L) = some (o, Lv, cf1, cf2, K', m', e', L')) (ho : (o.op, o.dst) = (.convert t t2 x, some d)) (ht : lkT T t = some ⟨.sl el, b1, n1, z1⟩) (he : lkT T el = some ⟨.i .u8, b2, n2, z2⟩) (h2 : lkT T t2 = some ⟨.s, b3, n3, z3⟩) (hp : Lv[p]? = some (ow s l)) (hx : evS e' x = some (.h s l.length))
    (kk : G (.mk P T hT n c B0 N X Q) K' m' ((d, .s l) :: e') L' cf2) : G (.mk P T hT n c B0 N X Q) K m e L cf := by
  refine pu hs (congrArg Prod.snd ho) (fun B a w hA hS => ⟨_, rfl, ?_⟩) kk
  obtain ⟨⟨R, s1, s2⟩, s0⟩ := hS
  have hr := s1.rdOwn (cs := [s.v l.length]) (d := l) p (by simp [hp, chd])
  obtain ⟨de, q1, q2⟩ := hT.und _ _ he
  exact rv_b2s hr (undL ht hT) (by grind) (undS h2 hT) (congrArg Prod.fst ho) (hdB hA hx)
theorem rd_own0 {α : Type} [Rep α] (E : CO α) {q : α} {y : E.ex} {ec : List Value} (h : mapO (cellV []) (E.cs q y) = some ec) (hL : E.Lx q y = []) (w : World) : Rep.rd F0 w ec q := by
  have := (E.pk h w F0).2 (by rw [hL]; exact fun _ _ h => h)
  grind [Rep.own_rd]
theorem lits {α : Type} [Rep α] (E : CO α) (y : E.ex) {sz : Nat} {B : Bl} {a : Act} (hA : AEnvS n B e a) (hL : ∀ q, E.Lx q y = []) : ∀ {ps : List (Nat × Operand)} {qs : List α}, mapO (fun p => (evS e p.2).map fun v => nbL (cellsS v)) ps = some (qs.map fun q => E.cs q y) → (qs.all fun q => Nat.beq (E.cs q y).length sz && (mapO (cellV []) (E.cs q y)).isSome) = true →
    ∃ vs cells, evs (vE B e) (ps.map (·.2)) = some vs ∧ vs.length = ps.length ∧ (vs.all fun v => v.cells.size == sz) = true ∧ (vs.flatMap fun v => v.cells.toList) = cells ∧ RdAll sz cells qs
  | [], [], _, _ => ⟨[], [], rfl, rfl, rfl, rfl, rfl⟩
  | [], q :: qs, h, _ => by cases h
  | p :: ps, [], h, _ => by
    grind [mapO]
  | p :: ps, q :: qs, h, hc => by
    simp only [mapO, List.map_cons] at h
    split at h
    · cases h
    · rename_i c0 h1
      split at h
      · cases h
      · rename_i cs h2
        simp only [Option.some.injEq, List.cons.injEq] at h
        obtain ⟨rfl, rfl⟩ := h
        simp only [List.all_cons, Bool.and_eq_true] at hc
        obtain ⟨⟨hl, hsome⟩, hc⟩ := hc
        obtain ⟨vs, cells, g1, g2, g3, g4, g5⟩ := lits E y hA hL h2 (by simpa using hc)
        obtain ⟨ec, hec⟩ := Option.isSome_iff_exists.1 hsome
        cases hxv : evS e p.2 with
        | none => rw [hxv] at h1; cases h1
        | some xv =>
          rw [hxv] at h1
          simp at h1
          obtain ⟨v, v1, v2⟩ := evS_ok hA hxv
          have hcell : mapO (cellV B) (cellsS xv) = some ec := by
            rw [← nbL_map, h1]; exact mapO_mono (fun x v h => by simpa using cellV_app (B := []) B h) hec
          have hvc : v.cells.toList = ec := cellsS_ok v1 hcell
          have hecl : ec.length = sz := by rw [mapO_len hec]; exact Nat.eq_of_beq_eq_true hl
          refine ⟨v :: vs, ec ++ cells, by simp [evs, v2, g1], by simp [g2], ?_, by simp [hvc, g4], ?_, ?_⟩
          · rw [List.all_cons, g3, ← Array.length_toList, hvc, hecl]; simp
          · rw [List.take_append_of_le_length (Nat.le_of_eq hecl.symm), ← hecl, List.take_length]
            exact rd_own0 E hec (hL q) _
          · rw [List.drop_append_of_le_length (Nat.le_of_eq hecl.symm), ← hecl, List.drop_length, List.nil_append, hecl]
            exact g5
/-- T{x, y, ..}, of elements without memory behind them. -/
theorem ltK {α : Type} [Rep α] [Flat α] (E : CO α) (y : E.ex) (qs : List α) {len : Nat} {ps : List (Nat × Operand)} {zv : Value} (hinf : Inf P el sz zv) (hs : stq T n K cf m e L = .op o Lv cf1 cf2 K' m' e' L') (ho : (o.op, o.dst) = (.buildSlice t len ⟨ps⟩, some d)) (ht : lkT T t = some ⟨.sl el, b1, n1, z1⟩) (hn : Rep.n α = sz) (hl : qs.length = len) (hm : Nat.ble 1 sz = true) (hsm : Nat.ble (len * sz) 16777216 = true) (hix : ps.map (·.1) = List.range' 0 len) (hev : mapO (fun p => (evS e' p.2).map fun v => nbL (cellsS v)) ps = some (qs.map fun q => E.cs q y)) (hec : (qs.all fun q => Nat.beq (E.cs q y).length sz && (mapO (cellV []) (E.cs q y)).isSome) = true) (hL : ∀ q, E.Lx q y = [])
    (k : ∀ s' : AC, G (.mk P T hT n c B0 N X Q) K' m' ((d, .h s' qs.length) :: e') (L' ++ [ow s' qs]) cf2) : G (.mk P T hT n c B0 N X Q) K m e L cf := by
  refine estp (l := qs) (fun s' => L' ++ [ow s' qs]) hs (congrArg Prod.snd ho) (fun _ => frz_app _) (fun B a w hA hS => ?_) k
  obtain ⟨⟨R, s1, s2⟩, s0⟩ := hS
  obtain ⟨vs, cells, g1, g2, g3, g4, g5⟩ := lits E y (sz := sz) hA hL hev hec
  have hpl : ps.length = len := by
    have := congrArg List.length hix
    grind
  obtain ⟨v, w', k1, k2⟩ := rv_lit (e := vE B e') (o := o) (ps := ps) (vs := vs) (cells := cells) qs s1 hn (undL ht hT) hinf hl hm hsm g5 (congrArg Prod.fst ho) g1 (lit_fill hix (by rw [g2, hpl]) g3 g4)
  obtain ⟨s', rfl⟩ := own_AC (v := v) (l := qs) k2 (L'.map (chd B)).length (by simp)
  refine ⟨s', w', k1, ⟨⟨R, by grind [chd], fun z hz => ?_⟩, s0⟩⟩
  rcases List.mem_append.1 hz with hz | hz
  · grind
  · simp at hz; subst hz; trivial
end
end
end Go.Gv
end
