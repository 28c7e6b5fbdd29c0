import Derived.Test.YtkcicilgoehljabGreatXLA
set_option linter.unusedVariables false
set_option linter.unusedSimpArgs false
set_option linter.unusedSectionVars false
set_option linter.constructorNameAsVariable false
set_option linter.unnecessarySimpa false
section
namespace Go.Gv
section
variable {P : Program} {T : TT} {n : Nat} {B : Bl} {e : SE} {a : Act} {o : Oper} {w w' : World} {x y : Operand} {c : Ctx} {L : List Ch}
theorem gd_yes {ops : Array Oper} (h : guardS ops e o.guard = .yes) : Want ops o (vE B e) true := by
  unfold guardS at h
  split at h
  · exact want_yes (by assumption)
  · rename_i j w hg
    split at h
    · rename_i q hq
      split at h
      · rename_i s hs
        have hj : (ops[j]?).bind (·.dst) = some s := by rw [← Array.getElem?_toList, hq]; exact hs
        split at h
        · rename_i c hl
          have hv : lk (vE B e) s = some (.bool c) := by rw [vE_lk hl]; rfl
          refine want_if hg hj hv ?_
          split at h <;> first | rfl | cases h
        all_goals cases h
      · cases h
    · cases h
theorem gd_no {ops : Array Oper} (h : guardS ops e o.guard = .no) : Want ops o (vE B e) false := by
  unfold guardS at h
  split at h
  · cases h
  · rename_i j w hg
    split at h
    · rename_i q hq
      split at h
      · rename_i s hs
        have hj : (ops[j]?).bind (·.dst) = some s := by rw [← Array.getElem?_toList, hq]; exact hs
        split at h
        · rename_i c hl
          have hv : lk (vE B e) s = some (.bool c) := by rw [vE_lk hl]; rfl
          refine want_if hg hj hv ?_
          cases c <;> cases w <;> first | rfl | cases h
        · rename_i hl
          exact want_no hg hj (by rw [vE_lk hl]; rfl)
        all_goals cases h
      · cases h
    · cases h
theorem isBox_at {m : Nat} : ∀ {L : List Ch}, isBox m L = true → ∃ i cs, L[i]? = some (.box m cs) ∧ boxOf m L = some cs ∧ ∀ cs', setBox m cs' L = L.set i (.box m cs')
  | [], h => by cases h
  | x :: L, h => by
    have ih : isBox m L = true → boxOf m (x :: L) = boxOf m L → (∀ cs', setBox m cs' (x :: L) = x :: setBox m cs' L) → ∃ i cs, (x :: L)[i]? = some (.box m cs) ∧ boxOf m (x :: L) = some cs ∧ ∀ cs', setBox m cs' (x :: L) = (x :: L).set i (.box m cs') := fun h h2 h3 => by
      obtain ⟨i, cs, g1, g2, g3⟩ := isBox_at h
      exact ⟨i + 1, cs, by simpa using g1, by rw [h2, g2], fun cs' => by rw [h3, g3]; rfl⟩
    cases x with
    | box k cs =>
      simp only [isBox] at h
      split at h
      · rename_i hb
        have := Nat.eq_of_beq_eq_true hb
        subst this
        exact ⟨0, cs, rfl, by simp only [boxOf, hb], fun cs' => by simp only [setBox, hb]; rfl⟩
      · rename_i hb
        exact ih h (by simp only [boxOf, hb]) (fun cs' => by simp only [setBox, hb])
    | ro k cs =>
      simp only [isBox] at h
      split at h
      · cases h
      · rename_i hb
        exact ih h (by simp only [boxOf, hb]) (fun cs' => by simp only [setBox])
    | o ch => exact ih h rfl (fun _ => rfl)
    | f g => exact ih h rfl (fun _ => rfl)
    | no => exact ih h rfl (fun _ => rfl)
    | w k b z => exact ih h rfl (fun _ => rfl)
theorem storeS_ok (hT : TOk P T) (hA : AEnvS n B e a) (hS : StS c w B L) {t : TypeId} {p v : SV} {L' : List Ch} (ho : o.op = .store t x y) (hx : evS e x = some p) (hy : evS e y = some v) (h : storeS T t p v L = some L') : ∃ w', RunS P o (vE B e) w w' ∧ StS c w' B L' := by
  unfold storeS at h
  split at h
  · rename_i m j
    split at h
    · rename_i hb
      split at h
      · rename_i cs _ _ sz _ h1 h2
        split at h
        · rename_i h3 h4 h5
          split at h
          case h_2 => cases h
          rename_i ds hds
          have h4 := Nat.eq_of_beq_eq_true h4
          have h5 := Nat.le_of_ble_eq_true h5
          have := frc_eq hds
          rw [ovw_eq _ _ _ (by omega)] at this
          subst this
          split at h
          case h_2 => cases h
          rename_i L2 hL2
          cases h
          have := frc_eq hL2
          subst this
          obtain ⟨i, cs', g1, g2, g3⟩ := isBox_at hb
          rw [h1] at g2; cases g2
          obtain ⟨pv, hp1, hp2⟩ := evS_ok hA hx
          obtain ⟨u, hu1, hu2⟩ := evS_ok hA hy
          obtain ⟨vs, hv⟩ := isCells_ok h3 hu1
          obtain ⟨b, z, rs, k1, k2, _⟩ := hS.cells h1
          simp only [toV, gV, cellV, k1] at hp1
          cases hp1
          have hl := mapO_len hv
          have hl2 := mapO_len k2
          obtain ⟨⟨R, s1, s2⟩, s0⟩ := hS
          have hlt := (List.getElem?_eq_some_iff.1 g1).1
          have gi : (L.map (chd B))[i]? = some (boxC B m cs) := by rw [List.getElem?_map, g1]; rfl
          have s3 : St c w ((L.map (chd B)).set i (cAt b z rs)) R := s1.imp (ImpL.put i gi fun F ⟨b', z', vs', q1, q2, q3⟩ => by
            rw [k1] at q1; cases q1; rw [k2] at q2; cases q2; exact q3)
          obtain ⟨w2, r1, r2⟩ := rs_at (P := P) (o := o) (e := vE B e) (b := b) (q := z) (cs := rs) (vs := vs) (j := j) (m := sz) s3 (i := i) (by rw [List.getElem?_set_self (by simpa using hlt)]) ho hp2 hu2 (cellsS_ok hu1 hv) (hT.size _ _ h2) (by omega) (Nat.ble_eq_true_of_le (by omega)) (List.all_eq_true.2 fun q hq => by
            obtain ⟨k, hk⟩ := List.getElem?_of_mem hq
            have hk2 : k < (cellsS v).length := by rw [← hl]; exact (List.getElem?_eq_some_iff.1 hk).1
            obtain ⟨q', hq1, hq2⟩ := mapO_get hv (List.getElem?_eq_getElem hk2)
            rw [hk] at hq2; cases hq2
            exact cell_one hq1)
          refine ⟨w2, r1, ⟨⟨R, ?_, ?_⟩, s0⟩⟩
          · rw [List.set_set] at r2
            rw [g3, List.map_set]
            exact r2.imp (ImpL.set i (ImpL.refl _) fun F hF => ⟨b, z, _, k1, mapO_put j k2 hv, hF⟩)
          · rw [g3]
            intro q hq
            rcases List.mem_or_eq_of_mem_set hq with hq | hq
            · exact s2 q hq
            · subst hq; trivial
        · cases h
      · cases h
    · cases h
  · cases h
theorem StS.box (hS : StS c w B L) {w' : World} {b : Nat} {cs : List SV} {vs : List Value} (hc : mapO (cellV B) cs = some vs) (h : ∀ M R, St c w M R → St c w' (M ++ [cBox b vs]) R) : StS c w' (B ++ [(b, 0)]) (L ++ [.box B.length cs]) := by
  obtain ⟨⟨R, s1, s2⟩, s0⟩ := hS
  refine ⟨⟨R, ?_, ?_⟩, s0⟩
  · rw [List.map_append]
    refine (h _ _ s1).imp (ImpL.append (imp_app _ L) (.cons (fun F hF => ⟨b, 0, vs, by simp, mapO_mono (fun _ _ => cellV_app _) hc, hF⟩) .nil))
  · intro q hq
    rcases List.mem_append.1 hq with hq | hq
    · exact roF_app _ (s2 q hq)
    · simp at hq; subst hq; trivial
theorem alloc_ok (hT : TOk P T) (hS : StS c w B L) {t : TypeId} {i : TI} {E : Env} (ho : o.op = .alloc t) (h : lkT T t = some i) : ∃ v w' b, RunV P o E w v w' ∧ v = .pointer (some ⟨b, 0, none⟩) ∧ StS c w' (B ++ [(b, 0)]) (L ++ [.box B.length i.z]) := by
  obtain ⟨z, hz, hzc⟩ := hT.zero _ _ h
  have hzc' : mapO (cellV B) i.z = some z.cells.toList := mapO_mono (fun x v h => by simpa using cellV_app (B := []) B h) hzc
  refine ⟨_, _, w.heap.size, fun _ a hA => ?_, rfl, hS.box hzc' fun M R hM => hM.alloc z.cells.toList t⟩
  simp [execOp, ho, Instr.alloc, hz, newVar, newRow]
theorem box_ok (hA : AEnvS n B e a) (hS : StS c w B L) {t : TypeId} {v : SV} (ho : o.op = .box t x) (h : evS e x = some v) (hc : isCells v = true) : ∃ u w' b, RunV P o (vE B e) w u w' ∧ u = .pointer (some ⟨b, 0, none⟩) ∧ StS c w' (B ++ [(b, 0)]) (L ++ [.box B.length (cellsS v)]) := by
  obtain ⟨u, h1, h2⟩ := evS_ok hA h
  obtain ⟨vs, h3⟩ := isCells_ok hc h1
  have h4 := cellsS_ok h1 h3
  subst h4
  refine ⟨_, _, w.heap.size, fun _ a hA => ?_, rfl, hS.box h3 fun M R hM => hM.alloc u.cells.toList t⟩
  simp [execOp, ho, Instr.box, hA.eval h2, newVar, newRow]
end
structure Gx where
  P : Program
  T : TT
  hT : TOk P T
  n : Nat
  c : Ctx
  B0 : Bl
  N : Act → World → Prop
  X : Nat → Act → World → Prop
  Q : Act → World → Prop
abbrev Rel (g : Gx) (m : Nat) (e : SE) (L : List Ch) (a : Act) (w : World) : Prop := RelN g.n g.c g.B0 m e L a w
mutual
def NK (g : Gx) : List Fr → Act → World → Prop
  | [] => g.N
  | .s y :: K => fun a w => CW g.P y (NK g K) (XK g K) g.Q a w
  | .k _ :: K => NK g K
def XK (g : Gx) : List Fr → Nat → Act → World → Prop
  | [] => g.X
  | .s _ :: K => XK g K
  | .k id :: K => xcons id (NK g K) (XK g K)
end
structure DInv (g : Gx) (B1 : Bl) (ops : Array Oper) (l : List Bool) (is : List Nat) (Lf L : List Ch) : Prop where
  pre : ∃ B, B1 = g.B0 ++ B
  len : l.length = ops.size
  free : freeA ops = true
  frz : kl L is = Lf
  rng : ∀ j ∈ is, j < L.length
  okf : okL B1.length Lf = true
  ap : apartB is = true
abbrev Sd (g : Gx) (B1 : Bl) (Lf : List Ch) : World → Prop := fun w => StS g.c w B1 Lf
def RelD (g : Gx) (B1 : Bl) (Lf Lv : List Ch) (m : Nat) (e : SE) (L : List Ch) (a : Act) (w : World) : Prop := ∃ B, (B1 ++ B).length = m ∧ AEnvS g.n (B1 ++ B) e a ∧ StS g.c w (B1 ++ B) L ∧ ∀ w', StS g.c w' B1 Lf → StS g.c w' (B1 ++ B) Lv
def G (g : Gx) (K : List Fr) (m : Nat) (e : SE) (L : List Ch) : Cfg → Prop
  | .n => ∀ a w, Rel g m e L a w → NK g K a w
  | .c x => ∀ a w, Rel g m e L a w → CW g.P x (NK g K) (XK g K) g.Q a w
  | .r ops l => ∀ a w, Rel g m e L a w → wpList g.P ops (mkQ (NK g K) (XK g K) g.Q) l a w
  | .d B1 ops l is Lf Lv => DInv g B1 ops l is Lf L → ∀ a w, RelD g B1 Lf Lv m e L a w → wpAnyH g.P .any ops (mkQ (NK g K) (XK g K) g.Q) (Sd g B1 Lf) (l.count false) l.toArray a w
  | .o B1 ops l is Lf Lv i => DInv g B1 ops l is Lf L → ∀ a w, RelD g B1 Lf Lv m e L a w → wpOp g.P ops (mkQ (NK g K) (XK g K) g.Q) i (fun a' w' => Sd g B1 Lf w' ∧ wpAnyH g.P .any ops (mkQ (NK g K) (XK g K) g.Q) (Sd g B1 Lf) ((l.set i true).count false) (l.set i true).toArray a' w') a w
def B0S (g : Gx) : Cfg → Bl
  | .d B1 _ _ _ _ _ => B1
  | .o B1 _ _ _ _ _ _ => B1
  | _ => g.B0
def Frz (g : Gx) (cf : Cfg) (L L' : List Ch) : Prop := match cf with
  | .d B1 ops l is Lf _ => DInv g B1 ops l is Lf L → kl L' is = Lf ∧ ∀ j ∈ is, j < L'.length
  | .o B1 ops l is Lf _ _ => DInv g B1 ops l is Lf L → kl L' is = Lf ∧ ∀ j ∈ is, j < L'.length
  | _ => True
def PStep (g : Gx) (K : List Fr) (m : Nat) (e : SE) (L : List Ch) (o : Oper) (Lv : List Ch) (cf cf' : Cfg) : Prop :=
  ∀ (d : Nat) (x : SV) (Ln : List Ch) (nb : World → Bl) (k : Nat), o.dst = some d → (∀ w, (nb w).length = k) →
    (∀ B a w, AEnvS g.n B e a → StS g.c w B Lv → B.length = m → ∃ v, toV (B ++ nb g.c.w0) x = some v ∧ RunV g.P o (vE B e) w v w) →
    (∀ B w L, B.length = m → StS g.c w B L → StS g.c w (B ++ nb g.c.w0) (L ++ Ln)) →
    G g K (m + k) ((d, x) :: e) (L ++ Ln) (cf'.ext Ln) → G g K m e L cf
def EStep (g : Gx) (K : List Fr) (m : Nat) (e : SE) (L : List Ch) (o : Oper) (cf cf' : Cfg) : Prop :=
  ∀ (ι : Type) (m' : ι → Nat) (e' : ι → SE) (L' : ι → List Ch), (∀ i, Frz g cf L (L' i)) →
    (∀ B a w (next : Act → World → Prop) (Q : Exit → Act → World → Prop), (B0S g cf ++ B).length = m → AEnvS g.n (B0S g cf ++ B) e a → StS g.c w (B0S g cf ++ B) L → (∀ i a' w', RelN g.n g.c (B0S g cf ++ B) (m' i) (e' i) (L' i) a' w' → next a' w') → o.wp g.P a w next Q) →
    (∀ i, G g K (m' i) (e' i) (L' i) cf') → G g K m e L cf
def Gs (g : Gx) : Stop → Prop
  | .ret m e L => ∀ a w, Rel g m e L a w → g.Q a w
  | .fin m e L => ∀ a w, Rel g m e L a w → g.N a w
  | .ex id m e L => ∀ a w, Rel g m e L a w → g.X id a w
  | .cond o b x y K m e L => evS e o = some (.b b) → G g K m e L (.c (.cond o x y))
  | .case _ cf K m e L => G g K m e L cf
  | .loop id y K m e L => G g K m e L (.c (.block id (.loop y)))
  | .idx o d t s n i Lv cf cf' K m e L => (∀ x y, o.op = .indexAddr t x y → o.dst = some d → evS e x = some (.h s n) → evS e y = some (.i .i64 i) → PStep g K m e L o Lv cf cf' → G g K m e L cf)
  | .call o d f xs cf cf' K m e L => (∀ fo args ats, o.op = .call { callee := .value fo, args := args, argTypes := ats } → o.dst = d → evS e fo = some (.f f []) → (∃ ys, mapO (evS e) args.toList = some ys ∧ nbA ys = xs) → okA xs = true → dstOk g.n d = true → EStep g K m e L o cf cf' → G g K m e L cf)
  | .callp o d f xs cf cf' K m e L => (∀ fo args ats, o.op = .call { callee := .value fo, args := args, argTypes := ats } → o.dst = d → evS e fo = some (.f f []) → (∃ ys, mapO (evS e) args.toList = some ys ∧ nbA ys = xs) → dstOk g.n d = true → EStep g K m e L o cf cf' → G g K m e L cf)
  | .op o Lv cf cf' K m e L => dstOk g.n o.dst = true → PStep g K m e L o Lv cf cf' → EStep g K m e L o cf cf' → G g K m e L cf
  | .opp o Lv cf cf' K m e L => dstOk g.n o.dst = true → PStep g K m e L o Lv cf cf' → G g K m e L cf
  | .rgn id ops K m e L => G g K m e L (.c (.region id ops true))
  | .alt cf K m e L => G g K m e L cf
  | .stuck => False
section
variable {g : Gx} {K : List Fr} {m : Nat} {e : SE} {L : List Ch}
theorem pop_N {a : Act} {w : World} : ∀ {K : List Fr}, (match pop K with | some (y, K') => CW g.P y (NK g K') (XK g K') g.Q a w | none => g.N a w) → NK g K a w
  | [], h => by simpa [pop, NK] using h
  | .s y :: K, h => by simpa [pop, NK] using h
  | .k _ :: K, h => by
    have : NK g K a w := pop_N (by simpa [pop] using h)
    simpa [NK] using this
theorem xit_X {a : Act} {w : World} {id : Nat} : ∀ {K : List Fr}, (match xit id K with | some K' => NK g K' a w | none => g.X id a w) → XK g K id a w
  | [], h => by simpa [xit, XK] using h
  | .s y :: K, h => by
    have : XK g K id a w := xit_X (by simpa [xit] using h)
    simpa [XK] using this
  | .k j :: K, h => by
    simp only [xit] at h
    simp only [XK, xcons]
    cases hb : Nat.beq id j with
    | true =>
      rw [hb] at h
      rw [if_pos (Nat.eq_of_beq_eq_true hb)]; exact h
    | false =>
      rw [hb] at h
      rw [if_neg (fun e => by rw [e] at hb; simp at hb)]
      exact xit_X h
theorem pop_G {F : Nat} (ih : ∀ K c m e L, Gs g (stp g.T g.n F K c m e L) → G g K m e L c) (h : Gs g (match pop K with | some (y, K') => stp g.T g.n F K' (.c y) m e L | none => .fin m e L)) : ∀ a w, Rel g m e L a w → NK g K a w := fun a w hr => by
  refine pop_N ?_
  split
  · rename_i y K' hp
    rw [hp] at h
    exact ih _ _ _ _ _ h a w hr
  · rename_i hp
    rw [hp] at h
    exact h a w hr
theorem AEnvS.ext {n : Nat} {B nb : Bl} {a a' : Act} {d : Nat} {x : SV} {v : Value} (hA : AEnvS n B e a) (hx : toV (B ++ nb) x = some v) (hA' : AEnv n ((d, v) :: vE B e) a') : AEnvS n (B ++ nb) ((d, x) :: e) a' := by
  refine (hA.app nb).of hx ⟨hA'.d, hA'.size, fun k u hk => ?_⟩
  simp only [lk] at hk
  cases hb : Nat.beq k d with
  | true => rw [hb] at hk; exact hA'.get k u (by simp only [lk, hb]; exact hk)
  | false =>
    rw [hb] at hk
    obtain ⟨y, h2, h3⟩ := lk_vE hk
    obtain ⟨u2, h4, h5⟩ := hA.get k y h2
    rw [toV_app nb h4] at h3
    refine hA'.get k u ?_
    simp only [lk, hb]
    rw [vE_lk h2, h4]; simpa using h3.symm
theorem pstep_r {ops : Array Oper} {l : List Oper} {o : Oper} (hg : guardS ops e o.guard = .yes) (hd : dstOk g.n o.dst = true) : PStep g K m e L o L (.r ops (o :: l)) (.r ops l) := by
  intro d x Ln nb k hdst hk hv hs hG a w ⟨B, hm, hA, hS⟩
  obtain ⟨v, h1, h2⟩ := hv _ a w hA hS hm
  rw [hdst] at hd
  refine ops_v h2 (gd_yes hg) hdst hd (fun a' hA' => hG a' w ⟨B ++ nb g.c.w0, ?_, ?_, ?_⟩) a hA.env
  · rw [← List.append_assoc, List.length_append, hm, hk]
  · rw [← List.append_assoc]; exact hA.ext h1 hA'
  · rw [← List.append_assoc]; exact hs _ w _ hm hS
theorem estep_r {ops : Array Oper} {l : List Oper} {o : Oper} (hg : guardS ops e o.guard = .yes) : EStep g K m e L o (.r ops (o :: l)) (.r ops l) := by
  intro ι m' e' L' _ hrun hG a w hr
  have ⟨B, hm, hA, hS⟩ := hr
  refine wpList_step fun K' hK => ?_
  rw [gd_yes hg _ a hA.env, if_pos rfl]
  exact hrun B a w K' _ hm hA hS (fun i a' w' ⟨B', h1, h2, h3⟩ => hK a' w' (hG i a' w' ⟨B ++ B', by rw [← List.append_assoc]; exact h1, by rw [← List.append_assoc]; exact h2, by rw [← List.append_assoc]; exact h3⟩))
theorem DInv.S {B1 : Bl} {ops : Array Oper} {l : List Bool} {is : List Nat} {Lf : List Ch} (h : DInv g B1 ops l is Lf L) {w : World} {B : Bl} (hS : StS g.c w (B1 ++ B) L) : StS g.c w B1 Lf := by
  have h1 := kl_sel hS is h.ap
  rw [h.frz] at h1
  have h2 := take_ok h1 h.okf
  rwa [List.take_append_of_le_length (Nat.le_refl _), List.take_length] at h2
theorem bnd_eq {d : Edge} : Region.binds .any d = bndG d.ground := by
  cases d with
  | mk on g => cases g <;> rfl
theorem rdyE_ok {l : List Bool} : ∀ {es : List Edge}, rdyE l es = true ↔ ∀ d ∈ es, Region.binds .any d = true → l[d.on]? = some true
  | [] => by simp [rdyE]
  | ⟨on, gr⟩ :: r => by
    have ih := rdyE_ok (l := l) (es := r)
    simp only [rdyE, List.mem_cons, forall_eq_or_imp, bnd_eq]
    cases hb : bndG gr with
    | true =>
      simp only
      split
      · rename_i h1; rw [ih]; simp [h1, bnd_eq]
      · rename_i h1
        constructor
        · intro h; cases h
        · intro h; exact absurd (h.1 trivial) (by simpa using h1)
    | false => simp only; rw [ih]; simp [bnd_eq]
theorem ready_iff {ops : Array Oper} {l : List Bool} (hl : l.length = ops.size) {j : Nat} : j ∈ Region.ready .any ops l.toArray ↔ l[j]? = some false ∧ ∃ o, ops.toList[j]? = some o ∧ rdyE l o.after.toList = true := by
  rw [mem_ready]
  have h1 : (l.toArray.getD j true = false) ↔ l[j]? = some false := by
    rw [Array.getD_eq_getD_getElem?, List.getElem?_toArray]
    cases l[j]? <;> simp
  rw [h1]
  refine and_congr_right fun _ => ?_
  constructor
  · rintro ⟨o, h2, h3⟩
    refine ⟨o, by simpa using h2, rdyE_ok.2 fun d hd hb => ?_⟩
    have := h3 d (by simpa using hd) hb
    rw [Array.getD_eq_getD_getElem?, List.getElem?_toArray] at this
    cases hx : l[d.on]? with
    | none => rw [hx] at this; cases this
    | some b => rw [hx] at this; simp at this; rw [this]
  · rintro ⟨o, h2, h3⟩
    refine ⟨o, by simpa using h2, fun d hd hb => ?_⟩
    have := rdyE_ok.1 h3 d (by simpa using hd) hb
    rw [Array.getD_eq_getD_getElem?, List.getElem?_toArray, this]; rfl
theorem edgeTo_ok {i : Nat} : ∀ {es : List Edge}, edgeTo i es = true ↔ ∃ d ∈ es, Region.binds .any d = true ∧ d.on = i
  | [] => by simp [edgeTo]
  | ⟨on, gr⟩ :: r => by
    have ih := edgeTo_ok (i := i) (es := r)
    simp only [edgeTo, List.mem_cons, exists_eq_or_imp, bnd_eq]
    cases hb : bndG gr with
    | true =>
      simp only
      cases hi : Nat.beq on i with
      | true => simp [Nat.eq_of_beq_eq_true hi]
      | false =>
        simp only
        have hne : on ≠ i := fun h => by rw [h] at hi; simp at hi
        rw [ih]; simp [hne, bnd_eq]
    | false => simp only; rw [ih]; simp [bnd_eq]
theorem free_ok {ops : Array Oper} {l : List Bool} (hl : l.length = ops.size) (hf : freeA ops = true) {i : Nat} {o : Oper} (ho : ops.toList[i]? = some o) (hr : rdyE l o.after.toList = true) : Region.noSelect ops = true ∧ Region.free .any ops l.toArray i = true := by
  unfold freeA at hf
  rw [Bool.and_eq_true, List.all_eq_true] at hf
  refine ⟨hf.1, ?_⟩
  unfold Region.free
  have hoi : ops[i]? = some o := by simpa using ho
  rw [hoi]
  simp only [List.all_eq_true, List.mem_range]
  intro j hj
  have hoj : ops[j]? = some ops[j] := by simp [hj]
  rw [hoj]
  simp only [Bool.or_eq_true, beq_iff_eq]
  by_cases hji : j = i
  · exact .inl (.inl hji)
  · have h1 := hf.2 (o, i) (List.mk_mem_zipIdx_iff_getElem?.2 ho)
    rw [List.all_eq_true] at h1
    have h2 := h1 (ops[j], j) (List.mk_mem_zipIdx_iff_getElem?.2 (by simp [hj]))
    simp only [Bool.or_eq_true] at h2
    rcases h2 with ((h2 | h2) | h2) | h2
    · exact absurd (Nat.eq_of_beq_eq_true h2).symm hji
    · obtain ⟨d, hd, hb, he⟩ := edgeTo_ok.1 h2
      refine .inr (.inl ?_)
      rw [← Array.any_toList, List.any_eq_true]
      exact ⟨d, hd, by simp [hb, he]⟩
    · obtain ⟨d, hd, hb, he⟩ := edgeTo_ok.1 h2
      have := rdyE_ok.1 hr d hd hb
      rw [he] at this
      refine .inl (.inr ?_)
      rw [Array.getD_eq_getD_getElem?, List.getElem?_toArray, this]; rfl
    · exact .inr (.inr h2)
theorem count_set {l : List Bool} : ∀ {i : Nat}, l[i]? = some false → l.count false = (l.set i true).count false + 1 := by
  induction l with
  | nil => intro i h; simp at h
  | cons b l ih =>
    intro i h
    cases i with
    | zero => simp at h; subst h; simp
    | succ i =>
      have := ih (i := i) (by simpa using h)
      simp only [List.set_cons_succ, List.count_cons]
      omega
theorem d_take {B1 : Bl} {ops : Array Oper} {l : List Bool} {is : List Nat} {Lf : List Ch} {i : Nat} {o : Oper} {d : Nat} {v : Value} {a : Act} {w : World} {B : Bl} (hD : DInv g B1 ops l is Lf L) (ho : ops.toList[i]? = some o) (hl : l[i]? = some false) (hr : rdyE l o.after.toList = true) (hdst : o.dst = some d) (hdn : Nat.blt d g.n = true) (hA : AEnvS g.n (B1 ++ B) e a) (hS : StS g.c w (B1 ++ B) L)
    (hy : (Want ops o (vE (B1 ++ B) e) true ∧ ∀ w', Sd g B1 Lf w' → RunV g.P o (vE (B1 ++ B) e) w' v w') ∨ (Want ops o (vE (B1 ++ B) e) false ∧ v = undef))
    (k : ∀ a', AEnv g.n ((d, v) :: vE (B1 ++ B) e) a' → wpAnyH g.P .any ops (mkQ (NK g K) (XK g K) g.Q) (Sd g B1 Lf) ((l.set i true).count false) (l.set i true).toArray a' w) : wpAnyH g.P .any ops (mkQ (NK g K) (XK g K) g.Q) (Sd g B1 Lf) (l.count false) l.toArray a w := by
  obtain ⟨f1, f2⟩ := free_ok hD.len hD.free ho hr
  rw [count_set hl]
  refine wpAnyH_take (v := v) (by simpa using ho) f1 f2 (by simpa using (ready_iff hD.len).2 ⟨hl, o, ho, hr⟩) (fun _ _ _ h => h.elim) ?_ (hD.S hS) ?_
  · rcases hy with ⟨h1, h2⟩ | ⟨h1, h2⟩
    · exact .inl ⟨h1 _ a hA.env, fun w' hS' => h2 w' hS' _ a hA.env⟩
    · exact .inr ⟨h1 _ a hA.env, h2⟩
  · rw [hdst]
    have := k _ (hA.env.put (by simpa [Nat.blt_eq] using hdn) v)
    simpa using this
theorem DInv.set {B1 : Bl} {ops : Array Oper} {l : List Bool} {is : List Nat} {Lf L' : List Ch} (h : DInv g B1 ops l is Lf L) (i : Nat) (hz : kl L' is = Lf ∧ ∀ j ∈ is, j < L'.length) : DInv g B1 ops (l.set i true) is Lf L' :=
  ⟨h.pre, by simpa using h.len, h.free, hz.1, hz.2, h.okf, h.ap⟩
theorem kl_app {L Ln : List Ch} : ∀ {is : List Nat}, (∀ j ∈ is, j < L.length) → kl (L ++ Ln) is = kl L is
  | [], _ => rfl
  | i :: is, h => by
    simp only [kl, List.getElem?_append_left (h i (by simp)), kl_app (fun j hj => h j (List.mem_cons_of_mem _ hj))]
theorem DInv.frzApp {B1 : Bl} {ops : Array Oper} {l : List Bool} {is : List Nat} {Lf : List Ch} (h : DInv g B1 ops l is Lf L) (Ln : List Ch) : kl (L ++ Ln) is = Lf ∧ ∀ j ∈ is, j < (L ++ Ln).length :=
  ⟨by rw [kl_app h.rng]; exact h.frz, fun j hj => by have := h.rng j hj; simp; omega⟩
theorem pstep_d {B1 : Bl} {ops : Array Oper} {l : List Bool} {is : List Nat} {Lf Lv : List Ch} {i : Nat} {o : Oper} (ho : ops.toList[i]? = some o) (hl : l[i]? = some false) (hr : rdyE l o.after.toList = true) (hg : guardS ops e o.guard = .yes) (hd : dstOk g.n o.dst = true) : PStep g K m e L o Lv (.d B1 ops l is Lf Lv) (.d B1 ops (l.set i true) is Lf Lv) := by
  intro d x Ln nb k hdst hk hv hs hG hD a w ⟨B, hm, hA, hS, hV⟩
  rw [hdst] at hd
  obtain ⟨v, h1, h2⟩ := hv _ a w hA (hV w (hD.S hS)) hm
  refine d_take (v := v) hD ho hl hr hdst hd hA hS (.inl ⟨gd_yes hg, fun w' hS' => ?_⟩) fun a' hA' => ?_
  · obtain ⟨v', h3, h4⟩ := hv _ a w' hA (hV w' hS') hm
    rw [h1] at h3; cases h3; exact h4
  · refine hG (hD.set i (hD.frzApp Ln)) a' w ⟨B ++ nb g.c.w0, ?_, ?_, ?_, fun w' hS' => ?_⟩
    · rw [← List.append_assoc, List.length_append, hm, hk]
    · rw [← List.append_assoc]; exact hA.ext h1 hA'
    · rw [← List.append_assoc]; exact hs _ w _ hm hS
    · rw [← List.append_assoc]; exact hs _ w' _ hm (hV w' hS')
theorem onlyR_ok {l : List Bool} {i : Nat} : ∀ {os : List Oper} {j0 : Nat}, onlyR l i os j0 = true → ∀ j o, os[j]? = some o → l[j0 + j]? = some false → (rdyE l o.after.toList = true ↔ j0 + j = i)
  | [], _, _, j, o, h, _ => by simp at h
  | p :: os, j0, h, j, o, hj, hl => by
    simp only [onlyR] at h
    cases j with
    | zero =>
      simp at hj; subst hj
      simp only [Nat.add_zero] at hl ⊢
      rw [hl] at h
      simp only at h
      cases hb : Nat.beq j0 i with
      | true =>
        rw [hb] at h; simp only at h
        split at h
        · rename_i hr; simp [hr, Nat.eq_of_beq_eq_true hb]
        · cases h
      | false =>
        rw [hb] at h; simp only at h
        have hne : j0 ≠ i := fun h => by rw [h] at hb; simp at hb
        split at h
        · cases h
        · rename_i hr; simp [hr, hne]
    | succ j =>
      have h' : onlyR l i os (j0 + 1) = true := by
        split at h
        · split at h
          · split at h
            · exact h
            · cases h
          · split at h
            · cases h
            · exact h
        · exact h
        · cases h
      have := onlyR_ok h' j o (by simpa using hj) (by rw [show j0 + 1 + j = j0 + (j + 1) from by omega]; exact hl)
      rw [this]; omega
theorem estep_o {B1 : Bl} {ops : Array Oper} {l : List Bool} {is : List Nat} {Lf Lv : List Ch} {i : Nat} {o : Oper} (ho : ops.toList[i]? = some o) (hg : guardS ops e o.guard = .yes) : EStep g K m e L o (.o B1 ops l is Lf Lv i) (.d B1 ops (l.set i true) is Lf Lv) := by
  intro ι m' e' L' hz hrun hG hD a w hr
  have ⟨B, hm, hA, hS, hV⟩ := hr
  unfold wpOp
  have hoi : ops[i]? = some o := by simpa using ho
  simp only [hoi, gd_yes hg _ a hA.env, if_true]
  refine .inl (hrun B a w _ _ hm hA hS fun j a' w' h => ?_)
  have hD' := hD.set i (hz j hD)
  obtain ⟨B', q1, q2, q3⟩ := h
  refine ⟨?_, ?_⟩
  · refine hD'.S (B := B ++ B') ?_
    rw [← List.append_assoc]; exact q3
  · have := hG j hD' a' w' ⟨B ++ B', by rw [← List.append_assoc]; exact q1, by rw [← List.append_assoc]; exact q2, by rw [← List.append_assoc]; exact q3, fun w2 h2 => by rw [← List.append_assoc]; exact (hV w2 h2).app B'⟩
    simpa using this
theorem pstep_o {B1 : Bl} {ops : Array Oper} {l : List Bool} {is : List Nat} {Lf Lv : List Ch} {i : Nat} {o : Oper} (ho : ops.toList[i]? = some o) (hg : guardS ops e o.guard = .yes) (hd : dstOk g.n o.dst = true) : PStep g K m e L o Lv (.o B1 ops l is Lf Lv i) (.d B1 ops (l.set i true) is Lf Lv) := by
  intro d x Ln nb k hdst hk hv hs hG hD a w ⟨B, hm, hA, hS, hV⟩
  rw [hdst] at hd
  obtain ⟨v, h1, h2⟩ := hv _ a w hA (hV w (hD.S hS)) hm
  unfold wpOp
  have hoi : ops[i]? = some o := by simpa using ho
  simp only [hoi, gd_yes hg _ a hA.env, if_true]
  refine .inl ?_
  unfold Oper.wp
  rw [h2 _ a hA.env, Oper.upon_value, hdst]
  have hA' := hA.env.put (show d < g.n by simpa [dstOk, Nat.blt_eq] using hd) v
  refine ⟨hD.S hS, hG (hD.set i (hD.frzApp Ln)) _ w ⟨B ++ nb g.c.w0, ?_, ?_, ?_, fun w' hS' => ?_⟩⟩
  · rw [← List.append_assoc, List.length_append, hm, hk]
  · rw [← List.append_assoc]; exact hA.ext h1 hA'
  · rw [← List.append_assoc]; exact hs _ w _ hm hS
  · rw [← List.append_assoc]; exact hs _ w' _ hm (hV w' hS')
theorem readyA_ok {l : List Bool} {j : Nat} : ∀ {os : List Oper} {j0 : Nat} {o : Oper}, os[j]? = some o → l[j0 + j]? = some false → rdyE l o.after.toList = true → j0 + j ∈ readyA l os j0 := by
  intro os
  induction os generalizing j with
  | nil => intro j0 o h; simp at h
  | cons p os ih =>
    intro j0 o h hl hr
    cases j with
    | zero =>
      simp at h; subst h
      simp only [Nat.add_zero] at hl ⊢
      simp [readyA, hl, hr]
    | succ j =>
      have h2 := ih (j := j) (j0 := j0 + 1) (o := o) (by simpa using h) (by rw [show j0 + 1 + j = j0 + (j + 1) by omega]; exact hl) hr
      rw [show j0 + 1 + j = j0 + (j + 1) by omega] at h2
      simp only [readyA]
      split
      · split
        · exact List.mem_cons_of_mem _ h2
        · exact h2
      · exact h2
theorem d_any {B1 : Bl} {ops : Array Oper} {l : List Bool} {is : List Nat} {Lf Lv : List Ch} (hex : ∃ i, i ∈ readyA l ops.toList 0) (h : ∀ i ∈ readyA l ops.toList 0, G g K m e L (.o B1 ops l is Lf Lv i)) (hok : ∀ i ∈ readyA l ops.toList 0, l[i]? = some false ∧ ∃ o, ops.toList[i]? = some o ∧ rdyE l o.after.toList = true) : G g K m e L (.d B1 ops l is Lf Lv) := by
  intro hD a w hr
  obtain ⟨i0, hi0⟩ := hex
  obtain ⟨q1, q2⟩ := hok i0 hi0
  have hm : i0 ∈ Region.ready .any ops l.toArray := (ready_iff hD.len).2 ⟨q1, q2⟩
  rw [count_set q1]
  refine ⟨fun h => (by rw [h] at hm; cases hm), fun j hj => ?_⟩
  obtain ⟨h1, p, h2, h3⟩ := (ready_iff hD.len).1 hj
  have h4 := readyA_ok (j0 := 0) h2 (by simpa using h1) h3
  rw [Nat.zero_add] at h4
  have h5 := h j h4 hD a w hr
  have h6 : (l.set i0 true).count false = (l.set j true).count false := by
    have := count_set q1
    have := count_set h1
    omega
  rw [h6]
  simpa using h5
theorem readyA_mem {l : List Bool} {i : Nat} : ∀ {os : List Oper} {j0 : Nat}, i ∈ readyA l os j0 → l[i]? = some false ∧ ∃ j o, os[j]? = some o ∧ j0 + j = i ∧ rdyE l o.after.toList = true := by
  intro os
  induction os with
  | nil => intro j0 h; cases h
  | cons p os ih =>
    intro j0 h
    have tail : i ∈ readyA l os (j0 + 1) → l[i]? = some false ∧ ∃ j o, (p :: os)[j]? = some o ∧ j0 + j = i ∧ rdyE l o.after.toList = true := fun h => by
      obtain ⟨h1, j, o, h2, h3, h4⟩ := ih h
      exact ⟨h1, j + 1, o, by simpa using h2, by omega, h4⟩
    simp only [readyA] at h
    split at h
    · rename_i hl
      split at h
      · rename_i hr
        rcases List.mem_cons.1 h with h | h
        · subst h; exact ⟨hl, 0, p, rfl, by omega, hr⟩
        · exact tail h
      · exact tail h
    · exact tail h
theorem d_alt {B1 : Bl} {ops : Array Oper} {l : List Bool} {is : List Nat} {Lf Lv : List Ch} {i0 : Nat} {r : List Nat} (hr : readyA l ops.toList 0 = i0 :: r) (h : ∀ i ∈ i0 :: r, G g K m e L (.o B1 ops l is Lf Lv i)) : G g K m e L (.d B1 ops l is Lf Lv) :=
  d_any ⟨i0, by rw [hr]; simp⟩ (fun i hi => h i (by rw [← hr]; exact hi)) fun i hi => by
    obtain ⟨h1, j, o, h2, h3, h4⟩ := readyA_mem hi
    rw [Nat.zero_add] at h3; subst h3
    exact ⟨h1, o, h2, h4⟩
theorem onlyR_A {l : List Bool} {i : Nat} {ops : Array Oper} (h : onlyR l i ops.toList 0 = true) : ∀ j ∈ readyA l ops.toList 0, j = i := fun j hj => by
  obtain ⟨h1, k, o, h2, h3, h4⟩ := readyA_mem hj
  rw [Nat.zero_add] at h3; subst h3
  have := (onlyR_ok h k o h2 (by simpa using h1)).1 h4
  simpa using this
def PsG (g : Gx) (K : List Fr) (m : Nat) (L : List Ch) (B1 : Bl) (ops : Array Oper) (is : List Nat) (Lf Lv : List Ch) : Ps → Prop
  | .bad => False
  | .ask _ l e => G g K m e L (.d B1 ops l is Lf Lv)
  | .pur j o l e => ops.toList[j]? = some o → l[j]? = some false → rdyE l o.after.toList = true → guardS ops e o.guard = .yes → G g K m e L (.d B1 ops l is Lf Lv)
  | .fin l e _ => G g K m e L (.d B1 ops l is Lf Lv)
theorem pass_ok {B1 : Bl} {ops : Array Oper} {is : List Nat} {Lf Lv : List Ch} : ∀ (r : List Oper) (i : Nat) (l : List Bool) (e : SE) (q : List (Nat × Oper)), (∀ j, r[j]? = ops.toList[i + j]?) →
    PsG g K m L B1 ops is Lf Lv (pass g.T g.n ops Lv r i l e q) → G g K m e L (.d B1 ops l is Lf Lv)
  | [], i, l, e, q, hr, h => by
    unfold pass at h
    exact h
  | o :: r, i, l, e, q, hr, h => by
    have ho : ops.toList[i]? = some o := by have := hr 0; simpa using this.symm
    have hr' : ∀ j, r[j]? = ops.toList[i + 1 + j]? := fun j => by
      have := hr (j + 1)
      rw [show i + 1 + j = i + (j + 1) from by omega, ← this]; simp
    unfold pass at h
    cases hl : l[i]? with
    | none => simp only [hl] at h; exact h.elim
    | some b =>
      cases b with
      | true => simp only [hl] at h; exact pass_ok r (i + 1) l e q hr' h
      | false =>
        cases hre : rdyE l o.after.toList with
        | false => simp only [hl, hre] at h; exact pass_ok r (i + 1) l e q hr' h
        | true =>
          cases hgd : guardS ops e o.guard with
          | bad => simp only [hl, hre, hgd] at h; exact h.elim
          | ask c => simp only [hl, hre, hgd] at h; exact h
          | no =>
            cases hd : o.dst with
            | none => simp only [hl, hre, hgd, hd] at h; exact h.elim
            | some d =>
              cases hb : Nat.blt d g.n with
              | false => simp only [hl, hre, hgd, hd, hb] at h; exact h.elim
              | true =>
                simp only [hl, hre, hgd, hd, hb] at h
                have ih := pass_ok r (i + 1) _ _ q hr' h
                intro hD a w ⟨B, hm, hA, hS, hV⟩
                refine d_take (v := undef) hD ho hl hre hd hb hA hS (.inr ⟨gd_no hgd, rfl⟩) fun a' hA' => ?_
                exact ih (hD.set i ⟨hD.frz, hD.rng⟩) a' w ⟨B, hm, hA.of (x := .u) rfl hA', hS, hV⟩
          | yes =>
            cases hv : ev1 g.T e Lv o.op with
            | some v =>
              cases hd : o.dst with
              | none => simp only [hl, hre, hgd, hv, hd] at h; exact h.elim
              | some d =>
                cases hb : Nat.blt d g.n with
                | false => simp only [hl, hre, hgd, hv, hd, hb] at h; exact h.elim
                | true =>
                  simp only [hl, hre, hgd, hv, hd, hb] at h
                  have ih := pass_ok r (i + 1) _ _ q hr' h
                  intro hD a w ⟨B, hm, hA, hS, hV⟩
                  obtain ⟨u, h1, h2⟩ := ev1_ok g.hT hA (hV w (hD.S hS)) hv
                  refine d_take (v := u) hD ho hl hre hd hb hA hS (.inl ⟨gd_yes hgd, fun w' hS' => ?_⟩) fun a' hA' => ?_
                  · obtain ⟨u', h3, h4⟩ := ev1_ok (w := w') g.hT hA (hV w' hS') hv
                    rw [h1] at h3; cases h3; exact h4
                  · exact ih (hD.set i ⟨hD.frz, hD.rng⟩) a' w ⟨B, hm, hA.of h1 hA', hS, hV⟩
            | none =>
              cases hp : pureO o.op with
              | true => simp only [hl, hre, hgd, hv, hp] at h; exact h ho hl hre hgd
              | false =>
                simp only [hl, hre, hgd, hv, hp] at h
                exact pass_ok r (i + 1) l e ((i, o) :: q) hr' h
theorem allT_ok : ∀ {l : List Bool} {i : Nat}, allT l = true → l[i]? ≠ some false
  | [], i, _ => by simp
  | b :: l, i, h => by
    unfold allT at h
    cases b with
    | false => cases h
    | true =>
      cases i with
      | zero => simp
      | succ i => simpa using allT_ok (l := l) (i := i) h
theorem isBox_pos {k : Nat} : ∀ {L : List Ch}, isBox k L = true → ∃ i, (∀ cs', setBox k cs' L = L.set i (.box k cs')) ∧ ∀ k0, posB k L k0 = k0 + i
  | [], h => by cases h
  | x :: L, h => by
    have ih : isBox k L = true → (∀ cs', setBox k cs' (x :: L) = x :: setBox k cs' L) → (∀ k0, posB k (x :: L) k0 = posB k L (k0 + 1)) → ∃ i, (∀ cs', setBox k cs' (x :: L) = (x :: L).set i (.box k cs')) ∧ ∀ k0, posB k (x :: L) k0 = k0 + i := fun h h2 h3 => by
      obtain ⟨i, g1, g2⟩ := isBox_pos h
      exact ⟨i + 1, fun cs' => by rw [h2, g1]; rfl, fun k0 => by rw [h3, g2]; omega⟩
    cases x with
    | box j cs =>
      simp only [isBox] at h
      split at h
      · rename_i hb
        exact ⟨0, fun cs' => by simp only [setBox, hb]; rw [Nat.eq_of_beq_eq_true hb]; rfl, fun k0 => by simp only [posB, hb]; rfl⟩
      · rename_i hb
        exact ih h (fun cs' => by simp only [setBox, hb]) (fun k0 => by simp only [posB, hb])
    | ro j cs =>
      simp only [isBox] at h
      split at h
      · cases h
      · exact ih h (fun _ => rfl) (fun _ => rfl)
    | o ch => exact ih h (fun _ => rfl) (fun _ => rfl)
    | f g => exact ih h (fun _ => rfl) (fun _ => rfl)
    | no => exact ih h (fun _ => rfl) (fun _ => rfl)
    | w k b z => exact ih h (fun _ => rfl) (fun _ => rfl)
theorem notIn_ok {i : Nat} : ∀ {is : List Nat}, notIn i is = true → i ∉ is
  | [], _ => by simp
  | j :: r, h => by
    unfold notIn at h
    cases hb : Nat.beq i j with
    | true => rw [hb] at h; cases h
    | false =>
      rw [hb] at h
      have hne : i ≠ j := fun e => by rw [e] at hb; simp at hb
      simpa [hne] using notIn_ok h
theorem kl_set {L : List Ch} {i : Nat} {x : Ch} : ∀ {is : List Nat}, i ∉ is → kl (L.set i x) is = kl L is
  | [], _ => rfl
  | j :: is, h => by
    have hne : i ≠ j := fun e => h (by simp [e])
    simp only [kl, List.getElem?_set_ne hne, kl_set (fun hj => h (List.mem_cons_of_mem _ hj))]
theorem storeS_frz {T : TT} {t : TypeId} {p v : SV} {L' : List Ch} {x y : Operand} {is : List Nat} (h : storeS T t p v L = some L') (hp : evS e x = some p) (hf : frzO e L is (.store t x y) = true) (hr : ∀ j ∈ is, j < L.length) : kl L' is = kl L is ∧ ∀ j ∈ is, j < L'.length := by
  unfold storeS at h
  split at h
  · rename_i k o
    split at h
    · rename_i hb
      split at h
      · split at h
        · split at h
          case h_2 => cases h
          split at h
          case h_2 => cases h
          rename_i L2 hL2
          cases h
          have := frc_eq hL2
          subst this
          obtain ⟨i, h1, h2⟩ := isBox_pos hb
          simp only [frzO, hp, h2] at hf
          have := notIn_ok hf
          rw [Nat.zero_add] at this
          rw [h1]
          exact ⟨kl_set this, by simpa using hr⟩
        · cases h
      · cases h
    · cases h
  · cases h
theorem box_rel {a a' : Act} {w' : World} {B0 B : Bl} {d b : Nat} {cs : List SV} (hm : (B0 ++ B).length = m) (hA : AEnvS g.n (B0 ++ B) e a) (hA' : AEnv g.n ((d, .pointer (some ⟨b, 0, none⟩)) :: vE (B0 ++ B) e) a') (hS' : StS g.c w' ((B0 ++ B) ++ [(b, 0)]) (L ++ [.box (B0 ++ B).length cs])) : RelN g.n g.c (B0 ++ B) (m + 1) ((d, .p m 0) :: e) (L ++ [.box m cs]) a' w' := by
  refine ⟨[(b, 0)], by simp at hm ⊢; omega, ?_, ?_⟩
  · exact hA.ext (nb := [(b, 0)]) (x := .p m 0) (by simp [toV, gV, cellV, ← hm]) hA'
  · rw [← hm]; exact hS'
theorem frz_app {cf : Cfg} (Ln : List Ch) : Frz g cf L (L ++ Ln) := by
  cases cf with
  | d B1 ops l is Lf Lv => exact fun hD => hD.frzApp Ln
  | o B1 ops l is Lf Lv i => exact fun hD => hD.frzApp Ln
  | _ => trivial
theorem eff_val {T : TT} {op : Op} {v : SV} (h : eff T e L op = .val v) : ev1 T e L op = some v := by
  unfold eff at h
  split at h
  · rename_i hv; cases h; exact hv
  · repeat' (split at h)
    all_goals cases h
theorem eff_box {T : TT} {op : Op} {cs : List SV} (h : eff T e L op = .box cs) : (∃ t i, op = .alloc t ∧ lkT T t = some i ∧ cs = i.z) ∨ (∃ t x v, op = .box t x ∧ evS e x = some v ∧ isCells v = true ∧ cs = cellsS v) := by
  unfold eff at h
  split at h
  · cases h
  · split at h
    · split at h
      · rename_i hl; cases h; exact .inl ⟨_, _, rfl, hl, rfl⟩
      · cases h
    · split at h
      · rename_i hv
        split at h
        · rename_i hc; cases h; exact .inr ⟨_, _, _, rfl, hv, hc, rfl⟩
        · cases h
      · cases h
    · split at h
      · split at h <;> cases h
      · cases h
    · cases h
theorem eff_st {T : TT} {op : Op} {L' : List Ch} (h : eff T e L op = .st L') : ∃ t x y p v, op = .store t x y ∧ evS e x = some p ∧ storeS T t p v L = some L' := by
  unfold eff at h
  split at h
  · cases h
  · split at h
    · split at h <;> cases h
    · split at h
      · split at h <;> cases h
      · cases h
    · split at h
      · rename_i hx hy
        split at h
        · rename_i hs; cases h; exact ⟨_, _, _, _, _, rfl, hx, hs⟩
        · cases h
      · cases h
    · cases h
theorem eff_st2 {T : TT} {op : Op} {L' : List Ch} (h : eff T e L op = .st L') : ∃ t x y p v, op = .store t x y ∧ evS e x = some p ∧ evS e y = some v ∧ storeS T t p v L = some L' := by
  unfold eff at h
  split at h
  · cases h
  · split at h
    · split at h <;> cases h
    · split at h
      · split at h <;> cases h
      · cases h
    · split at h
      · rename_i hx hy
        split at h
        · rename_i hs; cases h; exact ⟨_, _, _, _, _, rfl, hx, hy, hs⟩
        · cases h
      · cases h
    · cases h
theorem eff_ok {o : Oper} {cf cf' : Cfg} (hE : EStep g K m e L o cf cf') :
    (∀ d cs, eff g.T e L o.op = .box cs → o.dst = some d → Nat.blt d g.n = true → Frz g cf L (L ++ [.box m cs]) → G g K (m + 1) ((d, .p m 0) :: e) (L ++ [.box m cs]) cf' → G g K m e L cf) ∧
    (∀ L', eff g.T e L o.op = .st L' → o.dst = none → Frz g cf L L' → G g K m e L' cf' → G g K m e L cf) := by
  refine ⟨fun d cs hf hd hdn hz hG => hE Unit (fun _ => m + 1) (fun _ => (d, .p m 0) :: e) (fun _ => L ++ [.box m cs]) (fun _ => hz) (fun B a w next Q hm hA hS hnext => ?_) (fun _ => hG), fun L' hf hd hz hG => hE Unit (fun _ => m) (fun _ => e) (fun _ => L') (fun _ => hz) (fun B a w next Q hm hA hS hnext => ?_) (fun _ => hG)⟩
  · have fin : ∀ {u : Value} {w' : World} {b : Nat}, RunV g.P o (vE (B0S g cf ++ B) e) w u w' → u = .pointer (some ⟨b, 0, none⟩) → StS g.c w' ((B0S g cf ++ B) ++ [(b, 0)]) (L ++ [.box (B0S g cf ++ B).length cs]) → o.wp g.P a w next Q := by
      intro u w' b hR hu hS'
      subst hu
      unfold Oper.wp
      rw [hR _ a hA.env, Oper.upon_value, hd]
      exact hnext () _ _ (box_rel hm hA (hA.env.put (by simpa [Nat.blt_eq] using hdn) _) hS')
    rcases eff_box hf with ⟨t, i, ho, hl, rfl⟩ | ⟨t, x, v, ho, hv, hc, rfl⟩
    · obtain ⟨u, w', b, k1, k2, k3⟩ := alloc_ok (E := vE (B0S g cf ++ B) e) g.hT hS ho hl
      exact fin k1 k2 k3
    · obtain ⟨u, w', b, k1, k2, k3⟩ := box_ok (P := g.P) hA hS ho hv hc
      exact fin k1 k2 k3
  · obtain ⟨t, x, y, p, v, ho, hx, hy, hs⟩ := eff_st2 hf
    obtain ⟨w', k1, k2⟩ := storeS_ok g.hT hA hS ho hx hy hs
    unfold Oper.wp
    rw [k1 _ a hA.env, Oper.upon_skip, hd]
    exact hnext () _ _ ⟨[], by simpa using hm, by rw [List.append_nil]; exact ⟨hA.d, hA.size, hA.get⟩, by simpa using k2⟩
theorem ask_ok {o : Oper} {Lv : List Ch} {cf cf' : Cfg} (h : Gs g (askS e o Lv cf cf' K m L o.op)) (hd : dstOk g.n o.dst = true) (hP : PStep g K m e L o Lv cf cf') (hE : EStep g K m e L o cf cf') : G g K m e L cf := by
  generalize hop : o.op = op at h
  unfold askS at h
  split at h
  · split at h
    · exact h
    · exact h.elim
  · split at h
    · rename_i h1 h2 h3
      exact h _ _ hop h3 h1 h2 hP
    · exact h hd hP hE
  · split at h
    · rename_i h1 h2
      split at h
      · rename_i hx
        exact h _ _ _ hop rfl h1 ⟨_, h2, rfl⟩ hx hd hE
      · exact h _ _ _ hop rfl h1 ⟨_, h2, rfl⟩ hd hE
    · exact h hd hP hE
  · exact h hd hP hE
theorem askP_ok {o : Oper} {Lv : List Ch} {cf cf' : Cfg} (h : Gs g (askP e o Lv cf cf' K m L o.op)) (hd : dstOk g.n o.dst = true) (hP : PStep g K m e L o Lv cf cf') : G g K m e L cf := by
  generalize hop : o.op = op at h
  unfold askP at h
  split at h
  · split at h
    · exact h
    · exact h.elim
  · split at h
    · rename_i h1 h2 h3
      exact h _ _ hop h3 h1 h2 hP
    · exact h hd hP
  · exact h hd hP
theorem stp_ok : ∀ (F : Nat) (K : List Fr) (c : Cfg) (m : Nat) (e : SE) (L : List Ch), Gs g (stp g.T g.n F K c m e L) → G g K m e L c
  | 0, _, _, _, _, _, h => h.elim
  | F + 1, K, .c x, m, e, L, h => by
    have ih := stp_ok F
    unfold stp at h
    cases x with
    | skip => exact fun a w hr => cw_skip (pop_G ih h a w hr)
    | seq x y => exact fun a w hr => cw_seq (ih _ _ _ _ _ h a w hr)
    | block id b =>
      simp only at h
      split at h
      · exact h
      · exact fun a w hr => cw_block (ih _ _ _ _ _ h a w hr)
    | exit id =>
      simp only at h
      refine fun a w hr => cw_exit (xit_X ?_)
      cases hx : xit id K with
      | some K' => rw [hx] at h; exact pop_G ih h a w hr
      | none => rw [hx] at h; exact h a w hr
    | ret => exact fun a w hr => cw_ret (h a w hr)
    | cond o x y =>
      simp only at h
      split at h
      · rename_i c ho
        intro a w hr
        obtain ⟨B, hm, hA, hS⟩ := hr
        obtain ⟨v, h1, h2⟩ := evS_ok hA ho
        cases h1
        cases c with
        | true => exact cw_yes hA.env h2 rfl (ih _ _ _ _ _ h a w ⟨B, hm, hA, hS⟩)
        | false => exact cw_no hA.env h2 rfl (ih _ _ _ _ _ h a w ⟨B, hm, hA, hS⟩)
      · rename_i c ho
        exact h ho
      · exact h.elim
    | region id ops d =>
      cases d with
      | false => exact fun a w hr => cw_region (ih _ _ _ _ _ h a w hr)
      | true => exact h
    | _ => exact h.elim
  | F + 1, K, .n, m, e, L, h => by
    have ih := stp_ok F
    unfold stp at h
    exact fun a w hr => pop_G ih h a w hr
  | F + 1, K, .r ops [], m, e, L, h => by
    have ih := stp_ok F
    unfold stp at h
    exact fun a w hr => pop_G ih h a w hr
  | F + 1, K, .r ops (⟨dst, op, ty, ps, af, gd⟩ :: l), m, e, L, h => by
    have ih := stp_ok F
    unfold stp at h
    generalize hg : guardS ops e gd = gv at h
    cases gv with
    | bad => exact h.elim
    | ask c => exact h
    | no =>
      simp only at h
      split at h
      · rename_i d
        split at h
        · rename_i hd
          intro a w ⟨B, hm, hA, hS⟩
          exact ops_off (gd_no hg) rfl hd (fun a' hA' => ih _ _ _ _ _ h a' w ⟨B, hm, hA.of (x := .u) (v := undef) rfl hA', hS⟩) a hA.env
        · exact h.elim
      · exact h.elim
    | yes =>
      simp only at h
      have hE := eff_ok (g := g) (K := K) (m := m) (e := e) (L := L) (o := ⟨dst, op, ty, ps, af, gd⟩) (cf := .r ops (⟨dst, op, ty, ps, af, gd⟩ :: l)) (cf' := .r ops l) (estep_r hg)
      split at h
      · rename_i d v hf
        split at h
        · rename_i hd
          intro a w ⟨B, hm, hA, hS⟩
          obtain ⟨u, h1, h2⟩ := ev1_ok (o := ⟨_, op, ty, ps, af, gd⟩) g.hT hA hS (eff_val hf)
          exact ops_v h2 (gd_yes hg) rfl hd (fun a' hA' => ih _ _ _ _ _ h a' w ⟨B, hm, hA.of h1 hA', hS⟩) a hA.env
        · exact h.elim
      · rename_i d cs hf
        split at h
        · rename_i hd
          exact hE.1 _ _ hf rfl hd trivial (ih _ _ _ _ _ h)
        · exact h.elim
      · rename_i L' hf
        exact hE.2 _ hf rfl trivial (ih _ _ _ _ _ h)
      · split at h
        · rename_i hd
          exact ask_ok h hd (pstep_r hg hd) (estep_r hg)
        · exact h.elim
      · exact h.elim
  | F + 1, K, .d B1 ops l is Lf Lv, m, e, L, h => by
    have ih := stp_ok F
    unfold stp at h
    refine pass_ok ops.toList 0 l e [] (fun j => by simp) ?_
    generalize pass g.T g.n ops Lv ops.toList 0 l e [] = ps at h
    cases ps with
    | bad => exact h.elim
    | ask c l' e' => exact h
    | pur i o l' e' =>
      intro h1 h2 h3 h4
      simp only at h
      split at h
      · rename_i hd
        exact askP_ok h hd (pstep_d h1 h2 h3 h4 hd)
      · exact h.elim
    | fin l' e' q =>
      cases q with
      | nil =>
        simp only at h
        split at h
        · rename_i hall
          intro hD a w hr
          have hn := ih _ _ _ _ _ h
          obtain ⟨B2, hB2⟩ := hD.pre
          have hr' : Rel g m e' L a w := by
            obtain ⟨B, hm, hA, hS, _⟩ := hr
            subst hB2
            exact ⟨B2 ++ B, by rw [← List.append_assoc]; exact hm, by rw [← List.append_assoc]; exact hA, by rw [← List.append_assoc]; exact hS⟩
          have hempty : Region.ready .any ops l'.toArray = [] := by
            refine List.eq_nil_iff_forall_not_mem.2 fun j hj => ?_
            exact allT_ok hall ((ready_iff hD.len).1 hj).1
          exact wpAnyH_done hempty (hn a w hr') _
        · exact h.elim
      | cons p q =>
        cases q with
        | cons p' q => exact h
        | nil =>
          obtain ⟨i, o⟩ := p
          simp only at h
          split at h
          · rename_i hon
            have ho := ih _ _ _ _ _ h
            cases hra : readyA l' ops.toList 0 with
            | cons j r =>
              refine d_alt hra fun k hk => ?_
              rw [onlyR_A hon k (by rw [hra]; exact hk)]
              exact ho
            | nil =>
              refine absurd h ?_
              intro h
              unfold stp at h
              cases F with
              | zero => exact h
              | succ F =>
                simp only at h
                split at h
                · rename_i hi
                  split at h
                  · rename_i h1 h2 h3
                    have := readyA_ok (j0 := 0) hi (by simpa using h2) h1
                    rw [Nat.zero_add, hra] at this
                    cases this
                  · exact h
                · exact h
          · exact h.elim
  | F + 1, K, .o B1 ops l is Lf Lv i, m, e, L, h => by
    have ih := stp_ok F
    unfold stp at h
    split at h
    · rename_i dst op ty ps af gd ho
      split at h
      · rename_i hre hli hg
        have hes := estep_o (g := g) (K := K) (m := m) (e := e) (L := L) (B1 := B1) (ops := ops) (l := l) (is := is) (Lf := Lf) (Lv := Lv) ho hg
        have hE := eff_ok (g := g) (K := K) (m := m) (e := e) (L := L) (o := ⟨dst, op, ty, ps, af, gd⟩) (cf := .o B1 ops l is Lf Lv i) (cf' := .d B1 ops (l.set i true) is Lf Lv) hes
        split at h
        · rename_i v d hf
          split at h
          · rename_i hd
            have hG := ih _ _ _ _ _ h
            have hv := eff_val hf
            refine hes Unit (fun _ => m) (fun _ => (d, v) :: e) (fun _ => L) (fun _ hD => ⟨hD.frz, hD.rng⟩) (fun B a w next Q hm hA hS hnext => ?_) (fun _ => hG)
            obtain ⟨u, h1, h2⟩ := ev1_ok (o := ⟨some d, op, ty, ps, af, gd⟩) g.hT hA hS hv
            unfold Oper.wp
            rw [h2 _ a hA.env, Oper.upon_value]
            exact hnext () _ _ ⟨[], by simpa using hm, by simpa using hA.of h1 (hA.env.put (by simpa [Nat.blt_eq] using hd) u), by simpa using hS⟩
          · exact h.elim
        · rename_i d cs hf
          split at h
          · rename_i hd
            exact hE.1 _ _ hf rfl hd (fun hD => hD.frzApp _) (ih _ _ _ _ _ h)
          · exact h.elim
        · rename_i L' hf
          split at h
          · rename_i hfz
            refine hE.2 _ hf rfl (fun hD => ?_) (ih _ _ _ _ _ h)
            obtain ⟨t, x, y, p, v, hop, hx, hs⟩ := eff_st hf
            subst hop
            have := storeS_frz hs hx hfz hD.rng
            exact ⟨by rw [this.1]; exact hD.frz, this.2⟩
          · exact h.elim
        · split at h
          · rename_i hd
            exact ask_ok h hd (pstep_o ho hg hd) hes
          · exact h.elim
        · exact h.elim
      · exact h.elim
    · exact h.elim
theorem frcE_eq : ∀ {e r : SE}, frcE e = some r → r = e
  | [], r, h => by cases h; rfl
  | (k, v) :: l, r, h => by
    simp only [frcE] at h
    split at h
    · rename_i s hs; cases h; rw [frcE_eq hs]
    · cases h
theorem frcL_eq : ∀ {e r : List Ch}, frcL e = some r → r = e
  | [], r, h => by cases h; rfl
  | x :: l, r, h => by
    simp only [frcL] at h
    split at h
    · rename_i s hs
      have := frcL_eq hs
      subst this
      split at h
      · split at h
        · rename_i ds hds; cases h; rw [frc_eq hds]
        · cases h
      · split at h
        · rename_i ds hds; cases h; rw [frc_eq hds]
        · cases h
      · cases h; rfl
    · cases h
theorem stq_ok {K : List Fr} {c : Cfg} {m : Nat} {e : SE} {L : List Ch} (h : Gs g (stq g.T g.n K c m e L)) : G g K m e L c := by
  unfold stq at h
  split at h
  · rename_i e' L' he hL
    have h1 := frcE_eq he
    have h2 := frcL_eq hL
    subst h1; subst h2
    exact stp_ok _ _ _ _ _ _ h
  · exact h.elim
end
end Go.Gv
end
section
namespace Go.Gv
section
variable {P : Program} {N N' : Act → World → Prop} {X X' : Nat → Act → World → Prop} {T T' : Act → World → Prop}
theorem letsOut_mkQ (h : LetsOut (mkQ N X T)) : LetsOut (mkQ N' X' T') := let ⟨_, _, h⟩ := h; h.elim
theorem upon_mkQ {o : Oper} {a : Act} {next next' : Act → World → Prop} {r : Result Next} (hn : ∀ a w, next a w → next' a w) (h : o.upon P a next (mkQ N X T) r) : o.upon P a next' (mkQ N' X' T') r := by
  unfold Oper.upon at h ⊢
  split at h
  · exact hn _ _ h
  · exact hn _ _ h
  · exact hn _ _ h
  · refine Calls.mono h fun e w' he => ?_
    cases e with
    | returned v => exact hn _ _ he
    | panicked c => exact he.elim
    | outgrown => exact letsOut_mkQ he
  · exact Rows.mono h fun u w'' he => hn _ _ he
  · exact h.elim
  · exact h.elim
theorem wpList_mkQ {ops : Array Oper} (hN : ∀ a w, N a w → N' a w) : ∀ (l : List Oper) {a : Act} {w : World}, wpList P ops (mkQ N X T) l a w → wpList P ops (mkQ N' X' T') l a w
  | [], a, w, h => hN a w h
  | o :: l, a, w, h => by
    unfold wpList at h ⊢
    split
    · rename_i hw
      rw [if_pos hw] at h
      rcases h with h | ⟨h1, h2⟩
      · exact .inl (upon_mkQ (fun _ _ h => wpList_mkQ hN l h) h)
      · exact .inr ⟨h1, letsOut_mkQ h2⟩
    · rename_i hw
      rw [if_neg hw] at h
      exact wpList_mkQ hN l h
theorem wpOp_mkQ {ops : Array Oper} {i : Nat} {k k' : Act → World → Prop} {a : Act} {w : World} (hk : ∀ a w, k a w → k' a w) (h : wpOp P ops (mkQ N X T) i k a w) : wpOp P ops (mkQ N' X' T') i k' a w := by
  unfold wpOp at h ⊢
  split
  · rename_i h0; rw [h0] at h; exact hk _ _ h
  · rename_i o h0
    rw [h0] at h
    simp only at h
    split
    · rename_i hw
      rw [if_pos hw] at h
      rcases h with h | ⟨h1, h2⟩
      · exact .inl (upon_mkQ hk h)
      · exact .inr ⟨h1, letsOut_mkQ h2⟩
    · rename_i hw
      rw [if_neg hw] at h
      exact hk _ _ h
theorem wpAnyH_mkQ {ops : Array Oper} {S : World → Prop} (hN : ∀ a w, N a w → N' a w) : ∀ (fuel : Nat) {listed : Array Bool} {a : Act} {w : World}, wpAnyH P .any ops (mkQ N X T) S fuel listed a w → wpAnyH P .any ops (mkQ N' X' T') S fuel listed a w
  | 0, _, a, w, h => ⟨h.1, hN a w h.2⟩
  | f + 1, _, a, w, h => ⟨fun h0 => hN a w (h.1 h0), fun i hi => wpOp_mkQ (fun _ _ h => ⟨h.1, wpAnyH_mkQ hN f h.2⟩) (h.2 i hi)⟩
end
section
variable {P : Program} {T : TT} {hT : TOk P T} {n : Nat} {c : Ctx} {B0 : Bl} {N N1 : Act → World → Prop} {X X1 : Nat → Act → World → Prop} {Q : Act → World → Prop} {K K' : List Fr} {m m' : Nat} {e e' : SE} {L L' : List Ch} {cf cf' : Cfg}
theorem NX_app (Kb : List Fr) (hN : ∀ a w, N1 a w → NK (.mk P T hT n c B0 N X Q) Kb a w) (hX : ∀ i a w, X1 i a w → XK (.mk P T hT n c B0 N X Q) Kb i a w) : ∀ (Ka : List Fr), (∀ a w, NK (.mk P T hT n c B0 N1 X1 Q) Ka a w → NK (.mk P T hT n c B0 N X Q) (Ka ++ Kb) a w) ∧ (∀ i a w, XK (.mk P T hT n c B0 N1 X1 Q) Ka i a w → XK (.mk P T hT n c B0 N X Q) (Ka ++ Kb) i a w)
  | [] => ⟨hN, hX⟩
  | .s y :: Ka => by
    obtain ⟨h1, h2⟩ := NX_app Kb hN hX Ka
    exact ⟨fun a w h => CW.mono (show CW P y (NK _ Ka) (XK _ Ka) Q a w from h) h1 h2 (fun _ _ h => h), h2⟩
  | .k id :: Ka => by
    obtain ⟨h1, h2⟩ := NX_app Kb hN hX Ka
    refine ⟨h1, fun i a w h => ?_⟩
    simp only [XK, xcons, List.cons_append] at h ⊢
    split
    · rename_i hi; rw [if_pos hi] at h; exact h1 a w h
    · rename_i hi; rw [if_neg hi] at h; exact h2 i a w h
theorem G_app {Ka Kb : List Fr} (hN : ∀ a w, N1 a w → NK (.mk P T hT n c B0 N X Q) Kb a w) (hX : ∀ i a w, X1 i a w → XK (.mk P T hT n c B0 N X Q) Kb i a w) (h : G (.mk P T hT n c B0 N1 X1 Q) Ka m e L cf) : G (.mk P T hT n c B0 N X Q) (Ka ++ Kb) m e L cf := by
  obtain ⟨h1, h2⟩ := NX_app Kb hN hX Ka
  cases cf with
  | n => exact fun a w hr => h1 a w (h a w hr)
  | c x => exact fun a w hr => CW.mono (h a w hr) h1 h2 (fun _ _ h => h)
  | r ops l => exact fun a w hr => wpList_mkQ h1 l (h a w hr)
  | d B1 ops l is Lf Lv => exact fun hD a w hr => wpAnyH_mkQ h1 _ (h ⟨hD.pre, hD.len, hD.free, hD.frz, hD.rng, hD.okf, hD.ap⟩ a w hr)
  | o B1 ops l is Lf Lv i => exact fun hD a w hr => wpOp_mkQ (fun _ _ h => ⟨h.1, wpAnyH_mkQ h1 _ h.2⟩) (h ⟨hD.pre, hD.len, hD.free, hD.frz, hD.rng, hD.okf, hD.ap⟩ a w hr)
theorem cfgS_ok {g : Gx} {s : Stop} (hs : cfgS s = some (K, cf, m, e, L)) (h : G g K m e L cf) : Gs g s := by
  cases s <;> simp only [cfgS] at hs <;> cases hs
  · exact fun _ => h
  · exact h
  · exact h
  · exact fun _ _ _ _ _ _ _ => h
  · exact fun _ _ _ _ _ _ _ _ _ _ => h
  · exact fun _ _ _ _ _ _ _ _ _ => h
  · exact fun _ _ => h
  · exact fun _ _ _ => h
  · exact h
  · exact h
def JP (n : Nat) (c : Ctx) (B0 : Bl) {π υ : Type} (eq : π → Prop) (m : Nat) (ej : π → υ → SE) (Lj : π → υ → List Ch) : Act → World → Prop := fun a w => ∃ p u, eq p ∧ RelN n c B0 m (ej p u) (Lj p u) a w
theorem go (hs : cfgS (stq T n K cf m e L) = some (K', cf', m', e', L')) (k : G (.mk P T hT n c B0 N X Q) K' m' e' L' cf') : G (.mk P T hT n c B0 N X Q) K m e L cf :=
  stq_ok (g := .mk P T hT n c B0 N X Q) (cfgS_ok hs k)
theorem cut {π υ : Type} (j mj : Nat) (eq : π → Prop) (ks : List Nat) (ej : π → υ → SE) (is : List Nat) (Lj : π → υ → List Ch) (hs : cfgS (stq T n K cf m e L) = some (K', cf', m', e', L'))
    (k1 : G (.mk P T hT n c B0 (JP n c B0 eq mj (fun p u => ej p u ++ kp e' ks) (fun p u => Lj p u ++ kl L' is)) (XK (.mk P T hT n c B0 N X Q) (K'.drop j)) Q) (K'.take j) m' e' L' cf')
    (k2 : ∀ p u, eq p → G (.mk P T hT n c B0 N X Q) (K'.drop j) mj (ej p u ++ kp e' ks) (Lj p u ++ kl L' is) .n) : G (.mk P T hT n c B0 N X Q) K m e L cf := by
  refine go hs ?_
  rw [← List.take_append_drop j K']
  refine G_app (fun a w ⟨p, u, h1, h2⟩ => ?_) (fun _ _ _ h => h) k1
  exact k2 p u h1 a w h2
theorem jn {π υ : Type} {eq : π → Prop} {mj : Nat} {ej : π → υ → SE} {Lj : π → υ → List Ch} {p : π} (u : υ) (is : List Nat) (hF : eq p) (hs : stq T n K cf m e L = .fin m' e' L') (h : asT B0.length m' e' L' is mj (ej p u) (Lj p u) = some (ej p u, Lj p u)) : G (.mk P T hT n c B0 (JP n c B0 eq mj ej Lj) X Q) K m e L cf :=
  stq_ok (g := .mk P T hT n c B0 _ X Q) (by
    rw [hs]
    exact fun a w hr => ⟨p, u, hF, RelN.asT hr is h⟩)
theorem ovr_env {b cb : Bool} {a : Act} {B : Bl} (hb : b = cb) : ∀ (ss : List Nat), mapO (lkS e) ss = some (ss.map fun _ => SV.b b) → AEnvS n B e a → AEnvS n B (ovr cb e ss) a := by
  intro ss hs hA
  refine ⟨hA.d, hA.size, ?_⟩
  subst hb
  have key : ∀ k ∈ ss, lkS e k = some (.b b) := by
    induction ss with
    | nil => intro k hk; cases hk
    | cons s ss ih =>
      simp only [mapO, List.map_cons] at hs
      split at hs
      · cases hs
      · rename_i h1
        split at hs
        · cases hs
        · rename_i h2
          cases hs
          intro k hk
          rcases List.mem_cons.1 hk with hk | hk
          · subst hk; exact h1
          · exact ih h2 k hk
  clear hs
  induction ss with
  | nil => exact hA.get
  | cons s ss ih =>
    intro k x hk
    simp only [ovr, lkS] at hk
    cases hb : Nat.beq k s with
    | true =>
      rw [hb] at hk; cases hk
      rw [Nat.eq_of_beq_eq_true hb]
      exact hA.get s (.b b) (key s (by simp))
    | false =>
      rw [hb] at hk
      exact ih (fun k hk => key k (List.mem_cons_of_mem _ hk)) k x hk
theorem ovr_rel {b cb : Bool} {a : Act} {w : World} (hb : b = cb) (ss : List Nat) (hs : mapO (lkS e) ss = some (ss.map fun _ => SV.b b)) (h : RelN n c B0 m e L a w) : RelN n c B0 m (ovr cb e ss) L a w := by
  obtain ⟨B, h1, hA, hS⟩ := h
  exact ⟨B, h1, ovr_env hb ss hs hA, hS⟩
theorem G_mono {e1 : SE} (h : ∀ a B, AEnvS n B e a → AEnvS n B e1 a) (k : G (.mk P T hT n c B0 N X Q) K m e1 L cf) : G (.mk P T hT n c B0 N X Q) K m e L cf := by
  cases cf with
  | d B1 ops l is Lf Lv => exact fun hD a w ⟨B, h1, h2, h3, h4⟩ => k hD a w ⟨B, h1, h a _ h2, h3, h4⟩
  | o B1 ops l is Lf Lv i => exact fun hD a w ⟨B, h1, h2, h3, h4⟩ => k hD a w ⟨B, h1, h a _ h2, h3, h4⟩
  | _ => exact fun a w ⟨B, h1, h2, h3⟩ => k a w ⟨B, h1, h a _ h2, h3⟩
section
variable {b : Bool} {α : Type} {A B' : Option α} {q : Option α}
theorem cs {o : Operand} {x y : Code} (ss : List Nat) (hs : stq T n K cf m e L = .cond o b x y K' m' e' L') (ho : mapO (lkS e') ss = some (ss.map fun _ => SV.b b)) (hF : (if b = true then A else B') = q)
    (k1 : A = q → G (.mk P T hT n c B0 N X Q) K' m' (ovr true e' ss) L' (.c x)) (k2 : B' = q → G (.mk P T hT n c B0 N X Q) K' m' (ovr false e' ss) L' (.c y)) : G (.mk P T hT n c B0 N X Q) K m e L cf :=
  stq_ok (g := .mk P T hT n c B0 N X Q) (by
    rw [hs]
    intro he a w hr
    have ⟨B, hm, hA, hS⟩ := hr
    obtain ⟨v, h1, h2⟩ := evS_ok hA he
    cases h1
    refine cw_cond hA.env h2 (fun hc => ?_) (fun hc => ?_)
    · rw [if_pos hc] at hF
      exact k1 hF a w (ovr_rel hc ss ho hr)
    · rw [if_neg (by rw [hc]; simp)] at hF
      exact k2 hF a w (ovr_rel hc ss ho hr))
theorem ca {cf' : Cfg} (ss : List Nat) (hs : stq T n K cf m e L = .case b cf' K' m' e' L') (ho : mapO (lkS e') ss = some (ss.map fun _ => SV.b b)) (hF : (if b = true then A else B') = q)
    (k1 : A = q → G (.mk P T hT n c B0 N X Q) K' m' (ovr true e' ss) L' cf') (k2 : B' = q → G (.mk P T hT n c B0 N X Q) K' m' (ovr false e' ss) L' cf') : G (.mk P T hT n c B0 N X Q) K m e L cf :=
  stq_ok (g := .mk P T hT n c B0 N X Q) (by
    rw [hs]
    cases b with
    | true => exact G_mono (fun a B hA => ovr_env rfl ss ho hA) (k1 (by simpa using hF))
    | false => exact G_mono (fun a B hA => ovr_env rfl ss ho hA) (k2 (by simpa using hF)))
end
def QS (P : Program) (fn : Func) (c : Ctx) (B0 : Bl) {ρ ex : Type} (sv : ρ → ex → SV) (Lf : ρ → ex → List Ch) (r : ρ) : Act → World → Prop := Fin P fn fun v w' => ∃ y, toV B0 (sv r y) = some v ∧ StS c w' B0 (Lf r y)
theorem resV_ok {r : ResultVar} {x : SV} {B : Bl} {a : Act} {w : World} (hT : TOk P T) (hA : AEnvS n B e a) (hS : StS c w B L) (h : resV T e L r = some x) : ∃ v, toV B x = some v ∧ (resSem a.tmps r).run P w = .ok v w := by
  cases r with
  | tmp t =>
    obtain ⟨v, h1, h2⟩ := hA.get t x h
    exact ⟨v, h1, by simp [resSem, h2]⟩
  | cell t ty =>
    simp only [resV] at h
    split at h
    · rename_i p hp
      obtain ⟨v, h1, h2⟩ := hA.get t p hp
      unfold loadS at h
      split at h
      · rename_i n0 o0
        split at h
        · rename_i cs _ mm _ hb hl
          split at h
          · rename_i hle
            split at h
            case h_2 => cases h
            rename_i ds hds
            cases h
            have := frc_eq hds
            subst this
            obtain ⟨b, z, vs, g1, g2, g3⟩ := hS.cells hb
            have hlen := mapO_len g2
            have hle := Nat.le_of_ble_eq_true hle
            simp only [toV, gV, cellV, g1] at h1
            cases h1
            have h4 := mapO_take mm (mapO_drop o0 g2)
            have h5 := cellsAt_part g3 (o := o0) (m := mm) (by omega)
            have h6 := run_loadCells_at h5 P
            have h7 : ((vs.drop o0).take mm).length = mm := by simp; omega
            rw [h7] at h6
            refine ⟨.agg ((vs.drop o0).take mm).toArray, by simp only [toV, gV, h4], ?_⟩
            simp [resSem, h2, asAddr, loadVar, hT.agg _ _ hl, hT.size _ _ hl, h6]
          · cases h
        · rename_i cs _ _ _ hb hl
          obtain ⟨b, z, vs, g1, g2, g3⟩ := hS.cells hb
          simp only [toV, gV, cellV, g1] at h1
          cases h1
          obtain ⟨u, h4, h5⟩ := mapO_get g2 h
          refine ⟨u, toV_c h4, ?_⟩
          have h6 := g3 o0 u h5
          simp [resSem, h2, asAddr, loadVar, hT.agg _ _ hl, load, Sem.run, h6]
        · cases h
      · cases h
    · cases h
end
end Go.Gv
end
section
namespace Go.Gv
section
variable {P : Program} {T : TT} {hT : TOk P T} {n : Nat} {c : Ctx} {B0 : Bl} {N : Act → World → Prop} {X : Nat → Act → World → Prop} {Q : Act → World → Prop} {K K' : List Fr} {m m' : Nat} {e e' : SE} {L L' : List Ch} {cf : Cfg}
theorem toV_isC {B : Bl} {x : SV} {v : Value} (h : toV B x = some v) (hc : isCells x = true) : gV B x = some v := by
  cases x <;> first | exact h | cases hc
theorem resG_ok {r : ResultVar} {x : SV} {B : Bl} {a : Act} {w : World} (hT : TOk P T) (hA : AEnvS n B e a) (hS : StS c w B L) (h : resG T e L r = some x) : ∃ v, gV B x = some v ∧ (resSem a.tmps r).run P w = .ok v w := by
  unfold resG at h
  split at h
  · rename_i hv
    split at h
    · rename_i hc
      cases h
      obtain ⟨v, h1, h2⟩ := resV_ok hT hA hS hv
      exact ⟨v, toV_isC h1 hc, h2⟩
    · cases h
  · cases h
theorem resS_ok {rs : List ResultVar} {x : SV} {B : Bl} {a : Act} {w : World} {fn : Func} (hf : fn.results = rs.toArray) (hT : TOk P T) (hA : AEnvS n B e a) (hS : StS c w B L) (h : resS T e L rs = some x) : ∃ v, toV B x = some v ∧ (results fn a.tmps).run P w = .ok v w := by
  rw [results_eq hf]
  unfold resS at h
  split at h
  · cases h; exact ⟨.tuple #[], rfl, by simp⟩
  · obtain ⟨v, h1, h2⟩ := resV_ok hT hA hS h
    exact ⟨v, h1, by simp [h2]⟩
  · split at h
    · rename_i g1 g2
      cases h
      obtain ⟨v1, h1, k1⟩ := resG_ok hT hA hS g1
      obtain ⟨v2, h2, k2⟩ := resG_ok hT hA hS g2
      exact ⟨.tuple #[v1, v2], by simp [toV, mapO, h1, h2], by simp [k1, k2]⟩
    · cases h
  · split at h
    · rename_i g1 g2 g3
      cases h
      obtain ⟨v1, h1, k1⟩ := resG_ok hT hA hS g1
      obtain ⟨v2, h2, k2⟩ := resG_ok hT hA hS g2
      obtain ⟨v3, h3, k3⟩ := resG_ok hT hA hS g3
      exact ⟨.tuple #[v1, v2, v3], by simp [toV, mapO, h1, h2, h3], by simp [k1, k2, k3]⟩
    · cases h
  · cases h
structure FnS (P : Program) (f : FuncId) (c : Ctx) (xs : List SV) (B0 : Bl) (L0 : List Ch) {ρ ex : Type} (sv : ρ → ex → SV) (Lf : ρ → ex → List Ch) (r : ρ) : Prop where
  call : ∀ args w, (callFunc f args).run P w = .ok (.enter f args) w
  run : ∀ vs, mapO (toV B0) xs = some vs → StS c c.w0 B0 L0 → Calls P f vs.toArray c.w0 (Ret fun v w' => ∃ y, toV B0 (sv r y) = some v ∧ StS c w' B0 (Lf r y))
abbrev Fn0 (P : Program) (f : FuncId) (c : Ctx) (xs : List SV) {ρ : Type} (sv : ρ → SV) (r : ρ) : Prop := FnS P f c xs [] [] (fun r (_ : Unit) => sv r) (fun _ _ => []) r
def env0S : Nat → List SV → SE
  | _, [] => []
  | k, v :: r => (k, v) :: env0S (k + 1) r
theorem env0S_get {B : Bl} : ∀ {xs : List SV} {vs : List Value} (k : Nat) {j : Nat} {x : SV}, mapO (toV B) xs = some vs → lkS (env0S k xs) j = some x → ∃ v, toV B x = some v ∧ lk (env0 k vs) j = some v
  | [], vs, k, j, x, h, hj => by simp [env0S, lkS] at hj
  | y :: xs, vs, k, j, x, h, hj => by
    simp only [mapO] at h
    split at h
    · cases h
    · rename_i h1
      split at h
      · cases h
      · rename_i h2
        cases h
        simp only [env0S, lkS] at hj
        simp only [env0, lk]
        cases hb : Nat.beq j k with
        | true => rw [hb] at hj; cases hj; exact ⟨_, h1, rfl⟩
        | false => rw [hb] at hj; exact env0S_get (k + 1) h2 hj
theorem en {f : FuncId} {fn : Func} {cd : Code} {xs : List SV} {L0 : List Ch} {ρ ex : Type} {sv : ρ → ex → SV} {Lf : ρ → ex → List Ch} {r : ρ} (n : Nat) (hc : ∀ args w, (callFunc f args).run P w = .ok (.enter f args) w) (hf : P.funcs[f]? = some fn) (hT : TOk P T) (hb : fn.body = some cd) (hm : fn.ntmps = n) (hl : Nat.ble xs.length n = true)
    (k : G (.mk P T hT n c B0 (QS P fn c B0 sv Lf r) (fun _ _ _ => False) (QS P fn c B0 sv Lf r)) [] B0.length (env0S 0 xs) L0 (.c cd)) : FnS P f c xs B0 L0 sv Lf r := by
  refine ⟨hc, fun vs hv hS => calls_cwN hf hb hm ?_ fun a hA => ?_⟩
  · rw [mapO_len hv]; exact hl
  · refine CW.mono (k a c.w0 ⟨[], by simp, ⟨hA.d, hA.size, fun j x hj => ?_⟩, by simpa using hS⟩) (fun _ _ h => h) (fun _ _ _ h => h) (fun _ _ h => h)
    obtain ⟨v, h1, h2⟩ := env0S_get 0 hv hj
    exact ⟨v, by simpa using h1, hA.get j v h2⟩
theorem stS0 (w : World) : StS (cxAll w) w [] [] := ⟨⟨[], St.enter (by simp), by simp⟩, fun _ _ h => h⟩
theorem rt {fn : Func} {ρ ex : Type} {sv : ρ → ex → SV} {Lf : ρ → ex → List Ch} {r r' : ρ} {rs : List ResultVar} {zz : Option ρ} (y : ex) (is : List Nat) (hF : zz = some r) (hz : zz = some r') (hs : stq T n K cf m e L = .ret m' e' L') (hr : fn.results = rs.toArray) {x : SV} (hv : resS T e' L' rs = some x) (hx : nbS x = sv r' y) (hk : okN B0.length (sv r' y) = true) (hL : asT B0.length m' e' L' is B0.length [] (Lf r' y) = some ([], Lf r' y)) : G (.mk P T hT n c B0 N X (QS P fn c B0 sv Lf r)) K m e L cf := by
  subst hz; cases hF
  refine stq_ok (g := .mk P T hT n c B0 N X _) ?_
  rw [hs]
  intro a w hr'
  obtain ⟨B, hm, hA, hS⟩ := id hr'
  obtain ⟨v, h1, h2⟩ := resS_ok hr hT hA hS hv
  obtain ⟨B', hm', _, hS'⟩ := hr'.asT is hL
  have hB' : B' = [] := (by simpa using hm')
  subst hB'
  refine ⟨hA.d, v, h2, y, ?_, by simpa using hS'⟩
  rw [← hx] at hk ⊢
  have := okN_toV hk (by rw [nbS_toV]; exact h1)
  rw [List.take_append_of_le_length (Nat.le_refl _), List.take_length] at this
  exact this
def RdA (c : Ctx) {α : Type} [Rep α] (s : AC) (d : List α) : Prop := Rep.rd c.S0 c.w0 [s.v d.length] d
structure HS (c : Ctx) (w : World) (L : List Ch) : Prop where
  ex : ∃ B, StS c w B L
abbrev ow {α : Type} [Rep α] (s : AC) (d : List α) : Ch := .o (cOwn [s.v d.length] d)
abbrev fr {α : Type} [Rep α] (s : AC) (d : List α) : Ch := .f (fRd [s.v d.length] d)
theorem keep_S0 {w : World} {B : Bl} (hS : StS c w B L) {f : Fact} (h : f.P c.S0 c.w0) : f.P c.S0 w := by
  obtain ⟨⟨R, s1, _⟩, s0⟩ := hS
  exact f.agree h fun b o hb => s1.keep.cell b o (s0 b o hb) fun hw => s1.apart b o hw hb
theorem S0_All {w : World} {B : Bl} (hS : StS c w B L) : ∀ b o, c.S0 b o → All w b o := fun b o hb => by
  obtain ⟨⟨R, s1, _⟩, s0⟩ := hS
  exact Nat.lt_of_lt_of_le (s0 b o hb) s1.keep.size
theorem HS.a {w : World} {α : Type} [Rep α] {s : AC} {d : List α} (h : HS c w L) (hr : RdA c s d) : RdA (cxAll w) s d := by
  obtain ⟨B, hS⟩ := h.ex
  have h1 : (fRd [s.v d.length] d).P c.S0 w := keep_S0 hS (f := fRd [s.v d.length] d) hr
  exact Rep.rd_mono h1 (S0_All hS)
theorem HS.o {w : World} {α : Type} [Rep α] {s : AC} {d : List α} (h : HS c w L) (i : Nat) (hi : L[i]? = some (ow s d)) : RdA (cxAll w) s d := by
  obtain ⟨B, ⟨⟨R, s1, _⟩, _⟩⟩ := h.ex
  exact s1.rdOwn i (by rw [List.getElem?_map, hi]; rfl)
theorem HS.f {w : World} {α : Type} [Rep α] {s : AC} {d : List α} (h : HS c w L) (i : Nat) (hi : L[i]? = some (fr s d)) : RdA (cxAll w) s d := by
  obtain ⟨B, ⟨⟨R, s1, s2⟩, _⟩⟩ := h.ex
  obtain ⟨j, hj⟩ := List.getElem?_of_mem (s2 _ (List.mem_of_getElem? hi))
  exact s1.rd j hj
theorem okA_toV {B : Bl} : ∀ {xs : List SV} {vs : List Value}, okA xs = true → mapO (toV B) xs = some vs → mapO (toV []) xs = some vs
  | [], vs, _, h => h
  | x :: xs, vs, ho, h => by
    simp only [okA] at ho
    split at ho
    · rename_i h0
      simp only [mapO] at h
      split at h
      · cases h
      · rename_i h1
        split at h
        · cases h
        · rename_i h2
          cases h
          have h3 := okN_toV h0 h1
          rw [List.take_zero] at h3
          simp [mapO, h3, okA_toV ho h2]
    · cases ho
theorem evs_S {B : Bl} {a : Act} (hA : AEnvS n B e a) : ∀ {os : List Operand} {xs : List SV}, mapO (evS e) os = some xs → ∃ vs, mapO (toV B) xs = some vs ∧ evs (vE B e) os = some vs
  | [], xs, h => by cases h; exact ⟨[], rfl, rfl⟩
  | o :: os, xs, h => by
    simp only [mapO] at h
    split at h
    · cases h
    · rename_i h1
      split at h
      · cases h
      · rename_i h2
        cases h
        obtain ⟨v, k1, k2⟩ := evS_ok hA h1
        obtain ⟨vs, k3, k4⟩ := evs_S hA h2
        exact ⟨v :: vs, by simp [mapO, k1, k3], by simp [evs, k2, k4]⟩
def noF : List Ch → Bool
  | [] => true
  | .ro _ _ :: _ => false
  | .f _ :: _ => false
  | .w _ _ _ :: _ => false
  | _ :: L => noF L
theorem noF_ok {B : Bl} {R : List Fact} : ∀ {L : List Ch}, noF L = true → ∀ x ∈ L, roF B R x
  | [], _, x, hx => by cases hx
  | y :: L, h, x, hx => by
    rcases List.mem_cons.1 hx with hx' | hx'
    · subst hx'
      cases x <;> first | trivial | cases h
    · cases y with
      | ro => cases h
      | f => cases h
      | w => cases h
      | _ => exact noF_ok (L := L) h x hx'
theorem StS.after {w w' : World} {B : Bl} {L2 : List Ch} (h : StS c w B L) (hn : noF L2 = true) (k : StS (cxAll w) w' [] L2) : StS c w' B (L ++ L2) := by
  obtain ⟨⟨R, s1, s2⟩, s0⟩ := h
  obtain ⟨⟨R', t1, t2⟩, t0⟩ := k
  refine ⟨⟨R, ?_, fun x hx => ?_⟩, s0⟩
  · rw [List.map_append]
    have h1 := s1.after t1
    refine h1.imp (ImpL.append (ImpL.refl _) ?_)
    have := imp_app (B := []) B (w := w') L2
    simpa using this
  · rcases List.mem_append.1 hx with hx | hx
    · exact s2 x hx
    · exact noF_ok hn x hx
theorem StS.keepF0 {w w' : World} {B : Bl} (h : StS c w B L) (k : Keep F0 w w') : StS c w' B L := by
  obtain ⟨⟨R, s1, s2⟩, s0⟩ := h
  exact ⟨⟨R, s1.same k, s2⟩, s0⟩
theorem rc_call' {o : Oper} {f : FuncId} {x : Operand} {args : Array Operand} {ts : Array TypeId} {vs : List Value} {E : Env} {w : World} (hcall : ∀ args w, (callFunc f args).run P w = .ok (.enter f args) w) (ho : o.op = .call { callee := .value x, args := args, argTypes := ts }) (hx : ev E x = some (.func (.func f) #[] #[])) (hv : evs E args.toList = some vs) : RunC P o E w f vs.toArray := by
  have := rc_callv (w := w) (cap := []) (xs := args.toList) (vs := vs) hcall (by simpa using ho) hx hv
  simpa using this
theorem cl {α β ex : Type} {fo : Option α} {kf : α → Option β} {q : β} {o : Oper} {d : Nat} {f : FuncId} {xs : List SV} {cf1 cf2 : Cfg} {sv : α → ex → SV} {Lf : α → ex → List Ch} (hs : stq T n K cf m e L = .call o (some d) f xs cf1 cf2 K' m' e' L') (hn : ∀ x y, noF (Lf x y) = true)
    (hc : ∀ {w}, HS c w L' → ∀ {x}, fo = some x → FnS P f (cxAll w) xs [] [] sv Lf x) (hF : fo.bind kf = some q)
    (k : ∀ x, fo = some x → kf x = some q → ∀ y : ex, G (.mk P T hT n c B0 N X Q) K' m' ((d, sv x y) :: e') (L' ++ Lf x y) cf2) : G (.mk P T hT n c B0 N X Q) K m e L cf := by
  refine stq_ok (g := .mk P T hT n c B0 N X Q) ?_
  rw [hs]
  intro fo' args ats ho hd hf ⟨ys, hys, hxs⟩ hA0 hdn hE
  subst hxs
  cases hfo : fo with
  | none => rw [hfo] at hF; cases hF
  | some x =>
    rw [hfo] at hF
    refine hE ex (fun _ => m') (fun y => (d, sv x y) :: e') (fun y => L' ++ Lf x y) (fun y => frz_app _) (fun B a w next Q' hm hA hS hnext => ?_) (k x hfo hF)
    obtain ⟨hcall, hrun⟩ := hc ⟨_, hS⟩ hfo
    obtain ⟨vs, h1, h2⟩ := evs_S hA hys
    obtain ⟨v, h3, h4⟩ := evS_ok hA hf
    simp [toV, mapO] at h3
    subst h3
    have h5 := hrun vs (okA_toV hA0 (by rw [nbA_toV]; exact h1)) (stS0 w)
    have h6 := rc_call' (w := w) hcall ho h4 h2
    unfold Oper.wp
    rw [h6 _ a hA.env, Oper.upon_enter]
    refine Calls.mono h5 fun en w' ⟨v, hv, y, g1, g2⟩ => ?_
    subst hv
    rw [hd]
    have g3 := toV_app (B0S (.mk P T hT n c B0 N X Q) cf1 ++ B) g1
    exact hnext y _ _ ⟨[], by simpa using hm, by simpa using hA.of (by simpa using g3) (hA.env.put (by simpa [dstOk, Nat.blt_eq] using hdn) v), by simpa using hS.after (hn x y) g2⟩
end
end Go.Gv
end
section
namespace Go.Gv
section
variable {P : Program} {T : TT} {hT : TOk P T} {n : Nat} {c : Ctx} {B0 : Bl} {N : Act → World → Prop} {X : Nat → Act → World → Prop} {Q : Act → World → Prop} {K K' : List Fr} {m m' : Nat} {e e' : SE} {L L' : List Ch} {cf : Cfg}
def NxP (n : Nat) (c : Ctx) (B0 : Bl) {σ ρ υ : Type} (o : Step σ ρ) (m : Nat) (el : σ → υ → SE) (Ll : σ → υ → List Ch) : Act → World → Prop := fun a w => ∃ s u, o = .next s ∧ RelN n c B0 m (el s u) (Ll s u) a w
def BkP (n : Nat) (c : Ctx) (B0 : Bl) {β ρ υ : Type} (ro : ρ) (enc : β → ρ) (m : Nat) (ej : β → υ → SE) (Lj : β → υ → List Ch) (id : Nat) (X : Nat → Act → World → Prop) : Nat → Act → World → Prop := fun i a w => if i = id then ∃ b u, ro = enc b ∧ RelN n c B0 m (ej b u) (Lj b u) a w else X i a w
theorem lp {σ ρ υ β ω α : Type} {id : Nat} {y : Code} {fb : σ → Option (Step σ ρ)} {s0 : σ} {gk : ρ → Option α} {q : α} (u0 : υ) (ks : List Nat) (el : σ → υ → SE) (is0 is : List Nat) (Ll : σ → υ → List Ch) (enc : β → ρ) (kb : List Nat) (ej : β → ω → SE) (ib : List Nat) (Lj : β → ω → List Ch)
    (hs : stq T n K cf m e L = .loop id y K' m' e' L') (hF : (loop fb s0).bind gk = some q)
    (h0 : asT B0.length m' e' L' is0 m' (el s0 u0 ++ kp e' ks) (Ll s0 u0 ++ kl L' is) = some (el s0 u0 ++ kp e' ks, Ll s0 u0 ++ kl L' is))
    (k1 : ∀ ro, gk ro = some q → ∀ s u o, fb s = some o → (∀ p, o = .stop p → p = ro) → G (.mk P T hT n c B0 (NxP n c B0 o m' (fun s u => el s u ++ kp e' ks) (fun s u => Ll s u ++ kl L' is)) (BkP n c B0 ro enc m' (fun b u => ej b u ++ kp e' kb) (fun b u => Lj b u ++ kl L' ib) id (XK (.mk P T hT n c B0 N X Q) K')) Q) [] m' (el s u ++ kp e' ks) (Ll s u ++ kl L' is) (.c y))
    (k2 : ∀ b u, gk (enc b) = some q → G (.mk P T hT n c B0 N X Q) K' m' (ej b u ++ kp e' kb) (Lj b u ++ kl L' ib) .n) : G (.mk P T hT n c B0 N X Q) K m e L cf := by
  refine stq_ok (g := .mk P T hT n c B0 N X Q) ?_
  rw [hs]
  intro a w hr
  cases hl : loop fb s0 with
  | none => rw [hl] at hF; cases hF
  | some ro =>
    rw [hl] at hF
    have hF : gk ro = some q := hF
    refine cw_block (cw_loop (body := fb) (r := ro) (fun s a w => ∃ u, RelN n c B0 m' (el s u ++ kp e' ks) (Ll s u ++ kl L' is) a w) ?_ hl ⟨u0, hr.asT is0 h0⟩)
    intro s a w o ⟨u, hI⟩ hb ho
    refine CW.mono (k1 ro hF s u o hb ho a w hI) ?_ ?_ (fun _ _ h => h)
    · rintro a w ⟨s', u', h1, h2⟩
      exact ⟨s', h1, u', h2⟩
    · intro i a w h
      simp only [XK, BkP, xcons] at h ⊢
      split
      · rename_i hi
        rw [if_pos hi] at h
        obtain ⟨b, u, h1, h2⟩ := h
        exact k2 b u (h1 ▸ hF) a w h2
      · rename_i hi
        rw [if_neg hi] at h
        exact h
theorem nx {σ ρ υ : Type} {o : Step σ ρ} {mj : Nat} {el : σ → υ → SE} {Ll : σ → υ → List Ch} {s : σ} (u : υ) (is : List Nat) (hG : some (Step.next s) = some o) (hs : stq T n K cf m e L = .fin m' e' L') (h : asT B0.length m' e' L' is mj (el s u) (Ll s u) = some (el s u, Ll s u)) : G (.mk P T hT n c B0 (NxP n c B0 o mj el Ll) X Q) K m e L cf :=
  stq_ok (g := .mk P T hT n c B0 _ X Q) (by
    rw [hs]
    cases hG
    exact fun a w hr => ⟨s, u, rfl, hr.asT is h⟩)
theorem bk {σ ρ β υ : Type} {o : Step σ ρ} {ro : ρ} {enc : β → ρ} {mj id : Nat} {ej : β → υ → SE} {Lj : β → υ → List Ch} {b : β} (u : υ) (is : List Nat) (hG : some (Step.stop (enc b)) = some o) (hr : ∀ p, o = .stop p → p = ro) (hs : stq T n K cf m e L = .ex id m' e' L') (h : asT B0.length m' e' L' is mj (ej b u) (Lj b u) = some (ej b u, Lj b u)) : G (.mk P T hT n c B0 N (BkP n c B0 ro enc mj ej Lj id X) Q) K m e L cf :=
  stq_ok (g := .mk P T hT n c B0 N _ Q) (by
    rw [hs]
    cases hG
    have := hr _ rfl
    subst this
    intro a w hr
    show BkP n c B0 (enc b) enc mj ej Lj id X id a w
    unfold BkP
    rw [if_pos rfl]
    exact ⟨b, u, rfl, hr.asT is h⟩)
theorem re {σ ρ α : Type} {o : Step σ ρ} {p ro : ρ} {F : ρ → Option α} {q : Option α} {zz : Option (Step σ ρ)} (hG : zz = some o) (hz : zz = some (Step.stop p)) (hr : ∀ p, o = .stop p → p = ro) (hF : F ro = q) : F p = q := by
  subst hz; cases hG
  rw [hr _ rfl]; exact hF
structure Cel (α : Type) [Rep α] where
  ex : Type
  cs : α → ex → List SV
  sub : Foot → World → α → ex → Prop
  ok : ∀ {S w ec x}, Rep.rd S w ec x → ∃ y, mapO (cellV []) (cs x y) = some ec ∧ sub S w x y
  sv : α → ex → SV
  subk : ∀ {S S' w w' x y}, sub S w x y → (∀ b o, S b o → w'.cell? ⟨b, o, none⟩ = w.cell? ⟨b, o, none⟩) → (∀ b o, S b o → S' b o) → sub S' w' x y
def cI : Cel Int := ⟨Unit, fun x _ => [.i .i64 x], fun _ _ _ _ => True, fun h => ⟨(), by cases h; rfl, trivial⟩, fun x _ => .i .i64 x, fun _ _ _ => trivial⟩
def cB : Cel Bool := ⟨Unit, fun x _ => [.b x], fun _ _ _ _ => True, fun h => ⟨(), by cases h; rfl, trivial⟩, fun x _ => .b x, fun _ _ _ => trivial⟩
theorem rd_AC {α : Type} [Rep α] {S : Foot} {w : World} {ec : List Value} {l : List α} (h : Rep.rd S w ec l) : ∃ s : AC, ec = [s.v l.length] := by
  obtain ⟨ad, m, h1, _⟩ := (show rdSlice S w ec l from h)
  exact ⟨⟨ad, m⟩, h1⟩
theorem St.addS0 {w : World} {M : List Chunk} {R : List Fact} {f : Fact} (h : St c w M R) (s0 : ∀ b o, c.S0 b o → b < c.w0.heap.size) (hf : f.P c.S0 c.w0) : St c w M (R ++ [f]) := by
  obtain ⟨F, S, a1, a2, a3, a4, a5, a6⟩ := h.sep
  refine ⟨h.keep, ⟨F, fun b o => S b o ∨ c.S0 b o, a1, ?_, a3, ?_, ?_, ?_⟩, h.apart⟩
  · rintro b o hF (hs | hs)
    · exact a2 b o hF hs
    · rcases a3 b o hF with hw | hw
      · exact h.apart b o hw hs
      · have := s0 b o hs; omega
  · rintro b o (hs | hs)
    · exact a4 b o hs
    · exact .inl hs
  · rintro b o (hs | hs)
    · exact a5 b o hs
    · exact Nat.lt_of_lt_of_le (s0 b o hs) h.keep.size
  · intro g hg
    rcases List.mem_append.1 hg with hg | hg
    · exact g.mono (a6 g hg) fun b o hs => .inl hs
    · simp at hg; subst hg
      exact g.mono (g.agree hf fun b o hb => h.keep.cell b o (s0 b o hb) fun hw => h.apart b o hw hb) fun b o hs => .inr hs
theorem StS.addRo {w : World} {B : Bl} {k b z : Nat} {cs : List SV} {vs : List Value} (h : StS c w B L) (hk : B[k]? = some (b, z)) (hc : mapO (cellV B) cs = some vs) (hf : (fAt b z vs).P c.S0 c.w0) : StS c w B (L ++ [.ro k cs]) := by
  obtain ⟨⟨R, s1, s2⟩, s0⟩ := h
  refine ⟨⟨R ++ [fAt b z vs], ?_, fun x hx => ?_⟩, s0⟩
  · rw [List.map_append]
    exact St.more (ch := cNo) (St.addS0 s1 s0 hf) (Keep.refl _ _) ⟨F0, fun _ _ h => h, fun _ _ h => h.elim⟩
  · rcases List.mem_append.1 hx with hx | hx
    · exact roF_mono (fun f hf => List.mem_append_left _ hf) (s2 x hx)
    · simp at hx; subst hx
      exact ⟨b, z, vs, hk, hc, by simp⟩
theorem ix {α β : Type} {iR : Rep α} (C : Cel α) {o : Oper} {d t : Nat} {s : AC} {i : Int} {Lv : List Ch} {cf1 cf2 : Cfg} {ls : List α} {kf : α → Option β} {q : β} {el sz : Nat} {b1 b2 : Bool} {z1 z2 : List SV} {k2 : TK} {n1 : Nat} (hs : stq T n K cf m e L = .idx o d t s ls.length i Lv cf1 cf2 K' m' e' L') (h1 : RdA c s ls) (hF : (idx ls i).bind kf = some q) (ht : lkT T t = some ⟨.sl el, b1, n1, z1⟩) (he : lkT T el = some ⟨k2, b2, sz, z2⟩) (hn : Rep.n α = sz)
    (k : ∀ x, idx ls i = some x → kf x = some q → ∀ y : C.ex, C.sub c.S0 c.w0 x y → G (.mk P T hT n c B0 N X Q) K' (m' + 1) ((d, .p m' 0) :: e') (L' ++ [.ro m' (C.cs x y)]) (cf2.ext [.ro m' (C.cs x y)])) : G (.mk P T hT n c B0 N X Q) K m e L cf := by
  refine stq_ok (g := .mk P T hT n c B0 N X Q) ?_
  rw [hs]
  intro x' y' ho hd hx hy hP
  cases hi : idx ls i with
  | none => rw [hi] at hF; cases hF
  | some x =>
    rw [hi] at hF
    obtain ⟨dd, hd1, hd2⟩ := hT.und _ _ ht
    simp only at hd2; subst hd2
    obtain ⟨ec, p1, p2⟩ := rd_elF (S := c.S0) (w := c.w0) h1 (idx_some hi).2.2
    obtain ⟨y, p3, p4⟩ := C.ok p2
    subst hn
    refine hP d (.p m' 0) [.ro m' (C.cs x y)] (fun _ => [(elB (s.v ls.length), elO (Rep.n α) i.toNat (s.v ls.length))]) 1 hd (fun _ => rfl) (fun B a w hA hS hm => ?_) (fun B w L hm hS => ?_) (k x hi hF y p4)
    · obtain ⟨v, g1, g2⟩ := evS_ok hA hx
      obtain ⟨u, g3, g4⟩ := evS_ok hA hy
      cases g1; cases g3
      have hrd : Rep.rd c.S0 w [s.v ls.length] ls := keep_S0 hS (f := fRd [s.v ls.length] ls) h1
      exact ⟨_, by simp [toV, gV, cellV, ← hm], rv_idx (P := P) (o := o) (w := w) hrd rfl hi hd1 (hT.size _ _ he) ho g2 g4⟩
    · exact (hS.app _).addRo (b := elB (s.v ls.length)) (z := elO (Rep.n α) i.toNat (s.v ls.length)) (by simp [← hm]) (mapO_mono (fun x v h => by simpa using cellV_app (B := []) _ h) p3) p1
theorem dr {id : Nat} {ops : Array Oper} (is : List Nat) (hs : stq T n K cf m e L = .rgn id ops K' m' e' L') (hm : P.follows .mixedOrders = true) (hf : (freeA ops && (okL m' (kl L' is) && (apartB is && is.all fun j => Nat.blt j L'.length))) = true)
    (k : ∀ B1, G (.mk P T hT n c B0 N X Q) K' m' e' L' (.d B1 ops (List.replicate ops.size false) is (kl L' is) (kl L' is))) : G (.mk P T hT n c B0 N X Q) K m e L cf := by
  refine stq_ok (g := .mk P T hT n c B0 N X Q) ?_
  rw [hs]
  intro a w ⟨B, hmm, hA, hS⟩
  simp only [Bool.and_eq_true, List.all_eq_true, Nat.blt_eq] at hf
  obtain ⟨f1, f2, f3, f4⟩ := hf
  refine wp_region_held (S := Sd (.mk P T hT n c B0 N X Q) (B0 ++ B) (kl L' is)) hm ?_
  have := k (B0 ++ B) ⟨⟨B, rfl⟩, by simp, f1, rfl, f4, by rw [hmm]; exact f2, f3⟩ a w.drew ⟨[], by simpa using hmm, by simpa using hA, by simpa using hS.keepF0 (Keep.drew F0 w), fun w' h => by simpa using h⟩
  simpa using this
end
end Go.Gv
end
section
namespace Go.Gv
inductive StF (P : Program) : List Field → List (Nat × Nat) → Prop where
  | n : StF P [] []
  | c {F : Field} {Fs : List Field} {fs : List (Nat × Nat)} {m : Nat} (h : ∀ w, (sizeOf F.type).run P w = .ok m w) (t : StF P Fs fs) : StF P (F :: Fs) ((F.offset, m) :: fs)
section
variable {P : Program} {T : TT} {t n : Nat} {a : Bool} {zs : List SV} {z : Value}
theorem StF.off {Fs : List Field} {fs : List (Nat × Nat)} (h : StF P Fs fs) : Fs.map (·.offset) = fs.map (·.1) := by
  induction h with
  | n => rfl
  | c h t ih => simp [ih]
theorem StF.get {Fs : List Field} {fs : List (Nat × Nat)} (h : StF P Fs fs) : ∀ (j : Nat) F, Fs[j]? = some F → ∃ m, fs[j]? = some (F.offset, m) ∧ ∀ w, (sizeOf F.type).run P w = .ok m w := by
  induction h with
  | n => intro j F h; simp at h
  | c h t ih =>
    intro j F hj
    cases j with
    | zero => simp at hj; subst hj; exact ⟨_, rfl, h⟩
    | succ j => exact ih j F (by simpa using hj)
theorem StF.run {Fs : List Field} {fs : List (Nat × Nat)} (h : StF P Fs fs) (w : World) : (Fs.mapM fun f => (do pure (f.offset, ← sizeOf f.type) : Sem (Nat × Nat))).run P w = .ok fs w := by
  induction h with
  | n => simp
  | c h t ih => simp [h] at ih ⊢; simp [ih]
theorem TOk.nil : TOk P [] := ⟨fun _ _ h => (by cases h), fun _ _ h => (by cases h), fun _ _ h => (by cases h), fun _ _ h => (by cases h)⟩
theorem TOk.add {k : TK} {d : TypeDesc} (hu : P.underlying t = some d) (hk : match k with
    | .i k => d = .int k
    | .b => d = .bool
    | .st fs => ∃ Fs : Array Field, d = .struct Fs ∧ Fs.toList.map (·.offset) = fs.map (·.1) ∧ (∀ (j : Nat) F, Fs[j]? = some F → ∃ m, fs[j]? = some (F.offset, m) ∧ ∀ w, (sizeOf F.type).run P w = .ok m w) ∧ ∀ w, (Fs.mapM fun f => (do pure (f.offset, ← sizeOf f.type) : Sem (Nat × Nat))).run P w = .ok fs.toArray w
    | .s => d = .string
    | .sl el => d = .slice el
    | .x => True) (ha : ∀ w, (isAgg t).run P w = .ok a w) (hs : ∀ w, (sizeOf t).run P w = .ok n w) (hz : ∀ w, (zeroValue t).run P w = .ok z w) (hc : mapO (cellV []) zs = some z.cells.toList) (h : TOk P T) : TOk P ((t, ⟨k, a, n, zs⟩) :: T) := by
  refine ⟨fun t' i hi => ?_, fun t' i hi => ?_, fun t' i hi => ?_, fun t' i hi => ?_⟩ <;> simp only [lkT] at hi <;> split at hi
  · rename_i hb; cases hi; rw [Nat.eq_of_beq_eq_true hb]; exact ⟨d, hu, hk⟩
  · exact h.und t' i hi
  · rename_i hb; cases hi; rw [Nat.eq_of_beq_eq_true hb]; exact ha
  · exact h.agg t' i hi
  · rename_i hb; cases hi; rw [Nat.eq_of_beq_eq_true hb]; exact hs
  · exact h.size t' i hi
  · rename_i hb; cases hi; rw [Nat.eq_of_beq_eq_true hb]; exact ⟨z, hz, hc⟩
  · exact h.zero t' i hi
theorem TOk.st {fs : List (Nat × Nat)} {Fs : List Field} (hu : P.underlying t = some (.struct Fs.toArray)) (hk : StF P Fs fs) (ha : ∀ w, (isAgg t).run P w = .ok a w) (hs : ∀ w, (sizeOf t).run P w = .ok n w) (hz : ∀ w, (zeroValue t).run P w = .ok z w) (hc : mapO (cellV []) zs = some z.cells.toList) (h : TOk P T) : TOk P ((t, ⟨.st fs, a, n, zs⟩) :: T) :=
  TOk.add (k := .st fs) hu ⟨Fs.toArray, rfl, by simpa using hk.off, fun j F hj => hk.get j F (by simpa using hj), fun w => by
    have := hk.run w
    simp at this ⊢
    simp [this]⟩ ha hs hz hc h
end
abbrev I (x : Int) : SV := .i .i64 x
end Go.Gv
end
section
namespace Go.Gv
section
variable {P : Program} {T : TT} {hT : TOk P T} {n : Nat} {c : Ctx} {B0 : Bl} {N : Act → World → Prop} {X : Nat → Act → World → Prop} {Q : Act → World → Prop} {K K' : List Fr} {m m' : Nat} {e e' : SE} {L L' : List Ch} {cf cf1 cf2 : Cfg} {o : Oper} {Lv : List Ch} {d : Nat}
theorem ext_nil : cf.ext [] = cf := by cases cf <;> simp [Cfg.ext]
theorem pu {x : SV} (hs : opS (stq T n K cf m e L) = some (o, Lv, cf1, cf2, K', m', e', L')) (hd : o.dst = some d) (hv : ∀ B a w, AEnvS n B e' a → StS c w B Lv → ∃ v, toV B x = some v ∧ RunV P o (vE B e') w v w)
    (k : G (.mk P T hT n c B0 N X Q) K' m' ((d, x) :: e') L' cf2) : G (.mk P T hT n c B0 N X Q) K m e L cf := by
  refine stq_ok (g := .mk P T hT n c B0 N X Q) ?_
  have key : PStep (.mk P T hT n c B0 N X Q) K' m' e' L' o Lv cf1 cf2 → G (.mk P T hT n c B0 N X Q) K' m' e' L' cf1 := fun hP => by
    refine hP d x [] (fun _ => []) 0 hd (fun _ => rfl) (fun B a w hA hS _ => ?_) (fun B w L _ hS => by simpa using hS) (by rw [ext_nil]; simpa using k)
    obtain ⟨v, h1, h2⟩ := hv B a w hA hS
    exact ⟨v, by simpa using h1, h2⟩
  generalize stq T n K cf m e L = s at hs
  cases s <;> simp only [opS] at hs <;> cases hs
  · exact fun _ hP => key hP
  · exact fun _ hP _ => key hP
theorem numB {x : Operand} {k : IntKind} {i : Int} {B : Bl} {a : Act} (hA : AEnvS n B e a) (h : (evS e x).bind numI = some (k, i)) : ev (vE B e) x = some (.int k i) := by
  cases hx : evS e x with
  | none => rw [hx] at h; cases h
  | some y =>
    rw [hx] at h
    obtain ⟨v, h1, h2⟩ := evS_ok hA hx
    rw [h2, num_ok (x := y) h h1]
section
variable {x y : Operand} {t z : TypeId} {k : IntKind} {i j : Int} {α : Type} {A : Option α} {q : α}
theorem qquo (hs : opS (stq T n K cf m e L) = some (o, Lv, cf1, cf2, K', m', e', L')) (ho : (o.op, o.dst) = (.binOp .quo t x y z, some d)) (hx : (evS e' x).bind numI = some (k, i)) (hy : (evS e' y).bind numI = some (k, j)) (hF : need (j ≠ 0) A = some q)
    (kk : A = some q → G (.mk P T hT n c B0 N X Q) K' m' ((d, .i k (k.wrap (i.tdiv j))) :: e') L' cf2) : G (.mk P T hT n c B0 N X Q) K m e L cf :=
  pu hs (congrArg Prod.snd ho) (fun B a w hA _ => ⟨_, rfl, rv_quo (congrArg Prod.fst ho) (numB hA hx) (numB hA hy) (needE hF).1⟩) (kk (needE hF).2)
theorem aggB {x : Operand} {cs : List SV} {vs : List Value} {B : Bl} {a : Act} (hA : AEnvS n B e a) (h : (evS e x).map nbS = some (.g cs)) (hv : mapO (cellV []) cs = some vs) : ev (vE B e) x = some (.agg vs.toArray) := by
  cases hx : evS e x with
  | none => rw [hx] at h; cases h
  | some y =>
    rw [hx] at h
    simp at h
    obtain ⟨v, h1, h2⟩ := evS_ok hA hx
    rw [h2, ← h1, ← nbS_toV, h]
    simp only [toV, gV]
    have := mapO_mono (g := cellV B) (fun x v h => by simpa using cellV_app (B := []) B h) hv
    rw [this]
theorem eqS {xs ys : List SV} {vx vy : List Value} {fs : Array Field} {b : Bool} (hg : P.eqGuardType P.depth t = false) (hst : P.stoodInHeld t = false) (hu : P.underlying t = some (.struct fs)) (hb : ∀ w, (Op.eqFields 9999 vx.toArray vy.toArray (match P.underlying t with | some (.struct fs) => fs | _ => #[]).toList).run P w = .ok b w) (hs : opS (stq T n K cf m e L) = some (o, Lv, cf1, cf2, K', m', e', L')) (ho : (o.op, o.dst) = (.binOp .eql t x y z, some d)) (hx : (evS e' x).map nbS = some (.g xs)) (hy : (evS e' y).map nbS = some (.g ys)) (hvx : mapO (cellV []) xs = some vx) (hvy : mapO (cellV []) ys = some vy)
    (kk : G (.mk P T hT n c B0 N X Q) K' m' ((d, .b b) :: e') L' cf2) : G (.mk P T hT n c B0 N X Q) K m e L cf :=
  pu hs (congrArg Prod.snd ho) (fun B a w hA _ => ⟨_, rfl, rv_eqS hg hst hu hb (congrArg Prod.fst ho) (aggB hA hx hvx) (aggB hA hy hvy)⟩) kk
theorem neS {xs ys : List SV} {vx vy : List Value} {fs : Array Field} {b : Bool} (hg : P.eqGuardType P.depth t = false) (hst : P.stoodInHeld t = false) (hu : P.underlying t = some (.struct fs)) (hb : ∀ w, (Op.eqFields 9999 vx.toArray vy.toArray (match P.underlying t with | some (.struct fs) => fs | _ => #[]).toList).run P w = .ok b w) (hs : opS (stq T n K cf m e L) = some (o, Lv, cf1, cf2, K', m', e', L')) (ho : (o.op, o.dst) = (.binOp .neq t x y z, some d)) (hx : (evS e' x).map nbS = some (.g xs)) (hy : (evS e' y).map nbS = some (.g ys)) (hvx : mapO (cellV []) xs = some vx) (hvy : mapO (cellV []) ys = some vy)
    (kk : G (.mk P T hT n c B0 N X Q) K' m' ((d, .b (!b)) :: e') L' cf2) : G (.mk P T hT n c B0 N X Q) K m e L cf :=
  pu hs (congrArg Prod.snd ho) (fun B a w hA _ => ⟨_, rfl, rv_neqS hg hst hu hb (congrArg Prod.fst ho) (aggB hA hx hvx) (aggB hA hy hvy)⟩) kk
theorem cl0 {α β : Type} {fo : Option α} {kf : α → Option β} {q : β} {f : FuncId} {xs : List SV} {sv : α → SV} (hs : stq T n K cf m e L = .call o (some d) f xs cf1 cf2 K' m' e' L')
    (hc : ∀ {w}, HS c w L' → ∀ {x}, fo = some x → Fn0 P f (cxAll w) xs sv x) (hF : fo.bind kf = some q)
    (k : ∀ x, fo = some x → kf x = some q → G (.mk P T hT n c B0 N X Q) K' m' ((d, sv x) :: e') L' cf2) : G (.mk P T hT n c B0 N X Q) K m e L cf :=
  cl (Lf := fun _ _ => []) hs (fun _ _ => rfl) (fun h => hc h) hF (fun x hx hk _ => by simpa using k x hx hk)
end
end
end Go.Gv
end
section
namespace Go.Gv
section
variable {P : Program} {T : TT} {hT : TOk P T} {n : Nat} {c : Ctx} {B0 : Bl} {N : Act → World → Prop} {X : Nat → Act → World → Prop} {Q : Act → World → Prop} {K K' : List Fr} {m m' : Nat} {e e' : SE} {L L' : List Ch} {cf cf1 cf2 : Cfg} {o : Oper} {Lv : List Ch} {d : Nat}
def Fu1 (P : Program) (c : Ctx) {α β : Type} {iR : Rep α} (C : Cel α) (sr : β → SV) (g : FuncId) (cap : List Value) (p : α → Option β) : Prop :=
  (∀ args w, (callFunc g args).run P w = .ok (.enter g args) w) ∧ ∀ w, Keep c.W c.w0 w → ∀ x y, C.sub (All w) w x y → ∀ q, p x = some q → ∀ v, toV [] (C.sv x y) = some v → Calls P g (v :: cap).toArray w (Ret fun u w' => toV [] (sr q) = some u ∧ StS (cxAll w) w' [] [])
def Fu2 (P : Program) (c : Ctx) {α α' β : Type} {iR : Rep α} {iR' : Rep α'} (C : Cel α) (C' : Cel α') (sr : β → SV) (g : FuncId) (cap : List Value) (p : α → α' → Option β) : Prop :=
  (∀ args w, (callFunc g args).run P w = .ok (.enter g args) w) ∧ ∀ w, Keep c.W c.w0 w → ∀ x y x' y', C.sub (All w) w x y → C'.sub (All w) w x' y' → ∀ q, p x x' = some q → ∀ v v', toV [] (C.sv x y) = some v → toV [] (C'.sv x' y') = some v' → Calls P g (v :: v' :: cap).toArray w (Ret fun u w' => toV [] (sr q) = some u ∧ StS (cxAll w) w' [] [])
theorem keep_sub {α : Type} {iR : Rep α} (C : Cel α) {w : World} {B : Bl} (hS : StS c w B L) {x : α} {y : C.ex} (h : C.sub c.S0 c.w0 x y) : C.sub (All w) w x y := by
  refine C.subk h (fun b o hb => ?_) (S0_All hS)
  obtain ⟨⟨R, s1, _⟩, s0⟩ := hS
  exact s1.keep.cell b o (s0 b o hb) fun hw => s1.apart b o hw hb
theorem StS.keepW {w : World} {B : Bl} (hS : StS c w B L) : Keep c.W c.w0 w := by
  obtain ⟨⟨R, s1, _⟩, s0⟩ := hS
  exact s1.keep
section
variable {α α' β γ : Type} {iR : Rep α} {iR' : Rep α'} {C : Cel α} {C' : Cel α'} {sr : β → SV} {g : FuncId} {cap : List Value} {q : γ} {kf : β → Option γ} {fo : Operand} {args : Array Operand} {ats : Array TypeId}
theorem rc_callc {f : FuncId} {x : Operand} {ts : Array TypeId} {vs : List Value} {E : Env} {w : World} (hcall : ∀ args w, (callFunc f args).run P w = .ok (.enter f args) w) (ho : o.op = .call { callee := .value x, args := args, argTypes := ts }) (hx : ev E x = some (.func (.func f) #[] cap.toArray)) (hv : evs E args.toList = some vs) : RunC P o E w f (vs ++ cap).toArray :=
  rc_callv (w := w) (cap := cap) (xs := args.toList) (vs := vs) hcall (by simpa using ho) hx hv
theorem take0 {B : Bl} {x : SV} {v : Value} (h : okN 0 x = true) (hv : toV B x = some v) : toV [] x = some v := by
  have := okN_toV h hv
  rwa [List.take_zero] at this
theorem fa1 {p : α → Option β} (H : Fu1 P c C sr g cap p) (x : α) (y : C.ex) (hs : stq T n K cf m e L = .op o Lv cf1 cf2 K' m' e' L') (ho : (o.op, o.dst) = (.call { callee := .value fo, args := args, argTypes := ats }, some d)) (hf : evS e' fo = some (.k (.func (.func g) #[] cap.toArray))) (hx : (mapO (evS e') args.toList).map nbT = some [C.sv x y]) (hz : okN 0 (C.sv x y) = true) (hy : C.sub c.S0 c.w0 x y) (hF : (p x).bind kf = some q)
    (k : ∀ z, p x = some z → kf z = some q → G (.mk P T hT n c B0 N X Q) K' m' ((d, sr z) :: e') L' cf2) : G (.mk P T hT n c B0 N X Q) K m e L cf := by
  refine stq_ok (g := .mk P T hT n c B0 N X Q) ?_
  rw [hs]
  intro hdn _ hE
  obtain ⟨hcall, hrun⟩ := H
  cases hp : p x with
  | none => rw [hp] at hF; cases hF
  | some z =>
    rw [hp] at hF
    refine hE Unit (fun _ => m') (fun _ => (d, sr z) :: e') (fun _ => L') (fun _ => by simpa using frz_app (L := L') []) (fun B a w next Q' hm hA hS hnext => ?_) (fun _ => k z hp hF)
    cases hys : mapO (evS e') args.toList with
    | none => rw [hys] at hx; cases hx
    | some ys =>
      rw [hys] at hx
      simp at hx
      obtain ⟨vs, h1, h2⟩ := evs_S hA hys
      obtain ⟨u, h3, h4⟩ := evS_ok hA hf
      simp only [toV, gV, cellV] at h3
      split at h3
      · cases h3
        rw [← nbT_toV, hx] at h1
        simp only [mapO] at h1
        cases hv : toV (B0S (.mk P T hT n c B0 N X Q) cf1 ++ B) (C.sv x y) with
        | none => rw [hv] at h1; cases h1
        | some v =>
          rw [hv] at h1
          cases h1
          have h6 := rc_callc (w := w) hcall (congrArg Prod.fst ho) h4 h2
          have hd : o.dst = some d := congrArg Prod.snd ho
          unfold Oper.wp
          rw [h6 _ a hA.env, Oper.upon_enter]
          refine Calls.mono (hrun w hS.keepW x y (keep_sub C hS hy) z hp v (take0 hz hv)) fun en w' ⟨v', hv', g1, g2⟩ => ?_
          subst hv'
          rw [hd] at hdn ⊢
          have g3 := toV_app (B0S (.mk P T hT n c B0 N X Q) cf1 ++ B) g1
          exact hnext () _ _ ⟨[], by simpa using hm, by simpa using hA.of (by simpa using g3) (hA.env.put (by simpa [dstOk, Nat.blt_eq] using hdn) v'), by simpa using hS.after (L2 := []) rfl g2⟩
      · cases h3
theorem fu1 {w : World} {p : α → Option β} (hc : ∀ args w, (callFunc g args).run P w = .ok (.enter g args) w) (hn : ∀ {κ : Ctx} {x y}, C.sub κ.S0 κ.w0 x y → ∀ {q}, p x = some q → Fn0 P g κ [C.sv x y] sr q) : Fu1 P (cxAll w) C sr g [] p :=
  ⟨hc, fun w1 _ x y hy q hq v hv => by
    refine Calls.mono ((hn (κ := cxAll w1) hy hq).run [v] (by simp [mapO, hv]) (stS0 w1)) fun en w' ⟨v', h1, y, h2, h3⟩ => ⟨v', h1, h2, h3⟩⟩
end
def roL : Nat → List (Nat × List SV) → List Ch
  | _, [] => []
  | k, (_, cs) :: r => .ro k cs :: roL (k + 1) r
def roS : List (Nat × List SV) → List Ch
  | [] => []
  | (n, cs) :: r => .ro n cs :: roS r
def capP : Nat → List (Nat × List SV) → List SV
  | _, [] => []
  | k, _ :: r => .p k 0 :: capP (k + 1) r
def capB (Bs : Bl) : List Value := Bs.map fun b => .pointer (some ⟨b.1, b.2, none⟩)
theorem rk {α : Type} [Rep α] {w w1 : World} {s : AC} {l : List α} (hk : Keep F0 w w1) (h : RdA (cxAll w) s l) : RdA (cxAll w1) s l :=
  Rep.rd_mono (Rep.rd_agree h fun b o hb => hk.cell b o hb fun h => h) fun b o hb => Nat.lt_of_lt_of_le hb hk.size
theorem fk1 {α β : Type} {iR : Rep α} {C : Cel α} {sr : β → SV} {g : FuncId} {w : World} {Bs : Bl} {cs : List (Nat × List SV)} {p : α → Option β} (hc : ∀ args w, (callFunc g args).run P w = .ok (.enter g args) w) (hB : ∀ w1, Keep F0 w w1 → StS (cxAll w1) w1 Bs (roL 0 cs)) (hl : mapO (toV Bs) (capP 0 cs) = some (capB Bs)) (hz : ∀ q, okN 0 (sr q) = true) (hn : ∀ {w1 x y}, Keep F0 w w1 → C.sub (All w1) w1 x y → ∀ {q}, p x = some q → FnS P g (cxAll w1) (C.sv x y :: capP 0 cs) Bs (roL 0 cs) (fun r (_ : Unit) => sr r) (fun _ _ => []) q) : Fu1 P (cxAll w) C sr g (capB Bs) p :=
  ⟨hc, fun w1 hk x y hy q hq v hv => by
    have hv' : toV Bs (C.sv x y) = some v := by simpa using toV_app (B := []) Bs hv
    refine Calls.mono ((hn hk hy hq).run (v :: capB Bs) (by simp [mapO, hv', hl]) (hB w1 hk)) fun en w' ⟨v', h1, y', h2, h3⟩ => ⟨v', h1, ?_, ?_⟩
    · exact take0 (hz q) h2
    · simpa using take_ok (m := 0) h3 rfl⟩
theorem roL_get : ∀ {cs : List (Nat × List SV)} {k : Nat} {x : Ch}, x ∈ roL k cs → ∃ j n c, cs[j]? = some (n, c) ∧ x = .ro (k + j) c
  | (n, c) :: r, k, x, h => by
    rcases List.mem_cons.1 h with h | h
    · exact ⟨0, n, c, rfl, by rw [h]; rfl⟩
    · obtain ⟨j, n', c', h1, h2⟩ := roL_get h
      exact ⟨j + 1, n', c', by simpa using h1, by rw [h2]; congr 1; omega⟩
theorem roS_mem : ∀ {cs : List (Nat × List SV)} {n : Nat} {c : List SV}, (n, c) ∈ cs → Ch.ro n c ∈ roS cs
  | (n', c') :: r, n, c, h => by
    rcases List.mem_cons.1 h with h | h
    · cases h; exact List.mem_cons_self ..
    · exact List.mem_cons_of_mem _ (roS_mem h)
theorem cap_bl {B : Bl} {cs : List (Nat × List SV)} {cap : List Value} : mapO (capV B) (cs.map (·.1)) = some cap → ∃ Bs : Bl, cap = capB Bs ∧ Bs.length = cs.length ∧ ∀ (j : Nat) n c, cs[j]? = some (n, c) → ∃ b, Bs[j]? = some b ∧ B[n]? = some b := by
  induction cs generalizing cap with
  | nil => intro h; cases h; exact ⟨[], rfl, rfl, by simp⟩
  | cons p r ih =>
    obtain ⟨n, c⟩ := p
    intro h
    simp only [List.map_cons, mapO] at h
    split at h
    · cases h
    · rename_i v hv
      split at h
      · cases h
      · rename_i vs hvs
        cases h
        obtain ⟨Bs, h1, h2, h3⟩ := ih hvs
        simp only [capV] at hv
        split at hv
        · rename_i b z hb
          cases hv
          refine ⟨(b, z) :: Bs, by simp [capB, h1], by simp [h2], fun j n' c' hj => ?_⟩
          cases j with
          | zero => simp at hj; obtain ⟨rfl, rfl⟩ := hj; exact ⟨(b, z), rfl, hb⟩
          | succ j => simpa using h3 j n' c' (by simpa using hj)
        · cases hv
def okCs : List (Nat × List SV) → Bool
  | [] => true
  | (_, c) :: r => okN.okC 0 c && okCs r
theorem okCs_get : ∀ {cs : List (Nat × List SV)} {j n : Nat} {c : List SV}, okCs cs = true → cs[j]? = some (n, c) → okN.okC 0 c = true
  | (n', c') :: r, 0, n, c, h, hj => by
    simp only [okCs, Bool.and_eq_true] at h
    simp at hj; rw [← hj.2]; exact h.1
  | (n', c') :: r, j + 1, n, c, h, hj => by
    simp only [okCs, Bool.and_eq_true] at h
    exact okCs_get h.2 (by simpa using hj)
theorem cap_st {w : World} {B Bs : Bl} {cs : List (Nat × List SV)} (hS : StS c w B L) (hk : ∀ x ∈ roS cs, x ∈ L) (ho : okCs cs = true) (hB : ∀ (j : Nat) n c, cs[j]? = some (n, c) → ∃ b, Bs[j]? = some b ∧ B[n]? = some b) : ∀ w1, Keep F0 w w1 → StS (cxAll w1) w1 Bs (roL 0 cs) := by
  intro w1 hkp
  have facts : ∀ x ∈ roL 0 cs, ∃ (f : Fact), f.P (All w1) w1 ∧ (∀ R, f ∈ R → roF Bs R x) ∧ chd Bs x = cNo := by
    intro x hx
    obtain ⟨j, n, cc, h1, h2⟩ := roL_get hx
    subst h2
    obtain ⟨⟨R, s1, s2⟩, s0⟩ := hS
    obtain ⟨b, z, vs, g1, g2, g3⟩ := s2 _ (hk _ (roS_mem (List.mem_of_getElem? h1)))
    obtain ⟨b', q1, q2⟩ := hB j n cc h1
    rw [g1] at q2; cases q2
    have hc0 := okC_map (okCs_get ho h1) g2
    rw [List.take_zero] at hc0
    obtain ⟨i, hi⟩ := List.getElem?_of_mem g3
    refine ⟨fAt b z vs, keepP (s1.fact i hi) hkp, fun R hR => ⟨b, z, vs, by simpa using q1, mapO_mono (fun x v h => by simpa using cellV_app (B := []) Bs h) hc0, hR⟩, rfl⟩
  have build : ∀ M : List Ch, (∀ x ∈ M, x ∈ roL 0 cs) → ∃ R : List Fact, (∀ f ∈ R, f.P (All w1) w1) ∧ (∀ x ∈ M, roF Bs R x) ∧ M.map (chd Bs) = List.replicate M.length cNo := by
    intro M
    induction M with
    | nil => exact fun _ => ⟨[], by simp, by simp, rfl⟩
    | cons x M ih =>
      intro hM
      obtain ⟨R, h1, h2, h3⟩ := ih fun y hy => hM y (List.mem_cons_of_mem _ hy)
      obtain ⟨f, f1, f2, f3⟩ := facts x (hM x (by simp))
      refine ⟨f :: R, fun g hg => ?_, fun y hy => ?_, by simp [f3, h3, List.replicate_succ]⟩
      · rcases List.mem_cons.1 hg with hg | hg
        · subst hg; exact f1
        · exact h1 g hg
      · rcases List.mem_cons.1 hy with hy | hy
        · subst hy; exact f2 _ (by simp)
        · exact roF_mono (fun g hg => List.mem_cons_of_mem _ hg) (h2 y hy)
  obtain ⟨R, h1, h2, h3⟩ := build (roL 0 cs) fun _ h => h
  refine ⟨⟨R, ?_, h2⟩, fun _ _ h => h⟩
  rw [h3]
  have h4 : St (cxAll w1) w1 [] R := St.enter h1
  generalize (roL 0 cs).length = k
  clear h3
  induction k with
  | zero => exact h4
  | succ k ih =>
    rw [List.replicate_succ']
    exact St.more (ch := cNo) ih (Keep.refl _ _) ⟨F0, fun _ _ h => h, fun _ _ h => h.elim⟩
def shr (ns : List Nat) : List Ch → List Ch
  | [] => []
  | .box n cs :: L => match notIn n ns with
    | true => .box n cs :: shr ns L
    | false => .ro n cs :: shr ns L
  | x :: L => x :: shr ns L
theorem St.leakAt {w : World} {M : List Chunk} {R : List Fact} {b z i : Nat} {vs : List Value} (h : St c w M R) (hi : M[i]? = some (cAt b z vs)) : St c w (M.set i cNo) (R ++ [fAt b z vs]) := by
  have h1 := h.take i hi
  obtain ⟨F, S, ⟨F1, F2, h1, h2, hd, hF⟩, a2, a3, a4, a5, a6⟩ := h1.sep
  have hlt : ∀ b' o, F1 b' o → b' < w.heap.size := fun _ _ hf => Chunk.lt (cAt b z vs) h1 hf
  obtain ⟨g1, g2, g3⟩ := h1
  refine ⟨h.keep, ⟨F2, fun b o => S b o ∨ F1 b o, h2, ?_, fun b o hf => a3 b o ((hF b o).2 (.inr hf)), ?_, ?_, ?_⟩, h.apart⟩
  · rintro b o hf (hs | hs)
    · exact a2 b o ((hF b o).2 (.inr hf)) hs
    · exact hd b o hs hf
  · rintro b o (hs | hs)
    · exact a4 b o hs
    · rcases a3 b o ((hF b o).2 (.inl hs)) with h | h
      · exact .inr (.inl h)
      · exact .inr (.inr h)
  · rintro b o (hs | hs)
    · exact a5 b o hs
    · exact hlt b o hs
  · intro f hf
    rcases List.mem_append.1 hf with hf | hf
    · exact f.mono (a6 f hf) fun b o hs => .inl hs
    · simp at hf; subst hf
      exact ⟨g1, fun o ho => .inr ((g3 b o).2 ho)⟩
theorem shr_ok {w : World} {B : Bl} (ns : List Nat) : ∀ (M L : List Ch), StS c w B (M ++ L) → StS c w B (M ++ shr ns L)
  | M, [], h => h
  | M, x :: L, h => by
    have gen : StS c w B (M ++ x :: shr ns L) := by
      have := shr_ok ns (M ++ [x]) L (by simpa using h)
      simpa using this
    cases x with
    | box n cs =>
      simp only [shr]
      split
      · exact gen
      · obtain ⟨⟨R, s1, s2⟩, s0⟩ := gen
        have hi : ((M ++ Ch.box n cs :: shr ns L).map (chd B))[M.length]? = some (boxC B n cs) := by simp [chd]
        obtain ⟨F, b, z, vs, h3, h4, h5⟩ := s1.chunk (ch := boxC B n cs) M.length hi
        have s3 := s1.imp (ImpL.put M.length hi fun F ⟨b', z', vs', q1, q2, q3⟩ => by
          rw [h3] at q1; cases q1; rw [h4] at q2; cases q2; exact q3)
        have s4 := s3.leakAt (b := b) (z := z) (vs := vs) (i := M.length) (by rw [List.getElem?_set_self]; simp)
        refine ⟨⟨R ++ [fAt b z vs], ?_, fun x hx => ?_⟩, s0⟩
        · have : ((M ++ Ch.ro n cs :: shr ns L).map (chd B)) = (((M ++ Ch.box n cs :: shr ns L).map (chd B)).set M.length (cAt b z vs)).set M.length cNo := by
            simp [chd]
          rw [this]; exact s4
        · rcases List.mem_append.1 hx with hx | hx
          · exact roF_mono (fun f hf => List.mem_append_left _ hf) (s2 x (List.mem_append_left _ hx))
          · rcases List.mem_cons.1 hx with hx | hx
            · subst hx; exact ⟨b, z, vs, h3, h4, by simp⟩
            · exact roF_mono (fun f hf => List.mem_append_left _ hf) (s2 x (List.mem_append_right _ (List.mem_cons_of_mem _ hx)))
    | _ => exact gen
theorem mf {f : FuncId} {caps : Array Operand} {ops : Array Oper} {l : List Oper} (ns : List Nat) (hs : stq T n K cf m e L = .op o Lv (.r ops l) cf2 K' m' e' L') (ho : (o.op, o.dst) = (.makeFunc (.func f) #[] caps, some d)) (hx : mapO (evS e') caps.toList = some (ns.map fun n => .p n 0))
    (k : G (.mk P T hT n c B0 N X Q) K' m' ((d, .f f ns) :: e') (shr ns L') cf2) : G (.mk P T hT n c B0 N X Q) K m e L cf := by
  refine stq_ok (g := .mk P T hT n c B0 N X Q) ?_
  rw [hs]
  intro hdn _ hE
  refine hE Unit (fun _ => m') (fun _ => (d, .f f ns) :: e') (fun _ => shr ns L') (fun _ => trivial) (fun B a w next Q' hm hA hS hnext => ?_) (fun _ => k)
  obtain ⟨vs, h1, h2⟩ := evs_S hA hx
  have hd : o.dst = some d := congrArg Prod.snd ho
  have h3 : ∀ {ns : List Nat} {vs : List Value}, mapO (toV (B0S (.mk P T hT n c B0 N X Q) (.r ops l) ++ B)) (ns.map fun n => SV.p n 0) = some vs → mapO (capV (B0S (.mk P T hT n c B0 N X Q) (.r ops l) ++ B)) ns = some vs := by
    intro ns
    induction ns with
    | nil => intro vs h; exact h
    | cons jj ns ih =>
      intro vs h
      simp only [List.map_cons, mapO] at h
      split at h
      · cases h
      · rename_i v hv
        split at h
        · cases h
        · rename_i vs' hvs
          cases h
          have : capV (B0S (.mk P T hT n c B0 N X Q) (.r ops l) ++ B) jj = some v := by
            simp only [toV, gV, cellV] at hv
            simp only [capV]
            split at hv
            · simpa using hv
            · cases hv
          simp [mapO, this, ih hvs]
  have h5 : ∀ {os : List Operand} {vs : List Value}, evs (vE (B0S (.mk P T hT n c B0 N X Q) (.r ops l) ++ B) e') os = some vs → os.map (ev (vE (B0S (.mk P T hT n c B0 N X Q) (.r ops l) ++ B) e')) = vs.map some := by
    intro os
    induction os with
    | nil => intro vs h; cases h; rfl
    | cons o os ih =>
      intro vs h
      simp only [evs] at h
      split at h
      · rename_i v vs' hv hvs
        cases h
        simp [hv, ih hvs]
      · cases h
  have h6 := rv_func (P := P) (w := w) (vf := []) (vc := vs) (congrArg Prod.fst ho) rfl (h5 h2)
  unfold Oper.wp
  rw [h6 _ a hA.env, Oper.upon_value, hd]
  rw [hd] at hdn
  have h7 : toV (B0S (.mk P T hT n c B0 N X Q) (.r ops l) ++ B) (.f f ns) = some (.func (.func f) #[] vs.toArray) := by simp only [toV, h3 h1]
  exact hnext () _ _ ⟨[], by simpa using hm, by simpa using hA.of h7 (hA.env.put (by simpa [dstOk, Nat.blt_eq] using hdn) _), by simpa using shr_ok ns [] L' hS⟩
theorem clc {α β : Type} {fo : Option α} {kf : α → Option β} {q : β} {f g : FuncId} {xs xs0 : List SV} {sv : α → SV} (is : List Nat) (cs : List (Nat × List SV)) (hs : stq T n K cf m e L = .callp o (some d) f xs cf1 cf2 K' m' e' L') (hk : kl L' is = roS cs) (ho : (okCs cs && okA xs.dropLast) = true) (hx : xs = xs.dropLast ++ [.f g (cs.map (·.1))])
    (hc : ∀ {w}, HS c w L' → ∀ {Bs : Bl}, Bs.length = cs.length → (∀ w1, Keep F0 w w1 → StS (cxAll w1) w1 Bs (roL 0 cs)) → ∀ {x}, fo = some x → Fn0 P f (cxAll w) (xs.dropLast ++ [.k (.func (.func g) #[] (capB Bs).toArray)]) sv x) (hF : fo.bind kf = some q)
    (k : ∀ x, fo = some x → kf x = some q → G (.mk P T hT n c B0 N X Q) K' m' ((d, sv x) :: e') L' cf2) : G (.mk P T hT n c B0 N X Q) K m e L cf := by
  refine stq_ok (g := .mk P T hT n c B0 N X Q) ?_
  rw [hs]
  intro fo' args ats ho' hd hf ⟨ys, hys, hxs⟩ hdn hE
  rw [Bool.and_eq_true] at ho
  cases hfo : fo with
  | none => rw [hfo] at hF; cases hF
  | some x =>
    rw [hfo] at hF
    refine hE Unit (fun _ => m') (fun _ => (d, sv x) :: e') (fun _ => L') (fun _ => by simpa using frz_app (L := L') []) (fun B a w next Q' hm hA hS hnext => ?_) (fun _ => k x hfo hF)
    obtain ⟨vs, h1, h2⟩ := evs_S hA hys
    obtain ⟨v, h3, h4⟩ := evS_ok hA hf
    simp [toV, mapO] at h3
    subst h3
    rw [← nbA_toV, hxs] at h1
    rw [hx] at h1
    have split : ∀ {as : List SV} {b : SV} {vs : List Value} {B : Bl}, mapO (toV B) (as ++ [b]) = some vs → ∃ us v, mapO (toV B) as = some us ∧ toV B b = some v ∧ vs = us ++ [v] := by
      intro as
      induction as with
      | nil =>
        intro b vs B h
        simp only [List.nil_append, mapO] at h
        split at h
        · cases h
        · rename_i v hv; cases h; exact ⟨[], v, rfl, hv, rfl⟩
      | cons a as ih =>
        intro b vs B h
        simp only [List.cons_append, mapO] at h
        split at h
        · cases h
        · rename_i u hu
          split at h
          · cases h
          · rename_i us' hus
            cases h
            obtain ⟨us, v, g1, g2, rfl⟩ := ih hus
            exact ⟨u :: us, v, by simp [mapO, hu, g1], g2, rfl⟩
    obtain ⟨us, fv, g1, g2, rfl⟩ := split h1
    simp only [toV] at g2
    split at g2
    · rename_i cap hcap
      cases g2
      obtain ⟨Bs, b1, b2, b3⟩ := cap_bl hcap
      subst b1
      have hmem : ∀ x ∈ roS cs, x ∈ L' := fun x hx => kl_mem (is := is) (by rw [hk]; exact hx)
      obtain ⟨hcall, hrun⟩ := hc ⟨_, hS⟩ b2 (cap_st hS hmem ho.1 b3) hfo
      have join : ∀ {as : List SV} {us : List Value} {b : SV} {v : Value}, mapO (toV []) as = some us → toV [] b = some v → mapO (toV []) (as ++ [b]) = some (us ++ [v]) := by
        intro as
        induction as with
        | nil => intro us b v h hb; cases h; simp [mapO, hb]
        | cons a as ih =>
          intro us b v h hb
          simp only [mapO] at h
          split at h
          · cases h
          · rename_i u hu
            split at h
            · cases h
            · rename_i us' hus; cases h; simp [mapO, hu, ih hus hb]
      have h5 := hrun (us ++ [.func (.func g) #[] (capB Bs).toArray]) (join (okA_toV ho.2 g1) (by simp [toV, gV, cellV, Value.oneCell'])) (stS0 w)
      have h6 := rc_call' (w := w) hcall ho' h4 h2
      unfold Oper.wp
      rw [h6 _ a hA.env, Oper.upon_enter]
      refine Calls.mono h5 fun en w' ⟨v, hv, y, e1, e2⟩ => ?_
      subst hv
      rw [hd]
      have g3 := toV_app (B0S (.mk P T hT n c B0 N X Q) cf1 ++ B) e1
      exact hnext () _ _ ⟨[], by simpa using hm, by simpa using hA.of (by simpa using g3) (hA.env.put (by simpa [dstOk, Nat.blt_eq] using hdn) v), by simpa using hS.after (L2 := []) rfl e2⟩
    · cases g2
theorem HS.u1 {α β : Type} {iR : Rep α} {C : Cel α} {sr : β → SV} {g : FuncId} {cap : List Value} {w : World} {p : α → Option β} (h : HS c w L) (H : Fu1 P c C sr g cap p) : Fu1 P (cxAll w) C sr g cap p := by
  obtain ⟨B, hS⟩ := h.ex
  exact ⟨H.1, fun w1 hk => H.2 w1 (hS.keepW.trans hk fun _ _ _ h => h.elim)⟩
theorem HS.u2 {α α' β : Type} {iR : Rep α} {iR' : Rep α'} {C : Cel α} {C' : Cel α'} {sr : β → SV} {g : FuncId} {cap : List Value} {w : World} {p : α → α' → Option β} (h : HS c w L) (H : Fu2 P c C C' sr g cap p) : Fu2 P (cxAll w) C C' sr g cap p := by
  obtain ⟨B, hS⟩ := h.ex
  exact ⟨H.1, fun w1 hk => H.2 w1 (hS.keepW.trans hk fun _ _ _ h => h.elim)⟩
theorem clc1 {α β : Type} {fo : Option α} {kf : α → Option β} {q : β} {f g : FuncId} {xs : List SV} {sv : α → SV} {n1 : Nat} {c1 : List SV} (is : List Nat) (hs : stq T n K cf m e L = .callp o (some d) f xs cf1 cf2 K' m' e' L') (hk : kl L' is = [.ro n1 c1]) (ho : (okCs [(n1, c1)] && okA xs.dropLast) = true) (hx : xs = xs.dropLast ++ [.f g [n1]])
    (hc : ∀ {w}, HS c w L' → ∀ {b1 : Nat × Nat}, (∀ w1, Keep F0 w w1 → StS (cxAll w1) w1 [b1] [.ro 0 c1]) → ∀ {x}, fo = some x → Fn0 P f (cxAll w) (xs.dropLast ++ [.k (.func (.func g) #[] (capB [b1]).toArray)]) sv x) (hF : fo.bind kf = some q)
    (k : ∀ x, fo = some x → kf x = some q → G (.mk P T hT n c B0 N X Q) K' m' ((d, sv x) :: e') L' cf2) : G (.mk P T hT n c B0 N X Q) K m e L cf :=
  clc (xs0 := []) is [(n1, c1)] hs hk ho hx (fun h Bs hl hB => match Bs, hl, hB with | [_], _, hB => hc h hB) hF k
end
end Go.Gv
end
section
set_option linter.unusedVariables false
namespace Go.Gv
section
variable {P : Program} {T : TT} {hT : TOk P T} {n : Nat} {c : Ctx} {B0 : Bl} {N : Act → World → Prop} {X : Nat → Act → World → Prop} {Q : Act → World → Prop} {K K' : List Fr} {m m' : Nat} {e e' : SE} {L L' : List Ch} {cf cf1 cf2 : Cfg} {o : Oper} {Lv : List Ch} {d : Nat}
variable {x y z : Operand} {t t2 : TypeId} {k k2 : IntKind} {i j : Int} {α β : Type} {A : Option β} {q : β}
section
variable {l : List UInt8} {b1 : Bool} {n1 : Nat} {z1 : List SV}
end
section
variable [Rep α] {s : AC} {l : List α} {el : TypeId} {b1 b2 : Bool} {n1 sz : Nat} {z1 z2 : List SV} {kt : TK}
theorem hdB {B : Bl} {a : Act} (hA : AEnvS n B e a) {ln : Nat} (h : evS e x = some (.h s ln)) : ev (vE B e) x = some (s.v ln) := by
  obtain ⟨v, h1, h2⟩ := evS_ok hA h
  cases h1; exact h2
theorem undL (ht : lkT T t = some ⟨.sl el, b1, n1, z1⟩) (hT : TOk P T) : P.underlying t = some (.slice el) := by
  obtain ⟨dd, hd1, hd2⟩ := hT.und _ _ ht
  simp only at hd2; subst hd2
  exact hd1
theorem qsb {a b : Nat} (h1 : RdA c s l) (hb : a ≤ b ∧ b ≤ l.length) (hs : opS (stq T n K cf m e L) = some (o, Lv, cf1, cf2, K', m', e', L')) (hd : o.dst = some d) (hr : ∀ B act w, AEnvS n B e' act → Rep.rd c.S0 w [s.v l.length] l → RunV P o (vE B e') w (subV (Rep.n α) a b (s.v l.length)) w)
    (kk : ∀ s', RdA c s' ((l.take b).drop a) → G (.mk P T hT n c B0 N X Q) K' m' ((d, .h s' ((l.take b).drop a).length) :: e') L' cf2) : G (.mk P T hT n c B0 N X Q) K m e L cf := by
  have h2 := rd_sub (n := Rep.n α) (a := a) (b := b) rfl h1 hb.1 hb.2
  obtain ⟨ad, cp, e1, _⟩ := rd_cap h2
  rw [e1] at h2
  exact pu hs hd (fun B act w hA hS => ⟨_, by rw [e1]; simp [toV, gV, cellV], hr B act w hA (keep_S0 hS (f := fRd [s.v l.length] l) h1)⟩) (kk ⟨ad, cp⟩ h2)
theorem qsb_lh (hs : opS (stq T n K cf m e L) = some (o, Lv, cf1, cf2, K', m', e', L')) (ho : (o.op, o.dst) = (.slice t x (some y) (some z) none, some d)) (ht : lkT T t = some ⟨.sl el, b1, n1, z1⟩) (he : lkT T el = some ⟨kt, b2, sz, z2⟩) (hn : Rep.n α = sz) (h1 : RdA c s l) (hx : evS e' x = some (.h s l.length)) (hy : (evS e' y).bind numI = some (k, i)) (hz : (evS e' z).bind numI = some (k2, j)) (hF : need (0 ≤ i ∧ i ≤ j ∧ j ≤ (l.length : Int)) A = some q)
    (kk : A = some q → ∀ s', RdA c s' ((l.take j.toNat).drop i.toNat) → G (.mk P T hT n c B0 N X Q) K' m' ((d, .h s' ((l.take j.toNat).drop i.toNat).length) :: e') L' cf2) : G (.mk P T hT n c B0 N X Q) K m e L cf := by
  have hb := (needE hF).1
  subst hn
  exact qsb h1 (by omega) hs (congrArg Prod.snd ho) (fun B act w hA h => rv_sub_lh h rfl (undL ht hT) (hT.size _ _ he) hb (congrArg Prod.fst ho) (hdB hA hx) (numB hA hy) (numB hA hz)) (kk (needE hF).2)
theorem qsb_h (hs : opS (stq T n K cf m e L) = some (o, Lv, cf1, cf2, K', m', e', L')) (ho : (o.op, o.dst) = (.slice t x none (some z) none, some d)) (ht : lkT T t = some ⟨.sl el, b1, n1, z1⟩) (he : lkT T el = some ⟨kt, b2, sz, z2⟩) (hn : Rep.n α = sz) (h1 : RdA c s l) (hx : evS e' x = some (.h s l.length)) (hz : (evS e' z).bind numI = some (k2, j)) (hF : need (0 ≤ j ∧ j ≤ (l.length : Int)) A = some q)
    (kk : A = some q → ∀ s', RdA c s' ((l.take j.toNat).drop 0) → G (.mk P T hT n c B0 N X Q) K' m' ((d, .h s' ((l.take j.toNat).drop 0).length) :: e') L' cf2) : G (.mk P T hT n c B0 N X Q) K m e L cf := by
  have hb := (needE hF).1
  subst hn
  exact qsb h1 (by omega) hs (congrArg Prod.snd ho) (fun B act w hA h => rv_sub_h h rfl (undL ht hT) (hT.size _ _ he) hb (congrArg Prod.fst ho) (hdB hA hx) (numB hA hz)) (kk (needE hF).2)
end
section
variable {zv : Value} {n1 m1 : Nat} {el : TypeId}
theorem mapO_toV {B : Bl} {xs : List SV} {vs : List Value} (h : mapO (toV []) xs = some vs) : mapO (toV B) xs = some vs := mapO_mono (fun x v h => by simpa using toV_app (B := []) B h) h
theorem qba {ps : Array (Nat × Operand)} {xs : List SV} {vs cells : List Value} (cs : List SV) (hz : ∀ w, (zeroValue t).run P w = .ok zv w) (hu : P.underlying t = some (.array n1 el)) (hp : ∀ w, (sizeOf el).run P w = .ok m1 w) (hs : opS (stq T n K cf m e L) = some (o, Lv, cf1, cf2, K', m', e', L')) (ho : (o.op, o.dst) = (.build t ps, some d)) (hv : mapO (evS e') (ps.toList.map (·.2)) = some xs) (hvs : mapO (toV []) xs = some vs) (hcs : mapO (cellV []) cs = some cells) (hc : Instr.fill (fun i => some (i * m1, m1)) zv.cells ((ps.toList.map (·.1)).zip vs) = some cells.toArray)
    (kk : G (.mk P T hT n c B0 N X Q) K' m' ((d, .g cs) :: e') L' cf2) : G (.mk P T hT n c B0 N X Q) K m e L cf :=
  pu hs (congrArg Prod.snd ho) (fun B a w hA _ => ⟨.agg cells.toArray, by
    simp only [toV, gV]
    rw [mapO_mono (g := cellV B) (fun x v h => by simpa using cellV_app (B := []) B h) hcs], by
    obtain ⟨us, h1, h2⟩ := evs_S hA hv
    rw [mapO_toV hvs] at h1
    cases h1
    exact rv_buildA (ps := ps.toList) (by have := congrArg Prod.fst ho; simpa using this) hz hu hp h2 hc⟩) kk
theorem qai {γ : Type} (f : γ → Value) (g : γ → SV) {l : List γ} {cs : List SV} {kf : γ → Option β} (hu : P.underlying t = some (.array n1 el)) (hz : ∀ w, (sizeOf el).run P w = .ok 1 w) (hg : ∀ w, (isAgg el).run P w = .ok false w) (hgf : ∀ u, toV [] (g u) = some (f u)) (hs : opS (stq T n K cf m e L) = some (o, Lv, cf1, cf2, K', m', e', L')) (ho : (o.op, o.dst) = (.index t x y, some d)) (hx : evS e' x = some (.g cs)) (hcs : mapO (cellV []) cs = some (l.map f)) (hn : l.length = n1) (hy : (evS e' y).bind numI = some (k, i)) (hF : (idx l i).bind kf = some q)
    (kk : ∀ u, idx l i = some u → kf u = some q → G (.mk P T hT n c B0 N X Q) K' m' ((d, g u) :: e') L' cf2) : G (.mk P T hT n c B0 N X Q) K m e L cf := by
  cases hi : idx l i with
  | none => rw [hi] at hF; cases hF
  | some u =>
    rw [hi] at hF
    refine pu hs (congrArg Prod.snd ho) (fun B a w hA _ => ⟨f u, by simpa using toV_app (B := []) B (hgf u), ?_⟩) (kk u hi hF)
    obtain ⟨v, h1, h2⟩ := evS_ok hA hx
    simp only [toV, gV] at h1
    rw [mapO_mono (g := cellV B) (fun x v h => by simpa using cellV_app (B := []) B h) hcs] at h1
    cases h1
    exact rv_arr f hu hz hg hi hn rfl (congrArg Prod.fst ho) h2 (numB hA hy)
end
end
end Go.Gv
end
section
set_option linter.unusedVariables false
namespace Go.Gv
section
variable {P : Program} {T : TT} {hT : TOk P T} {n : Nat} {c : Ctx} {B0 : Bl} {N : Act → World → Prop} {X : Nat → Act → World → Prop} {Q : Act → World → Prop} {K K' : List Fr} {m m' : Nat} {e e' : SE} {L L' : List Ch} {cf cf1 cf2 : Cfg} {o : Oper} {Lv : List Ch} {d : Nat}
theorem chg {g : Gx} {ι : Type} (m2 : ι → Nat) (e2 : ι → SE) (L2 : ι → List Ch) (h : ∀ B a w, B.length = m → AEnvS g.n B e a → StS g.c w B L → ∃ i B', (B ++ B').length = m2 i ∧ AEnvS g.n (B ++ B') (e2 i) a ∧ StS g.c w (B ++ B') (L2 i))
    (hz : ∀ i, Frz g cf L (L2 i)) (k : ∀ i, G g K (m2 i) (e2 i) (L2 i) cf) : G g K m e L cf := by
  have key : ∀ a w, Rel g m e L a w → ∃ i, Rel g (m2 i) (e2 i) (L2 i) a w := fun a w ⟨B, h1, h2, h3⟩ => by
    obtain ⟨i, B', k1, k2, k3⟩ := h _ a w h1 h2 h3
    exact ⟨i, B ++ B', by simpa using k1, by simpa using k2, by simpa using k3⟩
  cases cf with
  | n => exact fun a w hr => let ⟨i, hi⟩ := key a w hr; k i a w hi
  | c x => exact fun a w hr => let ⟨i, hi⟩ := key a w hr; k i a w hi
  | r ops l => exact fun a w hr => let ⟨i, hi⟩ := key a w hr; k i a w hi
  | d B1 ops l is Lf Lv =>
    refine fun hD a w ⟨B, h1, h2, h3, h4⟩ => ?_
    obtain ⟨i, B', k1, k2, k3⟩ := h _ a w h1 h2 h3
    obtain ⟨z1, z2⟩ := hz i hD
    exact k i ⟨hD.pre, hD.len, hD.free, z1, z2, hD.okf, hD.ap⟩ a w ⟨B ++ B', by simpa using k1, by simpa using k2, by simpa using k3, fun w' hw => by
      have := (h4 w' hw).app B'
      simpa using this⟩
  | o B1 ops l is Lf Lv ii =>
    refine fun hD a w ⟨B, h1, h2, h3, h4⟩ => ?_
    obtain ⟨i, B', k1, k2, k3⟩ := h _ a w h1 h2 h3
    obtain ⟨z1, z2⟩ := hz i hD
    exact k i ⟨hD.pre, hD.len, hD.free, z1, z2, hD.okf, hD.ap⟩ a w ⟨B ++ B', by simpa using k1, by simpa using k2, by simpa using k3, fun w' hw => by
      have := (h4 w' hw).app B'
      simpa using this⟩
theorem mks {α β : Type} [Rep α] {x y : Operand} {t el sz : Nat} {i : Int} {zv : Value} {b1 : Bool} {n1 : Nat} {z1 : List SV} {A : Option β} {q : β} (zd : α) (hinf : Inf P el sz zv) (hzd : ∀ w, Rep.own w zv.cells.toList zd F0) (hs : stq T n K cf m e L = .op o Lv cf1 cf2 K' m' e' L') (ho : (o.op, o.dst) = (.makeSlice t x y, some d)) (ht : lkT T t = some ⟨.sl el, b1, n1, z1⟩) (hn : Rep.n α = sz) (hzs : zv.cells.size = sz) (hx : (evS e' x).bind numI = some (.i64, i)) (hy : (evS e' y).bind numI = some (.i64, i)) (hF : need (0 ≤ i ∧ i ≤ 4294967296) A = some q)
    (k : A = some q → ∀ s' : AC, G (.mk P T hT n c B0 N X Q) K' m' ((d, .h s' (List.replicate i.toNat zd).length) :: e') (L' ++ [ow s' (List.replicate i.toNat zd)]) cf2) : G (.mk P T hT n c B0 N X Q) K m e L cf := by
  refine stq_ok (g := .mk P T hT n c B0 N X Q) ?_
  rw [hs]
  intro hdn _ hE
  refine hE AC (fun _ => m') (fun s' => (d, .h s' (List.replicate i.toNat zd).length) :: e') (fun s' => L' ++ [ow s' (List.replicate i.toNat zd)]) (fun _ => frz_app _) (fun B a w next Q' hm hA hS hnext => ?_) (k (needE hF).2)
  obtain ⟨⟨R, s1, s2⟩, s0⟩ := hS
  have hd : o.dst = some d := congrArg Prod.snd ho
  obtain ⟨v, w', k1, k2⟩ := rv_makeN zd s1 hn (undL ht hT) hinf hzs hzd (needE hF).1 (congrArg Prod.fst ho) (numB hA hx) (numB hA hy)
  have hrd : ∃ s' : AC, v = s'.v (List.replicate i.toNat zd).length := by
    have h1 := k2.rdOwn (cs := [v]) (d := List.replicate i.toNat zd) (L'.map (chd (B0S (.mk P T hT n c B0 N X Q) cf1 ++ B))).length (by simp)
    obtain ⟨ad, cp, h2, _⟩ := rd_cap h1
    exact ⟨⟨ad, cp⟩, h2⟩
  obtain ⟨s', rfl⟩ := hrd
  unfold Oper.wp
  rw [k1 _ a hA.env, Oper.upon_value, hd]
  refine hnext s' _ _ ⟨[], by simpa using hm, by simpa using hA.of (by simp [toV, gV, cellV]) (hA.env.put (by rw [hd] at hdn; simpa [dstOk, Nat.blt_eq] using hdn) _), ⟨⟨R, by simpa [chd] using k2, fun x hx => ?_⟩, fun b o hb => Nat.lt_of_lt_of_le (s0 b o hb) (Nat.le_refl _)⟩⟩
  rcases List.mem_append.1 hx with hx | hx
  · simpa using s2 x hx
  · simp at hx; subst hx; exact trivial
end
end Go.Gv
end
section
set_option linter.unusedVariables false
namespace Go.Gv
def Cfg.frz : Cfg → List Nat
  | .d _ _ _ is _ _ => is
  | .o _ _ _ is _ _ _ => is
  | _ => []
theorem kl_setA {L M : List Ch} {j : Nat} {z : Ch} : ∀ {is : List Nat}, (∀ i ∈ is, i < L.length) → notIn j is = true → kl (L.set j z ++ M) is = kl L is
  | [], _, _ => rfl
  | i :: is, h, hn => by
    have hi := h i (by simp)
    have h1 := notIn_ok hn
    have hne : j ≠ i := fun he => h1 (by simp [he])
    have h2 : (L.set j z ++ M)[i]? = L[i]? := by rw [List.getElem?_append_left (by simpa using hi), List.getElem?_set_ne hne]
    have h3 : notIn j is = true := by
      unfold notIn at hn
      split at hn
      · cases hn
      · exact hn
    simp only [kl, h2, kl_setA (fun i hi => h i (List.mem_cons_of_mem _ hi)) h3]
theorem kl_appA {L M : List Ch} : ∀ {is : List Nat}, (∀ i ∈ is, i < L.length) → kl (L ++ M) is = kl L is
  | [], _ => rfl
  | i :: is, h => by
    simp only [kl, List.getElem?_append_left (h i (by simp)), kl_appA (M := M) (fun i hi => h i (List.mem_cons_of_mem _ hi))]
theorem frz_set {g : Gx} {cf : Cfg} {L M : List Ch} {j : Nat} {z : Ch} (hn : notIn j cf.frz = true) : Frz g cf L (L.set j z ++ M) := by
  cases cf with
  | d B1 ops l is Lf Lv =>
    exact fun hD => ⟨(kl_setA hD.rng hn).trans hD.frz, fun i hi => by have := hD.rng i hi; simp; omega⟩
  | o B1 ops l is Lf Lv i =>
    exact fun hD => ⟨(kl_setA hD.rng hn).trans hD.frz, fun i hi => by have := hD.rng i hi; simp; omega⟩
  | _ => trivial
theorem st_addNo {c : Ctx} {w : World} {A : List Chunk} {R : List Fact} (h : St c w A R) : St c w (A ++ [cNo]) R := by
  obtain ⟨F, S, h1, rest⟩ := h.sep
  exact ⟨h.keep, ⟨F, S, Sep.append.2 ⟨F, F0, h1, Sep.one.2 (fun _ _ h => h), fun _ _ _ h => h, fun b o => by simp [F0]⟩, rest⟩, h.apart⟩
structure CO (α : Type) [Rep α] where
  ex : Type
  cs : α → ex → List SV
  Lx : α → ex → List Ch
  op : ∀ {w F ec q}, Rep.own w ec q F → ∃ y, mapO (cellV []) (cs q y) = some ec
  pk : ∀ {q y ec}, mapO (cellV []) (cs q y) = some ec → OP ec q ((Lx q y).map (chd []))
  no : ∀ q y, noF (Lx q y) = true
  nb : ∀ q y B, (Lx q y).map (chd B) = (Lx q y).map (chd [])
section
variable {P : Program} {T : TT} {hT : TOk P T} {n : Nat} {c : Ctx} {B0 : Bl} {N : Act → World → Prop} {X : Nat → Act → World → Prop} {Q : Act → World → Prop} {K K' : List Fr} {m m' : Nat} {e e' : SE} {L L' : List Ch} {cf cf1 cf2 : Cfg} {o : Oper} {Lv : List Ch} {d : Nat}
theorem chg2 {g : Gx} {ι : Type} (m2 : ι → Nat) (e2 : ι → SE) (L2 : ι → List Ch) (Ln : ι → List Ch) (h : ∀ B a w, B.length = m → AEnvS g.n B e a → StS g.c w B L → ∃ i B', (B ++ B').length = m2 i ∧ AEnvS g.n (B ++ B') (e2 i) a ∧ StS g.c w (B ++ B') (L2 i) ∧ ∀ w' M, StS g.c w' B M → StS g.c w' (B ++ B') (M ++ Ln i))
    (hz : ∀ i, Frz g cf L (L2 i)) (k : ∀ i, G g K (m2 i) (e2 i) (L2 i) (cf.ext (Ln i))) : G g K m e L cf := by
  have key : ∀ a w, Rel g m e L a w → ∃ i, Rel g (m2 i) (e2 i) (L2 i) a w := fun a w ⟨B, h1, h2, h3⟩ => by
    obtain ⟨i, B', k1, k2, k3, _⟩ := h _ a w h1 h2 h3
    exact ⟨i, B ++ B', by simpa using k1, by simpa using k2, by simpa using k3⟩
  cases cf with
  | n => exact fun a w hr => let ⟨i, hi⟩ := key a w hr; k i a w hi
  | c x => exact fun a w hr => let ⟨i, hi⟩ := key a w hr; k i a w hi
  | r ops l => exact fun a w hr => let ⟨i, hi⟩ := key a w hr; k i a w hi
  | d B1 ops l is Lf Lv =>
    refine fun hD a w ⟨B, h1, h2, h3, h4⟩ => ?_
    obtain ⟨i, B', k1, k2, k3, k4⟩ := h _ a w h1 h2 h3
    obtain ⟨z1, z2⟩ := hz i hD
    exact k i ⟨hD.pre, hD.len, hD.free, z1, z2, hD.okf, hD.ap⟩ a w ⟨B ++ B', by simpa using k1, by simpa using k2, by simpa using k3, fun w' hw => by
      have := k4 w' _ (h4 w' hw)
      simpa using this⟩
  | o B1 ops l is Lf Lv ii =>
    refine fun hD a w ⟨B, h1, h2, h3, h4⟩ => ?_
    obtain ⟨i, B', k1, k2, k3, k4⟩ := h _ a w h1 h2 h3
    obtain ⟨z1, z2⟩ := hz i hD
    exact k i ⟨hD.pre, hD.len, hD.free, z1, z2, hD.okf, hD.ap⟩ a w ⟨B ++ B', by simpa using k1, by simpa using k2, by simpa using k3, fun w' hw => by
      have := k4 w' _ (h4 w' hw)
      simpa using this⟩
abbrev Shp (s : AC) (len : Nat) : Prop := ∃ b off m, s.v len = .slice (some ⟨b, off, none⟩) len m ∧ len ≤ maxLen
abbrev wOf (α : Type) [Rep α] (nb : Nat) (s : AC) (len i : Nat) : Ch := .w nb (elB (s.v len)) (elO (Rep.n α) i (s.v len))
theorem oe {α β : Type} [Rep α] (E : CO α) (j : Nat) {t : TypeId} {s : AC} {i : Int} {ls : List α} {kf : α → Option β} {q : β} (hs : stq T n K cf m e L = .idx o d t s ls.length i Lv cf1 cf2 K' m' e' L') (hj : L'[j]? = some (ow s ls)) (hz : notIn j cf1.frz = true) (hF : (idx ls i).bind kf = some q)
    (k : ∀ x, idx ls i = some x → kf x = some q → ∀ y : E.ex, Shp s ls.length → G (.mk P T hT n c B0 N X Q) K' (m' + 1) e' (L'.set j .no ++ ([.o (cHole (s.v ls.length) ls i.toNat), .box m' (E.cs x y), wOf α m' s ls.length i.toNat] ++ E.Lx x y)) (cf1.ext [wOf α m' s ls.length i.toNat])) : G (.mk P T hT n c B0 N X Q) K m e L cf := by
  refine stq_ok (g := .mk P T hT n c B0 N X Q) ?_
  rw [hs]
  intro x' y' ho hd hx hy hP
  cases hi : idx ls i with
  | none => rw [hi] at hF; cases hF
  | some x =>
    rw [hi] at hF
    refine chg2 (fun _ => m' + 1) (fun _ => e') (fun y : {y : E.ex // Shp s ls.length} => L'.set j .no ++ ([.o (cHole (s.v ls.length) ls i.toNat), .box m' (E.cs x y.1), wOf α m' s ls.length i.toNat] ++ E.Lx x y.1)) (fun _ => [wOf α m' s ls.length i.toNat]) (fun B a w hm hA hS => ?_) (fun y => frz_set hz) (fun y => k x hi hF y.1 y.2)
    obtain ⟨⟨R, s1, s2⟩, s0⟩ := hS
    have hj2 : (L'.map (chd B))[j]? = some (cOwn [s.v ls.length] ls) := by simp [hj, chd]
    obtain ⟨ec, h1⟩ := s1.open j hj2 (idx_some hi).2.2
    have hlen : ((L'.map (chd B)).set j cNo).length = L'.length := by simp
    have hsh : Shp s ls.length := hole_rd (k := i.toNat) h1 L'.length (by rw [List.getElem?_append_right (by omega)]; simp)
    obtain ⟨F, hF'⟩ := h1.chunk (L'.length + 2) (by rw [List.getElem?_append_right (by omega)]; simp; rfl)
    obtain ⟨y, hy2⟩ := E.op (show Rep.own w ec x F from hF')
    have h2 := h1.unpack (L'.length + 2) (by rw [List.getElem?_append_right (by omega)]; simp) (E.pk hy2)
    have hset : ((L'.map (chd B)).set j cNo ++ [cHole (s.v ls.length) ls i.toNat, cAt (elB (s.v ls.length)) (elO (Rep.n α) i.toNat (s.v ls.length)) ec, cOwn ec x]).set (L'.length + 2) cNo = (L'.map (chd B)).set j cNo ++ [cHole (s.v ls.length) ls i.toNat, cAt (elB (s.v ls.length)) (elO (Rep.n α) i.toNat (s.v ls.length)) ec, cNo] := by
      rw [List.set_append_right _ _ (by omega)]
      simp
    rw [hset] at h2
    refine ⟨⟨y, hsh⟩, [(elB (s.v ls.length), elO (Rep.n α) i.toNat (s.v ls.length))], by simp [hm], hA.app _, ⟨⟨R, ?_, fun z hz => ?_⟩, s0⟩, fun w' M hM => ?_⟩
    · have e1 : (L'.set j Ch.no).map (chd B) = (L'.map (chd B)).set j cNo := by rw [List.map_set]; rfl
      refine h2.imp ?_
      rw [List.map_append, List.map_append, ← e1, List.append_assoc]
      refine ImpL.append (imp_app _ _) (ImpL.append (.cons (fun _ h => h) (.cons (fun F h => ⟨_, _, ec, by simp [← hm], mapO_mono (fun x v h => by simpa using cellV_app (B := []) _ h) hy2, h⟩) (.cons (fun _ h => h) .nil))) ?_)
      have := imp_app (B := []) (B ++ [(elB (s.v ls.length), elO (Rep.n α) i.toNat (s.v ls.length))]) (w := w) (E.Lx x y)
      simpa using this
    · rcases List.mem_append.1 hz with hz | hz
      · rcases List.mem_or_eq_of_mem_set hz with hz | hz
        · exact roF_app _ (s2 z hz)
        · subst hz; trivial
      · rcases List.mem_append.1 hz with hz | hz
        · simp at hz
          rcases hz with rfl | rfl | rfl
          · trivial
          · trivial
          · show (B ++ _)[m']? = _
            simp [← hm]
        · exact noF_ok (E.no x y) z hz
    · obtain ⟨⟨R', t1, t2⟩, t0⟩ := hM.app [(elB (s.v ls.length), elO (Rep.n α) i.toNat (s.v ls.length))]
      refine ⟨⟨R', by simpa [chd] using st_addNo t1, fun z hz => ?_⟩, t0⟩
      rcases List.mem_append.1 hz with hz | hz
      · exact t2 z hz
      · simp at hz; subst hz
        show (B ++ _)[m']? = _
        simp [← hm]
theorem ie {α : Type} [Rep α] (p : Nat) {t el sz : Nat} {s : AC} {i : Int} {ls : List α} {x : α} {nb : Nat} {b1 b2 : Bool} {n1 : Nat} {z1 z2 : List SV} {k2 : TK} (hsh : Shp s ls.length) (hs : stq T n K cf m e L = .idx o d t s ls.length i Lv cf1 cf2 K' m' e' L') (hi : idx ls i = some x) (hw : Lv[p]? = some (wOf α nb s ls.length i.toNat)) (ht : lkT T t = some ⟨.sl el, b1, n1, z1⟩) (he : lkT T el = some ⟨k2, b2, sz, z2⟩) (hn : Rep.n α = sz)
    (k : G (.mk P T hT n c B0 N X Q) K' m' ((d, .p nb 0) :: e') L' cf2) : G (.mk P T hT n c B0 N X Q) K m e L cf := by
  refine stq_ok (g := .mk P T hT n c B0 N X Q) ?_
  rw [hs]
  intro x' y' ho hd hx hy hP
  subst hn
  refine hP d (.p nb 0) [] (fun _ => []) 0 hd (fun _ => rfl) (fun B a w hA hS hm => ?_) (fun B w L _ hS => by simpa using hS) (by rw [ext_nil]; simpa using k)
  obtain ⟨v, g1, g2⟩ := evS_ok hA hx
  obtain ⟨u, g3, g4⟩ := evS_ok hA hy
  cases g1; cases g3
  obtain ⟨⟨R, s1, s2⟩, s0⟩ := hS
  have hB : B[nb]? = some (elB (s.v ls.length), elO (Rep.n α) i.toNat (s.v ls.length)) := s2 _ (List.mem_of_getElem? hw)
  exact ⟨_, by simp [toV, gV, cellV, hB], rv_idxH (P := P) (o := o) (w := w) hsh rfl hi (undL ht hT) (hT.size _ _ he) ho g2 g4⟩
def blk : List Ch → List Nat → List Ch
  | L, [] => L
  | L, i :: r => blk (L.set i .no) r
theorem blk_map {B : Bl} : ∀ (js : List Nat) (L : List Ch), (blk L js).map (chd B) = blank (L.map (chd B)) js
  | [], L => rfl
  | j :: js, L => by simp only [blk, blank]; rw [blk_map js, List.map_set]; rfl
theorem blk_mem {x : Ch} : ∀ (js : List Nat) (L : List Ch), x ∈ blk L js → x ∈ L ∨ x = .no
  | [], L, h => .inl h
  | j :: js, L, h => by
    rcases blk_mem js _ h with h | h
    · exact List.mem_or_eq_of_mem_set h
    · exact .inr h
theorem frz_blk {g : Gx} {cf : Cfg} {M : List Ch} : ∀ (js : List Nat) {L : List Ch}, (js.all fun j => notIn j cf.frz) = true → Frz g cf L (blk L js ++ M) := by
  intro js L hj
  have main : ∀ {B1 : Bl} {ops : Array Oper} {l : List Bool} {is : List Nat} {Lf : List Ch}, (js.all fun j => notIn j is) = true → DInv g B1 ops l is Lf L → kl (blk L js ++ M) is = Lf ∧ ∀ j ∈ is, j < (blk L js ++ M).length := by
    intro B1 ops l is Lf hj hD
    have key : ∀ (js : List Nat) (L : List Ch), (js.all fun j => notIn j is) = true → (∀ i ∈ is, i < L.length) → kl (blk L js ++ M) is = kl L is ∧ (blk L js).length = L.length := by
      intro js
      induction js with
      | nil =>
        intro L _ hr
        exact ⟨kl_appA hr, rfl⟩
      | cons j js ih =>
        intro L hj hr
        simp only [List.all_cons, Bool.and_eq_true] at hj
        obtain ⟨h1, h2⟩ := ih (L.set j .no) hj.2 (fun i hi => by simpa using hr i hi)
        refine ⟨h1.trans ?_, by simpa [blk] using h2⟩
        have := kl_setA (M := []) (z := .no) hr hj.1
        simpa using this
    obtain ⟨k1, k2⟩ := key js L hj hD.rng
    exact ⟨k1.trans hD.frz, fun i hi => by have := hD.rng i hi; simp [k2]; omega⟩
  cases cf with
  | d B1 ops l is Lf Lv => exact fun hD => main hj hD
  | o B1 ops l is Lf Lv i => exact fun hD => main hj hD
  | _ => trivial
def ovh (v : SV) (e : SE) : List Nat → SE
  | [] => e
  | k :: ks => (k, v) :: ovh v e ks
theorem ovh_env {v : SV} {B : Bl} {a : Act} : ∀ (ks : List Nat), mapO (lkS e) ks = some (ks.map fun _ => v) → AEnvS n B e a → AEnvS n B (ovh v e ks) a := by
  intro ks
  have key : ∀ (ks : List Nat), mapO (lkS e) ks = some (ks.map fun _ => v) → ∀ k ∈ ks, lkS e k = some v := by
    intro ks
    induction ks with
    | nil => intro _ k hk; cases hk
    | cons s ks ih =>
      intro hs
      simp only [mapO, List.map_cons] at hs
      split at hs
      · cases hs
      · rename_i h1
        split at hs
        · cases hs
        · rename_i h2
          cases hs
          intro k hk
          rcases List.mem_cons.1 hk with hk | hk
          · subst hk; exact h1
          · exact ih h2 k hk
  intro hs hA
  have hk := key ks hs
  clear hs key
  have lk2 : ∀ k x, lkS (ovh v e ks) k = some x → lkS e k = some x := by
    induction ks with
    | nil => exact fun k x h => h
    | cons j ks ih =>
      intro k x h
      simp only [ovh, lkS] at h
      split at h
      · rename_i hb
        have := Nat.eq_of_beq_eq_true hb
        subst this
        cases h
        exact hk k (by simp)
      · exact ih (fun k hk' => hk k (List.mem_cons_of_mem _ hk')) k x h
  exact ⟨hA.d, hA.size, fun k x h => hA.get k x (lk2 k x h)⟩
theorem pick_kl {B : Bl} : ∀ {is : List Nat} {M : List Ch}, mapO (fun i => L[i]?) is = some M → pick (L.map (chd B)) is = M.map (chd B)
  | [], M, h => by cases h; rfl
  | i :: is, M, h => by
    simp only [mapO] at h
    split at h
    · cases h
    · rename_i h1
      split at h
      · cases h
      · rename_i h2
        cases h
        simp only [pick, List.getElem?_map, h1, Option.map_some, Option.getD_some, pick_kl h2, List.map_cons]
theorem ce_rel {α : Type} [Rep α] (E : CO α) (h b v : Nat) (is ks : List Nat) {s : AC} {l : List α} {k nb : Nat} (x : α) (y : E.ex) {cs0 : List SV} {ec : List Value} (hs : L[h]? = some (.o (cHole (s.v l.length) l k))) (hb : L[b]? = some (.box nb cs0)) (hv : L[v]? = some (wOf α nb s l.length k)) (hi : mapO (fun i => L[i]?) is = some (E.Lx x y)) (hc : nbL cs0 = E.cs x y) (hec : mapO (cellV []) (E.cs x y) = some ec) (ha : apartB (h :: b :: is) = true) (hk : mapO (lkS e) ks = some (ks.map fun _ => .h s l.length)) {B : Bl} {a : Act} {w : World} (hA : AEnvS n B e a) (hS : StS c w B L) :
    AEnvS n B (ovh (.h s (l.set k x).length) e ks) a ∧ StS c w B (blk L (h :: b :: is) ++ [ow s (l.set k x)]) := by
  have hlen : (l.set k x).length = l.length := List.length_set
  unfold ow
  rw [hlen]
  refine ⟨ovh_env ks hk hA, ?_⟩
  obtain ⟨⟨R, s1, s2⟩, s0⟩ := hS
  have hB : B[nb]? = some (elB (s.v l.length), elO (Rep.n α) k (s.v l.length)) := s2 _ (List.mem_of_getElem? hv)
  refine ⟨⟨R, ?_, fun z hz => ?_⟩, s0⟩
  · rw [List.map_append, blk_map]
    refine s1.shift (h :: b :: is) ha fun F hF => ?_
    simp only [pick, List.getElem?_map, hs, hb, Option.map_some, Option.getD_some, pick_kl hi, E.nb] at hF
    have hE : mapO (cellV B) cs0 = some ec := by rw [← nbL_map, hc]; exact mapO_mono (fun x v h => by simpa using cellV_app (B := []) B h) hec
    have h2 : Sep w ([cHole (s.v l.length) l k, cAt (elB (s.v l.length)) (elO (Rep.n α) k (s.v l.length)) ec] ++ (E.Lx x y).map (chd [])) F := by
      refine Sep.imp (.cons (fun _ h => h) (.cons (fun F h => ?_) (ImpL.refl _))) hF
      obtain ⟨bb, z, vs, k1, k2, k3⟩ := h
      rw [hB] at k1; cases k1
      rw [hE] at k2; cases k2
      exact k3
    obtain ⟨F1, F2, g1, g2, gd, gF⟩ := Sep.append.1 h2
    have h3 : Sep w ([cHole (s.v l.length) l k, cAt (elB (s.v l.length)) (elO (Rep.n α) k (s.v l.length)) ec] ++ [cOwn ec x]) F := Sep.append.2 ⟨F1, F2, g1, Sep.one.2 ((E.pk hec w F2).2 g2), gd, gF⟩
    exact Sep.one.2 (own_close h3)
  · rcases List.mem_append.1 hz with hz | hz
    · rcases blk_mem _ _ hz with hz | hz
      · exact s2 z hz
      · subst hz; trivial
    · simp at hz; subst hz; trivial
theorem ce {α : Type} [Rep α] (E : CO α) (h b v : Nat) (is ks : List Nat) {s : AC} {l : List α} {k nb : Nat} (x : α) (y : E.ex) {cs0 : List SV} {ec : List Value} (hs : L[h]? = some (.o (cHole (s.v l.length) l k))) (hb : L[b]? = some (.box nb cs0)) (hv : L[v]? = some (wOf α nb s l.length k)) (hi : mapO (fun i => L[i]?) is = some (E.Lx x y)) (hc : nbL cs0 = E.cs x y) (hec : mapO (cellV []) (E.cs x y) = some ec) (ha : apartB (h :: b :: is) = true) (hz : ((h :: b :: is).all fun j => notIn j cf.frz) = true) (hk : mapO (lkS e) ks = some (ks.map fun _ => .h s l.length))
    (kk : G (.mk P T hT n c B0 N X Q) K m (ovh (.h s (l.set k x).length) e ks) (blk L (h :: b :: is) ++ [ow s (l.set k x)]) cf) : G (.mk P T hT n c B0 N X Q) K m e L cf := by
  refine chg (fun _ : Unit => m) (fun _ => ovh (.h s (l.set k x).length) e ks) (fun _ => blk L (h :: b :: is) ++ [ow s (l.set k x)]) (fun B a w hm hA hS => ?_) (fun _ => frz_blk _ hz) (fun _ => kk)
  obtain ⟨h1, h2⟩ := ce_rel E h b v is ks x y hs hb hv hi hc hec ha hk hA hS
  exact ⟨(), [], by simpa using hm, by simpa using h1, by simpa using h2⟩
end
end Go.Gv
end
section
set_option linter.unusedVariables false
namespace Go.Gv
section
variable {P : Program} {T : TT} {hT : TOk P T} {n : Nat} {c : Ctx} {B0 : Bl} {N : Act → World → Prop} {X : Nat → Act → World → Prop} {Q : Act → World → Prop} {K K' : List Fr} {m m' : Nat} {e e' : SE} {L L' : List Ch} {cf cf' : Cfg}
theorem ceS {α : Type} [Rep α] (E : CO α) (h : Nat) (is ks : List Nat) {s : AC} {l : List α} {k nb : Nat} (x : α) (y : E.ex) {cs0 : List SV} {ec : List Value} (h0 : cfgS (stq T n K cf m e L) = some (K', cf', m', e', L')) (hs : L'[h]? = some (.o (cHole (s.v l.length) l k))) (hb : L'[h + 1]? = some (.box nb cs0)) (hv : L'[h + 2]? = some (wOf α nb s l.length k)) (hi : mapO (fun i => L'[i]?) is = some (E.Lx x y)) (hc : nbL cs0 = E.cs x y) (hec : mapO (cellV []) (E.cs x y) = some ec) (ha : apartB (h :: (h + 1) :: is) = true) (hz : ((h :: (h + 1) :: is).all fun j => notIn j cf'.frz) = true) (hk : mapO (lkS e') ks = some (ks.map fun _ => .h s l.length))
    (kk : G (.mk P T hT n c B0 N X Q) K' m' (ovh (.h s (l.set k x).length) e' ks) (blk L' (h :: (h + 1) :: is) ++ [ow s (l.set k x)]) cf') : G (.mk P T hT n c B0 N X Q) K m e L cf :=
  stq_ok (g := .mk P T hT n c B0 N X Q) (cfgS_ok h0 (ce E h (h + 1) (h + 2) is ks x y hs hb hv hi hc hec ha hz hk kk))
theorem sF (hs : stq T n K cf m e L = .fin m' e' L') (h : ∀ a w, RelN n c B0 m' e' L' a w → N a w) : G (.mk P T hT n c B0 N X Q) K m e L cf :=
  stq_ok (g := .mk P T hT n c B0 N X Q) (by rw [hs]; exact h)
theorem nxR {σ ρ υ : Type} {o : Step σ ρ} {mj : Nat} {el : σ → υ → SE} {Ll : σ → υ → List Ch} {s : σ} (u : υ) (is : List Nat) (hG : some (Step.next s) = some o) (h : asT B0.length m' e' L' is mj (el s u) (Ll s u) = some (el s u, Ll s u)) : ∀ a w, RelN n c B0 m' e' L' a w → NxP n c B0 o mj el Ll a w := by
  cases hG
  exact fun a w hr => ⟨s, u, rfl, hr.asT is h⟩
theorem jnR {π υ : Type} {eq : π → Prop} {mj : Nat} {ej : π → υ → SE} {Lj : π → υ → List Ch} {p : π} (u : υ) (is : List Nat) (hF : eq p) (h : asT B0.length m' e' L' is mj (ej p u) (Lj p u) = some (ej p u, Lj p u)) : ∀ a w, RelN n c B0 m' e' L' a w → JP n c B0 eq mj ej Lj a w :=
  fun a w hr => ⟨p, u, hF, RelN.asT hr is h⟩
theorem ceR {Z : Act → World → Prop} {α : Type} [Rep α] (E : CO α) (h : Nat) (is ks : List Nat) {s : AC} {l : List α} {k nb : Nat} (x : α) (y : E.ex) {cs0 : List SV} {ec : List Value} (hs : L[h]? = some (.o (cHole (s.v l.length) l k))) (hb : L[h + 1]? = some (.box nb cs0)) (hv : L[h + 2]? = some (wOf α nb s l.length k)) (hi : mapO (fun i => L[i]?) is = some (E.Lx x y)) (hc : nbL cs0 = E.cs x y) (hec : mapO (cellV []) (E.cs x y) = some ec) (ha : apartB (h :: (h + 1) :: is) = true) (hk : mapO (lkS e) ks = some (ks.map fun _ => .h s l.length))
    (kk : ∀ a w, RelN n c B0 m (ovh (.h s (l.set k x).length) e ks) (blk L (h :: (h + 1) :: is) ++ [ow s (l.set k x)]) a w → Z a w) : ∀ a w, RelN n c B0 m e L a w → Z a w := by
  intro a w ⟨B, hm, hA, hS⟩
  obtain ⟨h1, h2⟩ := ce_rel E h (h + 1) (h + 2) is ks x y hs hb hv hi hc hec ha hk hA hS
  exact kk a w ⟨B, hm, h1, h2⟩
end
def wAt (n : Nat) : List Ch → Option (Nat × Nat)
  | [] => none
  | .w k b z :: L => match Nat.beq n k with
    | true => some (b, z)
    | false => wAt n L
  | _ :: L => wAt n L
theorem wAt_mem {n b z : Nat} : ∀ {L : List Ch}, wAt n L = some (b, z) → Ch.w n b z ∈ L
  | [], h => by cases h
  | x :: L, h => by
    cases x with
    | w k b' z' =>
      simp only [wAt] at h
      split at h
      · rename_i hb
        have := Nat.eq_of_beq_eq_true hb
        subst this
        cases h; simp
      · exact List.mem_cons_of_mem _ (wAt_mem h)
    | box k cs => exact List.mem_cons_of_mem _ (wAt_mem (L := L) h)
    | ro k cs => exact List.mem_cons_of_mem _ (wAt_mem (L := L) h)
    | o ch => exact List.mem_cons_of_mem _ (wAt_mem (L := L) h)
    | f g => exact List.mem_cons_of_mem _ (wAt_mem (L := L) h)
    | no => exact List.mem_cons_of_mem _ (wAt_mem (L := L) h)
section
variable {P : Program} {T : TT} {hT : TOk P T} {n : Nat} {c : Ctx} {B0 : Bl} {N : Act → World → Prop} {X : Nat → Act → World → Prop} {Q : Act → World → Prop} {K K' : List Fr} {m m' : Nat} {e e' : SE} {L L' Lv : List Ch} {cf cf1 cf2 : Cfg} {o : Oper} {d : Nat}
theorem ieW {α : Type} [Rep α] (nb : Nat) {t el sz : Nat} {s : AC} {i : Int} {ls : List α} {x : α} {b1 b2 : Bool} {n1 : Nat} {z1 z2 : List SV} {k2 : TK} (hsh : Shp s ls.length) (hi : idx ls i = some x) (hs : stq T n K cf m e L = .idx o d t s ls.length i Lv cf1 cf2 K' m' e' L') (hw : wAt nb Lv = some (elB (s.v ls.length), elO (Rep.n α) i.toNat (s.v ls.length))) (ht : lkT T t = some ⟨.sl el, b1, n1, z1⟩) (he : lkT T el = some ⟨k2, b2, sz, z2⟩) (hn : Rep.n α = sz)
    (k : G (.mk P T hT n c B0 N X Q) K' m' ((d, .p nb 0) :: e') L' cf2) : G (.mk P T hT n c B0 N X Q) K m e L cf := by
  obtain ⟨p, hp⟩ := List.mem_iff_getElem?.1 (wAt_mem hw)
  exact ie p hsh hs hi hp ht he hn k
end
def Cel.o {α : Type} [Rep α] (C : Cel α) (Lx : α → C.ex → List Ch) (pk : ∀ {q y ec}, mapO (cellV []) (C.cs q y) = some ec → OP ec q ((Lx q y).map (chd []))) (no : ∀ q y, noF (Lx q y) = true) (nb : ∀ q y B, (Lx q y).map (chd B) = (Lx q y).map (chd [])) : CO α :=
  ⟨C.ex, C.cs, Lx, fun h => let ⟨y, h1, _⟩ := C.ok (Rep.own_rd h); ⟨y, h1⟩, pk, no, nb⟩
def oI : CO Int := cI.o (fun _ _ => []) (fun h => by cases h; exact op_flat rfl) (fun _ _ => rfl) (fun _ _ _ => rfl)
def oB : CO Bool := cB.o (fun _ _ => []) (fun h => by cases h; exact op_flat rfl) (fun _ _ => rfl) (fun _ _ _ => rfl)
theorem own0 {α : Type} [Rep α] [Flat α] {cs : List Value} {d : α} (h : Rep.rd F0 default cs d) (w : World) : Rep.own w cs d F0 := Flat.own_of h
end Go.Gv
end
section
set_option linter.unusedVariables false
namespace Go.Gv
section
variable {P : Program} {T : TT} {hT : TOk P T} {n : Nat} {c : Ctx} {B0 : Bl} {N : Act → World → Prop} {X : Nat → Act → World → Prop} {Q : Act → World → Prop} {K K' : List Fr} {m m' : Nat} {e e' : SE} {L L' : List Ch} {cf : Cfg}
variable {b : Bool} {α : Type} {A B' : Option α} {q : Option α}
theorem csK {o : Operand} {x y : Code} (ss : List Nat) (hs : stq T n K cf m e L = .cond o b x y K' m' e' L') (ho : mapO (lkS e') ss = some (ss.map fun _ => SV.b b)) (hF : (if b = true then A else B') = q)
    (k1 : b = true → A = q → G (.mk P T hT n c B0 N X Q) K' m' (ovr true e' ss) L' (.c x)) (k2 : b = false → B' = q → G (.mk P T hT n c B0 N X Q) K' m' (ovr false e' ss) L' (.c y)) : G (.mk P T hT n c B0 N X Q) K m e L cf :=
  stq_ok (g := .mk P T hT n c B0 N X Q) (by
    rw [hs]
    intro he a w hr
    have ⟨B, hm, hA, hS⟩ := hr
    obtain ⟨v, h1, h2⟩ := evS_ok hA he
    cases h1
    refine cw_cond hA.env h2 (fun hc => ?_) (fun hc => ?_)
    · rw [if_pos hc] at hF
      exact k1 hc hF a w (ovr_rel hc ss ho hr)
    · rw [if_neg (by rw [hc]; simp)] at hF
      exact k2 hc hF a w (ovr_rel hc ss ho hr))
theorem caK {cf' : Cfg} (ss : List Nat) (hs : stq T n K cf m e L = .case b cf' K' m' e' L') (ho : mapO (lkS e') ss = some (ss.map fun _ => SV.b b)) (hF : (if b = true then A else B') = q)
    (k1 : b = true → A = q → G (.mk P T hT n c B0 N X Q) K' m' (ovr true e' ss) L' cf') (k2 : b = false → B' = q → G (.mk P T hT n c B0 N X Q) K' m' (ovr false e' ss) L' cf') : G (.mk P T hT n c B0 N X Q) K m e L cf :=
  stq_ok (g := .mk P T hT n c B0 N X Q) (by
    rw [hs]
    cases b with
    | true => exact G_mono (fun a B hA => ovr_env rfl ss ho hA) (k1 rfl (by simpa using hF))
    | false => exact G_mono (fun a B hA => ovr_env rfl ss ho hA) (k2 rfl (by simpa using hF)))
end
end Go.Gv
end
section
set_option linter.unusedVariables false
namespace Go.Gv
section
variable {P : Program} {T : TT} {hT : TOk P T} {n : Nat} {c : Ctx} {B0 : Bl} {N : Act → World → Prop} {X : Nat → Act → World → Prop} {Q : Act → World → Prop} {K K' : List Fr} {m m' : Nat} {e e' : SE} {L L' Lv : List Ch} {cf cf1 cf2 : Cfg} {o : Oper} {d : Nat}
theorem estp {α : Type} [Rep α] {l : List α} (L2 : AC → List Ch) (hs : stq T n K cf m e L = .op o Lv cf1 cf2 K' m' e' L') (hd : o.dst = some d) (hz : ∀ s', Frz (.mk P T hT n c B0 N X Q) cf1 L' (L2 s')) (h : ∀ B a w, AEnvS n B e' a → StS c w B L' → ∃ s' w', RunV P o (vE B e') w (AC.v s' l.length) w' ∧ StS c w' B (L2 s'))
    (k : ∀ s' : AC, G (.mk P T hT n c B0 N X Q) K' m' ((d, .h s' l.length) :: e') (L2 s') cf2) : G (.mk P T hT n c B0 N X Q) K m e L cf := by
  refine stq_ok (g := .mk P T hT n c B0 N X Q) ?_
  rw [hs]
  intro hdn _ hE
  refine hE AC (fun _ => m') (fun s' => (d, .h s' l.length) :: e') L2 hz (fun B a w next Q' hm hA hS hnext => ?_) k
  obtain ⟨s', w', k1, k2⟩ := h _ a w hA hS
  unfold Oper.wp
  rw [k1 _ a hA.env, Oper.upon_value, hd]
  exact hnext s' _ _ ⟨[], by simpa using hm, by simpa using hA.of (by simp [toV, gV, cellV]) (hA.env.put (by rw [hd] at hdn; simpa [dstOk, Nat.blt_eq] using hdn) _), by simpa using k2⟩
theorem own_AC {α : Type} [Rep α] {w : World} {A : List Chunk} {R : List Fact} {v : Value} {l : List α} (h : St c w A R) (i : Nat) (hi : A[i]? = some (cOwn [v] l)) : ∃ s' : AC, v = s'.v l.length := by
  obtain ⟨ad, cp, h2, _⟩ := rd_cap (h.rdOwn i hi)
  exact ⟨⟨ad, cp⟩, h2⟩
section
variable {x y : Operand} {t el sz : Nat} {zv : Value} {b1 : Bool} {n1 : Nat} {z1 : List SV}
theorem lt0 {α : Type} [Rep α] (hinf : Inf P el sz zv) (hs : stq T n K cf m e L = .op o Lv cf1 cf2 K' m' e' L') (ho : (o.op, o.dst) = (.buildSlice t 0 #[], some d)) (ht : lkT T t = some ⟨.sl el, b1, n1, z1⟩) (hn : Rep.n α = sz)
    (k : ∀ s' : AC, G (.mk P T hT n c B0 N X Q) K' m' ((d, .h s' ([] : List α).length) :: e') (L' ++ [ow s' ([] : List α)]) cf2) : G (.mk P T hT n c B0 N X Q) K m e L cf := by
  refine estp (l := ([] : List α)) (fun s' => L' ++ [ow s' ([] : List α)]) hs (congrArg Prod.snd ho) (fun _ => frz_app _) (fun B a w hA hS => ?_) k
  obtain ⟨⟨R, s1, s2⟩, s0⟩ := hS
  obtain ⟨v, w', k1, k2⟩ := rv_lit0 (α := α) (e := vE B e') (o := o) s1 hn (undL ht hT) hinf (congrArg Prod.fst ho)
  obtain ⟨s', rfl⟩ := own_AC (v := v) (l := ([] : List α)) k2 (L'.map (chd B)).length (by simp)
  refine ⟨s', w', k1, ⟨⟨R, by simpa [chd] using k2, fun z hz => ?_⟩, s0⟩⟩
  rcases List.mem_append.1 hz with hz | hz
  · exact s2 z hz
  · simp at hz; subst hz; trivial
theorem frz_set1 {g : Gx} {cf : Cfg} {L : List Ch} {j : Nat} {z : Ch} (hn : notIn j cf.frz = true) : Frz g cf L (L.set j z) := by
  have := frz_set (g := g) (M := []) (z := z) (L := L) hn
  simpa using this
theorem ap {α β : Type} [Rep α] [Flat α] {A : Option β} {q : β} {s s2 : AC} {l xs : List α} (i : Nat) (hinf : Inf P el sz zv) (hs : stq T n K cf m e L = .op o Lv cf1 cf2 K' m' e' L') (ho : (o.op, o.dst) = (.call { callee := .builtin .append, args := #[x, y], argTypes := #[t, t] }, some d)) (ht : lkT T t = some ⟨.sl el, b1, n1, z1⟩) (hn : Rep.n α = sz) (hzs : zv.cells.size = sz) (hi : L'[i]? = some (ow s l)) (hz : notIn i cf1.frz = true) (hsrc : ∀ {w}, HS c w L' → RdA (cxAll w) s2 xs) (hx : evS e' x = some (.h s l.length)) (hy : evS e' y = some (.h s2 xs.length)) (hF : need (l.length + xs.length ≤ 1073741824) A = some q)
    (k : A = some q → ∀ s' : AC, G (.mk P T hT n c B0 N X Q) K' m' ((d, .h s' (l ++ xs).length) :: e') (L'.set i (ow s' (l ++ xs))) cf2) : G (.mk P T hT n c B0 N X Q) K m e L cf := by
  refine estp (l := l ++ xs) (fun s' => L'.set i (ow s' (l ++ xs))) hs (congrArg Prod.snd ho) (fun _ => frz_set1 hz) (fun B a w hA hS => ?_) (k (needE hF).2)
  have hr : RdA (cxAll w) s2 xs := hsrc ⟨_, hS⟩
  obtain ⟨⟨R, s1, s2'⟩, s0⟩ := hS
  have hj2 : (L'.map (chd B))[i]? = some (cOwn [s.v l.length] l) := by simp [hi, chd]
  obtain ⟨v, w', k1, k2⟩ := rv_append i s1 hj2 hr hn (undL ht hT) hinf hzs (needE hF).1 (congrArg Prod.fst ho) (hdB hA hx) (hdB hA hy)
  have hlt : i < L'.length := (List.getElem?_eq_some_iff.1 hi).1
  obtain ⟨s', rfl⟩ := own_AC k2 i (by rw [List.getElem?_set_self (by simpa using hlt)])
  refine ⟨s', w', k1, ⟨⟨R, ?_, fun z hz => ?_⟩, s0⟩⟩
  · rw [List.map_set]; exact k2
  · rcases List.mem_or_eq_of_mem_set hz with hz | hz
    · exact s2' z hz
    · subst hz; trivial
end
end
end Go.Gv
end
section
set_option linter.unusedVariables false
namespace Go.Gv
theorem set_same {α : Type} {l : List α} {i : Int} {x : α} (h : idx l i = some x) : l.set i.toNat x = l := by
  obtain ⟨hk, h2⟩ := List.getElem?_eq_some_iff.1 (idx_some h).2.2
  rw [← h2]; simp
section
variable {P : Program} {T : TT} {hT : TOk P T} {n : Nat} {c : Ctx} {B0 : Bl} {N : Act → World → Prop} {X : Nat → Act → World → Prop} {Q : Act → World → Prop} {K K' : List Fr} {m m' : Nat} {e e' : SE} {L L' Lv : List Ch} {cf cf' cf1 cf2 : Cfg} {o : Oper} {d : Nat}
theorem cqS {α : Type} [Rep α] (E : CO α) (h : Nat) (is : List Nat) {s : AC} {l : List α} {i : Int} {nb : Nat} {x : α} (hx : idx l i = some x) (y : E.ex) {cs0 : List SV} {ec : List Value} (h0 : cfgS (stq T n K cf m e L) = some (K', cf', m', e', L')) (hs : L'[h]? = some (.o (cHole (s.v l.length) l i.toNat))) (hb : L'[h + 1]? = some (.box nb cs0)) (hv : L'[h + 2]? = some (wOf α nb s l.length i.toNat)) (hi : mapO (fun i => L'[i]?) is = some (E.Lx x y)) (hc : nbL cs0 = E.cs x y) (hec : mapO (cellV []) (E.cs x y) = some ec) (ha : apartB (h :: (h + 1) :: is) = true) (hz : ((h :: (h + 1) :: is).all fun j => notIn j cf'.frz) = true)
    (kk : G (.mk P T hT n c B0 N X Q) K' m' e' (blk L' (h :: (h + 1) :: is) ++ [ow s l]) cf') : G (.mk P T hT n c B0 N X Q) K m e L cf :=
  ceS E h is [] x y h0 hs hb hv hi hc hec ha hz rfl (by rw [set_same hx]; exact kk)
theorem cqR {Z : Act → World → Prop} {α : Type} [Rep α] (E : CO α) (h : Nat) (is : List Nat) {s : AC} {l : List α} {i : Int} {nb : Nat} {x : α} (hx : idx l i = some x) (y : E.ex) {cs0 : List SV} {ec : List Value} (hs : L[h]? = some (.o (cHole (s.v l.length) l i.toNat))) (hb : L[h + 1]? = some (.box nb cs0)) (hv : L[h + 2]? = some (wOf α nb s l.length i.toNat)) (hi : mapO (fun i => L[i]?) is = some (E.Lx x y)) (hc : nbL cs0 = E.cs x y) (hec : mapO (cellV []) (E.cs x y) = some ec) (ha : apartB (h :: (h + 1) :: is) = true)
    (kk : ∀ a w, RelN n c B0 m e (blk L (h :: (h + 1) :: is) ++ [ow s l]) a w → Z a w) : ∀ a w, RelN n c B0 m e L a w → Z a w :=
  ceR E h is [] x y hs hb hv hi hc hec ha rfl (by rw [set_same hx]; exact kk)
section
variable {x : Operand} {t el : Nat} {zv : Value} {b1 : Bool} {n1 : Nat} {z1 : List SV}
theorem lt1 {k : IntKind} {i : Int} (hk : k = .i64) (hinf : Inf P el 1 zv) (hs : stq T n K cf m e L = .op o Lv cf1 cf2 K' m' e' L') (ho : (o.op, o.dst) = (.buildSlice t 1 #[(0, x)], some d)) (ht : lkT T t = some ⟨.sl el, b1, n1, z1⟩) (hx : (evS e' x).bind numI = some (k, i))
    (kk : ∀ s' : AC, G (.mk P T hT n c B0 N X Q) K' m' ((d, .h s' [i].length) :: e') (L' ++ [ow s' [i]]) cf2) : G (.mk P T hT n c B0 N X Q) K m e L cf := by
  subst hk
  refine estp (l := [i]) (fun s' => L' ++ [ow s' [i]]) hs (congrArg Prod.snd ho) (fun _ => frz_app _) (fun B a w hA hS => ?_) kk
  obtain ⟨⟨R, s1, s2⟩, s0⟩ := hS
  obtain ⟨v, w', k1, k2⟩ := rv_lit1 (α := Int) (e := vE B e') (o := o) i s1 rfl (undL ht hT) hinf (c0 := .int .i64 i) rfl (congrArg Prod.fst ho) (numB hA hx) rfl
  obtain ⟨s', rfl⟩ := own_AC (v := v) (l := [i]) k2 (L'.map (chd B)).length (by simp)
  refine ⟨s', w', k1, ⟨⟨R, by simpa [chd] using k2, fun z hz => ?_⟩, s0⟩⟩
  rcases List.mem_append.1 hz with hz | hz
  · exact s2 z hz
  · simp at hz; subst hz; trivial
end
end
end Go.Gv
end
section
set_option linter.unusedVariables false
namespace Go.Gv
theorem RdA.sub {c : Ctx} {α : Type} [Rep α] {s s' : AC} {l : List α} {a b : Nat} (h : RdA c s l) (hp : subV (Rep.n α) a b (s.v l.length) = s'.v ((l.take b).drop a).length) (hb : a ≤ b ∧ b ≤ l.length) : RdA c s' ((l.take b).drop a) := by
  have := rd_sub (n := Rep.n α) rfl h hb.1 hb.2
  rw [hp] at this
  exact this
section
variable {P : Program} {T : TT} {hT : TOk P T} {n : Nat} {c : Ctx} {B0 : Bl} {N : Act → World → Prop} {X : Nat → Act → World → Prop} {Q : Act → World → Prop} {K K' : List Fr} {m m' : Nat} {e e' : SE} {L L' Lv : List Ch} {cf cf1 cf2 : Cfg} {o : Oper} {d : Nat}
variable {x y z : Operand} {t el sz : Nat} {k k2 : IntKind} {i j : Int} {α β : Type} [Rep α] {A : Option β} {q : β} {s : AC} {l : List α} {b1 b2 : Bool} {n1 : Nat} {z1 z2 : List SV} {kt : TK}
end
end Go.Gv
end
section
set_option linter.unusedVariables false
namespace Go.Gv
theorem St.via {c : Ctx} {w : World} {A B : List Chunk} {R : List Fact} (h : St c w A R) (hs : ∀ F, Sep w A F → Sep w B F) : St c w B R := by
  obtain ⟨F, S, hsep, rest⟩ := h.sep
  exact ⟨h.keep, ⟨F, S, hs F hsep, rest⟩, h.apart⟩
structure PV where
  b : Nat
  z : Nat
  A : List Value
  V : List Value
  C : List Value
def PV.rest (p : PV) : List Chunk := [cAt p.b p.z p.A, cAt p.b (p.z + p.A.length + p.V.length) p.C]
structure HG (c κ : Ctx) (L : List Ch) (js : List Nat) : Prop where
  a : ∀ {α : Type} [Rep α] {s : AC} {d : List α}, RdA c s d → RdA κ s d
  o : ∀ {α : Type} [Rep α] {s : AC} {d : List α} (i : Nat), L[i]? = some (ow s d) → notIn i js = true → RdA κ s d
  f : ∀ {α : Type} [Rep α] {s : AC} {d : List α} (i : Nat), L[i]? = some (fr s d) → RdA κ s d
section
variable {c : Ctx} {w : World} {B : Bl} {L : List Ch} {R : List Fact}
end
end Go.Gv
end
section
set_option linter.unusedVariables false
namespace Go.Gv
section
variable {P : Program} {T : TT} {hT : TOk P T} {n : Nat} {c : Ctx} {B0 : Bl} {N : Act → World → Prop} {X : Nat → Act → World → Prop} {Q : Act → World → Prop} {K K' : List Fr} {m m' : Nat} {e e' : SE} {L L' Lv : List Ch} {cf cf' cf1 cf2 : Cfg} {o : Oper}
section
variable {α β ex : Type} {fo : Option α} {kf : α → Option β} {q : β} {d : Option Nat} {f : FuncId} {xs xs0 : List SV} {M : List Ch} {sv : α → ex → SV} {Lr : α → ex → List Ch}
end
theorem ro {α β : Type} [Rep α] (E : CO α) (j v nb : Nat) {s : AC} {i : Int} {ls : List α} {kf : α → Option β} {q : β} (hs : cfgS (stq T n K cf m e L) = some (K', cf', m', e', L')) (hj : L'[j]? = some (ow s ls)) (hv : L'[v]? = some (wOf α nb s ls.length i.toNat)) (hz : notIn j cf'.frz = true) (hF : (idx ls i).bind kf = some q)
    (k : ∀ x, idx ls i = some x → kf x = some q → ∀ y : E.ex, G (.mk P T hT n c B0 N X Q) K' m' e' (L'.set j .no ++ ([.o (cHole (s.v ls.length) ls i.toNat), .box nb (E.cs x y), wOf α nb s ls.length i.toNat] ++ E.Lx x y)) cf') : G (.mk P T hT n c B0 N X Q) K m e L cf := by
  refine go hs ?_
  cases hi : idx ls i with
  | none => rw [hi] at hF; cases hF
  | some x =>
    rw [hi] at hF
    refine chg (fun _ => m') (fun _ => e') (fun y : E.ex => L'.set j .no ++ ([.o (cHole (s.v ls.length) ls i.toNat), .box nb (E.cs x y), wOf α nb s ls.length i.toNat] ++ E.Lx x y)) (fun B a w hm hA hS => ?_) (fun y => frz_set hz) (fun y => k x hi hF y)
    obtain ⟨⟨R, s1, s2⟩, s0⟩ := hS
    have hB : B[nb]? = some (elB (s.v ls.length), elO (Rep.n α) i.toNat (s.v ls.length)) := s2 _ (List.mem_of_getElem? hv)
    have hj2 : (L'.map (chd B))[j]? = some (cOwn [s.v ls.length] ls) := by simp [hj, chd]
    obtain ⟨ec, h1⟩ := s1.open j hj2 (idx_some hi).2.2
    have hlen : ((L'.map (chd B)).set j cNo).length = L'.length := by simp
    obtain ⟨F, hF'⟩ := h1.chunk (L'.length + 2) (by rw [List.getElem?_append_right (by omega)]; simp; rfl)
    obtain ⟨y, hy2⟩ := E.op (show Rep.own w ec x F from hF')
    have h2 := h1.unpack (L'.length + 2) (by rw [List.getElem?_append_right (by omega)]; simp) (E.pk hy2)
    have hset : ((L'.map (chd B)).set j cNo ++ [cHole (s.v ls.length) ls i.toNat, cAt (elB (s.v ls.length)) (elO (Rep.n α) i.toNat (s.v ls.length)) ec, cOwn ec x]).set (L'.length + 2) cNo = (L'.map (chd B)).set j cNo ++ [cHole (s.v ls.length) ls i.toNat, cAt (elB (s.v ls.length)) (elO (Rep.n α) i.toNat (s.v ls.length)) ec, cNo] := by
      rw [List.set_append_right _ _ (by omega)]
      simp
    rw [hset] at h2
    refine ⟨y, [], by simpa using hm, by simpa using hA, ⟨⟨R, ?_, fun z hz => ?_⟩, s0⟩⟩
    · have e1 : (L'.set j Ch.no).map (chd B) = (L'.map (chd B)).set j cNo := by rw [List.map_set]; rfl
      refine h2.imp ?_
      rw [List.append_nil, List.map_append, List.map_append, ← e1, List.append_assoc]
      refine ImpL.append (ImpL.refl _) (ImpL.append (.cons (fun _ h => h) (.cons (fun F h => ⟨_, _, ec, hB, mapO_mono (fun x v h => by simpa using cellV_app (B := []) B h) hy2, h⟩) (.cons (fun _ h => h) .nil))) ?_)
      rw [E.nb x y B]; exact ImpL.refl _
    · rw [List.append_nil]
      rcases List.mem_append.1 hz with hz | hz
      · rcases List.mem_or_eq_of_mem_set hz with hz | hz
        · exact s2 z hz
        · subst hz; trivial
      · rcases List.mem_append.1 hz with hz | hz
        · simp at hz
          rcases hz with rfl | rfl | rfl
          · trivial
          · trivial
          · exact hB
        · exact noF_ok (E.no x y) z hz
end
end Go.Gv
end
section
set_option linter.unusedVariables false
namespace Go.Gv
def AC.sub (s : AC) (n a : Nat) : AC := ⟨if s.c = a then s.a else s.a.map (·.add (a * n)), s.c - a⟩
theorem sub_v {α : Type} {l : List α} {s : AC} {n a b k : Nat} (h1 : a ≤ b) (h2 : b ≤ l.length) : subV n a b (s.v k) = (s.sub n a).v ((l.take b).drop a).length := by
  rw [sub_len h1 h2]; rfl
section
variable {P : Program} {T : TT} {hT : TOk P T} {n : Nat} {c : Ctx} {B0 : Bl} {N : Act → World → Prop} {X : Nat → Act → World → Prop} {Q : Act → World → Prop} {K K' : List Fr} {m m' : Nat} {e e' : SE} {L L' Lv : List Ch} {cf cf' cf1 cf2 : Cfg} {o : Oper} {d : Nat}
theorem cpc {α : Type} [Rep α] (j : Nat) {s : AC} {l : List α} (hs : cfgS (stq T n K cf m e L) = some (K', cf', m', e', L')) (hj : L'[j]? = some (ow s l)) (k : l.length ≤ s.c → G (.mk P T hT n c B0 N X Q) K' m' e' L' cf') : G (.mk P T hT n c B0 N X Q) K m e L cf := by
  refine go hs ?_
  refine chg (fun _ : PLift (l.length ≤ s.c) => m') (fun _ => e') (fun _ => L') (fun B a w hm hA hS => ?_) (fun _ => by simpa using frz_app (L := L') []) (fun h => k h.down)
  obtain ⟨⟨R, s1, s2⟩, s0⟩ := hS
  obtain ⟨F, hF⟩ := s1.chunk (ch := cOwn [s.v l.length] l) j (by simp [hj, chd])
  obtain ⟨ad, cp, h1, h2⟩ := own_shape (show Rep.own w [s.v l.length] l F from hF)
  simp only [AC.v, Value.slice.injEq] at h1
  exact ⟨⟨by omega⟩, [], by simpa using hm, by simpa using hA, ⟨⟨R, by simpa using s1, by simpa using s2⟩, s0⟩⟩
section
variable {x y z u : Operand} {t el sz : Nat} {k1 k2 k3 : IntKind} {i j p : Int} {α β : Type} [Rep α] {A : Option β} {q : β} {s : AC} {l : List α} {b1 b2 : Bool} {n1 : Nat} {z1 z2 : List SV} {kt : TK}
theorem qp_h (hc : l.length ≤ s.c) (hs : opS (stq T n K cf m e L) = some (o, Lv, cf1, cf2, K', m', e', L')) (ho : (o.op, o.dst) = (.slice t x none (some z) none, some d)) (ht : lkT T t = some ⟨.sl el, b1, n1, z1⟩) (he : lkT T el = some ⟨kt, b2, sz, z2⟩) (hx : evS e' x = some (.h s l.length)) (hz : (evS e' z).bind numI = some (k2, j)) (hF : need (0 ≤ j ∧ j ≤ (l.length : Int)) A = some q)
    (kk : A = some q → (0 ≤ j.toNat ∧ j.toNat ≤ l.length) → G (.mk P T hT n c B0 N X Q) K' m' ((d, .h (s.sub sz 0) ((l.take j.toNat).drop 0).length) :: e') L' cf2) : G (.mk P T hT n c B0 N X Q) K m e L cf := by
  have hop : o.op = .slice t x none (some z) none := congrArg Prod.fst ho
  have hb := (needE hF).1
  have hb2 : 0 ≤ j.toNat ∧ j.toNat ≤ l.length := by omega
  refine pu hs (congrArg Prod.snd ho) (fun B a w hA hS => ⟨subV sz 0 j.toNat (s.v l.length), by rw [sub_v hb2.1 hb2.2]; simp [toV, gV, cellV], fun _ a hA' => ?_⟩) (kk (needE hF).2 hb2)
  obtain ⟨h0, h1⟩ := hb
  have h3 : j ≤ (s.c : Int) := by omega
  have h5 : max j 0 = j := by omega
  simp [execOp, hop, Instr.sliceAt, Instr.slice, run_underlying (undL ht hT), Instr.sliceBounds, hA'.eval (hdB hA hx), hA'.eval (numB hA hz), Instr.sliceBound, asIntOf, hT.size _ _ he, h0, h3, h5, subV]
end
end
end Go.Gv
end
section
set_option linter.unusedVariables false
namespace Go.Gv
section
variable {P : Program} {T : TT} {hT : TOk P T} {n : Nat} {c : Ctx} {B0 : Bl} {N : Act → World → Prop} {X : Nat → Act → World → Prop} {Q : Act → World → Prop} {K K' : List Fr} {m m' : Nat} {e e' : SE} {L L' Lv : List Ch} {cf cf' cf1 cf2 : Cfg} {o : Oper} {d : Nat}
section
variable {x y z : Operand} {t el sz : Nat} {zv : Value} {k1 k2 : IntKind} {i j : Int} {α β : Type} [Rep α] {A : Option β} {q : β} {s : AC} {l : List α} {b1 b2 : Bool} {n1 : Nat} {z1 z2 : List SV} {kt : TK}
end
section
variable {x y : Operand} {t el sz : Nat} {zv : Value} {b1 : Bool} {n1 : Nat} {z1 : List SV}
end
theorem kb {b cb : Bool} (ss : List Nat) (hb : b = cb) (hs : cfgS (stq T n K cf m e L) = some (K', cf', m', e', L')) (ho : mapO (lkS e') ss = some (ss.map fun _ => SV.b b)) (k : G (.mk P T hT n c B0 N X Q) K' m' (ovr cb e' ss) L' cf') : G (.mk P T hT n c B0 N X Q) K m e L cf :=
  go hs (G_mono (fun a B hA => ovr_env hb ss ho hA) k)
end
end Go.Gv
end
section
set_option linter.unusedVariables false
namespace Go.Gv
theorem oldF {P : Program} {f : FuncId} {κ : Ctx} {xs : List SV} {ρ : Type} {sv : ρ → SV} {r : ρ} (hcall : ∀ args w, (callFunc f args).run P w = .ok (.enter f args) w)
    (H : (∀ f : Fact, f.P κ.S0 κ.w0 → f.P (All κ.w0) κ.w0) → ∀ vs, mapO (toV []) xs = some vs → Calls P f vs.toArray κ.w0 (Ret fun v w' => toV [] (sv r) = some v ∧ St (cxAll κ.w0) w' [] [])) : Fn0 P f κ xs sv r :=
  ⟨hcall, fun vs hv hS => Calls.mono (H (fun f hf => f.mono hf fun b o hb => hS.s0 b o hb) vs hv) fun en w' ⟨v, h1, h2, h3⟩ => ⟨v, h1, (), h2, hS.keepF0 h3.keep⟩⟩
section
variable {P : Program} {T : TT} {hT : TOk P T} {n : Nat} {c : Ctx} {B0 : Bl} {N : Act → World → Prop} {X : Nat → Act → World → Prop} {Q : Act → World → Prop} {K K' : List Fr} {m m' : Nat} {e e' : SE} {L L' Lv : List Ch} {cf cf' cf1 cf2 : Cfg} {o : Oper} {d : Nat}
end
end Go.Gv
end
section
namespace Go.Gv
structure Heap where
  Bytes : List Int
  Class : List Int
  deriving DecidableEq, Inhabited
instance : Rep Heap := Rep.via (fun d => (d.Bytes, d.Class))
instance : Fits Heap := Fits.via (fun d => (d.Bytes, d.Class))
theorem rd_Heap {S : Foot} {w : World} {cs : List Value} {d : Heap} (h : Rep.rd S w cs d) : ∃ v0 v1 : Value, cs = [v0, v1] ∧ Rep.rd S w [v0] d.Bytes ∧ Rep.rd S w [v1] d.Class := by
  obtain ⟨c0, r0, e0, h0, n0⟩ := h
  obtain ⟨u0, q0⟩ := rd_one_cell h0
  rw [q0] at h0
  obtain ⟨u1, q1⟩ := rd_one_cell n0
  rw [q1] at n0
  exact ⟨u0, u1, by rw [e0, q0, q1]; rfl, h0, n0⟩
theorem op_Heap (d : Heap) {v0 : Value} {v1 : Value} : OP [v0, v1] d [cOwn [v0] d.Bytes, cOwn [v1] d.Class] := (show OP (α := (List Int) × (List Int)) _ (d.Bytes, d.Class) _ from (op_pair (c1 := [v0]) (c2 := [v1]) (A := [cOwn [v0] d.Bytes]) (B := [cOwn [v1] d.Class]) op_own op_own rfl))
structure SList where
  Slots : List Int
  deriving DecidableEq, Inhabited
instance : Rep SList := Rep.via (fun d => (d.Slots))
instance : Fits SList := Fits.via (fun d => (d.Slots))
theorem rd_SList {S : Foot} {w : World} {cs : List Value} {d : SList} (h : Rep.rd S w cs d) : ∃ v0 : Value, cs = [v0] ∧ Rep.rd S w [v0] d.Slots := by
  obtain ⟨u0, q0⟩ := rd_one_cell h
  rw [q0] at h
  exact ⟨u0, q0, h⟩
theorem op_SList (d : SList) {v0 : Value} : OP [v0] d [cOwn [v0] d.Slots] := (show OP (α := (List Int)) _ (d.Slots) _ from op_own)
theorem _root_.Go.Gv.St.el_SList {c : Ctx} {L : List Chunk} {R : List Fact} {w : World} {s : Value} {l : List SList} {i : Nat} {x : SList} (h : St c w L R) (j : Nat) (hj : R[j]? = some (fRd [s] l)) (hi : l[i]? = some x) : ∃ v0 : Value, CellsAt w (elB s) (elO 1 i s) [v0] ∧ St c w L (R ++ [fRd [v0] x.Slots]) := by
  obtain ⟨S, hS, hk⟩ := h.factS hj
  obtain ⟨ec, h1, h2⟩ := rd_el hS hi
  obtain ⟨v0, q, q0⟩ := rd_SList h2
  rw [q] at h1
  exact ⟨v0, h1, hk _ (by intro f hf; simp only [List.mem_cons, List.not_mem_nil, or_false] at hf; subst hf; exact q0)⟩
structure Lists where
  Global : List SList
  Own : List SList
  deriving DecidableEq, Inhabited
instance : Rep Lists := Rep.via (fun d => (d.Global, d.Own))
instance : Fits Lists := Fits.via (fun d => (d.Global, d.Own))
theorem rd_Lists {S : Foot} {w : World} {cs : List Value} {d : Lists} (h : Rep.rd S w cs d) : ∃ v0 v1 : Value, cs = [v0, v1] ∧ Rep.rd S w [v0] d.Global ∧ Rep.rd S w [v1] d.Own := by
  obtain ⟨c0, r0, e0, h0, n0⟩ := h
  obtain ⟨u0, q0⟩ := rd_one_cell h0
  rw [q0] at h0
  obtain ⟨u1, q1⟩ := rd_one_cell n0
  rw [q1] at n0
  exact ⟨u0, u1, by rw [e0, q0, q1]; rfl, h0, n0⟩
theorem op_Lists (d : Lists) {v0 : Value} {v1 : Value} : OP [v0, v1] d [cOwn [v0] d.Global, cOwn [v1] d.Own] := (show OP (α := (List SList) × (List SList)) _ (d.Global, d.Own) _ from (op_pair (c1 := [v0]) (c2 := [v1]) (A := [cOwn [v0] d.Global]) (B := [cOwn [v1] d.Own]) op_own op_own rfl))
structure Mem where
  Heap : Heap
  Lists : Lists
  deriving DecidableEq, Inhabited
instance : Rep Mem := Rep.via (fun d => (d.Heap, d.Lists))
instance : Fits Mem := Fits.via (fun d => (d.Heap, d.Lists))
theorem rd_Mem {S : Foot} {w : World} {cs : List Value} {d : Mem} (h : Rep.rd S w cs d) : ∃ v0 v1 v2 v3 : Value, cs = [v0, v1, v2, v3] ∧ Rep.rd S w [v0] d.Heap.Bytes ∧ Rep.rd S w [v1] d.Heap.Class ∧ Rep.rd S w [v2] d.Lists.Global ∧ Rep.rd S w [v3] d.Lists.Own := by
  obtain ⟨c0, r0, e0, h0, n0⟩ := h
  obtain ⟨u0_0, u0_1, q0, hq0_0, hq0_1⟩ := rd_Heap h0
  obtain ⟨u1_0, u1_1, q1, hq1_0, hq1_1⟩ := rd_Lists n0
  exact ⟨u0_0, u0_1, u1_0, u1_1, by rw [e0, q0, q1]; rfl, hq0_0, hq0_1, hq1_0, hq1_1⟩
theorem op_Mem (d : Mem) {v0 : Value} {v1 : Value} {v2 : Value} {v3 : Value} : OP [v0, v1, v2, v3] d [cOwn [v0] d.Heap.Bytes, cOwn [v1] d.Heap.Class, cOwn [v2] d.Lists.Global, cOwn [v3] d.Lists.Own] := (show OP (α := Heap × Lists) _ (d.Heap, d.Lists) _ from (op_pair (c1 := [v0, v1]) (c2 := [v2, v3]) (A := [cOwn [v0] d.Heap.Bytes, cOwn [v1] d.Heap.Class]) (B := [cOwn [v2] d.Lists.Global, cOwn [v3] d.Lists.Own]) (op_Heap _) (op_Lists _) rfl))
structure Pin where
  On : Bool
  Epoch : Int
  Marked : Bool
  Seen : Int
  deriving DecidableEq, Inhabited
instance : Rep Pin := Rep.via (fun d => (d.On, d.Epoch, d.Marked, d.Seen))
instance : Fits Pin := Fits.via (fun d => (d.On, d.Epoch, d.Marked, d.Seen))
theorem rd_Pin {S : Foot} {w : World} {cs : List Value} {d : Pin} (h : Rep.rd S w cs d) : cs = [.bool (d.On), .int .i64 (d.Epoch), .bool (d.Marked), .int .i64 (d.Seen)] := by
  obtain ⟨c0, r0, e0, h0, n0⟩ := h
  have q0 : c0 = [_] := h0
  obtain ⟨c1, r1, e1, h1, n1⟩ := n0
  have q1 : c1 = [_] := h1
  obtain ⟨c2, r2, e2, h2, n2⟩ := n1
  have q2 : c2 = [_] := h2
  have q3 : r2 = [_] := n2
  exact by rw [e0, e1, e2, q0, q1, q2, q3]; rfl
theorem mk_Pin {S : Foot} {w : World} (d : Pin)   : Rep.rd S w [.bool (d.On), .int .i64 (d.Epoch), .bool (d.Marked), .int .i64 (d.Seen)] d := ⟨[.bool (d.On)], [.int .i64 (d.Epoch), .bool (d.Marked), .int .i64 (d.Seen)], rfl, rfl, ⟨[.int .i64 (d.Epoch)], [.bool (d.Marked), .int .i64 (d.Seen)], rfl, rfl, ⟨[.bool (d.Marked)], [.int .i64 (d.Seen)], rfl, rfl, rfl⟩⟩⟩
instance : Flat Pin := ⟨fun h => Flat.own_of (α := Bool × Int × Bool × Int) h, fun h => Flat.no (α := Bool × Int × Bool × Int) h⟩
theorem op_Pin (d : Pin)  : OP [.bool (d.On), .int .i64 (d.Epoch), .bool (d.Marked), .int .i64 (d.Seen)] d [] := (show OP (α := Bool × Int × Bool × Int) _ (d.On, d.Epoch, d.Marked, d.Seen) _ from (op_pair (c1 := [.bool (d.On)]) (c2 := [.int .i64 (d.Epoch), .bool (d.Marked), .int .i64 (d.Seen)]) (A := []) (B := []) (op_flat rfl) (op_pair (c1 := [.int .i64 (d.Epoch)]) (c2 := [.bool (d.Marked), .int .i64 (d.Seen)]) (A := []) (B := []) (op_flat rfl) (op_pair (c1 := [.bool (d.Marked)]) (c2 := [.int .i64 (d.Seen)]) (A := []) (B := []) (op_flat rfl) (op_flat rfl) rfl) rfl) rfl))
structure Clock where
  Epoch : Int
  Pins : List Pin
  deriving DecidableEq, Inhabited
instance : Rep Clock := Rep.via (fun d => (d.Epoch, d.Pins))
instance : Fits Clock := Fits.via (fun d => (d.Epoch, d.Pins))
theorem rd_Clock {S : Foot} {w : World} {cs : List Value} {d : Clock} (h : Rep.rd S w cs d) : ∃ v0 : Value, cs = [.int .i64 (d.Epoch), v0] ∧ Rep.rd S w [v0] d.Pins := by
  obtain ⟨c0, r0, e0, h0, n0⟩ := h
  have q0 : c0 = [_] := h0
  obtain ⟨u1, q1⟩ := rd_one_cell n0
  rw [q1] at n0
  exact ⟨u1, by rw [e0, q0, q1]; rfl, n0⟩
theorem op_Clock (d : Clock) {v0 : Value} : OP [.int .i64 (d.Epoch), v0] d [cOwn [v0] d.Pins] := (show OP (α := Int × (List Pin)) _ (d.Epoch, d.Pins) _ from (op_pair (c1 := [.int .i64 (d.Epoch)]) (c2 := [v0]) (A := []) (B := [cOwn [v0] d.Pins]) (op_flat rfl) op_own rfl))
structure LRow where
  Handle : Int
  Epoch : Int
  deriving DecidableEq, Inhabited
instance : Rep LRow := Rep.via (fun d => (d.Handle, d.Epoch))
instance : Fits LRow := Fits.via (fun d => (d.Handle, d.Epoch))
theorem rd_LRow {S : Foot} {w : World} {cs : List Value} {d : LRow} (h : Rep.rd S w cs d) : cs = [.int .i64 (d.Handle), .int .i64 (d.Epoch)] := by
  obtain ⟨c0, r0, e0, h0, n0⟩ := h
  have q0 : c0 = [_] := h0
  have q1 : r0 = [_] := n0
  exact by rw [e0, q0, q1]; rfl
theorem mk_LRow {S : Foot} {w : World} (d : LRow)   : Rep.rd S w [.int .i64 (d.Handle), .int .i64 (d.Epoch)] d := ⟨[.int .i64 (d.Handle)], [.int .i64 (d.Epoch)], rfl, rfl, rfl⟩
instance : Flat LRow := ⟨fun h => Flat.own_of (α := Int × Int) h, fun h => Flat.no (α := Int × Int) h⟩
theorem op_LRow (d : LRow)  : OP [.int .i64 (d.Handle), .int .i64 (d.Epoch)] d [] := (show OP (α := Int × Int) _ (d.Handle, d.Epoch) _ from (op_pair (c1 := [.int .i64 (d.Handle)]) (c2 := [.int .i64 (d.Epoch)]) (A := []) (B := []) (op_flat rfl) (op_flat rfl) rfl))
theorem el_LRow {S : Foot} {w : World} {s : Value} {l : List LRow} {i : Nat} {x : LRow} (h : Rep.rd S w [s] l) (hi : l[i]? = some x) : CellsAt w (elB s) (elO 2 i s) [.int .i64 (x.Handle), .int .i64 (x.Epoch)] := by
  obtain ⟨ec, h1, h2⟩ := rd_el h hi
  rw [rd_LRow h2] at h1; exact h1
structure LList where
  Rows : List LRow
  deriving DecidableEq, Inhabited
instance : Rep LList := Rep.via (fun d => (d.Rows))
instance : Fits LList := Fits.via (fun d => (d.Rows))
theorem rd_LList {S : Foot} {w : World} {cs : List Value} {d : LList} (h : Rep.rd S w cs d) : ∃ v0 : Value, cs = [v0] ∧ Rep.rd S w [v0] d.Rows := by
  obtain ⟨u0, q0⟩ := rd_one_cell h
  rw [q0] at h
  exact ⟨u0, q0, h⟩
theorem op_LList (d : LList) {v0 : Value} : OP [v0] d [cOwn [v0] d.Rows] := (show OP (α := (List LRow)) _ (d.Rows) _ from op_own)
theorem _root_.Go.Gv.St.el_LList {c : Ctx} {L : List Chunk} {R : List Fact} {w : World} {s : Value} {l : List LList} {i : Nat} {x : LList} (h : St c w L R) (j : Nat) (hj : R[j]? = some (fRd [s] l)) (hi : l[i]? = some x) : ∃ v0 : Value, CellsAt w (elB s) (elO 1 i s) [v0] ∧ St c w L (R ++ [fRd [v0] x.Rows]) := by
  obtain ⟨S, hS, hk⟩ := h.factS hj
  obtain ⟨ec, h1, h2⟩ := rd_el hS hi
  obtain ⟨v0, q, q0⟩ := rd_LList h2
  rw [q] at h1
  exact ⟨v0, h1, hk _ (by intro f hf; simp only [List.mem_cons, List.not_mem_nil, or_false] at hf; subst hf; exact q0)⟩
structure Base where
  Mem : Mem
  Clock : Clock
  Limbo : List LList
  Haz : List Int
  deriving DecidableEq, Inhabited
instance : Rep Base := Rep.via (fun d => (d.Mem, d.Clock, d.Limbo, d.Haz))
instance : Fits Base := Fits.via (fun d => (d.Mem, d.Clock, d.Limbo, d.Haz))
theorem rd_Base {S : Foot} {w : World} {cs : List Value} {d : Base} (h : Rep.rd S w cs d) : ∃ v0 v1 v2 v3 v4 v5 v6 : Value, cs = [v0, v1, v2, v3, .int .i64 (d.Clock.Epoch), v4, v5, v6] ∧ Rep.rd S w [v0] d.Mem.Heap.Bytes ∧ Rep.rd S w [v1] d.Mem.Heap.Class ∧ Rep.rd S w [v2] d.Mem.Lists.Global ∧ Rep.rd S w [v3] d.Mem.Lists.Own ∧ Rep.rd S w [v4] d.Clock.Pins ∧ Rep.rd S w [v5] d.Limbo ∧ Rep.rd S w [v6] d.Haz := by
  obtain ⟨c0, r0, e0, h0, n0⟩ := h
  obtain ⟨u0_0, u0_1, u0_2, u0_3, q0, hq0_0, hq0_1, hq0_2, hq0_3⟩ := rd_Mem h0
  obtain ⟨c1, r1, e1, h1, n1⟩ := n0
  obtain ⟨u1_0, q1, hq1_0⟩ := rd_Clock h1
  obtain ⟨c2, r2, e2, h2, n2⟩ := n1
  obtain ⟨u2, q2⟩ := rd_one_cell h2
  rw [q2] at h2
  obtain ⟨u3, q3⟩ := rd_one_cell n2
  rw [q3] at n2
  exact ⟨u0_0, u0_1, u0_2, u0_3, u1_0, u2, u3, by rw [e0, e1, e2, q0, q1, q2, q3]; rfl, hq0_0, hq0_1, hq0_2, hq0_3, hq1_0, h2, n2⟩
theorem op_Base (d : Base) {v0 : Value} {v1 : Value} {v2 : Value} {v3 : Value} {v4 : Value} {v5 : Value} {v6 : Value} : OP [v0, v1, v2, v3, .int .i64 (d.Clock.Epoch), v4, v5, v6] d [cOwn [v0] d.Mem.Heap.Bytes, cOwn [v1] d.Mem.Heap.Class, cOwn [v2] d.Mem.Lists.Global, cOwn [v3] d.Mem.Lists.Own, cOwn [v4] d.Clock.Pins, cOwn [v5] d.Limbo, cOwn [v6] d.Haz] := (show OP (α := Mem × Clock × (List LList) × (List Int)) _ (d.Mem, d.Clock, d.Limbo, d.Haz) _ from (op_pair (c1 := [v0, v1, v2, v3]) (c2 := [.int .i64 (d.Clock.Epoch), v4, v5, v6]) (A := [cOwn [v0] d.Mem.Heap.Bytes, cOwn [v1] d.Mem.Heap.Class, cOwn [v2] d.Mem.Lists.Global, cOwn [v3] d.Mem.Lists.Own]) (B := [cOwn [v4] d.Clock.Pins, cOwn [v5] d.Limbo, cOwn [v6] d.Haz]) (op_Mem _) (op_pair (c1 := [.int .i64 (d.Clock.Epoch), v4]) (c2 := [v5, v6]) (A := [cOwn [v4] d.Clock.Pins]) (B := [cOwn [v5] d.Limbo, cOwn [v6] d.Haz]) (op_Clock _) (op_pair (c1 := [v5]) (c2 := [v6]) (A := [cOwn [v5] d.Limbo]) (B := [cOwn [v6] d.Haz]) op_own op_own rfl) rfl) rfl))
structure GOp where
  Kind : Int
  Cell : Int
  Size : Int
  Val : Int
  deriving DecidableEq, Inhabited
instance : Rep GOp := Rep.via (fun d => (d.Kind, d.Cell, d.Size, d.Val))
instance : Fits GOp := Fits.via (fun d => (d.Kind, d.Cell, d.Size, d.Val))
theorem rd_GOp {S : Foot} {w : World} {cs : List Value} {d : GOp} (h : Rep.rd S w cs d) : cs = [.int .i64 (d.Kind), .int .i64 (d.Cell), .int .i64 (d.Size), .int .i64 (d.Val)] := by
  obtain ⟨c0, r0, e0, h0, n0⟩ := h
  have q0 : c0 = [_] := h0
  obtain ⟨c1, r1, e1, h1, n1⟩ := n0
  have q1 : c1 = [_] := h1
  obtain ⟨c2, r2, e2, h2, n2⟩ := n1
  have q2 : c2 = [_] := h2
  have q3 : r2 = [_] := n2
  exact by rw [e0, e1, e2, q0, q1, q2, q3]; rfl
theorem mk_GOp {S : Foot} {w : World} (d : GOp)   : Rep.rd S w [.int .i64 (d.Kind), .int .i64 (d.Cell), .int .i64 (d.Size), .int .i64 (d.Val)] d := ⟨[.int .i64 (d.Kind)], [.int .i64 (d.Cell), .int .i64 (d.Size), .int .i64 (d.Val)], rfl, rfl, ⟨[.int .i64 (d.Cell)], [.int .i64 (d.Size), .int .i64 (d.Val)], rfl, rfl, ⟨[.int .i64 (d.Size)], [.int .i64 (d.Val)], rfl, rfl, rfl⟩⟩⟩
instance : Flat GOp := ⟨fun h => Flat.own_of (α := Int × Int × Int × Int) h, fun h => Flat.no (α := Int × Int × Int × Int) h⟩
theorem op_GOp (d : GOp)  : OP [.int .i64 (d.Kind), .int .i64 (d.Cell), .int .i64 (d.Size), .int .i64 (d.Val)] d [] := (show OP (α := Int × Int × Int × Int) _ (d.Kind, d.Cell, d.Size, d.Val) _ from (op_pair (c1 := [.int .i64 (d.Kind)]) (c2 := [.int .i64 (d.Cell), .int .i64 (d.Size), .int .i64 (d.Val)]) (A := []) (B := []) (op_flat rfl) (op_pair (c1 := [.int .i64 (d.Cell)]) (c2 := [.int .i64 (d.Size), .int .i64 (d.Val)]) (A := []) (B := []) (op_flat rfl) (op_pair (c1 := [.int .i64 (d.Size)]) (c2 := [.int .i64 (d.Val)]) (A := []) (B := []) (op_flat rfl) (op_flat rfl) rfl) rfl) rfl))
structure Sub where
  Kind : Int
  A : Int
  Pc : Int
  E : Int
  Row : Int
  B : Int
  H : Int
  Out : Int
  Code : Int
  Done : Bool
  deriving DecidableEq, Inhabited
instance : Rep Sub := Rep.via (fun d => (d.Kind, d.A, d.Pc, d.E, d.Row, d.B, d.H, d.Out, d.Code, d.Done))
instance : Fits Sub := Fits.via (fun d => (d.Kind, d.A, d.Pc, d.E, d.Row, d.B, d.H, d.Out, d.Code, d.Done))
theorem rd_Sub {S : Foot} {w : World} {cs : List Value} {d : Sub} (h : Rep.rd S w cs d) : cs = [.int .i64 (d.Kind), .int .i64 (d.A), .int .i64 (d.Pc), .int .i64 (d.E), .int .i64 (d.Row), .int .i64 (d.B), .int .i64 (d.H), .int .i64 (d.Out), .int .i64 (d.Code), .bool (d.Done)] := by
  obtain ⟨c0, r0, e0, h0, n0⟩ := h
  have q0 : c0 = [_] := h0
  obtain ⟨c1, r1, e1, h1, n1⟩ := n0
  have q1 : c1 = [_] := h1
  obtain ⟨c2, r2, e2, h2, n2⟩ := n1
  have q2 : c2 = [_] := h2
  obtain ⟨c3, r3, e3, h3, n3⟩ := n2
  have q3 : c3 = [_] := h3
  obtain ⟨c4, r4, e4, h4, n4⟩ := n3
  have q4 : c4 = [_] := h4
  obtain ⟨c5, r5, e5, h5, n5⟩ := n4
  have q5 : c5 = [_] := h5
  obtain ⟨c6, r6, e6, h6, n6⟩ := n5
  have q6 : c6 = [_] := h6
  obtain ⟨c7, r7, e7, h7, n7⟩ := n6
  have q7 : c7 = [_] := h7
  obtain ⟨c8, r8, e8, h8, n8⟩ := n7
  have q8 : c8 = [_] := h8
  have q9 : r8 = [_] := n8
  exact by rw [e0, e1, e2, e3, e4, e5, e6, e7, e8, q0, q1, q2, q3, q4, q5, q6, q7, q8, q9]; rfl
theorem mk_Sub {S : Foot} {w : World} (d : Sub)   : Rep.rd S w [.int .i64 (d.Kind), .int .i64 (d.A), .int .i64 (d.Pc), .int .i64 (d.E), .int .i64 (d.Row), .int .i64 (d.B), .int .i64 (d.H), .int .i64 (d.Out), .int .i64 (d.Code), .bool (d.Done)] d := ⟨[.int .i64 (d.Kind)], [.int .i64 (d.A), .int .i64 (d.Pc), .int .i64 (d.E), .int .i64 (d.Row), .int .i64 (d.B), .int .i64 (d.H), .int .i64 (d.Out), .int .i64 (d.Code), .bool (d.Done)], rfl, rfl, ⟨[.int .i64 (d.A)], [.int .i64 (d.Pc), .int .i64 (d.E), .int .i64 (d.Row), .int .i64 (d.B), .int .i64 (d.H), .int .i64 (d.Out), .int .i64 (d.Code), .bool (d.Done)], rfl, rfl, ⟨[.int .i64 (d.Pc)], [.int .i64 (d.E), .int .i64 (d.Row), .int .i64 (d.B), .int .i64 (d.H), .int .i64 (d.Out), .int .i64 (d.Code), .bool (d.Done)], rfl, rfl, ⟨[.int .i64 (d.E)], [.int .i64 (d.Row), .int .i64 (d.B), .int .i64 (d.H), .int .i64 (d.Out), .int .i64 (d.Code), .bool (d.Done)], rfl, rfl, ⟨[.int .i64 (d.Row)], [.int .i64 (d.B), .int .i64 (d.H), .int .i64 (d.Out), .int .i64 (d.Code), .bool (d.Done)], rfl, rfl, ⟨[.int .i64 (d.B)], [.int .i64 (d.H), .int .i64 (d.Out), .int .i64 (d.Code), .bool (d.Done)], rfl, rfl, ⟨[.int .i64 (d.H)], [.int .i64 (d.Out), .int .i64 (d.Code), .bool (d.Done)], rfl, rfl, ⟨[.int .i64 (d.Out)], [.int .i64 (d.Code), .bool (d.Done)], rfl, rfl, ⟨[.int .i64 (d.Code)], [.bool (d.Done)], rfl, rfl, rfl⟩⟩⟩⟩⟩⟩⟩⟩⟩
instance : Flat Sub := ⟨fun h => Flat.own_of (α := Int × Int × Int × Int × Int × Int × Int × Int × Int × Bool) h, fun h => Flat.no (α := Int × Int × Int × Int × Int × Int × Int × Int × Int × Bool) h⟩
structure Job where
  Busy : Bool
  Op : GOp
  Serial : Int
  Pc : Int
  Sub : Sub
  H : Int
  Old : Int
  Val : Int
  Code : Int
  deriving DecidableEq, Inhabited
instance : Rep Job := Rep.via (fun d => (d.Busy, d.Op, d.Serial, d.Pc, d.Sub, d.H, d.Old, d.Val, d.Code))
instance : Fits Job := Fits.via (fun d => (d.Busy, d.Op, d.Serial, d.Pc, d.Sub, d.H, d.Old, d.Val, d.Code))
theorem rd_Job {S : Foot} {w : World} {cs : List Value} {d : Job} (h : Rep.rd S w cs d) : cs = [.bool (d.Busy), .int .i64 (d.Op.Kind), .int .i64 (d.Op.Cell), .int .i64 (d.Op.Size), .int .i64 (d.Op.Val), .int .i64 (d.Serial), .int .i64 (d.Pc), .int .i64 (d.Sub.Kind), .int .i64 (d.Sub.A), .int .i64 (d.Sub.Pc), .int .i64 (d.Sub.E), .int .i64 (d.Sub.Row), .int .i64 (d.Sub.B), .int .i64 (d.Sub.H), .int .i64 (d.Sub.Out), .int .i64 (d.Sub.Code), .bool (d.Sub.Done), .int .i64 (d.H), .int .i64 (d.Old), .int .i64 (d.Val), .int .i64 (d.Code)] := by
  obtain ⟨c0, r0, e0, h0, n0⟩ := h
  have q0 : c0 = [_] := h0
  obtain ⟨c1, r1, e1, h1, n1⟩ := n0
  have q1 := rd_GOp h1
  obtain ⟨c2, r2, e2, h2, n2⟩ := n1
  have q2 : c2 = [_] := h2
  obtain ⟨c3, r3, e3, h3, n3⟩ := n2
  have q3 : c3 = [_] := h3
  obtain ⟨c4, r4, e4, h4, n4⟩ := n3
  have q4 := rd_Sub h4
  obtain ⟨c5, r5, e5, h5, n5⟩ := n4
  have q5 : c5 = [_] := h5
  obtain ⟨c6, r6, e6, h6, n6⟩ := n5
  have q6 : c6 = [_] := h6
  obtain ⟨c7, r7, e7, h7, n7⟩ := n6
  have q7 : c7 = [_] := h7
  have q8 : r7 = [_] := n7
  exact by rw [e0, e1, e2, e3, e4, e5, e6, e7, q0, q1, q2, q3, q4, q5, q6, q7, q8]; rfl
theorem mk_Job {S : Foot} {w : World} (d : Job)   : Rep.rd S w [.bool (d.Busy), .int .i64 (d.Op.Kind), .int .i64 (d.Op.Cell), .int .i64 (d.Op.Size), .int .i64 (d.Op.Val), .int .i64 (d.Serial), .int .i64 (d.Pc), .int .i64 (d.Sub.Kind), .int .i64 (d.Sub.A), .int .i64 (d.Sub.Pc), .int .i64 (d.Sub.E), .int .i64 (d.Sub.Row), .int .i64 (d.Sub.B), .int .i64 (d.Sub.H), .int .i64 (d.Sub.Out), .int .i64 (d.Sub.Code), .bool (d.Sub.Done), .int .i64 (d.H), .int .i64 (d.Old), .int .i64 (d.Val), .int .i64 (d.Code)] d := ⟨[.bool (d.Busy)], [.int .i64 (d.Op.Kind), .int .i64 (d.Op.Cell), .int .i64 (d.Op.Size), .int .i64 (d.Op.Val), .int .i64 (d.Serial), .int .i64 (d.Pc), .int .i64 (d.Sub.Kind), .int .i64 (d.Sub.A), .int .i64 (d.Sub.Pc), .int .i64 (d.Sub.E), .int .i64 (d.Sub.Row), .int .i64 (d.Sub.B), .int .i64 (d.Sub.H), .int .i64 (d.Sub.Out), .int .i64 (d.Sub.Code), .bool (d.Sub.Done), .int .i64 (d.H), .int .i64 (d.Old), .int .i64 (d.Val), .int .i64 (d.Code)], rfl, rfl, ⟨[.int .i64 (d.Op.Kind), .int .i64 (d.Op.Cell), .int .i64 (d.Op.Size), .int .i64 (d.Op.Val)], [.int .i64 (d.Serial), .int .i64 (d.Pc), .int .i64 (d.Sub.Kind), .int .i64 (d.Sub.A), .int .i64 (d.Sub.Pc), .int .i64 (d.Sub.E), .int .i64 (d.Sub.Row), .int .i64 (d.Sub.B), .int .i64 (d.Sub.H), .int .i64 (d.Sub.Out), .int .i64 (d.Sub.Code), .bool (d.Sub.Done), .int .i64 (d.H), .int .i64 (d.Old), .int .i64 (d.Val), .int .i64 (d.Code)], rfl, (mk_GOp _), ⟨[.int .i64 (d.Serial)], [.int .i64 (d.Pc), .int .i64 (d.Sub.Kind), .int .i64 (d.Sub.A), .int .i64 (d.Sub.Pc), .int .i64 (d.Sub.E), .int .i64 (d.Sub.Row), .int .i64 (d.Sub.B), .int .i64 (d.Sub.H), .int .i64 (d.Sub.Out), .int .i64 (d.Sub.Code), .bool (d.Sub.Done), .int .i64 (d.H), .int .i64 (d.Old), .int .i64 (d.Val), .int .i64 (d.Code)], rfl, rfl, ⟨[.int .i64 (d.Pc)], [.int .i64 (d.Sub.Kind), .int .i64 (d.Sub.A), .int .i64 (d.Sub.Pc), .int .i64 (d.Sub.E), .int .i64 (d.Sub.Row), .int .i64 (d.Sub.B), .int .i64 (d.Sub.H), .int .i64 (d.Sub.Out), .int .i64 (d.Sub.Code), .bool (d.Sub.Done), .int .i64 (d.H), .int .i64 (d.Old), .int .i64 (d.Val), .int .i64 (d.Code)], rfl, rfl, ⟨[.int .i64 (d.Sub.Kind), .int .i64 (d.Sub.A), .int .i64 (d.Sub.Pc), .int .i64 (d.Sub.E), .int .i64 (d.Sub.Row), .int .i64 (d.Sub.B), .int .i64 (d.Sub.H), .int .i64 (d.Sub.Out), .int .i64 (d.Sub.Code), .bool (d.Sub.Done)], [.int .i64 (d.H), .int .i64 (d.Old), .int .i64 (d.Val), .int .i64 (d.Code)], rfl, (mk_Sub _), ⟨[.int .i64 (d.H)], [.int .i64 (d.Old), .int .i64 (d.Val), .int .i64 (d.Code)], rfl, rfl, ⟨[.int .i64 (d.Old)], [.int .i64 (d.Val), .int .i64 (d.Code)], rfl, rfl, ⟨[.int .i64 (d.Val)], [.int .i64 (d.Code)], rfl, rfl, rfl⟩⟩⟩⟩⟩⟩⟩⟩
instance : Flat Job := ⟨fun h => Flat.own_of (α := Bool × GOp × Int × Int × Sub × Int × Int × Int × Int) h, fun h => Flat.no (α := Bool × GOp × Int × Int × Sub × Int × Int × Int × Int) h⟩
theorem op_Job (d : Job)  : OP [.bool (d.Busy), .int .i64 (d.Op.Kind), .int .i64 (d.Op.Cell), .int .i64 (d.Op.Size), .int .i64 (d.Op.Val), .int .i64 (d.Serial), .int .i64 (d.Pc), .int .i64 (d.Sub.Kind), .int .i64 (d.Sub.A), .int .i64 (d.Sub.Pc), .int .i64 (d.Sub.E), .int .i64 (d.Sub.Row), .int .i64 (d.Sub.B), .int .i64 (d.Sub.H), .int .i64 (d.Sub.Out), .int .i64 (d.Sub.Code), .bool (d.Sub.Done), .int .i64 (d.H), .int .i64 (d.Old), .int .i64 (d.Val), .int .i64 (d.Code)] d [] := (show OP (α := Bool × GOp × Int × Int × Sub × Int × Int × Int × Int) _ (d.Busy, d.Op, d.Serial, d.Pc, d.Sub, d.H, d.Old, d.Val, d.Code) _ from (op_pair (c1 := [.bool (d.Busy)]) (c2 := [.int .i64 (d.Op.Kind), .int .i64 (d.Op.Cell), .int .i64 (d.Op.Size), .int .i64 (d.Op.Val), .int .i64 (d.Serial), .int .i64 (d.Pc), .int .i64 (d.Sub.Kind), .int .i64 (d.Sub.A), .int .i64 (d.Sub.Pc), .int .i64 (d.Sub.E), .int .i64 (d.Sub.Row), .int .i64 (d.Sub.B), .int .i64 (d.Sub.H), .int .i64 (d.Sub.Out), .int .i64 (d.Sub.Code), .bool (d.Sub.Done), .int .i64 (d.H), .int .i64 (d.Old), .int .i64 (d.Val), .int .i64 (d.Code)]) (A := []) (B := []) (op_flat rfl) (op_pair (c1 := [.int .i64 (d.Op.Kind), .int .i64 (d.Op.Cell), .int .i64 (d.Op.Size), .int .i64 (d.Op.Val)]) (c2 := [.int .i64 (d.Serial), .int .i64 (d.Pc), .int .i64 (d.Sub.Kind), .int .i64 (d.Sub.A), .int .i64 (d.Sub.Pc), .int .i64 (d.Sub.E), .int .i64 (d.Sub.Row), .int .i64 (d.Sub.B), .int .i64 (d.Sub.H), .int .i64 (d.Sub.Out), .int .i64 (d.Sub.Code), .bool (d.Sub.Done), .int .i64 (d.H), .int .i64 (d.Old), .int .i64 (d.Val), .int .i64 (d.Code)]) (A := []) (B := []) (op_flat (mk_GOp _)) (op_pair (c1 := [.int .i64 (d.Serial)]) (c2 := [.int .i64 (d.Pc), .int .i64 (d.Sub.Kind), .int .i64 (d.Sub.A), .int .i64 (d.Sub.Pc), .int .i64 (d.Sub.E), .int .i64 (d.Sub.Row), .int .i64 (d.Sub.B), .int .i64 (d.Sub.H), .int .i64 (d.Sub.Out), .int .i64 (d.Sub.Code), .bool (d.Sub.Done), .int .i64 (d.H), .int .i64 (d.Old), .int .i64 (d.Val), .int .i64 (d.Code)]) (A := []) (B := []) (op_flat rfl) (op_pair (c1 := [.int .i64 (d.Pc)]) (c2 := [.int .i64 (d.Sub.Kind), .int .i64 (d.Sub.A), .int .i64 (d.Sub.Pc), .int .i64 (d.Sub.E), .int .i64 (d.Sub.Row), .int .i64 (d.Sub.B), .int .i64 (d.Sub.H), .int .i64 (d.Sub.Out), .int .i64 (d.Sub.Code), .bool (d.Sub.Done), .int .i64 (d.H), .int .i64 (d.Old), .int .i64 (d.Val), .int .i64 (d.Code)]) (A := []) (B := []) (op_flat rfl) (op_pair (c1 := [.int .i64 (d.Sub.Kind), .int .i64 (d.Sub.A), .int .i64 (d.Sub.Pc), .int .i64 (d.Sub.E), .int .i64 (d.Sub.Row), .int .i64 (d.Sub.B), .int .i64 (d.Sub.H), .int .i64 (d.Sub.Out), .int .i64 (d.Sub.Code), .bool (d.Sub.Done)]) (c2 := [.int .i64 (d.H), .int .i64 (d.Old), .int .i64 (d.Val), .int .i64 (d.Code)]) (A := []) (B := []) (op_flat (mk_Sub _)) (op_pair (c1 := [.int .i64 (d.H)]) (c2 := [.int .i64 (d.Old), .int .i64 (d.Val), .int .i64 (d.Code)]) (A := []) (B := []) (op_flat rfl) (op_pair (c1 := [.int .i64 (d.Old)]) (c2 := [.int .i64 (d.Val), .int .i64 (d.Code)]) (A := []) (B := []) (op_flat rfl) (op_pair (c1 := [.int .i64 (d.Val)]) (c2 := [.int .i64 (d.Code)]) (A := []) (B := []) (op_flat rfl) (op_flat rfl) rfl) rfl) rfl) rfl) rfl) rfl) rfl) rfl))
structure Queue where
  Ops : List GOp
  deriving DecidableEq, Inhabited
instance : Rep Queue := Rep.via (fun d => (d.Ops))
instance : Fits Queue := Fits.via (fun d => (d.Ops))
theorem rd_Queue {S : Foot} {w : World} {cs : List Value} {d : Queue} (h : Rep.rd S w cs d) : ∃ v0 : Value, cs = [v0] ∧ Rep.rd S w [v0] d.Ops := by
  obtain ⟨u0, q0⟩ := rd_one_cell h
  rw [q0] at h
  exact ⟨u0, q0, h⟩
theorem op_Queue (d : Queue) {v0 : Value} : OP [v0] d [cOwn [v0] d.Ops] := (show OP (α := (List GOp)) _ (d.Ops) _ from op_own)
structure Ev where
  Kind : Int
  Who : Int
  Serial : Int
  Cell : Int
  Handle : Int
  Val : Int
  Code : Int
  deriving DecidableEq, Inhabited
instance : Rep Ev := Rep.via (fun d => (d.Kind, d.Who, d.Serial, d.Cell, d.Handle, d.Val, d.Code))
instance : Fits Ev := Fits.via (fun d => (d.Kind, d.Who, d.Serial, d.Cell, d.Handle, d.Val, d.Code))
theorem rd_Ev {S : Foot} {w : World} {cs : List Value} {d : Ev} (h : Rep.rd S w cs d) : cs = [.int .i64 (d.Kind), .int .i64 (d.Who), .int .i64 (d.Serial), .int .i64 (d.Cell), .int .i64 (d.Handle), .int .i64 (d.Val), .int .i64 (d.Code)] := by
  obtain ⟨c0, r0, e0, h0, n0⟩ := h
  have q0 : c0 = [_] := h0
  obtain ⟨c1, r1, e1, h1, n1⟩ := n0
  have q1 : c1 = [_] := h1
  obtain ⟨c2, r2, e2, h2, n2⟩ := n1
  have q2 : c2 = [_] := h2
  obtain ⟨c3, r3, e3, h3, n3⟩ := n2
  have q3 : c3 = [_] := h3
  obtain ⟨c4, r4, e4, h4, n4⟩ := n3
  have q4 : c4 = [_] := h4
  obtain ⟨c5, r5, e5, h5, n5⟩ := n4
  have q5 : c5 = [_] := h5
  have q6 : r5 = [_] := n5
  exact by rw [e0, e1, e2, e3, e4, e5, q0, q1, q2, q3, q4, q5, q6]; rfl
theorem mk_Ev {S : Foot} {w : World} (d : Ev)   : Rep.rd S w [.int .i64 (d.Kind), .int .i64 (d.Who), .int .i64 (d.Serial), .int .i64 (d.Cell), .int .i64 (d.Handle), .int .i64 (d.Val), .int .i64 (d.Code)] d := ⟨[.int .i64 (d.Kind)], [.int .i64 (d.Who), .int .i64 (d.Serial), .int .i64 (d.Cell), .int .i64 (d.Handle), .int .i64 (d.Val), .int .i64 (d.Code)], rfl, rfl, ⟨[.int .i64 (d.Who)], [.int .i64 (d.Serial), .int .i64 (d.Cell), .int .i64 (d.Handle), .int .i64 (d.Val), .int .i64 (d.Code)], rfl, rfl, ⟨[.int .i64 (d.Serial)], [.int .i64 (d.Cell), .int .i64 (d.Handle), .int .i64 (d.Val), .int .i64 (d.Code)], rfl, rfl, ⟨[.int .i64 (d.Cell)], [.int .i64 (d.Handle), .int .i64 (d.Val), .int .i64 (d.Code)], rfl, rfl, ⟨[.int .i64 (d.Handle)], [.int .i64 (d.Val), .int .i64 (d.Code)], rfl, rfl, ⟨[.int .i64 (d.Val)], [.int .i64 (d.Code)], rfl, rfl, rfl⟩⟩⟩⟩⟩⟩
instance : Flat Ev := ⟨fun h => Flat.own_of (α := Int × Int × Int × Int × Int × Int × Int) h, fun h => Flat.no (α := Int × Int × Int × Int × Int × Int × Int) h⟩
theorem op_Ev (d : Ev)  : OP [.int .i64 (d.Kind), .int .i64 (d.Who), .int .i64 (d.Serial), .int .i64 (d.Cell), .int .i64 (d.Handle), .int .i64 (d.Val), .int .i64 (d.Code)] d [] := (show OP (α := Int × Int × Int × Int × Int × Int × Int) _ (d.Kind, d.Who, d.Serial, d.Cell, d.Handle, d.Val, d.Code) _ from (op_pair (c1 := [.int .i64 (d.Kind)]) (c2 := [.int .i64 (d.Who), .int .i64 (d.Serial), .int .i64 (d.Cell), .int .i64 (d.Handle), .int .i64 (d.Val), .int .i64 (d.Code)]) (A := []) (B := []) (op_flat rfl) (op_pair (c1 := [.int .i64 (d.Who)]) (c2 := [.int .i64 (d.Serial), .int .i64 (d.Cell), .int .i64 (d.Handle), .int .i64 (d.Val), .int .i64 (d.Code)]) (A := []) (B := []) (op_flat rfl) (op_pair (c1 := [.int .i64 (d.Serial)]) (c2 := [.int .i64 (d.Cell), .int .i64 (d.Handle), .int .i64 (d.Val), .int .i64 (d.Code)]) (A := []) (B := []) (op_flat rfl) (op_pair (c1 := [.int .i64 (d.Cell)]) (c2 := [.int .i64 (d.Handle), .int .i64 (d.Val), .int .i64 (d.Code)]) (A := []) (B := []) (op_flat rfl) (op_pair (c1 := [.int .i64 (d.Handle)]) (c2 := [.int .i64 (d.Val), .int .i64 (d.Code)]) (A := []) (B := []) (op_flat rfl) (op_pair (c1 := [.int .i64 (d.Val)]) (c2 := [.int .i64 (d.Code)]) (A := []) (B := []) (op_flat rfl) (op_flat rfl) rfl) rfl) rfl) rfl) rfl) rfl))
structure Shelf where
  Base : Base
  Cells : List Int
  Jobs : List Job
  Todo : List Queue
  Log : List Ev
  Serial : Int
  deriving DecidableEq, Inhabited
instance : Rep Shelf := Rep.via (fun d => (d.Base, d.Cells, d.Jobs, d.Todo, d.Log, d.Serial))
instance : Fits Shelf := Fits.via (fun d => (d.Base, d.Cells, d.Jobs, d.Todo, d.Log, d.Serial))
theorem rd_Shelf {S : Foot} {w : World} {cs : List Value} {d : Shelf} (h : Rep.rd S w cs d) : ∃ v0 v1 v2 v3 v4 v5 v6 v7 v8 v9 v10 : Value, cs = [v0, v1, v2, v3, .int .i64 (d.Base.Clock.Epoch), v4, v5, v6, v7, v8, v9, v10, .int .i64 (d.Serial)] ∧ Rep.rd S w [v0] d.Base.Mem.Heap.Bytes ∧ Rep.rd S w [v1] d.Base.Mem.Heap.Class ∧ Rep.rd S w [v2] d.Base.Mem.Lists.Global ∧ Rep.rd S w [v3] d.Base.Mem.Lists.Own ∧ Rep.rd S w [v4] d.Base.Clock.Pins ∧ Rep.rd S w [v5] d.Base.Limbo ∧ Rep.rd S w [v6] d.Base.Haz ∧ Rep.rd S w [v7] d.Cells ∧ Rep.rd S w [v8] d.Jobs ∧ Rep.rd S w [v9] d.Todo ∧ Rep.rd S w [v10] d.Log := by
  obtain ⟨c0, r0, e0, h0, n0⟩ := h
  obtain ⟨u0_0, u0_1, u0_2, u0_3, u0_4, u0_5, u0_6, q0, hq0_0, hq0_1, hq0_2, hq0_3, hq0_4, hq0_5, hq0_6⟩ := rd_Base h0
  obtain ⟨c1, r1, e1, h1, n1⟩ := n0
  obtain ⟨u1, q1⟩ := rd_one_cell h1
  rw [q1] at h1
  obtain ⟨c2, r2, e2, h2, n2⟩ := n1
  obtain ⟨u2, q2⟩ := rd_one_cell h2
  rw [q2] at h2
  obtain ⟨c3, r3, e3, h3, n3⟩ := n2
  obtain ⟨u3, q3⟩ := rd_one_cell h3
  rw [q3] at h3
  obtain ⟨c4, r4, e4, h4, n4⟩ := n3
  obtain ⟨u4, q4⟩ := rd_one_cell h4
  rw [q4] at h4
  have q5 : r4 = [_] := n4
  exact ⟨u0_0, u0_1, u0_2, u0_3, u0_4, u0_5, u0_6, u1, u2, u3, u4, by rw [e0, e1, e2, e3, e4, q0, q1, q2, q3, q4, q5]; rfl, hq0_0, hq0_1, hq0_2, hq0_3, hq0_4, hq0_5, hq0_6, h1, h2, h3, h4⟩
theorem op_Shelf (d : Shelf) {v0 : Value} {v1 : Value} {v2 : Value} {v3 : Value} {v4 : Value} {v5 : Value} {v6 : Value} {v7 : Value} {v8 : Value} {v9 : Value} {v10 : Value} : OP [v0, v1, v2, v3, .int .i64 (d.Base.Clock.Epoch), v4, v5, v6, v7, v8, v9, v10, .int .i64 (d.Serial)] d [cOwn [v0] d.Base.Mem.Heap.Bytes, cOwn [v1] d.Base.Mem.Heap.Class, cOwn [v2] d.Base.Mem.Lists.Global, cOwn [v3] d.Base.Mem.Lists.Own, cOwn [v4] d.Base.Clock.Pins, cOwn [v5] d.Base.Limbo, cOwn [v6] d.Base.Haz, cOwn [v7] d.Cells, cOwn [v8] d.Jobs, cOwn [v9] d.Todo, cOwn [v10] d.Log] := (show OP (α := Base × (List Int) × (List Job) × (List Queue) × (List Ev) × Int) _ (d.Base, d.Cells, d.Jobs, d.Todo, d.Log, d.Serial) _ from (op_pair (c1 := [v0, v1, v2, v3, .int .i64 (d.Base.Clock.Epoch), v4, v5, v6]) (c2 := [v7, v8, v9, v10, .int .i64 (d.Serial)]) (A := [cOwn [v0] d.Base.Mem.Heap.Bytes, cOwn [v1] d.Base.Mem.Heap.Class, cOwn [v2] d.Base.Mem.Lists.Global, cOwn [v3] d.Base.Mem.Lists.Own, cOwn [v4] d.Base.Clock.Pins, cOwn [v5] d.Base.Limbo, cOwn [v6] d.Base.Haz]) (B := [cOwn [v7] d.Cells, cOwn [v8] d.Jobs, cOwn [v9] d.Todo, cOwn [v10] d.Log]) (op_Base _) (op_pair (c1 := [v7]) (c2 := [v8, v9, v10, .int .i64 (d.Serial)]) (A := [cOwn [v7] d.Cells]) (B := [cOwn [v8] d.Jobs, cOwn [v9] d.Todo, cOwn [v10] d.Log]) op_own (op_pair (c1 := [v8]) (c2 := [v9, v10, .int .i64 (d.Serial)]) (A := [cOwn [v8] d.Jobs]) (B := [cOwn [v9] d.Todo, cOwn [v10] d.Log]) op_own (op_pair (c1 := [v9]) (c2 := [v10, .int .i64 (d.Serial)]) (A := [cOwn [v9] d.Todo]) (B := [cOwn [v10] d.Log]) op_own (op_pair (c1 := [v10]) (c2 := [.int .i64 (d.Serial)]) (A := [cOwn [v10] d.Log]) (B := []) op_own (op_flat rfl) rfl) rfl) rfl) rfl) rfl))
end Go.Gv
end
