import Derived.Test.YtpkgcalilmlljaaGreatDoorXKD
import Derived.RangeFuncWrites
import Derived.RangeFuncBox
import Derived.RangeFuncLeaves
import Derived.Shelf.Abstract
import Derived.WalkKit
import Derived.OwnWalkIn
import Derived.TacticsInMore
import Derived.LoopNIn
import Derived.LoopIn
set_option linter.unusedVariables false
set_option linter.unusedSimpArgs false
set_option linter.unusedSectionVars false
set_option linter.unnecessarySimpa false
set_option linter.constructorNameAsVariable false
section
/-
  Literals of elements that own memory; results that may be another's. Nothing of a program here.
-/
set_option linter.unusedVariables false
set_option linter.unusedSectionVars false
namespace Go.Gv
theorem blank_ap : ∀ (B A : List Chunk), blank (A ++ B) (List.range' A.length B.length) = A ++ List.replicate B.length cNo
  | [], A => by simp [blank]
  | b :: B, A => by
    have := blank_ap B (A ++ [cNo])
    simp_all [List.range'_succ, blank, List.replicate_succ]
theorem pick_en : ∀ (B A : List Chunk), pick (A ++ B) (List.range' A.length B.length) = B
  | [], A => by simp [pick]
  | b :: B, A => by
    have := pick_en B (A ++ [b])
    simp_all [List.range'_succ, pick]
theorem apart_r : ∀ (k a : Nat), apartB (List.range' a k) = true
  | 0, a => rfl
  | k + 1, a => by
    rw [List.range'_succ]
    simp only [apartB, Bool.and_eq_true, List.all_eq_true, Bool.not_eq_true']
    exact ⟨fun j hj => by grind [Nat.eq_of_beq_eq_true], apart_r k (a + 1)⟩
theorem Sep.noNo {w : World} : ∀ (k : Nat) {A B : List Chunk} {F : Foot}, Sep w (A ++ List.replicate k cNo ++ B) F → Sep w (A ++ B) F
  | 0, A, B, F, h => by grind
  | k + 1, A, B, F, h => by
    refine Sep.noNo k ?_
    rw [List.replicate_succ, List.append_assoc, List.cons_append] at h
    obtain ⟨F1, F2, h1, ⟨F3, F4, h2, h3, h4, h5⟩, h6, h7⟩ := Sep.append.1 h
    rw [List.append_assoc]
    exact Sep.append.2 ⟨F1, F4, h1, h3, fun b o a c => h6 b o a ((h5 b o).2 (.inr c)), fun b o => by
      rw [h7, h5]; exact ⟨fun h => h.imp id fun h => h.resolve_left (h2 b o), fun h => h.imp id .inr⟩⟩
theorem rdA_n {c : Ctx} {α : Type} [Rep α] : RdA c ⟨none, 0⟩ ([] : List α) := (⟨none, 0, rfl, Nat.le_refl _, Nat.zero_le _, .inl rfl⟩ : rdSlice c.S0 c.w0 _ _)
section
variable {P : Program} {T : TT} {hT : TOk P T} {n : Nat} {c : Ctx} {B0 : Bl} {N : Act → World → Prop} {X : Nat → Act → World → Prop} {Q : Act → World → Prop} {K K' : List Fr} {m m' : Nat} {e e' : SE} {L L' : List Ch} {cf cf1 cf2 : Cfg} {o : Oper} {Lv : List Ch} {d : Nat}
theorem litm {α : Type} [Rep α] (E : CO α) {sz : Nat} {B : Bl} {a : Act} (hA : AEnvS n B e a) : ∀ {ps : List (Nat × Operand)} {qs : List (α × E.ex)}, mapO (fun p => (evS e p.2).map fun v => nbL (cellsS v)) ps = some (qs.map fun q => E.cs q.1 q.2) → (qs.all fun q => Nat.beq (E.cs q.1 q.2).length sz && (mapO (cellV []) (E.cs q.1 q.2)).isSome) = true →
    ∃ vs cells M, evs (vE B e) (ps.map (·.2)) = some vs ∧ vs.length = ps.length ∧ (vs.all fun v => v.cells.size == sz) = true ∧ (vs.flatMap fun v => v.cells.toList) = cells ∧ OPs sz cells (qs.map (·.1)) M ∧ M.length = qs.length ∧ ∀ w F, Sep w ((qs.flatMap fun q => E.Lx q.1 q.2).map (chd [])) F → Sep w M F
  | [], [], _, _ => ⟨[], [], [], rfl, rfl, rfl, rfl, ⟨rfl, rfl⟩, rfl, fun _ _ h => h⟩
  | [], q :: qs, h, _ => by cases h
  | p :: ps, [], h, _ => by grind [mapO]
  | p :: ps, q :: qs, h, hc => by
    simp only [mapO, List.map_cons] at h
    split at h
    · cases h
    · rename_i c0 h1
      split at h
      · cases h
      · rename_i cs h2
        simp only [Option.some.injEq, List.cons.injEq] at h
        obtain ⟨rfl, rfl⟩ := h
        simp only [List.all_cons, Bool.and_eq_true] at hc
        obtain ⟨⟨hl, hsome⟩, hc⟩ := hc
        obtain ⟨vs, cells, M, g1, g2, g3, g4, g5, g6, g7⟩ := litm E hA h2 (by omega)
        obtain ⟨ec, hec⟩ := Option.isSome_iff_exists.1 hsome
        cases hxv : evS e p.2 with
        | none => grind
        | some xv =>
          rw [hxv] at h1
          simp at h1
          obtain ⟨v, v1, v2⟩ := evS_ok hA hxv
          have hcell : mapO (cellV B) (cellsS xv) = some ec := by
            rw [← nbL_map, h1]; exact mapO_mono (fun x v h => by simpa using cellV_app (B := []) B h) hec
          have hvc : v.cells.toList = ec := cellsS_ok v1 hcell
          have hecl : ec.length = sz := by grind [mapO_len, Nat.eq_of_beq_eq_true]
          have e1 : (ec ++ cells).take sz = ec := by grind
          have e2 : (ec ++ cells).drop sz = cells := by grind
          refine ⟨v :: vs, ec ++ cells, cOwn ec q.1 :: M, by grind [evs], by simp [g2], ?_, by grind, ⟨M, by rw [e1], by grind, by grind⟩, by simp [g6], fun w F hF => ?_⟩
          · grind
          · rw [List.flatMap_cons, List.map_append] at hF
            obtain ⟨F1, F2, k1, k2, k3, k4⟩ := Sep.append.1 hF
            exact ⟨F1, F2, (E.pk hec w F1).2 k1, g7 w F2 k2, k3, k4⟩
theorem ltM {α : Type} [Rep α] (E : CO α) (is : List Nat) (qs : List (α × E.ex)) {len el sz : Nat} {zv : Value} {t : Nat} {b1 : Bool} {n1 : Nat} {z1 : List SV} {ps : List (Nat × Operand)} (hinf : Inf P el sz zv) (hs : stq T n K cf m e L = .op o Lv cf1 cf2 K' m' e' L') (ho : (o.op, o.dst) = (.buildSlice t len ⟨ps⟩, some d)) (ht : lkT T t = some ⟨.sl el, b1, n1, z1⟩) (hn : Rep.n α = sz) (hl : qs.length = len) (hm : Nat.ble 1 sz = true) (hsm : Nat.ble (len * sz) 16777216 = true) (hix : ps.map (·.1) = List.range' 0 len) (hev : mapO (fun p => (evS e' p.2).map fun v => nbL (cellsS v)) ps = some (qs.map fun q => E.cs q.1 q.2)) (hec : (qs.all fun q => Nat.beq (E.cs q.1 q.2).length sz && (mapO (cellV []) (E.cs q.1 q.2)).isSome) = true) (hi : mapO (fun i => L'[i]?) is = some (qs.flatMap fun q => E.Lx q.1 q.2)) (ha : apartB is = true) (hz : (is.all fun j => notIn j cf1.frz) = true)
    (k : ∀ s' : AC, G (.mk P T hT n c B0 N X Q) K' m' ((d, .h s' (qs.map (·.1)).length) :: e') (blk L' is ++ [ow s' (qs.map (·.1))]) cf2) : G (.mk P T hT n c B0 N X Q) K m e L cf := by
  refine estp (l := qs.map (·.1)) (fun s' => blk L' is ++ [ow s' (qs.map (·.1))]) hs (congrArg Prod.snd ho) (fun _ => frz_blk _ hz) (fun B a w hA hS => ?_) k
  obtain ⟨⟨R, s1, s2⟩, s0⟩ := hS
  obtain ⟨vs, cells, M, g1, g2, g3, g4, g5, g6, g7⟩ := litm E (sz := sz) hA hev hec
  have hb : ∀ B, (qs.flatMap fun q => E.Lx q.1 q.2).map (chd B) = (qs.flatMap fun q => E.Lx q.1 q.2).map (chd []) := fun B => by
    rw [List.map_flatMap, List.map_flatMap]; congr 1; funext q; exact E.nb q.1 q.2 B
  have p1 := s1.shift is ha (A' := M) fun F hF => g7 w F (by grind [pick_kl])
  have hpl : ps.length = len := by simpa using congrArg List.length hix
  obtain ⟨v', w', k1, k2⟩ := rv_litN (e := vE B e') (o := o) (ps := ps) (vs := vs) (cells := cells) (qs.map (·.1)) p1 (List.range' (blank (L'.map (chd B)) is).length M.length) (apart_r _ _) (by grind [pick_en]) hn (undL ht hT) hinf (by grind) hm hsm (congrArg Prod.fst ho) g1 (lit_fill hix (by rw [g2, hpl]) g3 g4)
  rw [blank_ap] at k2
  obtain ⟨s', rfl⟩ := own_AC (v := v') (l := qs.map (·.1)) k2 _ List.getElem?_concat_length
  obtain ⟨F, S, a1, a2⟩ := k2.sep
  refine ⟨s', w', k1, ⟨⟨R, ⟨k2.keep, ⟨F, S, ?_, a2⟩, k2.apart⟩, fun z hz => ?_⟩, s0⟩⟩
  · rw [List.map_append, blk_map]; exact Sep.noNo _ a1
  · rcases List.mem_append.1 hz with hz | hz
    · rcases blk_mem _ _ hz with hz | hz
      · grind
      · subst hz; trivial
    · simp at hz; subst hz; trivial
theorem brOR {Z : Act → World → Prop} {κ : Ctx} {α : Type} [Rep α] (j : Nat) {s : AC} {d : List α} (hj : L[j]? = some (ow s d)) (kk : ∀ a w, RelN n c B0 m e (L.set j (.o (cBr κ s d))) a w → Z a w) : ∀ a w, RelN n c B0 m e L a w → Z a w := by
  intro a w ⟨B, hm, hA, ⟨⟨R, s1, s2⟩, s0⟩⟩
  refine kk a w ⟨B, hm, hA, ⟨⟨R, ?_, fun z hz => ?_⟩, s0⟩⟩
  · rw [List.map_set]
    exact s1.imp (ImpL.put j (by rw [List.getElem?_map, hj]; rfl) fun F hF => cBr_o hF)
  · rcases List.mem_or_eq_of_mem_set hz with hz | hz
    · grind
    · subst hz; trivial
theorem brAR {Z : Act → World → Prop} {κ : Ctx} {α : Type} [Rep α] {s : AC} {d : List α} (h : RdA κ s d) (kk : ∀ a w, RelN n c B0 m e (L ++ [.o (cBr κ s d)]) a w → Z a w) : ∀ a w, RelN n c B0 m e L a w → Z a w := by
  intro a w ⟨B, hm, hA, ⟨⟨R, s1, s2⟩, s0⟩⟩
  refine kk a w ⟨B, hm, hA, ⟨⟨R, ?_, fun z hz => ?_⟩, s0⟩⟩
  · rw [List.map_append]
    exact St.more s1 (Keep.refl _ _) ⟨F0, cBr_a h w, fun _ _ h => h.elim⟩
  · rcases List.mem_append.1 hz with hz | hz
    · grind
    · simp at hz; subst hz; trivial
end
end Go.Gv
end
section
/-
  A range over an iterator whose body writes one block that was there before. Nothing of a program here.
-/
set_option linter.unusedVariables false
namespace Go.Gv
open Go Go.RowKit
/-- Below n nothing turned but the block z. -/
structure KX (n z : Nat) (A B : World) : Prop where
  size : A.heap.size ≤ B.heap.size
  blk : ∀ k, k < n → k ≠ z → B.heap[k]? = A.heap[k]?
theorem KX.refl (n z : Nat) (A : World) : KX n z A A := ⟨Nat.le_refl _, fun _ _ _ => rfl⟩
theorem KX.trans {n z : Nat} {A B C : World} (h : KX n z A B) (k : KX n z B C) : KX n z A C := ⟨Nat.le_trans h.size k.size, fun i h1 h2 => (k.blk i h1 h2).trans (h.blk i h1 h2)⟩
theorem KX.put {n z l : Nat} {A : World} {o : Obj} (h : n ≤ l ∨ l = z) : KX n z A (A.putObj l o) := ⟨by simp [World.putObj], fun i h1 h2 => World.putObj_heap_other (by omega)⟩
/-- The cells that there are. -/
def CelS (W : World) : Foot := fun b o => (W.cell? ⟨b, o, none⟩).isSome = true
/-- All that is read lies in cells. -/
def Cq (α : Type) [Rep α] : Prop := ∀ {S : Foot} {w : World} {cs : List Value} {d : α}, Rep.rd S w cs d → Rep.rd (fun b o => S b o ∧ CelS w b o) w cs d
theorem cq_flat {α : Type} [Rep α] [Flat α] : Cq α := fun h => Rep.rd_mono (Rep.own_rd (Flat.own_of h : Rep.own _ _ _ F0)) fun _ _ h => h.elim
theorem cq_list {α : Type} [Rep α] (hq : Cq α) : Cq (List α) := fun {S w cs l} h => by
  obtain ⟨a, c, e, h1, h2, h3⟩ := (h : rdSlice S w cs l)
  refine ⟨a, c, e, h1, h2, h3.imp id ?_⟩
  rintro ⟨b, off, ha, h⟩
  refine ⟨b, off, ha, fun i hi => ?_⟩
  obtain ⟨ec, q1, q2, q3⟩ := h i hi
  refine ⟨ec, q1, fun o g => ⟨q2 o g, ?_⟩, hq q3⟩
  obtain ⟨_, g1, g2⟩ := g
  have := q1 (o - (off + i * Rep.n α)) ec[o - (off + i * Rep.n α)] (List.getElem?_eq_getElem (by omega))
  rw [show off + i * Rep.n α + (o - (off + i * Rep.n α)) = o by omega] at this
  simp [CelS, this]
/-- Read in cells, not in the block z. -/
def RdZ (z : Nat) (W : World) {α : Type} [Rep α] (cs : List Value) (d : α) : Prop := Rep.rd (fun b o => b ≠ z ∧ CelS W b o) W cs d
def CK (z : Nat) (W W' : World) : Prop := ∀ (b : Nat) (t : TypeId) (cells : Array Value) (f : Nat × Nat), b ≠ z → W.heap[b]? = some (Obj.cells cells t f) → W'.heap[b]? = W.heap[b]?
theorem RdZ.kept {z : Nat} {W W' : World} {α : Type} [Rep α] {cs : List Value} {d : α} (h : RdZ z W cs d) (hk : CK z W W') : RdZ z W' cs d := by
  have key : ∀ b o, (b ≠ z ∧ CelS W b o) → W'.cell? ⟨b, o, none⟩ = W.cell? ⟨b, o, none⟩ := fun b o ⟨hz, hc⟩ => by
    refine World.cell?_of_block ?_
    unfold CelS World.cell? at hc
    simp only at hc
    split at hc
    · rename_i cells t f he; exact hk b _ _ _ hz he
    · cases hc
  exact Rep.rd_mono (Rep.rd_agree h key) fun b o hc => ⟨hc.1, by unfold CelS; rw [key b o hc]; exact hc.2⟩
theorem rdZ_own {W W' : World} {α : Type} [Rep α] (hq : Cq α) {y : AC} {d : List α} (h : StS (cxAll W) W' [] [ow y d]) {z : Nat} (hz : z < W.heap.size) : RdZ z W' [y.v d.length] d := by
  obtain ⟨⟨R, s1, _⟩, _⟩ := h
  obtain ⟨F, S, a1, _, a3, _⟩ := s1.sep
  have a1 : (cOwn [y.v d.length] d).P W' F := Sep.one.1 a1
  refine Rep.rd_mono (cq_list hq (Rep.own_rd a1)) fun b o ⟨h1, h2⟩ => ⟨fun e => ?_, h2⟩
  rcases a3 b o h1 with h | h
  · exact h
  · have : W.heap.size ≤ b := h
    omega
theorem below_of {W W' : World} {L : List Ch} (h : StS (cxAll W) W' [] L) : Below W.heap.size W W' := by
  obtain ⟨⟨R, s1, _⟩, _⟩ := h
  exact ⟨s1.keep.os, s1.keep.tape, s1.keep.output, s1.keep.size, fun k hk => s1.keep.block k hk fun _ h => h⟩
theorem CK.below {z : Nat} {W W' : World} (h : Below W.heap.size W W') : CK z W W' := fun b t c f _ hb => h.block b (Array.getElem?_eq_some_iff.1 hb).1
theorem CK.trans {z : Nat} {A B C : World} (h : CK z A B) (k : CK z B C) : CK z A C := fun b t c f hz hb => by
  have h1 := h b t c f hz hb
  exact (k b t c f hz (h1.trans hb)).trans h1
def mkD (D : Nat) : Deferred := { target := .collected D, args := #[] }
/-- The marks that ranges leave. -/
def Mks : List Deferred → World → Prop
  | [], _ => True
  | q :: ds, W => ∃ D, q = mkD D ∧ W.heap[D]? = some (.deferred (some [])) ∧ (∀ E, mkD E ∈ ds → E < D) ∧ Mks ds W
theorem Mks.kept {W W' : World} : ∀ {ds : List Deferred}, Mks ds W → (∀ D, mkD D ∈ ds → W.heap[D]? = some (.deferred (some [])) → W'.heap[D]? = W.heap[D]?) → Mks ds W'
  | [], _, _ => trivial
  | q :: ds, ⟨D, h1, h2, h3, h4⟩, hk => ⟨D, h1, (hk D (by rw [h1]; simp) h2).trans h2, h3, h4.kept fun E hE => hk E (List.mem_cons_of_mem _ hE)⟩
theorem Mks.at {W : World} : ∀ {ds : List Deferred}, Mks ds W → ∀ D, mkD D ∈ ds → W.heap[D]? = some (.deferred (some []))
  | q :: ds, ⟨D, h1, h2, h3, h4⟩, E, hE => by
    rcases List.mem_cons.1 hE with e | e
    · subst h1
      simp only [mkD, Deferred.mk.injEq, Target.collected.injEq] at e
      rw [e.1]; exact h2
    · exact h4.at E e
theorem Mks.leave {P : Program} {F : Fence} {n : Nat} {fn : Func} {tmps : Array Value} {R : Ending → World → Prop} : ∀ {ds : List Deferred} {W : World}, Mks ds W → (∀ W', (∀ b, (∀ D, mkD D ∈ ds → b ≠ D) → W'.heap[b]? = W.heap[b]?) → W'.heap.size = W.heap.size → (W'.os = W.os ∧ W'.tape = W.tape ∧ W'.output = W.output) → LeavesIn F n P fn tmps R [] .returning W') → LeavesInM F n P fn tmps R ds .returning W
  | [], W, _, k => k W (fun _ _ => rfl) rfl ⟨rfl, rfl, rfl⟩
  | q :: ds, W, ⟨D, h1, h2, h3, h4⟩, k => by
    subst h1
    refine ⟨by simp, .inl ⟨D, _, rfl, run_takeDeferred h2, Mks.leave (h4.kept fun E hE _ => World.putObj_heap_other (by have := h3 E hE; omega)) fun W' b2 b3 b4 => ?_⟩⟩
    refine k W' (fun b hb => (b2 b fun E hE => hb E (List.mem_cons_of_mem _ hE)).trans (World.putObj_heap_other (hb D (by simp [mkD])))) (by rw [b3]; simp [World.putObj]) b4
section
variable {F : Fence} {n : Nat} {P : Program}
/-- How a round's body ends here. -/
def rfX {α : Type} (B n₀ z : Nat) (I : List α → World → Prop) (xs : List α) (W : World) : Exit → Act → World → Prop
  | .normal, _, W' => KeepsFrom B W W' ∧ KX n₀ z W W' ∧ I xs W'
  | _, _, _ => False
theorem wpIn_rfX {α : Type} {g : Operand} {ps : Array Tmp} {assign body : Code} {Q : Exit → Act → World → Prop} {a : Act} {w w0 : World} {gf n₀ z : Nat} {lb : Array Value} {encs : α → Array Value} {S : List α → Prop} {R : List α → α → Prop}
    (hro : F.round = none) (h1 : 1 ≤ n) (hg : a.eval g = .func (.func gf) #[] lb) (hf : F.fn gf) (eg : ∀ args w, (callFunc gf args).run P w = .ok (.enter gf args) w)
    (hseq : ∀ (l : Nat) (J : List α → World → Prop) (W : World), Below w0.heap.size w0 W → AbidesFrom W.heap.size J → (∀ pre x W1, J pre W1 → R pre x → YieldAt F (n - 1 - 1) P l (encs x) W1 fun e W' => e = .returned (.bool true) ∧ J (pre ++ [x]) W' ∧ KX n₀ z W1 W') → J [] W → CallsIn F (n - 1) P gf (#[.func (.yield l) #[] #[]] ++ lb) W fun e W' => (∃ v, e = .returned v) ∧ ∃ xs, S xs ∧ J xs W') (hn : n₀ ≤ w.heap.size) (hb0 : Below w0.heap.size w0 w) (hps : ∀ x, (encs x).size = ps.size)
    (I : List α → World → Prop) (hI : OwnFrom w.heap.size I) (h0 : I [] w) (A : α → Act)
    (hassign : ∀ (l : Nat) (x : α) (W : World), assign.wpIn (F.inRound l) (n - 1 - 1) P (Exit.then (fun a1 W1 => a1 = A x ∧ W1 = W) (fun _ _ _ => False)) { tmps := (ps.zip (encs x)).foldl (fun t (p, v) => t.setIfInBounds p v) a.tmps, defers := [] } W)
    (hbody : ∀ (l : Nat) (pre : List α) (x : α) (W : World), w.heap.size ≤ W.heap.size → R pre x → I pre W → body.wpIn (F.inRound l) (n - 1 - 1) P (rfX w.heap.size n₀ z I (pre ++ [x]) W) (A x) W)
    (hdone : ∀ (D : Nat) (xs : List α) (W : World), w.heap.size ≤ D → S xs → I xs W → W.heap[D]? = some (.deferred (some [])) → Q .normal { a with defers := { target := .collected D, args := #[] } :: a.defers } W) :
    (Code.rangeFunc g ps assign body).wpIn F n P Q a w := by
  refine wpIn_rangeFunc fun fn hfn => ?_
  rw [hro]
  let B := w.heap.size
  let rc : LoopState → Option Code → Loop := fun st pe => { state := st, pending := pe, fn, tmps := a.tmps, params := ps, assign, body, defers := B }
  let W1 := (w.alloc (.deferred (some []))).alloc (.loop (rc .ready none))
  have L1 : W1.heap[B + 1]? = some (.loop (rc .ready none)) := by
    have := World.alloc_heap_new (w.alloc (.deferred (some []))) (.loop (rc .ready none)); rwa [World.size_alloc] at this
  have K1 : W1.heap[B]? = some (.deferred (some [])) := (Below.heap_alloc _ _ _ (by simp [B])).trans (World.alloc_heap_new w _)
  have b1 : Below w0.heap.size w0 W1 := hb0.trans ((((Below.refl _ w).alloc (Nat.le_refl _) _).alloc (by simp) _).mono hb0.size)
  have io : I [] W1 := hI.alloc _ (hI.alloc _ h0)
  let Bk : Loop → World → Prop := fun r W => W.heap[B + 1]? = some (.loop r) ∧ W.heap[B]? = some (.deferred (some []))
  have kept : ∀ {r : Loop} {X Y : World} {row : Option Nat}, Bk r X → X.grownBy Y row → (∀ j, row = some j → W1.heap.size ≤ j ∧ ∃ o : Obj, X.heap[j]? = some o ∧ o.isWalk = true) → Bk r Y := fun h hg hr => by
    have s1 : W1.heap.size = B + 2 := by simp [W1, B]
    exact ⟨(hg.block _ (Array.getElem?_eq_some_iff.1 h.1).1 fun e => by have := (hr _ e.symm).1; omega).trans h.1, (hg.block _ (Array.getElem?_eq_some_iff.1 h.2).1 fun e => by have := (hr _ e.symm).1; omega).trans h.2⟩
  have far : ∀ {X : World} {row : Option Nat}, (∀ j, row = some j → W1.heap.size ≤ j ∧ ∃ o : Obj, X.heap[j]? = some o ∧ o.isWalk = true) → ∀ j, row = some j → B ≤ j ∧ ∃ o : Obj, X.heap[j]? = some o ∧ o.isCells = false := fun hr j e => by
    have s1 : W1.heap.size = B + 2 := by simp [W1, B]
    obtain ⟨q, o, h, hw⟩ := hr j e
    exact ⟨by omega, o, h, Obj.not_cells_of_walk hw⟩
  have put : ∀ {r r' : Loop} {X : World}, Bk r X → Bk r' (X.putObj (B + 1) (.loop r')) := fun h => ⟨World.putObj_heap_same (Array.getElem?_eq_some_iff.1 h.1).1, (World.putObj_heap_other (by omega)).trans h.2⟩
  have blo : ∀ {X : World} {o : Obj}, KX n₀ z X (X.putObj (B + 1) o) := KX.put (.inl (by omega))
  refine ⟨B + 1, [{ target := .collected B, args := #[] }], W1, { target := .fn (.func gf) lb, args := #[.func (.yield (B + 1)) #[] #[]] }, W1, gf, #[.func (.yield (B + 1)) #[] #[]] ++ lb, W1, run_enterLoop_outer _ _ _ _ _, ?_, ?_, ?_, fun _ => h1, ?_⟩
  · simp only [resolve, hg]
    simp [go_sem]
  · intro f' h'
    simp [Target.leads] at h'
    subst h'
    exact hf
  · simp [invoke, go_sem, eg]
  refine (hseq (B + 1) (fun pre W => I pre W ∧ Bk (rc .ready none) W) W1 b1 (fun s X Y row h hg hr => ⟨hI s X Y row h.1 hg (far hr), kept h.2 hg hr⟩) ?_ ⟨io, L1, K1⟩).mono ?_
  · rintro pre x W ⟨hi, hb⟩ hl
    have hsz : B ≤ W.heap.size := by have := (Array.getElem?_eq_some_iff.1 hb.1).1; omega
    refine ⟨fn, _, assign, body, run_yield (P := P) (args := encs x) hb.1 (hps x), roundIn_of_wpIn hfn (wpIn_mono (hassign _ x W) ?_)⟩
    rintro e a1 W2 he
    cases e with
    | normal =>
      obtain ⟨rfl, rfl⟩ := he
      have hb3 : Bk (rc .busy none) (W2.putObj (B + 1) (.loop (rc .busy none))) := put hb
      refine ⟨_, run_beginRound hb.1 rfl, wpIn_mono (hbody _ pre x _ (by simp only [World.putObj, Array.size_setIfInBounds]; exact hsz) hl (hI.putObj _ hi (by omega) hb.1 rfl)) ?_⟩
      rintro e a3 W3 hp
      cases e with
      | normal =>
        obtain ⟨k3, q3, i3⟩ := hp
        have hb4 : Bk (rc .busy none) W3 := ⟨k3.same _ _ (by omega) hb3.1 rfl, k3.same _ _ (Nat.le_refl _) hb3.2 rfl⟩
        exact ⟨_, _, run_endRound (P := P) none hb4.1, ⟨rfl, ⟨hI.putObj _ i3 (by omega) hb4.1 rfl, put hb4⟩, (blo.trans q3).trans blo⟩⟩
      | _ => exact hp.elim
    | _ => exact he.elim
  · rintro e W2 ⟨⟨v, rfl⟩, xs, hS, hi, hb⟩
    exact ⟨none, _, run_endLoop (P := P) hb.1 (by simp [rc]), hdone B xs _ (Nat.le_refl _) hS (hI.putObj _ hi (by omega) hb.1 rfl) ((World.putObj_heap_other (by omega)).trans hb.2)⟩
end
end Go.Gv
end
section
/-
  A block that one slot holds, ours while the world goes on. Nothing of a program here.
-/
set_option linter.unusedVariables false
namespace Go.Gv
open Go Go.RowKit
def OwZ (n0 z : Nat) (W : World) {α : Type} [Rep α] (v : Value) (m : List α) : Prop := ∃ F, Rep.own W [v] m F ∧ ∀ b o, F b o → n0 ≤ b ∧ b ≠ z
theorem OwZ.mono {n0 n1 z : Nat} {W : World} {α : Type} [Rep α] {v : Value} {m : List α} (h : OwZ n1 z W v m) (hn : n0 ≤ n1) : OwZ n0 z W v m := by
  obtain ⟨F, a, b⟩ := h
  exact ⟨F, a, fun i o q => ⟨Nat.le_trans hn (b i o q).1, (b i o q).2⟩⟩
section
variable {α : Type} [Rep α] [Flat α] {W W' : World} {v : Value} {m : List α} {n0 z : Nat}
theorem own_cel {F : Foot} (h : Rep.own W [v] m F) {b o : Nat} (hb : F b o) : CelS W b o := by
  obtain ⟨a, c, e, h1, h2, h3⟩ := (h : ownSlice W [v] m F)
  rcases h3 with ⟨_, _, h3⟩ | ⟨b1, off, Fs, rfl, q1, q2, _, _, q5⟩
  · exact (h3 b o hb).elim
  · rcases (q5 b o).1 hb with g | ⟨i, hi, g⟩
    · obtain ⟨rfl, g2⟩ := g
      exact (q1 o ⟨rfl, g2⟩).1
    · obtain ⟨ec, _, p⟩ := q2 i hi
      exact (Flat.no p b o g).elim
theorem OwZ.rdZ (h : OwZ n0 z W v m) : RdZ z W [v] m := by
  obtain ⟨F, a, b⟩ := h
  exact Rep.rd_mono (Rep.own_rd a) fun i o q => ⟨(b i o q).2, own_cel a q⟩
omit [Flat α] in
theorem owZ_nil (b off : Nat) : OwZ n0 z W (.slice (some ⟨b, off, none⟩) 0 0) ([] : List α) :=
  ⟨F0, ⟨_, _, rfl, Nat.le_refl _, Nat.zero_le _, .inr ⟨b, off, fun _ => F0, rfl, fun o h => by have := h.2; omega, fun i h => by simp at h, fun i j h => by simp at h, fun i h => by simp at h, fun b' o => ⟨fun h => h.elim, fun h => h.elim (fun h => by have := h.2; omega) fun ⟨i, h, _⟩ => by simp at h⟩⟩⟩, fun _ _ h => h.elim⟩
theorem OwZ.kept (h : OwZ n0 z W v m) (hk : CK z W W') : OwZ n0 z W' v m := by
  obtain ⟨F, a, hF⟩ := h
  refine ⟨F, ?_, hF⟩
  have same : ∀ b o, F b o → W'.heap[b]? = W.heap[b]? := fun b o q => by
    have hc := own_cel a q
    unfold CelS World.cell? at hc
    simp only at hc
    split at hc
    · rename_i cells t f he; exact hk b _ _ _ (hF b o q).2 he
    · cases hc
  obtain ⟨a, c, e, h1, h2, h3⟩ := (a : ownSlice W [v] m F)
  refine ⟨a, c, e, h1, h2, h3.imp id ?_⟩
  rintro ⟨b, off, Fs, ha, q1, q2, q3, q4, q5⟩
  refine ⟨b, off, Fs, ha, fun o g => ?_, fun i hi => ?_, q3, q4, q5⟩
  · have s := same b o ((q5 b o).2 (.inl g))
    rw [World.cell?_of_block s, World.frozen?_of_block s]; exact q1 o g
  · obtain ⟨ec, g1, g2⟩ := q2 i hi
    refine ⟨ec, fun j x hj => ?_, ?_⟩
    · have hl := Rep.rd_len (Rep.own_rd g2)
      have hjl := (List.getElem?_eq_some_iff.1 hj).1
      have := rowIn (n := Rep.n α) hi h1 (show j < Rep.n α by omega)
      rw [World.cell?_of_block (same b (off + i * Rep.n α + j) ((q5 _ _).2 (.inl ⟨rfl, by omega, by omega⟩)))]
      exact g1 j x hj
    · have e : Fs i = F0 := funext fun b => funext fun o => propext ⟨fun h => (Flat.no g2 b o h).elim, fun h => h.elim⟩
      rw [e]; exact Flat.own_of (Rep.own_rd g2)
omit [Flat α] in
theorem owZ_of {y : AC} (h : StS (cxAll W) W' [] [ow y m]) (hz : z < W.heap.size) : OwZ W.heap.size z W' (y.v m.length) m := by
  obtain ⟨⟨R, s1, _⟩, _⟩ := h
  obtain ⟨F, S, a1, _, a3, _⟩ := s1.sep
  have a1 : (cOwn [y.v m.length] m).P W' F := Sep.one.1 a1
  refine ⟨F, a1, fun b o h1 => ?_⟩
  rcases a3 b o h1 with h | h
  · exact h.elim
  · have : W.heap.size ≤ b := h
    exact ⟨this, by omega⟩
omit [Flat α] in
theorem stS_own {c : Ctx} {y : AC} (h0 : StS c c.w0 [] []) (h : Below c.w0.heap.size c.w0 W') (ho : OwZ c.w0.heap.size z W' (y.v m.length) m) : StS c W' [] [ow y m] := by
  obtain ⟨⟨R, s1, e⟩, s2⟩ := h0
  obtain ⟨F, a, hF⟩ := ho
  have s1 := s1.same (keep_of_below h)
  obtain ⟨F1, S, a1, a2, a3, a4, a5, a6⟩ := s1.sep
  refine ⟨⟨[], ⟨s1.keep, ⟨F, F0, Sep.one.2 a, fun _ _ _ h => h, fun b o h => .inr (hF b o h).1, fun _ _ h => h.elim, fun _ _ h => h.elim, by simp⟩, s1.apart⟩, fun x hx => by rw [List.mem_singleton.1 hx]; trivial⟩, s2⟩
end
theorem rdA_all {c : Ctx} {W : World} {α : Type} [Rep α] {s : AC} {l : List α} (h0 : StS c c.w0 [] []) (hb : Below c.w0.heap.size c.w0 W) (h : RdA c s l) : RdA (cxAll W) s l := by
  obtain ⟨_, s2⟩ := h0
  refine Rep.rd_mono (Rep.rd_agree h fun b o q => World.cell?_of_block (hb.block b (s2 b o q))) fun b o q => ?_
  have := s2 b o q
  exact Nat.lt_of_lt_of_le this hb.size
theorem rdA_Z {W : World} {α : Type} [Rep α] {s : AC} {l : List α} {z : Nat} (h : RdZ z W [s.v l.length] l) : RdA (cxAll W) s l := Rep.rd_mono h fun b o q => by
  have := q.2
  unfold CelS at this
  exact World.block_lt_of_cell? W ⟨b, o, none⟩ (Option.isSome_iff_exists.1 this).choose_spec
end Go.Gv
end
