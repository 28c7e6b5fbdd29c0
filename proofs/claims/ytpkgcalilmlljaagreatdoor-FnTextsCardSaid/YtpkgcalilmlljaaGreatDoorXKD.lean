import Derived.Test.YtpkgcalilmlljaaGreatDoorXKC
import Derived.RangeFuncWrites
import Derived.RangeFuncBox
import Derived.RangeFuncLeaves
import Derived.Shelf.Abstract
import Derived.WalkKit
import Derived.OwnWalkIn
import Derived.TacticsInMore
import Derived.LoopNIn
import Derived.LoopIn
import Derived.Shelf.Slices.CompactI
import Derived.Shelf.Spec.SlicesInsertGrow
set_option linter.unusedVariables false
set_option linter.unusedSimpArgs false
set_option linter.unusedSectionVars false
set_option linter.unnecessarySimpa false
set_option linter.constructorNameAsVariable false
section
/-
  Walks of the older form taken over; slices handed back. Nothing of a program here.
-/
set_option linter.unusedVariables false
namespace Go.Gv
theorem oldF {P : Program} {f : FuncId} {κ : Ctx} {xs : List SV} {ρ : Type} {sv : ρ → SV} {r : ρ} (hcall : ∀ args w, (callFunc f args).run P w = .ok (.enter f args) w)
    (H : (∀ f : Fact, f.P κ.S0 κ.w0 → f.P (All κ.w0) κ.w0) → ∀ vs, mapO (toV []) xs = some vs → Calls P f vs.toArray κ.w0 (Ret fun v w' => toV [] (sv r) = some v ∧ St (cxAll κ.w0) w' [] [])) : Fn0 P f κ xs sv r :=
  ⟨hcall, fun vs hv hS => Calls.mono (H (fun f hf => f.mono hf fun b o hb => hS.s0 b o hb) vs hv) fun en w' ⟨v, h1, h2, h3⟩ => ⟨v, h1, (), h2, hS.keepF0 h3.keep⟩⟩
/-- One that is handed a slice, and hands it back. -/
theorem oldW {P : Program} {f : FuncId} {κ : Ctx} {xs : List SV} {ρ α : Type} [Rep α] {sv : ρ → SV} {pr : ρ → List α} {s : AC} {l : List α} {r : ρ} (hcall : ∀ args w, (callFunc f args).run P w = .ok (.enter f args) w)
    (H : St κ κ.w0 [cOwn [s.v l.length] l] [] → ∀ vs, mapO (toV []) xs = some vs → Calls P f vs.toArray κ.w0 (Ret fun v w' => toV [] (sv r) = some v ∧ St κ w' [cOwn [s.v l.length] (pr r)] [])) : FnS P f κ xs [] [ow s l] (fun (r : ρ) (_ : Unit) => sv r) (fun (r : ρ) (_ : Unit) => [.o (cOwn [s.v l.length] (pr r))]) r :=
  ⟨hcall, fun vs hv hS => by
    obtain ⟨⟨R, s1, s2⟩, s0⟩ := hS
    refine Calls.mono (H (St.weaken s1 (R' := []) (by simp)) vs hv) fun en w' ⟨v, h1, h2, h3⟩ => ⟨v, h1, (), h2, ⟨⟨[], h3, fun x hx => ?_⟩, s0⟩⟩
    simp at hx; subst hx; trivial⟩
section
variable {P : Program} {T : TT} {hT : TOk P T} {n : Nat} {c : Ctx} {B0 : Bl} {N : Act → World → Prop} {X : Nat → Act → World → Prop} {Q : Act → World → Prop} {K K' : List Fr} {m m' : Nat} {e e' : SE} {L L' Lv : List Ch} {cf cf' cf1 cf2 : Cfg} {o : Oper} {d : Nat}
/-- What came back: its header restated by the length that it has now. -/
theorem un {α : Type} [Rep α] (j : Nat) (ks : List Nat) (ps qs : List (Nat × Nat)) {s : AC} {n0 : Nat} {l : List α} (hj : L[j]? = some (.o (cOwn [s.v n0] l))) (hz : notIn j cf.frz = true) (hk : mapO (lkS e) ks = some (ks.map fun _ => .h s n0)) (hp : mapO (atE (ovh (.h s l.length) e ks)) ps = some (ps.map fun _ => .h s n0)) (hq : mapO (atL (L.set j (ow s l))) qs = some (qs.map fun _ => .h s n0)) (ha : (apartB (qs.map (·.1)) && (qs.map (·.1)).all fun j => notIn j cf.frz) = true)
    (k : l.length = n0 → G (.mk P T hT n c B0 N X Q) K m (rhE (.h s l.length) (ovh (.h s l.length) e ks) ps) (rhL (.h s l.length) (L.set j (ow s l)) qs) cf) : G (.mk P T hT n c B0 N X Q) K m e L cf := by
  rw [Bool.and_eq_true] at ha
  refine chg (fun _ : PLift (l.length = n0) => m) (fun _ => rhE (.h s l.length) (ovh (.h s l.length) e ks) ps) (fun _ => rhL (.h s l.length) (L.set j (ow s l)) qs) (fun B a w hm hA hS => ?_) (fun _ => frz_rhL (frz_set1 hz) ha.2) (fun h => k h.down)
  have hn : l.length = n0 := by
    obtain ⟨⟨R, s1, s2⟩, s0⟩ := hS
    obtain ⟨F, hF⟩ := s1.chunk (ch := cOwn [s.v n0] l) j (by simp [hj, chd])
    obtain ⟨ad, cp, h1, h2⟩ := own_shape (show Rep.own w [s.v n0] l F from hF)
    grind
  subst hn
  have hS' : StS c w B (L.set j (ow s l)) := by
    grind [List.set_getElem_self]
  obtain ⟨h1, h2⟩ := rh_ok s rfl hp hq ha.1 (ovh_env ks hk hA) hS'
  exact ⟨⟨rfl⟩, [], by grind, by grind, by grind⟩
theorem rr (s : AC) {n0 n1 : Nat} (hn : n0 = n1) (ks : List Nat) (ps qs : List (Nat × Nat)) (hk : mapO (lkS e) ks = some (ks.map fun _ => .h s n0)) (hp : mapO (atE (ovh (.h s n1) e ks)) ps = some (ps.map fun _ => .h s n0)) (hq : mapO (atL L) qs = some (qs.map fun _ => .h s n0)) (ha : (apartB (qs.map (·.1)) && (qs.map (·.1)).all fun j => notIn j cf.frz) = true)
    (k : G (.mk P T hT n c B0 N X Q) K m (rhE (.h s n1) (ovh (.h s n1) e ks) ps) (rhL (.h s n1) L qs) cf) : G (.mk P T hT n c B0 N X Q) K m e L cf := by
  rw [Bool.and_eq_true] at ha
  subst hn
  refine chg (fun _ : Unit => m) (fun _ => rhE (.h s n0) (ovh (.h s n0) e ks) ps) (fun _ => rhL (.h s n0) L qs) (fun B a w hm hA hS => ?_) (fun _ => frz_rhL (by simpa using frz_app (L := L) []) ha.2) (fun _ => k)
  obtain ⟨h1, h2⟩ := rh_ok s rfl hp hq ha.1 (ovh_env ks hk hA) hS
  simp_all
/-- copy(s[a:], xs). -/
theorem cpy {d : Option Nat} {x y : Operand} {t t2 el sz : Nat} {α : Type} [Rep α] [Flat α] {s s2 : AC} {l xs : List α} {b1 b2 : Bool} {n1 : Nat} {z1 z2 : List SV} {kt : TK} (p a : Nat) (hb : a ≤ l.length ∧ l.length ≤ l.length) (hsrc : ∀ {w}, HS c w L' → RdA (cxAll w) s2 xs) (hs : stq T n K cf m e L = .op o Lv cf1 cf2 K' m' e' L') (ho : (o.op, o.dst) = (.call { callee := .builtin .copy, args := #[x, y], argTypes := #[t, t2] }, d)) (ht : lkT T t = some ⟨.sl el, b1, n1, z1⟩) (he : lkT T el = some ⟨kt, b2, sz, z2⟩) (hn : Rep.n α = sz) (hp : (L'[p]?, notIn p cf1.frz) = (some (ow s l), true)) (hx : evS e' x = some (.h (s.sub sz a) ((l.take l.length).drop a).length)) (hy : evS e' y = some (.h s2 xs.length))
    (k : G (.mk P T hT n c B0 N X Q) K' m' (dse d (.i .i64 ((min xs.length (l.length - a) : Nat) : Int)) e') (L'.set p (ow s (blitL l a xs))) cf2) : G (.mk P T hT n c B0 N X Q) K m e L cf := by
  have hp1 : L'[p]? = some (ow s l) := congrArg Prod.fst hp
  have hz : notIn p cf1.frz = true := congrArg Prod.snd hp
  have hlen : (blitL l a xs).length = l.length := blitL_len hb.1
  refine stq_ok (g := .mk P T hT n c B0 N X Q) ?_
  rw [hs]
  intro hdn _ hE
  refine hE Unit (fun _ => m') (fun _ => dse d (.i .i64 ((min xs.length (l.length - a) : Nat) : Int)) e') (fun _ => L'.set p (ow s (blitL l a xs))) (fun _ => frz_set1 hz) (fun B act w next Q' hm hA hS hnext => ?_) (fun _ => k)
  have hr : RdA (cxAll w) s2 xs := hsrc ⟨_, hS⟩
  obtain ⟨⟨R, s1, s2'⟩, s0⟩ := hS
  have hx2 : ev (vE (B0S (.mk P T hT n c B0 N X Q) cf1 ++ B) e') x = some (subV sz a l.length (s.v l.length)) := by grind [hdB, sub_v]
  have hop : o.op = .call { callee := .builtin .copy, args := #[x, y], argTypes := #[t, t2] } := congrArg Prod.fst ho
  have hd : o.dst = d := congrArg Prod.snd ho
  obtain ⟨v, w', k1, rfl, k2⟩ := rv_copy p s1 (by rw [List.getElem?_map, hp1]; rfl) hr hn hb.1 (undL ht hT) (hT.size _ _ he) hop hx2 (hdB hA hy)
  unfold Oper.wp
  rw [k1 _ act hA.env, Oper.upon_value, hd]
  have hS2 : StS c w' (B0S (.mk P T hT n c B0 N X Q) cf1 ++ B) (L'.set p (ow s (blitL l a xs))) := by
    refine ⟨⟨R, ?_, fun z hz => ?_⟩, s0⟩
    · rw [List.map_set]
      show St c w' ((L'.map _).set p (cOwn [s.v (blitL l a xs).length] _)) R
      grind
    · rcases List.mem_or_eq_of_mem_set hz with hz | hz
      · grind
      · subst hz; trivial
  cases d with
  | none => exact hnext () _ _ ⟨[], by grind, by grind [Act.put, dse], by grind⟩
  | some d => exact hnext () _ _ ⟨[], by grind, by simpa [dse] using hA.of (by simp [toV, gV, cellV]) (hA.env.put (by grind [dstOk, Nat.blt_eq]) _), by grind⟩
/-- copy(s, xs). -/
theorem cp0 {d : Option Nat} {x y : Operand} {t t2 el sz : Nat} {α : Type} [Rep α] [Flat α] {s s2 : AC} {l xs : List α} {b1 b2 : Bool} {n1 : Nat} {z1 z2 : List SV} {kt : TK} (p : Nat) (hsrc : ∀ {w}, HS c w L' → RdA (cxAll w) s2 xs) (hs : stq T n K cf m e L = .op o Lv cf1 cf2 K' m' e' L') (ho : (o.op, o.dst) = (.call { callee := .builtin .copy, args := #[x, y], argTypes := #[t, t2] }, d)) (ht : lkT T t = some ⟨.sl el, b1, n1, z1⟩) (he : lkT T el = some ⟨kt, b2, sz, z2⟩) (hn : Rep.n α = sz) (hp : (L'[p]?, notIn p cf1.frz) = (some (ow s l), true)) (hx : evS e' x = some (.h s l.length)) (hy : evS e' y = some (.h s2 xs.length))
    (k : G (.mk P T hT n c B0 N X Q) K' m' (dse d (.i .i64 ((min xs.length (l.length - 0) : Nat) : Int)) e') (L'.set p (ow s (blitL l 0 xs))) cf2) : G (.mk P T hT n c B0 N X Q) K m e L cf := by
  have hp1 : L'[p]? = some (ow s l) := congrArg Prod.fst hp
  have hz : notIn p cf1.frz = true := congrArg Prod.snd hp
  have hlen : (blitL l 0 xs).length = l.length := blitL_len (Nat.zero_le _)
  refine stq_ok (g := .mk P T hT n c B0 N X Q) ?_
  rw [hs]
  intro hdn _ hE
  refine hE Unit (fun _ => m') (fun _ => dse d (.i .i64 ((min xs.length (l.length - 0) : Nat) : Int)) e') (fun _ => L'.set p (ow s (blitL l 0 xs))) (fun _ => frz_set1 hz) (fun B act w next Q' hm hA hS hnext => ?_) (fun _ => k)
  have hr : RdA (cxAll w) s2 xs := hsrc ⟨_, hS⟩
  obtain ⟨⟨R, s1, s2'⟩, s0⟩ := hS
  have hop : o.op = .call { callee := .builtin .copy, args := #[x, y], argTypes := #[t, t2] } := congrArg Prod.fst ho
  have hd : o.dst = d := congrArg Prod.snd ho
  obtain ⟨v, w', k1, rfl, k2⟩ := rv_copy0 p s1 (by rw [List.getElem?_map, hp1]; rfl) hr hn (undL ht hT) (hT.size _ _ he) hop (hdB hA hx) (hdB hA hy)
  unfold Oper.wp
  rw [k1 _ act hA.env, Oper.upon_value, hd]
  have hS2 : StS c w' (B0S (.mk P T hT n c B0 N X Q) cf1 ++ B) (L'.set p (ow s (blitL l 0 xs))) := by
    refine ⟨⟨R, ?_, fun z hz => ?_⟩, s0⟩
    · rw [List.map_set]
      show St c w' ((L'.map _).set p (cOwn [s.v (blitL l 0 xs).length] _)) R
      grind
    · rcases List.mem_or_eq_of_mem_set hz with hz | hz
      · grind
      · subst hz; trivial
  cases d with
  | none => exact hnext () _ _ ⟨[], by grind, by grind [Act.put, dse], by grind⟩
  | some d => exact hnext () _ _ ⟨[], by grind, by simpa [dse] using hA.of (by simp [toV, gV, cellV]) (hA.env.put (by grind [dstOk, Nat.blt_eq]) _), by grind⟩
theorem fR {Z : Act → World → Prop} {e1 : SE} {L1 : List Ch} (h1 : frcE e = some e1) (h2 : frcL L = some L1) (kk : ∀ a w, RelN n c B0 m e1 L1 a w → Z a w) : ∀ a w, RelN n c B0 m e L a w → Z a w := by
  grind [frcE_eq, frcL_eq]
end
end Go.Gv
end
section
/-
  Blocks numbered anew. Nothing of a program here.
-/
set_option linter.unusedVariables false
namespace Go.Gv
def swN (i j n : Nat) : Nat := match Nat.beq n i with
  | true => j
  | false => match Nat.beq n j with
    | true => i
    | false => n
def swC (i j : Nat) : SV → SV
  | .p n o => .p (swN i j n) o
  | x => x
def swCs (i j : Nat) : List SV → List SV
  | [] => []
  | x :: r => swC i j x :: swCs i j r
def swG (i j : Nat) : SV → SV
  | .g cs => .g (swCs i j cs)
  | x => swC i j x
def swGs (i j : Nat) : List SV → List SV
  | [] => []
  | x :: r => swG i j x :: swGs i j r
def swF (i j : Nat) : List Nat → List Nat
  | [] => []
  | n :: r => swN i j n :: swF i j r
def swT (i j : Nat) : SV → SV
  | .t cs => .t (swGs i j cs)
  | .f f ns => .f f (swF i j ns)
  | x => swG i j x
def swE (i j : Nat) : SE → SE
  | [] => []
  | (k, x) :: r => (k, swT i j x) :: swE i j r
def swL (i j : Nat) : List Ch → List Ch
  | [] => []
  | x :: r => (match x with
    | .box n cs => .box (swN i j n) (swCs i j cs)
    | .ro n cs => .ro (swN i j n) (swCs i j cs)
    | .w n b z => .w (swN i j n) b z
    | y => y) :: swL i j r
section
variable {B B' : Bl} {i j : Nat}
theorem swC_ok (h : ∀ n, B'[swN i j n]? = B[n]?) (x : SV) : cellV B' (swC i j x) = cellV B x := by
  cases x <;> first | rfl | grind [swC, cellV]
theorem swCs_ok (h : ∀ n, B'[swN i j n]? = B[n]?) : ∀ cs : List SV, mapO (cellV B') (swCs i j cs) = mapO (cellV B) cs
  | [] => rfl
  | x :: r => by simp only [swCs, mapO, swC_ok h, swCs_ok h r]
theorem swG_ok (h : ∀ n, B'[swN i j n]? = B[n]?) (x : SV) : gV B' (swG i j x) = gV B x := by
  cases x with
  | g cs => grind [swG, gV, swCs_ok]
  | p n o => exact swC_ok h (.p n o)
  | _ => rfl
theorem swGs_ok (h : ∀ n, B'[swN i j n]? = B[n]?) : ∀ cs : List SV, mapO (gV B') (swGs i j cs) = mapO (gV B) cs
  | [] => rfl
  | x :: r => by simp only [swGs, mapO, swG_ok h, swGs_ok h r]
theorem swF_ok (h : ∀ n, B'[swN i j n]? = B[n]?) : ∀ cs : List Nat, mapO (capV B') (swF i j cs) = mapO (capV B) cs
  | [] => rfl
  | x :: r => by simp only [swF, mapO, capV, h]; rw [show mapO (capV B') (swF i j r) = mapO (capV B) r from swF_ok h r]
theorem swT_ok (h : ∀ n, B'[swN i j n]? = B[n]?) (x : SV) : toV B' (swT i j x) = toV B x := by
  cases x with
  | t cs => grind [swT, toV, swGs_ok]
  | f f ns => grind [swT, toV, swF_ok]
  | g cs => exact swG_ok h (.g cs)
  | p n o => exact swG_ok h (.p n o)
  | _ => rfl
theorem swE_lk {k : Nat} {x : SV} : ∀ {e : SE}, lkS (swE i j e) k = some x → ∃ y, lkS e k = some y ∧ x = swT i j y
  | [], h => by cases h
  | (k', y) :: r, h => by
    simp only [swE, lkS] at h ⊢
    split at h
    · grind
    · rename_i hb; exact swE_lk h
theorem swL_imp (h : ∀ n, B'[swN i j n]? = B[n]?) {w : World} {R : List Fact} : ∀ (L : List Ch), ImpL w (L.map (chd B)) ((swL i j L).map (chd B')) ∧ ((∀ x ∈ L, roF B R x) → ∀ x ∈ swL i j L, roF B' R x)
  | [] => ⟨.nil, fun _ x hx => by cases hx⟩
  | x :: L => by
    obtain ⟨h1, h2⟩ := swL_imp h (w := w) (R := R) L
    refine ⟨.cons (fun F hF => ?_) h1, fun hr y hy => ?_⟩
    · cases x with
      | box n cs =>
        obtain ⟨b, z, vs, k1, k2, k3⟩ := hF
        exact ⟨b, z, vs, by grind, by grind [swCs_ok], k3⟩
      | _ => exact hF
    · rcases List.mem_cons.1 hy with hy | hy
      · have hx := hr x (by simp)
        cases x with
        | box n cs => subst hy; trivial
        | ro n cs =>
          obtain ⟨b, z, vs, k1, k2, k3⟩ := hx
          subst hy
          exact ⟨b, z, vs, by grind, by grind [swCs_ok], k3⟩
        | w n b z => subst hy; show B'[swN i j n]? = _; rw [h]; exact hx
        | o c => subst hy; trivial
        | no => subst hy; trivial
        | f f => subst hy; exact hx
      grind
end
/-- Two entries of a list, exchanged. -/
theorem sw_ex {B : Bl} {i j : Nat} (hi : i < B.length) (hj : j < B.length) : ∃ B' : Bl, B'.length = B.length ∧ (∀ n, B'[swN i j n]? = B[n]?) := by
  refine ⟨(B.set i B[j]).set j B[i], by simp, fun n => ?_⟩
  unfold swN
  cases h1 : Nat.beq n i with
  | true =>
    simp_all
  | false =>
    have h1 : n ≠ i := fun h => by simp_all
    cases h2 : Nat.beq n j with
    | true =>
      simp_all
    | false =>
      have h2 : n ≠ j := fun h => by simp_all
      grind
section
variable {n : Nat} {c : Ctx} {B0 : Bl} {m : Nat} {e : SE} {L : List Ch}
theorem swR {Z : Act → World → Prop} (i j : Nat) (h : (Nat.ble B0.length i && (Nat.ble B0.length j && (Nat.blt i m && Nat.blt j m))) = true)
    (kk : ∀ a w, RelN n c B0 m (swE i j e) (swL i j L) a w → Z a w) : ∀ a w, RelN n c B0 m e L a w → Z a w := by
  simp only [Bool.and_eq_true, Nat.ble_eq, Nat.blt_eq] at h
  obtain ⟨h1, h2, h3, h4⟩ := h
  intro a w ⟨B, hm, hA, hS⟩
  refine kk a w ?_
  rw [List.length_append] at hm
  obtain ⟨B', hl, hB⟩ := sw_ex (B := B) (i := i - B0.length) (j := j - B0.length) (by omega) (by omega)
  have key : ∀ n, (B0 ++ B')[swN i j n]? = (B0 ++ B)[n]? := by
    intro n
    have hsw : ∀ n, n < B0.length → swN i j n = n := fun n hn => by
      grind [swN, Nat.eq_of_beq_eq_true]
    have hge : ∀ n, B0.length ≤ n → swN i j n = B0.length + swN (i - B0.length) (j - B0.length) (n - B0.length) := fun n hn => by
      have q1 : Nat.beq (n - B0.length) (i - B0.length) = Nat.beq n i := by
        rw [Bool.eq_iff_iff]; (simp_all;omega)
      have q2 : Nat.beq (n - B0.length) (j - B0.length) = Nat.beq n j := by
        rw [Bool.eq_iff_iff]; (simp_all;omega)
      grind [swN]
    grind [Nat.add_sub_cancel_left]
  refine ⟨B', by grind, ⟨hA.d, hA.size, fun k x hk => ?_⟩, ?_⟩
  · obtain ⟨y, g1, rfl⟩ := swE_lk hk
    obtain ⟨v, g2, g3⟩ := hA.get k y g1
    grind [swT_ok]
  · obtain ⟨⟨R, s1, s2⟩, s0⟩ := hS
    obtain ⟨g1, g2⟩ := swL_imp key (w := w) (R := R) L
    exact ⟨⟨R, s1.imp g1, g2 s2⟩, s0⟩
/-- Handed back under the header that it came with. -/
theorem pnR {Z : Act → World → Prop} {α : Type} [Rep α] (j : Nat) {s : AC} {l : List α} {n0 : Nat} (hl : l.length = n0) (hj : L[j]? = some (ow s l))
    (kk : ∀ a w, RelN n c B0 m e (L.set j (.o (cOwn [s.v n0] l))) a w → Z a w) : ∀ a w, RelN n c B0 m e L a w → Z a w := by
  grind [List.set_getElem_self]
end
/-- A state looked at as a whole. -/
theorem fG {P : Program} {T : TT} {hT : TOk P T} {n : Nat} {c : Ctx} {B0 : Bl} {N : Act → World → Prop} {X : Nat → Act → World → Prop} {Q : Act → World → Prop} {K : List Fr} {m : Nat} {e e1 : SE} {L L1 : List Ch} {cf : Cfg} (h1 : frcE e = some e1) (h2 : frcL L = some L1) (k : G (.mk P T hT n c B0 N X Q) K m e1 L1 cf) : G (.mk P T hT n c B0 N X Q) K m e L cf := by
  grind [frcE_eq, frcL_eq]
/-! ### Looked at as a whole, down to the cells -/
def fc1 : SV → Option SV
  | .i k x => some (.i k x)
  | .y b => some (.y b)
  | .b c => some (.b c)
  | .l c => some (.l c)
  | .s l => some (.s l)
  | .p n o => some (.p n o)
  | .h s n => some (.h s n)
  | .e s n i o => some (.e s n i o)
  | .k x => some (.k x)
  | .g cs => some (.g cs)
  | .t cs => some (.t cs)
  | .f f cs => some (.f f cs)
  | .u => some .u
def fcs : List SV → Option (List SV)
  | [] => some []
  | x :: r => match fc1 x with
    | some y => match fcs r with
      | some s => some (y :: s)
      | none => none
    | none => none
def fc2 : SV → Option SV
  | .g cs => match fcs cs with
    | some ds => some (.g ds)
    | none => none
  | x => fc1 x
def fgs : List SV → Option (List SV)
  | [] => some []
  | x :: r => match fc2 x with
    | some y => match fgs r with
      | some s => some (y :: s)
      | none => none
    | none => none
def fc3 : SV → Option SV
  | .t cs => match fgs cs with
    | some ds => some (.t ds)
    | none => none
  | x => fc2 x
def fdE : SE → Option SE
  | [] => some []
  | (k, v) :: r => match fc3 v with
    | some y => match fdE r with
      | some s => some ((k, y) :: s)
      | none => none
    | none => none
def fdL : List Ch → Option (List Ch)
  | [] => some []
  | x :: r => match fdL r with
    | some s => match x with
      | .box n cs => match fcs cs with
        | some ds => some (.box n ds :: s)
        | none => none
      | .ro n cs => match fcs cs with
        | some ds => some (.ro n ds :: s)
        | none => none
      | y => some (y :: s)
    | none => none
theorem fc1_eq {x y : SV} (h : fc1 x = some y) : y = x := by cases x <;> simp only [fc1] at h <;> cases h <;> rfl
theorem fcs_eq : ∀ {l r : List SV}, fcs l = some r → r = l
  | [], r, h => by cases h; rfl
  | x :: l, r, h => by
    simp only [fcs] at h
    split at h
    · rename_i y hy
      split at h
      · rename_i s hs; cases h; rw [fc1_eq hy, fcs_eq hs]
      · cases h
    · cases h
theorem fc2_eq {x y : SV} (h : fc2 x = some y) : y = x := by
  cases x with
  | g cs =>
    grind [fc2, fcs_eq]
  | _ => exact fc1_eq h
theorem fgs_eq : ∀ {l r : List SV}, fgs l = some r → r = l
  | [], r, h => by cases h; rfl
  | x :: l, r, h => by
    simp only [fgs] at h
    split at h
    · rename_i y hy
      split at h
      · rename_i s hs; cases h; rw [fc2_eq hy, fgs_eq hs]
      · cases h
    · cases h
theorem fc3_eq {x y : SV} (h : fc3 x = some y) : y = x := by
  cases x with
  | t cs =>
    grind [fc3, fgs_eq]
  | _ => exact fc2_eq h
theorem fdE_eq : ∀ {e r : SE}, fdE e = some r → r = e
  | [], r, h => by cases h; rfl
  | (k, v) :: l, r, h => by
    simp only [fdE] at h
    split at h
    · rename_i y hy
      split at h
      · rename_i s hs; cases h; rw [fc3_eq hy, fdE_eq hs]
      · cases h
    · cases h
theorem fdL_eq : ∀ {e r : List Ch}, fdL e = some r → r = e
  | [], r, h => by cases h; rfl
  | x :: l, r, h => by
    simp only [fdL] at h
    split at h
    · rename_i s hs
      have := fdL_eq hs
      grind [fcs_eq]
    · cases h
theorem fD {n : Nat} {c : Ctx} {B0 : Bl} {m : Nat} {e e1 : SE} {L L1 : List Ch} {Z : Act → World → Prop} (h1 : fdE e = some e1) (h2 : fdL L = some L1) (kk : ∀ a w, RelN n c B0 m e1 L1 a w → Z a w) : ∀ a w, RelN n c B0 m e L a w → Z a w := by
  grind [fdE_eq, fdL_eq]
end Go.Gv
end
section
/-
  The steps of a walk in short form: what is known of the plain function stands in the goal. Nothing of a program here.
-/
set_option linter.unusedVariables false
namespace Go.Gv
universe u
theorem Q {α : Sort u} {a : α} : a = a := Eq.refl a
/-- What follows from F = some r. -/
def W {ρ : Type} (C : Prop) (r : ρ) (F : Option ρ) : Prop := F = some r → C
theorem wm {ρ : Type} {C : Prop} {r : ρ} {F F' : Option ρ} (h : F' = F) (k : W C r F) : W C r F' := h ▸ k
theorem wi {ρ : Type} {C : Prop} {r : ρ} {F : Option ρ} (h : F = some r) (k : W C r F) : C := k h
/-- What a function is known to do, by its plain function. -/
def VS (P : Program) (c : Ctx) (f : FuncId) {ρ ex : Type} (F : Option ρ) (xs : List SV) (B0 : Bl) (L0 : List Ch) (sv : ρ → ex → SV) (Lf : ρ → ex → List Ch) : Prop := ∀ r, F = some r → FnS P f c xs B0 L0 sv Lf r
abbrev V0 (P : Program) (c : Ctx) (f : FuncId) {ρ : Type} (F : Option ρ) (xs : List SV) (sv : ρ → SV) : Prop := VS P c f F xs [] [] (fun r (_ : Unit) => sv r) (fun _ _ => [])
theorem VS.r {P : Program} {c : Ctx} {f : FuncId} {ρ ex : Type} {F : Option ρ} {xs : List SV} {B0 : Bl} {L0 : List Ch} {sv : ρ → ex → SV} {Lf : ρ → ex → List Ch} (h : VS P c f F xs B0 L0 sv Lf) {r : ρ} (hF : F = some r) : FnS P f c xs B0 L0 sv Lf r := h r hF
/-- The end of a function, with what its results are. -/
def QR (P : Program) (fn : Func) {rs : List ResultVar} (_ : fn.results = rs.toArray) (c : Ctx) (B0 : Bl) {ρ ex : Type} (sv : ρ → ex → SV) (Lf : ρ → ex → List Ch) (r : ρ) : Act → World → Prop := QS P fn c B0 sv Lf r
def retQ (T : TT) (rs : List ResultVar) (is : List Nat) (b0 : Nat) (L2 : List Ch) : Stop → Option (SV × List Ch)
  | .ret m e L => match resS T e L rs with
    | some x => match okN b0 (nbS x) with
      | true => match asT b0 m e L is b0 [] L2 with
        | some ([], L3) => some (nbS x, L3)
        | _ => none
      | false => none
    | none => none
  | _ => none
def finQ (is : List Nat) (b0 mj : Nat) (ej : SE) (Lj : List Ch) : Stop → Option (SE × List Ch)
  | .fin m e L => asT b0 m e L is mj ej Lj
  | _ => none
def exQ (is : List Nat) (id b0 mj : Nat) (ej : SE) (Lj : List Ch) : Stop → Option (SE × List Ch)
  | .ex i m e L => match Nat.beq i id with
    | true => asT b0 m e L is mj ej Lj
    | false => none
  | _ => none
def finR : Stop → Stop
  | .fin m e L => .ret m e L
  | _ => .stuck
def ixT (T : TT) (t n : Nat) : Bool := match lkT T t with
  | some ⟨.sl el, _, _, _⟩ => match lkT T el with
    | some ⟨_, _, sz, _⟩ => Nat.beq n sz
    | none => false
  | _ => false
section
variable {P : Program} {T : TT} {hT : TOk P T} {n : Nat} {c : Ctx} {B0 : Bl} {N : Act → World → Prop} {X : Nat → Act → World → Prop} {Q : Act → World → Prop} {K K' : List Fr} {m m' : Nat} {e e' : SE} {L L' Lv : List Ch} {cf cf' cf1 cf2 : Cfg} {o : Oper}
theorem enW (hT : TOk P T) {f : FuncId} {fn : Func} {cd : Code} {xs : List SV} {L0 : List Ch} {ρ ex : Type} {sv : ρ → ex → SV} {Lf : ρ → ex → List Ch} {F : Option ρ} {rs : List ResultVar} (hc : ∀ args w, (callFunc f args).run P w = .ok (.enter f args) w) (hf : P.funcs[f]? = some fn) (hr : fn.results = rs.toArray) (hb : fn.body = some cd) (hm : fn.ntmps = n) 
    (k : ∀ {r}, W (G (.mk P T hT n c B0 (QR P fn hr c B0 sv Lf r) (fun _ _ _ => False) (QR P fn hr c B0 sv Lf r)) [] B0.length (env0S 0 xs) L0 (.c cd)) r F) (hl : Nat.ble xs.length n = true := by exact rfl) : VS P c f F xs B0 L0 sv Lf :=
  fun _ hF => en n hc hf hT hb hm hl (k hF)
theorem retQ_ok {rs : List ResultVar} {is : List Nat} {b0 : Nat} {L2 L3 : List Ch} {s : SV} {st : Stop} (h : retQ T rs is b0 L2 st = some (s, L3)) : ∃ m' e' L' x, st = .ret m' e' L' ∧ resS T e' L' rs = some x ∧ nbS x = s ∧ okN b0 s = true ∧ asT b0 m' e' L' is b0 [] L2 = some ([], L3) := by
  unfold retQ at h
  grind
theorem rtW {fn : Func} {ρ ex : Type} {sv : ρ → ex → SV} {Lf : ρ → ex → List Ch} {r r' : ρ} {rs : List ResultVar} {hr : fn.results = rs.toArray} {zz : Option ρ} (y : ex) (is : List Nat) (hz : zz = some r') (h : retQ T rs is B0.length (Lf r' y) (stq T n K cf m e L) = some (sv r' y, Lf r' y)) : W (G (.mk P T hT n c B0 N X (QR P fn hr c B0 sv Lf r)) K m e L cf) r zz := fun hF => by
  obtain ⟨_, _, _, _, h1, h2, h3, h4, h5⟩ := retQ_ok h
  exact rt y is hF hz h1 hr h2 h3 h4 h5
theorem rt0 {fn : Func} {ρ : Type} {sv : ρ → Unit → SV} {Lf : ρ → Unit → List Ch} {r r' : ρ} {rs : List ResultVar} {hr : fn.results = rs.toArray} {zz : Option ρ} (hz : zz = some r') (h : retQ T rs [] B0.length (Lf r' ()) (stq T n K cf m e L) = some (sv r' (), Lf r' ())) : W (G (.mk P T hT n c B0 N X (QR P fn hr c B0 sv Lf r)) K m e L cf) r zz := rtW () [] hz h
theorem rfW {fn : Func} {ρ ex : Type} {sv : ρ → ex → SV} {Lf : ρ → ex → List Ch} {r r' : ρ} {rs : List ResultVar} {hr : fn.results = rs.toArray} {zz : Option ρ} (y : ex) (is : List Nat) (hz : zz = some r') (h : retQ T rs is B0.length (Lf r' y) (finR (stq T n K cf m e L)) = some (sv r' y, Lf r' y)) : W (G (.mk P T hT n c B0 (QR P fn hr c B0 sv Lf r) X Q) K m e L cf) r zz := fun hF => by
  obtain ⟨m', e', L', _, h1, h2, h3, h4, h5⟩ := retQ_ok h
  refine rf y is hF hz (m' := m') (e' := e') (L' := L') ?_ hr h2 h3 h4 h5
  unfold finR at h1
  grind
theorem rf0 {fn : Func} {ρ : Type} {sv : ρ → Unit → SV} {Lf : ρ → Unit → List Ch} {r r' : ρ} {rs : List ResultVar} {hr : fn.results = rs.toArray} {zz : Option ρ} (hz : zz = some r') (h : retQ T rs [] B0.length (Lf r' ()) (finR (stq T n K cf m e L)) = some (sv r' (), Lf r' ())) : W (G (.mk P T hT n c B0 (QR P fn hr c B0 sv Lf r) X Q) K m e L cf) r zz := rfW () [] hz h
theorem finQ_ok {is : List Nat} {b0 mj : Nat} {ej e3 : SE} {Lj L3 : List Ch} {st : Stop} (h : finQ is b0 mj ej Lj st = some (e3, L3)) : ∃ m' e' L', st = .fin m' e' L' ∧ asT b0 m' e' L' is mj ej Lj = some (e3, L3) := by
  unfold finQ at h
  grind
theorem jnW {π υ α : Type} {eq : π → Prop} {mj : Nat} {ej : π → υ → SE} {Lj : π → υ → List Ch} {p : π} {q : α} {zz : Option α} (u : υ) (is : List Nat) (hz : (zz = some q) = eq p) (h : finQ is B0.length mj (ej p u) (Lj p u) (stq T n K cf m e L) = some (ej p u, Lj p u)) : W (G (.mk P T hT n c B0 (JP n c B0 eq mj ej Lj) X Q) K m e L cf) q zz := fun hF => by
  obtain ⟨_, _, _, h1, h2⟩ := finQ_ok h
  exact jn u is (hz ▸ hF) h1 h2
theorem jn0 {π α : Type} {eq : π → Prop} {mj : Nat} {ej : π → Unit → SE} {Lj : π → Unit → List Ch} {p : π} {q : α} {zz : Option α} (is : List Nat) (hz : (zz = some q) = eq p) (h : finQ is B0.length mj (ej p ()) (Lj p ()) (stq T n K cf m e L) = some (ej p (), Lj p ())) : W (G (.mk P T hT n c B0 (JP n c B0 eq mj ej Lj) X Q) K m e L cf) q zz := jnW () is hz h
theorem nxW {σ ρ υ : Type} {o : Step σ ρ} {mj : Nat} {el : σ → υ → SE} {Ll : σ → υ → List Ch} {s : σ} (u : υ) (is : List Nat) (h : finQ is B0.length mj (el s u) (Ll s u) (stq T n K cf m e L) = some (el s u, Ll s u)) : W (G (.mk P T hT n c B0 (NxP n c B0 o mj el Ll) X Q) K m e L cf) o (some (Step.next s)) := fun hF => by
  obtain ⟨_, _, _, h1, h2⟩ := finQ_ok h
  exact nx u is hF h1 h2
theorem nx0 {σ ρ : Type} {o : Step σ ρ} {mj : Nat} {el : σ → Unit → SE} {Ll : σ → Unit → List Ch} {s : σ} (is : List Nat) (h : finQ is B0.length mj (el s ()) (Ll s ()) (stq T n K cf m e L) = some (el s (), Ll s ())) : W (G (.mk P T hT n c B0 (NxP n c B0 o mj el Ll) X Q) K m e L cf) o (some (Step.next s)) := nxW () is h
/-- Behind the loop, with what is known of its result. -/
def BkR (n : Nat) (c : Ctx) (B0 : Bl) {β ρ σ υ : Type} {o : Step σ ρ} {ro : ρ} (_ : ∀ p, o = .stop p → p = ro) (enc : β → ρ) (m : Nat) (ej : β → υ → SE) (Lj : β → υ → List Ch) (id : Nat) (X : Nat → Act → World → Prop) : Nat → Act → World → Prop := BkP n c B0 ro enc m ej Lj id X
theorem bkW {σ ρ β υ : Type} {o : Step σ ρ} {ro : ρ} {enc : β → ρ} {mj id : Nat} {ej : β → υ → SE} {Lj : β → υ → List Ch} {b : β} {hr : ∀ p, o = .stop p → p = ro} (u : υ) (is : List Nat) (h : exQ is id B0.length mj (ej b u) (Lj b u) (stq T n K cf m e L) = some (ej b u, Lj b u)) : W (G (.mk P T hT n c B0 N (BkR n c B0 hr enc mj ej Lj id X) Q) K m e L cf) o (some (Step.stop (enc b))) := fun hF => by
  unfold exQ at h
  split at h
  · rename_i h0
    split at h
    · rename_i hb
      rw [Nat.eq_of_beq_eq_true hb] at h0
      exact bk u is hF hr h0 h
    · cases h
  · cases h
theorem bk0 {σ ρ β : Type} {o : Step σ ρ} {ro : ρ} {enc : β → ρ} {mj id : Nat} {ej : β → Unit → SE} {Lj : β → Unit → List Ch} {b : β} {hr : ∀ p, o = .stop p → p = ro} (is : List Nat) (h : exQ is id B0.length mj (ej b ()) (Lj b ()) (stq T n K cf m e L) = some (ej b (), Lj b ())) : W (G (.mk P T hT n c B0 N (BkR n c B0 hr enc mj ej Lj id X) Q) K m e L cf) o (some (Step.stop (enc b))) := bkW () is h
theorem reW {σ ρ α : Type} {o : Step σ ρ} {p ro : ρ} {F : ρ → Option α} {q : α} {C : Prop} (hr : ∀ p, o = .stop p → p = ro) (hF : F ro = some q) (k : W C q (F p)) : W C o (some (Step.stop p)) := fun h => k (re h rfl hr hF)
section
variable {b : Bool} {α : Type} {A B' : Option α} {q : α}
theorem csW {o : Operand} {x y : Code} (ss : List Nat) (hs : stq T n K cf m e L = .cond o b x y K' m' e' L') (ho : mapO (lkS e') ss = some (ss.map fun _ => SV.b b))
    (k1 : W (G (.mk P T hT n c B0 N X Q) K' m' (ovr true e' ss) L' (.c x)) q A) (k2 : W (G (.mk P T hT n c B0 N X Q) K' m' (ovr false e' ss) L' (.c y)) q B') : W (G (.mk P T hT n c B0 N X Q) K m e L cf) q (if b = true then A else B') := fun hF => cs ss hs ho hF k1 k2
theorem csKW {o : Operand} {x y : Code} (ss : List Nat) (hs : stq T n K cf m e L = .cond o b x y K' m' e' L') (ho : mapO (lkS e') ss = some (ss.map fun _ => SV.b b))
    (k1 : b = true → W (G (.mk P T hT n c B0 N X Q) K' m' (ovr true e' ss) L' (.c x)) q A) (k2 : b = false → W (G (.mk P T hT n c B0 N X Q) K' m' (ovr false e' ss) L' (.c y)) q B') : W (G (.mk P T hT n c B0 N X Q) K m e L cf) q (if b = true then A else B') := fun hF => csK ss hs ho hF k1 k2
theorem caW (ss : List Nat) (hs : stq T n K cf m e L = .case b cf' K' m' e' L') (ho : mapO (lkS e') ss = some (ss.map fun _ => SV.b b))
    (k1 : W (G (.mk P T hT n c B0 N X Q) K' m' (ovr true e' ss) L' cf') q A) (k2 : W (G (.mk P T hT n c B0 N X Q) K' m' (ovr false e' ss) L' cf') q B') : W (G (.mk P T hT n c B0 N X Q) K m e L cf) q (if b = true then A else B') := fun hF => ca ss hs ho hF k1 k2
theorem caKW (ss : List Nat) (hs : stq T n K cf m e L = .case b cf' K' m' e' L') (ho : mapO (lkS e') ss = some (ss.map fun _ => SV.b b))
    (k1 : b = true → W (G (.mk P T hT n c B0 N X Q) K' m' (ovr true e' ss) L' cf') q A) (k2 : b = false → W (G (.mk P T hT n c B0 N X Q) K' m' (ovr false e' ss) L' cf') q B') : W (G (.mk P T hT n c B0 N X Q) K m e L cf) q (if b = true then A else B') := fun hF => caK ss hs ho hF k1 k2
end
section
variable {α β : Type} {fo : Option α} {kf : α → Option β} {q : β} {d : Nat} {f : FuncId} {xs : List SV}
theorem c0 {sv : α → SV} (hs : stq T n K cf m e L = .call o (some d) f xs cf1 cf2 K' m' e' L')
    (hc : ∀ {w}, HS c w L' → V0 P (cxAll w) f fo xs sv) (k : ∀ x, W (G (.mk P T hT n c B0 N X Q) K' m' ((d, sv x) :: e') L' cf2) q (kf x)) : W (G (.mk P T hT n c B0 N X Q) K m e L cf) q (fo.bind kf) := fun hF => cl0 hs (fun h _ hx => hc h _ hx) hF fun x _ h => k x h
theorem c1 {ex : Type} {sv : α → ex → SV} {Lf : α → ex → List Ch} (hs : stq T n K cf m e L = .call o (some d) f xs cf1 cf2 K' m' e' L')
    (hc : ∀ {w}, HS c w L' → VS P (cxAll w) f fo xs [] [] sv Lf) (k : ∀ x, ∀ y : ex, W (G (.mk P T hT n c B0 N X Q) K' m' ((d, sv x y) :: e') (L' ++ Lf x y) cf2) q (kf x)) (hn : ∀ x y, noF (Lf x y) = true := by exact fun _ _ => rfl) : W (G (.mk P T hT n c B0 N X Q) K m e L cf) q (fo.bind kf) := fun hF => cl hs hn (fun h _ hx => hc h _ hx) hF fun x _ h y => k x y h
theorem ixW {β : Type} {kf : α → Option β} {q : β} {iR : Rep α} (C : Cel α) {d t : Nat} {s : AC} {i : Int} {ls : List α} (hs : stq T n K cf m e L = .idx o d t s ls.length i Lv cf1 cf2 K' m' e' L') (h1 : RdA c s ls) (ht : ixT T t (Rep.n α) = true)
    (k : ∀ x, ∀ y : C.ex, C.sub c.S0 c.w0 x y → W (G (.mk P T hT n c B0 N X Q) K' (m' + 1) ((d, .p m' 0) :: e') (L' ++ [.ro m' (C.cs x y)]) (cf2.ext [.ro m' (C.cs x y)])) q (kf x)) : W (G (.mk P T hT n c B0 N X Q) K m e L cf) q ((idx ls i).bind kf) := fun hF => by
  unfold ixT at ht
  split at ht
  · rename_i h2
    split at ht
    · rename_i h3
      exact ix C hs h1 hF h2 h3 (Nat.eq_of_beq_eq_true ht) fun x _ h y hy => k x y hy h
    · cases ht
  · cases ht
theorem ixI {β : Type} {kf : Int → Option β} {q : β} {d t : Nat} {s : AC} {i : Int} {ls : List Int} (hs : stq T n K cf m e L = .idx o d t s ls.length i Lv cf1 cf2 K' m' e' L') (h1 : RdA c s ls) (ht : ixT T t 1 = true)
    (k : ∀ x, W (G (.mk P T hT n c B0 N X Q) K' (m' + 1) ((d, .p m' 0) :: e') (L' ++ [.ro m' [.i .i64 x]]) (cf2.ext [.ro m' [.i .i64 x]])) q (kf x)) : W (G (.mk P T hT n c B0 N X Q) K m e L cf) q ((idx ls i).bind kf) := ixW cI hs h1 ht fun x _ _ => k x
theorem drW (hm : P.follows .mixedOrders = true) {id : Nat} {ops : Array Oper} {zz : Option β} (is : List Nat) (hs : stq T n K cf m e L = .rgn id ops K' m' e' L')
    (k : ∀ {B1}, W (G (.mk P T hT n c B0 N X Q) K' m' e' L' (.d B1 ops (List.replicate ops.size false) is (kl L' is) (kl L' is))) q zz) (hf : (freeA ops && (okL m' (kl L' is) && (apartB is && is.all fun j => Nat.blt j L'.length))) = true := by kernel_rfl) : W (G (.mk P T hT n c B0 N X Q) K m e L cf) q zz := fun hF => dr is hs hm hf fun _ => k hF
theorem cutW {π υ : Type} {zz : Option β} (j mj : Nat) (Fj : π → Option β) (ks : List Nat) (ej : π → υ → SE) (is : List Nat) (Lj : π → υ → List Ch) (hs : cfgS (stq T n K cf m e L) = some (K', cf', m', e', L'))
    (k1 : W (G (.mk P T hT n c B0 (JP n c B0 (fun p => Fj p = some q) mj (fun p u => ej p u ++ kp e' ks) (fun p u => Lj p u ++ kl L' is)) (XK (.mk P T hT n c B0 N X Q) (K'.drop j)) Q) (K'.take j) m' e' L' cf') q zz)
    (k2 : ∀ p u, W (G (.mk P T hT n c B0 N X Q) (K'.drop j) mj (ej p u ++ kp e' ks) (Lj p u ++ kl L' is) .n) q (Fj p)) : W (G (.mk P T hT n c B0 N X Q) K m e L cf) q zz := fun hF => cut j mj (fun p => Fj p = some q) ks ej is Lj hs (k1 hF) fun p u h => k2 p u h
theorem cutB {zz : Option β} (j mj : Nat) (Fj : Bool → Option β) (ks : List Nat) (v : Nat) (is : List Nat) (hs : cfgS (stq T n K cf m e L) = some (K', cf', m', e', L'))
    (k1 : W (G (.mk P T hT n c B0 (JP n c B0 (fun p => Fj p = some q) mj (fun p (_ : Unit) => [(v, .b p)] ++ kp e' ks) (fun _ _ => [] ++ kl L' is)) (XK (.mk P T hT n c B0 N X Q) (K'.drop j)) Q) (K'.take j) m' e' L' cf') q zz)
    (k2 : ∀ p, W (G (.mk P T hT n c B0 N X Q) (K'.drop j) mj ([(v, .b p)] ++ kp e' ks) ([] ++ kl L' is) .n) q (Fj p)) : W (G (.mk P T hT n c B0 N X Q) K m e L cf) q zz := cutW j mj Fj ks (fun p (_ : Unit) => [(v, .b p)]) is (fun _ _ => []) hs k1 fun p _ => k2 p
theorem lpW {σ ρ υ γ ω : Type} {id : Nat} {y : Code} {fb : σ → Option (Step σ ρ)} {s0 : σ} {gk : ρ → Option β} (u0 : υ) (ks : List Nat) (el : σ → υ → SE) (is0 is : List Nat) (Ll : σ → υ → List Ch) (enc : γ → ρ) (kb : List Nat) (ej : γ → ω → SE) (ib : List Nat) (Lj : γ → ω → List Ch)
    (hs : stq T n K cf m e L = .loop id y K' m' e' L')
    (h0 : asT B0.length m' e' L' is0 m' (el s0 u0 ++ kp e' ks) (Ll s0 u0 ++ kl L' is) = some (el s0 u0 ++ kp e' ks, Ll s0 u0 ++ kl L' is))
    (k1 : ∀ {ro o}, gk ro = some q → ∀ s u, (hr : ∀ p, o = .stop p → p = ro) → W (G (.mk P T hT n c B0 (NxP n c B0 o m' (fun s u => el s u ++ kp e' ks) (fun s u => Ll s u ++ kl L' is)) (BkR n c B0 hr enc m' (fun b u => ej b u ++ kp e' kb) (fun b u => Lj b u ++ kl L' ib) id (XK (.mk P T hT n c B0 N X Q) K')) Q) [] m' (el s u ++ kp e' ks) (Ll s u ++ kl L' is) (.c y)) o (fb s))
    (k2 : ∀ b u, W (G (.mk P T hT n c B0 N X Q) K' m' (ej b u ++ kp e' kb) (Lj b u ++ kl L' ib) .n) q (gk (enc b))) : W (G (.mk P T hT n c B0 N X Q) K m e L cf) q ((loop fb s0).bind gk) := fun hF =>
  lp u0 ks el is0 is Ll enc kb ej ib Lj hs hF h0 (fun ro h1 s u o h2 h3 => k1 h1 s u h3 h2) fun b u h => k2 b u h
/-- Of a loop over a number in a slot, with nothing behind it but what was. -/
theorem lpI {ρ : Type} {id : Nat} {y : Code} {fb : Int → Option (Step Int ρ)} {s0 : Int} {gk : ρ → Option β} (v : Nat) (ks : List Nat) (is : List Nat) (enc : Unit → ρ) (kb : List Nat) (ib : List Nat)
    (hs : stq T n K cf m e L = .loop id y K' m' e' L')
    (h0 : asT B0.length m' e' L' is m' ([(v, .i .i64 s0)] ++ kp e' ks) ([] ++ kl L' is) = some ([(v, .i .i64 s0)] ++ kp e' ks, [] ++ kl L' is))
    (k1 : ∀ {ro o}, gk ro = some q → ∀ s, (hr : ∀ p, o = .stop p → p = ro) → W (G (.mk P T hT n c B0 (NxP n c B0 o m' (fun s (_ : Unit) => [(v, .i .i64 s)] ++ kp e' ks) (fun _ _ => [] ++ kl L' is)) (BkR n c B0 hr enc m' (fun _ (_ : Unit) => [] ++ kp e' kb) (fun _ _ => [] ++ kl L' ib) id (XK (.mk P T hT n c B0 N X Q) K')) Q) [] m' ([(v, .i .i64 s)] ++ kp e' ks) ([] ++ kl L' is) (.c y)) o (fb s))
    (k2 : W (G (.mk P T hT n c B0 N X Q) K' m' ([] ++ kp e' kb) ([] ++ kl L' ib) .n) q (gk (enc ()))) : W (G (.mk P T hT n c B0 N X Q) K m e L cf) q ((loop fb s0).bind gk) :=
  lpW () ks (fun s (_ : Unit) => [(v, .i .i64 s)]) is is (fun _ _ => []) enc kb (fun _ (_ : Unit) => []) ib (fun _ _ => []) hs h0 (fun h s _ hr => k1 h s hr) fun _ _ => k2
theorem lrW {σ ρ υ : Type} {id : Nat} {y : Code} {fb : σ → Option (Step σ ρ)} {s0 : σ} {gk : ρ → Option β} (u0 : υ) (ks : List Nat) (el : σ → υ → SE) (is0 is : List Nat) (Ll : σ → υ → List Ch)
    (hs : stq T n K cf m e L = .loop id y K' m' e' L')
    (h0 : asT B0.length m' e' L' is0 m' (el s0 u0 ++ kp e' ks) (Ll s0 u0 ++ kl L' is) = some (el s0 u0 ++ kp e' ks, Ll s0 u0 ++ kl L' is))
    (k1 : ∀ {ro o}, gk ro = some q → ∀ s u, (hr : ∀ p, o = .stop p → p = ro) → W (G (.mk P T hT n c B0 (NxP n c B0 o m' (fun s u => el s u ++ kp e' ks) (fun s u => Ll s u ++ kl L' is)) (BkP n c B0 ro (fun b : Empty => nomatch b) m' (fun (b : Empty) (_ : Unit) => nomatch b) (fun b _ => nomatch b) id (XK (.mk P T hT n c B0 N X Q) K')) Q) [] m' (el s u ++ kp e' ks) (Ll s u ++ kl L' is) (.c y)) o (fb s)) : W (G (.mk P T hT n c B0 N X Q) K m e L cf) q ((loop fb s0).bind gk) := fun hF =>
  lr u0 ks el is0 is Ll hs hF h0 fun ro h1 s u o h2 h3 => k1 h1 s u h3 h2
theorem oeW {β : Type} {kf : α → Option β} {q : β} [Rep α] (E : CO α) (j : Nat) {t : TypeId} {s : AC} {i : Int} {ls : List α} (hs : stq T n K cf m e L = .idx o d t s ls.length i Lv cf1 cf2 K' m' e' L') (hj : L'[j]? = some (ow s ls)) (hz : notIn j cf1.frz = true)
    (k : ∀ x, idx ls i = some x → ∀ y : E.ex, Shp s ls.length → W (G (.mk P T hT n c B0 N X Q) K' (m' + 1) e' (L'.set j .no ++ ([.o (cHole (s.v ls.length) ls i.toNat), .box m' (E.cs x y), wOf α m' s ls.length i.toNat] ++ E.Lx x y)) (cf1.ext [wOf α m' s ls.length i.toNat])) q (kf x)) : W (G (.mk P T hT n c B0 N X Q) K m e L cf) q ((idx ls i).bind kf) := fun hF => oe E j hs hj hz hF fun x h1 h2 y h3 => k x h1 y h3 h2
end
section
variable {α β ex : Type} {fo : Option α} {kf : α → Option β} {q : β} {d : Option Nat} {f : FuncId} {xs xs0 : List SV} {M : List Ch} {sv : α → ex → SV} {Lr : α → ex → List Ch}
def nT {α ex : Type} (f : α → ex → Bool) : Prop := ∀ x y, f x y = true
theorem cwW0 (is : List Nat)
    (hs : cpS (stq T n K cf m e L) = some (o, d, f, xs, cf1, cf2, K', m', e', L')) (hi : mapO (fun i => L'[i]?) is = some M) (hx : mapO (rnP [] 0) xs = some xs0)
    (hk : (allO M && (apartB is && is.all fun j => notIn j cf1.frz)) = true)
    (hc : ∀ {κ : Ctx}, HG c κ L' is → VS P κ f fo xs0 [] M sv Lr)
    (k : ∀ x, ∀ y : ex, W (G (.mk P T hT n c B0 N X Q) K' m' (dse d (sv x y) e') (blk L' is ++ Lr x y) cf2) q (kf x)) (hn : ∀ x y, (allO (Lr x y) && okN 0 (sv x y)) = true := by exact fun _ _ => rfl) : W (G (.mk P T hT n c B0 N X Q) K m e L cf) q (fo.bind kf) := fun hF =>
  cw0 is hs hi hx hk hn (fun h _ hx => hc h _ hx) hF fun x _ h y => k x y h
theorem cwW1 {c1 : List SV} {a1 : α → ex → List SV} (i1 n1 o1 k1 : Nat) (is : List Nat)
    (hs : cpS (stq T n K cf m e L) = some (o, d, f, xs, cf1, cf2, K', m', e', L')) (hb : getB L' [(i1, n1, o1, k1)] = some [c1]) (hi : mapO (fun i => L'[i]?) is = some M) (hx : mapO (rnP [(i1, n1, o1, k1)] 0) xs = some xs0)
    (hk : (allO M && ([c1].all (okN.okC 0) && (apartB (i1 :: is) && (i1 :: is).all fun j => notIn j cf1.frz))) = true)
    (hc : ∀ {κ : Ctx}, HG c κ L' (i1 :: is) → ∀ {b1 : Nat × Nat}, VS P κ f fo xs0 [b1] (.box 0 c1 :: M) sv (fun x y => .box 0 (a1 x y) :: Lr x y))
    (k : ∀ x, ∀ y : ex, W (G (.mk P T hT n c B0 N X Q) K' m' (dse d (sv x y) e') (putB L' (blk L' (i1 :: is) ++ Lr x y) [(i1, n1, o1, k1)] [a1 x y]) cf2) q (kf x)) (hn : ∀ x y, (lenP [(i1, n1, o1, k1)] [a1 x y] && ([a1 x y].all (okN.okC 0) && (allO (Lr x y) && okN 0 (sv x y)))) = true := by exact fun _ _ => rfl) : W (G (.mk P T hT n c B0 N X Q) K m e L cf) q (fo.bind kf) := fun hF =>
  cw1 i1 n1 o1 k1 is hs hb hi hx hk hn (fun h _ _ hx => hc h _ hx) hF fun x _ h y => k x y h
theorem cwW2 {c1 c2 : List SV} {a1 a2 : α → ex → List SV} (i1 n1 o1 k1 : Nat) (i2 n2 o2 k2 : Nat) (is : List Nat)
    (hs : cpS (stq T n K cf m e L) = some (o, d, f, xs, cf1, cf2, K', m', e', L')) (hb : getB L' [(i1, n1, o1, k1), (i2, n2, o2, k2)] = some [c1, c2]) (hi : mapO (fun i => L'[i]?) is = some M) (hx : mapO (rnP [(i1, n1, o1, k1), (i2, n2, o2, k2)] 0) xs = some xs0)
    (hk : (allO M && ([c1, c2].all (okN.okC 0) && (apartB (i1 :: i2 :: is) && (i1 :: i2 :: is).all fun j => notIn j cf1.frz))) = true)
    (hc : ∀ {κ : Ctx}, HG c κ L' (i1 :: i2 :: is) → ∀ {b1 b2 : Nat × Nat}, VS P κ f fo xs0 [b1, b2] (.box 0 c1 :: .box 1 c2 :: M) sv (fun x y => .box 0 (a1 x y) :: .box 1 (a2 x y) :: Lr x y))
    (k : ∀ x, ∀ y : ex, W (G (.mk P T hT n c B0 N X Q) K' m' (dse d (sv x y) e') (putB L' (blk L' (i1 :: i2 :: is) ++ Lr x y) [(i1, n1, o1, k1), (i2, n2, o2, k2)] [a1 x y, a2 x y]) cf2) q (kf x)) (hn : ∀ x y, (lenP [(i1, n1, o1, k1), (i2, n2, o2, k2)] [a1 x y, a2 x y] && ([a1 x y, a2 x y].all (okN.okC 0) && (allO (Lr x y) && okN 0 (sv x y)))) = true := by exact fun _ _ => rfl) : W (G (.mk P T hT n c B0 N X Q) K m e L cf) q (fo.bind kf) := fun hF =>
  cw2 i1 n1 o1 k1 i2 n2 o2 k2 is hs hb hi hx hk hn (fun h _ _ _ hx => hc h _ hx) hF fun x _ h y => k x y h
theorem cwW3 {c1 c2 c3 : List SV} {a1 a2 a3 : α → ex → List SV} (i1 n1 o1 k1 : Nat) (i2 n2 o2 k2 : Nat) (i3 n3 o3 k3 : Nat) (is : List Nat)
    (hs : cpS (stq T n K cf m e L) = some (o, d, f, xs, cf1, cf2, K', m', e', L')) (hb : getB L' [(i1, n1, o1, k1), (i2, n2, o2, k2), (i3, n3, o3, k3)] = some [c1, c2, c3]) (hi : mapO (fun i => L'[i]?) is = some M) (hx : mapO (rnP [(i1, n1, o1, k1), (i2, n2, o2, k2), (i3, n3, o3, k3)] 0) xs = some xs0)
    (hk : (allO M && ([c1, c2, c3].all (okN.okC 0) && (apartB (i1 :: i2 :: i3 :: is) && (i1 :: i2 :: i3 :: is).all fun j => notIn j cf1.frz))) = true)
    (hc : ∀ {κ : Ctx}, HG c κ L' (i1 :: i2 :: i3 :: is) → ∀ {b1 b2 b3 : Nat × Nat}, VS P κ f fo xs0 [b1, b2, b3] (.box 0 c1 :: .box 1 c2 :: .box 2 c3 :: M) sv (fun x y => .box 0 (a1 x y) :: .box 1 (a2 x y) :: .box 2 (a3 x y) :: Lr x y))
    (k : ∀ x, ∀ y : ex, W (G (.mk P T hT n c B0 N X Q) K' m' (dse d (sv x y) e') (putB L' (blk L' (i1 :: i2 :: i3 :: is) ++ Lr x y) [(i1, n1, o1, k1), (i2, n2, o2, k2), (i3, n3, o3, k3)] [a1 x y, a2 x y, a3 x y]) cf2) q (kf x)) (hn : ∀ x y, (lenP [(i1, n1, o1, k1), (i2, n2, o2, k2), (i3, n3, o3, k3)] [a1 x y, a2 x y, a3 x y] && ([a1 x y, a2 x y, a3 x y].all (okN.okC 0) && (allO (Lr x y) && okN 0 (sv x y)))) = true := by exact fun _ _ => rfl) : W (G (.mk P T hT n c B0 N X Q) K m e L cf) q (fo.bind kf) := fun hF =>
  cw3 i1 n1 o1 k1 i2 n2 o2 k2 i3 n3 o3 k3 is hs hb hi hx hk hn (fun h _ _ _ _ hx => hc h _ hx) hF fun x _ h y => k x y h
end
/-! ### Functions handed on -/
theorem fuW1 {α β : Type} {iR : Rep α} {C : Cel α} {sr : β → SV} {g : FuncId} {w : World} {p : α → Option β} (hc : ∀ args w, (callFunc g args).run P w = .ok (.enter g args) w) (hn : ∀ {κ : Ctx} {x y}, C.sub κ.S0 κ.w0 x y → V0 P κ g (p x) [C.sv x y] sr) : Fu1 P (cxAll w) C sr g [] p := fu1 hc (by intro κ x y h q hq; exact hn h _ hq)
theorem fuW2 {α α' β : Type} {iR : Rep α} {iR' : Rep α'} {C : Cel α} {C' : Cel α'} {sr : β → SV} {g : FuncId} {w : World} {p : α → α' → Option β} (hc : ∀ args w, (callFunc g args).run P w = .ok (.enter g args) w) (hn : ∀ {κ : Ctx} {x y x' y'}, C.sub κ.S0 κ.w0 x y → C'.sub κ.S0 κ.w0 x' y' → V0 P κ g (p x x') [C.sv x y, C'.sv x' y'] sr) : Fu2 P (cxAll w) C C' sr g [] p := fu2 hc (by intro κ x y x' y' h h' q hq; exact hn h h' _ hq)
theorem fkW1 {α β : Type} {iR : Rep α} {C : Cel α} {sr : β → SV} {g : FuncId} {w : World} {Bs : Bl} {cs : List (Nat × List SV)} {p : α → Option β} (hc : ∀ args w, (callFunc g args).run P w = .ok (.enter g args) w) (hB : ∀ w1, Keep F0 w w1 → StS (cxAll w1) w1 Bs (roL 0 cs)) (hl : mapO (toV Bs) (capP 0 cs) = some (capB Bs)) (hn : ∀ {w1 x y}, Keep F0 w w1 → C.sub (All w1) w1 x y → VS P (cxAll w1) g (p x) (C.sv x y :: capP 0 cs) Bs (roL 0 cs) (fun r (_ : Unit) => sr r) (fun _ _ => [])) (hz : ∀ q, okN 0 (sr q) = true := by exact fun _ => rfl) : Fu1 P (cxAll w) C sr g (capB Bs) p := fk1 hc hB hl hz (by intro w1 x y h h' q hq; exact hn h h' _ hq)
section
variable {α β : Type} {fo : Option α} {kf : α → Option β} {q : β} {d : Nat} {f g : FuncId} {xs : List SV} {sv : α → SV}
theorem clW1 {n1 : Nat} {c1 : List SV} (is : List Nat) (hs : stq T n K cf m e L = .callp o (some d) f xs cf1 cf2 K' m' e' L') (hk : kl L' is = [.ro n1 c1]) (ho : (okCs [(n1, c1)] && okA xs.dropLast) = true) (hx : xs = xs.dropLast ++ [.f g [n1]])
    (hc : ∀ {w}, HS c w L' → ∀ {b1 : Nat × Nat}, (∀ w1, Keep F0 w w1 → StS (cxAll w1) w1 [b1] [.ro 0 c1]) → V0 P (cxAll w) f fo (xs.dropLast ++ [.k (.func (.func g) #[] (capB [b1]).toArray)]) sv)
    (k : ∀ x, W (G (.mk P T hT n c B0 N X Q) K' m' ((d, sv x) :: e') L' cf2) q (kf x)) : W (G (.mk P T hT n c B0 N X Q) K m e L cf) q (fo.bind kf) := fun hF =>
  clc1 is hs hk ho hx (fun h _ h2 _ hx => hc h h2 _ hx) hF fun x _ h => k x h
theorem clW2 {n1 n2 : Nat} {c1 c2 : List SV} (is : List Nat) (hs : stq T n K cf m e L = .callp o (some d) f xs cf1 cf2 K' m' e' L') (hk : kl L' is = [.ro n1 c1, .ro n2 c2]) (ho : (okCs [(n1, c1), (n2, c2)] && okA xs.dropLast) = true) (hx : xs = xs.dropLast ++ [.f g [n1, n2]])
    (hc : ∀ {w}, HS c w L' → ∀ {b1 b2 : Nat × Nat}, (∀ w1, Keep F0 w w1 → StS (cxAll w1) w1 [b1, b2] [.ro 0 c1, .ro 1 c2]) → V0 P (cxAll w) f fo (xs.dropLast ++ [.k (.func (.func g) #[] (capB [b1, b2]).toArray)]) sv)
    (k : ∀ x, W (G (.mk P T hT n c B0 N X Q) K' m' ((d, sv x) :: e') L' cf2) q (kf x)) : W (G (.mk P T hT n c B0 N X Q) K m e L cf) q (fo.bind kf) := fun hF =>
  clc2 is hs hk ho hx (fun h _ _ h2 _ hx => hc h h2 _ hx) hF fun x _ h => k x h
end
end
end Go.Gv
end
section
/-
  Functions that yield a pointer to a new struct. Nothing of a program here.
-/
set_option linter.unusedVariables false
set_option linter.unusedSimpArgs false
namespace Go.Gv
def oG : CO GStr := cG.o (fun _ _ => []) (fun h => by cases h; exact op_flat rfl) (fun _ _ => rfl) (fun _ _ _ => rfl)
def pV (y : Nat × Nat) : Value := .pointer (some ⟨y.1, y.2, none⟩)
section
variable {P : Program} {T : TT} {hT : TOk P T} {n : Nat} {c : Ctx} {B0 : Bl} {N : Act → World → Prop} {X : Nat → Act → World → Prop} {Q : Act → World → Prop} {K K' : List Fr} {m m' : Nat} {e e' : SE} {L L' : List Ch} {cf cf1 cf2 : Cfg} {o : Oper}
/-- What a function does that yields a pointer to a new struct with the cells cs. -/
abbrev VP (P : Program) (c : Ctx) (f : FuncId) {ρ : Type} (F : Option ρ) (xs : List SV) (cs : ρ → List SV) : Prop := VS P c f F xs [] [] (fun _ (y : Nat × Nat) => .k (pV y)) (fun r y => [.o (boxC [y] 0 (cs r))])
theorem rtP {fn : Func} {ρ : Type} {r r' : ρ} {t : Nat} {hr : fn.results = [ResultVar.tmp t].toArray} {zz : Option ρ} {cs : ρ → List SV} (is : List Nat) (hz : zz = some r') (hs : stq T n K cf m e L = .ret m' e' L') (hL : asT 0 m' e' L' is 1 [(t, .p 0 0)] [.box 0 (cs r')] = some ([(t, .p 0 0)], [.box 0 (cs r')])) (ho : okN.okC 0 (cs r') = true) : W (G (.mk P T hT n c [] N X (QR P fn hr c [] (fun _ (y : Nat × Nat) => .k (pV y)) (fun r y => [.o (boxC [y] 0 (cs r))]) r)) K m e L cf) r zz := fun hF => by
  subst hz; cases hF
  refine stq_ok (g := .mk P T hT n c [] N X _) ?_
  rw [hs]
  intro a w hr'
  obtain ⟨B, hm, hA, hS⟩ := RelN.asT hr' is hL
  have hB : ∃ y, B = [y] := by
    cases B with
    | nil => simp at hm
    | cons y B => grind
  obtain ⟨y, rfl⟩ := hB
  have hS : StS c w [y] [.box 0 (cs r)] := hS
  have hA : AEnvS n [y] [(t, .p 0 0)] a := hA
  have hv : resS T [(t, .p 0 0)] [.box 0 (cs r)] [ResultVar.tmp t] = some (.p 0 0) := by simp [resS, resV, lkS]
  obtain ⟨v, h1, h2⟩ := resS_ok hr hT hA hS hv
  have hv' : v = pV y := by
    simp only [toV, gV, cellV, List.getElem?_cons_zero] at h1
    cases h1; rfl
  subst hv'
  refine ⟨hA.d, _, h2, y, by grind [toV, gV, cellV, Value.oneCell'], ?_⟩
  obtain ⟨⟨R, s1, s2⟩, s0⟩ := hS
  exact ⟨⟨R, s1.imp (.cons (fun F h => h) .nil), fun x hx => by rcases List.mem_cons.1 hx with rfl | hx <;> first | trivial | simp at hx⟩, s0⟩
theorem cP {α β : Type} {fo : Option α} {kf : α → Option β} {q : β} {d : Nat} {f : FuncId} {xs : List SV} {cs : α → List SV} (hs : stq T n K cf m e L = .call o (some d) f xs cf1 cf2 K' m' e' L')
    (hc : ∀ {w}, HS c w L' → VP P (cxAll w) f fo xs cs) (k : ∀ x, W (G (.mk P T hT n c B0 N X Q) K' (m' + 1) ((d, .p m' 0) :: e') (L' ++ [.box m' (cs x)]) cf2) q (kf x)) (hk : ∀ x, okN.okC 0 (cs x) = true := by exact fun _ => rfl) : W (G (.mk P T hT n c B0 N X Q) K m e L cf) q (fo.bind kf) := fun hF => by
  refine stq_ok (g := .mk P T hT n c B0 N X Q) ?_
  rw [hs]
  intro fo' args ats ho hd hf ⟨ys, hys, hxs⟩ hA0 hdn hE
  subst hxs
  cases hfo : fo with
  | none => grind
  | some x =>
    rw [hfo] at hF
    refine hE Unit (fun _ => m' + 1) (fun _ => (d, .p m' 0) :: e') (fun _ => L' ++ [.box m' (cs x)]) (fun _ => frz_app _) (fun B a w next Q' hm hA hS hnext => ?_) (fun _ => k x hF)
    obtain ⟨hcall, hrun⟩ := hc ⟨_, hS⟩ x hfo
    obtain ⟨vs, h1, h2⟩ := evs_S hA hys
    obtain ⟨v, h3, h4⟩ := evS_ok hA hf
    simp [toV, mapO] at h3
    subst h3
    have h5 := hrun vs (okA_toV hA0 (by rw [nbA_toV]; exact h1)) (stS0 w)
    have h6 := rc_call' (w := w) hcall ho h4 h2
    unfold Oper.wp
    rw [h6 _ a hA.env, Oper.upon_enter]
    refine Calls.mono h5 fun en w' ⟨v, hv, y, g1, g2⟩ => ?_
    subst hv
    rw [hd]
    have hv' : v = pV y := by grind [toV, gV, cellV]
    subst hv'
    have hb : ∀ {F : Foot}, (boxC [y] 0 (cs x)).P w' F → (boxC ((B0S (.mk P T hT n c B0 N X Q) cf1 ++ B) ++ [y]) m' (cs x)).P w' F := fun ⟨b, z, us, k1, k2, k3⟩ => by
      simp only [List.getElem?_cons_zero, Option.some.injEq] at k1
      refine ⟨y.1, y.2, us, ?_, ?_, by grind⟩
      · grind
      · simpa using mapO_mono (fun x v h => by simpa using cellV_app (B := []) (B0S (.mk P T hT n c B0 N X Q) cf1 ++ B ++ [y]) h) (okC_map (hk x) k2)
    have g3 : toV ((B0S (.mk P T hT n c B0 N X Q) cf1 ++ B) ++ [y]) (.p m' 0) = some (pV y) := by
      grind [toV, gV, cellV, pV]
    refine hnext () _ _ ⟨[y], by grind, hA.ext g3 (hA.env.put (by grind [dstOk, Nat.blt_eq]) _), ?_⟩
    obtain ⟨⟨R, s1, s2⟩, s0⟩ := (hS.after (L2 := [.o (boxC [y] 0 (cs x))]) rfl g2).app [y]
    refine ⟨⟨R, s1.imp ?_, fun z hz => ?_⟩, s0⟩
    · rw [List.map_append, List.map_append]
      exact ImpL.append (ImpL.refl _) (.cons (fun F h => hb h) .nil)
    · rcases List.mem_append.1 hz with hz | hz
      · grind
      · rcases List.mem_cons.1 hz with rfl | hz <;> first | trivial | simp at hz
/-- A field of a struct that lies in a temporary. -/
def fldV (b : Bool) (off sz : Nat) (cs : List SV) : Option SV := match b with
  | true => some (.g ((cs.drop off).take sz))
  | false => match cs[off]? with
    | some x => match x with
      | .g _ => none
      | .t _ => none
      | .f _ _ => none
      | .u => none
      | y => some y
    | none => none
theorem qfld {α : Type} {F0 : Option α} {q : α} {t ix sz d : Nat} {b : Bool} {k : TK} {z cs : List SV} {Fs : Array Field} {F : Field} {x : Operand} {r : SV} {Lv : List Ch} (hu : P.underlying t = some (.struct Fs)) (hf : Fs[ix]? = some F) (hl : lkT T F.type = some ⟨k, b, sz, z⟩) (hs : opS (stq T n K cf m e L) = some (o, Lv, cf1, cf2, K', m', e', L')) (ho : (o.op, o.dst) = (.field t x ix, some d)) (hx : evS e' x = some (.g cs)) (hr : fldV b F.offset sz cs = some r) (hz : (!b || Nat.ble (F.offset + sz) cs.length) = true)
    (kk : W (G (.mk P T hT n c B0 N X Q) K' m' ((d, r) :: e') L' cf2) q F0) : W (G (.mk P T hT n c B0 N X Q) K m e L cf) q F0 := fun hF =>
  pu hs (congrArg Prod.snd ho) (fun B a w hA _ => by
    obtain ⟨v, h1, h2⟩ := evS_ok hA hx
    simp only [toV, gV] at h1
    split at h1
    case h_2 => cases h1
    rename_i vs hv
    cases h1
    have hlen := mapO_len hv
    have h0 : o.op = .field t x ix := congrArg Prod.fst ho
    have hag := hT.agg _ _ hl
    have hsz := hT.size _ _ hl
    cases b with
    | true =>
      have hz' := Nat.le_of_ble_eq_true (by simpa using hz)
      simp only [fldV] at hr; cases hr
      refine ⟨.agg ((vs.drop F.offset).take sz).toArray, by grind [toV, gV, mapO_take, mapO_drop], fun _ a hA => ?_⟩
      have e : vs.toArray.extract F.offset (F.offset + sz) = ((vs.drop F.offset).take sz).toArray := by
        simp
      simp [execOp, h0, hA.eval h2, Instr.field, run_underlying hu, hf, part, asAgg, hag, hsz, e]
    | false =>
      simp only [fldV] at hr
      split at hr
      case h_2 => cases hr
      rename_i y hy
      obtain ⟨u, h4, h5⟩ := mapO_get hv hy
      have hr' : r = y := by grind
      subst hr'
      refine ⟨u, toV_c h4, fun _ a hA => ?_⟩
      simp [execOp, h0, hA.eval h2, Instr.field, run_underlying hu, hf, part, asAgg, hag, h5]) (kk hF)
end
end Go.Gv
end
section
/-
  Elements of ours that were looked at alone, several of them: closed one behind another, the list laid flat. Nothing of a program here.
-/
set_option linter.unusedVariables false
namespace Go.Gv
theorem notIn_mem {k : Nat} : ∀ {js : List Nat}, notIn k js = true → k ∉ js
  | [], _ => by simp
  | j :: r, h => by
    unfold notIn at h
    cases q : Nat.beq k j
    · rw [q] at h
      have h1 := notIn_mem h
      have h2 : k ≠ j := fun e => by simp_all
      grind
    grind
theorem blk_get {v : Ch} : ∀ {js : List Nat} {L xs : List Ch} {k : Nat}, notIn k js = true → L[k]? = some v → (blk L js ++ xs)[k]? = some v
  | [], L, xs, k, _, h => by
    grind [blk]
  | j :: r, L, xs, k, hn, h => by
    have h1 := notIn_mem hn
    simp only [List.mem_cons, not_or] at h1
    refine blk_get (js := r) (L := L.set j .no) ?_ ?_
    · grind [notIn]
    grind
theorem blk_app {y : List Ch} : ∀ {is : List Nat} {L xs : List Ch}, (∀ i ∈ is, i < L.length) → blk (L ++ xs) is ++ y = blk L is ++ (xs ++ y)
  | [], L, xs, _ => by simp [blk]
  | i :: r, L, xs, h => by
    simp only [blk]
    rw [List.set_append_left _ _ (h i List.mem_cons_self)]
    exact blk_app (fun j hj => by grind)
theorem blk_blk : ∀ {js is : List Nat} {L : List Ch}, blk (blk L js) is = blk L (js ++ is)
  | [], _, _ => rfl
  | j :: r, is, L => by simp only [blk, List.cons_append]; exact blk_blk
theorem mapO_lt {L : List Ch} : ∀ {is : List Nat} {c : List Ch}, mapO (fun i => L[i]?) is = some c → ∀ i ∈ is, i < L.length
  | [], _, _, i, h => by cases h
  | j :: r, c, h, i, hi => by
    simp only [mapO] at h
    cases q : L[j]? with
    | none => grind
    | some x =>
      rw [q] at h
      cases q2 : mapO (fun i => L[i]?) r with
      | none => grind
      | some z =>
        rcases List.mem_cons.1 hi with e | hi
        · grind
        · exact mapO_lt q2 i hi
theorem mapO_blk {js : List Nat} {L xs : List Ch} : ∀ {is : List Nat} {c : List Ch}, (is.all fun j => notIn j js) = true → mapO (fun i => L[i]?) is = some c → mapO (fun i => (blk L js ++ xs)[i]?) is = some c
  | [], _, _, h => h
  | j :: r, c, hn, h => by
    simp only [List.all_cons, Bool.and_eq_true] at hn
    simp only [mapO] at h ⊢
    cases q : L[j]? with
    | none => grind
    | some x =>
      rw [q] at h
      rw [blk_get hn.1 q]
      cases q2 : mapO (fun i => L[i]?) r with
      | none => grind
      | some z =>
        simp only [q2] at h
        rw [mapO_blk hn.2 q2]; exact h
section
variable {n : Nat} {c : Ctx} {B0 : Bl} {m : Nat} {e : SE} {L : List Ch}
theorem cqF {Z : Act → World → Prop} {js : List Nat} {xs : List Ch} {α : Type} [Rep α] (E : CO α) (h : Nat) (is : List Nat) {s : AC} {l : List α} {i : Int} {nb : Nat} {x : α} (hx : idx l i = some x) (y : E.ex) {cs0 : List SV} {ec : List Value} (hs : L[h]? = some (.o (cHole (s.v l.length) l i.toNat))) (hb : L[h + 1]? = some (.box nb cs0)) (hv : L[h + 2]? = some (wOf α nb s l.length i.toNat)) (hi : mapO (fun i => L[i]?) is = some (E.Lx x y)) (hc : nbL cs0 = E.cs x y) (hec : mapO (cellV []) (E.cs x y) = some ec) (ha : apartB (h :: (h + 1) :: is) = true) (hd : ((h :: (h + 1) :: (h + 2) :: is).all fun j => notIn j js) = true)
    (kk : ∀ a w, RelN n c B0 m e (blk L (js ++ h :: (h + 1) :: is) ++ (xs ++ [ow s l])) a w → Z a w) : ∀ a w, RelN n c B0 m e (blk L js ++ xs) a w → Z a w := by
  simp only [List.all_cons, Bool.and_eq_true] at hd
  refine cqR E h is hx y (blk_get hd.1 hs) (blk_get hd.2.1 hb) (blk_get hd.2.2.1 hv) (mapO_blk hd.2.2.2 hi) hc hec ha ?_
  grind [blk_len, mapO_lt, blk_app, blk_blk]
/-- Chunks by their places, in L and behind it. -/
def kf (L xs : List Ch) (k : Nat) : List Nat → List Ch
  | [] => []
  | i :: is => match Nat.blt i k with
    | true => match L[i]? with
      | some x => x :: kf L xs k is
      | none => kf L xs k is
    | false => match xs[i - k]? with
      | some x => x :: kf L xs k is
      | none => kf L xs k is
theorem kf_eq {js : List Nat} {L xs : List Ch} {k : Nat} (hk : L.length = k) : ∀ {is : List Nat}, (is.all fun j => notIn j js) = true → kl (blk L js ++ xs) is = kf L xs k is
  | [], _ => rfl
  | i :: is, h => by
    simp only [List.all_cons, Bool.and_eq_true] at h
    simp only [kl, kf]
    rw [kf_eq hk h.2]
    by_cases q : i < k
    · have e1 : Nat.blt i k = true := by simp_all
      grind [blk_get]
    · have e1 : Nat.blt i k = false := by
        cases z : Nat.blt i k
        · rfl
        (simp_all;omega)
      grind [blk_len]
theorem kl_all : ∀ (M N : List Ch), kl (N ++ M) ((List.range' N.length M.length)) = M
  | [], N => rfl
  | x :: M, N => by
    rw [List.length_cons, List.range'_succ]
    simp only [kl]
    rw [List.getElem?_append_right (Nat.le_refl _), Nat.sub_self]
    simp only [List.getElem?_cons_zero]
    have := kl_all M (N ++ [x])
    grind
theorem apart_range : ∀ (k a : Nat), apartB (List.range' a k) = true
  | 0, _ => rfl
  | k + 1, a => by
    rw [List.range'_succ]
    simp only [apartB, Bool.and_eq_true]
    refine ⟨?_, apart_range k (a + 1)⟩
    grind [Nat.eq_of_beq_eq_true]
/-- asT, of chunks laid out. -/
def asK (b m : Nat) (e : SE) (M : List Ch) (m' : Nat) (e' : SE) (L' : List Ch) : Option (SE × List Ch) := match Nat.ble b m', Nat.ble m' m with
  | true, true => match reE e e' with
    | some s => match okE m' s, okL m' (reL L' M) with
      | true, true => some (s, reL L' M)
      | _, _ => none
    | none => none
  | _, _ => none
theorem asK_eq {b m : Nat} {e : SE} {M : List Ch} {m' : Nat} {e' : SE} {L' : List Ch} : asT b m e M (List.range' 0 M.length) m' e' L' = asK b m e M m' e' L' := by
  have := kl_all M []
  grind [asT, asK, asS, apart_range]
theorem jnF {π υ : Type} {js : List Nat} {xs : List Ch} {eq : π → Prop} {mj : Nat} {ej : π → υ → SE} {Lj : π → υ → List Ch} {p : π} (u : υ) (is : List Nat) (k : Nat) (hF : eq p) (hk : L.length = k) (hn : (is.all fun j => notIn j js) = true) (ha : apartB is = true) (h : asK B0.length m e (kf L xs k is) mj (ej p u) (Lj p u) = some (ej p u, Lj p u)) : ∀ a w, RelN n c B0 m e (blk L js ++ xs) a w → JP n c B0 eq mj ej Lj a w := fun a w hr => by
  obtain ⟨B, h1, h2, h3⟩ := hr
  have h4 := kl_sel h3 is ha
  rw [kf_eq hk hn] at h4
  refine ⟨p, u, hF, RelN.asT (f := ej p u) (M := Lj p u) (⟨B, h1, h2, h4⟩ : RelN n c B0 m e (kf L xs k is) a w) (List.range' 0 (kf L xs k is).length) ?_⟩
  grind [asK_eq]
end
end Go.Gv
end
section
/-
  Bytes of ours as a string where the order is drawn: the one operation that is ready. Nothing of a program here.
-/
set_option linter.unusedVariables false
namespace Go.Gv
section
variable {P : Program} {T : TT} {hT : TOk P T} {n : Nat} {c : Ctx} {B0 : Bl} {N : Act → World → Prop} {X : Nat → Act → World → Prop} {Q : Act → World → Prop} {K K' : List Fr} {m m' : Nat} {e e' : SE} {L L' Lv : List Ch} {cf cf2 : Cfg} {o : Oper} {d : Nat}
variable {x : Operand} {t t2 el : Nat} {b1 b2 b3 : Bool} {n1 n2 n3 : Nat} {z1 z2 z3 : List SV}
theorem qbd (p i : Nat) {B1 : Bl} {ops : Array Oper} {lb : List Bool} {is : List Nat} {Lf Lw : List Ch} {s : AC} {l : List UInt8} (hs : stq T n K cf m e L = .opp o Lv (.d B1 ops lb is Lf Lw) cf2 K' m' e' L') (ho : (o.op, o.dst) = (.convert t t2 x, some d)) (ht : lkT T t = some ⟨.sl el, b1, n1, z1⟩) (he : lkT T el = some ⟨.i .u8, b2, n2, z2⟩) (h2 : lkT T t2 = some ⟨.s, b3, n3, z3⟩)
    (hra : readyA lb ops.toList 0 = [i]) (hoi : ops.toList[i]? = some o) (hg : guardS ops e' o.guard = .yes) (hc : cf2 = .d B1 ops (lb.set i true) is Lf Lw) (hp : L'[p]? = some (ow s l)) (hx : evS e' x = some (.h s l.length))
    (kk : G (.mk P T hT n c B0 N X Q) K' m' ((d, .s l) :: e') L' cf2) : G (.mk P T hT n c B0 N X Q) K m e L cf := by
  refine stq_ok (g := .mk P T hT n c B0 N X Q) ?_
  rw [hs]
  intro hdn _
  have hd : o.dst = some d := congrArg Prod.snd ho
  refine d_alt hra fun k hk => ?_
  rw [List.mem_singleton.1 hk]
  subst hc
  refine estep_o hoi hg Unit (fun _ => m') (fun _ => (d, .s l) :: e') (fun _ => L') (fun _ => ?_) (fun B a w next Q' hm hA hS hnext => ?_) (fun _ => kk)
  · have := frz_app (g := .mk P T hT n c B0 N X Q) (cf := .o B1 ops lb is Lf Lw i) (L := L') []
    grind
  · have hS' := hS
    obtain ⟨⟨R, s1, s2⟩, s0⟩ := hS'
    have hr := s1.rdOwn (cs := [s.v l.length]) (d := l) p (by simp [hp, chd])
    obtain ⟨de, q1, q2⟩ := hT.und _ _ he
    have k1 := rv_b2s (e := vE (B0S (.mk P T hT n c B0 N X Q) (.o B1 ops lb is Lf Lw i) ++ B) e') hr (undL ht hT) (by grind) (undS h2 hT) (congrArg Prod.fst ho) (hdB hA hx)
    unfold Oper.wp
    rw [k1 _ a hA.env, Oper.upon_value, hd]
    exact hnext () _ _ ⟨[], by grind, by simpa using hA.of rfl (hA.env.put (by grind [dstOk, Nat.blt_eq]) _), by grind⟩
end
end Go.Gv
end
section
/-
  Functions handed to what writes; slices.Compact by the kit's contract. Nothing of a program here.
-/
set_option linter.unusedVariables false
namespace Go.Gv
section
variable {P : Program} {T : TT} {hT : TOk P T} {n : Nat} {c : Ctx} {B0 : Bl} {N : Act → World → Prop} {X : Nat → Act → World → Prop} {Q : Act → World → Prop} {K K' : List Fr} {m m' : Nat} {e e' : SE} {L L' Lv : List Ch} {cf cf' cf1 cf2 : Cfg} {o : Oper}
theorem mapO_app {α β : Type} {f : α → Option β} : ∀ {xs ys : List α} {vs : List β}, mapO f (xs ++ ys) = some vs → ∃ v1 v2, mapO f xs = some v1 ∧ mapO f ys = some v2 ∧ vs = v1 ++ v2
  | [], ys, vs, h => ⟨[], vs, rfl, h, rfl⟩
  | x :: xs, ys, vs, h => by
    simp only [List.cons_append, mapO] at h
    split at h
    · cases h
    · rename_i h1
      split at h
      · cases h
      · rename_i h2
        cases h
        obtain ⟨v1, v2, q1, q2, rfl⟩ := mapO_app h2
        grind [mapO]
theorem app_mapO {α β : Type} {f : α → Option β} : ∀ {xs ys : List α} {v1 v2 : List β}, mapO f xs = some v1 → mapO f ys = some v2 → mapO f (xs ++ ys) = some (v1 ++ v2)
  | [], ys, v1, v2, h1, h2 => by cases h1; exact h2
  | x :: xs, ys, v1, v2, h1, h2 => by
    simp only [mapO] at h1
    split at h1
    · cases h1
    · rename_i g1
      split at h1
      · cases h1
      · rename_i g2
        cases h1
        simp [mapO, g1, app_mapO g2 h2]
/-- A function of no captured boxes, in any context. -/
theorem fuV1 {α β : Type} {iR : Rep α} {C : Cel α} {sr : β → SV} {g : FuncId} {κ : Ctx} {p : α → Option β} (hc : ∀ args w, (callFunc g args).run P w = .ok (.enter g args) w) (hn : ∀ {κ : Ctx} {x y}, C.sub κ.S0 κ.w0 x y → V0 P κ g (p x) [C.sv x y] sr) : Fu1 P κ C sr g [] p :=
  ⟨hc, fun w1 _ x y hy q hq v hv => by
    refine Calls.mono ((hn (κ := cxAll w1) hy _ hq).run [v] (by simp [mapO, hv]) (stS0 w1)) fun en w' ⟨v', h1, y, h2, h3⟩ => ⟨v', h1, h2, h3⟩⟩
/-- A function of one captured box that what is written leaves alone. -/
theorem fkV1 {α β : Type} {iR : Rep α} {C : Cel α} {sr : β → SV} {g : FuncId} {κ : Ctx} {b1 : Nat × Nat} {c1 : List SV} {p : α → Option β} (hc : ∀ args w, (callFunc g args).run P w = .ok (.enter g args) w) (hB : ∀ w1, Keep κ.W κ.w0 w1 → StS (cxAll w1) w1 [b1] [.ro 0 c1])
    (hn : ∀ {w1 x y}, C.sub (All w1) w1 x y → VS P (cxAll w1) g (p x) [C.sv x y, .p 0 0] [b1] [.ro 0 c1] (fun r (_ : Unit) => sr r) (fun _ _ => [])) (hz : ∀ q, okN 0 (sr q) = true := by exact fun _ => rfl) : Fu1 P κ C sr g (capB [b1]) p :=
  ⟨hc, fun w1 hk x y hy q hq v hv => by
    have hv' : toV [b1] (C.sv x y) = some v := by simpa using toV_app (B := []) [b1] hv
    have hl : toV [b1] (.p 0 0) = some (.pointer (some ⟨b1.1, b1.2, none⟩)) := by simp [toV, gV, cellV]
    refine Calls.mono ((hn hy _ hq).run (v :: capB [b1]) (by grind [mapO, capB]) (hB w1 hk)) fun en w' ⟨v', h1, y', h2, h3⟩ => ⟨v', h1, ?_, ?_⟩
    · grind [take0]
    · simpa using take_ok (m := 0) h3 rfl⟩
/-- A call that writes into what is handed in, and is handed a function with one captured box. -/
theorem cwF1 {α β ex : Type} {fo : Option α} {kf : α → Option β} {q : β} {d : Option Nat} {f g : FuncId} {xs xs0 : List SV} {M : List Ch} {sv : α → ex → SV} {Lr : α → ex → List Ch} {n1 : Nat} {c1 : List SV} (jc : Nat) (is : List Nat)
    (hs : cpS (stq T n K cf m e L) = some (o, d, f, xs, cf1, cf2, K', m', e', L')) (hro : L'[jc]? = some (.ro n1 c1)) (hi : mapO (fun i => L'[i]?) is = some M) (hxl : xs = xs.dropLast ++ [.f g [n1]]) (hx : mapO (rnP [] 0) xs.dropLast = some xs0)
    (hk : (okN.okC 0 c1 && (allO M && (apartB is && is.all fun j => notIn j cf1.frz))) = true)
    (hc : ∀ {κ : Ctx}, HG c κ L' is → ∀ {b1 : Nat × Nat}, (∀ w1, Keep κ.W κ.w0 w1 → StS (cxAll w1) w1 [b1] [.ro 0 c1]) → VS P κ f fo (xs0 ++ [.k (.func (.func g) #[] (capB [b1]).toArray)]) [] M sv Lr)
    (k : ∀ x, ∀ y : ex, W (G (.mk P T hT n c B0 N X Q) K' m' (dse d (sv x y) e') (blk L' is ++ Lr x y) cf2) q (kf x)) (hn : ∀ x y, (allO (Lr x y) && okN 0 (sv x y)) = true := by exact fun _ _ => rfl) : W (G (.mk P T hT n c B0 N X Q) K m e L cf) q (fo.bind kf) := fun hF => by
  refine stq_ok (g := .mk P T hT n c B0 N X Q) (cpS_ok hs ?_)
  intro fo' args ats ho hd hf ⟨ys, hys, hxs⟩ hdn hE
  simp only [Bool.and_eq_true] at hk hn
  obtain ⟨hk1, hkM, hka, hkz⟩ := hk
  cases hfo : fo with
  | none => grind
  | some x =>
    rw [hfo] at hF
    refine hE ex (fun _ => m') (fun y => dse d (sv x y) e') (fun y => blk L' is ++ Lr x y) (fun y => frz_blk _ hkz) (fun B a w next Q' hm hA hS hnext => ?_) (fun y => k x y hF)
    generalize hBB : B0S (.mk P T hT n c B0 N X Q) cf1 ++ B = BB at hm hA hS hnext
    obtain ⟨⟨R, s1, s2⟩, s0⟩ := hS
    have f1 := s1.front is hka
    rw [pick_kl hi] at f1
    obtain ⟨κ, k1, k2, k3, k4, k5, k6, k7⟩ := f1.giveF s0
    subst k1
    have hHG : HG c κ L' is := by
      refine ⟨fun {α} _ {s d} h => k4 (fRd [s.v d.length] d) h, fun {α} _ {s d} i hi hj => ?_, fun {α} _ {s d} i hi => k5 _ (s2 _ (List.mem_of_getElem? hi))⟩
      have : (blank (L'.map (chd BB)) is)[i]? = some (cOwn [s.v d.length] d) := by
        rw [blank_get (notIn_all hj), List.getElem?_map, hi]; rfl
      exact k6 _ (List.mem_of_getElem? this) (fRd [s.v d.length] d) fun w F h => Rep.own_rd h
    obtain ⟨b, z, vs1, g1, g2, g3⟩ := s2 _ (List.mem_of_getElem? hro)
    have hc0 := okC_map hk1 g2
    rw [List.take_zero] at hc0
    have hB : ∀ w1, Keep κ.W κ.w0 w1 → StS (cxAll w1) w1 [(b, z)] [.ro 0 c1] := fun w1 hkp => by
      have h1 := k5 _ g3
      have h2 : (fAt b z vs1).P κ.S0 w1 := (fAt b z vs1).agree h1 fun b' o' hS => hkp.cell b' o' (k2 b' o' hS) fun hw => k3.apart b' o' hw hS
      have h3 : (fAt b z vs1).P (All w1) w1 := (fAt b z vs1).mono h2 fun b' o' hS => Nat.lt_of_lt_of_le (k2 b' o' hS) hkp.size
      have h4 : St (cxAll w1) w1 [] [fAt b z vs1] := St.enter (by grind)
      refine ⟨⟨[fAt b z vs1], St.more (ch := cNo) h4 (Keep.refl _ _) ⟨F0, fun _ _ h => h, fun _ _ h => h.elim⟩, fun x hx => ?_⟩, fun _ _ h => h⟩
      simp at hx; subst hx
      exact ⟨b, z, vs1, by simp, mapO_mono (fun x v h => by simpa using cellV_app (B := []) _ h) hc0, by simp⟩
    obtain ⟨hcall, hrun⟩ := hc hHG hB x hfo
    obtain ⟨vs, h1, h2⟩ := evs_S hA hys
    obtain ⟨v, h3, h4⟩ := evS_ok hA hf
    simp [toV, mapO] at h3
    subst h3
    have h1' : mapO (toV BB) xs = some vs := by grind [nbA_toV]
    have hvs : mapO (toV []) (xs0 ++ [.k (.func (.func g) #[] (capB [(b, z)]).toArray)]) = some vs := by
      rw [hxl] at h1'
      obtain ⟨va, vb, q1, q2, rfl⟩ := mapO_app h1'
      have q3 := rnP_map (Bs := []) (ps := []) (ds := []) (pv := []) (L := L') (B := BB) trivial (fun i => by simp [blP]) hx q1
      simp only [mapO, toV, gV, capV, g1] at q2
      cases q2
      exact app_mapO q3 (by simp [mapO, toV, gV, cellV, capB]; rfl)
    have hst : StS κ κ.w0 [] M := by
      refine ⟨⟨[], ?_, fun x hx => ?_⟩, k2⟩
      · rw [allO_map (B' := BB) hkM]; exact k3
      · exact allO_mem hkM x hx
    have h5 := hrun vs hvs hst
    have h6 := rc_call' (w := κ.w0) hcall ho h4 h2
    unfold Oper.wp
    rw [h6 _ a hA.env, Oper.upon_enter]
    refine Calls.mono h5 fun en w' ⟨v, hv, y, g1, g2⟩ => ?_
    subst hv
    obtain ⟨n3, n4⟩ := hn x y
    have g3 := toV_app BB (take0 n4 g1)
    rw [List.nil_append] at g3
    obtain ⟨⟨R', t1, t2⟩, t0⟩ := g2
    have t3 : St κ w' ((Lr x y).map (chd BB)) R' := by grind [allO_map]
    have t4 := k7 w' _ R' t3
    have t6 : StS c w' BB (blk L' is ++ Lr x y) := by
      refine ⟨⟨R, ?_, fun z hz => ?_⟩, s0⟩
      · rw [List.map_append, blk_map]
        exact t4.rot
      · rcases List.mem_append.1 hz with hz | hz
        · rcases blk_mem _ _ hz with hz | hz
          · grind
          · subst hz; trivial
        grind [allO_mem]
    rw [hd]
    cases d with
    | none => exact hnext y _ _ ⟨[], by grind, by grind [dse, Act.put], by grind⟩
    | some d => exact hnext y _ _ ⟨[], by grind, by simpa [dse] using hA.of g3 (hA.env.put (by grind [dstOk, Nat.blt_eq]) v), by grind⟩
/-- A call that hands back parts of what it is handed. -/
theorem paW {α β : Type} {p : Prop} [Decidable p] {v : α} {F : Option β} {q : β} {sv : α → SV} {d : Nat} {f : FuncId} {xs : List SV} (hs : stq T n K cf m e L = .call o (some d) f xs cf1 cf2 K' m' e' L')
    (hc : ∀ {w}, HS c w L' → V0 P (cxAll w) f (need p (some v)) xs sv) (k : p → W (G (.mk P T hT n c B0 N X Q) K' m' ((d, sv v) :: e') L' cf2) q F) : W (G (.mk P T hT n c B0 N X Q) K m e L cf) q (need p F) := fun hF => by
  obtain ⟨hp, hF⟩ := needE hF
  have h0 : need p (some v) = some v := by simp [need, hp]
  exact cl0 (fo := need p (some v)) (kf := fun _ => F) hs (fun h _ hx => hc h _ hx) (by rw [h0]; exact hF) (fun x hx h => by rw [h0] at hx; cases hx; exact k hp h)
theorem parH {j : Int} {n : Nat} (h : 0 ≤ j ∧ j ≤ (n : Int)) : 0 ≤ j.toNat ∧ j.toNat ≤ n := by omega
/-- All that is held, to be looked at alone. -/
def roA : List Ch → List Ch
  | [] => []
  | .box n cs :: L => .ro n cs :: roA L
  | .ro n cs :: L => .ro n cs :: roA L
  | _ :: L => .no :: roA L
theorem roA_mem {x : Ch} : ∀ {L : List Ch}, x ∈ roA L → x = .no ∨ ∃ n cs, x = .ro n cs ∧ (.box n cs ∈ L ∨ .ro n cs ∈ L)
  | [], h => by cases h
  | y :: L, h => by
    have ih : x ∈ roA L → x = .no ∨ ∃ n cs, x = .ro n cs ∧ (.box n cs ∈ y :: L ∨ .ro n cs ∈ y :: L) := fun h => by
      rcases roA_mem h with h | ⟨n, cs, h1, h2⟩
      · exact .inl h
      · exact .inr ⟨n, cs, h1, h2.imp (List.mem_cons_of_mem _) (List.mem_cons_of_mem _)⟩
    cases y <;> simp only [roA, List.mem_cons] at h <;> rcases h with h | h
    all_goals first
      | exact ih h
      | exact .inl h
      | exact .inr ⟨_, _, h, by simp⟩
theorem roA_st {w : World} {B : Bl} (hS : StS c w B L) : StS (cxAll w) w B (roA L) := by
  obtain ⟨⟨R, s1, s2⟩, s0⟩ := hS
  have facts : ∀ x ∈ roA L, ∃ (f : Fact), f.P (All w) w ∧ (∀ R', f ∈ R' → roF B R' x) ∧ chd B x = cNo := by
    intro x hx
    rcases roA_mem hx with rfl | ⟨n, cs, rfl, h | h⟩
    · exact ⟨fRd [.slice none 0 0] ([] : List Int), ⟨none, 0, rfl, Nat.le_refl _, Nat.zero_le _, .inl rfl⟩, fun _ _ => trivial, rfl⟩
    · obtain ⟨i, hi⟩ := List.getElem?_of_mem h
      obtain ⟨F, b, z, vs, g1, g2, g3⟩ := s1.chunk (ch := boxC B n cs) i (by simp [hi, chd])
      refine ⟨fAt b z vs, ⟨g3.1, fun o ho => ?_⟩, fun R' hR => ⟨b, z, vs, g1, g2, hR⟩, rfl⟩
      have hf : F b o := (g3.2.2 b o).2 ho
      exact Chunk.lt (cAt b z vs) g3 hf
    · obtain ⟨b, z, vs, g1, g2, g3⟩ := s2 _ h
      obtain ⟨i, hi⟩ := List.getElem?_of_mem g3
      exact ⟨fAt b z vs, s1.fact i hi, fun R' hR => ⟨b, z, vs, g1, g2, hR⟩, rfl⟩
  have build : ∀ M : List Ch, (∀ x ∈ M, x ∈ roA L) → ∃ R' : List Fact, (∀ f ∈ R', f.P (All w) w) ∧ (∀ x ∈ M, roF B R' x) ∧ M.map (chd B) = List.replicate M.length cNo := by
    intro M
    induction M with
    | nil => exact fun _ => ⟨[], by simp, by simp, rfl⟩
    | cons x M ih =>
      intro hM
      obtain ⟨R', h1, h2, h3⟩ := ih fun y hy => hM y (List.mem_cons_of_mem _ hy)
      obtain ⟨f, f1, f2, f3⟩ := facts x (hM x (by simp))
      refine ⟨f :: R', fun g hg => ?_, fun y hy => ?_, by simp [f3, h3, List.replicate_succ]⟩
      · rcases List.mem_cons.1 hg with hg | hg
        · subst hg; exact f1
        · exact h1 g hg
      · rcases List.mem_cons.1 hy with hy | hy
        · subst hy; exact f2 _ (by simp)
        · exact roF_mono (fun g hg => List.mem_cons_of_mem _ hg) (h2 y hy)
  obtain ⟨R', h1, h2, h3⟩ := build (roA L) fun _ h => h
  refine ⟨⟨R', ?_, h2⟩, fun _ _ h => h⟩
  rw [h3]
  have h4 : St (cxAll w) w [] R' := St.enter h1
  generalize (roA L).length = k
  induction k with
  | zero => exact h4
  | succ k ih =>
    rw [List.replicate_succ']
    exact St.more (ch := cNo) ih (Keep.refl _ _) ⟨F0, fun _ _ h => h, fun _ _ h => h.elim⟩
theorem NX_ctx {c2 : Ctx} {B2 : Bl} {N1 : Act → World → Prop} {Kb : List Fr} (hN : ∀ a w, N1 a w → NK (.mk P T hT n c2 B2 N X Q) Kb a w) : ∀ (Ka : List Fr), (∀ a w, NK (.mk P T hT n c B0 N1 (fun _ _ _ => False) (fun _ _ => False)) Ka a w → NK (.mk P T hT n c2 B2 N X Q) (Ka ++ Kb) a w) ∧ (∀ i a w, XK (.mk P T hT n c B0 N1 (fun _ _ _ => False) (fun _ _ => False)) Ka i a w → XK (.mk P T hT n c2 B2 N X Q) (Ka ++ Kb) i a w)
  | [] => ⟨hN, fun _ _ _ h => h.elim⟩
  | .s y :: Ka => by
    obtain ⟨h1, h2⟩ := NX_ctx hN Ka
    exact ⟨fun a w h => CW.mono (show CW P y (NK (.mk P T hT n c B0 N1 (fun _ _ _ => False) (fun _ _ => False)) Ka) (XK (.mk P T hT n c B0 N1 (fun _ _ _ => False) (fun _ _ => False)) Ka) (fun _ _ => False) a w from h) h1 h2 (fun _ _ h => h.elim), h2⟩
  | .k id :: Ka => by
    obtain ⟨h1, h2⟩ := NX_ctx hN Ka
    refine ⟨h1, fun i a w h => ?_⟩
    simp only [XK, xcons, List.cons_append] at h ⊢
    grind
/-- A condition that is looked at alone, whatever it looks at: what is ours is read like what others hold. -/
theorem cutR {β : Type} {q : β} {zz : Option β} {y : Code} (j : Nat) (Fj : Bool → Option β) (ks : List Nat) (v : Nat) (hs : cfgS (stq T n K cf m e L) = some (K', .c y, m', e', L'))
    (k1 : ∀ {w : World} {B1 : Bl}, B1.length = m' → HS c w L' → W (G (.mk P T hT n (cxAll w) B1 (JP n (cxAll w) B1 (fun p => Fj p = some q) m' (fun p (_ : Unit) => [(v, .b p)] ++ kp e' ks) (fun _ _ => [])) (fun _ _ _ => False) (fun _ _ => False)) (K'.take j) m' e' (roA L') (.c y)) q zz)
    (k2 : ∀ p, W (G (.mk P T hT n c B0 N X Q) (K'.drop j) m' ([(v, .b p)] ++ kp e' ks) L' .n) q (Fj p)) : W (G (.mk P T hT n c B0 N X Q) K m e L cf) q zz := fun hF => by
  refine go hs ?_
  rw [← List.take_append_drop j K']
  intro a w ⟨B, hm, hA, hS⟩
  have hg := k1 (w := w) (B1 := B0 ++ B) hm ⟨_, hS⟩ hF a w ⟨[], by grind, by grind, by grind [roA_st]⟩
  have hN : ∀ a' w', JP n (cxAll w) (B0 ++ B) (fun p => Fj p = some q) m' (fun p (_ : Unit) => [(v, .b p)] ++ kp e' ks) (fun _ _ => []) a' w' → NK (.mk P T hT n c B0 N X Q) (K'.drop j) a' w' := fun a' w' ⟨p, u, h1, B', hm', hA', hS'⟩ => by
    have hB : B' = [] := by
      have : (B0 ++ B ++ B').length = (B0 ++ B).length := hm'.trans hm.symm
      rw [List.length_append (bs := B')] at this
      grind
    subst hB
    rw [List.append_nil] at hA'
    obtain ⟨⟨R', s1, _⟩, _⟩ := hS'
    exact k2 p h1 a' w' ⟨B, hm, hA', hS.keepF0 s1.keep⟩
  obtain ⟨h1, h2⟩ := NX_ctx (c := cxAll w) (B0 := B0 ++ B) (c2 := c) (B2 := B0) (N := N) (X := X) (T := T) (hT := hT) (n := n) (P := P) (Kb := K'.drop j) (N1 := JP n (cxAll w) (B0 ++ B) (fun p => Fj p = some q) m' (fun p (_ : Unit) => [(v, .b p)] ++ kp e' ks) (fun _ _ => [])) (Q := Q) hN (K'.take j)
  exact CW.mono hg h1 h2 (fun _ _ h => h.elim)
theorem jnV {π υ α : Type} {eq : π → Prop} {mj b0 : Nat} {ej : π → υ → SE} {Lj : π → υ → List Ch} {p : π} {q : α} {zz : Option α} (hb : B0.length = b0) (u : υ) (is : List Nat) (hz : (zz = some q) = eq p) (h : finQ is b0 mj (ej p u) (Lj p u) (stq T n K cf m e L) = some (ej p u, Lj p u)) : W (G (.mk P T hT n c B0 (JP n c B0 eq mj ej Lj) X Q) K m e L cf) q zz := by
  subst hb; exact jnW u is hz h
end
end Go.Gv
end
section
set_option linter.unusedVariables false
namespace Go.Gv
open Go Go.RowKit
section
variable {F : Fence} {n : Nat} {P : Program}
/-- How a round's body ends here: it goes on, or it returns. -/
def rfE {α : Type} (B n₀ : Nat) (I Ix : List α → World → Prop) (xs : List α) (W : World) : Exit → Act → World → Prop
  | .normal, _, W' => KeepsFrom B W W' ∧ Below n₀ W W' ∧ I xs W'
  | .ret, _, W' => KeepsFrom B W W' ∧ Ix xs W'
  | _, _, _ => False
/-- A range over an iterator whose loop variable is laid in memory in every round. -/
theorem wpIn_rfA {α : Type} {g : Operand} {ps : Array Tmp} {assign body : Code} {Q : Exit → Act → World → Prop} {a : Act} {w w0 : World} {gf n₀ N : Nat} {lb : Array Value} {encs : α → Array Value} {S Sp : List α → Prop}
    (hro : F.round = none) (h1 : 1 ≤ n) (hg : a.eval g = .func (.func gf) #[] lb) (hf : F.fn gf) (eg : ∀ args w, (callFunc gf args).run P w = .ok (.enter gf args) w)
    (hseq : SeqStopsK F (n - 1) P gf lb encs (Below n₀) S Sp N w0) (hn : n₀ ≤ w.heap.size) (hb0 : Below w0.heap.size w0 w) (hps : ∀ x, (encs x).size = ps.size)
    (I Ix : List α → World → Prop) (I2 : List α → α → Act → World → Prop) (hI : OwnFrom w.heap.size I) (hIx : OwnFrom w.heap.size Ix) (hI2 : ∀ x a1, OwnFrom w.heap.size fun pre W => I2 pre x a1 W) (h0 : I [] w)
    (hassign : ∀ (l : Nat) (pre : List α) (x : α) (W : World), w.heap.size ≤ W.heap.size → I pre W → pre.length < N → assign.wpIn (F.inRound l) (n - 1 - 1) P (Exit.then (fun a1 W1 => KeepsFrom w.heap.size W W1 ∧ Below n₀ W W1 ∧ I2 pre x a1 W1) (fun _ _ _ => False)) { tmps := (ps.zip (encs x)).foldl (fun t (p, v) => t.setIfInBounds p v) a.tmps, defers := [] } W)
    (hbody : ∀ (l : Nat) (pre : List α) (x : α) (a1 : Act) (W : World), I2 pre x a1 W → body.wpIn (F.inRound l) (n - 1 - 1) P (rfE w.heap.size n₀ I Ix (pre ++ [x]) W) a1 W)
    (hdone : ∀ (D : Nat) (xs : List α) (W : World), w.heap.size ≤ D → S xs → I xs W → W.heap[D]? = some (.deferred (some [])) → Q .normal { a with defers := { target := .collected D, args := #[] } :: a.defers } W)
    (hstop : ∀ (D : Nat) (pre : List α) (W : World), w.heap.size ≤ D → Sp pre → Ix pre W → W.heap[D]? = some (.deferred (some [])) → Code.ret.wpIn F n P Q { a with defers := { target := .collected D, args := #[] } :: a.defers } W) :
    (Code.rangeFunc g ps assign body).wpIn F n P Q a w := by
  refine wpIn_rangeFunc fun fn hfn => ?_
  rw [hro]
  let B := w.heap.size
  let rc : LoopState → Option Code → Loop := fun st pe => { state := st, pending := pe, fn, tmps := a.tmps, params := ps, assign, body, defers := B }
  let W1 := (w.alloc (.deferred (some []))).alloc (.loop (rc .ready none))
  have s1 : W1.heap.size = B + 2 := by simp [W1, B]
  have L1 : W1.heap[B + 1]? = some (.loop (rc .ready none)) := by
    grind [World.alloc_heap_new]
  have K1 : W1.heap[B]? = some (.deferred (some [])) := (Below.heap_alloc _ _ _ (by simp [B])).trans (World.alloc_heap_new w _)
  have b1 : Below w0.heap.size w0 W1 := hb0.trans ((((Below.refl _ w).alloc (Nat.le_refl _) _).alloc (by simp) _).mono hb0.size)
  have io : I [] W1 := hI.alloc _ (hI.alloc _ h0)
  -- the record and the block for deferred calls, in every state between two rounds
  let Bk : Loop → World → Prop := fun r W => W.heap[B + 1]? = some (.loop r) ∧ W.heap[B]? = some (.deferred (some []))
  have kept : ∀ {r : Loop} {X Y : World} {row : Option Nat}, Bk r X → X.grownBy Y row → (∀ j, row = some j → W1.heap.size ≤ j ∧ ∃ o : Obj, X.heap[j]? = some o ∧ o.isWalk = true) → Bk r Y := fun h hg hr =>
    ⟨(hg.block _ (Array.getElem?_eq_some_iff.1 h.1).1 fun e => by grind).trans h.1, (hg.block _ (Array.getElem?_eq_some_iff.1 h.2).1 fun e => by grind).trans h.2⟩
  have far : ∀ {X : World} {row : Option Nat}, (∀ j, row = some j → W1.heap.size ≤ j ∧ ∃ o : Obj, X.heap[j]? = some o ∧ o.isWalk = true) → ∀ j, row = some j → B ≤ j ∧ ∃ o : Obj, X.heap[j]? = some o ∧ o.isCells = false := fun hr j e => by
    grind [Obj.not_cells_of_walk]
  have put : ∀ {r r' : Loop} {X : World}, Bk r X → Bk r' (X.putObj (B + 1) (.loop r')) := fun h => ⟨World.putObj_heap_same (Array.getElem?_eq_some_iff.1 h.1).1, (World.putObj_heap_other (by omega)).trans h.2⟩
  have blo : ∀ {r r' : Loop} {X : World}, Bk r X → Below n₀ X (X.putObj (B + 1) (.loop r')) := fun h => belowK_b (w := w) hn _ _ _ _ (by omega) h.1 rfl rfl
  refine ⟨B + 1, [{ target := .collected B, args := #[] }], W1, { target := .fn (.func gf) lb, args := #[.func (.yield (B + 1)) #[] #[]] }, W1, gf, #[.func (.yield (B + 1)) #[] #[]] ++ lb, W1, run_enterLoop_outer _ _ _ _ _, ?_, ?_, ?_, fun _ => h1, ?_⟩
  · simp only [resolve, hg]
    simp [go_sem]
  · grind [Target.leads]
  · grind [invoke]
  refine (hseq (B + 1) (fun pre W => I pre W ∧ Bk (rc .ready none) W) (fun pre W => Ix pre W ∧ Bk (rc .done (some .ret)) W) W1 b1 (fun s X Y row h hg hr => ⟨hI s X Y row h.1 hg (far hr), kept h.2 hg hr⟩) (fun s X Y row h hg hr => ⟨hIx s X Y row h.1 hg (far hr), kept h.2 hg hr⟩) ?_ ⟨io, L1, K1⟩).mono ?_
  · rintro pre x W ⟨hi, hb⟩ hl
    have hsz : B ≤ W.heap.size := by grind
    refine ⟨fn, _, assign, body, run_yield (P := P) (args := encs x) hb.1 (hps x), roundIn_of_wpIn hfn (wpIn_mono (hassign _ pre x W hsz hi hl) ?_)⟩
    rintro e a1 W2 he
    cases e with
    | normal =>
      obtain ⟨k2, q2, i2⟩ := he
      have hb2 : Bk (rc .ready none) W2 := ⟨k2.same _ _ (by omega) hb.1 rfl, k2.same _ _ (Nat.le_refl _) hb.2 rfl⟩
      refine ⟨_, run_beginRound hb2.1 rfl, wpIn_mono (hbody _ pre x a1 _ ((hI2 x a1).putObj _ i2 (by omega) hb2.1 rfl)) ?_⟩
      have hb3 : Bk (rc .busy none) (W2.putObj (B + 1) (.loop (rc .busy none))) := put hb2
      rintro e a3 W3 hp
      cases e with
      | normal =>
        obtain ⟨k3, q3, i3⟩ := hp
        have hb4 : Bk (rc .busy none) W3 := ⟨k3.same _ _ (by omega) hb3.1 rfl, k3.same _ _ (Nat.le_refl _) hb3.2 rfl⟩
        exact ⟨_, _, run_endRound (P := P) none hb4.1, .inl ⟨rfl, ⟨hI.putObj _ i3 (by omega) hb4.1 rfl, put hb4⟩, ((q2.trans (blo hb2)).trans q3).trans (blo hb4)⟩⟩
      | ret =>
        obtain ⟨k3, i3⟩ := hp
        have hb4 : Bk (rc .busy none) W3 := ⟨k3.same _ _ (by omega) hb3.1 rfl, k3.same _ _ (Nat.le_refl _) hb3.2 rfl⟩
        exact ⟨_, _, run_endRound (P := P) (some .ret) hb4.1, .inr ⟨rfl, hIx.putObj _ i3 (by omega) hb4.1 rfl, put hb4⟩⟩
      | _ => exact hp.elim
    | _ => exact he.elim
  · rintro e W2 ⟨⟨v, rfl⟩, (⟨xs, hS, hi, hb⟩ | ⟨pre, hS, hi, hb⟩)⟩
    · exact ⟨none, _, run_endLoop (P := P) hb.1 (by simp [rc]), hdone B xs _ (Nat.le_refl _) hS (hI.putObj _ hi (by omega) hb.1 rfl) ((World.putObj_heap_other (by omega)).trans hb.2)⟩
    · exact ⟨some .ret, _, run_endLoop (P := P) hb.1 (by simp [rc]), hstop B pre _ (Nat.le_refl _) hS (hIx.putObj _ hi (by omega) hb.1 rfl) ((World.putObj_heap_other (by omega)).trans hb.2)⟩
end
theorem putObj_self {W : World} {B : Nat} {o : Obj} (h : W.heap[B]? = some o) : W.putObj B o = W := by
  unfold World.putObj
  obtain ⟨hlt, he⟩ := Array.getElem?_eq_some_iff.1 h
  have : W.heap.setIfInBounds B o = W.heap := by
    grind
  rw [this]
theorem putObj_putObj (W : World) (B : Nat) (o o' : Obj) : (W.putObj B o).putObj B o' = W.putObj B o' := by
  simp [World.putObj]
theorem setCell_put {W : World} {B j : Nat} {v : Value} {cs : Array Value} {t : TypeId} {f : Nat × Nat} (h : W.heap[B]? = some (.cells cs t f)) : W.setCell ⟨B, j, none⟩ v = W.putObj B (.cells (cs.setIfInBounds j v) t f) := by
  unfold World.setCell World.putObj
  obtain ⟨hlt, he⟩ := Array.getElem?_eq_some_iff.1 h
  congr 1
  grind
theorem run_sc (P : Program) {B : Nat} {t : TypeId} : ∀ (vs qs ps : List Value) (W : World), W.heap[B]? = some (.cells (ps ++ qs).toArray t (0, 0)) → vs.length = qs.length → (∀ v ∈ vs, v.oneCell' = true) →
    (storeCells ⟨B, 0, none⟩ vs ps.length).run P W = .ok () (W.putObj B (.cells (ps ++ vs).toArray t (0, 0)))
  | [], [], ps, W, h, _, _ => by rw [putObj_self h]; rfl
  | v :: vs, q :: qs, ps, W, h, hl, h1 => by
    have hadd : (⟨B, 0, none⟩ : Addr).add ps.length = ⟨B, ps.length, none⟩ := by grind [Addr.add]
    have hs : W.cell? ⟨B, ps.length, none⟩ = some q := by grind [World.cell?]
    have hf : W.frozen? ⟨B, ps.length, none⟩ = false := by grind [World.frozen?]
    have hp : W.setCell ⟨B, ps.length, none⟩ v = W.putObj B (.cells ((ps ++ [v]) ++ qs).toArray t (0, 0)) := by
      rw [setCell_put h]
      simp
    have hlt := (Array.getElem?_eq_some_iff.1 h).1
    have ih := run_sc P vs qs (ps ++ [v]) (W.putObj B (.cells ((ps ++ [v]) ++ qs).toArray t (0, 0))) (World.putObj_heap_same hlt) (by grind) (fun v h => h1 v (List.mem_cons_of_mem _ h))
    simp_all [run_store, storeCells, putObj_putObj]
theorem alloc_put (W : World) (o o' : Obj) : (W.alloc o).putObj W.heap.size o' = W.alloc o' := by
  unfold World.putObj World.alloc
  congr 1
  grind
theorem put7 {W : World} {B : Nat} {t : TypeId} {f : Nat × Nat} {u0 u1 u2 u3 u4 u5 u6 : Value} (v0 v1 v2 v3 v4 v5 v6 : Value) (h : W.heap[B]? = some (.cells #[u0, u1, u2, u3, u4, u5, u6] t f)) :
    ((((((W.setCell ⟨B, 0, none⟩ v0).setCell ⟨B, 1, none⟩ v1).setCell ⟨B, 2, none⟩ v2).setCell ⟨B, 3, none⟩ v3).setCell ⟨B, 4, none⟩ v4).setCell ⟨B, 5, none⟩ v5).setCell ⟨B, 6, none⟩ v6 = W.putObj B (.cells #[v0, v1, v2, v3, v4, v5, v6] t f) := by
  have hlt := (Array.getElem?_eq_some_iff.1 h).1
  have n : ∀ o, (W.putObj B o).heap[B]? = some o := fun o => World.putObj_heap_same hlt
  rw [setCell_put h, setCell_put (n _), putObj_putObj, setCell_put (n _), putObj_putObj, setCell_put (n _), putObj_putObj, setCell_put (n _), putObj_putObj, setCell_put (n _), putObj_putObj, setCell_put (n _), putObj_putObj]
  rfl
theorem keep_of_below {w w' : World} (h : Below w.heap.size w w') : Keep F0 w w' where
  os := h.os
  tape := h.tape
  output := h.output
  size := h.size
  block := fun b hb _ => h.block b hb
  cell := fun b o hb _ => World.cell?_of_block (h.block b hb)
  frz := fun b o hb => World.frozen?_of_block (h.block b hb)
  stay := fun b o hs => by rw [World.cell?_of_block (a := ⟨b, o, none⟩) (h.block b (lt_of_cell hs))]; exact hs
theorem st_of_below {w w' : World} (h : Below w.heap.size w w') : St (cxAll w) w' [] [] := St.same (St.enter (by simp)) (keep_of_below h)
end Go.Gv
end
section
/-
  slices.Compact at ints, in plain Lean.
-/
set_option linter.unusedVariables false
namespace Go.Gv
/-- Of neighbours that are equal, one. -/
def cmpL (l : List Int) : List Int := l.foldl (fun a x => if a.getLast? = some x then a else a ++ [x]) []
theorem cmpL_snoc (l : List Int) (x : Int) : cmpL (l ++ [x]) = if (cmpL l).getLast? = some x then cmpL l else cmpL l ++ [x] := by
  grind [cmpL]
theorem cmpL_last : ∀ (l : List Int), (cmpL l).getLast? = l.getLast? := by
  intro l
  rcases List.eq_nil_or_concat l with rfl | ⟨l, x, rfl⟩
  · rfl
  grind [cmpL_snoc]
theorem cmpL_le (l : List Int) : (cmpL l).length ≤ l.length := by
  suffices h : ∀ (l a : List Int), (l.foldl (fun a x => if a.getLast? = some x then a else a ++ [x]) a).length ≤ a.length + l.length by
    have := h l []
    rw [List.length_nil, Nat.zero_add] at this
    exact this
  intro l
  induction l with
  | nil => simp
  | cons x l ih =>
    grind
def slices_Compact_int (s : List Int) : Option (List Int) := some (cmpL s)
end Go.Gv
end
section
/-
  slices.Compact by the kit's contract, as a function of ours. Nothing of a program here.
-/
set_option linter.unusedVariables false
namespace Go.Gv
theorem cmpL_eq (l : List Int) : Lib.compact l = cmpL l := by
  have h : ∀ m, m ≤ l.length → Lib.compactUpTo l.toArray m = cmpL (l.take m) := by
    intro m
    induction m with
    | zero => intro _; rfl
    | succ m ih =>
      intro hm
      have hm' : m < l.length := hm
      rw [Lib.compactUpTo_succ, ih (by omega), List.take_succ_eq_append_getElem hm', cmpL_snoc, cmpL_last]
      have e1 : l.toArray[m]! = l[m] := by simp [hm']
      have key : (Lib.keeps l.toArray m = true) ↔ ¬ (l.take m).getLast? = some l[m] := by
        cases m with
        | zero => simp [Lib.keeps]
        | succ k =>
          have e2 : l.toArray[k]! = l[k] := by grind
          rw [List.take_succ_eq_append_getElem (by omega : k < l.length), List.getLast?_concat]
          simp only [Lib.keeps, decide_eq_true_eq, e1, Nat.add_sub_cancel, e2]
          grind
      grind
  have := h l.length (Nat.le_refl _)
  rw [List.take_length] at this
  exact this
open Go.Sort in
theorem keep_putRow {w : World} {b off q : Nat} {d0 d : Array Int} (h0 : Holds (Value.int .i64) w b off d0) (hs : d.size = d0.size) : Keep (inRow b off d.size) w (putRow (Value.int .i64) (Sort.ahead w q) b off d) := by
  have hc : ∀ b' o, b' < w.heap.size → ¬ inRow b off d.size b' o → (putRow (Value.int .i64) (Sort.ahead w q) b off d).cell? ⟨b', o, none⟩ = w.cell? ⟨b', o, none⟩ := fun b' o _ hn => by
    rw [cell?_putRow_other _ _ _ _ _ _ (by
      by_cases e : b' = b
      · right
        by_cases h1 : o < off
        · grind
        · right
          by_cases h2 : o < off + d.size
          · exact absurd ⟨e, by omega, h2⟩ hn
          grind
      grind)]
    rfl
  refine ⟨rfl, rfl, rfl, by simp, fun b' hb hn => ?_, hc, fun b' o _ => by simp, fun b' o h => ?_⟩
  · show (w.heap.modify b _)[b']? = _
    rw [Array.getElem?_modify]
    split
    · rename_i e
      subst e
      have hz : d.size = 0 := by
        rcases Nat.eq_zero_or_pos d.size with h | h
        · exact h
        · exact absurd ⟨rfl, Nat.le_refl _, by omega⟩ (hn off)
      cases hh : w.heap[b]? with
      | none => rfl
      | some o =>
        cases o with
        | cells c e fr =>
          simp only [Option.map_some, onCells]
          have : putCells (Value.int .i64) off d c = c := by
            apply Array.ext_getElem?
            intro k
            simp only [putCells, Array.getElem?_mapIdx, hz]
            grind
          rw [this]
        | _ => rfl
    · rfl
  · by_cases hn : inRow b off d.size b' o
    · obtain ⟨rfl, h1, h2⟩ := hn
      have := cell?_putRow (Value.int .i64) (Sort.ahead w q) b' off d0 d h0 hs (o - off) (by omega)
      grind
    grind [lt_of_cell]
open Go.Proofs in
theorem cmpW {P : Program} {ρ : _} {κ : Ctx} (Ly : Lays2.n20 P ρ) (hcall : ∀ args w, (callFunc (ρ.f 20) args).run P w = .ok (.enter (ρ.f 20) args) w) {s : List Int} {s1 : AC} : VS P κ (ρ.f 20) (slices_Compact_int s) [.h s1 s.length] [] [ow s1 s] (fun r (y : AC) => .h y r.length) (fun r y => [ow y r]) := fun r hr => by
  cases hr
  refine ⟨hcall, fun vs hv hS => ?_⟩
  simp [mapO, toV, gV, cellV] at hv
  subst hv
  obtain ⟨⟨R, h1, h2⟩, h0⟩ := hS
  have h1 : St κ κ.w0 [cOwn [s1.v s.length] s] R := by grind [chd]
  obtain ⟨F, hF⟩ := h1.chunk 0 rfl
  have hF : Rep.own κ.w0 [s1.v s.length] s F := hF
  obtain ⟨a, cp, he, hl1, hl2, hrest⟩ := (show ownSlice κ.w0 _ s F from hF)
  obtain ⟨sa, sc⟩ := s1
  simp only [AC.v, List.cons.injEq, Value.slice.injEq, and_true, true_and] at he
  obtain ⟨rfl, rfl⟩ := he
  rcases hrest with ⟨rfl, rfl, hno⟩ | ⟨b, off, Fs, rfl, hrow, hel, hdj, hdr, hFF⟩
  · have hs : s = [] := List.eq_nil_of_length_eq_zero (by omega)
    subst hs
    refine (Any.slices_Compact_int_empty Ly none 0 κ.w0).mono ?_
    rintro e w' ⟨rfl, rfl⟩
    exact ⟨_, rfl, ⟨none, 0⟩, by grind [toV, gV, cellV, cmpL], ⟨R, by grind [cmpL], fun x hx => by simp at hx; subst hx; trivial⟩, h0⟩
  · have hn : Rep.n Int = 1 := rfl
    have hH : Sort.Holds (Value.int .i64) κ.w0 b off s.toArray := fun j hj => by
      have hj' : j < s.length := by omega
      obtain ⟨ec, c1, c2⟩ := hel j hj'
      have c3 : ec = [Value.int .i64 s[j]] := (show _ = _ ∧ _ from c2).1
      have := c1 0 (.int .i64 s[j]) (by rw [c3]; rfl)
      rw [hn, Nat.mul_one, Nat.add_zero] at this
      refine ⟨by grind, (hrow (off + j) ⟨rfl, by omega, by grind⟩).2⟩
    have hlen : (Lib.compact s).length ≤ s.length := by
      grind [cmpL_eq, cmpL_le]
    refine (Any.slices_Compact_int Ly b off sc s κ.w0 hH (Nat.le_trans hl1 (Nat.le_trans hl2 (by decide))) hl1).mono ?_
    rintro e w' ⟨rfl, q, rfl⟩
    rw [cmpL_eq] at hlen ⊢
    have hsz : (cmpL s ++ List.replicate (s.length - (cmpL s).length) 0).toArray.size = s.toArray.size := by simp; omega
    have hsa : s.toArray.size = s.length := by simp
    have hK := keep_putRow (q := q) hH hsz
    refine ⟨_, rfl, ⟨some ⟨b, off, none⟩, sc⟩, by grind [toV, gV, cellV], ⟨R, ?_, by simp [roF]⟩, h0⟩
    have := h1.turn (w' := Sort.putRow (Value.int .i64) (Sort.ahead κ.w0 q) b off (cmpL s ++ List.replicate (s.length - (cmpL s).length) 0).toArray) (ch' := cOwn [(⟨some ⟨b, off, none⟩, sc⟩ : AC).v (cmpL s).length] (cmpL s)) 0 rfl fun F2 hF2 => by
      have hF2 : Rep.own κ.w0 [_] s F2 := hF2
      obtain ⟨a', cp', he', _, _, hrest'⟩ := (show ownSlice κ.w0 _ s F2 from hF2)
      simp only [AC.v, List.cons.injEq, Value.slice.injEq, and_true, true_and] at he'
      obtain ⟨rfl, rfl⟩ := he'
      rcases hrest' with ⟨h, _⟩ | ⟨b', off', Fs', h, hrow', hel', hdj', hdr', hFF'⟩
      · cases h
      · cases h
        have hemp : ∀ i (hi : i < s.length) b' o, ¬ Fs' i b' o := fun i hi b' o h => by
          obtain ⟨ec, _, c2⟩ := hel' i hi
          exact (show _ ∧ ∀ b o, ¬ Fs' i b o from c2).2 b' o h
        refine ⟨inRow b off (sc * 1), inRow b off (cmpL s ++ List.replicate (s.length - (cmpL s).length) 0).toArray.size, hK, fun b' o h => (hFF' b' o).2 (.inl ?_), ?_, fun b' o h => .inl ((hFF' b' o).2 (.inl h))⟩
        · obtain ⟨h3, h4, h5⟩ := h
          exact ⟨h3, h4, by grind⟩
        · refine ⟨_, sc, rfl, by omega, hl2, .inr ⟨b, off, fun _ => F0, rfl, fun o ho => ?_, fun i hi => ?_, fun _ _ _ _ _ _ _ h _ => h, fun _ _ _ _ h _ => h, fun b' o => by simp [F0, hn]⟩⟩
          · have := hrow' o ho
            exact ⟨hK.stay b o this.1, (hK.frz b o (lt_of_cell this.1)).trans this.2⟩
          · refine ⟨[.int .i64 (cmpL s)[i]], fun j v hj => ?_, rfl, fun _ _ h => h⟩
            have hj0 : j = 0 := by
              grind
            subst hj0
            simp at hj; subst hj
            rw [hn, Nat.mul_one, Nat.add_zero]
            have := Sort.cell?_putRow (Value.int .i64) (Sort.ahead κ.w0 q) b off s.toArray (cmpL s ++ List.replicate (s.length - (cmpL s).length) 0).toArray hH hsz i (by omega)
            grind
    grind [chd]
end Go.Gv
end
section
/-
  A function that has captured a pointer into what is ours. Nothing of a program here.
-/
set_option linter.unusedVariables false
namespace Go.Gv
/-- A function value over blocks that none writes. -/
theorem fkP {P : Program} {α β : Type} {iR : Rep α} {C : Cel α} {sr : β → SV} {g : FuncId} {w : World} {Bs : Bl} {L0 : List Ch} {xs : List SV} {cap : List Value} {p : α → Option β} (hc : ∀ args w, (callFunc g args).run P w = .ok (.enter g args) w) (hB : ∀ w1, Keep F0 w w1 → StS (cxAll w1) w1 Bs L0) (hl : mapO (toV Bs) xs = some cap)
    (hn : ∀ {w1 x y}, Keep F0 w w1 → C.sub (All w1) w1 x y → VS P (cxAll w1) g (p x) (C.sv x y :: xs) Bs L0 (fun r (_ : Unit) => sr r) (fun _ _ => [])) (hz : ∀ q, okN 0 (sr q) = true := by exact fun _ => rfl) : Fu1 P (cxAll w) C sr g cap p :=
  ⟨hc, fun w1 hk x y hy q hq v hv => by
    have hv' : toV Bs (C.sv x y) = some v := by simpa using toV_app (B := []) Bs hv
    refine Calls.mono ((hn hk hy q hq).run (v :: cap) (by grind [mapO]) (hB w1 hk)) fun en w' ⟨v', h1, y', h2, h3⟩ => ⟨v', h1, ?_, ?_⟩
    · grind [take0]
    · simpa using take_ok (m := 0) h3 rfl⟩
theorem cap_stP {c : Ctx} {w : World} {B : Bl} {L : List Ch} {n1 n2 n3 : Nat} {c1 c3 : List SV} {b1 b2 : Nat × Nat} (hS : StS c w B L) (h1 : Ch.ro n1 c1 ∈ L) (h2 : Ch.ro n2 [.p n3 0] ∈ L) (h3 : Ch.ro n3 c3 ∈ L) (o1 : okN.okC 0 c1 = true) (o3 : okN.okC 0 c3 = true) (g1 : B[n1]? = some b1) (g2 : B[n2]? = some b2) :
    ∃ b3 : Nat × Nat, ∀ w1, Keep F0 w w1 → StS (cxAll w1) w1 [b1, b2, b3] [.ro 0 c1, .ro 1 [.p 2 0], .ro 2 c3] := by
  obtain ⟨⟨R, s1, s2⟩, s0⟩ := hS
  obtain ⟨p1, z1, v1, e1, m1, f1⟩ := s2 _ h1
  obtain ⟨p2, z2, v2, e2, m2, f2⟩ := s2 _ h2
  obtain ⟨p3, z3, v3, e3, m3, f3⟩ := s2 _ h3
  rw [g1] at e1; cases e1
  rw [g2] at e2; cases e2
  simp only [mapO, cellV, e3] at m2
  cases m2
  have q1 := okC_map o1 m1
  have q3 := okC_map o3 m3
  rw [List.take_zero] at q1 q3
  refine ⟨(p3, z3), fun w1 hkp => ?_⟩
  have fct : ∀ f ∈ R, f.P (All w1) w1 := fun f hf => by
    obtain ⟨i, hi⟩ := List.getElem?_of_mem hf
    exact keepP (s1.fact i hi) hkp
  refine ⟨⟨[fAt p1 z1 v1, fAt p2 z2 [.pointer (some ⟨p3, z3 + 0, none⟩)], fAt p3 z3 v3], ?_, ?_⟩, fun _ _ h => h⟩
  · have h4 : St (cxAll w1) w1 [] [fAt p1 z1 v1, fAt p2 z2 [.pointer (some ⟨p3, z3 + 0, none⟩)], fAt p3 z3 v3] := St.enter (by
      grind)
    have more : ∀ {M : List Chunk} {R : List Fact}, St (cxAll w1) w1 M R → St (cxAll w1) w1 (M ++ [cNo]) R := fun h => St.more (ch := cNo) h (Keep.refl _ _) ⟨F0, fun _ _ h => h, fun _ _ h => h.elim⟩
    exact more (more (more h4))
  · intro x hx
    simp only [List.mem_cons, List.not_mem_nil, or_false] at hx
    rcases hx with rfl | rfl | rfl
    · exact ⟨p1, z1, v1, rfl, mapO_mono (fun x v h => by simpa using cellV_app (B := []) [(p1, z1), (p2, z2), (p3, z3)] h) q1, by simp⟩
    · exact ⟨p2, z2, _, rfl, rfl, by simp⟩
    · exact ⟨p3, z3, v3, rfl, mapO_mono (fun x v h => by simpa using cellV_app (B := []) [(p1, z1), (p2, z2), (p3, z3)] h) q3, by simp⟩
section
variable {P : Program} {T : TT} {hT : TOk P T} {n : Nat} {c : Ctx} {B0 : Bl} {N : Act → World → Prop} {X : Nat → Act → World → Prop} {Q : Act → World → Prop} {K K' : List Fr} {m m' : Nat} {e e' : SE} {L L' : List Ch} {cf cf1 cf2 : Cfg} {o : Oper} {Lv : List Ch} {d : Nat}
/-- A call that is handed a function with two captured boxes, of which the second points into what is ours. -/
theorem clcP {α β : Type} {fo : Option α} {kf : α → Option β} {q : β} {f g : FuncId} {xs : List SV} {sv : α → SV} {n1 n2 n3 : Nat} {c1 c3 : List SV} (is : List Nat) (hs : stq T n K cf m e L = .callp o (some d) f xs cf1 cf2 K' m' e' L') (hk : kl (shr [n3] L') is = [.ro n1 c1, .ro n2 [.p n3 0], .ro n3 c3]) (ho : ((okN.okC 0 c1 && okN.okC 0 c3) && okA xs.dropLast) = true) (hx : xs = xs.dropLast ++ [.f g [n1, n2]])
    (hc : ∀ {w}, HS c w L' → ∀ {b1 b2 b3 : Nat × Nat}, (∀ w1, Keep F0 w w1 → StS (cxAll w1) w1 [b1, b2, b3] [.ro 0 c1, .ro 1 [.p 2 0], .ro 2 c3]) → ∀ {x}, fo = some x → Fn0 P f (cxAll w) (xs.dropLast ++ [.k (.func (.func g) #[] (capB [b1, b2]).toArray)]) sv x) (hF : fo.bind kf = some q)
    (k : ∀ x, fo = some x → kf x = some q → G (.mk P T hT n c B0 N X Q) K' m' ((d, sv x) :: e') L' cf2) : G (.mk P T hT n c B0 N X Q) K m e L cf := by
  refine stq_ok (g := .mk P T hT n c B0 N X Q) ?_
  rw [hs]
  intro fo' args ats ho' hd hf ⟨ys, hys, hxs⟩ hdn hE
  rw [Bool.and_eq_true] at ho
  cases hfo : fo with
  | none => grind
  | some x =>
    rw [hfo] at hF
    refine hE Unit (fun _ => m') (fun _ => (d, sv x) :: e') (fun _ => L') (fun _ => by simpa using frz_app (L := L') []) (fun B a w next Q' hm hA hS hnext => ?_) (fun _ => k x hfo hF)
    obtain ⟨vs, h1, h2⟩ := evs_S hA hys
    obtain ⟨v, h3, h4⟩ := evS_ok hA hf
    simp [toV, mapO] at h3
    subst h3
    rw [← nbA_toV, hxs] at h1
    rw [hx] at h1
    have split : ∀ {qs : List SV} {b : SV} {vs : List Value} {B : Bl}, mapO (toV B) (qs ++ [b]) = some vs → ∃ us v, mapO (toV B) qs = some us ∧ toV B b = some v ∧ vs = us ++ [v] := by
      intro qs
      induction qs with
      | nil =>
        grind [mapO]
      | cons a qs ih =>
        intro b vs B h
        simp only [List.cons_append, mapO] at h
        grind [mapO]
    obtain ⟨us, fv, g1, g2, rfl⟩ := split h1
    simp only [toV] at g2
    split at g2
    · rename_i cap hcap
      cases g2
      obtain ⟨Bs, b1, b2, b3⟩ := cap_bl (cs := [(n1, c1), (n2, [.p n3 0])]) hcap
      subst b1
      obtain ⟨d1, d2, rfl⟩ : ∃ d1 d2, Bs = [d1, d2] := by
        match Bs, b2 with
        | [d1, d2], _ => simp
      have hmem : ∀ x ∈ [Ch.ro n1 c1, .ro n2 [.p n3 0], .ro n3 c3], x ∈ shr [n3] L' := fun x hx => kl_mem (is := is) (by grind)
      rw [Bool.and_eq_true] at ho
      obtain ⟨q1, y1, y2⟩ := b3 0 n1 c1 rfl
      obtain ⟨q2, y3, y4⟩ := b3 1 n2 _ rfl
      simp at y1 y3
      subst y1 y3
      obtain ⟨d3, hst⟩ := cap_stP (n3 := n3) (c1 := c1) (c3 := c3) (shr_ok [n3] [] L' hS) (hmem (.ro n1 c1) (by simp)) (hmem (.ro n2 [.p n3 0]) (by simp)) (hmem (.ro n3 c3) (by simp)) ho.1.1 ho.1.2 y2 y4
      obtain ⟨hcall, hrun⟩ := hc ⟨_, hS⟩ hst hfo
      have join : ∀ {qs : List SV} {us : List Value} {b : SV} {v : Value}, mapO (toV []) qs = some us → toV [] b = some v → mapO (toV []) (qs ++ [b]) = some (us ++ [v]) := by
        intro qs
        induction qs with
        | nil => grind [mapO]
        | cons a qs ih =>
          intro us b v h hb
          simp only [mapO] at h
          split at h
          · cases h
          · rename_i u hu
            split at h
            · cases h
            · rename_i us' hus; cases h; simp [mapO, hu, ih hus hb]
      have h5 := hrun (us ++ [.func (.func g) #[] (capB [d1, d2]).toArray]) (join (okA_toV ho.2 g1) (by simp [toV, gV, cellV, Value.oneCell'])) (stS0 w)
      have h6 := rc_call' (w := w) hcall ho' h4 h2
      unfold Oper.wp
      rw [h6 _ a hA.env, Oper.upon_enter]
      refine Calls.mono h5 fun en w' ⟨v, hv, y, e1, e2⟩ => ?_
      subst hv
      rw [hd]
      have g3 := toV_app (B0S (.mk P T hT n c B0 N X Q) cf1 ++ B) e1
      exact hnext () _ _ ⟨[], by grind, by simpa using hA.of (by grind) (hA.env.put (by grind [dstOk, Nat.blt_eq]) v), by simpa using hS.after (L2 := []) rfl e2⟩
    · cases g2
theorem clP {α β : Type} {fo : Option α} {kf : α → Option β} {q : β} {f g : FuncId} {xs : List SV} {sv : α → SV} {n1 n2 n3 : Nat} {c1 c3 : List SV} (is : List Nat) (hs : stq T n K cf m e L = .callp o (some d) f xs cf1 cf2 K' m' e' L') (hk : kl (shr [n3] L') is = [.ro n1 c1, .ro n2 [.p n3 0], .ro n3 c3]) (ho : ((okN.okC 0 c1 && okN.okC 0 c3) && okA xs.dropLast) = true) (hx : xs = xs.dropLast ++ [.f g [n1, n2]])
    (hc : ∀ {w}, HS c w L' → ∀ {b1 b2 b3 : Nat × Nat}, (∀ w1, Keep F0 w w1 → StS (cxAll w1) w1 [b1, b2, b3] [.ro 0 c1, .ro 1 [.p 2 0], .ro 2 c3]) → V0 P (cxAll w) f fo (xs.dropLast ++ [.k (.func (.func g) #[] (capB [b1, b2]).toArray)]) sv)
    (k : ∀ x, W (G (.mk P T hT n c B0 N X Q) K' m' ((d, sv x) :: e') L' cf2) q (kf x)) : W (G (.mk P T hT n c B0 N X Q) K m e L cf) q (fo.bind kf) := fun hF =>
  clcP is hs hk ho hx (fun h _ _ _ h2 _ hx => hc h h2 _ hx) hF fun x _ h => k x h
def noD : Cfg → Bool
  | .d _ _ _ _ _ _ => false
  | .o _ _ _ _ _ _ _ => false
  | _ => true
/-- Boxes that none writes from here on. -/
theorem shS (ns : List Nat) {cf' : Cfg} (hs : cfgS (stq T n K cf m e L) = some (K', cf', m', e', L')) (hf : noD cf' = true) (k : G (.mk P T hT n c B0 N X Q) K' m' e' (shr ns L') cf') : G (.mk P T hT n c B0 N X Q) K m e L cf := by
  refine go hs (chg (fun _ : Unit => m') (fun _ => e') (fun _ => shr ns L') (fun B a w hm hA hS => ⟨(), [], by grind, by grind, by simpa using shr_ok ns [] L' hS⟩) (fun _ => ?_) (fun _ => k))
  cases cf' with
  | d _ _ _ _ _ _ => cases hf
  | o _ _ _ _ _ _ _ => cases hf
  | _ => trivial
end
end Go.Gv
end
section
/-
  A list whose elements hold slices, moved as it is: its cells raw, and apart from them what lies behind. Nothing of a program here.
-/
set_option linter.unusedVariables false
namespace Go.Gv
abbrev R2 := Raw × Raw
def prs : List Value → List R2
  | a :: b :: r => (⟨a⟩, ⟨b⟩) :: prs r
  | _ => []
theorem prs_len : ∀ {n : Nat} {cs : List Value}, cs.length = n * 2 → (prs cs).length = n
  | 0, cs, h => by
    have : cs = [] := List.eq_nil_of_length_eq_zero (by omega)
    rw [this]; rfl
  | n + 1, cs, h => by
    match cs, h with
    | a :: b :: r, h => simp only [prs, List.length_cons] at *; rw [prs_len (n := n) (by omega)]
    | [_], h => grind
    | [], h => simp at h
theorem prs_app : ∀ {n : Nat} {cs ds : List Value}, cs.length = n * 2 → prs (cs ++ ds) = prs cs ++ prs ds
  | 0, cs, ds, h => by
    have : cs = [] := List.eq_nil_of_length_eq_zero (by omega)
    rw [this]; rfl
  | n + 1, cs, ds, h => by
    match cs, h with
    | a :: b :: r, h => simp only [prs, List.cons_append, List.length_cons] at *; rw [prs_app (n := n) (by omega)]
    | [_], h => grind
    | [], h => simp at h
theorem own_raw {w : World} {a b : Value} (ha : a.oneCell' = true) (hb : b.oneCell' = true) : Rep.own w [a, b] ((⟨a⟩, ⟨b⟩) : R2) F0 :=
  ⟨[a], [b], F0, F0, rfl, ⟨⟨rfl, ha⟩, fun _ _ h => h⟩, ⟨⟨rfl, hb⟩, fun _ _ h => h⟩, fun _ _ h => h.elim, fun _ _ => by simp [F0]⟩
theorem raw_own {w : World} {cs : List Value} {u : R2} {F : Foot} (h : Rep.own w cs u F) : cs = [u.1.v, u.2.v] ∧ ∀ b o, ¬ F b o := by
  obtain ⟨c1, c2, F1, F2, e, h1, h2, _, hF⟩ := h
  refine ⟨by rw [e, h1.1.1, h2.1.1]; rfl, fun b o p => ((hF b o).1 p).elim (h1.2 b o) (h2.2 b o)⟩
section
variable {α : Type} [Rep α] (hn : Rep.n α = 2) {w : World}
include hn
theorem prs_all : ∀ {l : List α} {cs : List Value} {F : Foot}, OwnAll w cs l F → OwnAll w cs (prs cs) F0
  | [], cs, F, h => by rw [h.1]; exact ⟨rfl, fun _ _ h => h⟩
  | x :: r, cs, F, ⟨c1, c2, F1, F2, e, h1, h2, hd, hF⟩ => by
    have a := Rep.rd_len (Rep.own_rd h1)
    have o := Rep.rd_one (Rep.own_rd h1)
    rw [hn] at a
    match c1, a, o with
    | [u, v], _, o =>
      subst e
      exact ⟨[u, v], c2, F0, F0, rfl, own_raw (o u (by simp)) (o v (by simp)), prs_all h2, fun _ _ h => h.elim, fun _ _ => by simp [F0]⟩
theorem all_len {l : List α} {cs : List Value} {F : Foot} (h : OwnAll w cs l F) : cs.length = l.length * 2 := by rw [h.length, hn]
omit hn in
theorem raw_cells : ∀ {us : List R2} {cs : List Value} {F : Foot}, OwnAll w cs us F → us = prs cs ∧ ∀ b o, ¬ F b o
  | [], cs, F, h => by rw [h.1]; exact ⟨rfl, h.2⟩
  | u :: r, cs, F, ⟨c1, c2, F1, F2, e, h1, h2, hd, hF⟩ => by
    obtain ⟨e1, f1⟩ := raw_own h1
    obtain ⟨e2, f2⟩ := raw_cells h2
    simp_all [prs]
theorem own_two {s : Value} {l : List α} {F : Foot} (h : Rep.own w [s] l F) : ∃ cs, cs.length = l.length * 2 ∧ ∀ F, Rep.own w [s] l F → ∃ G Fe, Rep.own w [s] (prs cs) G ∧ OwnAll w cs l Fe ∧ G.disj Fe ∧ ∀ b o, F b o ↔ G b o ∨ Fe b o := by
  obtain ⟨a, c, e, h1, h2, h3⟩ := own_iff.1 h
  rcases h3 with ⟨rfl, rfl, _⟩ | ⟨b, off, cc, _, rfl, _, hc, ho, _, _⟩
  · have hl : l = [] := List.eq_nil_of_length_eq_zero (by omega)
    subst hl
    refine ⟨[], rfl, fun F hF => ?_⟩
    obtain ⟨a', c', e', k1, k2, k3⟩ := own_iff.1 hF
    rw [e] at e'; cases e'
    rcases k3 with ⟨_, _, k⟩ | ⟨_, _, _, _, k, _⟩
    · refine ⟨F, F0, own_iff.2 ⟨none, 0, by rw [e]; rfl, Nat.le_refl _, k2, .inl ⟨rfl, rfl, k⟩⟩, ⟨rfl, fun _ _ h => h⟩, fun _ _ _ h => h, fun _ _ => by simp [F0]⟩
    · cases k
  · have hcl := all_len hn ho
    have hp := prs_len hcl
    refine ⟨cc, hcl, fun F hF => ?_⟩
    obtain ⟨a', c', e', k1, k2, k3⟩ := own_iff.1 hF
    rw [e] at e'; cases e'
    rcases k3 with ⟨k, _⟩ | ⟨b', off', cc', Fe, k, hr, hc', ho', hd, hFF⟩
    · cases k
    · cases k
      have hcc : cc' = cc := cells_uniq hc' hc (by grind [all_len])
      subst hcc
      rw [hn] at hr hd hFF
      refine ⟨inRow b off (c * 2), Fe, own_iff.2 ⟨_, c, by rw [e, hp], by omega, k2, .inr ⟨b, off, cc', F0, rfl, hr, hc', prs_all hn ho', fun _ _ h => h.elim, fun _ _ => ?_⟩⟩, ho', fun b o p q => hd b o q p, hFF⟩
      exact ⟨.inl, fun q => q.elim id fun q => q.elim⟩
theorem own_back {s : Value} {us : List R2} {l : List α} {cs : List Value} {G Fe : Foot} (h : Rep.own w [s] us G) (ho : OwnAll w cs l Fe) (hu : us = prs cs) (hd : G.disj Fe) : Rep.own w [s] l (fun b o => G b o ∨ Fe b o) := by
  have hcl := all_len hn ho
  have hp := prs_len hcl
  rw [← hu] at hp
  obtain ⟨a, c, e, h1, h2, h3⟩ := own_iff.1 h
  refine own_iff.2 ⟨a, c, by rw [e, hp], by omega, h2, ?_⟩
  rcases h3 with ⟨rfl, rfl, k⟩ | ⟨b, off, cc, Ge, rfl, hr, hc, ho', hdj, hFF⟩
  · have hl : l = [] := List.eq_nil_of_length_eq_zero (by omega)
    subst hl
    exact .inl ⟨rfl, rfl, fun b o p => p.elim (k b o) (ho.2 b o)⟩
  · obtain ⟨q1, q2⟩ := raw_cells ho'
    have hcc : cc.length = us.length * 2 := ho'.length
    have e2 : cc = cs := by
      have hj : ∀ {n : Nat} {x y : List Value}, x.length = n * 2 → y.length = n * 2 → prs x = prs y → x = y := by
        intro n
        induction n with
        | zero => simp
        | succ n ih =>
          intro x y hx hy hxy
          match x, y, hx, hy, hxy with
          | a :: b :: r, a' :: b' :: r', hx, hy, hxy =>
            grind [prs]
          | [], _, hx, _, _ => simp at hx
          | [_], _, hx, _, _ => grind
          | _ :: _ :: _, [], _, hy, _ => simp at hy
          | _ :: _ :: _, [_], _, hy, _ => grind
      grind
    subst e2
    have hG : ∀ b' o, G b' o ↔ inRow b off (c * 2) b' o := fun b' o => by
      rw [hFF]; exact ⟨fun q => q.elim id fun q => (q2 b' o q).elim, .inl⟩
    refine .inr ⟨b, off, cc, Fe, rfl, by rw [hn]; exact hr, hc, ho, fun b' o p q => hd b' o ((hG b' o).2 (by grind)) p, fun b' o => by rw [hG, hn]⟩
theorem cut_all {l : List α} {cs : List Value} {Fe : Foot} {i j : Nat} (hij : i ≤ j) (hj : j ≤ l.length) (h : OwnAll w cs l Fe) :
    ∃ cs' Fe', OwnAll w cs' (l.take i ++ l.drop j) Fe' ∧ (∀ b o, Fe' b o → Fe b o) ∧ prs cs' = (prs cs).take i ++ (prs cs).drop j := by
  have e : l = l.take i ++ ((l.drop i).take (j - i) ++ l.drop j) := by
    have : l.drop j = (l.drop i).drop (j - i) := by simp_all
    grind [List.take_append_drop]
  rw [e] at h
  obtain ⟨c1, c2, F1, F2, e1, h1, h2, hd, hF⟩ := OwnAll.split h
  obtain ⟨c3, c4, F3, F4, e2, h3, h4, hd2, hF2⟩ := OwnAll.split h2
  subst e2; subst e1
  have l1 := all_len hn h1
  have l3 := all_len hn h3
  have p1 := prs_len l1
  have p3 := prs_len l3
  have t1 : (l.take i).length = i := by grind
  have t3 : ((l.drop i).take (j - i)).length = j - i := by grind
  rw [t1] at p1
  rw [t3] at p3
  refine ⟨c1 ++ c4, fun b o => F1 b o ∨ F4 b o, OwnAll.app h1 h4 (fun b o p q => hd b o p ((hF2 b o).2 (.inr q))) fun _ _ => Iff.rfl, fun b o p => (hF b o).2 (p.imp id fun p => (hF2 b o).2 (.inr p)), ?_⟩
  rw [prs_app l1, prs_app l1, prs_app l3, List.take_left' p1, show j = i + (j - i) by omega, ← List.drop_drop, List.drop_left' p1, List.drop_left' p3]
def cIn (cs : List Value) (l : List α) : Chunk := ⟨fun w F => OwnAll w cs l F, fun h hk hd => OwnAll.keep hk h hd, fun h hf => OwnAll.lt h hf⟩
end
/-- slices.Delete of such a list. -/
def delN {α : Type} (l : List α) (i j : Int) : Option (List α) := need (0 ≤ i ∧ i ≤ j ∧ j ≤ (l.length : Int)) (some (l.take i.toNat ++ l.drop j.toNat))
theorem del_nest {P : Program} {κ : Ctx} {f : FuncId} {α : Type} [Rep α] (hn : Rep.n α = 2) {s1 : AC} {l : List α} {i j : Int} {xs : List SV} {D : List R2 → Option (List R2)} (hD : ∀ us : List R2, us.length = l.length → (0 ≤ i ∧ i ≤ j ∧ j ≤ (us.length : Int)) → D us = some (us.take i.toNat ++ us.drop j.toNat))
    (H : ∀ {κ : Ctx} {us : List R2}, us.length = l.length → VS P κ f (D us) xs [] [ow s1 us] (fun (r : List R2) (y : AC) => .h y r.length) (fun r y => [ow y r])) :
    VS P κ f (delN l i j) xs [] [ow s1 l] (fun (r : List α) (y : AC) => .h y r.length) (fun r y => [ow y r]) := by
  intro r hr
  unfold delN at hr
  obtain ⟨hc, hr⟩ := needE hr
  cases hr
  have hDs := fun us hu => hD us hu (by omega)
  refine ⟨(H (κ := κ) (us := List.replicate l.length default) (by simp) _ (hDs _ (by simp))).call, fun vs hvs hS => ?_⟩
  obtain ⟨⟨R, s1', s2⟩, s0⟩ := hS
  have h0 : St κ κ.w0 [cOwn [s1.v l.length] l] R := s1'
  obtain ⟨F0', hF0⟩ := h0.chunk (ch := cOwn [s1.v l.length] l) 0 rfl
  obtain ⟨cs, hlen, hsp⟩ := own_two hn hF0
  have hpl := prs_len hlen
  have h1 : St κ κ.w0 ([cNo] ++ [cOwn [s1.v l.length] (prs cs), cIn cs l]) R := h0.shift [0] rfl (fun F hF => by
    obtain ⟨G, Fe, a1, a2, a3, a4⟩ := hsp F (Sep.one.1 hF)
    exact ⟨G, Fe, a1, ⟨Fe, F0, a2, fun _ _ h => h, fun _ _ _ h => h, fun _ _ => by simp [F0]⟩, a3, a4⟩)
  have h2 : St κ κ.w0 ([cOwn [s1.v l.length] (prs cs)] ++ [cNo, cNo, cIn cs l]) R := h1.front [1] rfl
  obtain ⟨κ', k1, k2, k3, k4, k5, k6, k7⟩ := h2.giveF s0
  have hS' : StS κ' κ'.w0 [] [ow s1 (prs cs)] := ⟨⟨[], by grind [chd], fun x hx => by simp at hx; subst hx; trivial⟩, by grind⟩
  have hrun := (H (κ := κ') hpl _ (hDs _ hpl)).run vs hvs hS'
  rw [k1] at hrun
  refine Calls.mono hrun fun en w' hE => ?_
  obtain ⟨v, hv, y, e1, e2⟩ := hE
  subst hv
  have hul : ((prs cs).take i.toNat ++ (prs cs).drop j.toNat).length = (l.take i.toNat ++ l.drop j.toNat).length := by
    grind
  refine ⟨v, rfl, y, by grind, ?_⟩
  obtain ⟨⟨R', g1, _⟩, _⟩ := e2
  have g2 : St κ w' ([cOwn [y.v ((prs cs).take i.toNat ++ (prs cs).drop j.toNat).length] ((prs cs).take i.toNat ++ (prs cs).drop j.toNat)] ++ [cNo, cNo, cIn cs l]) R := k7 w' _ _ g1
  have g3 := g2.repl (w' := w') [0, 3] rfl (A' := [cOwn [y.v (l.take i.toNat ++ l.drop j.toNat).length] (l.take i.toNat ++ l.drop j.toNat)]) (fun F hF => by
    obtain ⟨F1, F2, a1, a2, a3, a4⟩ := hF
    have a2 : (cIn cs l).P w' F2 := Sep.one.1 a2
    obtain ⟨cs', Fe', b1, b2, b3⟩ := cut_all hn (i := i.toNat) (j := j.toNat) (by omega) (by omega) (show OwnAll w' cs l F2 from a2)
    have b4 := own_back hn (show Rep.own w' [y.v _] _ F1 from a1) b1 b3.symm (fun b o p q => a3 b o p (b2 b o q))
    rw [hul] at b4
    exact ⟨_, F0, Keep.refl _ _, fun _ _ h => h.elim, Sep.one.2 b4, fun b o p => .inl ((a4 b o).2 (p.imp id (b2 b o)))⟩)
  have g4 := g3.sel [4] rfl
  exact ⟨⟨R, g4, fun x hx => by simp at hx; subst hx; trivial⟩, s0⟩
/-! ### slices.Delete, raw -/
def zR2 : R2 := (⟨.bool false⟩, ⟨.slice none 0 0⟩)
theorem zR2_rd {w : World} : Rep.rd F0 w [.bool false, .slice none 0 0] zR2 := ⟨[_], [_], rfl, ⟨rfl, rfl⟩, ⟨rfl, rfl⟩⟩
theorem del_app {α : Type} {l : List α} {a b : Nat} (hab : a ≤ b) (hb : b ≤ l.length) : ((blitL l a (l.drop b)).take (a + (l.length - b))).drop 0 = l.take a ++ l.drop b := by
  have h1 : (l.take a).length = a := by grind
  have h2 : (l.drop b).length = l.length - b := by simp
  unfold blitL
  rw [List.drop_zero, List.take_of_length_le (l := l.drop b) (by omega), ← List.append_assoc, show a + (l.length - b) = (l.take a ++ l.drop b).length by grind]
  grind
theorem needY {α : Type} {p : Prop} [Decidable p] {k : Option α} (h : p) : need p k = k := if_pos h
def delR (s : List R2) (i j : Int) : Option (List R2) :=
  need (0 ≤ (i : Int) ∧ (i : Int) ≤ (j : Int) ∧ (j : Int) ≤ ((s.length : Int) : Int) ∧ ((s.length : Int) : Int) ≤ (s.length : Int)) ((if i == j then some s else need (0 ≤ (i : Int) ∧ (i : Int) ≤ (s.length : Int)) (need (0 ≤ (j : Int) ∧ (j : Int) ≤ (s.length : Int)) (need (i.toNat ≤ j.toNat) (need (0 ≤ (((((blitL s i.toNat (s.drop j.toNat)).take (i.toNat + (s.length - j.toNat))).drop 0).length : Int) : Int) ∧ (((((blitL s i.toNat (s.drop j.toNat)).take (i.toNat + (s.length - j.toNat))).drop 0).length : Int) : Int) ≤ ((s.length : Int) : Int) ∧ ((s.length : Int) : Int) ≤ ((blitL s i.toNat (s.drop j.toNat)).length : Int)) (some (((blitL s i.toNat (s.drop j.toNat)).take (i.toNat + (s.length - j.toNat))).drop 0)))))))
theorem delR_eq {us : List R2} {i j : Int} (h : 0 ≤ i ∧ i ≤ j ∧ j ≤ (us.length : Int)) : delR us i j = some (us.take i.toNat ++ us.drop j.toNat) := by
  unfold delR
  rw [needY (by omega)]
  by_cases e : i = j
  · simp_all
  · rw [if_neg (by grind), needY (by omega), needY (by omega), needY (by omega), del_app (by omega) (by omega), needY]
    grind [blitL_len]
theorem delW {P : Program} {κ : Ctx} {f : FuncId} {α : Type} [Rep α] (hn : Rep.n α = 2) {s1 : AC} {l : List α} {i j : Int}
    (H : ∀ {κ : Ctx} {us : List R2}, VS P κ f (delR us i j) [.h s1 us.length, .i .i64 i, .i .i64 j] [] [ow s1 us] (fun (r : List R2) (y : AC) => .h y r.length) (fun r y => [ow y r])) :
    VS P κ f (delN l i j) [.h s1 l.length, .i .i64 i, .i .i64 j] [] [ow s1 l] (fun (r : List α) (y : AC) => .h y r.length) (fun r y => [ow y r]) :=
  del_nest hn (fun us _ h => delR_eq h) fun {κ us} hu => by grind
end Go.Gv
end
section
/-
  slices.Delete of the first element, whose inner slice somebody else has taken. Nothing of a program here.
-/
set_option linter.unusedVariables false
set_option linter.unusedSimpArgs false
namespace Go.Gv
theorem hole_two {α : Type} [Rep α] (hn : Rep.n α = 2) {w : World} {s : Value} {l : List α} {ec : List Value} {F : Foot} (hl : ec.length = 2) (ho : ∀ v ∈ ec, v.oneCell' = true) (h : Sep w [cHole s l 0, cAt (elB s) (elO (Rep.n α) 0 s) ec] F) :
    ∃ c2, c2.length = (l.drop 1).length * 2 ∧ l.length = (l.drop 1).length + 1 ∧ ∀ F, Sep w [cHole s l 0, cAt (elB s) (elO (Rep.n α) 0 s) ec] F → ∃ G Fe, Rep.own w [s] (prs (ec ++ c2)) G ∧ OwnAll w c2 (l.drop 1) Fe ∧ G.disj Fe ∧ ∀ b o, F b o ↔ G b o ∨ Fe b o := by
  obtain ⟨G1, G2, ⟨a, c, b, off, c1, c2, F1, F3, e, h1, h2, hk, rfl, hr, k1, k3, o1, o3, d1, d2, d3, hG1⟩, _, _, _⟩ := h
  have hc2 := all_len hn o3
  have hdl : (l.drop 1).length = l.length - 1 := by simp
  have hdl' : (l.drop (0 + 1)).length = l.length - 1 := by simp
  refine ⟨c2, hc2, by omega, fun F h => ?_⟩
  obtain ⟨G1', G2', ⟨a', c', b', off', c1', c2', F1', F3', e', h1', h2', hk', e3, hr', k1', k3', o1', o3', d1', d2', d3', hG1'⟩, hAt, dG, hF⟩ := h
  rw [e] at e'; cases e'; cases e3
  have hcc : c2' = c2 := cells_uniq k3' k3 (by grind [all_len])
  subst hcc
  have hAt : (cAt (elB s) (elO (Rep.n α) 0 s) ec).P w G2' := Sep.one.1 hAt
  obtain ⟨k2, hz, hH⟩ := hAt
  subst e
  simp only [elB, elO, Nat.zero_mul, Nat.add_zero, hl] at k2 hz hH
  have hF1 : ∀ b o, ¬ F1' b o := by
    have : l.take 0 = [] := rfl
    rw [this] at o1'
    exact o1'.2
  rw [hn] at hr' k3' d3' hG1'
  have hp : (prs (ec ++ c2')).length = l.length := by
    rw [prs_app (n := 1) (by omega), List.length_append, prs_len (n := 1) (by omega), prs_len hc2]; omega
  have hraw : OwnAll w (ec ++ c2') (prs (ec ++ c2')) F0 := by
    match ec, hl, ho with
    | [u, v], _, ho => exact ⟨[u, v], c2', F0, F0, rfl, own_raw (ho u (by simp)) (ho v (by simp)), prs_all hn o3', fun _ _ h => h.elim, fun _ _ => by simp [F0]⟩
  refine ⟨inRow b off (c * 2), F3', own_iff.2 ⟨_, c, by rw [hp], by omega, h2', .inr ⟨b, off, ec ++ c2', F0, rfl, fun o p => ?_, ?_, hraw, fun _ _ h => h.elim, fun _ _ => ?_⟩⟩, o3', fun b o p q => d3' b o q p, fun b' o => ?_⟩
  · by_cases q : inRow b off 2 b o
    · refine ⟨?_, hz o q⟩
      obtain ⟨_, q1, q2⟩ := q
      have := k2 (o - off) _ (List.getElem?_eq_getElem (by omega))
      simp_all
    · exact hr' o p (by omega)
  · grind [cells_join]
  · exact ⟨.inl, fun q => q.elim id fun q => q.elim⟩
  grind [inRow]
theorem cells_one {B : Bl} : ∀ {cs : List SV} {vs : List Value}, mapO (cellV B) cs = some vs → ∀ v ∈ vs, v.oneCell' = true
  | [], vs, h, v, hv => by cases h; simp at hv
  | x :: r, vs, h, v, hv => by
    simp only [mapO] at h
    split at h
    · cases h
    · rename_i y hy
      split at h
      · cases h
      · rename_i ys hys
        cases h
        rcases List.mem_cons.1 hv with rfl | hv
        · exact cell_one hy
        · exact cells_one hys v hv
section
variable {P : Program} {T : TT} {hT : TOk P T} {n : Nat} {c : Ctx} {B0 : Bl} {N : Act → World → Prop} {X : Nat → Act → World → Prop} {Q : Act → World → Prop} {K K' : List Fr} {m m' : Nat} {e e' : SE} {L L' : List Ch} {cf cf' cf1 cf2 : Cfg} {o : Oper} {Lv : List Ch} {d : Nat}
/-- The first element's place is given back to the list, raw. -/
theorem hzR {α : Type} [Rep α] (hn : Rep.n α = 2) {s : AC} {l : List α} {nb n0 : Nat} {cs : List SV} (h h2 hv : Nat) (hs : cfgS (stq T n K cf m e L) = some (K', cf', m', e', L')) (hh : L'[h]? = some (.o (cHole (s.v l.length) l 0))) (hb : L'[h2]? = some (.box nb cs)) (hw : L'[hv]? = some (wOf α nb s n0 0)) (hl : cs.length = 2) (ha : apartB [h, h2] = true) (hz : ([h, h2].all fun j => notIn j cf'.frz) = true)
    (k : ∀ (us : List R2) (c2 : List Value), us.length = l.length → us.drop 1 = prs c2 → l.length = (l.drop 1).length + 1 → G (.mk P T hT n c B0 N X Q) K' m' e' (blk L' [h, h2] ++ [ow s us, .o (cIn c2 (l.drop 1))]) cf') : G (.mk P T hT n c B0 N X Q) K m e L cf := by
  refine go hs (chg (ι := {p : List R2 × List Value // p.1.length = l.length ∧ p.1.drop 1 = prs p.2 ∧ l.length = (l.drop 1).length + 1}) (fun _ => m') (fun _ => e') (fun p => blk L' [h, h2] ++ [ow s p.1.1, .o (cIn p.1.2 (l.drop 1))]) (fun B a w hm hA hS => ?_) (fun _ => frz_blk _ hz) (fun p => k p.1.1 p.1.2 p.2.1 p.2.2.1 p.2.2.2))
  obtain ⟨⟨R, s1, s2⟩, s0⟩ := hS
  have f1 := s1.front [h, h2] ha
  rw [pick_kl (M := [.o (cHole (s.v l.length) l 0), .box nb cs]) (by grind [mapO])] at f1
  obtain ⟨F, S, hsep, _⟩ := f1.sep
  obtain ⟨Fa, Fb, hab, _⟩ := Sep.append.1 hsep
  have hB := s2 _ (List.mem_of_getElem? hw)
  simp only [roF] at hB
  obtain ⟨G1, G2, g1, g2, g3, g4⟩ := hab
  have g2 : (boxC B nb cs).P w G2 := Sep.one.1 g2
  obtain ⟨b, z, vs, q1, q2, q3⟩ := g2
  rw [hB] at q1; cases q1
  have hlv : vs.length = 2 := by grind [mapO_len]
  have e1 : elB (s.v n0) = elB (s.v l.length) := elB_v s _ _
  have e2 : elO (Rep.n α) 0 (s.v n0) = elO (Rep.n α) 0 (s.v l.length) := elO_v s _ _ _ _
  rw [e1, e2] at q3
  obtain ⟨c2, z1, z2, z3⟩ := hole_two hn hlv (cells_one q2) (F := Fa) ⟨G1, G2, g1, Sep.one.2 q3, g3, g4⟩
  have hpl : (prs (vs ++ c2)).length = l.length := by rw [prs_app (n := 1) (by omega), List.length_append, prs_len (n := 1) (by omega), prs_len z1]; omega
  have hpd : (prs (vs ++ c2)).drop 1 = prs c2 := by rw [prs_app (n := 1) (by omega)]; exact List.drop_left' (prs_len (n := 1) (by omega))
  refine ⟨⟨(prs (vs ++ c2), c2), hpl, hpd, z2⟩, [], by grind, by grind, ⟨⟨R, ?_, fun x hx => ?_⟩, s0⟩⟩
  · rw [List.append_nil, List.map_append, blk_map]
    have := s1.shift [h, h2] ha (A' := [cOwn [s.v (prs (vs ++ c2)).length] (prs (vs ++ c2)), cIn c2 (l.drop 1)]) (fun F hF => by
      rw [pick_kl (M := [.o (cHole (s.v l.length) l 0), .box nb cs]) (by grind [mapO])] at hF
      obtain ⟨G1, G2, g1, g2, g3, g4⟩ := hF
      have g2 : (boxC B nb cs).P w G2 := Sep.one.1 g2
      obtain ⟨b', z', vs', q1', q2', q3'⟩ := g2
      rw [hB] at q1'; cases q1'
      rw [q2] at q2'; cases q2'
      rw [e1, e2] at q3'
      obtain ⟨G, Fe, a1, a2, a3, a4⟩ := z3 F ⟨G1, G2, g1, Sep.one.2 q3', g3, g4⟩
      rw [hpl]
      exact ⟨G, Fe, a1, Sep.one.2 a2, a3, a4⟩)
    exact this
  · rw [List.append_nil]
    rcases List.mem_append.1 hx with hx | hx
    · rcases blk_mem _ _ hx with hx | hx
      · grind
      · subst hx; trivial
    · simp only [List.mem_cons, List.not_mem_nil, or_false] at hx
      rcases hx with rfl | rfl <;> trivial
/-- Raw cells and what lies behind them, put together. -/
theorem joR {α : Type} [Rep α] (hn : Rep.n α = 2) {s : AC} {us : List R2} {l : List α} {cs : List Value} (i j : Nat) (hi : L[i]? = some (ow s us)) (hj : L[j]? = some (.o (cIn cs l))) (hu : us = prs cs) (ha : apartB [i, j] = true) (hz : ([i, j].all fun j => notIn j cf.frz) = true) (hl : us.length = l.length)
    (k : G (.mk P T hT n c B0 N X Q) K m e (blk L [i, j] ++ [ow s l]) cf) : G (.mk P T hT n c B0 N X Q) K m e L cf := by
  refine chg (fun _ : Unit => m) (fun _ => e) (fun _ => blk L [i, j] ++ [ow s l]) (fun B a w hm hA hS => ?_) (fun _ => frz_blk _ hz) (fun _ => k)
  obtain ⟨⟨R, s1, s2⟩, s0⟩ := hS
  refine ⟨(), [], by grind, by grind, ⟨⟨R, ?_, fun x hx => ?_⟩, s0⟩⟩
  · rw [List.append_nil, List.map_append, blk_map]
    exact s1.shift [i, j] ha (A' := [cOwn [s.v l.length] l]) (fun F hF => by
      rw [pick_kl (M := [ow s us, .o (cIn cs l)]) (by grind [mapO])] at hF
      obtain ⟨G1, G2, g1, g2, g3, g4⟩ := hF
      have g2 : OwnAll w cs l G2 := Sep.one.1 g2
      have g1 : Rep.own w [s.v us.length] us G1 := g1
      rw [hl] at g1
      have := own_back hn g1 g2 hu g3
      exact Sep.one.2 (by
        have e : F = fun b o => G1 b o ∨ G2 b o := by grind
        rw [e]; exact this))
  · rw [List.append_nil]
    rcases List.mem_append.1 hx with hx | hx
    · rcases blk_mem _ _ hx with hx | hx
      · grind
      · subst hx; trivial
    · simp only [List.mem_cons, List.not_mem_nil, or_false] at hx
      subst hx; trivial
/-- slices.Delete of the first of them. -/
theorem dlW {α β : Type} [Rep α] (hn : Rep.n α = 2) {f : FuncId} {kf : List α → Option β} {q : β} {s : AC} {l : List α} {us : List R2} {c2 : List Value} (i j : Nat)
    (hs : cpS (stq T n K cf m e L) = some (o, some d, f, [.h s l.length, .i .i64 0, .i .i64 1], cf1, cf2, K', m', e', L')) (hi : L'[i]? = some (ow s us)) (hj : (blk L' [i] ++ [ow s us])[j]? = some (.o (cIn c2 (l.drop 1)))) (hz : notIn i cf1.frz = true) (ha : apartB [L'.length, j] = true) (hz2 : ([L'.length, j].all fun j => notIn j cf2.frz) = true)
    (hu : us.length = l.length) (hd : us.drop 1 = prs c2) (hl : l.length = (l.drop 1).length + 1)
    (H : ∀ {κ : Ctx} {us : List R2}, VS P κ f (delR us 0 1) [.h s us.length, .i .i64 0, .i .i64 1] [] [ow s us] (fun (r : List R2) (y : AC) => .h y r.length) (fun r y => [ow y r]))
    (k : ∀ y : AC, W (G (.mk P T hT n c B0 N X Q) K' m' ((d, .h y (l.drop 1).length) :: e') (blk (blk L' [i] ++ [ow y (us.drop 1)]) [L'.length, j] ++ [ow y (l.drop 1)]) cf2) q (kf (l.drop 1))) : W (G (.mk P T hT n c B0 N X Q) K m e L cf) q ((delN l 0 1).bind kf) := fun hF => by
  have hlen : (blk L' [i]).length = L'.length := by simp [blk]
  have hdl : ∀ {x}, delN l 0 1 = some x → x = l.drop 1 := fun h => by
    obtain ⟨_, h⟩ := needE h
    grind
  refine cw0 (sv := fun (r : List α) (y : AC) => .h y r.length) (Lr := fun _ y => [ow y (us.drop 1)]) (M := [ow s us]) (xs0 := [.h s l.length, .i .i64 0, .i .i64 1]) [i] hs (by simp [mapO, hi]) rfl (by grind [allO, apartB]) (fun _ _ => rfl) (fun {κ} _ {x} hx => ?_) hF (fun x h1 h2 y => ?_)
  · have hr : delR us 0 1 = some (us.drop 1) := by grind [delR_eq]
    have h := H (κ := κ) (us := us) _ hr
    rw [hu] at h
    refine ⟨h.call, fun vs hvs hst => Calls.mono (h.run vs hvs hst) fun en w' hE => ?_⟩
    grind
  · obtain rfl := hdl h1
    refine joR hn L'.length j (by grind) ?_ hd ha hz2 (by simp [hu]) (k y h2)
    have hjl : j < L'.length := by
      have h3 : j < (blk L' [i] ++ [ow s us]).length := (List.getElem?_eq_some_iff.1 hj).1
      have h4 : j ≠ L'.length := by
        intro e; subst e; simp [apartB, notIn] at ha
      grind
    grind
end
end Go.Gv
end
section
/-
  slices.Insert of one element: what the walk needs. Nothing of a program here.
-/
set_option linter.unusedVariables false
namespace Go.Gv
open Go.Lib Go.Proofs
theorem run_copy_k {P : Program} (w : World) (dT sT ty elem : TypeId) (k b o dLen dCap : Nat) (a : Addr) (sLen sCap m : Nat) (cs : List Value)
    (hu : P.underlying dT = some (.slice elem)) (hs : (P.info? elem).map (·.size) = some k) (hm : Nat.min sLen dLen = m) (hn : cs.length = m * k)
    (hsrc : ∀ j v, cs[j]? = some v → w.cell? (a.add j) = some v) (hc : ∀ j, j < cs.length → (w.cell? ⟨b, o + j, none⟩).isSome = true) (hf : ∀ j, j < cs.length → w.frozen? ⟨b, o + j, none⟩ = false) (h1 : ∀ v ∈ cs, v.oneCell' = true) :
    (Builtin.copy_ #[dT, sT] ty #[.slice (some ⟨b, o, none⟩) dLen dCap, .slice (some a) sLen sCap]).run P w = .ok (goInt m) (w.setCells b o cs) := by
  have hl := run_loadCells_list (P := P) w a cs hsrc
  have hst := run_storeCells_cells (P := P) b o cs 0 w (by omega) (by omega) h1
  subst hm
  cases hq : P.info? elem with
  | none => grind
  | some i =>
    simp_all [Builtin.copy_, run_underlying, Builtin.lenOf, Builtin.firstCells, sizeOf, typeInfo]
/-! ### Worlds -/
theorem keep_setCells (b o0 m : Nat) : ∀ (vs : List Value) (o : Nat) (w : World), o0 ≤ o → o + vs.length ≤ o0 + m → Keep (inRow b o0 m) w (w.setCells b o vs)
  | [], _, w, _, _ => Keep.refl _ _
  | v :: r, o, w, h1, h2 => by
    simp only [List.length_cons] at h2
    rw [World.setCells]
    exact (Keep.setCell _ w ⟨b, o, none⟩ v ⟨rfl, h1, by grind⟩ rfl).trans (keep_setCells b o0 m r (o + 1) _ (by omega) (by omega)) fun _ _ _ h => h
theorem keep_setNew {w w1 : World} (b : Nat) (hb : w.heap.size ≤ b) {vs : List Value} {o : Nat} (h : Keep F0 w w1) : Keep F0 w (w1.setCells b o vs) :=
  h.trans ((keep_setCells b o vs.length vs o w1 (Nat.le_refl _) (Nat.le_refl _)).mono (G := inRow b o vs.length) fun _ _ _ h => h) (F := F0) fun b' o' hlt hr => by
    obtain ⟨rfl, _⟩ := hr
    omega
theorem cells_set_at {w : World} {b o : Nat} {vs : List Value} (h : ∀ j, j < vs.length → (w.cell? ⟨b, o + j, none⟩).isSome = true) : CellsAt (w.setCells b o vs) b o vs := fun j v hj => by
  grind [World.cell?_setCells_in]
theorem cells_set_out {w : World} {b o o' : Nat} {vs cs : List Value} (h : CellsAt w b o' cs) (hd : o' + cs.length ≤ o ∨ o + vs.length ≤ o') : CellsAt (w.setCells b o vs) b o' cs := fun j v hj => by
  have hl := (List.getElem?_eq_some_iff.1 hj).1
  rw [World.cell?_setCells_out b vs o w ⟨b, o' + j, none⟩ (fun _ _ => by grind)]
  exact h j v hj
theorem cells_app {w : World} {b o : Nat} {cs ds : List Value} (h : CellsAt w b o cs) (k : CellsAt w b (o + cs.length) ds) : CellsAt w b o (cs ++ ds) := fun j v hj => by
  by_cases hl : j < cs.length
  · rw [List.getElem?_append_left hl] at hj; exact h j v hj
  · rw [List.getElem?_append_right (by omega)] at hj
    have := k _ v hj
    grind
theorem cells_take {w : World} {b o n : Nat} {cs : List Value} (h : CellsAt w b o cs) : CellsAt w b o (cs.take n) := fun j v hj => by
  rw [List.getElem?_take] at hj
  split at hj
  · exact h j v hj
  · cases hj
theorem row_set {w : World} {b o n o' : Nat} {vs : List Value} (h : Row w b o n) (ho : o ≤ o' ∧ o' + vs.length ≤ o + n) : Row (w.setCells b o' vs) b o n := fun q hq => by
  obtain ⟨_, h2, h3⟩ := hq
  refine ⟨Go.Proofs.isSome_setCells b vs o' w (fun j hj => (h (o' + j) ⟨rfl, by omega, by omega⟩).1) q (h q ⟨rfl, h2, h3⟩).1, ?_⟩
  rw [World.frozen?_setCells]; exact (h q ⟨rfl, h2, h3⟩).2
/-! ### The four roads, said once -/
/-- What inserting one element leaves: the row of s, or a new one. -/
def InsP (w : World) (k n : Nat) (ad : Option Addr) (c : Nat) (ccs : List Value) (e : Ending) (w' : World) : Prop :=
  ∃ b o c', e = .returned (.slice (some ⟨b, o, none⟩) (n + 1) c') ∧ n + 1 ≤ c' ∧ c' ≤ maxLen ∧ CellsAt w' b o ccs ∧ Row w' b o (c' * k) ∧
    ((ad = some ⟨b, o, none⟩ ∧ c' = c ∧ Keep (inRow b o (c * k)) w w') ∨ (w.heap.size ≤ b ∧ Keep F0 w w'))
def InsS (P : Program) (f k : Nat) : Prop := ∀ (b off n c i vb : Nat) (cs vs : List Value) (w : World), i < n → n + 1 ≤ c → c ≤ 9223372036854775807 → vb ≠ b → cs.length = n * k → vs.length = k →
    CellsAt w b off cs → (∀ j, j < c * k → (w.cell? ⟨b, off + j, none⟩).isSome = true) → (∀ j, j < c * k → w.frozen? ⟨b, off + j, none⟩ = false) →
    CellsAt w vb 0 vs → (∀ v ∈ cs, v.oneCell' = true) → (∀ v ∈ vs, v.oneCell' = true) →
    ∀ (tA tB : TypeId) (kA kB : Nat), w.shape? vb = some (tA, kA) → w.shape? b = some (tB, kB) → kB ≠ 0 → w.frozen? ⟨vb, 0, none⟩ = false → w.frozen? ⟨vb, kA, none⟩ = false →
    Calls P f #[.slice (some ⟨b, off, none⟩) n c, .int .i64 i, .slice (some ⟨vb, 0, none⟩) 1 1] w fun e w' =>
      e = .returned (.slice (some ⟨b, off, none⟩) (n + 1) c) ∧ w' = (w.drew.setCells b (off + (i + 1) * k) (cs.drop (i * k))).setCells b (off + i * k) vs
def InsR (P : Program) (f k : Nat) : Prop := ∀ (b off n c vb : Nat) (vs : List Value) (w : World), n + 1 ≤ c → c ≤ 9223372036854775807 → vs.length = k →
    (∀ j, j < c * k → (w.cell? ⟨b, off + j, none⟩).isSome = true) → (∀ j, j < c * k → w.frozen? ⟨b, off + j, none⟩ = false) → CellsAt w vb 0 vs → (∀ v ∈ vs, v.oneCell' = true) →
    Calls P f #[.slice (some ⟨b, off, none⟩) n c, .int .i64 n, .slice (some ⟨vb, 0, none⟩) 1 1] w fun e w' =>
      e = .returned (.slice (some ⟨b, off, none⟩) (n + 1) c) ∧ w' = w.setCells b (off + n * k) vs
def InsE (P : Program) (f k el : Nat) (z : Value) : Prop := ∀ (base : Option Addr) (n c vb : Nat) (cs vs : List Value) (w : World), n ≤ c → c < n + 1 → n + 1 ≤ 1073741824 → cs.length = n * k → vs.length = k → (base = none → n = 0) →
    (∀ a, base = some a → ∀ j v, cs[j]? = some v → w.cell? (a.add j) = some v) → CellsAt w vb 0 vs → (∀ v ∈ vs, v.oneCell' = true) →
    Calls P f #[.slice base n c, .int .i64 n, .slice (some ⟨vb, 0, none⟩) 1 1] w fun e w' =>
      e = .returned (.slice (some ⟨w.heap.size, 0, none⟩) (n + 1) (grownCap w (n + 1) c el)) ∧
      w' = w.drew.alloc (.cells ((cs ++ vs).toArray ++ Builtin.zeroCells z.cells (grownCap w (n + 1) c el - (n + 1))) el)
def InsG (P : Program) (f k el : Nat) (z : Value) : Prop := ∀ (b off n c i vb : Nat) (cs vs : List Value) (w : World), i < n → n ≤ c → c < n + 1 → n + 1 ≤ 1073741824 → cs.length = n * k → vs.length = k →
    CellsAt w b off cs → CellsAt w vb 0 vs → (∀ v ∈ cs, v.oneCell' = true) → (∀ v ∈ vs, v.oneCell' = true) →
    Calls P f #[.slice (some ⟨b, off, none⟩) n c, .int .i64 i, .slice (some ⟨vb, 0, none⟩) 1 1] w fun e w' =>
      e = .returned (.slice (some ⟨w.heap.size, 0, none⟩) (n + 1) (grownCap w (n + 1) c el)) ∧
      w' = (((w.alloc (.cells ((cs.take (i * k)).toArray ++ Builtin.zeroCells z.cells (n + 1 - i) ++ Builtin.zeroCells z.cells (grownCap w (n + 1) c el - (n + 1))) el)).drew.setCells w.heap.size (i * k) vs).drew).setCells w.heap.size ((i + 1) * k) (cs.drop (i * k))
def InsC (P : Program) (f k : Nat) : Prop := ∀ (ad : Option Addr) (n c i vb : Nat) (cs vs : List Value) (w : World), i ≤ n → n ≤ c → c ≤ maxLen → n + 1 ≤ 1073741824 → cs.length = n * k → vs.length = k →
    CellsAt w vb 0 vs → (∀ v ∈ cs, v.oneCell' = true) → (∀ v ∈ vs, v.oneCell' = true) → (∀ o, w.frozen? ⟨vb, o, none⟩ = false) →
    ((ad = none ∧ c = 0) ∨ ∃ b off, ad = some ⟨b, off, none⟩ ∧ Row w b off (c * k) ∧ CellsAt w b off cs ∧ (0 < c → vb ≠ b)) →
    Calls P f #[.slice ad n c, .int .i64 i, .slice (some ⟨vb, 0, none⟩) 1 1] w (InsP w k n ad c (cs.take (i * k) ++ vs ++ cs.drop (i * k)))
theorem shape_of {w : World} {b o : Nat} (h : (w.cell? ⟨b, o, none⟩).isSome = true) : ∃ t k, w.shape? b = some (t, k) ∧ k ≠ 0 := by
  grind [World.cell?, World.shape?]
theorem insC_of {P : Program} {f k el : Nat} {z : Value} (hk : 0 < k) (hz : z.cells.size = k) (hS : InsS P f k) (hR : InsR P f k) (hE : InsE P f k el z) (hG : InsG P f k el z) : InsC P f k := by
  intro ad n c i vb cs vs w hi hnc hcm hb hcl hvl hvs h1c h1v hfz hrow
  have hgc : n + 1 ≤ grownCap w (n + 1) c el := grownCap_ge _ _ _ _
  have hgm : grownCap w (n + 1) c el ≤ maxLen := grownCap_le_maxLen w (n + 1) c el (by grind [maxLen])
  have hnk : (n + 1) * k = n * k + k := by grind
  by_cases hin : i = n
  · subst hin
    have e1 : cs.take (i * k) = cs := by grind
    have e2 : cs.drop (i * k) = [] := by grind
    rw [e1, e2, List.append_nil]
    by_cases hroom : i + 1 ≤ c
    · rcases hrow with ⟨_, h0⟩ | ⟨b, off, rfl, hr, hc, _⟩
      · omega
      have hck : (i + 1) * k ≤ c * k := Nat.mul_le_mul_right _ hroom
      refine (hR b off i c vb vs w hroom hcm hvl (fun j hj => (hr _ ⟨rfl, by omega, by omega⟩).1) (fun j hj => (hr _ ⟨rfl, by omega, by omega⟩).2) hvs h1v).mono ?_
      rintro e w' ⟨rfl, rfl⟩
      refine ⟨b, off, c, rfl, hroom, hcm, cells_app (cells_set_out hc (.inl (by omega))) (by rw [hcl]; exact cells_set_at fun j hj => (hr _ ⟨rfl, by omega, by omega⟩).1), row_set hr ⟨by omega, by omega⟩, .inl ⟨rfl, rfl, keep_setCells b off _ vs _ w (by omega) (by omega)⟩⟩
    · refine (hE ad i c vb cs vs w hnc (by omega) hb hcl hvl (fun h => ?_) (fun a ha => ?_) hvs h1v).mono ?_
      · grind
      · rcases hrow with ⟨h0, _⟩ | ⟨b, off, h1, hr, hc, _⟩
        · grind
        · rw [ha] at h1; cases h1
          intro j v hj
          rw [Addr.add_lit]; exact hc j v hj
      rintro e w' ⟨rfl, rfl⟩
      have hsz : ((cs ++ vs).toArray ++ Builtin.zeroCells z.cells (grownCap w (i + 1) c el - (i + 1))).size = grownCap w (i + 1) c el * k := by
        rw [Array.size_append, size_zeroCells, hz, List.size_toArray, List.length_append, hcl, hvl, Nat.sub_mul, hnk]
        have : (i + 1) * k ≤ grownCap w (i + 1) c el * k := Nat.mul_le_mul_right _ hgc
        omega
      refine ⟨w.heap.size, 0, _, rfl, hgc, hgm, fun j v hj => ?_, fun o ho => ⟨?_, World.frozen?_alloc_at (w := w.drew) _ _ w.heap.size o rfl⟩, .inr ⟨Nat.le_refl _, (Keep.drew F0 w).trans (Keep.alloc _ _ _) fun _ _ _ h => h⟩⟩
      · rw [Nat.zero_add, World.cell?_alloc_at (w := w.drew) _ _ w.heap.size j rfl]
        grind
      · obtain ⟨_, _, h3⟩ := ho
        rw [World.cell?_alloc_at (w := w.drew) _ _ w.heap.size o rfl, Array.getElem?_eq_getElem (by omega)]; rfl
  · have hlt : i < n := by omega
    have hik : (i + 1) * k = i * k + k := by grind
    have hink : (i + 1) * k ≤ n * k := Nat.mul_le_mul_right _ hlt
    have htl : (cs.take (i * k)).length = i * k := by grind
    have hdl : (cs.drop (i * k)).length = n * k - i * k := by grind
    rcases hrow with ⟨_, h0⟩ | ⟨b, off, rfl, hr, hc, hne⟩
    · omega
    have hsv := shape_of (w := w) (b := vb) (o := 0) (by rw [show (0 : Nat) = 0 + 0 from rfl, hvs 0 _ (List.getElem?_eq_getElem (by omega))]; rfl)
    obtain ⟨tA, kA, hsa, _⟩ := hsv
    by_cases hroom : n + 1 ≤ c
    · have hck : (n + 1) * k ≤ c * k := Nat.mul_le_mul_right _ hroom
      obtain ⟨tB, kB, hsb, hkB⟩ := shape_of (w := w) (b := b) (o := off) (hr off ⟨rfl, by omega, by omega⟩).1
      refine (hS b off n c i vb cs vs w hlt hroom hcm (hne (by omega)) hcl hvl hc (fun j hj => (hr _ ⟨rfl, by omega, by omega⟩).1) (fun j hj => (hr _ ⟨rfl, by omega, by omega⟩).2) hvs h1c h1v tA tB kA kB hsa hsb hkB (hfz _) (hfz _)).mono ?_
      rintro e w' ⟨rfl, rfl⟩
      have hc' : CellsAt w.drew b off cs := hc
      have hr' : Row w.drew b off (c * k) := hr
      have hr1 := row_set (o' := off + (i + 1) * k) (vs := cs.drop (i * k)) hr' ⟨by omega, by omega⟩
      refine ⟨b, off, c, rfl, hroom, hcm, ?_, row_set hr1 ⟨by omega, by omega⟩, .inl ⟨rfl, rfl, ((Keep.drew _ w).trans (keep_setCells b off _ _ _ _ (by omega) (by omega)) fun _ _ _ h => h).trans (keep_setCells b off _ vs _ _ (by omega) (by omega)) fun _ _ _ h => h⟩⟩
      refine cells_app (cells_app ?_ ?_) ?_
      · grind [cells_set_out, cells_take]
      · rw [htl]; exact cells_set_at fun j hj => (hr1 _ ⟨rfl, by omega, by omega⟩).1
      · rw [List.length_append, htl, hvl, ← hik]
        exact cells_set_out (cells_set_at fun j hj => (hr' _ ⟨rfl, by omega, by omega⟩).1) (.inr (by omega))
    · refine (hG b off n c i vb cs vs w hlt hnc (by omega) hb hcl hvl hc hvs h1c h1v).mono ?_
      rintro e w' ⟨rfl, rfl⟩
      obtain ⟨ROW, hROW⟩ : ∃ ROW : Array Value, ROW = (cs.take (i * k)).toArray ++ Builtin.zeroCells z.cells (n + 1 - i) ++ Builtin.zeroCells z.cells (grownCap w (n + 1) c el - (n + 1)) := ⟨_, rfl⟩
      rw [← hROW]
      have hsz : ROW.size = grownCap w (n + 1) c el * k := by
        rw [hROW, Array.size_append, Array.size_append, size_zeroCells, size_zeroCells, hz, List.size_toArray, htl, ← Nat.add_mul, ← Nat.add_mul]
        grind
      have hgk : (n + 1) * k ≤ grownCap w (n + 1) c el * k := Nat.mul_le_mul_right _ hgc
      have hcN : ∀ j, (w.alloc (.cells ROW el)).cell? ⟨w.heap.size, j, none⟩ = ROW[j]? := fun j => World.cell?_alloc_at (w := w) ROW _ w.heap.size j rfl
      have hr0 : Row (w.alloc (.cells ROW el)).drew w.heap.size 0 (grownCap w (n + 1) c el * k) := fun o ho => by
        obtain ⟨_, _, h3⟩ := ho
        simp_all
      have hc0 : CellsAt (w.alloc (.cells ROW el)).drew w.heap.size 0 (cs.take (i * k)) := fun j v hj => by
        show (w.alloc (.cells ROW el)).cell? _ = _
        grind
      have hr1 := row_set (o' := i * k) (vs := vs) hr0 ⟨by omega, by omega⟩
      have hr1' : Row ((w.alloc (.cells ROW el)).drew.setCells w.heap.size (i * k) vs).drew w.heap.size 0 (grownCap w (n + 1) c el * k) := hr1
      refine ⟨w.heap.size, 0, _, rfl, hgc, hgm, ?_, row_set hr1' ⟨by omega, by omega⟩, .inr ⟨Nat.le_refl _, keep_setNew _ (Nat.le_refl _) ((keep_setNew _ (Nat.le_refl _) ((Keep.alloc _ _ _).trans (Keep.drew _ _) fun _ _ _ h => h)).trans (Keep.drew _ _) fun _ _ _ h => h)⟩⟩
      refine cells_app (cells_app ?_ ?_) ?_
      · exact cells_set_out (show CellsAt _ _ _ _ from cells_set_out hc0 (.inl (by omega))) (.inl (by omega))
      · rw [htl, Nat.zero_add]
        refine cells_set_out (show CellsAt _ _ _ _ from cells_set_at fun j hj => ?_) (.inl (by omega))
        (simp_all;omega)
      · rw [List.length_append, htl, hvl, ← hik, Nat.zero_add]
        exact cells_set_at fun j hj => (hr1' _ ⟨rfl, by omega, by omega⟩).1
/-! ### slices.Insert of one element as a function of ours -/
/-- A row of one element that has just been written out: nothing else is in its block, nothing of it is frozen. -/
def cLit {α : Type} [Rep α] (s : AC) (x : α) : Chunk where
  P w F := ∃ b cs, s = ⟨some ⟨b, 0, none⟩, 1⟩ ∧ b < w.heap.size ∧ (∀ o, w.frozen? ⟨b, o, none⟩ = false) ∧ CellsAt w b 0 cs ∧ (∀ w, Rep.own w cs x F0) ∧ ∀ b' o, F b' o ↔ b' = b
  keep := fun ⟨b, cs, h1, h2, h3, h4, h5, h6⟩ hk hd => ⟨b, cs, h1, Nat.lt_of_lt_of_le h2 hk.size, fun o => (hk.frz b o h2).trans (h3 o), fun j v hj => (hk.cell b _ h2 fun hg => hd b _ ((h6 b _).2 rfl) hg).trans (h4 j v hj), h5, h6⟩
  lt := fun ⟨b, cs, h1, h2, h3, h4, h5, h6⟩ hF => by grind
def cLs {α : Type} [Rep α] (s : AC) (v : List α) : Chunk where
  P w F := ∃ x, v = [x] ∧ (cLit s x).P w F
  keep := fun ⟨x, h1, h2⟩ hk hd => ⟨x, h1, (cLit s x).keep h2 hk hd⟩
  lt := fun ⟨x, _, h2⟩ hF => (cLit s x).lt h2 hF
def insL {α : Type} (l : List α) (i : Int) (v : List α) : Option (List α) := need (0 ≤ i ∧ i ≤ (l.length : Int) ∧ l.length + v.length ≤ 1073741824) (some (l.take i.toNat ++ v ++ l.drop i.toNat))
theorem own_all1 {α : Type} [Rep α] {w : World} {cs : List Value} {x : α} (h : Rep.own w cs x F0) : OwnAll w cs [x] F0 := ⟨cs, [], F0, F0, (List.append_nil _).symm, h, ⟨rfl, fun _ _ h => h⟩, fun _ _ h => h.elim, fun _ _ => by simp [F0]⟩
theorem all_flat {α : Type} [Rep α] [Flat α] {w w' : World} : ∀ {l : List α} {cs : List Value} {F : Foot}, OwnAll w cs l F → OwnAll w' cs l F0
  | [], cs, F, h => ⟨h.1, fun _ _ h => h⟩
  | x :: r, cs, F, ⟨c1, c2, F1, F2, e, h1, h2, hd, hF⟩ => ⟨c1, c2, F0, F0, e, flat_own h1, all_flat h2, fun _ _ h => h.elim, fun _ _ => by simp [F0]⟩
theorem all_one {α : Type} [Rep α] {w : World} : ∀ {l : List α} {cs : List Value} {F : Foot}, OwnAll w cs l F → ∀ v ∈ cs, v.oneCell' = true
  | [], cs, F, h, v, hv => by rw [h.1] at hv; cases hv
  | x :: r, cs, F, ⟨c1, c2, F1, F2, e, h1, h2, hd, hF⟩, v, hv => by
    rw [e] at hv
    exact (List.mem_append.1 hv).elim (Rep.rd_one (Rep.own_rd h1) v) (all_one h2 v)
theorem insW {P : Program} {κ : Ctx} {f : FuncId} {α : Type} [Rep α] [Flat α] {k : Nat} (hn : Rep.n α = k) (hk : 0 < k) (hC : InsC P f k) (hcall : ∀ args w, (callFunc f args).run P w = .ok (.enter f args) w) {s v : List α} {i : Int} {s1 s2 : AC} :
    VS P κ f (insL s i v) [.h s1 s.length, .i .i64 i, .h s2 v.length] [] [ow s1 s, .o (cLs s2 v)] (fun r (y : AC) => .h y r.length) (fun r y => [ow y r]) := fun r hr => by
  unfold insL at hr
  obtain ⟨⟨hi0, hi1, hb⟩, hr⟩ := needE hr
  obtain ⟨j, rfl⟩ : ∃ j : Nat, i = j := ⟨i.toNat, by omega⟩
  rw [Int.toNat_natCast] at hr
  cases hr
  refine ⟨hcall, fun vs hv hS => ?_⟩
  simp [mapO, toV, gV, cellV] at hv
  subst hv
  obtain ⟨⟨R, h1, h2⟩, h0⟩ := hS
  have h1 : St κ κ.w0 [cOwn [s1.v s.length] s, cLs s2 v] R := by grind [chd]
  obtain ⟨F, S, ⟨F1, F2, hs1, ⟨F3, F4, hs2, _, _, hF34⟩, hdj, _⟩, _⟩ := h1.sep
  obtain ⟨x, rfl, vb, cv, rfl, hvb, hvf, hvc, hvo, hvF⟩ := hs2
  have hs1 : Rep.own κ.w0 [s1.v s.length] s F1 := hs1
  obtain ⟨a, c, he, hl1, hl2, hrest⟩ := own_iff.1 hs1
  obtain ⟨sa, sc⟩ := s1
  simp only [AC.v, Value.slice.injEq, true_and] at he
  obtain ⟨rfl, rfl⟩ := he
  have hvl : cv.length = k := by rw [← hn]; exact Rep.rd_len (Rep.own_rd (hvo κ.w0))
  have hv1 : ∀ v ∈ cv, v.oneCell' = true := Rep.rd_one (Rep.own_rd (hvo κ.w0))
  -- the cells of s
  obtain ⟨cs, hcl, hc1, hrow, hall⟩ : ∃ cs, cs.length = s.length * k ∧ (∀ v ∈ cs, v.oneCell' = true) ∧ ((sa = none ∧ sc = 0) ∨ ∃ b off, sa = some ⟨b, off, none⟩ ∧ Row κ.w0 b off (sc * k) ∧ CellsAt κ.w0 b off cs ∧ (0 < sc → vb ≠ b)) ∧ ∀ w, OwnAll w cs s F0 := by
    rcases hrest with ⟨rfl, rfl, _⟩ | ⟨b, off, cc, Fe, rfl, hr, hc, ho, _, hF⟩
    · have hsn : s = [] := List.eq_nil_of_length_eq_zero (by omega)
      subst hsn
      exact ⟨[], by simp, by simp, .inl ⟨rfl, rfl⟩, fun _ => ⟨rfl, fun _ _ h => h⟩⟩
    · rw [hn] at hr hF
      refine ⟨cc, by rw [← hn]; exact ho.length, all_one ho, .inr ⟨b, off, rfl, hr, hc, fun h0 e => ?_⟩, fun _ => all_flat ho⟩
      subst e
      have hk : 0 < sc * k := Nat.mul_pos h0 hk
      exact hdj vb off ((hF vb off).2 (.inl ⟨rfl, Nat.le_refl _, by omega⟩)) ((hF34 vb off).2 (.inl ((hvF vb off).2 rfl)))
  refine (hC sa s.length sc j vb cs cv κ.w0 (by omega) hl1 hl2 hb hcl hvl hvc hc1 hv1 hvf hrow).mono ?_
  rintro e w' ⟨b, o, c', rfl, hlc, hcm, hcc, hrw, hkk⟩
  have hlen : (s.take j ++ [x] ++ s.drop j).length = s.length + 1 := by grind
  refine ⟨_, rfl, ⟨some ⟨b, o, none⟩, c'⟩, by grind [toV, gV, cellV], ⟨R, ?_, by simp [roF]⟩, h0⟩
  have hcs : ∀ w, OwnAll w (cs.take (j * k) ++ cv ++ cs.drop (j * k)) (s.take j ++ [x] ++ s.drop j) F0 := fun w => by
    have h := hall w
    rw [← List.take_append_drop j s] at h
    obtain ⟨c1, c2, G1, G2, e, k1, k2, _, _⟩ := OwnAll.split h
    have hl : c1.length = j * k := by rw [k1.length, hn, List.length_take]; grind
    rw [e, List.take_left' hl, List.drop_left' hl, List.append_assoc, List.append_assoc]
    exact OwnAll.app (all_flat k1) (show OwnAll w (cv ++ c2) ([x] ++ s.drop j) F0 from OwnAll.app (own_all1 (hvo w)) (all_flat k2) (fun _ _ h => h.elim) fun _ _ => by simp [F0]) (fun _ _ h => h.elim) fun _ _ => by simp [F0]
  have := h1.repl (w' := w') [0, 1] rfl (A' := [cOwn [(⟨some ⟨b, o, none⟩, c'⟩ : AC).v (s.take j ++ [x] ++ s.drop j).length] (s.take j ++ [x] ++ s.drop j)]) (fun F hF => by
    obtain ⟨F1', F2', q1, q2, q3, q4⟩ := hF
    have q1 : Rep.own κ.w0 [_] s F1' := q1
    have hown : Rep.own w' [(⟨some ⟨b, o, none⟩, c'⟩ : AC).v (s.take j ++ [x] ++ s.drop j).length] (s.take j ++ [x] ++ s.drop j) (inRow b o (c' * k)) :=
      own_iff.2 ⟨_, c', rfl, by omega, hcm, .inr ⟨b, o, _, F0, rfl, by grind, hcc, hcs w', fun _ _ h => h.elim, fun b' o' => by grind [F0]⟩⟩
    rcases hkk with ⟨rfl, rfl, hK⟩ | ⟨hnew, hK⟩
    · obtain ⟨a', c'', he', _, _, hr'⟩ := own_iff.1 q1
      simp only [AC.v, Value.slice.injEq, true_and] at he'
      obtain ⟨rfl, rfl⟩ := he'
      rcases hr' with ⟨h, _⟩ | ⟨b2, o2, cc2, Fe2, h, _, _, _, _, hF2⟩
      · cases h
      · cases h
        rw [hn] at hF2
        exact ⟨_, _, hK, fun b' o' g => (q4 b' o').2 (.inl ((hF2 b' o').2 (.inl g))), Sep.one.2 hown, fun b' o' g => .inl ((q4 b' o').2 (.inl ((hF2 b' o').2 (.inl g))))⟩
    · exact ⟨_, F0, hK, fun _ _ h => h.elim, Sep.one.2 hown, fun b' o' g => .inr (by obtain ⟨rfl, _⟩ := g; exact hnew)⟩)
  exact this.sel [2] rfl
/-! ### The literal -/
section
variable {P : Program} {T : TT} {hT : TOk P T} {n : Nat} {c : Ctx} {B0 : Bl} {N : Act → World → Prop} {X : Nat → Act → World → Prop} {Q : Act → World → Prop} {K K' : List Fr} {m m' : Nat} {e e' : SE} {L L' Lv : List Ch} {cf cf' cf1 cf2 : Cfg} {o : Oper} {d : Nat}
variable {x : Operand} {t t2 el sz : Nat} {b1 b2 b3 : Bool} {n1 n2 n3 : Nat} {z1 z2 z3 : List SV}
theorem ltL {α : Type} [Rep α] [Flat α] (E : CO α) (y : E.ex) (q : α) {zv : Value} (hinf : Inf P el sz zv) (hs : stq T n K cf m e L = .op o Lv cf1 cf2 K' m' e' L') (ho : (o.op, o.dst) = (.buildSlice t 1 #[(0, x)], some d)) (ht : lkT T t = some ⟨.sl el, b1, n1, z1⟩) (hn : Rep.n α = sz) (hm : Nat.ble 1 sz = true) (hsm : Nat.ble (1 * sz) 16777216 = true) (hev : mapO (fun p => (evS e' p.2).map fun v => nbL (cellsS v)) [((0 : Nat), x)] = some ([q].map fun q => E.cs q y)) (hec : ([q].all fun q => Nat.beq (E.cs q y).length sz && (mapO (cellV []) (E.cs q y)).isSome) = true) (hL : ∀ q, E.Lx q y = [])
    (k : ∀ s' : AC, G (.mk P T hT n c B0 N X Q) K' m' ((d, .h s' [q].length) :: e') (L' ++ [.o (cLs s' [q])]) cf2) : G (.mk P T hT n c B0 N X Q) K m e L cf := by
  refine estp (l := [q]) (fun s' => L' ++ [.o (cLs s' [q])]) hs (congrArg Prod.snd ho) (fun _ => frz_app _) (fun B a w hA hS => ?_) k
  obtain ⟨⟨R, s1, s2⟩, s0⟩ := hS
  obtain ⟨vs, cells, g1, g2, g3, g4, g5⟩ := lits E y (sz := sz) hA hL hev hec
  obtain ⟨v, rfl⟩ : ∃ v, vs = [v] := by
    match vs, g2 with
    | [v], _ => simp
  obtain ⟨ti, hi, hz, hsz, hby⟩ := hinf
  obtain ⟨h1, h2⟩ := g5.get hn
  have hcl : cells.length = sz := by grind
  have hc := lit_fill (len := 1) (m := sz) (vs := [v]) (ps := [(0, x)]) (F := fun i => (if 1 * sz = 0 then #[] else zv.cells)[i % (if 1 * sz = 0 then #[] else zv.cells).size]!) rfl rfl g3 g4
  have hu := undL ht hT
  have hm0 : ¬ 1 * sz = 0 := by (simp_all;omega)
  have hsm' : ¬ 1 * sz > 2 ^ 24 := by simp_all
  refine ⟨⟨some ⟨w.heap.size, 0, none⟩, 1⟩, w.alloc (.cells cells.toArray el), fun _ a hA' => ?_, ⟨R, ?_, fun z hz => ?_⟩, s0⟩
  · have hps : a.eval x = v := by
      have := evs_map hA' g1
      grind
    have ho' := congrArg Prod.fst ho
    simp only at ho'
    simp only [hm0, if_false] at hc
    have hm1 : ¬ sz = 0 := by omega
    have hs1 : ¬ sz > 16777216 := by omega
    simp only [Nat.one_mul, hm1, if_false] at hc
    simp [execOp, ho', Instr.buildSlice, run_underlying hu, sizeOf, typeInfo, zeroValue, hi, hz, hsz, hps, hm1, hs1, AC.v]
    simp_all [newRow]
  · have := s1.more (Keep.alloc F0 w (.cells cells.toArray el)) (ch := cLs ⟨some ⟨w.heap.size, 0, none⟩, 1⟩ [q]) ⟨fun b _ => b = w.heap.size, ⟨q, rfl, w.heap.size, cells, rfl, by simp, fun o => World.frozen?_alloc_at (w := w) _ _ w.heap.size o rfl, fun j v hj => ?_, fun w' => ?_, fun _ _ => Iff.rfl⟩, fun b o hb => Nat.le_of_eq hb.symm⟩
    · grind [chd]
    · simp_all
    · have := h2 0 q rfl
      rw [show seg cells sz 0 = cells by unfold seg; grind] at this
      grind [Flat.own_of]
  · rcases List.mem_append.1 hz with hz | hz
    · grind
    · simp at hz; subst hz; trivial
end
end Go.Gv
end
section
/-
  The chunks that a call or a closing takes away, looked at in one pass (blk sets one behind another: each look doubles the work).
-/
set_option linter.unusedVariables false
set_option linter.unusedSectionVars false
namespace Go.Gv
def memN (k : Nat) : List Nat → Bool
  | [] => false
  | a :: r => match Nat.beq k a with
    | true => true
    | false => memN k r
def blkF (is : List Nat) : Nat → List Ch → List Ch
  | _, [] => []
  | k, x :: r => match memN k is with
    | true => .no :: blkF is (k + 1) r
    | false => x :: blkF is (k + 1) r
theorem blkF_nil : ∀ (L : List Ch) (k : Nat), blkF [] k L = L
  | [], _ => rfl
  | x :: L, k => by simp only [blkF, memN, blkF_nil L]
theorem memN_ne {k i : Nat} (r : List Nat) (h : k ≠ i) : memN k (i :: r) = memN k r := by
  grind [Nat.eq_of_beq_eq_true, memN]
theorem memN_eq (i : Nat) (r : List Nat) : memN i (i :: r) = true := by
  simp only [memN, Nat.beq_refl]
theorem blkF_lt (i : Nat) (r : List Nat) : ∀ (L : List Ch) (k : Nat), i < k → blkF (i :: r) k L = blkF r k L
  | [], _, _ => rfl
  | x :: L, k, h => by
    simp only [blkF, memN_ne r (show k ≠ i by omega), blkF_lt i r L (k + 1) (by omega)]
theorem blkF_set (i : Nat) (r : List Nat) : ∀ (L : List Ch) (k : Nat), k ≤ i → blkF (i :: r) k L = blkF r k (L.set (i - k) .no)
  | [], _, _ => rfl
  | x :: L, k, h => by
    by_cases e : k = i
    · subst e
      rw [Nat.sub_self]
      grind [blkF, memN_eq, blkF_lt]
    · obtain ⟨d, hd⟩ : ∃ d, i - k = d + 1 := ⟨i - k - 1, by omega⟩
      have h2 : i - (k + 1) = d := by omega
      rw [hd]
      simp only [List.set, blkF, memN_ne r e, blkF_set i r L (k + 1) (by omega), h2]
theorem blk_eq : ∀ (is : List Nat) (L : List Ch), blk L is = blkF is 0 L
  | [], L => (blkF_nil L 0).symm
  | i :: r, L => by
    rw [blkF_set i r L 0 (Nat.zero_le _), Nat.sub_zero]
    exact blk_eq r _
section
variable {P : Program} {T : TT} {hT : TOk P T} {n : Nat} {c : Ctx} {B0 : Bl} {N : Act → World → Prop} {X : Nat → Act → World → Prop} {Q : Act → World → Prop} {K K' : List Fr} {m m' : Nat} {e e' : SE} {L L' Lv : List Ch} {cf cf' cf1 cf2 : Cfg} {o : Oper}
variable {α β ex : Type} {fo : Option α} {kf : α → Option β} {q : β} {d : Option Nat} {f : FuncId} {xs xs0 : List SV} {M : List Ch} {sv : α → ex → SV} {Lr : α → ex → List Ch}
theorem cwW3F {c1 c2 c3 : List SV} {a1 a2 a3 : α → ex → List SV} (i1 n1 o1 k1 : Nat) (i2 n2 o2 k2 : Nat) (i3 n3 o3 k3 : Nat) (is : List Nat)
    (hs : cpS (stq T n K cf m e L) = some (o, d, f, xs, cf1, cf2, K', m', e', L')) (hb : getB L' [(i1, n1, o1, k1), (i2, n2, o2, k2), (i3, n3, o3, k3)] = some [c1, c2, c3]) (hi : mapO (fun i => L'[i]?) is = some M) (hx : mapO (rnP [(i1, n1, o1, k1), (i2, n2, o2, k2), (i3, n3, o3, k3)] 0) xs = some xs0)
    (hk : (allO M && ([c1, c2, c3].all (okN.okC 0) && (apartB (i1 :: i2 :: i3 :: is) && (i1 :: i2 :: i3 :: is).all fun j => notIn j cf1.frz))) = true)
    (hc : ∀ {κ : Ctx}, HG c κ L' (i1 :: i2 :: i3 :: is) → ∀ {b1 b2 b3 : Nat × Nat}, VS P κ f fo xs0 [b1, b2, b3] (.box 0 c1 :: .box 1 c2 :: .box 2 c3 :: M) sv (fun x y => .box 0 (a1 x y) :: .box 1 (a2 x y) :: .box 2 (a3 x y) :: Lr x y))
    (k : ∀ x, ∀ y : ex, W (G (.mk P T hT n c B0 N X Q) K' m' (dse d (sv x y) e') (putB L' (blkF (i1 :: i2 :: i3 :: is) 0 L' ++ Lr x y) [(i1, n1, o1, k1), (i2, n2, o2, k2), (i3, n3, o3, k3)] [a1 x y, a2 x y, a3 x y]) cf2) q (kf x)) (hn : ∀ x y, (lenP [(i1, n1, o1, k1), (i2, n2, o2, k2), (i3, n3, o3, k3)] [a1 x y, a2 x y, a3 x y] && ([a1 x y, a2 x y, a3 x y].all (okN.okC 0) && (allO (Lr x y) && okN 0 (sv x y)))) = true := by exact fun _ _ => rfl) : W (G (.mk P T hT n c B0 N X Q) K m e L cf) q (fo.bind kf) :=
  cwW3 i1 n1 o1 k1 i2 n2 o2 k2 i3 n3 o3 k3 is hs hb hi hx hk hc (fun x y => by grind [blk_eq]) hn
end
end Go.Gv
end
section
/-
  Calls whose result is known beforehand (orders of operands): the call, and nothing more to say of what it yields.
-/
set_option linter.unusedVariables false
set_option linter.unusedSectionVars false
namespace Go.Gv
section
variable {P : Program} {T : TT} {hT : TOk P T} {n : Nat} {c : Ctx} {B0 : Bl} {N : Act → World → Prop} {X : Nat → Act → World → Prop} {Q : Act → World → Prop} {K K' : List Fr} {m m' : Nat} {e e' : SE} {L L' Lv : List Ch} {cf cf' cf1 cf2 : Cfg} {o : Oper}
variable {α : Type} {fo : Option α} {d : Nat} {f : FuncId} {xs : List SV} {v : α}
theorem kc0 {sv : α → SV} (hA : fo = some v) (hs : stq T n K cf m e L = .call o (some d) f xs cf1 cf2 K' m' e' L')
    (hc : ∀ {w}, HS c w L' → V0 P (cxAll w) f fo xs sv) (k : G (.mk P T hT n c B0 N X Q) K' m' ((d, sv v) :: e') L' cf2) : G (.mk P T hT n c B0 N X Q) K m e L cf :=
  c0 (kf := some) (q := v) hs hc (fun x hx => by grind) (rb hA)
theorem kc1 {ex : Type} {sv : α → ex → SV} {Lf : α → ex → List Ch} (hA : fo = some v) (hs : stq T n K cf m e L = .call o (some d) f xs cf1 cf2 K' m' e' L')
    (hc : ∀ {w}, HS c w L' → VS P (cxAll w) f fo xs [] [] sv Lf) (k : ∀ y : ex, G (.mk P T hT n c B0 N X Q) K' m' ((d, sv v y) :: e') (L' ++ Lf v y) cf2) (hn : ∀ x y, noF (Lf x y) = true := by exact fun _ _ => rfl) : G (.mk P T hT n c B0 N X Q) K m e L cf :=
  c1 (kf := some) (q := v) hs hc (fun x y hx => by grind) hn (rb hA)
end
end Go.Gv
end
section
/-
  Slices of slices that are ours: an element is a header, and what lies behind it.
-/
set_option linter.unusedVariables false
set_option linter.unusedSectionVars false
namespace Go.Gv
def oL {α : Type} [Rep α] : CO (List α) := cL.o (fun x y => [ow y x]) (fun h => by cases h; exact op_own) (fun _ _ => rfl) (fun _ _ _ => rfl)
end Go.Gv
end
section
/-
  Slices that are looked at alone, ours or not: headers in a literal, results that may be another's; what is ours leaked; Grow at nil. Nothing of a program here.
-/
set_option linter.unusedVariables false
set_option linter.unusedSectionVars false
namespace Go.Gv
/-- A header alone. -/
structure AH where
  s : AC
  n : Nat
instance : Rep AH := Rep.flat (fun x => x.s.v x.n) fun _ => rfl
instance : Flat AH := ⟨fun h => ⟨h, fun _ _ h => h⟩, fun h => h.2⟩
def cAH : Cel AH := ⟨Unit, fun x _ => [.h x.s x.n], fun _ _ _ _ => True, fun h => ⟨(), by cases h; rfl, trivial⟩, fun x _ => .h x.s x.n, fun _ _ _ => trivial⟩
def oAH : CO AH := cAH.o (fun _ _ => []) (fun h => by cases h; exact op_flat rfl) (fun _ _ => rfl) (fun _ _ _ => rfl)
/-- Looked at through what was there at the beginning of κ, and through memory of ours. -/
def cBr (κ : Ctx) {α : Type} [Rep α] (s : AC) (d : List α) : Chunk where
  P w F := (∀ b o, F b o → b < w.heap.size) ∧ ∀ w', (∀ b o, F b o → w'.cell? ⟨b, o, none⟩ = w.cell? ⟨b, o, none⟩) → (∀ b o, κ.S0 b o → w'.cell? ⟨b, o, none⟩ = κ.w0.cell? ⟨b, o, none⟩) → Rep.rd (fun b o => κ.S0 b o ∨ F b o) w' [s.v d.length] d
  keep := by
    rintro w w' F G ⟨h1, h2⟩ hk hd
    exact ⟨fun b o hF => Nat.lt_of_lt_of_le (h1 b o hF) hk.size, fun w2 g2 g3 => h2 w2 (fun b o hF => (g2 b o hF).trans (hk.cell b o (h1 b o hF) fun hg => hd b o hF hg)) g3⟩
  lt h hF := h.1 _ _ hF
theorem cBr_a {κ : Ctx} {α : Type} [Rep α] {s : AC} {d : List α} (h : RdA κ s d) (w : World) : (cBr κ s d).P w F0 := ⟨fun _ _ h => h.elim, fun w' _ h3 => Rep.rd_mono (Rep.rd_agree h h3) fun _ _ h => .inl h⟩
theorem cBr_o {κ : Ctx} {α : Type} [Rep α] {s : AC} {d : List α} {w : World} {F : Foot} (h : (cOwn [s.v d.length] d).P w F) : (cBr κ s d).P w F := ⟨fun _ _ hF => (cOwn [s.v d.length] d).lt h hF, fun w' h2 _ => Rep.rd_mono (Rep.rd_agree (Rep.own_rd h) h2) fun _ _ h => .inr h⟩
def AHs (c : Ctx) {α : Type} [Rep α] : List AH → List (List α) → Prop
  | [], [] => True
  | q :: qs, d :: ds => (q.n = d.length ∧ RdA c q.s d) ∧ AHs c qs ds
  | _, _ => False
theorem AHs.get {c : Ctx} {α : Type} [Rep α] : ∀ {qs : List AH} {ds : List (List α)}, AHs c qs ds → qs.length = ds.length ∧ ∀ (i : Nat) (h1 : i < qs.length) (h2 : i < ds.length), qs[i].n = ds[i].length ∧ RdA c qs[i].s ds[i]
  | [], [], _ => ⟨rfl, fun i h => by simp at h⟩
  | q :: qs, d :: ds, h => by
    obtain ⟨a, b⟩ := h.2.get
    refine ⟨by simp [a], fun i h1 h2 => ?_⟩
    cases i with
    | zero => exact h.1
    | succ i => grind
/-- A row of headers of ours, read as what they lead to. -/
theorem cBr_l {κ : Ctx} {α : Type} [Rep α] {s : AC} {qs : List AH} {ds : List (List α)} {w : World} {F : Foot} (h : (cOwn [s.v qs.length] qs).P w F) (ha : AHs κ qs ds) : (cBr κ s ds).P w F := by
  refine ⟨fun _ _ hF => (cOwn [s.v qs.length] qs).lt h hF, fun w' h2 h3 => ?_⟩
  obtain ⟨hl, hg⟩ := ha.get
  obtain ⟨ad, c, e, g1, g2, g3⟩ := (show rdSlice F w' [s.v qs.length] qs from Rep.rd_agree (Rep.own_rd h) h2)
  refine ⟨ad, c, by grind, hl ▸ g1, g2, ?_⟩
  rcases g3 with g3 | ⟨b, off, rfl, g3⟩
  · grind
  · refine .inr ⟨b, off, rfl, fun i hi => ?_⟩
    obtain ⟨ec, q1, q2, q3⟩ := g3 i (by omega)
    obtain ⟨p1, p2⟩ := hg i (by omega) hi
    have q3 : ec = [(qs[i]'(by omega)).s.v (qs[i]'(by omega)).n] := q3
    refine ⟨ec, q1, fun o ho => .inr (q2 o ho), ?_⟩
    rw [q3, p1]
    exact Rep.rd_mono (Rep.rd_agree p2 h3) fun _ _ h => .inl h
theorem HS.b {c : Ctx} {L : List Ch} {w : World} {α : Type} [Rep α] {s : AC} {d : List α} (h : HS c w L) (i : Nat) (hi : L[i]? = some (.o (cBr c s d))) : RdA (cxAll w) s d := by
  obtain ⟨B, hS⟩ := h.ex
  obtain ⟨⟨R, s1, _⟩, s0⟩ := id hS
  obtain ⟨F, hF⟩ := s1.chunk i (ch := cBr c s d) (by rw [List.getElem?_map, hi]; rfl)
  have := hF.2 w (fun _ _ _ => rfl) (fun b o hb => s1.keep.cell b o (s0 b o hb) fun hw => s1.apart b o hw hb)
  exact Rep.rd_mono this fun b o h => h.elim (S0_All hS b o) (hF.1 b o)
section
variable {P : Program} {T : TT} {hT : TOk P T} {n : Nat} {c : Ctx} {B0 : Bl} {N : Act → World → Prop} {X : Nat → Act → World → Prop} {Q : Act → World → Prop} {K K' : List Fr} {m m' : Nat} {e e' : SE} {L L' : List Ch} {cf cf' cf1 cf2 : Cfg} {o : Oper}
theorem chI (j : Nat) {x y : Chunk} (hs : cfgS (stq T n K cf m e L) = some (K', cf', m', e', L')) (hj : L'[j]? = some (.o x)) (hz : notIn j cf'.frz = true) (h : ∀ w F, x.P w F → y.P w F)
    (k : G (.mk P T hT n c B0 N X Q) K' m' e' (L'.set j (.o y)) cf') : G (.mk P T hT n c B0 N X Q) K m e L cf := by
  refine go hs (chg (fun _ : Unit => m') (fun _ => e') (fun _ => L'.set j (.o y)) (fun B a w hm hA hS => ?_) (fun _ => frz_set1 hz) (fun _ => k))
  obtain ⟨⟨R, s1, s2⟩, s0⟩ := hS
  refine ⟨(), [], by grind, by grind, ⟨⟨R, ?_, fun z hz => ?_⟩, s0⟩⟩
  · rw [List.append_nil, List.map_set]
    exact s1.imp (ImpL.put j (by rw [List.getElem?_map, hj]; rfl) fun F hF => h w F hF)
  · rw [List.append_nil]
    rcases List.mem_or_eq_of_mem_set hz with hz | hz
    · grind
    · subst hz; trivial
/-- A literal of slices that are known: looked at alone. -/
theorem brL {α : Type} [Rep α] (j : Nat) {s : AC} {qs : List AH} {ds : List (List α)} (ha : AHs c qs ds) (hs : cfgS (stq T n K cf m e L) = some (K', cf', m', e', L')) (hj : L'[j]? = some (ow s qs)) (hz : notIn j cf'.frz = true)
    (k : G (.mk P T hT n c B0 N X Q) K' m' e' (L'.set j (.o (cBr c s ds))) cf') : G (.mk P T hT n c B0 N X Q) K m e L cf := chI j hs hj hz (fun _ _ h => cBr_l h ha) k
/-- What is handed back: ours .. -/
theorem brO {κ : Ctx} {α : Type} [Rep α] (j : Nat) {s : AC} {d : List α} (hs : cfgS (stq T n K cf m e L) = some (K', cf', m', e', L')) (hj : L'[j]? = some (ow s d)) (hz : notIn j cf'.frz = true)
    (k : G (.mk P T hT n c B0 N X Q) K' m' e' (L'.set j (.o (cBr κ s d))) cf') : G (.mk P T hT n c B0 N X Q) K m e L cf := chI j hs hj hz (fun _ _ h => cBr_o h) k
/-- .. or another's. -/
theorem brA {κ : Ctx} {α : Type} [Rep α] {s : AC} {d : List α} (h : RdA κ s d) (hs : cfgS (stq T n K cf m e L) = some (K', cf', m', e', L'))
    (k : G (.mk P T hT n c B0 N X Q) K' m' e' (L' ++ [.o (cBr κ s d)]) cf') : G (.mk P T hT n c B0 N X Q) K m e L cf := by
  refine go hs (chg (fun _ : Unit => m') (fun _ => e') (fun _ => L' ++ [.o (cBr κ s d)]) (fun B a w hm hA hS => ?_) (fun _ => frz_app _) (fun _ => k))
  obtain ⟨⟨R, s1, s2⟩, s0⟩ := hS
  refine ⟨(), [], by grind, by grind, ⟨⟨R, ?_, fun z hz => ?_⟩, s0⟩⟩
  · rw [List.append_nil, List.map_append]
    exact St.more s1 (Keep.refl _ _) ⟨F0, cBr_a h w, fun _ _ h => h.elim⟩
  · rw [List.append_nil]
    rcases List.mem_append.1 hz with hz | hz
    · grind
    · simp at hz; subst hz; trivial
end
end Go.Gv
end
section
/-
  From here on what is ours is looked at alone: the context of what follows. Nothing of a program here.
-/
set_option linter.unusedVariables false
set_option linter.unusedSectionVars false
namespace Go.Gv
section
variable {P : Program} {T : TT} {hT : TOk P T} {n : Nat} {c c' : Ctx} {B0 : Bl} {N N' : Act → World → Prop} {X : Nat → Act → World → Prop} {Q Q' : Act → World → Prop} {K K' : List Fr} {m m' : Nat} {e e' : SE} {L L' : List Ch} {cf : Cfg}
theorem NX_mono (hN : ∀ a w, N' a w → N a w) (hQ : ∀ a w, Q' a w → Q a w) : ∀ K : List Fr, (∀ a w, NK (.mk P T hT n c' B0 N' X Q') K a w → NK (.mk P T hT n c B0 N X Q) K a w) ∧ ∀ i a w, XK (.mk P T hT n c' B0 N' X Q') K i a w → XK (.mk P T hT n c B0 N X Q) K i a w
  | [] => ⟨hN, fun _ _ _ h => h⟩
  | .s y :: K => by
    obtain ⟨h1, h2⟩ := NX_mono hN hQ K
    exact ⟨fun a w h => CW.mono h h1 h2 hQ, h2⟩
  | .k j :: K => by
    obtain ⟨h1, h2⟩ := NX_mono hN hQ K
    refine ⟨h1, fun i a w h => ?_⟩
    simp only [XK, xcons] at h ⊢
    grind
theorem lkC {α β ρ ex γ : Type} [Rep α] [Rep β] {fn : Func} {rs : List ResultVar} {hr : fn.results = rs.toArray} {sv : ρ → ex → SV} {Lf : ρ → ex → List Ch} {r : ρ} {q : γ} {zz : Option γ} {x : Code} (j : Nat) {s : AC} {us : List α} {d : List β}
    (hx : ∀ S w, (∀ b o, c.S0 b o → S b o) → (∀ b o, c.S0 b o → w.cell? ⟨b, o, none⟩ = c.w0.cell? ⟨b, o, none⟩) → Rep.rd S w [s.v us.length] us → Rep.rd S w [s.v d.length] d)
    (hs : cfgS (stq T n K cf m e L) = some (K', .c x, m', e', L')) (hj : L'[j]? = some (ow s us))
    (k : ∀ {c' : Ctx}, (∀ {α : Type} [Rep α] {s : AC} {d : List α}, RdA c s d → RdA c' s d) → RdA c' s d → W (G (.mk P T hT n c' B0 (QR P fn hr c' B0 sv Lf r) (fun _ _ _ => False) (QR P fn hr c' B0 sv Lf r)) K' m' e' (L'.set j .no) (.c x)) q zz)
    (hn : ∀ r y, noF (Lf r y) = true := by exact fun _ _ => rfl) : W (G (.mk P T hT n c B0 (QR P fn hr c B0 sv Lf r) (fun _ _ _ => False) (QR P fn hr c B0 sv Lf r)) K m e L cf) q zz := fun hF => by
  refine go hs fun a w ⟨B, hm, hA, hS⟩ => ?_
  obtain ⟨⟨R, s1, s2⟩, s0⟩ := id hS
  obtain ⟨F, S, a1, a2, a3, a4, a5, a6⟩ := s1.sep
  obtain ⟨Fj, Fr, b1, b2, b3, b4⟩ := (Sep.take (c := cOwn [s.v us.length] us) (i := j) (by rw [List.getElem?_map, hj]; rfl)).1 a1
  have hdS : ∀ b o, F b o → ¬ c.S0 b o := fun b o hf h0 => (a3 b o hf).elim (fun h => s1.apart b o h h0) fun h => by grind
  let c2 : Ctx := ⟨w, Fr, fun b o => c.S0 b o ∨ Fj b o ∨ S b o⟩
  have hlt : ∀ b o, c2.S0 b o → b < w.heap.size := fun b o h => h.elim (fun h => Nat.lt_of_lt_of_le (s0 b o h) s1.keep.size) fun h => h.elim (fun h => (cOwn [s.v us.length] us).lt b1 h) (a5 b o)
  have hag : ∀ b o, c.S0 b o → w.cell? ⟨b, o, none⟩ = c.w0.cell? ⟨b, o, none⟩ := fun b o h => s1.keep.cell b o (s0 b o h) fun hw => s1.apart b o hw h
  have ap : c2.W.disj c2.S0 := fun b o h1 h2 => h2.elim (fun h => hdS b o ((b4 b o).2 (.inr h1)) h) fun h => h.elim (fun h => b3 b o h h1) fun h => a2 b o ((b4 b o).2 (.inr h1)) h
  have st2 : StS c2 w (B0 ++ B) (L'.set j .no) := by
    refine ⟨⟨R, ⟨Keep.refl _ _, ⟨Fr, S, ?_, fun b o h1 h2 => a2 b o ((b4 b o).2 (.inr h1)) h2, fun b o h => .inl h, fun b o h => .inl (.inr (.inr h)), a5, a6⟩, ap⟩, fun z hz => ?_⟩, hlt⟩
    · rw [List.map_set]; exact b2
    · rcases List.mem_or_eq_of_mem_set hz with hz | hz
      · grind
      · subst hz; trivial
  have rdc : ∀ {α : Type} [Rep α] {s : AC} {d : List α}, RdA c s d → RdA c2 s d := fun h => Rep.rd_mono (Rep.rd_agree h hag) fun _ _ h => .inl h
  have rdj : RdA c2 s d := hx _ _ (fun _ _ h => .inl h) hag (Rep.rd_mono (Rep.own_rd b1) fun _ _ h => .inr (.inl h))
  have out : ∀ a w, QR P fn hr c2 B0 sv Lf r a w → QR P fn hr c B0 sv Lf r a w := fun a w2 ⟨hd, v, hv, y, h1, h2⟩ => by
    obtain ⟨⟨R2, t1, _⟩, _⟩ := h2
    obtain ⟨F2, S2, e1, e2, e3, e4, e5, e6⟩ := t1.sep
    refine ⟨hd, v, hv, y, h1, ⟨⟨[], ⟨s1.keep.trans t1.keep fun b o hb h => ?_, ⟨F2, F0, e1, fun _ _ _ h => h, fun b o h => ?_, fun _ _ h => h.elim, fun _ _ h => h.elim, fun f hf => by cases hf⟩, s1.apart⟩, noF_ok (hn r y)⟩, s0⟩⟩
    · grind
    · rcases e3 b o h with h | h
      · grind
      · exact .inr (Nat.le_trans s1.keep.size h)
  obtain ⟨m1, m2⟩ := NX_mono (P := P) (T := T) (hT := hT) (n := n) (c := c) (c' := c2) (B0 := B0) (X := fun _ _ _ => False) out out K'
  exact CW.mono (k rdc rdj hF a w ⟨B, hm, hA, st2⟩) m1 m2 out
end
theorem raw_hx {c : Ctx} {α : Type} [Rep α] (h1 : Rep.n α = 1) {s : AC} {us : List Raw} {d : List α} (hr : RawRel c.S0 c.w0 us d) : ∀ S w, (∀ b o, c.S0 b o → S b o) → (∀ b o, c.S0 b o → w.cell? ⟨b, o, none⟩ = c.w0.cell? ⟨b, o, none⟩) → Rep.rd S w [s.v us.length] us → Rep.rd S w [s.v d.length] d := fun S w hS ha h => by
  rw [← hr.1]
  exact rd_unraw h1 h ⟨hr.1, fun i u x hu hx => Rep.rd_mono (Rep.rd_agree (hr.2 i u x hu hx) ha) hS⟩
end Go.Gv
end
section
/- How to reason over 'loop', 'idx' in plain Lean. -/
namespace Go.Gv

/-- A loop that keeps Inv and whose measure falls ends in Post. -/
theorem loop_ind {σ ρ : Type} {f : σ → Option (Step σ ρ)} (μ : σ → Nat) (Inv : σ → Prop) (Post : ρ → Prop)
    (h : ∀ s, Inv s → (∃ o, f s = some (.stop o) ∧ Post o) ∨ (∃ s', f s = some (.next s') ∧ Inv s' ∧ μ s' < μ s)) : ∀ s, Inv s → ∃ o, loop f s = some o ∧ Post o := by
  intro s
  induction hn : μ s using Nat.strongRecOn generalizing s with
  | _ n ih =>
    grind [loop_stop, loop_next]
/-- The same where the outcome is a function of where it stands. -/
theorem loop_eq {σ ρ : Type} {f : σ → Option (Step σ ρ)} (μ : σ → Nat) (Inv : σ → Prop) (g : σ → ρ)
    (h : ∀ s, Inv s → f s = some (.stop (g s)) ∨ (∃ s', f s = some (.next s') ∧ Inv s' ∧ μ s' < μ s ∧ g s = g s')) : ∀ s, Inv s → loop f s = some (g s) := by
  intro s
  induction hn : μ s using Nat.strongRecOn generalizing s with
  | _ n ih =>
    grind [loop_stop, loop_next]

theorem idx_eq {α : Type} {l : List α} {i : Int} (h0 : 0 ≤ i) (h1 : i < l.length) : idx l i = some (l[i.toNat]'(by omega)) := by
  simp_all [idx]
theorem idx_nat {α : Type} {l : List α} {k : Nat} (h1 : k < l.length) : idx l (k : Int) = some l[k] := by
  simp [idx]
theorem need_yes {α : Type} {p : Prop} [Decidable p] (h : p) (k : Option α) : need p k = k := by simp_all [need]
theorem w64_id {x : Int} (h : -9223372036854775808 ≤ x ∧ x ≤ 9223372036854775807) : w64 x = x := by
  grind [IntKind.wrap, IntKind.bits, IntKind.signed]
theorem w64_nat {x : Nat} (h : x < maxLen) : w64 ((x : Int) + 1) = ((x + 1 : Nat) : Int) := by
  have h2 : x < 9223372036854775807 := h
  grind [w64_id]

/-- A loop over an index that may leave early: what it says once it stands at k. -/
theorem scan_eq {ρ : Type} {f : Int → Option (Step Int ρ)} (n : Nat) (g : Nat → ρ)
    (h : ∀ k : Nat, k ≤ n → f k = some (.stop (g k)) ∨ (k < n ∧ f k = some (.next ((k + 1 : Nat) : Int)) ∧ g k = g (k + 1))) : ∀ k : Nat, k ≤ n → loop f (k : Int) = some (g k) := by
  intro k hk
  obtain ⟨d, rfl⟩ : ∃ d, n = k + d := ⟨n - k, by omega⟩
  induction d generalizing k with
  | zero =>
    grind [loop_stop]
  | succ d ih =>
    rcases h k hk with h1 | ⟨h1, h2, h3⟩
    · exact loop_stop h1
    grind [loop_next]

/-- A loop that lays element by element what it makes of a slice's. -/
theorem copy_loop {α β : Type} {body : List β × Int → Option (Step (List β × Int) (List β))} (l : List α) (h : α → β) (z : β)
    (hb : ∀ (acc : List β) (k : Nat) (hk : k < l.length), acc.length = l.length → body (acc, (k : Int)) = some (.next (acc.set k (h l[k]), ((k + 1 : Nat) : Int))))
    (hs : ∀ acc : List β, body (acc, (l.length : Int)) = some (.stop acc)) : loop body (List.replicate l.length z, 0) = some (l.map h) := by
  have key : ∀ (d k : Nat) (acc : List β), k + d = l.length → acc.length = l.length → (∀ i, i < k → acc[i]? = (l.map h)[i]?) → loop body (acc, (k : Int)) = some (l.map h) := by
    intro d
    induction d with
    | zero =>
      intro k acc hk hl hi
      obtain rfl : k = l.length := by omega
      rw [loop_stop (hs acc)]
      congr 1
      apply List.ext_getElem?
      intro i
      by_cases h1 : i < l.length
      · exact hi i h1
      · rw [List.getElem?_eq_none (by omega), List.getElem?_eq_none (by simp; omega)]
    | succ d ih =>
      intro k acc hk hl hi
      rw [loop_next (hb acc k (by omega) hl)]
      refine ih (k + 1) _ (by omega) (by simpa using hl) fun i h2 => ?_
      by_cases h3 : i = k
      · subst h3; rw [List.getElem?_set_self (by omega)]; simp [show i < l.length by omega]
      · rw [List.getElem?_set_ne (by omega)]; exact hi i (by omega)
  exact key l.length 0 _ (by omega) (by simp) fun i h => by omega

theorem idx_none {α : Type} {l : List α} {i : Int} (h : ¬ (0 ≤ i ∧ i < l.length)) : idx l i = none := by
  grind [idx]
theorem lt_max {α : Type} {l : List α} {k : Nat} (h : k < l.length) (hm : l.length ≤ maxLen) : k < maxLen := by omega
def growN (α : Type) (n : Int) : Option (List α) := need (0 ≤ n ∧ n ≤ 1073741824) (if decide (n < 0) = true then none else if decide (0 < w64 (n - w64 (0 - 0))) = true then some [] else some [])
end Go.Gv
end
section
/-
  slices.Grow at nil, step by step; local arrays of 24 Bools. Nothing of a program here.
-/
set_option linter.unusedVariables false
set_option linter.unusedSectionVars false
namespace Go.Gv
section
variable {P : Program} {T : TT} {hT : TOk P T} {n : Nat} {c : Ctx} {B0 : Bl} {N : Act → World → Prop} {X : Nat → Act → World → Prop} {Q : Act → World → Prop} {K K' : List Fr} {m m' : Nat} {e e' : SE} {L L' Lv : List Ch} {cf cf1 cf2 : Cfg} {o : Oper} {d : Nat}
variable {x y z : Operand} {t t2 el sz : Nat} {zv : Value} {b1 b2 : Bool} {n1 n2 : Nat} {z1 z2 : List SV} {kt : TK} {k2 : IntKind}
theorem qcn (hs : opS (stq T n K cf m e L) = some (o, Lv, cf1, cf2, K', m', e', L')) (ho : (o.op, o.dst) = (.call { callee := .builtin .cap, args := #[x], argTypes := #[t] }, some d)) (hx : evS e' x = some (.h ⟨none, 0⟩ 0)) (ht : lkT T t = some ⟨.sl el, b1, n1, z1⟩)
    (kk : G (.mk P T hT n c B0 N X Q) K' m' ((d, .i .i64 0) :: e') L' cf2) : G (.mk P T hT n c B0 N X Q) K m e L cf :=
  pu hs (congrArg Prod.snd ho) (fun B a w hA _ => by
    obtain ⟨v, h1, h2⟩ := evS_ok hA hx
    cases h1
    exact ⟨.int .i64 0, rfl, rv_capnil (undL ht hT) (congrArg Prod.fst ho) h2⟩) kk
theorem qn0 (hs : opS (stq T n K cf m e L) = some (o, Lv, cf1, cf2, K', m', e', L')) (ho : (o.op, o.dst) = (.slice t x none (some z) none, some d)) (hx : evS e' x = some (.h ⟨none, 0⟩ 0)) (hz : (evS e' z).bind numI = some (k2, 0)) (ht : lkT T t = some ⟨.sl el, b1, n1, z1⟩) (he : lkT T el = some ⟨kt, b2, sz, z2⟩)
    (kk : G (.mk P T hT n c B0 N X Q) K' m' ((d, .h ⟨none, 0⟩ 0) :: e') L' cf2) : G (.mk P T hT n c B0 N X Q) K m e L cf :=
  pu hs (congrArg Prod.snd ho) (fun B a w hA _ => by
    obtain ⟨v, h1, h2⟩ := evS_ok hA hx
    cases h1
    exact ⟨.slice none 0 0, rfl, rv_sub0 (n := sz) ⟨_, _, _, rfl⟩ (undL ht hT) (hT.size _ _ he) (congrArg Prod.fst ho) h2 (numB hA hz)⟩) kk
theorem apZ {i : Int} (hb : 1 ≤ i ∧ i ≤ 1073741824) (hinf : Inf P el sz zv) (hs : stq T n K cf m e L = .op o Lv cf1 cf2 K' m' e' L') (ho : (o.op, o.dst) = (.call { callee := .builtin .append, args := #[x, y], argTypes := #[t, t2] }, some d)) (ht : lkT T t = some ⟨.sl el, b1, n1, z1⟩) (ht2 : lkT T t2 = some ⟨.i k2, b2, n2, z2⟩) (hzs : zv.cells.size = sz) (hm : Nat.ble 1 sz = true) (hx : evS e' x = some (.h ⟨none, 0⟩ 0)) (hy : (evS e' y).bind numI = some (.i64, i))
    (k : ∀ s' : AC, G (.mk P T hT n c B0 N X Q) K' m' ((d, .h s' (List.replicate i.toNat (0 : Int)).length) :: e') (L' ++ [.o (cRow (s'.v (List.replicate i.toNat (0 : Int)).length) sz)]) cf2) : G (.mk P T hT n c B0 N X Q) K m e L cf := by
  refine estp (l := List.replicate i.toNat (0 : Int)) (fun s' => L' ++ [.o (cRow (s'.v (List.replicate i.toNat (0 : Int)).length) sz)]) hs (congrArg Prod.snd ho) (fun _ => frz_app _) (fun B a w hA hS => ?_) k
  obtain ⟨⟨R, s1, s2⟩, s0⟩ := hS
  obtain ⟨v, h1, h2⟩ := evS_ok hA hx
  cases h1
  obtain ⟨u, g1, g2⟩ := hT.und _ _ ht2
  subst g2
  obtain ⟨v, w', k1, k2, ad, cp, rfl⟩ := rv_appZ (e := vE B e') (o := o) s1 (undL ht hT) g1 hinf hzs hm hb (congrArg Prod.fst ho) h2 (numB hA hy)
  refine ⟨⟨ad, cp⟩, w', by grind, ⟨⟨R, by grind [chd], fun z hz => ?_⟩, s0⟩⟩
  rcases List.mem_append.1 hz with hz | hz
  · grind
  · simp at hz; subst hz; trivial
theorem rn0 (α : Type) [Rep α] (j : Nat) {s : AC} {kk : Nat} (hn : Rep.n α = sz) (hs : stq T n K cf m e L = .op o Lv cf1 cf2 K' m' e' L') (ho : (o.op, o.dst) = (.slice t x none (some z) none, some d)) (hx : evS e' x = some (.h s kk)) (hz : (evS e' z).bind numI = some (k2, 0)) (ht : lkT T t = some ⟨.sl el, b1, n1, z1⟩) (he : lkT T el = some ⟨kt, b2, sz, z2⟩) (hj : L'[j]? = some (.o (cRow (s.v kk) sz))) (hfz : notIn j cf1.frz = true)
    (k : ∀ s' : AC, G (.mk P T hT n c B0 N X Q) K' m' ((d, .h s' ([] : List α).length) :: e') (L'.set j (ow s' ([] : List α))) cf2) : G (.mk P T hT n c B0 N X Q) K m e L cf := by
  refine estp (l := ([] : List α)) (fun s' => L'.set j (ow s' ([] : List α))) hs (congrArg Prod.snd ho) (fun _ => frz_set1 hfz) (fun B a w hA hS => ?_) k
  obtain ⟨⟨R, s1, s2⟩, s0⟩ := hS
  obtain ⟨v, h1, h2⟩ := evS_ok hA hx
  cases h1
  have k2 := s1.rowNil (α := α) j (by rw [List.getElem?_map, hj]; rfl) hn
  refine ⟨s.sub sz 0, w, rv_sub0 (n := sz) ⟨_, _, _, rfl⟩ (undL ht hT) (hT.size _ _ he) (congrArg Prod.fst ho) h2 (numB hA hz), ⟨⟨R, ?_, fun z hz => ?_⟩, s0⟩⟩
  · rw [List.map_set]; exact k2
  · rcases List.mem_or_eq_of_mem_set hz with hz | hz
    · grind
    · subst hz; trivial
end
theorem ah2 {c : Ctx} {α : Type} [Rep α] {q1 q2 : AH} {d1 d2 : List α} (h1 : q1.n = d1.length ∧ RdA c q1.s d1) (h2 : q2.n = d2.length ∧ RdA c q2.s d2) : AHs c [q1, q2] [d1, d2] := And.intro h1 (And.intro h2 trivial)
theorem rwX {C : Prop} {c : Ctx} {α : Type} [Rep α] (hn : Rep.n α = 1) {s : AC} {d : List α} (h : RdA c s d) (k : ∀ us : List Raw, RdA c s us → RawRel c.S0 c.w0 us d → C) : C := by
  obtain ⟨us, h1, h2⟩ := rd_raw hn h
  refine k us ?_ h2
  unfold RdA
  rw [h2.1]; exact h1
theorem growB {n : Int} (hn : 0 ≤ n ∧ n ≤ 1073741824) (hb : decide (0 < w64 (n - w64 (0 - 0))) = true) : 1 ≤ w64 (n - w64 (0 - 0)) ∧ w64 (n - w64 (0 - 0)) ≤ 1073741824 := by
  grind [w64_id]
end Go.Gv
end
section
/-
  A local array of 24 Bools that is indexed by what is not known. Nothing of a program here.
-/
set_option linter.unusedVariables false
set_option linter.unusedSectionVars false
namespace Go.Gv
theorem frc_some {α : Type} : ∀ l : List α, frc l = some l
  | [] => rfl
  | x :: l => by simp only [frc, frc_some l]
theorem nbL_set (x : SV) : ∀ (cs : List SV) (i : Nat), nbL (cs.set i x) = (nbL cs).set i (nb1 x)
  | [], _ => rfl
  | y :: cs, 0 => rfl
  | y :: cs, i + 1 => by simp only [List.set_cons_succ, nbL, nbL_set x cs i]
def aB (l : List Bool) : List SV := [.b (l.getD 0 false), .b (l.getD 1 false), .b (l.getD 2 false), .b (l.getD 3 false), .b (l.getD 4 false), .b (l.getD 5 false), .b (l.getD 6 false), .b (l.getD 7 false), .b (l.getD 8 false), .b (l.getD 9 false), .b (l.getD 10 false), .b (l.getD 11 false), .b (l.getD 12 false), .b (l.getD 13 false), .b (l.getD 14 false), .b (l.getD 15 false), .b (l.getD 16 false), .b (l.getD 17 false), .b (l.getD 18 false), .b (l.getD 19 false), .b (l.getD 20 false), .b (l.getD 21 false), .b (l.getD 22 false), .b (l.getD 23 false)]
theorem aB_get {l : List Bool} {i : Nat} (h : i < 24) : (aB l)[i]? = some (.b (l.getD i false)) := by
  have : (aB l).length = 24 := rfl
  rcases i with _ | _ | _ | _ | _ | _ | _ | _ | _ | _ | _ | _ | _ | _ | _ | _ | _ | _ | _ | _ | _ | _ | _ | _ | i <;> first | rfl | omega
theorem aB_set {l : List Bool} {i : Nat} (h : i < 24) (hl : i < l.length) (u : Bool) : (aB l).set i (.b u) = aB (l.set i u) := by
  refine List.ext_getElem? fun k => ?_
  have e : (aB l).length = 24 := rfl
  by_cases hk : k < 24
  · rw [aB_get hk, List.getElem?_set]
    by_cases q : i = k
    · grind
    · rw [if_neg q, aB_get hk]; grind
  simp_all [aB]
section
variable {P : Program} {T : TT} {hT : TOk P T} {n : Nat} {c : Ctx} {B0 : Bl} {N : Act → World → Prop} {X : Nat → Act → World → Prop} {Q : Act → World → Prop} {K K' : List Fr} {m m' : Nat} {e e' : SE} {L L' : List Ch} {cf cf1 cf2 : Cfg} {o : Oper} {Lv : List Ch} {d : Nat}
variable {x y : Operand} {t el : TypeId} {k : IntKind} {i : Int} {β : Type} {A : Option β} {kf : Bool → Option β} {q : β} {n1 b0 : Nat} {l : List Bool}
theorem elP {B : Bl} {b z i : Nat} (hw : B[b0]? = some (b, z)) : toV B (.p b0 i) = toV B (.e ⟨some ⟨b, z, none⟩, 0⟩ 1 i 0) := by
  simp [toV, gV, cellV, hw, elB, elO]
/-- The address of an element. -/
theorem qia (hu : P.underlying t = some (.array 24 el)) (hz : ∀ w, (sizeOf el).run P w = .ok 1 w) (hs : stq T n K cf m e L = .op o Lv cf1 cf2 K' m' e' L') (ho : (o.op, o.dst) = (.indexAddr t x y, some d)) (hx : evS e' x = some (.p b0 0)) (hy : (evS e' y).bind numI = some (k, i)) (hF : need (0 ≤ i ∧ i < 24) A = some q)
    (kk : 0 ≤ i ∧ i < 24 → A = some q → ∀ b z : Nat, G (.mk P T hT n c B0 N X Q) K' m' ((d, .e ⟨some ⟨b, z, none⟩, 0⟩ 1 i.toNat 0) :: e') (L' ++ [.w b0 b z]) cf2) : G (.mk P T hT n c B0 N X Q) K m e L cf := by
  have hb := (needE hF).1
  have hd : o.dst = some d := congrArg Prod.snd ho
  refine stq_ok (g := .mk P T hT n c B0 N X Q) ?_
  rw [hs]
  intro hdn _ hE
  refine hE (Nat × Nat) (fun _ => m') (fun s => (d, .e ⟨some ⟨s.1, s.2, none⟩, 0⟩ 1 i.toNat 0) :: e') (fun s => L' ++ [.w b0 s.1 s.2]) (fun _ => frz_app _) (fun B a w next Q' hm hA hS hnext => ?_) (fun s => kk hb (needE hF).2 s.1 s.2)
  obtain ⟨v, h1, h2⟩ := evS_ok hA hx
  have h3 := numB hA hy
  simp only [toV, gV, cellV] at h1
  split at h1
  · rename_i b z hbz
    cases h1
    have hw : (B0S (.mk P T hT n c B0 N X Q) cf1 ++ B)[b0]? = some (b, z) := hbz
    have hrun : RunV P o (vE (B0S (.mk P T hT n c B0 N X Q) cf1 ++ B) e') w (.pointer (some ⟨b, z + i.toNat, none⟩)) w := fun _ a' hA' => by
      have ho' : o.op = .indexAddr t x y := congrArg Prod.fst ho
      have h5 : (⟨b, z, none⟩ : Addr).add i.toNat = ⟨b, z + i.toNat, none⟩ := by
        grind [Addr.add]
      simp [execOp, ho', Instr.indexAt, hA'.eval h2, hA'.eval h3, asIntOf, run_underlying hu, Instr.sureAddr, hb.1, hb.2, hz, h5]
    unfold Oper.wp
    rw [hrun _ a hA.env, Oper.upon_value, hd]
    obtain ⟨⟨R, s1, s2⟩, s0⟩ := hS
    refine hnext (b, z) _ _ ⟨[], by grind, by simpa using hA.of (by simp [toV, gV, cellV, elB, elO]) (hA.env.put (by grind [dstOk, Nat.blt_eq]) _), ?_⟩
    rw [List.append_nil]
    refine ⟨⟨R, by rw [List.map_append]; exact st_addNo s1, fun z hz => ?_⟩, s0⟩
    rcases List.mem_append.1 hz with hz | hz
    · grind
    · simp at hz; subst hz; exact hw
  · cases h1
/-- What lies there. -/
theorem qal {tk : TK} {zz : Nat} {z1 : List SV} {b z : Nat} (p : Nat) (h24 : 0 ≤ i ∧ i < 24) (hs : opS (stq T n K cf m e L) = some (o, Lv, cf1, cf2, K', m', e', L')) (ho : (o.op, o.dst) = (.load t x, some d)) (hx : evS e' x = some (.e ⟨some ⟨b, z, none⟩, 0⟩ 1 i.toNat 0)) (hp : Lv[p]? = some (.w b0 b z)) (hb : boxOf b0 Lv = some (aB l)) (ht : lkT T t = some ⟨tk, false, zz, z1⟩) (hF : (idx l i).bind kf = some q)
    (kk : ∀ u, kf u = some q → G (.mk P T hT n c B0 N X Q) K' m' ((d, .b u) :: e') L' cf2) : G (.mk P T hT n c B0 N X Q) K m e L cf := by
  cases hi : idx l i with
  | none => grind
  | some u =>
    rw [hi] at hF
    refine pu hs (congrArg Prod.snd ho) (fun B a w hA hS => ?_) (kk u hF)
    obtain ⟨v, h1, h2⟩ := evS_ok hA hx
    have hw : B[b0]? = some (b, z) := by
      obtain ⟨⟨R, _, s2⟩, _⟩ := id hS
      exact s2 _ (List.mem_of_getElem? hp)
    refine loadS_ok (a := .p b0 i.toNat) (r := .b u) hT hS (congrArg Prod.fst ho) h2 ((elP hw).trans h1) ?_
    simp only [loadS, hb, ht]
    rw [aB_get (by omega), List.getD_eq_getElem?_getD, (idx_some hi).2.2]; rfl
theorem evS_c {v : SV} {y : Operand} (h : evS [] y = some v) (e : SE) : evS e y = some v := by
  cases y <;> first | exact h | grind [evS, lkS]
/-- A store there. -/
theorem qas {tk : TK} {ag : Bool} {z1 : List SV} {u : Bool} {b z k0 : Nat} (p : Nat) (h24 : 0 ≤ i ∧ i < 24) (hs : stq T n K cf m e L = .op o Lv cf1 cf2 K' m' e' L') (ho : (o.op, o.dst) = (.store t (.tmp k0) y, none)) (hx : lkS e' k0 = some (.e ⟨some ⟨b, z, none⟩, 0⟩ 1 i.toNat 0)) (hy : evS [] y = some (.l u)) (hp : L'[p]? = some (.w b0 b z)) (hib : isBox b0 L' = true) (hb : boxOf b0 L' = some (aB l)) (ht : lkT T t = some ⟨tk, ag, 1, z1⟩) (hz : noD cf1 = true) (hF : (idx l i).bind kf = some q)
    (kk : ∀ v, kf v = some q → G (.mk P T hT n c B0 N X Q) K' m' e' (setBox b0 (aB (l.set i.toNat u)) L') cf2) : G (.mk P T hT n c B0 N X Q) K m e L cf := by
  cases hi : idx l i with
  | none => grind
  | some v =>
    rw [hi] at hF
    obtain ⟨i0, i1, i2⟩ := idx_some hi
    have hlt : i.toNat < l.length := by omega
    have ho' : o.op = .store t (.tmp k0) y := congrArg Prod.fst ho
    have hd : o.dst = none := congrArg Prod.snd ho
    have hst : storeS T t (.p b0 i.toNat) (.l u) L' = some (setBox b0 ((aB l).set i.toNat (.l u)) L') := by
      have e1 : Nat.beq 1 1 = true := rfl
      have e2 : Nat.ble (i.toNat + 1) (aB l).length = true := by rw [Nat.ble_eq]; show i.toNat + 1 ≤ 24; omega
      have e3 : cellsS (.l u) = [.l u] := rfl
      have e4 : isCells (.l u) = true := rfl
      simp only [storeS, hib, hb, ht, e3, e4, List.length_singleton, e1, e2, frc_some]
      simp_all [ovw_eq, putS]
    refine stq_ok (g := .mk P T hT n c B0 N X Q) ?_
    rw [hs]
    intro hdn _ hE
    refine hE Unit (fun _ => m') (fun _ => e') (fun _ => setBox b0 (aB (l.set i.toNat u)) L') (fun _ => ?_) (fun B a w next Q' hm hA hS hnext => ?_) (fun _ => kk v hF)
    · cases cf1 with
      | d _ _ _ _ _ _ => cases hz
      | o _ _ _ _ _ _ _ => cases hz
      | _ => trivial
    · have hw : (B0S (.mk P T hT n c B0 N X Q) cf1 ++ B)[b0]? = some (b, z) := by
        obtain ⟨⟨R, _, s2⟩, _⟩ := id hS
        exact s2 _ (List.mem_of_getElem? hp)
      have hA2 : AEnvS n (B0S (.mk P T hT n c B0 N X Q) cf1 ++ B) ((k0, .p b0 i.toNat) :: e') a := ⟨hA.d, hA.size, fun k' x' hk => by
        simp only [lkS] at hk
        split at hk
        · rename_i hq
          cases hk
          have := Nat.eq_of_beq_eq_true hq
          subst this
          obtain ⟨v, g1, g2⟩ := hA.get k' _ hx
          grind [elP]
        · exact hA.get k' x' hk⟩
      obtain ⟨w', k1, k2⟩ := storeS_ok hT hA2 hS ho' (by simp [evS, lkS]) (evS_c hy _) hst
      unfold Oper.wp
      rw [k1 _ a hA2.env, Oper.upon_skip, hd]
      refine hnext () _ _ ⟨[], by grind, by rw [List.append_nil]; exact ⟨hA.d, hA.size, hA.get⟩, ?_⟩
      rw [List.append_nil]
      obtain ⟨j, cs, g1, g2, g3⟩ := isBox_at hib
      rw [g3] at k2 ⊢
      obtain ⟨⟨R, s1, s2⟩, s0⟩ := k2
      have e0 : ∀ B : Bl, mapO (cellV B) ((aB l).set i.toNat (.l u)) = mapO (cellV B) (aB (l.set i.toNat u)) := fun B => by
        rw [← aB_set (by omega) hlt, ← nbL_map, ← nbL_map (cs := (aB l).set i.toNat (.b u)), nbL_set, nbL_set]; rfl
      refine ⟨⟨R, ?_, fun z hz => ?_⟩, s0⟩
      · rw [List.map_set] at s1 ⊢
        refine s1.imp (ImpL.set j (ImpL.refl _) fun F ⟨b, z, vs, q1, q2, q3⟩ => ⟨b, z, vs, q1, (e0 _).symm.trans q2, q3⟩)
      · obtain ⟨k, hk⟩ := List.getElem?_of_mem hz
        by_cases hkj : j = k
        · subst hkj
          rw [List.getElem?_set] at hk
          simp only [if_true] at hk
          split at hk
          · cases hk; trivial
          · cases hk
        · exact s2 z (List.mem_of_getElem? (i := k) (by grind))
end
end Go.Gv
end
