/-
  Control flow and operations under an environment of slots: the rules that a printed walk applies. Nothing of a program here.
-/
import Derived.Test.YtpndngnohcffnaaGreatGvBase
import Derived.LoopN
namespace Go.Gv

/-! ### Slots -/
abbrev Env := List (Nat × Value)
def lk : Env → Nat → Option Value
  | [], _ => none
  | (k, v) :: e, n => match Nat.beq n k with
    | true => some v
    | false => lk e n
structure AEnv (n : Nat) (e : Env) (a : Act) : Prop where
  d : a.defers = []
  size : a.tmps.size = n
  get : ∀ k v, lk e k = some v → a.tmps[k]? = some v
def ev (e : Env) : Operand → Option Value
  | .tmp t => lk e t
  | .const v => some v
  | .global g => some (.pointer (some ⟨g, 0, none⟩))
  | .func f => some (.func (.func f) #[] #[])
theorem AEnv.eval {n : Nat} {e : Env} {a : Act} {x : Operand} {v : Value} (h : AEnv n e a) (hx : ev e x = some v) : a.eval x = v := by
  cases x with
  | tmp t =>
    have := h.get t v hx
    show a.tmps.getD t undef = v
    rw [Array.getD_eq_getD_getElem?, this]; rfl
  | const u => simpa [ev, Act.eval] using hx
  | global g => simpa [ev, Act.eval] using hx
  | func f => simpa [ev, Act.eval] using hx
theorem AEnv.put {n d : Nat} {e : Env} {a : Act} (h : AEnv n e a) (hd : d < n) (v : Value) : AEnv n ((d, v) :: e) (a.put (some d) v) := by
  refine ⟨h.d, by simp [Act.put, h.size], fun k u hk => ?_⟩
  simp only [lk] at hk
  show (a.tmps.setIfInBounds d v)[k]? = some u
  by_cases e1 : k = d
  · subst e1
    have : Nat.beq k k = true := by simp
    rw [this] at hk
    simp at hk
    rw [Array.getElem?_setIfInBounds_self_of_lt (by rw [h.size]; exact hd), hk]
  · have : Nat.beq k d = false := by cases hb : Nat.beq k d with
      | false => rfl
      | true => exact absurd (Nat.eq_of_beq_eq_true hb) e1
    rw [this] at hk
    rw [Array.getElem?_setIfInBounds_ne (Ne.symm e1)]
    exact h.get k u hk
/-- e' is part of e. -/
def Has (e : Env) : Env → Prop
  | [] => True
  | (k, v) :: r => lk e k = some v ∧ Has e r
theorem Has.get {e : Env} : ∀ {e' : Env} {k : Nat} {v : Value}, Has e e' → lk e' k = some v → lk e k = some v
  | [], _, _, _, h => by simp [lk] at h
  | (k', v') :: r, k, v, ⟨h1, h2⟩, h => by
    simp only [lk] at h
    cases hb : Nat.beq k k' with
    | true => rw [hb] at h; simp at h; subst h; rw [Nat.eq_of_beq_eq_true hb]; exact h1
    | false => rw [hb] at h; exact Has.get h2 h
theorem AEnv.part {n : Nat} {e e' : Env} {a : Act} (h : AEnv n e a) (hh : Has e e') : AEnv n e' a := ⟨h.d, h.size, fun k v hk => h.get k v (hh.get hk)⟩
theorem AEnv.nodefer {n : Nat} {e : Env} {a : Act} (h : AEnv n e a) : a.defers = [] := h.d

def env0 : Nat → List Value → Env
  | _, [] => []
  | k, v :: r => (k, v) :: env0 (k + 1) r
theorem env0_get (l : List Value) : ∀ (b k : Nat) (v : Value), lk (env0 b l) k = some v → b ≤ k ∧ l[k - b]? = some v := by
  induction l with
  | nil => intro b k v h; simp [env0, lk] at h
  | cons x r ih =>
    intro b k v h
    simp only [env0, lk] at h
    cases hb : Nat.beq k b with
    | true =>
      rw [hb] at h
      have := Nat.eq_of_beq_eq_true hb
      subst this
      simpa using h
    | false =>
      rw [hb] at h
      obtain ⟨h1, h2⟩ := ih (b + 1) k v h
      refine ⟨by omega, ?_⟩
      have : k - b = (k - (b + 1)) + 1 := by omega
      rw [this]; simpa using h2
theorem aenv0 (l : List Value) (n : Nat) (hn : l.length ≤ n) : AEnv n (env0 0 l) { tmps := l.toArray ++ Array.replicate (n - l.toArray.size) undef, defers := [] } := by
  refine ⟨rfl, by simp; omega, fun k v hk => ?_⟩
  obtain ⟨_, h2⟩ := env0_get l 0 k v hk
  have hlt := (List.getElem?_eq_some_iff.1 h2).1
  rw [Array.getElem?_append_left (by simpa using hlt)]
  simpa using h2

/-! ### Exits -/
def mkQ (N : Act → World → Prop) (X : Nat → Act → World → Prop) (T : Act → World → Prop) : Exit → Act → World → Prop
  | .normal, a, w => N a w
  | .exit i, a, w => X i a w
  | .ret, a, w => T a w
  | _, _, _ => False
def CW (P : Program) (c : Code) (N : Act → World → Prop) (X : Nat → Act → World → Prop) (T : Act → World → Prop) (a : Act) (w : World) : Prop := c.wp P (mkQ N X T) a w
def xcons (id : Nat) (N : Act → World → Prop) (X : Nat → Act → World → Prop) : Nat → Act → World → Prop := fun i a w => if i = id then N a w else X i a w
theorem xcons_hit {id : Nat} {N : Act → World → Prop} {X : Nat → Act → World → Prop} {a : Act} {w : World} (h : N a w) : xcons id N X id a w := by simp [xcons, h]
theorem xcons_miss {i id : Nat} {N : Act → World → Prop} {X : Nat → Act → World → Prop} {a : Act} {w : World} (hi : Nat.beq i id = false) (h : X i a w) : xcons id N X i a w := by
  unfold xcons
  rw [if_neg (fun e => by rw [e] at hi; simp at hi)]
  exact h
section
variable {P : Program} {c x y : Code} {N : Act → World → Prop} {X : Nat → Act → World → Prop} {T : Act → World → Prop} {a : Act} {w : World}
theorem CW.mono {N' : Act → World → Prop} {X' : Nat → Act → World → Prop} {T' : Act → World → Prop} (h : CW P c N X T a w) (hN : ∀ a w, N a w → N' a w) (hX : ∀ i a w, X i a w → X' i a w) (hT : ∀ a w, T a w → T' a w) : CW P c N' X' T' a w :=
  wp_mono h fun e a w q => by
    cases e <;> first | exact hN _ _ q | exact hX _ _ _ q | exact hT _ _ q | exact q
theorem cw_seq (h : CW P x (fun a w => CW P y N X T a w) X T a w) : CW P (.seq x y) N X T a w :=
  wp_seq (wp_mono h fun e a w q => by cases e <;> exact q)
theorem cw_skip (h : N a w) : CW P .skip N X T a w := wp_skip h
theorem cw_exit {id : Nat} (h : X id a w) : CW P (.exit id) N X T a w := wp_exit h
theorem cw_ret (h : T a w) : CW P .ret N X T a w := wp_ret h
theorem cw_block {id : Nat} (h : CW P c N (xcons id N X) T a w) : CW P (.block id c) N X T a w :=
  wp_block (wp_mono h fun e a w q => by cases e <;> exact q)
theorem cw_cond {o : Operand} {t : Bool} {n : Nat} {e : Env} (hA : AEnv n e a) (ho : ev e o = some (.bool t)) (ht : t = true → CW P x N X T a w) (hf : t = false → CW P y N X T a w) : CW P (.cond o x y) N X T a w :=
  wp_cond_split (hA.eval ho) ht hf
theorem cw_yes {o : Operand} {t : Bool} {n : Nat} {e : Env} (hA : AEnv n e a) (ho : ev e o = some (.bool t)) (ht : t = true) (h : CW P x N X T a w) : CW P (.cond o x y) N X T a w :=
  cw_cond hA ho (fun _ => h) (fun hf => by rw [ht] at hf; cases hf)
theorem cw_no {o : Operand} {t : Bool} {n : Nat} {e : Env} (hA : AEnv n e a) (ho : ev e o = some (.bool t)) (ht : t = false) (h : CW P y N X T a w) : CW P (.cond o x y) N X T a w :=
  cw_cond hA ho (fun hf => by rw [ht] at hf; cases hf) (fun _ => h)
theorem cw_region {id : Nat} {ops : Array Oper} (h : wpList P ops (mkQ N X T) ops.toList a w) : CW P (.region id ops false) N X T a w := wp_region_list h
end

/-! ### Loops, in the plain functions -/
inductive Step (σ ρ : Type) where
  | next (s : σ)
  | stop (r : ρ)
inductive Out (β ρ : Type) where
  | brk (s : β)
  | ret (r : ρ)
def iter {σ ρ : Type} (body : σ → Option (Step σ ρ)) : Nat → σ → Option ρ
  | 0, _ => none
  | n + 1, s => match body s with
    | none => none
    | some (.next s') => iter body n s'
    | some (.stop r) => some r
theorem iter_det {σ ρ : Type} {body : σ → Option (Step σ ρ)} : ∀ {n m : Nat} {s : σ} {r r' : ρ}, iter body n s = some r → iter body m s = some r' → r = r'
  | 0, _, _, _, _, h, _ => by simp [iter] at h
  | _ + 1, 0, _, _, _, _, h => by simp [iter] at h
  | n + 1, m + 1, s, r, r', h, h' => by
    simp only [iter] at h h'
    cases hb : body s with
    | none => rw [hb] at h; simp at h
    | some o => cases o with
      | next s' => rw [hb] at h h'; exact iter_det h h'
      | stop q => rw [hb] at h h'; simp at h h'; rw [← h, ← h']
open Classical in
noncomputable def loop {σ ρ : Type} (body : σ → Option (Step σ ρ)) (s : σ) : Option ρ :=
  if h : ∃ r, ∃ n, iter body n s = some r then some (Classical.choose h) else none
theorem loop_iff {σ ρ : Type} {body : σ → Option (Step σ ρ)} {s : σ} {r : ρ} : loop body s = some r ↔ ∃ n, iter body n s = some r := by
  unfold loop
  by_cases h : ∃ r, ∃ n, iter body n s = some r
  · rw [dif_pos h]
    obtain ⟨n, hn⟩ := Classical.choose_spec h
    constructor
    · intro e; simp at e; exact ⟨n, e ▸ hn⟩
    · rintro ⟨m, hm⟩; rw [iter_det hn hm]
  · rw [dif_neg h]
    constructor
    · intro e; simp at e
    · rintro ⟨m, hm⟩; exact absurd ⟨r, m, hm⟩ h
theorem loop_stop {σ ρ : Type} {body : σ → Option (Step σ ρ)} {s : σ} {r : ρ} (h : body s = some (.stop r)) : loop body s = some r := loop_iff.2 ⟨1, by simp [iter, h]⟩
theorem loop_next {σ ρ : Type} {body : σ → Option (Step σ ρ)} {s s' : σ} (h : body s = some (.next s')) : loop body s = loop body s' := by
  cases h2 : loop body s' with
  | some r =>
    obtain ⟨n, hn⟩ := loop_iff.1 h2
    exact loop_iff.2 ⟨n + 1, by simp [iter, h, hn]⟩
  | none =>
    cases h1 : loop body s with
    | none => rfl
    | some r =>
      obtain ⟨n, hn⟩ := loop_iff.1 h1
      cases n with
      | zero => simp [iter] at hn
      | succ n => simp only [iter, h] at hn; rw [loop_iff.2 ⟨n, hn⟩] at h2; cases h2
theorem loop_some {σ ρ : Type} {body : σ → Option (Step σ ρ)} {s : σ} {r : ρ} (h : loop body s = some r) : (∃ s', body s = some (.next s') ∧ loop body s' = some r) ∨ body s = some (.stop r) := by
  obtain ⟨n, hn⟩ := loop_iff.1 h
  cases n with
  | zero => simp [iter] at hn
  | succ n =>
    simp only [iter] at hn
    cases hb : body s with
    | none => rw [hb] at hn; simp at hn
    | some o => cases o with
      | next s' => rw [hb] at hn; exact .inl ⟨s', rfl, loop_iff.2 ⟨n, hn⟩⟩
      | stop q => rw [hb] at hn; simp at hn; rw [hn]; exact .inr rfl

/-- A loop, round by round. 'o' is what the plain body says of the round. -/
theorem cw_loop {P : Program} {c : Code} {N : Act → World → Prop} {X : Nat → Act → World → Prop} {T : Act → World → Prop} {σ ρ : Type} {body : σ → Option (Step σ ρ)} {r : ρ} (Inv : σ → Act → World → Prop)
    (round : ∀ s a w o, Inv s a w → body s = some o → (∀ q, o = .stop q → q = r) → CW P c (fun a' w' => ∃ s', o = .next s' ∧ Inv s' a' w') X T a w)
    {s : σ} (hl : loop body s = some r) {a : Act} {w : World} (h : Inv s a w) : CW P (.loop c) N X T a w := by
  obtain ⟨n, hn⟩ := loop_iff.1 hl
  refine wp_loop_rounds n ?_
  clear hl
  induction n generalizing s a w with
  | zero => simp [iter] at hn
  | succ n ih =>
    simp only [iter] at hn
    rw [rounds_succ]
    cases hb : body s with
    | none => rw [hb] at hn; simp at hn
    | some o =>
      have hr : ∀ q, o = .stop q → q = r := fun q e => by subst e; rw [hb] at hn; simpa using hn
      refine wp_mono (round s a w o h hb hr) fun e a' w' q => ?_
      cases e with
      | normal => obtain ⟨s', e, hI⟩ := q; subst e; rw [hb] at hn; exact ih hI hn
      | _ => exact q
end Go.Gv
