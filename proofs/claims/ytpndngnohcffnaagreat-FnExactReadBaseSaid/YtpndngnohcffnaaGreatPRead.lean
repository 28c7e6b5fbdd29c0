/- Numbers read from bytes. -/
import Derived.Test.YtpndngnohcffnaaGreatPShow
set_option linter.unusedVariables false
set_option linter.unusedSimpArgs false
set_option linter.unusedSectionVars false
namespace Go.Gv
theorem u8_and127 (c : UInt8) : IntKind.i64.wrap (bitsOp .and .u8 (c.toNat : Int) (((127 : UInt8).toNat : Nat) : Int)) = ((c.toNat % 128 : Nat) : Int) := by
  have hc : c.toNat < 256 := c.toNat_lt
  have h1 : bitsOp .and .u8 (c.toNat : Int) (((127 : UInt8).toNat : Nat) : Int) = ((c.toNat % 128 : Nat) : Int) := by
    show IntKind.u8.wrap ((BitVec.ofInt 8 (c.toNat : Int) &&& BitVec.ofInt 8 (((127 : UInt8).toNat : Nat) : Int)).toNat : Int) = _
    rw [BitVec.ofInt_natCast, BitVec.ofInt_natCast, BitVec.toNat_and, BitVec.toNat_ofNat, BitVec.toNat_ofNat, Nat.mod_eq_of_lt (by omega), show (127 : UInt8).toNat % 2 ^ 8 = 2 ^ 7 - 1 from rfl, and_mod]
    simp [IntKind.wrap, IntKind.bits, IntKind.signed]; omega
  rw [h1, wrap_i64 (by omega) (by omega)]
theorem pow128 {k : Nat} (h : k ≤ 7) : 128 ^ k ≤ 562949953421312 := by
  have h1 : (128 : Nat) ^ k ≤ 128 ^ 7 := Nat.pow_le_pow_right (by omega) h
  have h2 : (128 : Nat) ^ 7 = 562949953421312 := by decide
  omega
theorem pow_shift (k : Nat) : (2 : Nat) ^ (7 * k) = 128 ^ k := by rw [Nat.pow_mul]
theorem shl7 {d k : Nat} (hd : d < 128) (hk : k ≤ 6) : shlOp .i64 (d : Int) (IntKind.u64.wrap (w64 (7 * (k : Int)))) = ((d * 128 ^ k : Nat) : Int) := by
  have e1 : IntKind.u64.wrap (w64 (7 * (k : Int))) = ((7 * k : Nat) : Int) := by
    rw [w64_in (by omega) (by omega)]
    simp [IntKind.wrap, IntKind.bits, IntKind.signed]; omega
  have hp := pow128 (k := k) (by omega)
  have hm : min (7 * k) IntKind.i64.bits = 7 * k := by simp [IntKind.bits]; omega
  have hb : d * 128 ^ k ≤ 127 * 562949953421312 := Nat.mul_le_mul (by omega) hp
  unfold shlOp
  rw [e1, Int.toNat_natCast, hm]
  have : (d : Int) * 2 ^ (7 * k) = ((d * 128 ^ k : Nat) : Int) := by rw [← pow_shift]; simp
  rw [this, wrap_i64 (by omega) (by omega)]
theorem or_add {a d k : Nat} (ha : a < 128 ^ k) (hd : d < 128) (hk : k ≤ 6) : bitsOp .or .i64 (a : Int) ((d * 128 ^ k : Nat) : Int) = ((a + d * 128 ^ k : Nat) : Int) := by
  have hp := pow128 (k := k) (by omega)
  have hb : d * 128 ^ k ≤ 127 * 562949953421312 := Nat.mul_le_mul (by omega) hp
  rw [bits_or (by omega) (by omega)]
  have h2 := Nat.two_pow_add_eq_or_of_lt (i := 7 * k) (b := a) (by rw [pow_shift]; exact ha) d
  rw [pow_shift] at h2
  rw [Nat.or_comm, Nat.mul_comm d, ← h2, Nat.add_comm]
theorem min7 (s : List UInt8) : (if (7 : Int) < (s.length : Int) then (7 : Int) else (s.length : Int)) = ((min 7 s.length : Nat) : Int) := by
  split <;> omega
theorem rv_step {s : List UInt8} {a k : Nat} (hk : k < s.length) (hk7 : k < 7) (ha : a < 128 ^ k) : impl_ReadVar_l1 s ((a : Int), (k : Int)) =
    if s[k].toNat < 128 then (if 0 < k ∧ s[k].toNat = 0 then some (.stop (.brk ())) else some (.stop (.ret (((a + s[k].toNat % 128 * 128 ^ k : Nat) : Int), ((k + 1 : Nat) : Int))))) else some (.next (((a + s[k].toNat % 128 * 128 ^ k : Nat) : Int), ((k + 1 : Nat) : Int))) := by
  have e1 : ¬ IntKind.u64.wrap (w64 (7 * (k : Int))) < 0 := by
    rw [w64_in (by omega) (by omega)]
    simp [IntKind.wrap, IntKind.bits, IntKind.signed]; omega
  have e2 := shl7 (d := s[k].toNat % 128) (k := k) (by omega) (by omega)
  have e3 := or_add (a := a) (d := s[k].toNat % 128) (k := k) ha (by omega) (by omega)
  have ec : ((((128 : UInt8)).toNat : Nat) : Int) = 128 := rfl
  have ez : ((((0 : UInt8)).toNat : Nat) : Int) = 0 := rfl
  simp only [impl_ReadVar_l1, min7]
  rw [if_pos (by simp; omega), idx_nat hk]
  simp only [Option.bind_some, u8_and127, e2, e3, ec, ez, impl_ReadVar_j2]
  rw [need_yes e1, w64_in (x := (k : Int) + 1) (by omega) (by omega)]
  have d1 : decide ((s[k].toNat : Int) < 128) = decide (s[k].toNat < 128) := decide_eq_decide.2 (by omega)
  have d2 : decide ((0 : Int) < (k : Int)) = decide (0 < k) := decide_eq_decide.2 (by omega)
  have d3 : ((s[k].toNat : Int) == 0) = decide (s[k].toNat = 0) := by rw [Bool.eq_iff_iff]; simp
  rw [d1, d2, d3]
  by_cases h1 : s[k].toNat < 128 <;> by_cases h2 : 0 < k <;> by_cases h3 : s[k].toNat = 0 <;> simp [h1, h2, h3]
theorem impl_ReadVar_total (s : List UInt8) : ∃ n k : Int, impl_ReadVar s = some (n, k) ∧ 0 ≤ k ∧ k ≤ s.length := by
  have key := loop_ind (f := impl_ReadVar_l1 s) (fun q => 7 - q.2.toNat) (fun q => ∃ a k : Nat, q = ((a : Int), (k : Int)) ∧ k ≤ 7 ∧ a < 128 ^ k) (fun o => match o with | .brk _ => True | .ret r => 0 ≤ r.2 ∧ r.2 ≤ s.length) (by
    rintro q ⟨a, k, rfl, hk, ha⟩
    by_cases h : k < s.length ∧ k < 7
    · have hst := rv_step h.1 h.2 ha
      by_cases h1 : s[k].toNat < 128
      · rw [if_pos h1] at hst
        left
        by_cases h2 : 0 < k ∧ s[k].toNat = 0
        · rw [if_pos h2] at hst; exact ⟨_, hst, trivial⟩
        · rw [if_neg h2] at hst; exact ⟨_, hst, by simp only; omega, by simp only; omega⟩
      · rw [if_neg h1] at hst
        right
        refine ⟨_, hst, ⟨_, k + 1, rfl, by omega, ?_⟩, by simp only; omega⟩
        have : s[k].toNat % 128 * 128 ^ k ≤ 127 * 128 ^ k := Nat.mul_le_mul (by omega) (Nat.le_refl _)
        rw [Nat.pow_succ]; omega
    · left
      refine ⟨.brk (), ?_, trivial⟩
      simp only [impl_ReadVar_l1, min7]
      rw [if_neg (by simp; omega)]) ((0 : Nat), (0 : Nat)) ⟨0, 0, rfl, by omega, by simp⟩
  obtain ⟨o, h1, h2⟩ := key
  unfold impl_ReadVar
  rw [show (((0 : Nat) : Int), ((0 : Nat) : Int)) = (0, 0) from rfl] at h1
  rw [h1]
  cases o with
  | brk u => exact ⟨0, 0, rfl, by omega, by omega⟩
  | ret r => exact ⟨r.1, r.2, rfl, h2⟩
theorem getMid {pre t : List UInt8} {c : UInt8} {k : Nat} (hk : pre.length = k) (h : k < (pre ++ c :: t).length) : (pre ++ c :: t)[k] = c := by
  subst hk; simp
theorem ofNat_toNat {n : Nat} (h : n < 256) : (UInt8.ofNat n).toNat = n := by simp; omega
theorem rv_back : ∀ (j n : Nat) (pre t : List UInt8) (a k : Nat), n < 128 ^ (j + 1) → pre.length = k → k + j < 7 → a < 128 ^ k → (0 < k → 0 < n) →
    loop (impl_ReadVar_l1 (pre ++ (varB n ++ t))) ((a : Int), (k : Int)) = some (.ret (((a + n * 128 ^ k : Nat) : Int), ((k + (varB n).length : Nat) : Int))) := by
  intro j
  induction j with
  | zero =>
    intro n pre t a k hn hp hk ha h0
    have hn' : n < 128 := by omega
    rw [varB, if_pos hn']
    have hl : k < (pre ++ ([UInt8.ofNat n] ++ t)).length := by simp; omega
    have hst := rv_step hl (by omega) ha
    have hc : (pre ++ ([UInt8.ofNat n] ++ t))[k] = UInt8.ofNat n := getMid hp hl
    rw [hc, ofNat_toNat (by omega), if_pos hn', if_neg (by omega), Nat.mod_eq_of_lt hn'] at hst
    exact loop_stop hst
  | succ j ih =>
    intro n pre t a k hn hp hk ha h0
    by_cases hn' : n < 128
    · rw [varB, if_pos hn']
      have hl : k < (pre ++ ([UInt8.ofNat n] ++ t)).length := by simp; omega
      have hst := rv_step hl (by omega) ha
      have hc : (pre ++ ([UInt8.ofNat n] ++ t))[k] = UInt8.ofNat n := getMid hp hl
      rw [hc, ofNat_toNat (by omega), if_pos hn', if_neg (by omega), Nat.mod_eq_of_lt hn'] at hst
      exact loop_stop hst
    · rw [varB, if_neg hn']
      have hl : k < (pre ++ (UInt8.ofNat (n % 128 + 128) :: varB (n / 128) ++ t)).length := by simp; omega
      have hst := rv_step hl (by omega) ha
      have hc : (pre ++ (UInt8.ofNat (n % 128 + 128) :: varB (n / 128) ++ t))[k] = UInt8.ofNat (n % 128 + 128) := getMid hp hl
      rw [hc, ofNat_toNat (by omega), if_neg (by omega)] at hst
      rw [loop_next hst]
      have e : (n % 128 + 128) % 128 = n % 128 := by omega
      rw [e]
      have hlt : n % 128 * 128 ^ k ≤ 127 * 128 ^ k := Nat.mul_le_mul (by omega) (Nat.le_refl _)
      have hdiv : n / 128 < 128 ^ (j + 1) := by rw [Nat.pow_succ] at hn; exact Nat.div_lt_of_lt_mul (by omega)
      have := ih (n / 128) (pre ++ [UInt8.ofNat (n % 128 + 128)]) t (a + n % 128 * 128 ^ k) (k + 1) hdiv (by simp [hp]) (by omega) (by rw [Nat.pow_succ]; omega) (fun _ => by omega)
      have e2 : pre ++ [UInt8.ofNat (n % 128 + 128)] ++ (varB (n / 128) ++ t) = pre ++ (UInt8.ofNat (n % 128 + 128) :: varB (n / 128) ++ t) := by simp
      rw [e2] at this
      rw [this]
      have e3 : a + n % 128 * 128 ^ k + n / 128 * 128 ^ (k + 1) = a + n * 128 ^ k := by
        have : n / 128 * 128 ^ (k + 1) = n / 128 * 128 * 128 ^ k := by rw [Nat.pow_succ, Nat.mul_comm (128 ^ k), Nat.mul_assoc]
        rw [this, Nat.add_assoc, ← Nat.add_mul]
        congr 2; omega
      rw [e3]
      simp only [List.length_cons]
      congr 4; omega
theorem impl_ReadVar_varI {n : Int} (h0 : 0 ≤ n) (h1 : n ≤ 562949953421311) (t : List UInt8) : impl_ReadVar (varI n ++ t) = some (n, ((varI n).length : Int)) := by
  obtain ⟨k, rfl⟩ := Int.eq_ofNat_of_zero_le h0
  have e : varI (k : Int) = varB k := by unfold varI; rw [if_pos ⟨h0, h1⟩, Int.toNat_natCast]
  have := rv_back 6 k [] t 0 0 (by omega) rfl (by omega) (by simp) (fun h => absurd h (by omega))
  unfold impl_ReadVar
  rw [e]
  rw [List.nil_append, show (((0 : Nat) : Int), ((0 : Nat) : Int)) = (0, 0) from rfl] at this
  rw [this]
  simp [impl_ReadVar_m1]

/-! ### The other side -/
def valV : List UInt8 → Nat
  | [] => 0
  | c :: r => c.toNat % 128 + 128 * valV r
theorem valV_lt : ∀ l : List UInt8, valV l < 128 ^ l.length
  | [] => by simp [valV]
  | c :: r => by have := valV_lt r; simp only [valV, List.length_cons, Nat.pow_succ]; omega
theorem spec_rv_val {s : List UInt8} {k : Nat} (h1 : 1 ≤ k) (h7 : k ≤ 7) (hl : k ≤ s.length) : loop (spec_ReadVar_l3 s) (0, w64 ((k : Int) - 1)) = some ((valV (s.take k) : Nat) : Int) := by
  rw [w64_in (by omega) (by omega)]
  have key := enum_eq (f := spec_ReadVar_l3 s) k (fun j => ((((valV ((s.take k).drop (k - j)) : Nat)) : Int), (k : Int) - 1 - j)) (((valV (s.take k) : Nat)) : Int) (fun j hj => ?_) ?_
  · have e : (s.take k).drop (k - 0) = [] := List.drop_eq_nil_of_le (by simp; omega)
    simp only [e, valV] at key
    simpa using key
  · have hi : k - 1 - j < s.length := by omega
    have ei : (k : Int) - 1 - j = ((k - 1 - j : Nat) : Int) := by omega
    have hd : (s.take k).drop (k - (j + 1)) = s[k - 1 - j] :: (s.take k).drop (k - j) := by
      have e1 : k - (j + 1) = k - 1 - j := by omega
      have e2 : k - 1 - j + 1 = k - j := by omega
      rw [e1, List.drop_eq_getElem_cons (by simp; omega), e2]
      congr 1; simp
    have hv := valV_lt ((s.take k).drop (k - j))
    have hlen : ((s.take k).drop (k - j)).length = j := by simp; omega
    rw [hlen] at hv
    have hp := pow128 (k := j) (by omega)
    simp only [spec_ReadVar_l3, ei]
    rw [if_pos (by simp), idx_nat hi]
    simp only [Option.bind_some, hd, valV]
    have e4 : Int.tmod ((s[k - 1 - j].toNat : Nat) : Int) 128 = ((s[k - 1 - j].toNat % 128 : Nat) : Int) := by rw [tmod_pos (by omega)]; omega
    rw [e4, w64_in (x := ((valV ((s.take k).drop (k - j)) : Nat) : Int) * 128) (by omega) (by omega), w64_in (by omega) (by omega), w64_in (by omega) (by omega)]
    congr 3 <;> omega
  · have e : (s.take k).drop (k - k) = s.take k := by simp
    simp only [spec_ReadVar_l3, e]
    rw [if_neg (by simp; omega)]
theorem spec_rv_step {s : List UInt8} {k : Nat} (h1 : 1 ≤ k) (h7 : k ≤ 7) (hl : k ≤ s.length) : spec_ReadVar_l1 s (k : Int) = if varI (valV (s.take k)) = s.take k then some (.stop (.ret (((valV (s.take k) : Nat) : Int), (k : Int)))) else some (.next ((k + 1 : Nat) : Int)) := by
  simp only [spec_ReadVar_l1]
  rw [if_pos (by simp; omega), decide_eq_true (by omega)]
  simp only [spec_ReadVar_j2, if_true]
  rw [spec_rv_val h1 h7 hl]
  simp only [Option.bind_some, spec_ReadVar_m3, spec_ReadVar_j3, spec_Var_eq, Int.toNat_natCast]
  rw [need_yes (by omega), w64_in (by omega) (by omega)]
  by_cases q : varI (valV (s.take k)) = s.take k
  · rw [if_pos q, if_pos (by simpa using q)]
  · rw [if_neg q, if_neg (by simpa using q)]; rfl
theorem spec_rv_end {s : List UInt8} {k : Nat} (h : ¬ (k ≤ 7 ∧ k ≤ s.length)) : spec_ReadVar_l1 s (k : Int) = some (.stop (.brk ())) := by
  simp only [spec_ReadVar_l1]
  by_cases h7 : k ≤ 7
  · rw [if_pos (by simp; omega), decide_eq_false (by omega)]; rfl
  · rw [if_neg (by simp; omega)]; rfl
theorem spec_ReadVar_total (s : List UInt8) : ∃ n k : Int, spec_ReadVar s = some (n, k) ∧ 0 ≤ k ∧ k ≤ s.length := by
  have key := loop_ind (f := spec_ReadVar_l1 s) (fun q => 8 - q.toNat) (fun q => ∃ k : Nat, q = (k : Int) ∧ 1 ≤ k ∧ k ≤ 8) (fun o => match o with | .brk _ => True | .ret r => 0 ≤ r.2 ∧ r.2 ≤ s.length) (by
    rintro q ⟨k, rfl, hk, hk8⟩
    by_cases h : k ≤ 7 ∧ k ≤ s.length
    · have hst := spec_rv_step hk h.1 h.2
      by_cases h1 : varI (valV (s.take k)) = s.take k
      · rw [if_pos h1] at hst
        exact .inl ⟨_, hst, by simp only; omega, by simp only; omega⟩
      · rw [if_neg h1] at hst
        exact .inr ⟨_, hst, ⟨k + 1, rfl, by omega, by omega⟩, by omega⟩
    · exact .inl ⟨_, spec_rv_end h, trivial⟩) ((1 : Nat) : Int) ⟨1, rfl, by omega, by omega⟩
  obtain ⟨o, h1, h2⟩ := key
  unfold spec_ReadVar
  rw [show ((1 : Nat) : Int) = 1 from rfl] at h1
  rw [h1]
  cases o with
  | brk u => exact ⟨0, 0, rfl, by omega, by omega⟩
  | ret r => exact ⟨r.1, r.2, rfl, h2⟩
theorem valV_varB : ∀ n : Nat, valV (varB n) = n := by
  intro n
  induction n using Nat.strongRecOn with
  | _ n ih =>
    rw [varB]
    split
    · rename_i h; simp only [valV]; rw [ofNat_toNat (by omega)]; omega
    · rename_i h
      have := ih (n / 128) (by omega)
      simp only [valV, this]; rw [ofNat_toNat (by omega)]; omega
theorem varB_pos (n : Nat) : 0 < (varB n).length := by rw [varB]; split <;> simp
theorem varB_high : ∀ (n k : Nat) (h : k < (varB n).length), (varB n)[k].toNat < 128 ↔ k + 1 = (varB n).length := by
  intro n
  induction n using Nat.strongRecOn with
  | _ n ih =>
    intro k h
    by_cases hn : n < 128
    · have e : varB n = [UInt8.ofNat n] := by rw [varB, if_pos hn]
      simp only [e] at h ⊢
      have : k = 0 := by simpa using h
      subst this
      simp; omega
    · have e : varB n = UInt8.ofNat (n % 128 + 128) :: varB (n / 128) := by rw [varB, if_neg hn]
      simp only [e] at h ⊢
      cases k with
      | zero =>
        have := varB_pos (n / 128)
        simp only [List.getElem_cons_zero, List.length_cons]
        rw [ofNat_toNat (by omega)]; omega
      | succ k =>
        have := ih (n / 128) (by omega) k (by simpa using h)
        simp only [List.getElem_cons_succ, List.length_cons, this]; omega
theorem spec_ReadVar_varI {n : Int} (h0 : 0 ≤ n) (h1 : n ≤ 562949953421311) (t : List UInt8) : spec_ReadVar (varI n ++ t) = some (n, ((varI n).length : Int)) := by
  obtain ⟨m, rfl⟩ := Int.eq_ofNat_of_zero_le h0
  have e : varI (m : Int) = varB m := by unfold varI; rw [if_pos ⟨h0, h1⟩, Int.toNat_natCast]
  have hL : (varB m).length ≤ 7 := varB_len 6 m (by omega)
  have hpos := varB_pos m
  rw [e]
  have hin : ∀ k, k ≤ (varB m).length → (varB m ++ t).take k = (varB m).take k := fun k hk => by rw [List.take_append_of_le_length hk]
  have key : loop (spec_ReadVar_l1 (varB m ++ t)) (((0 + 1 : Nat)) : Int) = some (.ret ((m : Int), ((varB m).length : Int))) := by
    refine enum_eq (f := spec_ReadVar_l1 (varB m ++ t)) ((varB m).length - 1) (fun k => ((k + 1 : Nat) : Int)) _ (fun k hk => ?_) ?_
    · have hst := spec_rv_step (s := varB m ++ t) (k := k + 1) (by omega) (by omega) (by simp; omega)
      rw [hin _ (by omega)] at hst
      rw [hst, if_neg]
      intro q
      have hq : (varI ((valV ((varB m).take (k + 1)) : Nat) : Int)).length = k + 1 := by rw [q]; simp; omega
      have hq2 : varI ((valV ((varB m).take (k + 1)) : Nat) : Int) = varB (valV ((varB m).take (k + 1))) := by
        unfold varI at hq ⊢
        split
        · rw [Int.toNat_natCast]
        · rename_i hh; rw [if_neg hh] at hq; simp at hq
      rw [hq2] at q hq
      have h3 := (varB_high (valV ((varB m).take (k + 1))) k (by omega)).2 (by omega)
      have h4 := varB_high m k (by omega)
      have h5 : (varB (valV ((varB m).take (k + 1))))[k]'(by omega) = (varB m)[k]'(by omega) := by
        have : (varB (valV ((varB m).take (k + 1))))[k]'(by omega) = ((varB m).take (k + 1))[k]'(by simp; omega) := by
          congr 1
        rw [this]; simp
      rw [h5] at h3
      have := h4.1 h3
      omega
    · have e1 : (varB m).length - 1 + 1 = (varB m).length := by omega
      simp only [e1]
      have hst := spec_rv_step (s := varB m ++ t) (k := (varB m).length) (by omega) (by omega) (by simp)
      rw [hin _ (Nat.le_refl _), List.take_length, valV_varB, e, if_pos rfl] at hst
      exact hst
  unfold spec_ReadVar
  rw [show ((0 + 1 : Nat) : Int) = 1 from rfl] at key
  rw [key]; rfl
end Go.Gv
