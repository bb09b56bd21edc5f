/- The field of 256 numbers, in plain Lean: products bit by bit, the field's laws, powers of 3, and the tables of powers. No program here; no condition. -/
namespace Gf

/-- Times x. -/
def dbl (a : UInt8) : UInt8 := if a.toNat < 128 then UInt8.ofNat (2 * a.toNat) else UInt8.ofNat (2 * a.toNat) ^^^ 27
def bit (b : UInt8) (i : Nat) : Bool := b.toNat.testBit i
def sel (c : Bool) (a : UInt8) : UInt8 := if c then a else 0
def dblN : Nat → UInt8 → UInt8
  | 0, a => a
  | n + 1, a => dblN n (dbl a)
/-- The product. -/
def mul (a b : UInt8) : UInt8 :=
  sel (bit b 0) (dblN 0 a) ^^^ sel (bit b 1) (dblN 1 a) ^^^ sel (bit b 2) (dblN 2 a) ^^^ sel (bit b 3) (dblN 3 a) ^^^
  sel (bit b 4) (dblN 4 a) ^^^ sel (bit b 5) (dblN 5 a) ^^^ sel (bit b 6) (dblN 6 a) ^^^ sel (bit b 7) (dblN 7 a)

theorem all8 {P : UInt8 → Prop} (h : ∀ n : Fin 256, P (UInt8.ofNat n.val)) (a : UInt8) : P a := by
  have := h ⟨a.toNat, a.toNat_lt⟩
  simpa using this

/-! Sums. -/
theorem xor_comm (a b : UInt8) : a ^^^ b = b ^^^ a := UInt8.xor_comm a b
theorem xor_assoc (a b c : UInt8) : a ^^^ b ^^^ c = a ^^^ (b ^^^ c) := UInt8.xor_assoc a b c
theorem xor_self (a : UInt8) : a ^^^ a = 0 := UInt8.xor_self
theorem xor_zero (a : UInt8) : a ^^^ 0 = a := UInt8.xor_zero
theorem zero_xor (a : UInt8) : 0 ^^^ a = a := UInt8.zero_xor
theorem xor_left_comm (a b c : UInt8) : a ^^^ (b ^^^ c) = b ^^^ (a ^^^ c) := by rw [← xor_assoc, xor_comm a b, xor_assoc]
theorem xor_cancel (a b : UInt8) : a ^^^ (a ^^^ b) = b := by rw [← xor_assoc, xor_self, zero_xor]
theorem xor_eq_zero {a b : UInt8} (h : a ^^^ b = 0) : a = b := by
  have := xor_cancel a b; rw [h, xor_zero] at this; exact this
theorem xor_xor_swap (a b c d : UInt8) : (a ^^^ b) ^^^ (c ^^^ d) = (a ^^^ c) ^^^ (b ^^^ d) := by
  rw [xor_assoc, xor_assoc, xor_left_comm b c d]

/-! What is additive. -/
def Add (f : UInt8 → UInt8) : Prop := ∀ x y, f (x ^^^ y) = f x ^^^ f y
theorem Add.zero {f : UInt8 → UInt8} (h : Add f) : f 0 = 0 := by
  have := h 0 0
  rw [xor_zero] at this
  rw [this, xor_self]
def bas (i : Nat) : UInt8 := UInt8.ofNat (2 ^ i)
theorem split8 (a : UInt8) : a = sel (bit a 0) (bas 0) ^^^ sel (bit a 1) (bas 1) ^^^ sel (bit a 2) (bas 2) ^^^ sel (bit a 3) (bas 3) ^^^
    sel (bit a 4) (bas 4) ^^^ sel (bit a 5) (bas 5) ^^^ sel (bit a 6) (bas 6) ^^^ sel (bit a 7) (bas 7) := by
  revert a; refine all8 ?_; decide +kernel
theorem Add.sel {f : UInt8 → UInt8} (h : Add f) (c : Bool) (a : UInt8) : f (Gf.sel c a) = Gf.sel c (f a) := by
  cases c
  · exact h.zero
  · rfl
theorem lin_ext {f g : UInt8 → UInt8} (hf : Add f) (hg : Add g) (h : ∀ i, i < 8 → f (bas i) = g (bas i)) (a : UInt8) : f a = g a := by
  rw [split8 a]
  simp only [hf _ _, hg _ _, hf.sel, hg.sel]
  rw [h 0 (by decide), h 1 (by decide), h 2 (by decide), h 3 (by decide), h 4 (by decide), h 5 (by decide), h 6 (by decide), h 7 (by decide)]
theorem bit_xor (a b : UInt8) (i : Nat) : bit (a ^^^ b) i = (bit a i ^^ bit b i) := by simp [bit, Nat.testBit_xor]
theorem sel_xor (c d : Bool) (a : UInt8) : sel (c ^^ d) a = sel c a ^^^ sel d a := by cases c <;> cases d <;> simp [sel]
theorem sel_add (c : Bool) (a b : UInt8) : sel c (a ^^^ b) = sel c a ^^^ sel c b := by cases c <;> simp [sel]
theorem dbl_bits (a : UInt8) : dbl a = sel (bit a 0) 2 ^^^ sel (bit a 1) 4 ^^^ sel (bit a 2) 8 ^^^ sel (bit a 3) 16 ^^^ sel (bit a 4) 32 ^^^ sel (bit a 5) 64 ^^^ sel (bit a 6) 128 ^^^ sel (bit a 7) 27 := by
  revert a; refine all8 ?_; decide +kernel
theorem dbl_add : Add dbl := by
  intro a b
  simp only [dbl_bits, bit_xor, sel_xor]
  ac_rfl
theorem dblN_add (n : Nat) : Add (dblN n) := by
  induction n with
  | zero => intro a b; rfl
  | succ n ih => intro a b; simp only [dblN]; rw [dbl_add, ih]
theorem add_mul (a b c : UInt8) : mul (a ^^^ b) c = mul a c ^^^ mul b c := by
  simp only [mul, dblN_add _ _ _, sel_add]
  ac_rfl
theorem mul_add (a b c : UInt8) : mul a (b ^^^ c) = mul a b ^^^ mul a c := by
  simp only [mul, bit_xor, sel_xor]
  ac_rfl
theorem addL (c : UInt8) : Add (fun a => mul a c) := fun a b => add_mul a b c
theorem addR (a : UInt8) : Add (fun b => mul a b) := fun b c => mul_add a b c
theorem mul_comm (a b : UInt8) : mul a b = mul b a := by
  refine lin_ext (addL b) (addR b) (fun i hi => ?_) a
  refine lin_ext (f := fun b => mul (bas i) b) (g := fun b => mul b (bas i)) (addR _) (addL _) (fun j hj => ?_) b
  have : (List.range 8).all (fun i => (List.range 8).all (fun j => mul (bas i) (bas j) == mul (bas j) (bas i))) = true := by decide +kernel
  have h1 := List.all_eq_true.1 (List.all_eq_true.1 this i (List.mem_range.2 hi)) j (List.mem_range.2 hj)
  exact eq_of_beq h1
theorem mul_assoc (a b c : UInt8) : mul (mul a b) c = mul a (mul b c) := by
  have e1 : ∀ a b, Add (fun c => mul a (mul b c)) := fun a b x y => by show mul a (mul b (x ^^^ y)) = _; rw [mul_add, mul_add]
  have e2 : ∀ a c, Add (fun b => mul a (mul b c)) := fun a b x y => by show mul a (mul (x ^^^ y) b) = _; rw [add_mul, mul_add]
  have e3 : ∀ a c, Add (fun b => mul (mul a b) c) := fun a b x y => by show mul (mul a (x ^^^ y)) b = _; rw [mul_add, add_mul]
  have e4 : ∀ b c, Add (fun a => mul (mul a b) c) := fun a b x y => by show mul (mul (x ^^^ y) a) b = _; rw [add_mul, add_mul]
  refine lin_ext (e4 b c) (addL _) (fun i hi => ?_) a
  refine lin_ext (e3 _ c) (e2 _ c) (fun j hj => ?_) b
  refine lin_ext (addR _) (e1 _ _) (fun k hk => ?_) c
  have : (List.range 8).all (fun i => (List.range 8).all (fun j => (List.range 8).all (fun k => mul (mul (bas i) (bas j)) (bas k) == mul (bas i) (mul (bas j) (bas k))))) = true := by decide +kernel
  have h1 := List.all_eq_true.1 (List.all_eq_true.1 (List.all_eq_true.1 this i (List.mem_range.2 hi)) j (List.mem_range.2 hj)) k (List.mem_range.2 hk)
  exact eq_of_beq h1
theorem mul_zero (a : UInt8) : mul a 0 = 0 := (addR a).zero
theorem zero_mul (a : UInt8) : mul 0 a = 0 := (addL a).zero
theorem mul_one (a : UInt8) : mul a 1 = a := by revert a; refine all8 ?_; decide +kernel
theorem one_mul (a : UInt8) : mul 1 a = a := by rw [mul_comm, mul_one]
theorem mul_left_comm (a b c : UInt8) : mul a (mul b c) = mul b (mul a c) := by rw [← mul_assoc, mul_comm a b, mul_assoc]

/-! Powers of 3. -/
def pw : Nat → UInt8
  | 0 => 1
  | n + 1 => mul (pw n) 3
def pl : Nat → UInt8 → List UInt8
  | 0, _ => []
  | n + 1, x => x :: pl n (mul x 3)
def E : List UInt8 := [1, 3, 5, 15, 17, 51, 85, 255, 26, 46, 114, 150, 161, 248, 19, 53, 95, 225, 56, 72, 216, 115, 149, 164, 247, 2, 6, 10, 30, 34, 102, 170, 229, 52, 92, 228, 55, 89, 235, 38, 106, 190, 217, 112, 144, 171, 230, 49, 83, 245, 4, 12, 20, 60, 68, 204, 79, 209, 104, 184, 211, 110, 178, 205, 76, 212, 103, 169, 224, 59, 77, 215, 98, 166, 241, 8, 24, 40, 120, 136, 131, 158, 185, 208, 107, 189, 220, 127, 129, 152, 179, 206, 73, 219, 118, 154, 181, 196, 87, 249, 16, 48, 80, 240, 11, 29, 39, 105, 187, 214, 97, 163, 254, 25, 43, 125, 135, 146, 173, 236, 47, 113, 147, 174, 233, 32, 96, 160, 251, 22, 58, 78, 210, 109, 183, 194, 93, 231, 50, 86, 250, 21, 63, 65, 195, 94, 226, 61, 71, 201, 64, 192, 91, 237, 44, 116, 156, 191, 218, 117, 159, 186, 213, 100, 172, 239, 42, 126, 130, 157, 188, 223, 122, 142, 137, 128, 155, 182, 193, 88, 232, 35, 101, 175, 234, 37, 111, 177, 200, 67, 197, 84, 252, 31, 33, 99, 165, 244, 7, 9, 27, 45, 119, 153, 176, 203, 70, 202, 69, 207, 74, 222, 121, 139, 134, 145, 168, 227, 62, 66, 198, 81, 243, 14, 18, 54, 90, 238, 41, 123, 141, 140, 143, 138, 133, 148, 167, 242, 13, 23, 57, 75, 221, 124, 132, 151, 162, 253, 28, 36, 108, 180, 199, 82, 246]
theorem pl_eq : pl 255 1 = E := by decide +kernel
theorem pl_len : ∀ n x, (pl n x).length = n
  | 0, _ => rfl
  | n + 1, x => by simp [pl, pl_len n]
theorem pl_get : ∀ n i k, k < n → (pl n (pw i))[k]? = some (pw (i + k))
  | 0, _, _, h => by omega
  | n + 1, i, 0, _ => by simp [pl]
  | n + 1, i, k + 1, h => by
    have := pl_get n (i + 1) k (by omega)
    simp only [pl, List.getElem?_cons_succ]
    have e : i + (k + 1) = i + 1 + k := by omega
    rw [e, ← this]; rfl
theorem E_get (k : Nat) (h : k < 255) : E[k]? = some (pw k) := by
  have := pl_get 255 0 k h
  rw [Nat.zero_add] at this
  rw [← pl_eq]; exact this
theorem E_len : E.length = 255 := by decide +kernel
theorem E_nodup : E.Nodup := by decide +kernel
theorem E_all (a : UInt8) : a ≠ 0 → a ∈ E := by revert a; refine all8 ?_; decide +kernel
theorem E_ne : (0 : UInt8) ∉ E := by decide +kernel
theorem pw_inj {i j : Nat} (hi : i < 255) (hj : j < 255) (h : pw i = pw j) : i = j := by
  have h1 := E_get i hi
  have h2 := E_get j hj
  rw [h, ← h2] at h1
  exact (List.getElem?_inj (by rw [E_len]; exact hi) E_nodup).1 h1
theorem pw_add (i j : Nat) : pw (i + j) = mul (pw i) (pw j) := by
  induction j with
  | zero => simp [pw, mul_one]
  | succ j ih => rw [Nat.add_succ]; simp only [pw]; rw [ih, mul_assoc]
theorem pw_255 : pw 255 = 1 := by
  have h := E_get 254 (by decide)
  have h2 : E[254]? = some 246 := by decide +kernel
  rw [h2] at h
  have h3 : pw 254 = 246 := (Option.some.inj h).symm
  show mul (pw 254) 3 = 1
  rw [h3]; decide +kernel
theorem pw_mod (n : Nat) : pw (n % 255) = pw n := by
  have h : ∀ k m, pw (255 * k + m) = pw m := by
    intro k m
    induction k with
    | zero => simp
    | succ k ih => rw [show 255 * (k + 1) + m = (255 * k + m) + 255 by omega, pw_add, pw_255, mul_one, ih]
  have := h (n / 255) (n % 255)
  rw [Nat.div_add_mod] at this
  exact this.symm
theorem pw_ne (n : Nat) : pw n ≠ 0 := by
  intro h
  have h1 := pw_add n (255 * n - n)
  rw [h, zero_mul, show n + (255 * n - n) = 255 * n by omega, ← pw_mod, Nat.mul_mod_right] at h1
  exact absurd h1 (by decide)
/-- Which power of 3. -/
def lg (a : UInt8) : Nat := E.idxOf a % 255
theorem lg_lt (a : UInt8) : lg a < 255 := Nat.mod_lt _ (by decide)
theorem pw_lg {a : UInt8} (h : a ≠ 0) : pw (lg a) = a := by
  have h1 := List.idxOf_lt_length_of_mem (E_all a h)
  have h2 := E_get (E.idxOf a) (by rw [← E_len]; exact h1)
  rw [List.getElem?_eq_getElem h1, List.getElem_idxOf h1] at h2
  unfold lg
  rw [pw_mod]; exact (Option.some.inj h2).symm
theorem lg_pw (n : Nat) : lg (pw n) = n % 255 := pw_inj (lg_lt _) (Nat.mod_lt _ (by decide)) (by rw [pw_lg (pw_ne n), pw_mod])
theorem lg_zero : lg 0 = 0 := by decide +kernel
theorem mul_eq_zero {a b : UInt8} (h : mul a b = 0) : a = 0 ∨ b = 0 := by
  by_cases ha : a = 0
  · exact .inl ha
  · by_cases hb : b = 0
    · exact .inr hb
    · rw [← pw_lg ha, ← pw_lg hb, ← pw_add] at h; exact absurd h (pw_ne _)
theorem mul_ne {a b : UInt8} (ha : a ≠ 0) (hb : b ≠ 0) : mul a b ≠ 0 := fun h => (mul_eq_zero h).elim ha hb
theorem mul_pw {a b : UInt8} (ha : a ≠ 0) (hb : b ≠ 0) : pw (lg a + lg b) = mul a b := by rw [pw_add, pw_lg ha, pw_lg hb]
/-- The inverse; of 0: 0. -/
def inv (a : UInt8) : UInt8 := if a = 0 then 0 else pw (255 - lg a)
theorem mul_inv {a : UInt8} (h : a ≠ 0) : mul a (inv a) = 1 := by
  unfold inv; rw [if_neg h]
  have h1 := lg_lt a
  have : mul (pw (lg a)) (pw (255 - lg a)) = 1 := by rw [← pw_add, show lg a + (255 - lg a) = 255 by omega, pw_255]
  rwa [pw_lg h] at this
theorem inv_mul {a : UInt8} (h : a ≠ 0) : mul (inv a) a = 1 := by rw [mul_comm, mul_inv h]
theorem inv_zero : inv 0 = 0 := by simp [inv]
theorem inv_ne {a : UInt8} (h : a ≠ 0) : inv a ≠ 0 := fun e => by have := mul_inv h; rw [e, mul_zero] at this; exact absurd this (by decide)
theorem mul_cancel {a b c : UInt8} (h : a ≠ 0) (e : mul a b = mul a c) : b = c := by
  have : mul (inv a) (mul a b) = mul (inv a) (mul a c) := by rw [e]
  rwa [← mul_assoc, ← mul_assoc, inv_mul h, one_mul, one_mul] at this
theorem inv_uniq {a b : UInt8} (h : mul a b = 1) : b = inv a := by
  have ha : a ≠ 0 := fun e => by rw [e, zero_mul] at h; exact absurd h (by decide)
  exact mul_cancel ha (by rw [h, mul_inv ha])
/-- A power. -/
def pow (a : UInt8) : Nat → UInt8
  | 0 => 1
  | n + 1 => mul (pow a n) a
theorem pow_pw (i n : Nat) : pow (pw i) n = pw (i * n) := by
  induction n with
  | zero => rfl
  | succ n ih => simp only [pow]; rw [ih, ← pw_add, Nat.mul_succ]
theorem pow_zero_base (n : Nat) (h : 0 < n) : pow 0 n = 0 := by
  cases n with
  | zero => omega
  | succ n => simp [pow, mul_zero]

/-! The tables, as they are made: powers, which power, the next power. -/
def tabN : Nat → List UInt8 × List Int × UInt8
  | 0 => (List.replicate 510 0, List.replicate 256 0, 1)
  | n + 1 =>
    let t := tabN n
    (((t.1.set n t.2.2).set (n + 255) t.2.2), t.2.1.set t.2.2.toNat (n : Int), mul t.2.2 3)
def pwT : List UInt8 := (tabN 255).1
def lgT : List Int := (tabN 255).2.1
theorem tab_pw (n : Nat) : (tabN n).2.2 = pw n := by
  induction n with
  | zero => rfl
  | succ n ih => simp only [tabN, pw]; rw [ih]
theorem tab_len (n : Nat) : (tabN n).1.length = 510 ∧ (tabN n).2.1.length = 256 := by
  induction n with
  | zero => exact ⟨List.length_replicate, List.length_replicate⟩
  | succ n ih =>
    simp only [tabN, List.length_set]
    exact ih
theorem pwT_len : pwT.length = 510 := (tab_len 255).1
theorem lgT_len : lgT.length = 256 := (tab_len 255).2
theorem tab_get (n : Nat) (hn : n ≤ 255) : ∀ k, k < n → (tabN n).1[k]? = some (pw k) ∧ (tabN n).1[k + 255]? = some (pw k) := by
  induction n with
  | zero => intro k h; omega
  | succ n ih =>
    intro k hk
    have hl := (tab_len n).1
    simp only [tabN, tab_pw, List.getElem?_set, List.length_set]
    rw [hl]
    rw [if_neg (by omega)]
    by_cases hkn : k = n
    · subst hkn
      simp only [if_pos trivial]
      rw [if_pos (by omega), if_pos (by omega)]
      exact ⟨rfl, rfl⟩
    · obtain ⟨h1, h2⟩ := ih (by omega) k (by omega)
      rw [if_neg (fun e => hkn e.symm), if_neg (by omega), if_neg (by omega)]
      exact ⟨h1, h2⟩
theorem tab_lg (n : Nat) (hn : n ≤ 255) : ∀ k, k < n → (tabN n).2.1[(pw k).toNat]? = some (k : Int) := by
  induction n with
  | zero => intro k h; omega
  | succ n ih =>
    intro k hk
    have hl := (tab_len n).2
    simp only [tabN, tab_pw, List.getElem?_set]
    rw [hl]
    have h256 := (pw n).toNat_lt
    by_cases hkn : k = n
    · subst hkn
      rw [if_pos rfl, if_pos h256]
    · have hne : ¬ (pw n).toNat = (pw k).toNat := fun e => hkn (pw_inj (by omega) (by omega) (UInt8.toNat_inj.1 e).symm)
      rw [if_neg hne]
      exact ih (by omega) k (by omega)
theorem tab_lg0 (n : Nat) : (tabN n).2.1[0]? = some 0 := by
  induction n with
  | zero => exact List.getElem?_replicate_of_lt (by decide)
  | succ n ih =>
    simp only [tabN, tab_pw, List.getElem?_set]
    rw [if_neg (fun e => pw_ne n (UInt8.toNat_inj.1 (by simpa using e)))]
    exact ih
theorem pwT_get (k : Nat) (h : k < 510) : pwT[k]? = some (pw k) := by
  by_cases h1 : k < 255
  · exact (tab_get 255 (Nat.le_refl _) k h1).1
  · have := (tab_get 255 (Nat.le_refl _) (k - 255) (by omega)).2
    rw [show k - 255 + 255 = k by omega] at this
    have e : pw (k - 255) = pw k := by
      rw [← pw_mod k, ← pw_mod (k - 255)]; exact congrArg pw (by omega)
    rw [e] at this; exact this
theorem lgT_get (a : UInt8) : lgT[a.toNat]? = some (lg a : Int) := by
  by_cases h : a = 0
  · subst h; rw [lg_zero]; exact tab_lg0 255
  · have := tab_lg 255 (Nat.le_refl _) (lg a) (lg_lt a)
    rw [pw_lg h] at this; exact this
end Gf
