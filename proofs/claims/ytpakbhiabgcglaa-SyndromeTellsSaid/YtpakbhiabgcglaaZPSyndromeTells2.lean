/- Parts Fe, Ma, Fa, F0, Mb, Fb, F1, F3, Gm, F5, one behind the other. What is proved: said at the head of each part. No condition beside those said there. -/
import Derived.Test.YtpakbhiabgcglaaRows
import Derived.Orders
import Derived.Deep.Draws
import Derived.Laws.World
import Derived.KernelRfl
import Derived.OrdersIn
import Derived.TacticsIn
import Derived.RangeFuncCalls
import Derived.Deep.LoopGhost
import Derived.Tactics
import Derived.Sort.LoopGhostIn
import Derived.RangeFuncLeaves
import Derived.RangeFuncNested
import Derived.RangeFuncRecord
import Derived.Laws.Sem
import Derived.OwnWalk
import Derived.RangeFuncWrites
import Derived.Laws.IdiomCopy
import Derived.WalkKit
import Derived.ProofKit
import Derived.OpenShut
import Derived.ChangeOld
import Derived.Below
import Derived.Test.YtpakbhiabgcglaaProg
import Derived.MapKept
import Derived.Lib.AppendZerosOnto
import Derived.Test.YtpakbhiabgcglaaZPSyndromeTells1
/- slices.Clone walks, over bytes and over numbers. No condition but the length. -/


set_option linter.unusedVariables false
set_option linter.unusedSimpArgs false
namespace Gk
open Go Go.Proofs

def slices_Clone_sbytebyte (a0 : List UInt8) : Option (List UInt8) := appL [] a0
set_option maxRecDepth 100000 in
set_option maxHeartbeats 8000000 in
theorem slices_Clone_sbytebyte_calls (a0 : List UInt8) (p0 : Value) (r : List UInt8) (w0 : World) (hp0 : By w0 [] p0 a0) (H : slices_Clone_sbytebyte a0 = some r) :
    Calls Try.prog 39 [p0].toArray w0 (fun e w' => ∃ u0 : Value, e = .returned u0 ∧ Ext w0 w' ∧ Nw w0 u0 ∧ OwK (Sc u8) w' [] 5 u0 r) := by
  unfold slices_Clone_sbytebyte at H
  have hE : Ext w0 w0 := Ext.refl w0
  obtain ⟨pp, cap, rfl, hcap⟩ := SlK.shape hp0
  refine calls_W (n := 8) Try.func39 rfl rfl rfl ?_
  refine W_seq ?_
  refine W_reg (by kernel_rfl) ?_
  refine wla rfl rfl (q_assign (v := .slice none 0 0) rfl rfl) ?_
  refine wl_nil ?_
  refine W_th ?_
  refine W_seq ?_
  refine W_seq ?_
  refine W_reg (by kernel_rfl) ?_
  refine wla rfl rfl (q_move (v := .slice pp a0.length cap) rfl rfl) ?_
  refine wla rfl rfl (q_eqSl rfl T22.sl rfl rfl) ?_
  refine wl_nil ?_
  refine W_th ?_
  refine W_cond _ rfl rfl (fun hb => ?_) (fun hb => ?_)
  · have h0 : a0 = [] := by
      obtain ⟨us, ⟨p, cap', hv, _, hne⟩, hl, _⟩ := hp0
      cases us with
      | nil => exact List.eq_nil_of_length_eq_zero hl.symm
      | cons u us =>
        obtain ⟨b, off, rfl, _⟩ := hne (by simp)
        simp only [Value.slice.injEq] at hv
        rw [hv.1] at hb; cases hb
    subst h0
    obtain rfl : r = [] := by simpa [appL] using H.symm
    refine W_seq ?_
    refine W_reg (by kernel_rfl) ?_
    refine wla rfl rfl (q_assign (v := .slice none 0 0) rfl rfl) ?_
    refine wl_nil ?_
    refine W_th ?_
    refine W_ret ?_
    refine rt1 (.slice none 0 0) rfl rfl rfl rfl ?_
    exact ⟨_, rfl, hE, Nw.nil _, OwK.nil _ _ _ _⟩
  · refine W_skip ?_
    refine W_th ?_
    refine W_seq ?_
    refine W_reg (by kernel_rfl) ?_
    refine wls rfl rfl (stp_lit (L := []) (R := (Sc u8)) [] ([] : List UInt8) rfl T22 rfl (by exact trivial) rfl (litC u8 oneC_u8 (us := []) (l := ([] : List UInt8)) rfl) rfl (litS u8 (us := []) (l := ([] : List UInt8)) rfl) ?_)
    intro v1 w1 o1 n1 g1 l1
    have e1 := hE.trans (grown_ext g1)
    refine wla rfl rfl (q_move (v := .slice pp a0.length cap) rfl rfl) ?_
    refine wls rfl rfl (stp_append (R := (Sc u8)) (v := v1) (u := .slice pp a0.length cap) (Sc.stab _) [] [] rfl T22 rfl rfl o1 (hp0.lift (Lift.ext e1 _)) (fun _ _ h => h) H oc_u8 ?_)
    intro v2 w2 o2 g2 nx2 l2
    refine wla rfl rfl (q_assign (v := v2) rfl rfl) ?_
    refine wl_nil ?_
    refine W_th ?_
    refine W_ret ?_
    refine rt1 v2 rfl rfl rfl rfl ?_
    exact ⟨v2, rfl, e1.grown g2 n1, Nw.nxt e1 n1 nx2, o2.weak (Sc.stab _) (fun _ _ => trivial)⟩

def slices_Clone_sintint (a0 : List Int) : Option (List Int) := appL [] a0
set_option maxRecDepth 100000 in
set_option maxHeartbeats 8000000 in
theorem slices_Clone_sintint_calls (a0 : List Int) (p0 : Value) (r : List Int) (w0 : World) (hp0 : In w0 [] p0 a0) (H : slices_Clone_sintint a0 = some r) :
    Calls Try.prog 51 [p0].toArray w0 (fun e w' => ∃ u0 : Value, e = .returned u0 ∧ Ext w0 w' ∧ Nw w0 u0 ∧ OwK (Sc i64) w' [] 3 u0 r) := by
  unfold slices_Clone_sintint at H
  have hE : Ext w0 w0 := Ext.refl w0
  obtain ⟨pp, cap, rfl, hcap⟩ := SlK.shape hp0
  refine calls_W (n := 8) Try.func51 rfl rfl rfl ?_
  refine W_seq ?_
  refine W_reg (by kernel_rfl) ?_
  refine wla rfl rfl (q_assign (v := .slice none 0 0) rfl rfl) ?_
  refine wl_nil ?_
  refine W_th ?_
  refine W_seq ?_
  refine W_seq ?_
  refine W_reg (by kernel_rfl) ?_
  refine wla rfl rfl (q_move (v := .slice pp a0.length cap) rfl rfl) ?_
  refine wla rfl rfl (q_eqSl rfl T47.sl rfl rfl) ?_
  refine wl_nil ?_
  refine W_th ?_
  refine W_cond _ rfl rfl (fun hb => ?_) (fun hb => ?_)
  · have h0 : a0 = [] := by
      obtain ⟨us, ⟨p, cap', hv, _, hne⟩, hl, _⟩ := hp0
      cases us with
      | nil => exact List.eq_nil_of_length_eq_zero hl.symm
      | cons u us =>
        obtain ⟨b, off, rfl, _⟩ := hne (by simp)
        simp only [Value.slice.injEq] at hv
        rw [hv.1] at hb; cases hb
    subst h0
    obtain rfl : r = [] := by simpa [appL] using H.symm
    refine W_seq ?_
    refine W_reg (by kernel_rfl) ?_
    refine wla rfl rfl (q_assign (v := .slice none 0 0) rfl rfl) ?_
    refine wl_nil ?_
    refine W_th ?_
    refine W_ret ?_
    refine rt1 (.slice none 0 0) rfl rfl rfl rfl ?_
    exact ⟨_, rfl, hE, Nw.nil _, OwK.nil _ _ _ _⟩
  · refine W_skip ?_
    refine W_th ?_
    refine W_seq ?_
    refine W_reg (by kernel_rfl) ?_
    refine wls rfl rfl (stp_lit (L := []) (R := (Sc i64)) [] ([] : List Int) rfl T47 rfl (by exact trivial) rfl (litC i64 oneC_i64 (us := []) (l := ([] : List Int)) rfl) rfl (litS i64 (us := []) (l := ([] : List Int)) rfl) ?_)
    intro v1 w1 o1 n1 g1 l1
    have e1 := hE.trans (grown_ext g1)
    refine wla rfl rfl (q_move (v := .slice pp a0.length cap) rfl rfl) ?_
    refine wls rfl rfl (stp_append (R := (Sc i64)) (v := v1) (u := .slice pp a0.length cap) (Sc.stab _) [] [] rfl T47 rfl rfl o1 (hp0.lift (Lift.ext e1 _)) (fun _ _ h => h) H oc_i64 ?_)
    intro v2 w2 o2 g2 nx2 l2
    refine wla rfl rfl (q_assign (v := v2) rfl rfl) ?_
    refine wl_nil ?_
    refine W_th ?_
    refine W_ret ?_
    refine rt1 v2 rfl rfl rfl rfl ?_
    exact ⟨v2, rfl, e1.grown g2 n1, Nw.nxt e1 n1 nx2, o2.weak (Sc.stab _) (fun _ _ => trivial)⟩
end Gk

/- The field of 256 numbers, in plain Lean: products bit by bit, the field's laws, powers of 3, and the tables of powers. No program here; no condition. -/
namespace Gf

/-- Times x. -/
def dbl (a : UInt8) : UInt8 := if a.toNat < 128 then UInt8.ofNat (2 * a.toNat) else UInt8.ofNat (2 * a.toNat) ^^^ 27
def bit (b : UInt8) (i : Nat) : Bool := b.toNat.testBit i
def sel (c : Bool) (a : UInt8) : UInt8 := if c then a else 0
def dblN : Nat → UInt8 → UInt8
  | 0, a => a
  | n + 1, a => dblN n (dbl a)
/-- The product. -/
def mul (a b : UInt8) : UInt8 :=
  sel (bit b 0) (dblN 0 a) ^^^ sel (bit b 1) (dblN 1 a) ^^^ sel (bit b 2) (dblN 2 a) ^^^ sel (bit b 3) (dblN 3 a) ^^^
  sel (bit b 4) (dblN 4 a) ^^^ sel (bit b 5) (dblN 5 a) ^^^ sel (bit b 6) (dblN 6 a) ^^^ sel (bit b 7) (dblN 7 a)

theorem all8 {P : UInt8 → Prop} (h : ∀ n : Fin 256, P (UInt8.ofNat n.val)) (a : UInt8) : P a := by
  have := h ⟨a.toNat, a.toNat_lt⟩
  simpa using this

/-! Sums. -/
theorem xor_comm (a b : UInt8) : a ^^^ b = b ^^^ a := UInt8.xor_comm a b
theorem xor_assoc (a b c : UInt8) : a ^^^ b ^^^ c = a ^^^ (b ^^^ c) := UInt8.xor_assoc a b c
theorem xor_self (a : UInt8) : a ^^^ a = 0 := UInt8.xor_self
theorem xor_zero (a : UInt8) : a ^^^ 0 = a := UInt8.xor_zero
theorem zero_xor (a : UInt8) : 0 ^^^ a = a := UInt8.zero_xor
theorem xor_left_comm (a b c : UInt8) : a ^^^ (b ^^^ c) = b ^^^ (a ^^^ c) := by rw [← xor_assoc, xor_comm a b, xor_assoc]
theorem xor_cancel (a b : UInt8) : a ^^^ (a ^^^ b) = b := by rw [← xor_assoc, xor_self, zero_xor]
theorem xor_eq_zero {a b : UInt8} (h : a ^^^ b = 0) : a = b := by
  have := xor_cancel a b; rw [h, xor_zero] at this; exact this
theorem xor_xor_swap (a b c d : UInt8) : (a ^^^ b) ^^^ (c ^^^ d) = (a ^^^ c) ^^^ (b ^^^ d) := by
  rw [xor_assoc, xor_assoc, xor_left_comm b c d]

/-! What is additive. -/
def Add (f : UInt8 → UInt8) : Prop := ∀ x y, f (x ^^^ y) = f x ^^^ f y
theorem Add.zero {f : UInt8 → UInt8} (h : Add f) : f 0 = 0 := by
  have := h 0 0
  rw [xor_zero] at this
  rw [this, xor_self]
def bas (i : Nat) : UInt8 := UInt8.ofNat (2 ^ i)
theorem split8 (a : UInt8) : a = sel (bit a 0) (bas 0) ^^^ sel (bit a 1) (bas 1) ^^^ sel (bit a 2) (bas 2) ^^^ sel (bit a 3) (bas 3) ^^^
    sel (bit a 4) (bas 4) ^^^ sel (bit a 5) (bas 5) ^^^ sel (bit a 6) (bas 6) ^^^ sel (bit a 7) (bas 7) := by
  revert a; refine all8 ?_; decide +kernel
theorem Add.sel {f : UInt8 → UInt8} (h : Add f) (c : Bool) (a : UInt8) : f (Gf.sel c a) = Gf.sel c (f a) := by
  cases c
  · exact h.zero
  · rfl
theorem lin_ext {f g : UInt8 → UInt8} (hf : Add f) (hg : Add g) (h : ∀ i, i < 8 → f (bas i) = g (bas i)) (a : UInt8) : f a = g a := by
  rw [split8 a]
  simp only [hf _ _, hg _ _, hf.sel, hg.sel]
  rw [h 0 (by decide), h 1 (by decide), h 2 (by decide), h 3 (by decide), h 4 (by decide), h 5 (by decide), h 6 (by decide), h 7 (by decide)]
theorem bit_xor (a b : UInt8) (i : Nat) : bit (a ^^^ b) i = (bit a i ^^ bit b i) := by simp [bit, Nat.testBit_xor]
theorem sel_xor (c d : Bool) (a : UInt8) : sel (c ^^ d) a = sel c a ^^^ sel d a := by cases c <;> cases d <;> simp [sel]
theorem sel_add (c : Bool) (a b : UInt8) : sel c (a ^^^ b) = sel c a ^^^ sel c b := by cases c <;> simp [sel]
theorem dbl_bits (a : UInt8) : dbl a = sel (bit a 0) 2 ^^^ sel (bit a 1) 4 ^^^ sel (bit a 2) 8 ^^^ sel (bit a 3) 16 ^^^ sel (bit a 4) 32 ^^^ sel (bit a 5) 64 ^^^ sel (bit a 6) 128 ^^^ sel (bit a 7) 27 := by
  revert a; refine all8 ?_; decide +kernel
theorem dbl_add : Add dbl := by
  intro a b
  simp only [dbl_bits, bit_xor, sel_xor]
  ac_rfl
theorem dblN_add (n : Nat) : Add (dblN n) := by
  induction n with
  | zero => intro a b; rfl
  | succ n ih => intro a b; simp only [dblN]; rw [dbl_add, ih]
theorem add_mul (a b c : UInt8) : mul (a ^^^ b) c = mul a c ^^^ mul b c := by
  simp only [mul, dblN_add _ _ _, sel_add]
  ac_rfl
theorem mul_add (a b c : UInt8) : mul a (b ^^^ c) = mul a b ^^^ mul a c := by
  simp only [mul, bit_xor, sel_xor]
  ac_rfl
theorem addL (c : UInt8) : Add (fun a => mul a c) := fun a b => add_mul a b c
theorem addR (a : UInt8) : Add (fun b => mul a b) := fun b c => mul_add a b c
theorem mul_comm (a b : UInt8) : mul a b = mul b a := by
  refine lin_ext (addL b) (addR b) (fun i hi => ?_) a
  refine lin_ext (f := fun b => mul (bas i) b) (g := fun b => mul b (bas i)) (addR _) (addL _) (fun j hj => ?_) b
  have : (List.range 8).all (fun i => (List.range 8).all (fun j => mul (bas i) (bas j) == mul (bas j) (bas i))) = true := by decide +kernel
  have h1 := List.all_eq_true.1 (List.all_eq_true.1 this i (List.mem_range.2 hi)) j (List.mem_range.2 hj)
  exact eq_of_beq h1
theorem mul_assoc (a b c : UInt8) : mul (mul a b) c = mul a (mul b c) := by
  have e1 : ∀ a b, Add (fun c => mul a (mul b c)) := fun a b x y => by show mul a (mul b (x ^^^ y)) = _; rw [mul_add, mul_add]
  have e2 : ∀ a c, Add (fun b => mul a (mul b c)) := fun a b x y => by show mul a (mul (x ^^^ y) b) = _; rw [add_mul, mul_add]
  have e3 : ∀ a c, Add (fun b => mul (mul a b) c) := fun a b x y => by show mul (mul a (x ^^^ y)) b = _; rw [mul_add, add_mul]
  have e4 : ∀ b c, Add (fun a => mul (mul a b) c) := fun a b x y => by show mul (mul (x ^^^ y) a) b = _; rw [add_mul, add_mul]
  refine lin_ext (e4 b c) (addL _) (fun i hi => ?_) a
  refine lin_ext (e3 _ c) (e2 _ c) (fun j hj => ?_) b
  refine lin_ext (addR _) (e1 _ _) (fun k hk => ?_) c
  have : (List.range 8).all (fun i => (List.range 8).all (fun j => (List.range 8).all (fun k => mul (mul (bas i) (bas j)) (bas k) == mul (bas i) (mul (bas j) (bas k))))) = true := by decide +kernel
  have h1 := List.all_eq_true.1 (List.all_eq_true.1 (List.all_eq_true.1 this i (List.mem_range.2 hi)) j (List.mem_range.2 hj)) k (List.mem_range.2 hk)
  exact eq_of_beq h1
theorem mul_zero (a : UInt8) : mul a 0 = 0 := (addR a).zero
theorem zero_mul (a : UInt8) : mul 0 a = 0 := (addL a).zero
theorem mul_one (a : UInt8) : mul a 1 = a := by revert a; refine all8 ?_; decide +kernel
theorem one_mul (a : UInt8) : mul 1 a = a := by rw [mul_comm, mul_one]
theorem mul_left_comm (a b c : UInt8) : mul a (mul b c) = mul b (mul a c) := by rw [← mul_assoc, mul_comm a b, mul_assoc]

/-! Powers of 3. -/
def pw : Nat → UInt8
  | 0 => 1
  | n + 1 => mul (pw n) 3
def pl : Nat → UInt8 → List UInt8
  | 0, _ => []
  | n + 1, x => x :: pl n (mul x 3)
def E : List UInt8 := [1, 3, 5, 15, 17, 51, 85, 255, 26, 46, 114, 150, 161, 248, 19, 53, 95, 225, 56, 72, 216, 115, 149, 164, 247, 2, 6, 10, 30, 34, 102, 170, 229, 52, 92, 228, 55, 89, 235, 38, 106, 190, 217, 112, 144, 171, 230, 49, 83, 245, 4, 12, 20, 60, 68, 204, 79, 209, 104, 184, 211, 110, 178, 205, 76, 212, 103, 169, 224, 59, 77, 215, 98, 166, 241, 8, 24, 40, 120, 136, 131, 158, 185, 208, 107, 189, 220, 127, 129, 152, 179, 206, 73, 219, 118, 154, 181, 196, 87, 249, 16, 48, 80, 240, 11, 29, 39, 105, 187, 214, 97, 163, 254, 25, 43, 125, 135, 146, 173, 236, 47, 113, 147, 174, 233, 32, 96, 160, 251, 22, 58, 78, 210, 109, 183, 194, 93, 231, 50, 86, 250, 21, 63, 65, 195, 94, 226, 61, 71, 201, 64, 192, 91, 237, 44, 116, 156, 191, 218, 117, 159, 186, 213, 100, 172, 239, 42, 126, 130, 157, 188, 223, 122, 142, 137, 128, 155, 182, 193, 88, 232, 35, 101, 175, 234, 37, 111, 177, 200, 67, 197, 84, 252, 31, 33, 99, 165, 244, 7, 9, 27, 45, 119, 153, 176, 203, 70, 202, 69, 207, 74, 222, 121, 139, 134, 145, 168, 227, 62, 66, 198, 81, 243, 14, 18, 54, 90, 238, 41, 123, 141, 140, 143, 138, 133, 148, 167, 242, 13, 23, 57, 75, 221, 124, 132, 151, 162, 253, 28, 36, 108, 180, 199, 82, 246]
theorem pl_eq : pl 255 1 = E := by decide +kernel
theorem pl_len : ∀ n x, (pl n x).length = n
  | 0, _ => rfl
  | n + 1, x => by simp [pl, pl_len n]
theorem pl_get : ∀ n i k, k < n → (pl n (pw i))[k]? = some (pw (i + k))
  | 0, _, _, h => by omega
  | n + 1, i, 0, _ => by simp [pl]
  | n + 1, i, k + 1, h => by
    have := pl_get n (i + 1) k (by omega)
    simp only [pl, List.getElem?_cons_succ]
    have e : i + (k + 1) = i + 1 + k := by omega
    rw [e, ← this]; rfl
theorem E_get (k : Nat) (h : k < 255) : E[k]? = some (pw k) := by
  have := pl_get 255 0 k h
  rw [Nat.zero_add] at this
  rw [← pl_eq]; exact this
theorem E_len : E.length = 255 := by decide +kernel
theorem E_nodup : E.Nodup := by decide +kernel
theorem E_all (a : UInt8) : a ≠ 0 → a ∈ E := by revert a; refine all8 ?_; decide +kernel
theorem E_ne : (0 : UInt8) ∉ E := by decide +kernel
theorem pw_inj {i j : Nat} (hi : i < 255) (hj : j < 255) (h : pw i = pw j) : i = j := by
  have h1 := E_get i hi
  have h2 := E_get j hj
  rw [h, ← h2] at h1
  exact (List.getElem?_inj (by rw [E_len]; exact hi) E_nodup).1 h1
theorem pw_add (i j : Nat) : pw (i + j) = mul (pw i) (pw j) := by
  induction j with
  | zero => simp [pw, mul_one]
  | succ j ih => rw [Nat.add_succ]; simp only [pw]; rw [ih, mul_assoc]
theorem pw_255 : pw 255 = 1 := by
  have h := E_get 254 (by decide)
  have h2 : E[254]? = some 246 := by decide +kernel
  rw [h2] at h
  have h3 : pw 254 = 246 := (Option.some.inj h).symm
  show mul (pw 254) 3 = 1
  rw [h3]; decide +kernel
theorem pw_mod (n : Nat) : pw (n % 255) = pw n := by
  have h : ∀ k m, pw (255 * k + m) = pw m := by
    intro k m
    induction k with
    | zero => simp
    | succ k ih => rw [show 255 * (k + 1) + m = (255 * k + m) + 255 by omega, pw_add, pw_255, mul_one, ih]
  have := h (n / 255) (n % 255)
  rw [Nat.div_add_mod] at this
  exact this.symm
theorem pw_ne (n : Nat) : pw n ≠ 0 := by
  intro h
  have h1 := pw_add n (255 * n - n)
  rw [h, zero_mul, show n + (255 * n - n) = 255 * n by omega, ← pw_mod, Nat.mul_mod_right] at h1
  exact absurd h1 (by decide)
/-- Which power of 3. -/
def lg (a : UInt8) : Nat := E.idxOf a % 255
theorem lg_lt (a : UInt8) : lg a < 255 := Nat.mod_lt _ (by decide)
theorem pw_lg {a : UInt8} (h : a ≠ 0) : pw (lg a) = a := by
  have h1 := List.idxOf_lt_length_of_mem (E_all a h)
  have h2 := E_get (E.idxOf a) (by rw [← E_len]; exact h1)
  rw [List.getElem?_eq_getElem h1, List.getElem_idxOf h1] at h2
  unfold lg
  rw [pw_mod]; exact (Option.some.inj h2).symm
theorem lg_pw (n : Nat) : lg (pw n) = n % 255 := pw_inj (lg_lt _) (Nat.mod_lt _ (by decide)) (by rw [pw_lg (pw_ne n), pw_mod])
theorem lg_zero : lg 0 = 0 := by decide +kernel
theorem mul_eq_zero {a b : UInt8} (h : mul a b = 0) : a = 0 ∨ b = 0 := by
  by_cases ha : a = 0
  · exact .inl ha
  · by_cases hb : b = 0
    · exact .inr hb
    · rw [← pw_lg ha, ← pw_lg hb, ← pw_add] at h; exact absurd h (pw_ne _)
theorem mul_ne {a b : UInt8} (ha : a ≠ 0) (hb : b ≠ 0) : mul a b ≠ 0 := fun h => (mul_eq_zero h).elim ha hb
theorem mul_pw {a b : UInt8} (ha : a ≠ 0) (hb : b ≠ 0) : pw (lg a + lg b) = mul a b := by rw [pw_add, pw_lg ha, pw_lg hb]
/-- The inverse; of 0: 0. -/
def inv (a : UInt8) : UInt8 := if a = 0 then 0 else pw (255 - lg a)
theorem mul_inv {a : UInt8} (h : a ≠ 0) : mul a (inv a) = 1 := by
  unfold inv; rw [if_neg h]
  have h1 := lg_lt a
  have : mul (pw (lg a)) (pw (255 - lg a)) = 1 := by rw [← pw_add, show lg a + (255 - lg a) = 255 by omega, pw_255]
  rwa [pw_lg h] at this
theorem inv_mul {a : UInt8} (h : a ≠ 0) : mul (inv a) a = 1 := by rw [mul_comm, mul_inv h]
theorem inv_zero : inv 0 = 0 := by simp [inv]
theorem inv_ne {a : UInt8} (h : a ≠ 0) : inv a ≠ 0 := fun e => by have := mul_inv h; rw [e, mul_zero] at this; exact absurd this (by decide)
theorem mul_cancel {a b c : UInt8} (h : a ≠ 0) (e : mul a b = mul a c) : b = c := by
  have : mul (inv a) (mul a b) = mul (inv a) (mul a c) := by rw [e]
  rwa [← mul_assoc, ← mul_assoc, inv_mul h, one_mul, one_mul] at this
theorem inv_uniq {a b : UInt8} (h : mul a b = 1) : b = inv a := by
  have ha : a ≠ 0 := fun e => by rw [e, zero_mul] at h; exact absurd h (by decide)
  exact mul_cancel ha (by rw [h, mul_inv ha])
/-- A power. -/
def pow (a : UInt8) : Nat → UInt8
  | 0 => 1
  | n + 1 => mul (pow a n) a
theorem pow_pw (i n : Nat) : pow (pw i) n = pw (i * n) := by
  induction n with
  | zero => rfl
  | succ n ih => simp only [pow]; rw [ih, ← pw_add, Nat.mul_succ]
theorem pow_zero_base (n : Nat) (h : 0 < n) : pow 0 n = 0 := by
  cases n with
  | zero => omega
  | succ n => simp [pow, mul_zero]

/-! The tables, as they are made: powers, which power, the next power. -/
def tabN : Nat → List UInt8 × List Int × UInt8
  | 0 => (List.replicate 510 0, List.replicate 256 0, 1)
  | n + 1 =>
    let t := tabN n
    (((t.1.set n t.2.2).set (n + 255) t.2.2), t.2.1.set t.2.2.toNat (n : Int), mul t.2.2 3)
def pwT : List UInt8 := (tabN 255).1
def lgT : List Int := (tabN 255).2.1
theorem tab_pw (n : Nat) : (tabN n).2.2 = pw n := by
  induction n with
  | zero => rfl
  | succ n ih => simp only [tabN, pw]; rw [ih]
theorem tab_len (n : Nat) : (tabN n).1.length = 510 ∧ (tabN n).2.1.length = 256 := by
  induction n with
  | zero => exact ⟨List.length_replicate, List.length_replicate⟩
  | succ n ih =>
    simp only [tabN, List.length_set]
    exact ih
theorem pwT_len : pwT.length = 510 := (tab_len 255).1
theorem lgT_len : lgT.length = 256 := (tab_len 255).2
theorem tab_get (n : Nat) (hn : n ≤ 255) : ∀ k, k < n → (tabN n).1[k]? = some (pw k) ∧ (tabN n).1[k + 255]? = some (pw k) := by
  induction n with
  | zero => intro k h; omega
  | succ n ih =>
    intro k hk
    have hl := (tab_len n).1
    simp only [tabN, tab_pw, List.getElem?_set, List.length_set]
    rw [hl]
    rw [if_neg (by omega)]
    by_cases hkn : k = n
    · subst hkn
      simp only [if_pos trivial]
      rw [if_pos (by omega), if_pos (by omega)]
      exact ⟨rfl, rfl⟩
    · obtain ⟨h1, h2⟩ := ih (by omega) k (by omega)
      rw [if_neg (fun e => hkn e.symm), if_neg (by omega), if_neg (by omega)]
      exact ⟨h1, h2⟩
theorem tab_lg (n : Nat) (hn : n ≤ 255) : ∀ k, k < n → (tabN n).2.1[(pw k).toNat]? = some (k : Int) := by
  induction n with
  | zero => intro k h; omega
  | succ n ih =>
    intro k hk
    have hl := (tab_len n).2
    simp only [tabN, tab_pw, List.getElem?_set]
    rw [hl]
    have h256 := (pw n).toNat_lt
    by_cases hkn : k = n
    · subst hkn
      rw [if_pos rfl, if_pos h256]
    · have hne : ¬ (pw n).toNat = (pw k).toNat := fun e => hkn (pw_inj (by omega) (by omega) (UInt8.toNat_inj.1 e).symm)
      rw [if_neg hne]
      exact ih (by omega) k (by omega)
theorem tab_lg0 (n : Nat) : (tabN n).2.1[0]? = some 0 := by
  induction n with
  | zero => exact List.getElem?_replicate_of_lt (by decide)
  | succ n ih =>
    simp only [tabN, tab_pw, List.getElem?_set]
    rw [if_neg (fun e => pw_ne n (UInt8.toNat_inj.1 (by simpa using e)))]
    exact ih
theorem pwT_get (k : Nat) (h : k < 510) : pwT[k]? = some (pw k) := by
  by_cases h1 : k < 255
  · exact (tab_get 255 (Nat.le_refl _) k h1).1
  · have := (tab_get 255 (Nat.le_refl _) (k - 255) (by omega)).2
    rw [show k - 255 + 255 = k by omega] at this
    have e : pw (k - 255) = pw k := by
      rw [← pw_mod k, ← pw_mod (k - 255)]; exact congrArg pw (by omega)
    rw [e] at this; exact this
theorem lgT_get (a : UInt8) : lgT[a.toNat]? = some (lg a : Int) := by
  by_cases h : a = 0
  · subst h; rw [lg_zero]; exact tab_lg0 255
  · have := tab_lg 255 (Nat.le_refl _) (lg a) (lg_lt a)
    rw [pw_lg h] at this; exact this
end Gf

/- The field's memory: its pointer, its tables, and how they are read. No condition. -/


set_option linter.unusedVariables false
set_option linter.unusedSimpArgs false
namespace Gk
open Go Go.Proofs

/-- v points to the field (b), or is nil. -/
def Fd (w : World) (L : List Value) (v : Value) (b : Bool) : Prop := FdT Gf.pwT Gf.lgT 68 w L v b
theorem Fd.lift {w w' : World} {L L' : List Value} {v : Value} {b : Bool} (h : Fd w L v b) (g : Lift w w' L L') : Fd w' L' v b := FdT.lift h g
theorem Fd.nil (w : World) (L : List Value) : Fd w L (.pointer none) false := .inl ⟨rfl, rfl⟩

def padd (v : Value) (n : Nat) : Value := match v with | .pointer (some a) => .pointer (some (a.add n)) | v => v
def grd (b : Bool) : Option Unit := if b then some () else none
theorem grd_eq {b : Bool} {u : Unit} (h : grd b = some u) : b = true := by cases b <;> simp_all [grd]

theorem fieldAt0 (a : Addr) (w : World) : (Instr.fieldAt 68 (.pointer (some a)) 0).run Try.prog w = .ok (.pointer (some (a.add 0))) w := by
  simp [Instr.fieldAt, Instr.sureAddr, fieldPlace]
theorem fieldAt1 (a : Addr) (w : World) : (Instr.fieldAt 68 (.pointer (some a)) 1).run Try.prog w = .ok (.pointer (some (a.add 510))) w := by
  simp [Instr.fieldAt, Instr.sureAddr, fieldPlace]

section
variable {o : Oper} {f : Nat → Value} {w : World} {L : List Value} {v : Value} {b : Bool} {x y : Operand} {t e : TypeId}
theorem q_nilF (ho : o.op = .nilCheck x) (hx : ev f x = v) (h : Fd w L v b) (hb : b = true) : Qa Try.prog o f v := by
  intro w'
  rcases h with ⟨h1, _⟩ | ⟨_, g, rfl, _⟩
  · rw [hb] at h1; cases h1
  · simp [execOp, ho, hx]
theorem q_fld0 (ho : o.op = .fieldAddr 68 x 0) (hx : ev f x = v) (h : Fd w L v b) (hb : b = true) : Qa Try.prog o f (padd v 0) := by
  intro w'
  rcases h with ⟨h1, _⟩ | ⟨_, g, rfl, _⟩
  · rw [hb] at h1; cases h1
  · simp [execOp, ho, hx, fieldAt0, padd]
theorem q_fld1 (ho : o.op = .fieldAddr 68 x 1) (hx : ev f x = v) (h : Fd w L v b) (hb : b = true) : Qa Try.prog o f (padd v 510) := by
  intro w'
  rcases h with ⟨h1, _⟩ | ⟨_, g, rfl, _⟩
  · rw [hb] at h1; cases h1
  · simp [execOp, ho, hx, fieldAt1, padd]
theorem q_fix {k : IntKind} {i : Int} {n off : Nat} {α : Type} {l : List α} {c : α} (ho : o.op = .indexAddr t x y) (ht : Try.prog.underlying t = some (.array n e)) (hs : ∀ w, (Go.sizeOf e).run Try.prog w = .ok 1 w) (hl : l.length = n)
    (hx : ev f x = padd v off) (hy : ev f y = .int k i) (h : Fd w L v b) (hb : b = true) (hi : idx l i = some c) : Qa Try.prog o f (padd v (off + i.toNat)) := by
  intro w'
  obtain ⟨h0, h1, _⟩ := idx_some.1 hi
  rcases h with ⟨h2, _⟩ | ⟨_, g, rfl, _⟩
  · rw [hb] at h2; cases h2
  · have h3 : i < (n : Int) := by omega
    simp [execOp, ho, hx, hy, Instr.indexAt, asIntOf, run_underlying ht, Instr.sureAddr, padd, h0, h3, hs, add_off]
theorem fieldCells_pw (pw : List UInt8) (lg : List Int) (i : Nat) (c : UInt8) (h : pw[i]? = some c) : (fieldCells pw lg)[i]? = some (u8 c) := by
  have hi : i < pw.length := (List.getElem?_eq_some_iff.1 h).1
  simp [fieldCells, List.getElem?_append, hi]
  rw [(List.getElem?_eq_some_iff.1 h).2]
theorem fieldCells_lg (pw : List UInt8) (lg : List Int) (i : Nat) (c : Int) (h : lg[i]? = some c) : (fieldCells pw lg)[pw.length + i]? = some (i64 c) := by
  simp [fieldCells, List.getElem?_append, h]
theorem q_fload (u : Value) (m : Nat) (ho : o.op = .load e x) (ha : ∀ w, (isAgg e).run Try.prog w = .ok false w) (hx : ev f x = padd v m) (h : Fd w L v b) (hb : b = true) (hc : (fieldCells Gf.pwT Gf.lgT)[m]? = some u) : Qt Try.prog o f w u := by
  intro w' hE
  rcases h with ⟨h2, _⟩ | ⟨_, g, rfl, _, hg⟩
  · rw [hb] at h2; cases h2
  · have hlt : g < w.heap.size := (Array.getElem?_eq_some_iff.1 hg).1
    have hg' : w'.heap[g]? = some (.cells (fieldCells Gf.pwT Gf.lgT) 68 (0, 0)) := by rw [hE.blk g hlt]; exact hg
    have hcell : w'.cell? ⟨g, m, none⟩ = some u := by rw [cell_of_row w' g m _ _ _ hg', hc]
    simp [execOp, ho, hx, padd, Instr.loadAt, Instr.sureAddr, loadVar, ha, add_off, load, Sem.run, hcell]
theorem q_fload0 {i : Int} {c : UInt8} (ho : o.op = .load 5 x) (hx : ev f x = padd v (0 + i.toNat)) (h : Fd w L v b) (hb : b = true) (hi : idx Gf.pwT i = some c) : Qt Try.prog o f w (u8 c) := by
  obtain ⟨h0, h1, h2⟩ := idx_some.1 hi
  exact q_fload _ _ ho Try.isAgg5 hx h hb (by rw [Nat.zero_add]; exact fieldCells_pw _ _ _ _ (List.getElem?_eq_some_iff.2 ⟨h1, h2⟩))
theorem q_fload1 {i : Int} {c : Int} (ho : o.op = .load 3 x) (hx : ev f x = padd v (510 + i.toNat)) (h : Fd w L v b) (hb : b = true) (hi : idx Gf.lgT i = some c) : Qt Try.prog o f w (i64 c) := by
  obtain ⟨h0, h1, h2⟩ := idx_some.1 hi
  refine q_fload _ _ ho Try.isAgg3 hx h hb ?_
  have := fieldCells_lg Gf.pwT Gf.lgT i.toNat c (List.getElem?_eq_some_iff.2 ⟨h1, h2⟩)
  rw [Gf.pwT_len] at this
  exact this
theorem q_fix0 {k : IntKind} {i : Int} {c : UInt8} (ho : o.op = .indexAddr 65 x y) (hx : ev f x = padd v 0) (hy : ev f y = .int k i) (h : Fd w L v b) (hb : b = true) (hi : idx Gf.pwT i = some c) : Qa Try.prog o f (padd v (0 + i.toNat)) :=
  q_fix ho Try.underlying65 Try.sizeOf5 Gf.pwT_len hx hy h hb hi
theorem q_fix1 {k : IntKind} {i : Int} {c : Int} (ho : o.op = .indexAddr 66 x y) (hx : ev f x = padd v 510) (hy : ev f y = .int k i) (h : Fd w L v b) (hb : b = true) (hi : idx Gf.lgT i = some c) : Qa Try.prog o f (padd v (510 + i.toNat)) :=
  q_fix ho Try.underlying66 Try.sizeOf3 Gf.lgT_len hx hy h hb hi
end
end Gk

/- Printed by gen.py: for each Go function a pure function, and that the Go code comes to it. No condition beside the equation that says what the pure function gives. -/

set_option linter.unusedVariables false
set_option linter.unusedSimpArgs false
namespace Gk
open Go Go.Proofs

/-! largesse/field.Add -/
noncomputable def field_Add (a0a : UInt8) (a1b : UInt8) : Option UInt8 := some (a0a ^^^ a1b)
set_option maxRecDepth 100000 in
set_option maxHeartbeats 8000000 in
theorem field_Add_calls (a0a : UInt8) (a1b : UInt8) (r : UInt8) (w0 : World) (H : field_Add a0a a1b = some r) :
    Calls Try.prog 42 [(u8 a0a), (u8 a1b)].toArray w0 (fun e w' => e = .returned (u8 r) ∧ Ext w0 w') := by
  have hE : Ext w0 w0 := Ext.refl w0
  unfold field_Add at H
  refine calls_W (n := 8) Try.func42 rfl rfl rfl ?_
  refine W_seq ?_
  refine W_reg (by kernel_rfl) ?_
  refine wla rfl rfl (q_assign (v := (u8 0)) rfl (cst8 (0 : UInt8) rfl)) ?_
  refine wl_nil ?_
  refine W_th ?_
  refine W_seq ?_
  refine W_reg (by kernel_rfl) ?_
  refine wla rfl rfl (q_move (v := (u8 a0a)) rfl rfl) ?_
  refine wla rfl rfl (q_move (v := (u8 a1b)) rfl rfl) ?_
  refine wla rfl rfl (q_xor8 rfl rfl rfl) ?_
  refine wla rfl rfl (q_assign (v := (u8 ((a0a ^^^ a1b)))) rfl rfl) ?_
  refine wl_nil ?_
  refine W_th ?_
  refine W_ret ?_
  obtain rfl := Option.some.inj H
  refine rt1 (u8 ((a0a ^^^ a1b))) rfl rfl rfl rfl ?_
  exact ⟨rfl, hE⟩

/-! largesse/field.double -/
noncomputable def field_double (a0a : UInt8) : Option UInt8 :=
(if (shr8 a0a 7) = (1 : UInt8) then some ((shl8 a0a 1) ^^^ (27 : UInt8))
else some (shl8 a0a 1))
set_option maxRecDepth 100000 in
set_option maxHeartbeats 8000000 in
theorem field_double_calls (a0a : UInt8) (r : UInt8) (w0 : World) (H : field_double a0a = some r) :
    Calls Try.prog 74 [(u8 a0a)].toArray w0 (fun e w' => e = .returned (u8 r) ∧ Ext w0 w') := by
  have hE : Ext w0 w0 := Ext.refl w0
  unfold field_double at H
  refine calls_W (n := 12) Try.func74 rfl rfl rfl ?_
  refine W_seq ?_
  refine W_reg (by kernel_rfl) ?_
  refine wla rfl rfl (q_assign (v := (u8 0)) rfl (cst8 (0 : UInt8) rfl)) ?_
  refine wl_nil ?_
  refine W_th ?_
  refine W_seq ?_
  refine W_reg (by kernel_rfl) ?_
  refine wla rfl rfl (q_move (v := (u8 a0a)) rfl rfl) ?_
  refine wla rfl rfl (q_shl8 1 rfl rfl rfl rfl) ?_
  refine wla rfl rfl (q_assign (v := (u8 ((shl8 a0a 1)))) rfl rfl) ?_
  refine wl_nil ?_
  refine W_th ?_
  refine W_seq ?_
  refine W_seq ?_
  refine W_reg (by kernel_rfl) ?_
  refine wla rfl rfl (q_move (v := (u8 a0a)) rfl rfl) ?_
  refine wla rfl rfl (q_shr8 7 rfl rfl rfl rfl) ?_
  refine wla rfl rfl (q_eq8 rfl rfl (cst8 (1 : UInt8) rfl)) ?_
  refine wl_nil ?_
  refine W_th ?_
  refine W_cond _ rfl rfl (fun hb1 => ?_) (fun hb1 => ?_)
  · replace H := (if_pos (of_decide_eq_true hb1)).symm.trans H
    refine W_reg (by kernel_rfl) ?_
    refine wla rfl rfl (q_move (v := (u8 ((shl8 a0a 1)))) rfl rfl) ?_
    refine wla rfl rfl (q_xor8 rfl rfl (cst8 (27 : UInt8) rfl)) ?_
    refine wla rfl rfl (q_assign (v := (u8 (((shl8 a0a 1) ^^^ (27 : UInt8))))) rfl rfl) ?_
    refine wl_nil ?_
    refine W_th ?_
    refine W_seq ?_
    refine W_reg (by kernel_rfl) ?_
    refine wla rfl rfl (q_move (v := (u8 (((shl8 a0a 1) ^^^ (27 : UInt8))))) rfl rfl) ?_
    refine wla rfl rfl (q_assign (v := (u8 (((shl8 a0a 1) ^^^ (27 : UInt8))))) rfl rfl) ?_
    refine wl_nil ?_
    refine W_th ?_
    refine W_ret ?_
    obtain rfl := Option.some.inj H
    refine rt1 (u8 (((shl8 a0a 1) ^^^ (27 : UInt8)))) rfl rfl rfl rfl ?_
    exact ⟨rfl, hE⟩
  · replace H := (if_neg (of_decide_eq_false hb1)).symm.trans H
    refine W_skip ?_
    refine W_th ?_
    refine W_seq ?_
    refine W_reg (by kernel_rfl) ?_
    refine wla rfl rfl (q_move (v := (u8 ((shl8 a0a 1)))) rfl rfl) ?_
    refine wla rfl rfl (q_assign (v := (u8 ((shl8 a0a 1)))) rfl rfl) ?_
    refine wl_nil ?_
    refine W_th ?_
    refine W_ret ?_
    obtain rfl := Option.some.inj H
    refine rt1 (u8 ((shl8 a0a 1))) rfl rfl rfl rfl ?_
    exact ⟨rfl, hE⟩

/-! largesse/field.Slow -/
noncomputable def field_Slow (a0a : UInt8) (a1b : UInt8) : Option UInt8 :=
((iterC (fun s1 : UInt8 × UInt8 × UInt8 =>
(if s1.2.1 = (0 : UInt8) then some (.inr s1.2.2)
else
(if (s1.2.1 &&& (1 : UInt8)) = (1 : UInt8) then
((field_double s1.1).bind fun r5 => some (.inl (r5, (shr8 s1.2.1 1), (s1.2.2 ^^^ s1.1))))
else
((field_double s1.1).bind fun r7 => some (.inl (r7, (shr8 s1.2.1 1), s1.2.2)))))) (a0a, a1b, (0 : UInt8))).bind fun x1 => some x1)
set_option maxRecDepth 100000 in
set_option maxHeartbeats 8000000 in
theorem field_Slow_calls (a0a : UInt8) (a1b : UInt8) (r : UInt8) (w0 : World) (H : field_Slow a0a a1b = some r) :
    Calls Try.prog 37 [(u8 a0a), (u8 a1b)].toArray w0 (fun e w' => e = .returned (u8 r) ∧ Ext w0 w') := by
  have hE : Ext w0 w0 := Ext.refl w0
  unfold field_Slow at H
  refine calls_W (n := 19) Try.func37 rfl rfl rfl ?_
  refine W_seq ?_
  refine W_reg (by kernel_rfl) ?_
  refine wla rfl rfl (q_assign (v := (u8 0)) rfl (cst8 (0 : UInt8) rfl)) ?_
  refine wl_nil ?_
  refine W_th ?_
  refine W_seq ?_
  refine W_reg (by kernel_rfl) ?_
  refine wla rfl rfl (q_assign (v := (u8 0)) rfl (cst8 (0 : UInt8) rfl)) ?_
  refine wl_nil ?_
  refine W_th ?_
  refine W_seq ?_
  obtain ⟨x1, G1, H⟩ := Option.bind_eq_some_iff.1 H
  refine W_mid (fun f w => f 5 = (u8 x1) ∧ f 19 = undef ∧ Ext w0 w) ?_ ?_
  · refine W_block ?_
    refine W_loop (fun s1 f w => f 0 = (u8 s1.1) ∧ f 1 = (u8 s1.2.1) ∧ f 5 = (u8 s1.2.2) ∧ f 19 = undef ∧ Ext w0 w) G1 ?_ ?_
    · exact ⟨rfl, rfl, rfl, rfl, hE⟩
    · rintro s1 _ _ w2 ⟨s0_2, s1_2, s5_2, s19_2, hE2⟩ H1 hr1
      refine W_seq ?_
      refine W_seq ?_
      refine W_reg (by kernel_rfl) ?_
      refine wla rfl rfl (q_move (v := (u8 s1.2.1)) rfl s1_2) ?_
      refine wla rfl rfl (q_ne8 rfl rfl (cst8 (0 : UInt8) rfl)) ?_
      refine wl_nil ?_
      refine W_th ?_
      refine W_cond _ rfl rfl (fun hb3 => ?_) (fun hb3 => ?_)
      · replace H1 := (if_neg (ndec_t hb3)).symm.trans H1
        refine W_skip ?_
        refine W_th ?_
        refine W_seq ?_
        refine W_block ?_
        refine W_seq ?_
        refine W_seq ?_
        refine W_reg (by kernel_rfl) ?_
        refine wla rfl rfl (q_move (v := (u8 s1.2.1)) rfl s1_2) ?_
        refine wla rfl rfl (q_and8 rfl rfl (cst8 (1 : UInt8) rfl)) ?_
        refine wla rfl rfl (q_eq8 rfl rfl (cst8 (1 : UInt8) rfl)) ?_
        refine wl_nil ?_
        refine W_th ?_
        refine W_cond _ rfl rfl (fun hb4 => ?_) (fun hb4 => ?_)
        · replace H1 := (if_pos (of_decide_eq_true hb4)).symm.trans H1
          refine W_reg (by kernel_rfl) ?_
          refine wla rfl rfl (q_move (v := (u8 s1.2.2)) rfl s5_2) ?_
          refine wla rfl rfl (q_move (v := (u8 s1.1)) rfl s0_2) ?_
          refine wla rfl rfl (q_xor8 rfl rfl rfl) ?_
          refine wla rfl rfl (q_assign (v := (u8 ((s1.2.2 ^^^ s1.1)))) rfl rfl) ?_
          refine wl_nil ?_
          refine W_th ?_
          refine W_reg (by kernel_rfl) ?_
          refine wla rfl rfl (q_move (v := (u8 s1.1)) rfl s0_2) ?_
          obtain ⟨r5, hr5, H1⟩ := Option.bind_eq_some_iff.1 H1
          refine wls rfl rfl (stp_call (vs := [(u8 s1.1)]) Try.func74 rfl rfl rfl (ar1 rfl) (field_double_calls s1.1  r5 _  hr5) ?_)
          rintro _ w5 ⟨rfl, x5⟩
          refine ⟨_, rfl, ?_⟩
          have e6 := hE2.trans x5
          refine wla rfl rfl (q_assign (v := (u8 r5)) rfl rfl) ?_
          refine wl_nil ?_
          refine bk_n ?_
          refine W_th ?_
          refine W_reg (by kernel_rfl) ?_
          refine wla rfl rfl (q_move (v := (u8 s1.2.1)) rfl s1_2) ?_
          refine wla rfl rfl (q_shr8 1 rfl rfl rfl rfl) ?_
          refine wla rfl rfl (q_assign (v := (u8 ((shr8 s1.2.1 1)))) rfl rfl) ?_
          refine wl_nil ?_
          obtain rfl := Option.some.inj H1
          exact ⟨_, rfl, rfl, rfl, rfl, s19_2, e6⟩
        · replace H1 := (if_neg (of_decide_eq_false hb4)).symm.trans H1
          refine W_skip ?_
          refine W_th ?_
          refine W_reg (by kernel_rfl) ?_
          refine wla rfl rfl (q_move (v := (u8 s1.1)) rfl s0_2) ?_
          obtain ⟨r7, hr7, H1⟩ := Option.bind_eq_some_iff.1 H1
          refine wls rfl rfl (stp_call (vs := [(u8 s1.1)]) Try.func74 rfl rfl rfl (ar1 rfl) (field_double_calls s1.1  r7 _  hr7) ?_)
          rintro _ w7 ⟨rfl, x7⟩
          refine ⟨_, rfl, ?_⟩
          have e8 := hE2.trans x7
          refine wla rfl rfl (q_assign (v := (u8 r7)) rfl rfl) ?_
          refine wl_nil ?_
          refine bk_n ?_
          refine W_th ?_
          refine W_reg (by kernel_rfl) ?_
          refine wla rfl rfl (q_move (v := (u8 s1.2.1)) rfl s1_2) ?_
          refine wla rfl rfl (q_shr8 1 rfl rfl rfl rfl) ?_
          refine wla rfl rfl (q_assign (v := (u8 ((shr8 s1.2.1 1)))) rfl rfl) ?_
          refine wl_nil ?_
          obtain rfl := Option.some.inj H1
          exact ⟨_, rfl, rfl, rfl, s5_2, s19_2, e8⟩
      · replace H1 := (if_pos (ndec_f hb3)).symm.trans H1
        refine W_exit ?_
        refine th_x ?_
        obtain rfl := Option.some.inj H1
        obtain rfl := hr1 _ rfl
        refine th_x ?_
        refine bk_x ?_
        exact ⟨s5_2, s19_2, hE2⟩
  · rintro _ w10 ⟨s5_10, s19_10, hE10⟩
    refine W_th ?_
    refine W_seq ?_
    refine W_reg (by kernel_rfl) ?_
    refine wla rfl rfl (q_move (v := (u8 x1)) rfl s5_10) ?_
    refine wla rfl rfl (q_assign (v := (u8 x1)) rfl rfl) ?_
    refine wl_nil ?_
    refine W_th ?_
    refine W_ret ?_
    obtain rfl := Option.some.inj H
    refine rt1 (u8 x1) rfl rfl rfl s19_10 ?_
    exact ⟨rfl, hE10⟩

/-! largesse/largesseref02.Mul -/
noncomputable def ref02_Mul (a0a : UInt8) (a1b : UInt8) : Option UInt8 :=
((iterC (fun s1 : Int × Int =>
(if s1.2 < 8 then
((cnt s1.2).bind fun c4 =>
(if ((shr8 a1b c4) % (2 : UInt8)) = (1 : UInt8) then
((cnt s1.2).bind fun c6 => some (.inl ((xorI s1.1 (shlI ((a0a.toNat : Int)) c6)), (wI (s1.2 + 1)))))
else some (.inl (s1.1, (wI (s1.2 + 1))))))
else some (.inr s1.1))) (0, 0)).bind fun x1 =>
((iterC (fun s9 : Int × Int =>
(if 8 ≤ s9.2 then
((cnt s9.2).bind fun c12 =>
((remI ((shrI s9.1 c12)) 2).bind fun c13 =>
(if c13 = 1 then
((cnt ((wI (s9.2 - 8)))).bind fun c15 => some (.inl ((xorI s9.1 (shlI 283 c15)), (wI (s9.2 - 1)))))
else some (.inl (s9.1, (wI (s9.2 - 1)))))))
else some (.inr s9.1))) (x1, 14)).bind fun x9 => some (UInt8.ofInt x9)))
set_option maxRecDepth 100000 in
set_option maxHeartbeats 8000000 in
theorem ref02_Mul_calls (a0a : UInt8) (a1b : UInt8) (r : UInt8) (w0 : World) (H : ref02_Mul a0a a1b = some r) :
    Calls Try.prog 48 [(u8 a0a), (u8 a1b)].toArray w0 (fun e w' => e = .returned (u8 r) ∧ Ext w0 w') := by
  have hE : Ext w0 w0 := Ext.refl w0
  unfold ref02_Mul at H
  refine calls_W (n := 39) Try.func48 rfl rfl rfl ?_
  refine W_seq ?_
  refine W_reg (by kernel_rfl) ?_
  refine wla rfl rfl (q_assign (v := (u8 0)) rfl (cst8 (0 : UInt8) rfl)) ?_
  refine wl_nil ?_
  refine W_th ?_
  refine W_seq ?_
  refine W_reg (by kernel_rfl) ?_
  refine wla rfl rfl (q_assign (v := (i64 0)) rfl rfl) ?_
  refine wl_nil ?_
  refine W_th ?_
  refine W_seq ?_
  refine W_seq ?_
  refine W_reg (by kernel_rfl) ?_
  refine wla rfl rfl (q_assign (v := (i64 0)) rfl rfl) ?_
  refine wl_nil ?_
  refine W_th ?_
  obtain ⟨x1, G1, H⟩ := Option.bind_eq_some_iff.1 H
  refine W_mid (fun f w => f 5 = (i64 x1) ∧ f 39 = undef ∧ Ext w0 w) ?_ ?_
  · refine W_block ?_
    refine W_loop (fun s1 f w => f 0 = (u8 a0a) ∧ f 1 = (u8 a1b) ∧ f 5 = (i64 s1.1) ∧ f 6 = (i64 s1.2) ∧ f 39 = undef ∧ Ext w0 w) G1 ?_ ?_
    · exact ⟨rfl, rfl, rfl, rfl, rfl, hE⟩
    · rintro s1 _ _ w2 ⟨s0_2, s1_2, s5_2, s6_2, s39_2, hE2⟩ H1 hr1
      refine W_seq ?_
      refine W_seq ?_
      refine W_reg (by kernel_rfl) ?_
      refine wla rfl rfl (q_move (v := (i64 s1.2)) rfl s6_2) ?_
      refine wla rfl rfl (q_ltI rfl rfl rfl) ?_
      refine wl_nil ?_
      refine W_th ?_
      refine W_cond _ rfl rfl (fun hb3 => ?_) (fun hb3 => ?_)
      · replace H1 := (if_pos (of_decide_eq_true hb3)).symm.trans H1
        refine W_skip ?_
        refine W_th ?_
        refine W_seq ?_
        refine W_block ?_
        refine W_seq ?_
        refine W_reg (by kernel_rfl) ?_
        refine wla rfl rfl (q_move (v := (u8 a1b)) rfl s1_2) ?_
        refine wla rfl rfl (q_move (v := (i64 s1.2)) rfl s6_2) ?_
        obtain ⟨c4, hc4, H1⟩ := Option.bind_eq_some_iff.1 H1
        refine wla rfl rfl (q_shr8 c4 rfl rfl rfl (cnt_eq hc4)) ?_
        refine wla rfl rfl (q_rem8 rfl rfl (cst8 (2 : UInt8) rfl) (by decide)) ?_
        refine wla rfl rfl (q_eq8 rfl rfl (cst8 (1 : UInt8) rfl)) ?_
        refine wl_nil ?_
        refine W_th ?_
        refine W_cond _ rfl rfl (fun hb5 => ?_) (fun hb5 => ?_)
        · replace H1 := (if_pos (of_decide_eq_true hb5)).symm.trans H1
          refine W_reg (by kernel_rfl) ?_
          refine wla rfl rfl (q_move (v := (i64 s1.1)) rfl s5_2) ?_
          refine wla rfl rfl (q_move (v := (u8 a0a)) rfl s0_2) ?_
          refine wla rfl rfl (q_cvtI8 rfl rfl rfl rfl) ?_
          refine wla rfl rfl (q_move (v := (i64 s1.2)) rfl s6_2) ?_
          obtain ⟨c6, hc6, H1⟩ := Option.bind_eq_some_iff.1 H1
          refine wla rfl rfl (q_shlI c6 rfl rfl rfl (cnt_eq hc6)) ?_
          refine wla rfl rfl (q_xorI rfl rfl rfl) ?_
          refine wla rfl rfl (q_assign (v := (i64 ((xorI s1.1 (shlI ((a0a.toNat : Int)) c6))))) rfl rfl) ?_
          refine wl_nil ?_
          refine bk_n ?_
          refine W_th ?_
          refine W_reg (by kernel_rfl) ?_
          refine wla rfl rfl (q_move (v := (i64 s1.2)) rfl s6_2) ?_
          refine wla rfl rfl (q_addI rfl rfl rfl) ?_
          refine wla rfl rfl (q_assign (v := (i64 ((wI (s1.2 + 1))))) rfl rfl) ?_
          refine wl_nil ?_
          obtain rfl := Option.some.inj H1
          exact ⟨_, rfl, s0_2, s1_2, rfl, rfl, s39_2, hE2⟩
        · replace H1 := (if_neg (of_decide_eq_false hb5)).symm.trans H1
          refine W_skip ?_
          refine bk_n ?_
          refine W_th ?_
          refine W_reg (by kernel_rfl) ?_
          refine wla rfl rfl (q_move (v := (i64 s1.2)) rfl s6_2) ?_
          refine wla rfl rfl (q_addI rfl rfl rfl) ?_
          refine wla rfl rfl (q_assign (v := (i64 ((wI (s1.2 + 1))))) rfl rfl) ?_
          refine wl_nil ?_
          obtain rfl := Option.some.inj H1
          exact ⟨_, rfl, s0_2, s1_2, s5_2, rfl, s39_2, hE2⟩
      · replace H1 := (if_neg (of_decide_eq_false hb3)).symm.trans H1
        refine W_exit ?_
        refine th_x ?_
        obtain rfl := Option.some.inj H1
        obtain rfl := hr1 _ rfl
        refine th_x ?_
        refine bk_x ?_
        exact ⟨s5_2, s39_2, hE2⟩
  · rintro _ w8 ⟨s5_8, s39_8, hE8⟩
    refine W_th ?_
    refine W_seq ?_
    refine W_seq ?_
    refine W_reg (by kernel_rfl) ?_
    refine wla rfl rfl (q_assign (v := (i64 14)) rfl rfl) ?_
    refine wl_nil ?_
    refine W_th ?_
    obtain ⟨x9, G9, H⟩ := Option.bind_eq_some_iff.1 H
    refine W_mid (fun f w => f 5 = (i64 x9) ∧ f 39 = undef ∧ Ext w0 w) ?_ ?_
    · refine W_block ?_
      refine W_loop (fun s9 f w => f 5 = (i64 s9.1) ∧ f 7 = (i64 s9.2) ∧ f 39 = undef ∧ Ext w0 w) G9 ?_ ?_
      · exact ⟨s5_8, rfl, s39_8, hE8⟩
      · rintro s9 _ _ w10 ⟨s5_10, s7_10, s39_10, hE10⟩ H9 hr9
        refine W_seq ?_
        refine W_seq ?_
        refine W_reg (by kernel_rfl) ?_
        refine wla rfl rfl (q_move (v := (i64 s9.2)) rfl s7_10) ?_
        refine wla rfl rfl (q_geI rfl rfl rfl) ?_
        refine wl_nil ?_
        refine W_th ?_
        refine W_cond _ rfl rfl (fun hb11 => ?_) (fun hb11 => ?_)
        · replace H9 := (if_pos (of_decide_eq_true hb11)).symm.trans H9
          refine W_skip ?_
          refine W_th ?_
          refine W_seq ?_
          refine W_block ?_
          refine W_seq ?_
          refine W_reg (by kernel_rfl) ?_
          refine wla rfl rfl (q_move (v := (i64 s9.1)) rfl s5_10) ?_
          refine wla rfl rfl (q_move (v := (i64 s9.2)) rfl s7_10) ?_
          obtain ⟨c12, hc12, H9⟩ := Option.bind_eq_some_iff.1 H9
          refine wla rfl rfl (q_shrI c12 rfl rfl rfl (cnt_eq hc12)) ?_
          obtain ⟨c13, hc13, H9⟩ := Option.bind_eq_some_iff.1 H9
          refine wla rfl rfl (q_remI rfl rfl rfl hc13) ?_
          refine wla rfl rfl (q_eqI rfl rfl rfl) ?_
          refine wl_nil ?_
          refine W_th ?_
          refine W_cond _ rfl rfl (fun hb14 => ?_) (fun hb14 => ?_)
          · replace H9 := (if_pos (of_decide_eq_true hb14)).symm.trans H9
            refine W_reg (by kernel_rfl) ?_
            refine wla rfl rfl (q_move (v := (i64 s9.1)) rfl s5_10) ?_
            refine wla rfl rfl (q_move (v := (i64 s9.2)) rfl s7_10) ?_
            refine wla rfl rfl (q_subI rfl rfl rfl) ?_
            obtain ⟨c15, hc15, H9⟩ := Option.bind_eq_some_iff.1 H9
            refine wla rfl rfl (q_shlI c15 rfl rfl rfl (cnt_eq hc15)) ?_
            refine wla rfl rfl (q_xorI rfl rfl rfl) ?_
            refine wla rfl rfl (q_assign (v := (i64 ((xorI s9.1 (shlI 283 c15))))) rfl rfl) ?_
            refine wl_nil ?_
            refine bk_n ?_
            refine W_th ?_
            refine W_reg (by kernel_rfl) ?_
            refine wla rfl rfl (q_move (v := (i64 s9.2)) rfl s7_10) ?_
            refine wla rfl rfl (q_subI rfl rfl rfl) ?_
            refine wla rfl rfl (q_assign (v := (i64 ((wI (s9.2 - 1))))) rfl rfl) ?_
            refine wl_nil ?_
            obtain rfl := Option.some.inj H9
            exact ⟨_, rfl, rfl, rfl, s39_10, hE10⟩
          · replace H9 := (if_neg (of_decide_eq_false hb14)).symm.trans H9
            refine W_skip ?_
            refine bk_n ?_
            refine W_th ?_
            refine W_reg (by kernel_rfl) ?_
            refine wla rfl rfl (q_move (v := (i64 s9.2)) rfl s7_10) ?_
            refine wla rfl rfl (q_subI rfl rfl rfl) ?_
            refine wla rfl rfl (q_assign (v := (i64 ((wI (s9.2 - 1))))) rfl rfl) ?_
            refine wl_nil ?_
            obtain rfl := Option.some.inj H9
            exact ⟨_, rfl, s5_10, rfl, s39_10, hE10⟩
        · replace H9 := (if_neg (of_decide_eq_false hb11)).symm.trans H9
          refine W_exit ?_
          refine th_x ?_
          obtain rfl := Option.some.inj H9
          obtain rfl := hr9 _ rfl
          refine th_x ?_
          refine bk_x ?_
          exact ⟨s5_10, s39_10, hE10⟩
    · rintro _ w17 ⟨s5_17, s39_17, hE17⟩
      refine W_th ?_
      refine W_seq ?_
      refine W_reg (by kernel_rfl) ?_
      refine wla rfl rfl (q_move (v := (i64 x9)) rfl s5_17) ?_
      refine wla rfl rfl (q_cvt8I rfl rfl rfl rfl) ?_
      refine wla rfl rfl (q_assign (v := (u8 ((UInt8.ofInt x9)))) rfl rfl) ?_
      refine wl_nil ?_
      refine W_th ?_
      refine W_ret ?_
      obtain rfl := Option.some.inj H
      refine rt1 (u8 ((UInt8.ofInt x9))) rfl rfl rfl s39_17 ?_
      exact ⟨rfl, hE17⟩

/-! largesse/largesseref02.Inv -/
noncomputable def ref02_Inv (a0a : UInt8) : Option UInt8 :=
((iterC (fun s1 : Int =>
(if s1 < 256 then
((ref02_Mul a0a (UInt8.ofInt s1)).bind fun r4 =>
(if r4 = (1 : UInt8) then some (.inr (.inr (UInt8.ofInt s1)))
else some (.inl (wI (s1 + 1)))))
else some (.inr (.inl ())))) 1).bind (Sum.elim (fun y1 => some (0 : UInt8)) (fun q1 => some q1)))
set_option maxRecDepth 100000 in
set_option maxHeartbeats 8000000 in
theorem ref02_Inv_calls (a0a : UInt8) (r : UInt8) (w0 : World) (H : ref02_Inv a0a = some r) :
    Calls Try.prog 54 [(u8 a0a)].toArray w0 (fun e w' => e = .returned (u8 r) ∧ Ext w0 w') := by
  have hE : Ext w0 w0 := Ext.refl w0
  unfold ref02_Inv at H
  refine calls_W (n := 15) Try.func54 rfl rfl rfl ?_
  refine W_seq ?_
  refine W_reg (by kernel_rfl) ?_
  refine wla rfl rfl (q_assign (v := (u8 0)) rfl (cst8 (0 : UInt8) rfl)) ?_
  refine wl_nil ?_
  refine W_th ?_
  refine W_seq ?_
  refine W_seq ?_
  refine W_reg (by kernel_rfl) ?_
  refine wla rfl rfl (q_assign (v := (i64 1)) rfl rfl) ?_
  refine wl_nil ?_
  refine W_th ?_
  obtain ⟨x1, G1, H⟩ := Option.bind_eq_some_iff.1 H
  refine W_mid (fun f w => ∃ y1, x1 = .inl y1 ∧ f 15 = undef ∧ Ext w0 w) ?_ ?_
  · refine W_block ?_
    refine W_loop (fun s1 f w => f 0 = (u8 a0a) ∧ f 3 = (i64 s1) ∧ f 15 = undef ∧ Ext w0 w) G1 ?_ ?_
    · exact ⟨rfl, rfl, rfl, hE⟩
    · rintro s1 _ _ w2 ⟨s0_2, s3_2, s15_2, hE2⟩ H1 hr1
      refine W_seq ?_
      refine W_seq ?_
      refine W_reg (by kernel_rfl) ?_
      refine wla rfl rfl (q_move (v := (i64 s1)) rfl s3_2) ?_
      refine wla rfl rfl (q_ltI rfl rfl rfl) ?_
      refine wl_nil ?_
      refine W_th ?_
      refine W_cond _ rfl rfl (fun hb3 => ?_) (fun hb3 => ?_)
      · replace H1 := (if_pos (of_decide_eq_true hb3)).symm.trans H1
        refine W_skip ?_
        refine W_th ?_
        refine W_seq ?_
        refine W_block ?_
        refine W_seq ?_
        refine W_reg (by kernel_rfl) ?_
        refine wla rfl rfl (q_move (v := (u8 a0a)) rfl s0_2) ?_
        refine wla rfl rfl (q_move (v := (i64 s1)) rfl s3_2) ?_
        refine wla rfl rfl (q_cvt8I rfl rfl rfl rfl) ?_
        obtain ⟨r4, hr4, H1⟩ := Option.bind_eq_some_iff.1 H1
        refine wls rfl rfl (stp_call (vs := [(u8 a0a), (u8 ((UInt8.ofInt s1)))]) Try.func48 rfl rfl rfl (ar2 rfl rfl) (ref02_Mul_calls a0a (UInt8.ofInt s1)  r4 _  hr4) ?_)
        rintro _ w4 ⟨rfl, x4⟩
        refine ⟨_, rfl, ?_⟩
        have e5 := hE2.trans x4
        refine wla rfl rfl (q_eq8 rfl rfl (cst8 (1 : UInt8) rfl)) ?_
        refine wl_nil ?_
        refine W_th ?_
        refine W_cond _ rfl rfl (fun hb6 => ?_) (fun hb6 => ?_)
        · replace H1 := (if_pos (of_decide_eq_true hb6)).symm.trans H1
          refine W_seq ?_
          refine W_reg (by kernel_rfl) ?_
          refine wla rfl rfl (q_move (v := (i64 s1)) rfl s3_2) ?_
          refine wla rfl rfl (q_cvt8I rfl rfl rfl rfl) ?_
          refine wla rfl rfl (q_assign (v := (u8 ((UInt8.ofInt s1)))) rfl rfl) ?_
          refine wl_nil ?_
          refine W_th ?_
          refine W_ret ?_
          refine bk_r ?_
          refine th_r ?_
          obtain rfl := Option.some.inj H1
          obtain rfl := hr1 _ rfl
          simp only [Sum.elim_inr] at H
          refine th_r ?_
          refine bk_r ?_
          refine th_r ?_
          refine th_r ?_
          obtain rfl := Option.some.inj H
          refine rt1 (u8 ((UInt8.ofInt s1))) rfl rfl rfl s15_2 ?_
          exact ⟨rfl, e5⟩
        · replace H1 := (if_neg (of_decide_eq_false hb6)).symm.trans H1
          refine W_skip ?_
          refine bk_n ?_
          refine W_th ?_
          refine W_reg (by kernel_rfl) ?_
          refine wla rfl rfl (q_move (v := (i64 s1)) rfl s3_2) ?_
          refine wla rfl rfl (q_addI rfl rfl rfl) ?_
          refine wla rfl rfl (q_assign (v := (i64 ((wI (s1 + 1))))) rfl rfl) ?_
          refine wl_nil ?_
          obtain rfl := Option.some.inj H1
          exact ⟨_, rfl, s0_2, rfl, s15_2, e5⟩
      · replace H1 := (if_neg (of_decide_eq_false hb3)).symm.trans H1
        refine W_exit ?_
        refine th_x ?_
        obtain rfl := Option.some.inj H1
        obtain rfl := hr1 _ rfl
        refine th_x ?_
        refine bk_x ?_
        exact ⟨_, rfl, s15_2, hE2⟩
  · rintro _ w8 ⟨y1, rfl, s15_8, hE8⟩
    simp only [Sum.elim_inl] at H
    refine W_th ?_
    refine W_seq ?_
    refine W_reg (by kernel_rfl) ?_
    refine wla rfl rfl (q_assign (v := (u8 0)) rfl (cst8 (0 : UInt8) rfl)) ?_
    refine wl_nil ?_
    refine W_th ?_
    refine W_ret ?_
    obtain rfl := Option.some.inj H
    refine rt1 (u8 0) rfl rfl rfl s15_8 ?_
    exact ⟨rfl, hE8⟩

/-! largesse/largesseref02.Pow -/
noncomputable def ref02_Pow (a0a : UInt8) (a1n : Int) : Option UInt8 :=
(if a1n = 0 then some (1 : UInt8)
else
(if a0a = (0 : UInt8) then some (0 : UInt8)
else
(((if a1n < 0 then
((ref02_Inv a0a).bind fun r5 =>
((remI a1n 255).bind fun c7 => some (r5, (wI (0 - c7)))))
else some (a0a, a1n))).bind fun x3 =>
((iterC (fun s9 : UInt8 × Int =>
((remI x3.2 255).bind fun c11 =>
(if s9.2 < c11 then
((ref02_Mul s9.1 x3.1).bind fun r13 => some (.inl (r13, (wI (s9.2 + 1)))))
else some (.inr s9.1)))) ((1 : UInt8), 0)).bind fun x9 => some x9))))
set_option maxRecDepth 100000 in
set_option maxHeartbeats 8000000 in
theorem ref02_Pow_calls (a0a : UInt8) (a1n : Int) (r : UInt8) (w0 : World) (H : ref02_Pow a0a a1n = some r) :
    Calls Try.prog 58 [(u8 a0a), (i64 a1n)].toArray w0 (fun e w' => e = .returned (u8 r) ∧ Ext w0 w') := by
  have hE : Ext w0 w0 := Ext.refl w0
  unfold ref02_Pow at H
  refine calls_W (n := 28) Try.func58 rfl rfl rfl ?_
  refine W_seq ?_
  refine W_reg (by kernel_rfl) ?_
  refine wla rfl rfl (q_assign (v := (u8 0)) rfl (cst8 (0 : UInt8) rfl)) ?_
  refine wl_nil ?_
  refine W_th ?_
  refine W_seq ?_
  refine W_seq ?_
  refine W_reg (by kernel_rfl) ?_
  refine wla rfl rfl (q_move (v := (i64 a1n)) rfl rfl) ?_
  refine wla rfl rfl (q_eqI rfl rfl rfl) ?_
  refine wl_nil ?_
  refine W_th ?_
  refine W_cond _ rfl rfl (fun hb1 => ?_) (fun hb1 => ?_)
  · replace H := (if_pos (of_decide_eq_true hb1)).symm.trans H
    refine W_seq ?_
    refine W_reg (by kernel_rfl) ?_
    refine wla rfl rfl (q_assign (v := (u8 1)) rfl (cst8 (1 : UInt8) rfl)) ?_
    refine wl_nil ?_
    refine W_th ?_
    refine W_ret ?_
    refine th_r ?_
    obtain rfl := Option.some.inj H
    refine rt1 (u8 1) rfl rfl rfl rfl ?_
    exact ⟨rfl, hE⟩
  · replace H := (if_neg (of_decide_eq_false hb1)).symm.trans H
    refine W_skip ?_
    refine W_th ?_
    refine W_seq ?_
    refine W_seq ?_
    refine W_reg (by kernel_rfl) ?_
    refine wla rfl rfl (q_move (v := (u8 a0a)) rfl rfl) ?_
    refine wla rfl rfl (q_eq8 rfl rfl (cst8 (0 : UInt8) rfl)) ?_
    refine wl_nil ?_
    refine W_th ?_
    refine W_cond _ rfl rfl (fun hb2 => ?_) (fun hb2 => ?_)
    · replace H := (if_pos (of_decide_eq_true hb2)).symm.trans H
      refine W_seq ?_
      refine W_reg (by kernel_rfl) ?_
      refine wla rfl rfl (q_assign (v := (u8 0)) rfl (cst8 (0 : UInt8) rfl)) ?_
      refine wl_nil ?_
      refine W_th ?_
      refine W_ret ?_
      refine th_r ?_
      obtain rfl := Option.some.inj H
      refine rt1 (u8 0) rfl rfl rfl rfl ?_
      exact ⟨rfl, hE⟩
    · replace H := (if_neg (of_decide_eq_false hb2)).symm.trans H
      refine W_skip ?_
      refine W_th ?_
      refine W_seq ?_
      obtain ⟨x3, H3, H⟩ := Option.bind_eq_some_iff.1 H
      refine W_mid (fun f w => f 0 = (u8 x3.1) ∧ f 1 = (i64 x3.2) ∧ f 28 = undef ∧ Ext w0 w) ?_ ?_
      · refine W_seq ?_
        refine W_reg (by kernel_rfl) ?_
        refine wla rfl rfl (q_move (v := (i64 a1n)) rfl rfl) ?_
        refine wla rfl rfl (q_ltI rfl rfl rfl) ?_
        refine wl_nil ?_
        refine W_th ?_
        refine W_cond _ rfl rfl (fun hb4 => ?_) (fun hb4 => ?_)
        · replace H3 := (if_pos (of_decide_eq_true hb4)).symm.trans H3
          refine W_seq ?_
          refine W_reg (by kernel_rfl) ?_
          refine wla rfl rfl (q_move (v := (u8 a0a)) rfl rfl) ?_
          obtain ⟨r5, hr5, H3⟩ := Option.bind_eq_some_iff.1 H3
          refine wls rfl rfl (stp_call (vs := [(u8 a0a)]) Try.func54 rfl rfl rfl (ar1 rfl) (ref02_Inv_calls a0a  r5 _  hr5) ?_)
          rintro _ w5 ⟨rfl, x5⟩
          refine ⟨_, rfl, ?_⟩
          have e6 := hE.trans x5
          refine wla rfl rfl (q_assign (v := (u8 r5)) rfl rfl) ?_
          refine wl_nil ?_
          refine W_th ?_
          refine W_reg (by kernel_rfl) ?_
          refine wla rfl rfl (q_move (v := (i64 a1n)) rfl rfl) ?_
          obtain ⟨c7, hc7, H3⟩ := Option.bind_eq_some_iff.1 H3
          refine wla rfl rfl (q_remI rfl rfl rfl hc7) ?_
          refine wla rfl rfl (q_negI rfl rfl) ?_
          refine wla rfl rfl (q_assign (v := (i64 ((wI (0 - c7))))) rfl rfl) ?_
          refine wl_nil ?_
          obtain rfl := Option.some.inj H3
          exact ⟨rfl, rfl, rfl, e6⟩
        · replace H3 := (if_neg (of_decide_eq_false hb4)).symm.trans H3
          refine W_skip ?_
          obtain rfl := Option.some.inj H3
          exact ⟨rfl, rfl, rfl, hE⟩
      · rintro _ w8 ⟨s0_8, s1_8, s28_8, hE8⟩
        refine W_th ?_
        refine W_seq ?_
        refine W_reg (by kernel_rfl) ?_
        refine wla rfl rfl (q_assign (v := (u8 1)) rfl (cst8 (1 : UInt8) rfl)) ?_
        refine wl_nil ?_
        refine W_th ?_
        refine W_seq ?_
        refine W_seq ?_
        refine W_reg (by kernel_rfl) ?_
        refine wla rfl rfl (q_assign (v := (i64 0)) rfl rfl) ?_
        refine wl_nil ?_
        refine W_th ?_
        obtain ⟨x9, G9, H⟩ := Option.bind_eq_some_iff.1 H
        refine W_mid (fun f w => f 5 = (u8 x9) ∧ f 28 = undef ∧ Ext w0 w) ?_ ?_
        · refine W_block ?_
          refine W_loop (fun s9 f w => f 0 = (u8 x3.1) ∧ f 1 = (i64 x3.2) ∧ f 5 = (u8 s9.1) ∧ f 6 = (i64 s9.2) ∧ f 28 = undef ∧ Ext w0 w) G9 ?_ ?_
          · exact ⟨s0_8, s1_8, rfl, rfl, s28_8, hE8⟩
          · rintro s9 _ _ w10 ⟨s0_10, s1_10, s5_10, s6_10, s28_10, hE10⟩ H9 hr9
            refine W_seq ?_
            refine W_seq ?_
            refine W_reg (by kernel_rfl) ?_
            refine wla rfl rfl (q_move (v := (i64 s9.2)) rfl s6_10) ?_
            refine wla rfl rfl (q_move (v := (i64 x3.2)) rfl s1_10) ?_
            obtain ⟨c11, hc11, H9⟩ := Option.bind_eq_some_iff.1 H9
            refine wla rfl rfl (q_remI rfl rfl rfl hc11) ?_
            refine wla rfl rfl (q_ltI rfl rfl rfl) ?_
            refine wl_nil ?_
            refine W_th ?_
            refine W_cond _ rfl rfl (fun hb12 => ?_) (fun hb12 => ?_)
            · replace H9 := (if_pos (of_decide_eq_true hb12)).symm.trans H9
              refine W_skip ?_
              refine W_th ?_
              refine W_seq ?_
              refine W_block ?_
              refine W_reg (by kernel_rfl) ?_
              refine wla rfl rfl (q_move (v := (u8 s9.1)) rfl s5_10) ?_
              refine wla rfl rfl (q_move (v := (u8 x3.1)) rfl s0_10) ?_
              obtain ⟨r13, hr13, H9⟩ := Option.bind_eq_some_iff.1 H9
              refine wls rfl rfl (stp_call (vs := [(u8 s9.1), (u8 x3.1)]) Try.func48 rfl rfl rfl (ar2 rfl rfl) (ref02_Mul_calls s9.1 x3.1  r13 _  hr13) ?_)
              rintro _ w13 ⟨rfl, x13⟩
              refine ⟨_, rfl, ?_⟩
              have e14 := hE10.trans x13
              refine wla rfl rfl (q_assign (v := (u8 r13)) rfl rfl) ?_
              refine wl_nil ?_
              refine bk_n ?_
              refine W_th ?_
              refine W_reg (by kernel_rfl) ?_
              refine wla rfl rfl (q_move (v := (i64 s9.2)) rfl s6_10) ?_
              refine wla rfl rfl (q_addI rfl rfl rfl) ?_
              refine wla rfl rfl (q_assign (v := (i64 ((wI (s9.2 + 1))))) rfl rfl) ?_
              refine wl_nil ?_
              obtain rfl := Option.some.inj H9
              exact ⟨_, rfl, s0_10, s1_10, rfl, rfl, s28_10, e14⟩
            · replace H9 := (if_neg (of_decide_eq_false hb12)).symm.trans H9
              refine W_exit ?_
              refine th_x ?_
              obtain rfl := Option.some.inj H9
              obtain rfl := hr9 _ rfl
              refine th_x ?_
              refine bk_x ?_
              exact ⟨s5_10, s28_10, hE10⟩
        · rintro _ w16 ⟨s5_16, s28_16, hE16⟩
          refine W_th ?_
          refine W_seq ?_
          refine W_reg (by kernel_rfl) ?_
          refine wla rfl rfl (q_move (v := (u8 x9)) rfl s5_16) ?_
          refine wla rfl rfl (q_assign (v := (u8 x9)) rfl rfl) ?_
          refine wl_nil ?_
          refine W_th ?_
          refine W_ret ?_
          obtain rfl := Option.some.inj H
          refine rt1 (u8 x9) rfl rfl rfl s28_16 ?_
          exact ⟨rfl, hE16⟩

end Gk

/- The field of 256 numbers, in plain Lean: what the program's and the document's product come to. No condition. -/



set_option linter.unusedSimpArgs false
namespace Gf
theorem bit_shr (b : UInt8) : (bit (Gk.shr8 b 1) 0 = bit b 1 ∧ bit (Gk.shr8 b 1) 1 = bit b 2 ∧ bit (Gk.shr8 b 1) 2 = bit b 3 ∧ bit (Gk.shr8 b 1) 3 = bit b 4) ∧
    bit (Gk.shr8 b 1) 4 = bit b 5 ∧ bit (Gk.shr8 b 1) 5 = bit b 6 ∧ bit (Gk.shr8 b 1) 6 = bit b 7 ∧ bit (Gk.shr8 b 1) 7 = false := by
  revert b; refine all8 ?_; decide +kernel
theorem bit_and (b : UInt8) : (b &&& 1 = 1) ↔ bit b 0 = true := by
  revert b; refine all8 ?_; decide +kernel
/-- One bit at a time. -/
theorem mul_step (a b : UInt8) : mul a b = sel (bit b 0) a ^^^ mul (dbl a) (Gk.shr8 b 1) := by
  obtain ⟨⟨h0, h1, h2, h3⟩, h4, h5, h6, h7⟩ := bit_shr b
  unfold mul
  rw [h0, h1, h2, h3, h4, h5, h6, h7]
  simp [dblN, sel, UInt8.xor_assoc]

/-! The document's product. -/
def cl (a b : Nat) : Nat → Nat
  | 0 => 0
  | k + 1 => if b.testBit k then cl a b k ^^^ (a <<< k) else cl a b k
def rd : Nat → Nat → Nat
  | 0, p => p
  | j + 1, p => rd j (if p.testBit (8 + j) then p ^^^ (283 <<< j) else p)
def rds (p : Nat) : Nat → Nat
  | 0 => p
  | i + 1 => if (rds p i).testBit (14 - i) then rds p i ^^^ (283 <<< (6 - i)) else rds p i
theorem rd_xor (j : Nat) : ∀ p q, rd j (p ^^^ q) = rd j p ^^^ rd j q := by
  induction j with
  | zero => intro p q; rfl
  | succ j ih =>
    intro p q
    have h : (if (p ^^^ q).testBit (8 + j) then (p ^^^ q) ^^^ (283 <<< j) else p ^^^ q) =
        (if p.testBit (8 + j) then p ^^^ (283 <<< j) else p) ^^^ (if q.testBit (8 + j) then q ^^^ (283 <<< j) else q) := by
      rw [Nat.testBit_xor]
      generalize 283 <<< j = c
      cases p.testBit (8 + j) <;> cases q.testBit (8 + j) <;> simp
      · exact Nat.xor_assoc p q c
      · rw [Nat.xor_assoc, Nat.xor_comm q c, Nat.xor_assoc]
      · rw [Nat.xor_assoc p c, ← Nat.xor_assoc c q c, Nat.xor_comm c q, Nat.xor_assoc q c c, Nat.xor_self, Nat.xor_zero]
    simp only [rd, h, ih]
theorem rd_sel (c : Bool) (x a : Nat) (k : Nat) : rd 7 (if c then x ^^^ (a <<< k) else x) = rd 7 x ^^^ (if c then rd 7 (a <<< k) else 0) := by
  cases c
  · simp
  · simp [rd_xor]
theorem rd_dbl (a : UInt8) : (List.range 8).all (fun k => rd 7 (a.toNat <<< k) == (dblN k a).toNat) = true := by
  revert a; refine all8 ?_; decide +kernel
theorem rd_dbl' (a : UInt8) (k : Nat) (h : k < 8) : rd 7 (a.toNat <<< k) = (dblN k a).toNat := by
  have := List.all_eq_true.1 (rd_dbl a) k (List.mem_range.2 h)
  simpa using this
theorem rd0 : rd 7 0 = 0 := by decide
theorem sel_nat (c : Bool) (a : UInt8) : (sel c a).toNat = if c then a.toNat else 0 := by cases c <;> simp [sel]
theorem ref_eq (a b : UInt8) : rd 7 (cl a.toNat b.toNat 8) = (mul a b).toNat := by
  simp only [cl, rd_sel, rd0, mul, UInt8.toNat_xor, sel_nat, bit]
  rw [rd_dbl' a 0 (by decide), rd_dbl' a 1 (by decide), rd_dbl' a 2 (by decide), rd_dbl' a 3 (by decide), rd_dbl' a 4 (by decide), rd_dbl' a 5 (by decide), rd_dbl' a 6 (by decide), rd_dbl' a 7 (by decide)]
  simp only [Nat.zero_xor]
theorem cl_lt (a b : Nat) (ha : a < 256) : ∀ k, k ≤ 8 → cl a b k < 32768 := by
  intro k
  induction k with
  | zero => intro _; simp [cl]
  | succ k ih =>
    intro hk
    have h1 := ih (by omega)
    have h2 : a <<< k < 32768 := by
      rw [Nat.shiftLeft_eq]
      have : 2 ^ k ≤ 2 ^ 7 := Nat.pow_le_pow_right (by decide) (by omega)
      calc a * 2 ^ k ≤ a * 2 ^ 7 := Nat.mul_le_mul_left _ this
        _ < 32768 := by omega
    simp only [cl]
    split
    · exact Nat.xor_lt_two_pow (n := 15) h1 h2
    · exact h1
end Gf
namespace Gk
open Gf
theorem double_eq (a : UInt8) : field_double a = some (dbl a) := by
  revert a
  refine all8 ?_
  unfold field_double
  decide +kernel
theorem ofInt_nat (a : UInt8) : UInt8.ofInt (a.toNat : Int) = a := by
  revert a; refine all8 ?_; decide +kernel
theorem Slow_loop (a b o : UInt8) : iterC (fun s1 : UInt8 × UInt8 × UInt8 =>
    (if s1.2.1 = (0 : UInt8) then some (.inr s1.2.2) else
    (if (s1.2.1 &&& (1 : UInt8)) = (1 : UInt8) then ((field_double s1.1).bind fun r5 => some (.inl (r5, (shr8 s1.2.1 1), (s1.2.2 ^^^ s1.1))))
    else ((field_double s1.1).bind fun r7 => some (.inl (r7, (shr8 s1.2.1 1), s1.2.2)))))) (a, b, o) = some (o ^^^ mul a b) := by
  simp only [double_eq, Option.bind_some]
  generalize hk : b.toNat = k
  induction k using Nat.strongRecOn generalizing a b o with
  | ind k ih =>
    rw [iterC_step]
    by_cases h : b = 0
    · subst h; simp [mul_zero]
    · have hlt : (shr8 b 1).toNat < k := by
        have : b.toNat ≠ 0 := fun e => h (UInt8.toNat_inj.1 (by simpa using e))
        have := b.toNat_lt
        simp [shr8]; omega
      simp only [if_neg h]
      by_cases h1 : b &&& 1 = 1
      · simp only [if_pos h1, Option.bind_some]
        rw [ih _ hlt _ _ _ rfl, mul_step a b, (bit_and b).1 h1]
        simp [sel, UInt8.xor_assoc]
      · simp only [if_neg h1, Option.bind_some]
        have h0 : bit b 0 = false := by cases hb : bit b 0 with | false => rfl | true => exact absurd ((bit_and b).2 hb) h1
        rw [ih _ hlt _ _ _ rfl, mul_step a b, h0]
        simp [sel]
theorem Slow_eq (a b : UInt8) : field_Slow a b = some (mul a b) := by
  unfold field_Slow
  rw [Slow_loop]; simp

theorem shr_bit (b : UInt8) : (List.range 8).all (fun k => decide ((shr8 b k % 2 = 1) ↔ b.toNat.testBit k = true)) = true := by
  revert b; refine all8 ?_; decide +kernel
theorem shr_bit' (b : UInt8) (k : Nat) (h : k < 8) : (shr8 b k % 2 = 1) ↔ b.toNat.testBit k = true := by
  have := List.all_eq_true.1 (shr_bit b) k (List.mem_range.2 h)
  exact of_decide_eq_true this
theorem refMul_eq (a b : UInt8) : ref02_Mul a b = some (mul a b) := by
  unfold ref02_Mul
  have ha := a.toNat_lt
  refine bind_of (iterC_count (fun k => (((cl a.toNat b.toNat k : Nat) : Int), (k : Int))) 8 ((cl a.toNat b.toNat 8 : Nat) : Int) rfl ?_ ?_) ?_
  rotate_left 2
  · have hl := cl_lt a.toNat b.toNat ha 8 (Nat.le_refl _)
    have hr := ref_eq a b
    generalize cl a.toNat b.toNat 8 = p at hl hr ⊢
    -- seven steps
    have hP : ∀ i, rds p (i + 1) = if (rds p i).testBit (14 - i) then rds p i ^^^ (283 <<< (6 - i)) else rds p i := fun i => rfl
    have hlt : ∀ i, rds p i < 32768 := by
      intro i
      induction i with
      | zero => exact hl
      | succ i ih =>
        rw [hP]; split
        · refine Nat.xor_lt_two_pow (n := 15) ih ?_
          have : 2 ^ (6 - i) ≤ 2 ^ 6 := Nat.pow_le_pow_right (by decide) (by omega)
          rw [Nat.shiftLeft_eq]; omega
        · exact ih
    have h7 : rds p 7 = rd 7 p := rfl
    refine bind_of (iterC_count (fun i => (((rds p i : Nat) : Int), 14 - (i : Int))) 7 ((rds p 7 : Nat) : Int) (by simp [rds]) ?_ ?_) ?_
    rotate_left 2
    · simp only [h7, hr]
      rw [ofInt_nat]
    · intro i hi
      have e1 : (14 - (i : Int)) = ((14 - i : Nat) : Int) := by omega
      have e2 : wI (14 - (i : Int) - 8) = ((6 - i : Nat) : Int) := by rw [wI_of (by omega) (by omega)]; omega
      have e3 : wI (14 - (i : Int) - 1) = 14 - ((i + 1 : Nat) : Int) := by rw [wI_of (by omega) (by omega)]; omega
      simp only [e2, e3]
      rw [if_pos (by omega), e1, cnt_nat]
      simp only [Option.bind_some, cnt_nat]
      rw [shrI_nat _ _ (by omega)]
      have e4 := remI_nat (rds p i >>> (14 - i)) 2 (by decide)
      have e5 : ((2 : Nat) : Int) = 2 := rfl
      rw [e5] at e4
      rw [e4, hP]
      have e6 : (rds p i).testBit (14 - i) = decide (rds p i >>> (14 - i) % 2 = 1) := by rw [Nat.testBit_eq_decide_div_mod_eq, Nat.shiftRight_eq_div_pow]
      simp only [Option.bind_some, e6]
      by_cases hc : rds p i >>> (14 - i) % 2 = 1
      · rw [if_pos (by omega), if_pos (decide_eq_true hc)]
        have h2 : 2 ^ (6 - i) ≤ 2 ^ 6 := Nat.pow_le_pow_right (by decide) (by omega)
        have e7 := shlI_nat 283 (6 - i) (by omega) (by omega)
        have e8 : ((283 : Nat) : Int) = 283 := rfl
        rw [e8] at e7
        rw [e7, xorI_nat _ _ (by have := hlt i; omega) (by rw [Nat.shiftLeft_eq]; omega)]
      · rw [if_neg (by omega), if_neg (fun e => hc (of_decide_eq_true e))]
    · rw [if_neg (by omega)]
  · intro i hi
    rw [if_pos (by omega)]
    simp only [cnt_nat, Option.bind_some, cl]
    have e3 : wI ((i : Int) + 1) = ((i + 1 : Nat) : Int) := by rw [wI_of (by omega) (by omega)]; omega
    have h2 : 2 ^ i ≤ 2 ^ 7 := Nat.pow_le_pow_right (by decide) (by omega)
    have h3 : a.toNat * 2 ^ i ≤ a.toNat * 2 ^ 7 := Nat.mul_le_mul_left _ h2
    rw [e3]
    by_cases hc : b.toNat.testBit i = true
    · rw [if_pos ((shr_bit' b i hi).2 hc), if_pos hc, shlI_nat _ _ (by omega) (by omega), xorI_nat _ _ (by have := cl_lt a.toNat b.toNat ha i (by omega); omega) (by rw [Nat.shiftLeft_eq]; omega)]
    · rw [if_neg (fun e => hc ((shr_bit' b i hi).1 e)), if_neg hc]
  · rw [if_neg (by omega)]
end Gk

/- The field is made: its tables are those of Gf. No condition. -/



set_option linter.unusedVariables false
set_option linter.unusedSimpArgs false
namespace Gk
open Go Go.Proofs

/-- The cells of a field as it is made. -/
def zF : Array Value := fieldCells (List.replicate 510 0) (List.replicate 256 0)
theorem zeroF : (Try.prog.info? 68).map (fun i => i.zero) = some (some (.agg zF)) := by kernel_rfl
theorem build0 (w : World) : (Instr.build 68 #[]).run Try.prog w = .ok (.agg zF) w := by
  have h := zeroF
  cases hi : Try.prog.info? 68 with
  | none => rw [hi] at h; cases h
  | some i =>
    rw [hi] at h
    have hz : i.zero = some (.agg zF) := by simpa using h
    have hzr : (zeroValue 68).run Try.prog w = .ok (.agg zF) w := by
      simp [zeroValue, typeInfo, hi, hz]
    simp [Instr.build, hzr, Value.cells, Instr.fill]

theorem fc_pw (pw : List UInt8) (lg : List Int) (k : Nat) (c : UInt8) (h : k < pw.length) : (fieldCells pw lg).setIfInBounds k (u8 c) = fieldCells (pw.set k c) lg := by
  simp [fieldCells, List.set_append, h, List.map_set]
theorem fc_lg (pw : List UInt8) (lg : List Int) (k : Nat) (c : Int) : (fieldCells pw lg).setIfInBounds (pw.length + k) (i64 c) = fieldCells pw (lg.set k c) := by
  simp [fieldCells, List.set_append, List.map_set]
theorem fc_size (pw : List UInt8) (lg : List Int) : (fieldCells pw lg).size = pw.length + lg.length := by simp [fieldCells]

def newB (n : Nat) : Option (Nat ⊕ Unit) := if n < 255 then some (.inl (n + 1)) else some (.inr ())
theorem newB_some : iterC newB 0 = some () := iterC_count (fun n => n) 255 () rfl (fun i hi => by simp [newB, hi]) (by simp [newB])
/-- The pure function: a field. -/
def field_New : Option Bool := some true

set_option maxRecDepth 100000 in
set_option maxHeartbeats 8000000 in
theorem field_New_calls (r : Bool) (w0 : World) (L0 : List Value) (hL0 : Old w0 L0) (H : field_New = some r) :
    Calls Try.prog 12 [].toArray w0 (fun e w' => ∃ u0 : Value, e = .returned u0 ∧ Ext w0 w' ∧ Fd w' L0 u0 r) := by
  have hE : Ext w0 w0 := Ext.refl w0
  obtain rfl := Option.some.inj H
  refine calls_W (n := 32) Try.func12 rfl rfl rfl ?_
  refine W_seq ?_
  refine W_reg (by kernel_rfl) ?_
  refine wla rfl rfl (q_assign (v := .pointer none) rfl rfl) ?_
  refine wl_nil ?_
  refine W_th ?_
  refine W_seq ?_
  refine W_reg (by kernel_rfl) ?_
  refine wla rfl rfl (v := .agg zF) (fun w => by simp [execOp, build0]) ?_
  refine wls rfl rfl (stp_box (v := .agg zF) rfl rfl ?_)
  intro w1 hb hg
  have e1 := hE.trans (grown_ext hg)
  generalize hgg : w0.heap.size = g at hb
  have hgn : w0.heap.size ≤ g := Nat.le_of_eq hgg
  refine wla rfl rfl (q_assign (v := .pointer (some ⟨g, 0, none⟩)) rfl rfl) ?_
  refine wl_nil ?_
  refine W_th ?_
  refine W_seq ?_
  refine W_reg (by kernel_rfl) ?_
  refine wla rfl rfl (q_assign (v := u8 1) rfl (cst8 1 rfl)) ?_
  refine wl_nil ?_
  refine W_th ?_
  refine W_seq ?_
  refine W_seq ?_
  refine W_reg (by kernel_rfl) ?_
  refine wla rfl rfl (q_move (v := i64 0) rfl rfl) ?_
  refine wl_nil ?_
  refine W_th ?_
  refine W_mid (fun f w => f 32 = undef ∧ f 1 = .pointer (some ⟨g, 0, none⟩) ∧ Ext w0 w ∧ Blk w g 68 (fieldCells Gf.pwT Gf.lgT)) ?_ ?_
  · refine W_block ?_
    refine W_loop (fun (n : Nat) f w => f 32 = undef ∧ n ≤ 255 ∧ f 6 = i64 (n : Int) ∧ f 1 = .pointer (some ⟨g, 0, none⟩) ∧ f 2 = u8 (Gf.pw n) ∧ Ext w0 w ∧ Blk w g 68 (fieldCells (Gf.tabN n).1 (Gf.tabN n).2.1)) newB_some ?_ ?_
    · exact ⟨rfl, by decide, rfl, rfl, rfl, e1, hb⟩
    · rintro n r _ w ⟨hm, hn, s6, s1, s2, e, hB⟩ hr hx
      have hl := Gf.tab_len n
      refine W_seq ?_
      refine W_reg (by kernel_rfl) ?_
      refine wla rfl rfl (q_ltI rfl s6 rfl) ?_
      refine wl_nil ?_
      refine W_th ?_
      refine W_seq ?_
      refine W_cond _ rfl rfl (fun hb9 => ?_) (fun hb9 => ?_)
      · have hlt : n < 255 := by have := of_decide_eq_true hb9; omega
        have hr' : some (Sum.inl (n + 1)) = some r := by rw [← hr, newB, if_pos hlt]
        obtain rfl := Option.some.inj hr'
        refine W_skip ?_
        refine W_th ?_
        refine W_seq ?_
        refine W_block ?_
        refine W_seq ?_
        refine W_reg (by kernel_rfl) ?_
        refine wla rfl rfl (q_move (v := i64 (n : Int)) rfl s6) ?_
        refine wla rfl rfl (q_assign (v := i64 (n : Int)) rfl rfl) ?_
        refine wl_nil ?_
        refine W_th ?_
        refine W_seq ?_
        refine W_draw [] [(0, 0), (1, 0), (2, 0), (3, 0), (4, 0), (5, 0), (6, 0), (7, 0), (8, 0), (9, 0), (11, 0), (12, 0), (10, 2), (13, 0), (14, 2)] mixed (by kernel_rfl) (by kernel_rfl) (by kernel_rfl) (by kernel_rfl) ?_
        have x1 := Ext.drew w
        replace e := e.trans x1
        replace hB := hB.ext x1
        have ew : wI ((n : Int) + 255) = ((n + 255 : Nat) : Int) := by rw [wI_of (by omega) (by omega)]; omega
        refine wsa rfl rfl rfl (q_move (v := .pointer (some ⟨g, 0, none⟩)) rfl s1) ?_
        refine wsa rfl rfl rfl (q_move (v := i64 (n : Int)) rfl rfl) ?_
        refine wsa rfl rfl rfl (q_move (v := .pointer (some ⟨g, 0, none⟩)) rfl s1) ?_
        refine wsa rfl rfl rfl (q_move (v := i64 (n : Int)) rfl rfl) ?_
        refine wsa rfl rfl rfl (q_addI rfl rfl rfl) ?_
        rw [ew]
        refine wsa rfl rfl rfl (q_move (v := u8 (Gf.pw n)) rfl s2) ?_
        refine wsa rfl rfl rfl (q_move (v := u8 (Gf.pw n)) rfl s2) ?_
        refine wsa rfl rfl rfl (q_nilP rfl rfl) ?_
        refine wsa rfl rfl rfl (q_fldP rfl fieldAt0 rfl) ?_
        refine wsa rfl rfl rfl (q_ixP (i := n) rfl Try.underlying65 Try.sizeOf5 rfl rfl (by omega)) ?_
        refine wsa rfl rfl rfl (q_nilP rfl rfl) ?_
        refine wsa rfl rfl rfl (q_fldP rfl fieldAt0 rfl) ?_
        refine wsn rfl (by kernel_rfl) rfl rfl (stp_storeB (u := u8 (Gf.pw n)) rfl Try.sizeOf5 rfl rfl hB (by rw [fc_size, hl.1, hl.2]; omega) rfl ?_)
        intro w2 hB2 g2
        rw [show 0 + 0 + n = n by omega, fc_pw _ _ _ _ (by rw [hl.1]; omega)] at hB2
        replace e := e.grownB g2 hgn
        refine wsa rfl rfl rfl (q_ixP (i := n + 255) rfl Try.underlying65 Try.sizeOf5 rfl rfl (by omega)) ?_
        refine wsn rfl (by kernel_rfl) rfl rfl (stp_storeB (u := u8 (Gf.pw n)) rfl Try.sizeOf5 rfl rfl hB2 (by rw [fc_size, List.length_set, hl.1, hl.2]; omega) rfl ?_)
        intro w3 hB3 g3
        rw [show 0 + 0 + (n + 255) = n + 255 by omega, fc_pw _ _ _ _ (by rw [List.length_set, hl.1]; omega)] at hB3
        replace e := e.grownB g3 hgn
        refine ws_nil ?_
        refine W_th ?_
        refine W_seq ?_
        refine W_reg (by kernel_rfl) ?_
        refine wla rfl rfl (q_move (v := .pointer (some ⟨g, 0, none⟩)) rfl s1) ?_
        refine wla rfl rfl (q_move (v := u8 (Gf.pw n)) rfl s2) ?_
        refine wla rfl rfl (q_move (v := i64 (n : Int)) rfl rfl) ?_
        refine wla rfl rfl (q_nilP rfl rfl) ?_
        refine wla rfl rfl (q_fldP rfl fieldAt1 rfl) ?_
        refine wla rfl rfl (q_ixP (i := (Gf.pw n).toNat) rfl Try.underlying66 Try.sizeOf3 rfl rfl (Gf.pw n).toNat_lt) ?_
        refine wln rfl rfl (stp_storeB (u := i64 (n : Int)) rfl Try.sizeOf3 rfl rfl hB3 (by rw [fc_size, List.length_set, List.length_set, hl.1, hl.2]; have := (Gf.pw n).toNat_lt; omega) rfl ?_)
        intro w4 hB4 g4
        rw [show 0 + 510 + (Gf.pw n).toNat = (((Gf.tabN n).1.set n (Gf.pw n)).set (n + 255) (Gf.pw n)).length + (Gf.pw n).toNat by rw [List.length_set, List.length_set, hl.1], fc_lg] at hB4
        replace e := e.grownB g4 hgn
        refine wl_nil ?_
        refine W_th ?_
        refine W_reg (by kernel_rfl) ?_
        refine wla rfl rfl (q_move (v := u8 (Gf.pw n)) rfl s2) ?_
        refine wls rfl rfl (stp_call (vs := [u8 (Gf.pw n), u8 3]) Try.func37 rfl rfl rfl (ar2 rfl (cst8 3 rfl)) (field_Slow_calls (Gf.pw n) 3 _ _ (Slow_eq _ _)) ?_)
        rintro _ w5 ⟨rfl, x5⟩
        refine ⟨_, rfl, ?_⟩
        replace e := e.trans x5
        replace hB4 := hB4.ext x5
        refine wla rfl rfl (q_assign (v := u8 (Gf.mul (Gf.pw n) 3)) rfl rfl) ?_
        refine wl_nil ?_
        refine bk_n ?_
        refine W_th ?_
        refine W_reg (by kernel_rfl) ?_
        refine wla rfl rfl (q_addI rfl s6 rfl) ?_
        have ew2 : wI ((n : Int) + 1) = ((n + 1 : Nat) : Int) := by rw [wI_of (by omega) (by omega)]; omega
        rw [ew2]
        refine wla rfl rfl (q_move (v := i64 ((n + 1 : Nat) : Int)) rfl rfl) ?_
        refine wl_nil ?_
        refine ⟨_, rfl, hm, by omega, rfl, s1, rfl, e, ?_⟩
        rw [← Gf.tab_pw n] at hB4
        exact hB4
      · have hge : n = 255 := by have := of_decide_eq_false hb9; omega
        subst hge
        have hr' : some (Sum.inr ()) = some r := by rw [← hr]; rfl
        obtain rfl := Option.some.inj hr'
        refine W_exit ?_
        refine th_x ?_
        refine th_x ?_
        refine bk_x ?_
        exact ⟨hm, s1, e, hB⟩
  · rintro _ w ⟨hm, s1, e, hB⟩
    refine W_th ?_
    refine W_seq ?_
    refine W_reg (by kernel_rfl) ?_
    refine wla rfl rfl (q_move (v := .pointer (some ⟨g, 0, none⟩)) rfl s1) ?_
    refine wla rfl rfl (q_assign (v := .pointer (some ⟨g, 0, none⟩)) rfl rfl) ?_
    refine wl_nil ?_
    refine W_th ?_
    refine W_ret ?_
    refine rt1 (.pointer (some ⟨g, 0, none⟩)) rfl rfl rfl hm ?_
    exact ⟨.pointer (some ⟨g, 0, none⟩), rfl, e, .inr ⟨rfl, g, rfl, hL0 g hgn, hB⟩⟩
end Gk

/- Printed by gen.py: for each Go function a pure function, and that the Go code comes to it. No condition beside the equation that says what the pure function gives. -/



set_option linter.unusedVariables false
set_option linter.unusedSimpArgs false
namespace Gk
open Go Go.Proofs

/-! (*largesse/field.Field).Mul -/
noncomputable def field_Mul (a0f : Bool) (a1a : UInt8) (a2b : UInt8) : Option UInt8 :=
(if (!a0f) = true then some (0 : UInt8)
else
(if a1a = (0 : UInt8) then some (0 : UInt8)
else
(if a2b = (0 : UInt8) then some (0 : UInt8)
else
((grd a0f).bind fun c6 =>
((idx Gf.lgT ((a1a.toNat : Int))).bind fun c7 =>
((idx Gf.lgT ((a2b.toNat : Int))).bind fun c8 =>
((idx Gf.pwT ((wI (c7 + c8)))).bind fun c9 => some c9)))))))
set_option maxRecDepth 100000 in
set_option maxHeartbeats 8000000 in
theorem field_Mul_calls (a0f : Bool) (a1a : UInt8) (a2b : UInt8) (p0 : Value) (r : UInt8) (w0 : World) (hp0 : Fd w0 [] p0 a0f) (H : field_Mul a0f a1a a2b = some r) :
    Calls Try.prog 43 [p0, (u8 a1a), (u8 a2b)].toArray w0 (fun e w' => e = .returned (u8 r) ∧ Ext w0 w') := by
  have hE : Ext w0 w0 := Ext.refl w0
  unfold field_Mul at H
  refine calls_W (n := 35) Try.func43 rfl rfl rfl ?_
  refine W_seq ?_
  refine W_reg (by kernel_rfl) ?_
  refine wla rfl rfl (q_assign (v := (u8 0)) rfl (cst8 (0 : UInt8) rfl)) ?_
  refine wl_nil ?_
  refine W_th ?_
  refine W_seq ?_
  refine W_seq ?_
  refine W_reg (by kernel_rfl) ?_
  refine wla rfl rfl (q_move (v := p0) rfl rfl) ?_
  refine wla rfl rfl (q_eqF rfl rfl rfl rfl (hp0.lift (Lift.ext hE _))) ?_
  refine wlb rfl rfl (q_move (v := (.bool ((!a0f)))) rfl rfl) (fun hb1 => ?_) (fun hb1 => ?_)
  · replace H := (if_pos hb1).symm.trans H
    refine wlk rfl rfl ?_
    refine wlk rfl rfl ?_
    refine wla rfl rfl (q_pick_t (v := (.bool true)) rfl rfl rfl) ?_
    refine wla rfl rfl (q_move (v := (.bool true)) rfl rfl) ?_
    refine wlk rfl rfl ?_
    refine wlk rfl rfl ?_
    refine wla rfl rfl (q_pick_t (v := (.bool true)) rfl rfl rfl) ?_
    refine wl_nil ?_
    refine W_th ?_
    refine W_cond true rfl rfl (fun _ => ?_) (fun hb => by cases hb)
    refine W_seq ?_
    refine W_reg (by kernel_rfl) ?_
    refine wla rfl rfl (q_assign (v := (u8 0)) rfl (cst8 (0 : UInt8) rfl)) ?_
    refine wl_nil ?_
    refine W_th ?_
    refine W_ret ?_
    refine th_r ?_
    obtain rfl := Option.some.inj H
    refine rt1 (u8 0) rfl rfl rfl rfl ?_
    exact ⟨rfl, hE⟩
  · replace H := (if_neg (ne_true_of_eq_false hb1)).symm.trans H
    refine wla rfl rfl (q_move (v := (u8 a1a)) rfl rfl) ?_
    refine wla rfl rfl (q_eq8 rfl rfl (cst8 (0 : UInt8) rfl)) ?_
    refine wla rfl rfl (q_pick_f (v := (.bool ((decide (a1a = (0 : UInt8)))))) rfl rfl rfl) ?_
    refine wlb rfl rfl (q_move (v := (.bool ((decide (a1a = (0 : UInt8)))))) rfl rfl) (fun hb2 => ?_) (fun hb2 => ?_)
    · replace H := (if_pos (of_decide_eq_true hb2)).symm.trans H
      refine wlk rfl rfl ?_
      refine wlk rfl rfl ?_
      refine wla rfl rfl (q_pick_t (v := (.bool true)) rfl rfl rfl) ?_
      refine wl_nil ?_
      refine W_th ?_
      refine W_cond true rfl rfl (fun _ => ?_) (fun hb => by cases hb)
      refine W_seq ?_
      refine W_reg (by kernel_rfl) ?_
      refine wla rfl rfl (q_assign (v := (u8 0)) rfl (cst8 (0 : UInt8) rfl)) ?_
      refine wl_nil ?_
      refine W_th ?_
      refine W_ret ?_
      refine th_r ?_
      obtain rfl := Option.some.inj H
      refine rt1 (u8 0) rfl rfl rfl rfl ?_
      exact ⟨rfl, hE⟩
    · replace H := (if_neg (of_decide_eq_false hb2)).symm.trans H
      refine wla rfl rfl (q_move (v := (u8 a2b)) rfl rfl) ?_
      refine wla rfl rfl (q_eq8 rfl rfl (cst8 (0 : UInt8) rfl)) ?_
      refine wla rfl rfl (q_pick_f (v := (.bool ((decide (a2b = (0 : UInt8)))))) rfl rfl rfl) ?_
      refine wl_nil ?_
      refine W_th ?_
      refine W_cond _ rfl rfl (fun hb3 => ?_) (fun hb3 => ?_)
      · replace H := (if_pos (of_decide_eq_true hb3)).symm.trans H
        refine W_seq ?_
        refine W_reg (by kernel_rfl) ?_
        refine wla rfl rfl (q_assign (v := (u8 0)) rfl (cst8 (0 : UInt8) rfl)) ?_
        refine wl_nil ?_
        refine W_th ?_
        refine W_ret ?_
        refine th_r ?_
        obtain rfl := Option.some.inj H
        refine rt1 (u8 0) rfl rfl rfl rfl ?_
        exact ⟨rfl, hE⟩
      · replace H := (if_neg (of_decide_eq_false hb3)).symm.trans H
        refine W_skip ?_
        refine W_th ?_
        refine W_seq ?_
        refine W_draw [6, 12, 17] [(0, 0), (1, 0), (2, 0), (3, 0), (4, 0), (5, 0), (6, 1), (7, 0), (8, 0), (9, 0), (10, 0), (11, 0), (12, 1), (13, 0), (14, 0), (15, 0), (16, 0), (17, 1), (18, 0)] mixed (by kernel_rfl) (by kernel_rfl) (by kernel_rfl) (by kernel_rfl) ?_
        have x4 := Ext.drew w0
        have e5 := hE.trans x4
        refine wsa rfl rfl rfl (q_move (v := p0) rfl rfl) ?_
        refine wsa rfl rfl rfl (q_move (v := p0) rfl rfl) ?_
        refine wsa rfl rfl rfl (q_move (v := (u8 a1a)) rfl rfl) ?_
        obtain ⟨c6, hc6, H⟩ := Option.bind_eq_some_iff.1 H
        refine wsa rfl rfl rfl (q_nilF rfl rfl (hp0.lift (Lift.ext e5 _)) (grd_eq hc6)) ?_
        refine wsa rfl rfl rfl (q_fld1 rfl rfl (hp0.lift (Lift.ext e5 _)) (grd_eq hc6)) ?_
        obtain ⟨c7, hc7, H⟩ := Option.bind_eq_some_iff.1 H
        refine wsa rfl rfl rfl (q_fix1 rfl rfl rfl (hp0.lift (Lift.ext e5 _)) (grd_eq hc6) hc7) ?_
        refine wsq rfl rfl rfl (q_fload1 rfl rfl (hp0.lift (Lift.ext e5 _)) (grd_eq hc6) hc7) ?_
        refine wsa rfl rfl rfl (q_move (v := p0) rfl rfl) ?_
        refine wsa rfl rfl rfl (q_move (v := (u8 a2b)) rfl rfl) ?_
        refine wsa rfl rfl rfl (q_nilF rfl rfl (hp0.lift (Lift.ext e5 _)) (grd_eq hc6)) ?_
        refine wsa rfl rfl rfl (q_fld1 rfl rfl (hp0.lift (Lift.ext e5 _)) (grd_eq hc6)) ?_
        obtain ⟨c8, hc8, H⟩ := Option.bind_eq_some_iff.1 H
        refine wsa rfl rfl rfl (q_fix1 rfl rfl rfl (hp0.lift (Lift.ext e5 _)) (grd_eq hc6) hc8) ?_
        refine wsq rfl rfl rfl (q_fload1 rfl rfl (hp0.lift (Lift.ext e5 _)) (grd_eq hc6) hc8) ?_
        refine wsa rfl rfl rfl (q_addI rfl rfl rfl) ?_
        refine wsa rfl rfl rfl (q_nilF rfl rfl (hp0.lift (Lift.ext e5 _)) (grd_eq hc6)) ?_
        refine wsa rfl rfl rfl (q_fld0 rfl rfl (hp0.lift (Lift.ext e5 _)) (grd_eq hc6)) ?_
        obtain ⟨c9, hc9, H⟩ := Option.bind_eq_some_iff.1 H
        refine wsa rfl rfl rfl (q_fix0 rfl rfl rfl (hp0.lift (Lift.ext e5 _)) (grd_eq hc6) hc9) ?_
        refine wsq rfl rfl rfl (q_fload0 rfl rfl (hp0.lift (Lift.ext e5 _)) (grd_eq hc6) hc9) ?_
        refine wsa rfl rfl rfl (q_assign (v := (u8 c9)) rfl rfl) ?_
        refine ws_nil ?_
        refine W_th ?_
        refine W_ret ?_
        obtain rfl := Option.some.inj H
        refine rt1 (u8 c9) rfl rfl rfl rfl ?_
        exact ⟨rfl, e5⟩

/-! (*largesse/field.Field).Inv -/
noncomputable def field_Inv (a0f : Bool) (a1a : UInt8) : Option (UInt8 × Int) :=
(if (!a0f) = true then some ((0 : UInt8), 1)
else
(if a1a = (0 : UInt8) then some ((0 : UInt8), 7)
else
((grd a0f).bind fun c5 =>
((idx Gf.lgT ((a1a.toNat : Int))).bind fun c6 =>
((idx Gf.pwT ((wI (255 - c6)))).bind fun c7 => some (c7, 0))))))
set_option maxRecDepth 100000 in
set_option maxHeartbeats 8000000 in
theorem field_Inv_calls (a0f : Bool) (a1a : UInt8) (p0 : Value) (r : UInt8 × Int) (w0 : World) (hp0 : Fd w0 [] p0 a0f) (H : field_Inv a0f a1a = some r) :
    Calls Try.prog 66 [p0, (u8 a1a)].toArray w0 (fun e w' => e = .returned (.tuple #[(u8 r.1), (i64 r.2)]) ∧ Ext w0 w') := by
  have hE : Ext w0 w0 := Ext.refl w0
  unfold field_Inv at H
  refine calls_W (n := 24) Try.func66 rfl rfl rfl ?_
  refine W_seq ?_
  refine W_reg (by kernel_rfl) ?_
  refine wla rfl rfl (q_assign (v := (u8 0)) rfl (cst8 (0 : UInt8) rfl)) ?_
  refine wla rfl rfl (q_assign (v := (i64 0)) rfl rfl) ?_
  refine wl_nil ?_
  refine W_th ?_
  refine W_seq ?_
  refine W_block ?_
  refine W_seq ?_
  refine W_reg (by kernel_rfl) ?_
  refine wla rfl rfl (q_move (v := p0) rfl rfl) ?_
  refine wla rfl rfl (q_eqF rfl rfl rfl rfl (hp0.lift (Lift.ext hE _))) ?_
  refine wla rfl rfl (q_assign (v := (.bool ((!a0f)))) rfl rfl) ?_
  refine wl_nil ?_
  refine W_th ?_
  refine W_cond _ rfl rfl (fun hb1 => ?_) (fun hb1 => ?_)
  · replace H := (if_pos hb1).symm.trans H
    refine W_seq ?_
    refine W_reg (by kernel_rfl) ?_
    refine wla rfl rfl (q_assign (v := (u8 0)) rfl (cst8 (0 : UInt8) rfl)) ?_
    refine wla rfl rfl (q_assign (v := (i64 1)) rfl rfl) ?_
    refine wl_nil ?_
    refine W_th ?_
    refine W_ret ?_
    refine bk_r ?_
    refine th_r ?_
    obtain rfl := Option.some.inj H
    refine rt2 (u8 0) (i64 1) rfl rfl rfl rfl rfl rfl ?_
    exact ⟨rfl, hE⟩
  · replace H := (if_neg (ne_true_of_eq_false hb1)).symm.trans H
    refine W_seq ?_
    refine W_reg (by kernel_rfl) ?_
    refine wla rfl rfl (q_move (v := (u8 a1a)) rfl rfl) ?_
    refine wla rfl rfl (q_eq8 rfl rfl (cst8 (0 : UInt8) rfl)) ?_
    refine wla rfl rfl (q_assign (v := (.bool ((decide (a1a = (0 : UInt8)))))) rfl rfl) ?_
    refine wl_nil ?_
    refine W_th ?_
    refine W_cond _ rfl rfl (fun hb2 => ?_) (fun hb2 => ?_)
    · replace H := (if_pos (of_decide_eq_true hb2)).symm.trans H
      refine W_seq ?_
      refine W_reg (by kernel_rfl) ?_
      refine wla rfl rfl (q_assign (v := (u8 0)) rfl (cst8 (0 : UInt8) rfl)) ?_
      refine wla rfl rfl (q_assign (v := (i64 7)) rfl rfl) ?_
      refine wl_nil ?_
      refine W_th ?_
      refine W_ret ?_
      refine bk_r ?_
      refine th_r ?_
      obtain rfl := Option.some.inj H
      refine rt2 (u8 0) (i64 7) rfl rfl rfl rfl rfl rfl ?_
      exact ⟨rfl, hE⟩
    · replace H := (if_neg (of_decide_eq_false hb2)).symm.trans H
      refine W_skip ?_
      refine bk_n ?_
      refine W_th ?_
      refine W_seq ?_
      refine W_draw [6, 11] [(0, 0), (1, 0), (2, 0), (3, 0), (4, 0), (5, 0), (6, 1), (7, 0), (8, 0), (9, 0), (10, 0), (11, 1), (12, 0), (13, 0)] mixed (by kernel_rfl) (by kernel_rfl) (by kernel_rfl) (by kernel_rfl) ?_
      have x3 := Ext.drew w0
      have e4 := hE.trans x3
      refine wsa rfl rfl rfl (q_move (v := p0) rfl rfl) ?_
      refine wsa rfl rfl rfl (q_move (v := p0) rfl rfl) ?_
      refine wsa rfl rfl rfl (q_move (v := (u8 a1a)) rfl rfl) ?_
      obtain ⟨c5, hc5, H⟩ := Option.bind_eq_some_iff.1 H
      refine wsa rfl rfl rfl (q_nilF rfl rfl (hp0.lift (Lift.ext e4 _)) (grd_eq hc5)) ?_
      refine wsa rfl rfl rfl (q_fld1 rfl rfl (hp0.lift (Lift.ext e4 _)) (grd_eq hc5)) ?_
      obtain ⟨c6, hc6, H⟩ := Option.bind_eq_some_iff.1 H
      refine wsa rfl rfl rfl (q_fix1 rfl rfl rfl (hp0.lift (Lift.ext e4 _)) (grd_eq hc5) hc6) ?_
      refine wsq rfl rfl rfl (q_fload1 rfl rfl (hp0.lift (Lift.ext e4 _)) (grd_eq hc5) hc6) ?_
      refine wsa rfl rfl rfl (q_subI rfl rfl rfl) ?_
      refine wsa rfl rfl rfl (q_nilF rfl rfl (hp0.lift (Lift.ext e4 _)) (grd_eq hc5)) ?_
      refine wsa rfl rfl rfl (q_fld0 rfl rfl (hp0.lift (Lift.ext e4 _)) (grd_eq hc5)) ?_
      obtain ⟨c7, hc7, H⟩ := Option.bind_eq_some_iff.1 H
      refine wsa rfl rfl rfl (q_fix0 rfl rfl rfl (hp0.lift (Lift.ext e4 _)) (grd_eq hc5) hc7) ?_
      refine wsq rfl rfl rfl (q_fload0 rfl rfl (hp0.lift (Lift.ext e4 _)) (grd_eq hc5) hc7) ?_
      refine wsa rfl rfl rfl (q_assign (v := (u8 c7)) rfl rfl) ?_
      refine wsa rfl rfl rfl (q_assign (v := (i64 0)) rfl rfl) ?_
      refine ws_nil ?_
      refine W_th ?_
      refine W_ret ?_
      obtain rfl := Option.some.inj H
      refine rt2 (u8 c7) (i64 0) rfl rfl rfl rfl rfl rfl ?_
      exact ⟨rfl, e4⟩

/-! (*largesse/field.Field).Div -/
noncomputable def field_Div (a0f : Bool) (a1a : UInt8) (a2b : UInt8) : Option (UInt8 × Int) :=
((field_Inv a0f a2b).bind fun r1 =>
(if r1.2 = 0 then
((field_Mul a0f a1a r1.1).bind fun r4 => some (r4, 0))
else some ((0 : UInt8), r1.2)))
set_option maxRecDepth 100000 in
set_option maxHeartbeats 8000000 in
theorem field_Div_calls (a0f : Bool) (a1a : UInt8) (a2b : UInt8) (p0 : Value) (r : UInt8 × Int) (w0 : World) (hp0 : Fd w0 [] p0 a0f) (H : field_Div a0f a1a a2b = some r) :
    Calls Try.prog 62 [p0, (u8 a1a), (u8 a2b)].toArray w0 (fun e w' => e = .returned (.tuple #[(u8 r.1), (i64 r.2)]) ∧ Ext w0 w') := by
  have hE : Ext w0 w0 := Ext.refl w0
  unfold field_Div at H
  refine calls_W (n := 23) Try.func62 rfl rfl rfl ?_
  refine W_seq ?_
  refine W_reg (by kernel_rfl) ?_
  refine wla rfl rfl (q_assign (v := (u8 0)) rfl (cst8 (0 : UInt8) rfl)) ?_
  refine wla rfl rfl (q_assign (v := (i64 0)) rfl rfl) ?_
  refine wl_nil ?_
  refine W_th ?_
  refine W_seq ?_
  refine W_reg (by kernel_rfl) ?_
  refine wla rfl rfl (q_move (v := p0) rfl rfl) ?_
  refine wla rfl rfl (q_move (v := (u8 a2b)) rfl rfl) ?_
  obtain ⟨r1, hr1, H⟩ := Option.bind_eq_some_iff.1 H
  refine wls rfl rfl (stp_call (vs := [p0, (u8 a2b)]) Try.func66 rfl rfl rfl (ar2 rfl rfl) (field_Inv_calls a0f a2b p0 r1 _ (hp0.lift (Lift.ext hE _)) hr1) ?_)
  rintro _ w1 ⟨rfl, x1⟩
  refine ⟨_, rfl, ?_⟩
  have e2 := hE.trans x1
  refine wla rfl rfl (q_move (v := (.tuple #[(u8 r1.1), (i64 r1.2)])) rfl rfl) ?_
  refine wla rfl rfl (q_extract rfl rfl rfl) ?_
  refine wla rfl rfl (q_extract rfl rfl rfl) ?_
  refine wla rfl rfl (q_assign (v := (u8 r1.1)) rfl rfl) ?_
  refine wla rfl rfl (q_assign (v := (i64 r1.2)) rfl rfl) ?_
  refine wl_nil ?_
  refine W_th ?_
  refine W_seq ?_
  refine W_seq ?_
  refine W_reg (by kernel_rfl) ?_
  refine wla rfl rfl (q_move (v := (i64 r1.2)) rfl rfl) ?_
  refine wla rfl rfl (q_neI rfl rfl rfl) ?_
  refine wl_nil ?_
  refine W_th ?_
  refine W_cond _ rfl rfl (fun hb3 => ?_) (fun hb3 => ?_)
  · replace H := (if_neg (ndec_t hb3)).symm.trans H
    refine W_seq ?_
    refine W_reg (by kernel_rfl) ?_
    refine wla rfl rfl (q_move (v := (i64 r1.2)) rfl rfl) ?_
    refine wla rfl rfl (q_assign (v := (u8 0)) rfl (cst8 (0 : UInt8) rfl)) ?_
    refine wla rfl rfl (q_assign (v := (i64 r1.2)) rfl rfl) ?_
    refine wl_nil ?_
    refine W_th ?_
    refine W_ret ?_
    refine th_r ?_
    obtain rfl := Option.some.inj H
    refine rt2 (u8 0) (i64 r1.2) rfl rfl rfl rfl rfl rfl ?_
    exact ⟨rfl, e2⟩
  · replace H := (if_pos (ndec_f hb3)).symm.trans H
    refine W_skip ?_
    refine W_th ?_
    refine W_seq ?_
    refine W_reg (by kernel_rfl) ?_
    refine wla rfl rfl (q_move (v := p0) rfl rfl) ?_
    refine wla rfl rfl (q_move (v := (u8 a1a)) rfl rfl) ?_
    refine wla rfl rfl (q_move (v := (u8 r1.1)) rfl rfl) ?_
    obtain ⟨r4, hr4, H⟩ := Option.bind_eq_some_iff.1 H
    refine wls rfl rfl (stp_call (vs := [p0, (u8 a1a), (u8 r1.1)]) Try.func43 rfl rfl rfl (ar3 rfl rfl rfl) (field_Mul_calls a0f a1a r1.1 p0 r4 _ (hp0.lift (Lift.ext e2 _)) hr4) ?_)
    rintro _ w4 ⟨rfl, x4⟩
    refine ⟨_, rfl, ?_⟩
    have e5 := e2.trans x4
    refine wla rfl rfl (q_assign (v := (u8 r4)) rfl rfl) ?_
    refine wla rfl rfl (q_assign (v := (i64 0)) rfl rfl) ?_
    refine wl_nil ?_
    refine W_th ?_
    refine W_ret ?_
    obtain rfl := Option.some.inj H
    refine rt2 (u8 r4) (i64 0) rfl rfl rfl rfl rfl rfl ?_
    exact ⟨rfl, e5⟩

/-! (*largesse/field.Field).Sum -/
noncomputable def field_Sum (a0f : Bool) (a1a : List UInt8) (a2c : UInt8) (a3b : List UInt8) : Option (List UInt8) :=
(if (!a0f) = true then some ([] : List UInt8)
else
((makeL ((a1a.length : Int)) (0 : UInt8)).bind fun c2 =>
((iterC (fun s7 : List UInt8 × Int =>
(if s7.2 < (if (a3b.length : Int) < (a1a.length : Int) then (a3b.length : Int) else (a1a.length : Int)) then
((idx s7.1 s7.2).bind fun c12 =>
((idx a3b s7.2).bind fun c13 =>
((field_Mul a0f a2c c13).bind fun r14 => some (.inl ((s7.1.set (s7.2 : Int).toNat ((c12 ^^^ r14))), (wI (s7.2 + 1)))))))
else some (.inr s7.1))) ((copyL c2 0 a1a), 0)).bind fun x7 => some x7)))
set_option maxRecDepth 100000 in
set_option maxHeartbeats 8000000 in
theorem field_Sum_calls (a0f : Bool) (a1a : List UInt8) (a2c : UInt8) (a3b : List UInt8) (p0 : Value) (p1 : Value) (p3 : Value) (r : List UInt8) (w0 : World) (hp0 : Fd w0 [] p0 a0f) (hp1 : By w0 [] p1 a1a) (hp3 : By w0 [] p3 a3b) (H : field_Sum a0f a1a a2c a3b = some r) :
    Calls Try.prog 50 [p0, p1, (u8 a2c), p3].toArray w0 (fun e w' => ∃ u0 : Value, e = .returned u0 ∧ Ext w0 w' ∧ Nw w0 u0 ∧ OwK (Sc u8) w' [] 5 u0 r) := by
  have hE : Ext w0 w0 := Ext.refl w0
  unfold field_Sum at H
  refine calls_W (n := 42) Try.func50 rfl rfl rfl ?_
  refine W_seq ?_
  refine W_reg (by kernel_rfl) ?_
  refine wla rfl rfl (q_assign (v := (.slice none 0 0)) rfl rfl) ?_
  refine wl_nil ?_
  refine W_th ?_
  refine W_seq ?_
  refine W_seq ?_
  refine W_reg (by kernel_rfl) ?_
  refine wla rfl rfl (q_move (v := p0) rfl rfl) ?_
  refine wla rfl rfl (q_eqF rfl rfl rfl rfl (hp0.lift (Lift.ext hE _))) ?_
  refine wl_nil ?_
  refine W_th ?_
  refine W_cond _ rfl rfl (fun hb1 => ?_) (fun hb1 => ?_)
  · replace H := (if_pos hb1).symm.trans H
    refine W_seq ?_
    refine W_reg (by kernel_rfl) ?_
    refine wla rfl rfl (q_assign (v := (.slice none 0 0)) rfl rfl) ?_
    refine wl_nil ?_
    refine W_th ?_
    refine W_ret ?_
    refine th_r ?_
    obtain rfl := Option.some.inj H
    refine rt1 (.slice none 0 0) rfl rfl rfl rfl ?_
    exact ⟨(.slice none 0 0), rfl, hE, Nw.nil _, (OwK.nil _ _ _ _)⟩
  · replace H := (if_neg (ne_true_of_eq_false hb1)).symm.trans H
    refine W_skip ?_
    refine W_th ?_
    refine W_seq ?_
    refine W_reg (by kernel_rfl) ?_
    refine wla rfl rfl (q_move (v := p1) rfl rfl) ?_
    refine wla rfl rfl (q_len rfl T22.sl rfl (hp1.lift (Lift.ext hE _))) ?_
    obtain ⟨c2, hc2, H⟩ := Option.bind_eq_some_iff.1 H
    refine wls rfl rfl (stp_make (L := []) (R := (Sc u8)) rfl T22 rfl rfl hc2 (fun _ _ => rfl) ?_)
    intro v2 w2 o2 n2 g2 l2
    have x2 := grown_ext g2
    have n4 := Nw.ext hE n2
    have e3 := hE.trans x2
    refine wla rfl rfl (q_assign (v := v2) rfl rfl) ?_
    refine wl_nil ?_
    refine W_th ?_
    refine W_seq ?_
    refine W_reg (by kernel_rfl) ?_
    refine wla rfl rfl (q_move (v := v2) rfl rfl) ?_
    refine wla rfl rfl (q_move (v := p1) rfl rfl) ?_
    refine wls rfl rfl (stp_copy (R := (Sc u8)) (off := 0) (dv := v2) (u := p1) (Sc.stab _) [] [] rfl T22 rfl rfl o2 (copy_whole o2) (by decide) (Int.natCast_nonneg _) (hp1.lift (Lift.ext e3 _)) (fun _ _ h => h) oc_u8 ?_)
    intro w5 o5 g5 l5
    have e6 := e3.grown g5 n4
    refine wl_nil ?_
    refine W_th ?_
    refine W_seq ?_
    refine W_seq ?_
    refine W_reg (by kernel_rfl) ?_
    refine wla rfl rfl (q_move (v := p1) rfl rfl) ?_
    refine wla rfl rfl (q_len rfl T22.sl rfl (hp1.lift (Lift.ext e6 _))) ?_
    refine wla rfl rfl (q_move (v := p3) rfl rfl) ?_
    refine wla rfl rfl (q_len rfl T22.sl rfl (hp3.lift (Lift.ext e6 _))) ?_
    refine wla rfl rfl (q_minI rfl rfl rfl) ?_
    refine wla rfl rfl (q_move (v := (i64 0)) rfl rfl) ?_
    refine wl_nil ?_
    refine W_th ?_
    obtain ⟨x7, G7, H⟩ := Option.bind_eq_some_iff.1 H
    refine W_mid (fun f w => f 9 = v2 ∧ f 42 = undef ∧ Ext w0 w ∧ OwK (Sc u8) w [v2] 5 v2 x7 ∧ Nw w0 v2) ?_ ?_
    · refine W_block ?_
      refine W_loop (fun s7 f w => f 0 = p0 ∧ f 2 = (u8 a2c) ∧ f 3 = p3 ∧ f 9 = v2 ∧ f 23 = (i64 ((if (a3b.length : Int) < (a1a.length : Int) then (a3b.length : Int) else (a1a.length : Int)))) ∧ f 24 = (i64 s7.2) ∧ f 42 = undef ∧ Ext w0 w ∧ OwK (Sc u8) w [v2] 5 v2 s7.1 ∧ Nw w0 v2) G7 ?_ ?_
      · exact ⟨rfl, rfl, rfl, rfl, rfl, rfl, rfl, e6, o5, n4⟩
      · rintro s7 _ _ w8 ⟨s0_8, s2_8, s3_8, s9_8, s23_8, s24_8, s42_8, hE8, o0_8, n0_8⟩ H7 hr7
        refine W_seq ?_
        refine W_reg (by kernel_rfl) ?_
        refine wla rfl rfl (q_ltI rfl s24_8 s23_8) ?_
        refine wl_nil ?_
        refine W_th ?_
        refine W_seq ?_
        refine W_cond _ rfl rfl (fun hb9 => ?_) (fun hb9 => ?_)
        · replace H7 := (if_pos (of_decide_eq_true hb9)).symm.trans H7
          refine W_skip ?_
          refine W_th ?_
          refine W_seq ?_
          refine W_block ?_
          refine W_seq ?_
          refine W_reg (by kernel_rfl) ?_
          refine wla rfl rfl (q_move (v := (i64 s7.2)) rfl s24_8) ?_
          refine wla rfl rfl (q_assign (v := (i64 s7.2)) rfl rfl) ?_
          refine wl_nil ?_
          refine W_th ?_
          refine W_draw [3, 9] [(0, 0), (1, 0), (2, 0), (3, 1), (4, 0), (5, 0), (6, 0), (7, 0), (8, 0), (9, 1), (10, 2), (11, 0), (12, 0), (13, 2)] mixed (by kernel_rfl) (by kernel_rfl) (by kernel_rfl) (by kernel_rfl) ?_
          have x10 := Ext.drew w8
          replace o0_8 := o0_8.extL (Sc.stab _) x10 (Lift.ext x10 _)
          have e11 := hE8.trans x10
          refine wsa rfl rfl rfl (q_move (v := v2) rfl s9_8) ?_
          refine wsa rfl rfl rfl (q_move (v := (i64 s7.2)) rfl rfl) ?_
          obtain ⟨c12, hc12, H7⟩ := Option.bind_eq_some_iff.1 H7
          refine wsa rfl rfl rfl (q_adr rfl T22 rfl rfl (o0_8.rd (Sc.stab _)) hc12) ?_
          refine wsq rfl rfl rfl (q_loadS rfl T22 rfl (o0_8.rd (Sc.stab _)) hc12) ?_
          refine wsa rfl rfl rfl (q_move (v := p0) rfl s0_8) ?_
          refine wsa rfl rfl rfl (q_move (v := (u8 a2c)) rfl s2_8) ?_
          refine wsa rfl rfl rfl (q_move (v := p3) rfl s3_8) ?_
          refine wsa rfl rfl rfl (q_move (v := (i64 s7.2)) rfl rfl) ?_
          obtain ⟨c13, hc13, H7⟩ := Option.bind_eq_some_iff.1 H7
          refine wsa rfl rfl rfl (q_adr rfl T22 rfl rfl (hp3.lift (Lift.ext e11 _)) hc13) ?_
          refine wsq rfl rfl rfl (q_loadS rfl T22 rfl (hp3.lift (Lift.ext e11 _)) hc13) ?_
          obtain ⟨r14, hr14, H7⟩ := Option.bind_eq_some_iff.1 H7
          refine wss rfl rfl rfl (stp_call (vs := [p0, (u8 a2c), (u8 c13)]) Try.func43 rfl rfl rfl (ar3 rfl rfl rfl) (field_Mul_calls a0f a2c c13 p0 r14 _ (hp0.lift (Lift.ext e11 _)) hr14) ?_)
          rintro _ w14 ⟨rfl, x14⟩
          refine ⟨_, rfl, x14, ?_⟩
          replace o0_8 := o0_8.extL (Sc.stab _) x14 (Lift.ext x14 _)
          have e15 := e11.trans x14
          refine wsa rfl rfl rfl (q_xor8 rfl rfl rfl) ?_
          refine wsa rfl rfl rfl (q_adr rfl T22 rfl rfl (o0_8.rd (Sc.stab _)) hc12) ?_
          refine wsn rfl (by kernel_rfl) rfl rfl (stp_store (R := (Sc u8)) (u := (u8 ((c12 ^^^ r14)))) (Sc.stab _) [] [] rfl T22 rfl rfl o0_8 (put_of ((c12 ^^^ r14)) hc12) rfl rfl ?_)
          intro w16 o16 g16 l16
          have e17 := e15.grown g16 n0_8
          refine ws_nil ?_
          refine bk_n ?_
          refine W_th ?_
          refine W_reg (by kernel_rfl) ?_
          refine wla rfl rfl (q_addI rfl s24_8 rfl) ?_
          refine wla rfl rfl (q_move (v := (i64 ((wI (s7.2 + 1))))) rfl rfl) ?_
          refine wl_nil ?_
          obtain rfl := Option.some.inj H7
          exact ⟨_, rfl, s0_8, s2_8, s3_8, s9_8, s23_8, rfl, s42_8, e17, o16, n0_8⟩
        · replace H7 := (if_neg (of_decide_eq_false hb9)).symm.trans H7
          refine W_exit ?_
          refine th_x ?_
          obtain rfl := Option.some.inj H7
          obtain rfl := hr7 _ rfl
          refine th_x ?_
          refine bk_x ?_
          exact ⟨s9_8, s42_8, hE8, o0_8, n0_8⟩
    · rintro _ w19 ⟨s9_19, s42_19, hE19, o0_19, n0_19⟩
      refine W_th ?_
      refine W_seq ?_
      refine W_reg (by kernel_rfl) ?_
      refine wla rfl rfl (q_move (v := v2) rfl s9_19) ?_
      refine wla rfl rfl (q_assign (v := v2) rfl rfl) ?_
      refine wl_nil ?_
      refine W_th ?_
      refine W_ret ?_
      obtain rfl := Option.some.inj H
      refine rt1 v2 rfl rfl rfl s42_19 ?_
      exact ⟨v2, rfl, hE19, n0_19, (o0_19.weak (Sc.stab _) (fun _ _ => trivial))⟩

/-! (*largesse/field.Field).Scale -/
noncomputable def field_Scale (a0f : Bool) (a1c : UInt8) (a2b : List UInt8) : Option (List UInt8) :=
(if (!a0f) = true then some ([] : List UInt8)
else
((makeL ((a2b.length : Int)) (0 : UInt8)).bind fun c2 =>
((field_Sum a0f c2 a1c a2b).bind fun r4 => some r4)))
set_option maxRecDepth 100000 in
set_option maxHeartbeats 8000000 in
theorem field_Scale_calls (a0f : Bool) (a1c : UInt8) (a2b : List UInt8) (p0 : Value) (p2 : Value) (r : List UInt8) (w0 : World) (hp0 : Fd w0 [] p0 a0f) (hp2 : By w0 [] p2 a2b) (H : field_Scale a0f a1c a2b = some r) :
    Calls Try.prog 65 [p0, (u8 a1c), p2].toArray w0 (fun e w' => ∃ u0 : Value, e = .returned u0 ∧ Ext w0 w' ∧ Nw w0 u0 ∧ OwK (Sc u8) w' [] 5 u0 r) := by
  have hE : Ext w0 w0 := Ext.refl w0
  unfold field_Scale at H
  refine calls_W (n := 16) Try.func65 rfl rfl rfl ?_
  refine W_seq ?_
  refine W_reg (by kernel_rfl) ?_
  refine wla rfl rfl (q_assign (v := (.slice none 0 0)) rfl rfl) ?_
  refine wl_nil ?_
  refine W_th ?_
  refine W_seq ?_
  refine W_seq ?_
  refine W_reg (by kernel_rfl) ?_
  refine wla rfl rfl (q_move (v := p0) rfl rfl) ?_
  refine wla rfl rfl (q_eqF rfl rfl rfl rfl (hp0.lift (Lift.ext hE _))) ?_
  refine wl_nil ?_
  refine W_th ?_
  refine W_cond _ rfl rfl (fun hb1 => ?_) (fun hb1 => ?_)
  · replace H := (if_pos hb1).symm.trans H
    refine W_seq ?_
    refine W_reg (by kernel_rfl) ?_
    refine wla rfl rfl (q_assign (v := (.slice none 0 0)) rfl rfl) ?_
    refine wl_nil ?_
    refine W_th ?_
    refine W_ret ?_
    refine th_r ?_
    obtain rfl := Option.some.inj H
    refine rt1 (.slice none 0 0) rfl rfl rfl rfl ?_
    exact ⟨(.slice none 0 0), rfl, hE, Nw.nil _, (OwK.nil _ _ _ _)⟩
  · replace H := (if_neg (ne_true_of_eq_false hb1)).symm.trans H
    refine W_skip ?_
    refine W_th ?_
    refine W_seq ?_
    refine W_reg (by kernel_rfl) ?_
    refine wla rfl rfl (q_move (v := p0) rfl rfl) ?_
    refine wla rfl rfl (q_move (v := p2) rfl rfl) ?_
    refine wla rfl rfl (q_len rfl T22.sl rfl (hp2.lift (Lift.ext hE _))) ?_
    obtain ⟨c2, hc2, H⟩ := Option.bind_eq_some_iff.1 H
    refine wls rfl rfl (stp_make (L := []) (R := (Sc u8)) rfl T22 rfl rfl hc2 (fun _ _ => rfl) ?_)
    intro v2 w2 o2 n2 g2 l2
    have x2 := grown_ext g2
    have i2 : By w2 [] v2 c2 := OwK.slk (Sc.stab _) _ o2 (fun k hk => (Old.nil _) k (n2 k hk)) (fun _ h => h.2)
    have e3 := hE.trans x2
    refine wla rfl rfl (q_move (v := (u8 a1c)) rfl rfl) ?_
    refine wla rfl rfl (q_move (v := p2) rfl rfl) ?_
    obtain ⟨r4, hr4, H⟩ := Option.bind_eq_some_iff.1 H
    refine wls rfl rfl (stp_call (vs := [p0, v2, (u8 a1c), p2]) Try.func50 rfl rfl rfl (ar4 rfl rfl rfl rfl) (field_Sum_calls a0f c2 a1c a2b p0 v2 p2 r4 _ (hp0.lift (Lift.ext e3 _)) (i2.lift (Lift.sub (fun _ _ => trivial))) (hp2.lift (Lift.ext e3 _)) hr4) ?_)
    rintro _ w4 ⟨v4, rfl, x4, n4_0, o4_0⟩
    refine ⟨_, rfl, ?_⟩
    have o4 : OwK (Sc u8) w4 (v4 :: []) 5 v4 r4 := OwK.scal o4_0 _
    replace i2 := i2.lift (Lift.call _ x4 n4_0)
    have n6 := Nw.ext e3 n4_0
    have e5 := e3.trans x4
    refine wla rfl rfl (q_assign (v := v4) rfl rfl) ?_
    refine wl_nil ?_
    refine W_th ?_
    refine W_ret ?_
    obtain rfl := Option.some.inj H
    refine rt1 v4 rfl rfl rfl rfl ?_
    exact ⟨v4, rfl, e5, n6, (o4.weak (Sc.stab _) (fun _ _ => trivial))⟩

end Gk

/- Printed by gen.py: for each Go function a pure function, and that the Go code comes to it. No condition beside the equation that says what the pure function gives. -/





set_option linter.unusedVariables false
set_option linter.unusedSimpArgs false
namespace Gk
open Go Go.Proofs

/-! largesse/poly.Trim -/
noncomputable def poly_Trim (a0p : List UInt8) : Option (List UInt8) :=
((poly_Degree a0p).bind fun r1 =>
((subL a0p 0 ((wI (r1 + 1)))).bind fun c3 =>
((slices_Clone_sbytebyte c3).bind fun r4 => some r4)))
set_option maxRecDepth 100000 in
set_option maxHeartbeats 8000000 in
theorem poly_Trim_calls (a0p : List UInt8) (p0 : Value) (r : List UInt8) (w0 : World) (hp0 : By w0 [] p0 a0p) (H : poly_Trim a0p = some r) :
    Calls Try.prog 16 [p0].toArray w0 (fun e w' => ∃ u0 : Value, e = .returned u0 ∧ Ext w0 w' ∧ Nw w0 u0 ∧ OwK (Sc u8) w' [] 5 u0 r) := by
  have hE : Ext w0 w0 := Ext.refl w0
  unfold poly_Trim at H
  refine calls_W (n := 9) Try.func16 rfl rfl rfl ?_
  refine W_seq ?_
  refine W_reg (by kernel_rfl) ?_
  refine wla rfl rfl (q_assign (v := (.slice none 0 0)) rfl rfl) ?_
  refine wl_nil ?_
  refine W_th ?_
  refine W_seq ?_
  refine W_reg (by kernel_rfl) ?_
  refine wla rfl rfl (q_move (v := p0) rfl rfl) ?_
  refine wla rfl rfl (q_move (v := p0) rfl rfl) ?_
  obtain ⟨r1, hr1, H⟩ := Option.bind_eq_some_iff.1 H
  refine wls rfl rfl (stp_call (vs := [p0]) Try.func40 rfl rfl rfl (ar1 rfl) (poly_Degree_calls a0p p0 r1 _ (hp0.lift (Lift.ext hE _)) hr1) ?_)
  rintro _ w1 ⟨rfl, x1⟩
  refine ⟨_, rfl, ?_⟩
  have e2 := hE.trans x1
  refine wla rfl rfl (q_addI rfl rfl rfl) ?_
  obtain ⟨c3, hc3, H⟩ := Option.bind_eq_some_iff.1 H
  refine wla rfl rfl (q_slice (a := 0) (b := (wI (r1 + 1))) rfl T22 rfl (hp0.lift (Lift.ext e2 _)) rfl rfl hc3) ?_
  obtain ⟨r4, hr4, H⟩ := Option.bind_eq_some_iff.1 H
  refine wls rfl rfl (stp_call (vs := [(subV p0 (0 : Int).toNat ((wI (r1 + 1)) : Int).toNat)]) Try.func39 rfl rfl rfl (ar1 rfl) (slices_Clone_sbytebyte_calls c3 (subV p0 (0 : Int).toNat ((wI (r1 + 1)) : Int).toNat) r4 _ (SlK.cut (L := []) (hp0.lift (Lift.ext e2 _)) hc3) hr4) ?_)
  rintro _ w4 ⟨v4, rfl, x4, n4_0, o4_0⟩
  refine ⟨_, rfl, ?_⟩
  have o4 : OwK (Sc u8) w4 (v4 :: []) 5 v4 r4 := OwK.scal o4_0 _
  have n6 := Nw.ext e2 n4_0
  have e5 := e2.trans x4
  refine wla rfl rfl (q_assign (v := v4) rfl rfl) ?_
  refine wl_nil ?_
  refine W_th ?_
  refine W_ret ?_
  obtain rfl := Option.some.inj H
  refine rt1 v4 rfl rfl rfl rfl ?_
  exact ⟨v4, rfl, e5, n6, (o4.weak (Sc.stab _) (fun _ _ => trivial))⟩

/-! largesse/poly.Add -/
noncomputable def poly_Add (a0p : List UInt8) (a1q : List UInt8) : Option (List UInt8) :=
((makeL ((if (a0p.length : Int) < (a1q.length : Int) then (a1q.length : Int) else (a0p.length : Int))) (0 : UInt8)).bind fun c1 =>
((iterC (fun s6 : List UInt8 × Int =>
(if s6.2 < (a1q.length : Int) then
((idx a1q s6.2).bind fun c9 =>
((idx s6.1 s6.2).bind fun c10 => some (.inl ((s6.1.set (s6.2 : Int).toNat ((c10 ^^^ c9))), (wI (s6.2 + 1))))))
else some (.inr s6.1))) ((copyL c1 0 a0p), 0)).bind fun x6 =>
((poly_Trim x6).bind fun r15 => some r15)))
set_option maxRecDepth 100000 in
set_option maxHeartbeats 8000000 in
theorem poly_Add_calls (a0p : List UInt8) (a1q : List UInt8) (p0 : Value) (p1 : Value) (r : List UInt8) (w0 : World) (hp0 : By w0 [] p0 a0p) (hp1 : By w0 [] p1 a1q) (H : poly_Add a0p a1q = some r) :
    Calls Try.prog 63 [p0, p1].toArray w0 (fun e w' => ∃ u0 : Value, e = .returned u0 ∧ Ext w0 w' ∧ Nw w0 u0 ∧ OwK (Sc u8) w' [] 5 u0 r) := by
  have hE : Ext w0 w0 := Ext.refl w0
  unfold poly_Add at H
  refine calls_W (n := 34) Try.func63 rfl rfl rfl ?_
  refine W_seq ?_
  refine W_reg (by kernel_rfl) ?_
  refine wla rfl rfl (q_assign (v := (.slice none 0 0)) rfl rfl) ?_
  refine wl_nil ?_
  refine W_th ?_
  refine W_seq ?_
  refine W_reg (by kernel_rfl) ?_
  refine wla rfl rfl (q_move (v := p0) rfl rfl) ?_
  refine wla rfl rfl (q_len rfl T22.sl rfl (hp0.lift (Lift.ext hE _))) ?_
  refine wla rfl rfl (q_move (v := p1) rfl rfl) ?_
  refine wla rfl rfl (q_len rfl T22.sl rfl (hp1.lift (Lift.ext hE _))) ?_
  refine wla rfl rfl (q_maxI rfl rfl rfl) ?_
  obtain ⟨c1, hc1, H⟩ := Option.bind_eq_some_iff.1 H
  refine wls rfl rfl (stp_make (L := []) (R := (Sc u8)) rfl T22 rfl rfl hc1 (fun _ _ => rfl) ?_)
  intro v1 w1 o1 n1 g1 l1
  have x1 := grown_ext g1
  have n3 := Nw.ext hE n1
  have e2 := hE.trans x1
  refine wla rfl rfl (q_assign (v := v1) rfl rfl) ?_
  refine wl_nil ?_
  refine W_th ?_
  refine W_seq ?_
  refine W_reg (by kernel_rfl) ?_
  refine wla rfl rfl (q_move (v := v1) rfl rfl) ?_
  refine wla rfl rfl (q_move (v := p0) rfl rfl) ?_
  refine wls rfl rfl (stp_copy (R := (Sc u8)) (off := 0) (dv := v1) (u := p0) (Sc.stab _) [] [] rfl T22 rfl rfl o1 (copy_whole o1) (by decide) (Int.natCast_nonneg _) (hp0.lift (Lift.ext e2 _)) (fun _ _ h => h) oc_u8 ?_)
  intro w4 o4 g4 l4
  have e5 := e2.grown g4 n3
  refine wl_nil ?_
  refine W_th ?_
  refine W_seq ?_
  refine W_seq ?_
  refine W_reg (by kernel_rfl) ?_
  refine wla rfl rfl (q_move (v := p1) rfl rfl) ?_
  refine wla rfl rfl (q_len rfl T22.sl rfl (hp1.lift (Lift.ext e5 _))) ?_
  refine wla rfl rfl (q_move (v := (i64 0)) rfl rfl) ?_
  refine wl_nil ?_
  refine W_th ?_
  obtain ⟨x6, G6, H⟩ := Option.bind_eq_some_iff.1 H
  refine W_mid (fun f w => f 5 = v1 ∧ f 34 = undef ∧ Ext w0 w ∧ OwK (Sc u8) w [v1] 5 v1 x6 ∧ Nw w0 v1) ?_ ?_
  · refine W_block ?_
    refine W_loop (fun s6 f w => f 5 = v1 ∧ f 17 = p1 ∧ f 18 = (i64 ((a1q.length : Int))) ∧ f 19 = (i64 s6.2) ∧ f 34 = undef ∧ Ext w0 w ∧ OwK (Sc u8) w [v1] 5 v1 s6.1 ∧ Nw w0 v1) G6 ?_ ?_
    · exact ⟨rfl, rfl, rfl, rfl, rfl, e5, o4, n3⟩
    · rintro s6 _ _ w7 ⟨s5_7, s17_7, s18_7, s19_7, s34_7, hE7, o0_7, n0_7⟩ H6 hr6
      refine W_seq ?_
      refine W_reg (by kernel_rfl) ?_
      refine wla rfl rfl (q_ltI rfl s19_7 s18_7) ?_
      refine wl_nil ?_
      refine W_th ?_
      refine W_seq ?_
      refine W_cond _ rfl rfl (fun hb8 => ?_) (fun hb8 => ?_)
      · replace H6 := (if_pos (of_decide_eq_true hb8)).symm.trans H6
        refine W_skip ?_
        refine W_th ?_
        refine W_seq ?_
        refine W_block ?_
        refine W_seq ?_
        refine W_reg (by kernel_rfl) ?_
        refine wla rfl rfl (q_move (v := (i64 s6.2)) rfl s19_7) ?_
        obtain ⟨c9, hc9, H6⟩ := Option.bind_eq_some_iff.1 H6
        refine wla rfl rfl (q_adr rfl T22 s17_7 s19_7 (hp1.lift (Lift.ext hE7 _)) hc9) ?_
        refine wlq rfl rfl (q_loadS rfl T22 rfl (hp1.lift (Lift.ext hE7 _)) hc9) ?_
        refine wla rfl rfl (q_assign (v := (i64 s6.2)) rfl rfl) ?_
        refine wla rfl rfl (q_assign (v := (u8 c9)) rfl rfl) ?_
        refine wl_nil ?_
        refine W_th ?_
        refine W_reg (by kernel_rfl) ?_
        refine wla rfl rfl (q_move (v := v1) rfl s5_7) ?_
        refine wla rfl rfl (q_move (v := (i64 s6.2)) rfl rfl) ?_
        obtain ⟨c10, hc10, H6⟩ := Option.bind_eq_some_iff.1 H6
        refine wla rfl rfl (q_adr rfl T22 rfl rfl (o0_7.rd (Sc.stab _)) hc10) ?_
        refine wlq rfl rfl (q_loadS rfl T22 rfl (o0_7.rd (Sc.stab _)) hc10) ?_
        refine wla rfl rfl (q_move (v := (u8 c9)) rfl rfl) ?_
        refine wla rfl rfl (q_xor8 rfl rfl rfl) ?_
        refine wla rfl rfl (q_adr rfl T22 rfl rfl (o0_7.rd (Sc.stab _)) hc10) ?_
        refine wln rfl rfl (stp_store (R := (Sc u8)) (u := (u8 ((c10 ^^^ c9)))) (Sc.stab _) [] [] rfl T22 rfl rfl o0_7 (put_of ((c10 ^^^ c9)) hc10) rfl rfl ?_)
        intro w11 o11 g11 l11
        have e12 := hE7.grown g11 n0_7
        refine wl_nil ?_
        refine bk_n ?_
        refine W_th ?_
        refine W_reg (by kernel_rfl) ?_
        refine wla rfl rfl (q_addI rfl s19_7 rfl) ?_
        refine wla rfl rfl (q_move (v := (i64 ((wI (s6.2 + 1))))) rfl rfl) ?_
        refine wl_nil ?_
        obtain rfl := Option.some.inj H6
        exact ⟨_, rfl, s5_7, s17_7, s18_7, rfl, s34_7, e12, o11, n0_7⟩
      · replace H6 := (if_neg (of_decide_eq_false hb8)).symm.trans H6
        refine W_exit ?_
        refine th_x ?_
        obtain rfl := Option.some.inj H6
        obtain rfl := hr6 _ rfl
        refine th_x ?_
        refine bk_x ?_
        exact ⟨s5_7, s34_7, hE7, o0_7, n0_7⟩
  · rintro _ w14 ⟨s5_14, s34_14, hE14, o0_14, n0_14⟩
    refine W_th ?_
    refine W_seq ?_
    refine W_reg (by kernel_rfl) ?_
    refine wla rfl rfl (q_move (v := v1) rfl s5_14) ?_
    obtain ⟨r15, hr15, H⟩ := Option.bind_eq_some_iff.1 H
    refine wls rfl rfl (stp_call (vs := [v1]) Try.func16 rfl rfl rfl (ar1 rfl) (poly_Trim_calls x6 v1 r15 _ (o0_14.rd (Sc.stab _)) hr15) ?_)
    rintro _ w15 ⟨v15, rfl, x15, n15_0, o15_0⟩
    refine ⟨_, rfl, ?_⟩
    have o15 : OwK (Sc u8) w15 (v15 :: [v1]) 5 v15 r15 := OwK.scal o15_0 _
    have q16 : Nq v1 v15 := o0_14.nq n15_0
    replace o0_14 := o0_14.extL (Sc.stab _) x15 (Lift.call _ x15 n15_0)
    have n18 := Nw.ext hE14 n15_0
    have e17 := hE14.trans x15
    refine wla rfl rfl (q_assign (v := v15) rfl rfl) ?_
    refine wl_nil ?_
    refine W_th ?_
    refine W_ret ?_
    obtain rfl := Option.some.inj H
    refine rt1 v15 rfl rfl rfl s34_14 ?_
    exact ⟨v15, rfl, e17, n18, (o15.weak (Sc.stab _) (fun _ _ => trivial))⟩

/-! largesse/poly.Mul -/
noncomputable def poly_Mul (a0f : Bool) (a1p : List UInt8) (a2q : List UInt8) : Option (List UInt8 × Int) :=
((poly_Trim a1p).bind fun r1 =>
((poly_Trim a2q).bind fun r3 =>
(if (!a0f) = true then some (([] : List UInt8), 1)
else
(if (r1.length : Int) = 0 then some (([] : List UInt8), 0)
else
(if (r3.length : Int) = 0 then some (([] : List UInt8), 0)
else
(if 256 < (wI ((wI ((r1.length : Int) + (r3.length : Int))) - 1)) then some (([] : List UInt8), 4)
else
((makeL ((wI ((wI ((r1.length : Int) + (r3.length : Int))) - 1))) (0 : UInt8)).bind fun c9 =>
((iterC (fun s12 : List UInt8 × Int =>
(if s12.2 < (r1.length : Int) then
((idx r1 s12.2).bind fun c15 =>
((subL s12.1 s12.2 ((s12.1.length : Int))).bind fun c18 =>
((subL s12.1 s12.2 ((wI (s12.2 + (r3.length : Int))))).bind fun c19 =>
((field_Sum a0f c19 c15 r3).bind fun r20 => some (.inl ((copyL s12.1 s12.2 r20), (wI (s12.2 + 1))))))))
else some (.inr s12.1))) (c9, 0)).bind fun x12 => some (x12, 0)))))))))
set_option maxRecDepth 100000 in
set_option maxHeartbeats 8000000 in
theorem poly_Mul_calls (a0f : Bool) (a1p : List UInt8) (a2q : List UInt8) (p0 : Value) (p1 : Value) (p2 : Value) (r : List UInt8 × Int) (w0 : World) (hp0 : Fd w0 [] p0 a0f) (hp1 : By w0 [] p1 a1p) (hp2 : By w0 [] p2 a2q) (H : poly_Mul a0f a1p a2q = some r) :
    Calls Try.prog 69 [p0, p1, p2].toArray w0 (fun e w' => ∃ u0 : Value, e = .returned (.tuple #[u0, (i64 r.2)]) ∧ Ext w0 w' ∧ Nw w0 u0 ∧ OwK (Sc u8) w' [] 5 u0 r.1) := by
  have hE : Ext w0 w0 := Ext.refl w0
  unfold poly_Mul at H
  refine calls_W (n := 66) Try.func69 rfl rfl rfl ?_
  refine W_seq ?_
  refine W_reg (by kernel_rfl) ?_
  refine wla rfl rfl (q_assign (v := (.slice none 0 0)) rfl rfl) ?_
  refine wla rfl rfl (q_assign (v := (i64 0)) rfl rfl) ?_
  refine wl_nil ?_
  refine W_th ?_
  refine W_seq ?_
  refine W_reg (by kernel_rfl) ?_
  refine wla rfl rfl (q_move (v := p1) rfl rfl) ?_
  obtain ⟨r1, hr1, H⟩ := Option.bind_eq_some_iff.1 H
  refine wls rfl rfl (stp_call (vs := [p1]) Try.func16 rfl rfl rfl (ar1 rfl) (poly_Trim_calls a1p p1 r1 _ (hp1.lift (Lift.ext hE _)) hr1) ?_)
  rintro _ w1 ⟨v1, rfl, x1, n1_0, o1_0⟩
  refine ⟨_, rfl, ?_⟩
  have i1_0 : By w1 [] v1 r1 := OwK.slk (Sc.stab _) _ (OwK.scal o1_0 (v1 :: [])) (fun k hk => (Old.nil _) k (n1_0 k hk)) (fun _ h => h.2)
  have e2 := hE.trans x1
  refine wla rfl rfl (q_move (v := p2) rfl rfl) ?_
  obtain ⟨r3, hr3, H⟩ := Option.bind_eq_some_iff.1 H
  refine wls rfl rfl (stp_call (vs := [p2]) Try.func16 rfl rfl rfl (ar1 rfl) (poly_Trim_calls a2q p2 r3 _ (hp2.lift (Lift.ext e2 _)) hr3) ?_)
  rintro _ w3 ⟨v3, rfl, x3, n3_0, o3_0⟩
  refine ⟨_, rfl, ?_⟩
  have i3_0 : By w3 [] v3 r3 := OwK.slk (Sc.stab _) _ (OwK.scal o3_0 (v3 :: [])) (fun k hk => (Old.nil _) k (n3_0 k hk)) (fun _ h => h.2)
  replace i1_0 := i1_0.lift (Lift.ext x3 _)
  have e4 := e2.trans x3
  refine wla rfl rfl (q_assign (v := v1) rfl rfl) ?_
  refine wla rfl rfl (q_assign (v := v3) rfl rfl) ?_
  refine wl_nil ?_
  refine W_th ?_
  refine W_seq ?_
  refine W_block ?_
  refine W_seq ?_
  refine W_reg (by kernel_rfl) ?_
  refine wla rfl rfl (q_move (v := p0) rfl rfl) ?_
  refine wla rfl rfl (q_eqF rfl rfl rfl rfl (hp0.lift (Lift.ext e4 _))) ?_
  refine wla rfl rfl (q_assign (v := (.bool ((!a0f)))) rfl rfl) ?_
  refine wl_nil ?_
  refine W_th ?_
  refine W_cond _ rfl rfl (fun hb5 => ?_) (fun hb5 => ?_)
  · replace H := (if_pos hb5).symm.trans H
    refine W_seq ?_
    refine W_reg (by kernel_rfl) ?_
    refine wla rfl rfl (q_assign (v := (.slice none 0 0)) rfl rfl) ?_
    refine wla rfl rfl (q_assign (v := (i64 1)) rfl rfl) ?_
    refine wl_nil ?_
    refine W_th ?_
    refine W_ret ?_
    refine bk_r ?_
    refine th_r ?_
    obtain rfl := Option.some.inj H
    refine rt2 (.slice none 0 0) (i64 1) rfl rfl rfl rfl rfl rfl ?_
    exact ⟨(.slice none 0 0), rfl, e4, Nw.nil _, (OwK.nil _ _ _ _)⟩
  · replace H := (if_neg (ne_true_of_eq_false hb5)).symm.trans H
    refine W_seq ?_
    refine W_reg (by kernel_rfl) ?_
    refine wla rfl rfl (q_move (v := v1) rfl rfl) ?_
    refine wla rfl rfl (q_len rfl T22.sl rfl i1_0) ?_
    refine wla rfl rfl (q_eqI rfl rfl rfl) ?_
    refine wlb rfl rfl (q_move (v := (.bool ((decide ((r1.length : Int) = 0))))) rfl rfl) (fun hb6 => ?_) (fun hb6 => ?_)
    · replace H := (if_pos (of_decide_eq_true hb6)).symm.trans H
      refine wlk rfl rfl ?_
      refine wlk rfl rfl ?_
      refine wlk rfl rfl ?_
      refine wla rfl rfl (q_pick_t (v := (.bool true)) rfl rfl rfl) ?_
      refine wla rfl rfl (q_assign (v := (.bool true)) rfl rfl) ?_
      refine wl_nil ?_
      refine W_th ?_
      refine W_cond true rfl rfl (fun _ => ?_) (fun hb => by cases hb)
      refine W_seq ?_
      refine W_reg (by kernel_rfl) ?_
      refine wla rfl rfl (q_assign (v := (.slice none 0 0)) rfl rfl) ?_
      refine wla rfl rfl (q_assign (v := (i64 0)) rfl rfl) ?_
      refine wl_nil ?_
      refine W_th ?_
      refine W_ret ?_
      refine bk_r ?_
      refine th_r ?_
      obtain rfl := Option.some.inj H
      refine rt2 (.slice none 0 0) (i64 0) rfl rfl rfl rfl rfl rfl ?_
      exact ⟨(.slice none 0 0), rfl, e4, Nw.nil _, (OwK.nil _ _ _ _)⟩
    · replace H := (if_neg (of_decide_eq_false hb6)).symm.trans H
      refine wla rfl rfl (q_move (v := v3) rfl rfl) ?_
      refine wla rfl rfl (q_len rfl T22.sl rfl i3_0) ?_
      refine wla rfl rfl (q_eqI rfl rfl rfl) ?_
      refine wla rfl rfl (q_pick_f (v := (.bool ((decide ((r3.length : Int) = 0))))) rfl rfl rfl) ?_
      refine wla rfl rfl (q_assign (v := (.bool ((decide ((r3.length : Int) = 0))))) rfl rfl) ?_
      refine wl_nil ?_
      refine W_th ?_
      refine W_cond _ rfl rfl (fun hb7 => ?_) (fun hb7 => ?_)
      · replace H := (if_pos (of_decide_eq_true hb7)).symm.trans H
        refine W_seq ?_
        refine W_reg (by kernel_rfl) ?_
        refine wla rfl rfl (q_assign (v := (.slice none 0 0)) rfl rfl) ?_
        refine wla rfl rfl (q_assign (v := (i64 0)) rfl rfl) ?_
        refine wl_nil ?_
        refine W_th ?_
        refine W_ret ?_
        refine bk_r ?_
        refine th_r ?_
        obtain rfl := Option.some.inj H
        refine rt2 (.slice none 0 0) (i64 0) rfl rfl rfl rfl rfl rfl ?_
        exact ⟨(.slice none 0 0), rfl, e4, Nw.nil _, (OwK.nil _ _ _ _)⟩
      · replace H := (if_neg (of_decide_eq_false hb7)).symm.trans H
        refine W_seq ?_
        refine W_reg (by kernel_rfl) ?_
        refine wla rfl rfl (q_move (v := v1) rfl rfl) ?_
        refine wla rfl rfl (q_len rfl T22.sl rfl i1_0) ?_
        refine wla rfl rfl (q_move (v := v3) rfl rfl) ?_
        refine wla rfl rfl (q_len rfl T22.sl rfl i3_0) ?_
        refine wla rfl rfl (q_addI rfl rfl rfl) ?_
        refine wla rfl rfl (q_subI rfl rfl rfl) ?_
        refine wla rfl rfl (q_gtI rfl rfl rfl) ?_
        refine wla rfl rfl (q_assign (v := (.bool ((decide (256 < (wI ((wI ((r1.length : Int) + (r3.length : Int))) - 1))))))) rfl rfl) ?_
        refine wl_nil ?_
        refine W_th ?_
        refine W_cond _ rfl rfl (fun hb8 => ?_) (fun hb8 => ?_)
        · replace H := (if_pos (of_decide_eq_true hb8)).symm.trans H
          refine W_seq ?_
          refine W_reg (by kernel_rfl) ?_
          refine wla rfl rfl (q_assign (v := (.slice none 0 0)) rfl rfl) ?_
          refine wla rfl rfl (q_assign (v := (i64 4)) rfl rfl) ?_
          refine wl_nil ?_
          refine W_th ?_
          refine W_ret ?_
          refine bk_r ?_
          refine th_r ?_
          obtain rfl := Option.some.inj H
          refine rt2 (.slice none 0 0) (i64 4) rfl rfl rfl rfl rfl rfl ?_
          exact ⟨(.slice none 0 0), rfl, e4, Nw.nil _, (OwK.nil _ _ _ _)⟩
        · replace H := (if_neg (of_decide_eq_false hb8)).symm.trans H
          refine W_skip ?_
          refine bk_n ?_
          refine W_th ?_
          refine W_seq ?_
          refine W_reg (by kernel_rfl) ?_
          refine wla rfl rfl (q_move (v := v1) rfl rfl) ?_
          refine wla rfl rfl (q_len rfl T22.sl rfl i1_0) ?_
          refine wla rfl rfl (q_move (v := v3) rfl rfl) ?_
          refine wla rfl rfl (q_len rfl T22.sl rfl i3_0) ?_
          refine wla rfl rfl (q_addI rfl rfl rfl) ?_
          refine wla rfl rfl (q_subI rfl rfl rfl) ?_
          obtain ⟨c9, hc9, H⟩ := Option.bind_eq_some_iff.1 H
          refine wls rfl rfl (stp_make (L := []) (R := (Sc u8)) rfl T22 rfl rfl hc9 (fun _ _ => rfl) ?_)
          intro v9 w9 o9 n9 g9 l9
          have x9 := grown_ext g9
          replace i1_0 := i1_0.lift (Lift.call _ x9 n9)
          replace i3_0 := i3_0.lift (Lift.call _ x9 n9)
          have n11 := Nw.ext e4 n9
          have e10 := e4.trans x9
          refine wla rfl rfl (q_assign (v := v9) rfl rfl) ?_
          refine wl_nil ?_
          refine W_th ?_
          refine W_seq ?_
          refine W_seq ?_
          refine W_reg (by kernel_rfl) ?_
          refine wla rfl rfl (q_move (v := v1) rfl rfl) ?_
          refine wla rfl rfl (q_len rfl T22.sl rfl i1_0) ?_
          refine wla rfl rfl (q_move (v := (i64 0)) rfl rfl) ?_
          refine wl_nil ?_
          refine W_th ?_
          obtain ⟨x12, G12, H⟩ := Option.bind_eq_some_iff.1 H
          refine W_mid (fun f w => f 8 = v9 ∧ f 66 = undef ∧ Ext w0 w ∧ OwK (Sc u8) w [v9] 5 v9 x12 ∧ Nw w0 v9) ?_ ?_
          · refine W_block ?_
            refine W_loop (fun s12 f w => f 0 = p0 ∧ f 2 = v3 ∧ f 8 = v9 ∧ f 42 = v1 ∧ f 43 = (i64 ((r1.length : Int))) ∧ f 44 = (i64 s12.2) ∧ f 66 = undef ∧ Ext w0 w ∧ OwK (Sc u8) w [v9] 5 v9 s12.1 ∧ Nw w0 v9 ∧ By w [v9] v3 r3 ∧ By w [v9] v1 r1) G12 ?_ ?_
            · exact ⟨rfl, rfl, rfl, rfl, rfl, rfl, rfl, e10, o9, n11, i3_0, i1_0⟩
            · rintro s12 _ _ w13 ⟨s0_13, s2_13, s8_13, s42_13, s43_13, s44_13, s66_13, hE13, o0_13, n0_13, i0_13, i1_13⟩ H12 hr12
              refine W_seq ?_
              refine W_reg (by kernel_rfl) ?_
              refine wla rfl rfl (q_ltI rfl s44_13 s43_13) ?_
              refine wl_nil ?_
              refine W_th ?_
              refine W_seq ?_
              refine W_cond _ rfl rfl (fun hb14 => ?_) (fun hb14 => ?_)
              · replace H12 := (if_pos (of_decide_eq_true hb14)).symm.trans H12
                refine W_skip ?_
                refine W_th ?_
                refine W_seq ?_
                refine W_block ?_
                refine W_seq ?_
                refine W_reg (by kernel_rfl) ?_
                refine wla rfl rfl (q_move (v := (i64 s12.2)) rfl s44_13) ?_
                obtain ⟨c15, hc15, H12⟩ := Option.bind_eq_some_iff.1 H12
                refine wla rfl rfl (q_adr rfl T22 s42_13 s44_13 i1_13 hc15) ?_
                refine wlq rfl rfl (q_loadS rfl T22 rfl i1_13 hc15) ?_
                refine wla rfl rfl (q_assign (v := (i64 s12.2)) rfl rfl) ?_
                refine wla rfl rfl (q_assign (v := (u8 c15)) rfl rfl) ?_
                refine wl_nil ?_
                refine W_th ?_
                refine W_draw [] [(0, 0), (1, 0), (2, 0), (3, 0), (4, 0), (5, 0), (6, 0), (7, 0), (8, 0), (9, 0), (10, 0), (11, 0), (12, 0), (13, 2), (14, 2)] mixed (by kernel_rfl) (by kernel_rfl) (by kernel_rfl) (by kernel_rfl) ?_
                have x16 := Ext.drew w13
                replace i0_13 := i0_13.lift (Lift.ext x16 _)
                replace i1_13 := i1_13.lift (Lift.ext x16 _)
                replace o0_13 := o0_13.extL (Sc.stab _) x16 (Lift.ext x16 _)
                have e17 := hE13.trans x16
                refine wsa rfl rfl rfl (q_move (v := v9) rfl s8_13) ?_
                refine wsa rfl rfl rfl (q_move (v := (i64 s12.2)) rfl rfl) ?_
                obtain ⟨c18, hc18, H12⟩ := Option.bind_eq_some_iff.1 H12
                refine wsa rfl rfl rfl (q_slice (a := s12.2) (b := (s12.1.length : Int)) rfl T22 rfl (o0_13.rd (Sc.stab _)) rfl rfl hc18) ?_
                refine wsa rfl rfl rfl (q_move (v := p0) rfl s0_13) ?_
                refine wsa rfl rfl rfl (q_move (v := v9) rfl s8_13) ?_
                refine wsa rfl rfl rfl (q_move (v := (i64 s12.2)) rfl rfl) ?_
                refine wsa rfl rfl rfl (q_move (v := (i64 s12.2)) rfl rfl) ?_
                refine wsa rfl rfl rfl (q_move (v := v3) rfl s2_13) ?_
                refine wsa rfl rfl rfl (q_len rfl T22.sl rfl i0_13) ?_
                refine wsa rfl rfl rfl (q_addI rfl rfl rfl) ?_
                obtain ⟨c19, hc19, H12⟩ := Option.bind_eq_some_iff.1 H12
                refine wsa rfl rfl rfl (q_slice (a := s12.2) (b := (wI (s12.2 + (r3.length : Int)))) rfl T22 rfl (o0_13.rd (Sc.stab _)) rfl rfl hc19) ?_
                refine wsa rfl rfl rfl (q_move (v := (u8 c15)) rfl rfl) ?_
                refine wsa rfl rfl rfl (q_move (v := v3) rfl s2_13) ?_
                obtain ⟨r20, hr20, H12⟩ := Option.bind_eq_some_iff.1 H12
                refine wsc rfl (by kernel_rfl) rfl rfl (stp_call (vs := [p0, (subV v9 (s12.2 : Int).toNat ((wI (s12.2 + (r3.length : Int))) : Int).toNat), (u8 c15), v3]) Try.func50 rfl rfl rfl (ar4 rfl rfl rfl rfl) (field_Sum_calls a0f c19 c15 r3 p0 (subV v9 (s12.2 : Int).toNat ((wI (s12.2 + (r3.length : Int))) : Int).toNat) v3 r20 _ (hp0.lift (Lift.ext e17 _)) (SlK.cut (L := []) (o0_13.rd (Sc.stab _)) hc19) (i0_13.lift (Lift.sub (fun _ _ => trivial))) hr20) ?_)
                rintro _ w20 ⟨v20, rfl, x20, n20_0, o20_0⟩
                refine ⟨_, rfl, ?_⟩
                have i20_0 : By w20 [v9] v20 r20 := OwK.slk (Sc.stab _) _ (OwK.scal o20_0 (v20 :: [v9])) (fun k hk => (Old.cons (Old.nil _) o0_13.lt) k (n20_0 k hk)) (fun _ h => h.2)
                replace i0_13 := i0_13.lift (Lift.ext x20 _)
                replace i1_13 := i1_13.lift (Lift.ext x20 _)
                replace o0_13 := o0_13.extL (Sc.stab _) x20 (Lift.ext x20 _)
                have e21 := e17.trans x20
                refine wsc rfl (by kernel_rfl) rfl rfl (stp_copy (R := (Sc u8)) (off := s12.2) (dv := (subV v9 (s12.2 : Int).toNat ((s12.1.length : Int) : Int).toNat)) (u := v20) (Sc.stab _) [] [] rfl T22 rfl rfl o0_13 rfl (subL_some.1 hc18).1.1 (subL_lo hc18) i20_0 (fun _ _ h => h) oc_u8 ?_)
                intro w22 o22 g22 l22
                replace i0_13 := i0_13.lift l22
                replace i1_13 := i1_13.lift l22
                replace i20_0 := i20_0.lift l22
                have e23 := e21.grown g22 n0_13
                refine ws_nil ?_
                refine bk_n ?_
                refine W_th ?_
                refine W_reg (by kernel_rfl) ?_
                refine wla rfl rfl (q_addI rfl s44_13 rfl) ?_
                refine wla rfl rfl (q_move (v := (i64 ((wI (s12.2 + 1))))) rfl rfl) ?_
                refine wl_nil ?_
                obtain rfl := Option.some.inj H12
                exact ⟨_, rfl, s0_13, s2_13, s8_13, s42_13, s43_13, rfl, s66_13, e23, o22, n0_13, i0_13, i1_13⟩
              · replace H12 := (if_neg (of_decide_eq_false hb14)).symm.trans H12
                refine W_exit ?_
                refine th_x ?_
                obtain rfl := Option.some.inj H12
                obtain rfl := hr12 _ rfl
                refine th_x ?_
                refine bk_x ?_
                exact ⟨s8_13, s66_13, hE13, o0_13, n0_13⟩
          · rintro _ w25 ⟨s8_25, s66_25, hE25, o0_25, n0_25⟩
            refine W_th ?_
            refine W_seq ?_
            refine W_reg (by kernel_rfl) ?_
            refine wla rfl rfl (q_move (v := v9) rfl s8_25) ?_
            refine wla rfl rfl (q_assign (v := v9) rfl rfl) ?_
            refine wla rfl rfl (q_assign (v := (i64 0)) rfl rfl) ?_
            refine wl_nil ?_
            refine W_th ?_
            refine W_ret ?_
            obtain rfl := Option.some.inj H
            refine rt2 v9 (i64 0) rfl rfl rfl rfl rfl s66_25 ?_
            exact ⟨v9, rfl, hE25, n0_25, (o0_25.weak (Sc.stab _) (fun _ _ => trivial))⟩

/-! largesse/poly.Vanish -/
noncomputable def poly_Vanish (a0f : Bool) (a1xs : List UInt8) : Option (List UInt8 × Int) :=
(if (!a0f) = true then some (([] : List UInt8), 1)
else
(if 255 < (a1xs.length : Int) then some (([] : List UInt8), 4)
else
((iterC (fun s6 : List UInt8 × Int =>
(if s6.2 < (a1xs.length : Int) then
((idx a1xs s6.2).bind fun c9 =>
((poly_Mul a0f s6.1 ([c9, (1 : UInt8)] : List UInt8)).bind fun r12 => some (.inl (r12.1, (wI (s6.2 + 1))))))
else some (.inr s6.1))) (([(1 : UInt8)] : List UInt8), 0)).bind fun x6 => some (x6, 0))))
set_option maxRecDepth 100000 in
set_option maxHeartbeats 8000000 in
theorem poly_Vanish_calls (a0f : Bool) (a1xs : List UInt8) (p0 : Value) (p1 : Value) (r : List UInt8 × Int) (w0 : World) (hp0 : Fd w0 [] p0 a0f) (hp1 : By w0 [] p1 a1xs) (H : poly_Vanish a0f a1xs = some r) :
    Calls Try.prog 83 [p0, p1].toArray w0 (fun e w' => ∃ u0 : Value, e = .returned (.tuple #[u0, (i64 r.2)]) ∧ Ext w0 w' ∧ Nw w0 u0 ∧ OwK (Sc u8) w' [] 5 u0 r.1) := by
  have hE : Ext w0 w0 := Ext.refl w0
  unfold poly_Vanish at H
  refine calls_W (n := 33) Try.func83 rfl rfl rfl ?_
  refine W_seq ?_
  refine W_reg (by kernel_rfl) ?_
  refine wla rfl rfl (q_assign (v := (.slice none 0 0)) rfl rfl) ?_
  refine wla rfl rfl (q_assign (v := (i64 0)) rfl rfl) ?_
  refine wl_nil ?_
  refine W_th ?_
  refine W_seq ?_
  refine W_block ?_
  refine W_seq ?_
  refine W_reg (by kernel_rfl) ?_
  refine wla rfl rfl (q_move (v := p0) rfl rfl) ?_
  refine wla rfl rfl (q_eqF rfl rfl rfl rfl (hp0.lift (Lift.ext hE _))) ?_
  refine wla rfl rfl (q_assign (v := (.bool ((!a0f)))) rfl rfl) ?_
  refine wl_nil ?_
  refine W_th ?_
  refine W_cond _ rfl rfl (fun hb1 => ?_) (fun hb1 => ?_)
  · replace H := (if_pos hb1).symm.trans H
    refine W_seq ?_
    refine W_reg (by kernel_rfl) ?_
    refine wla rfl rfl (q_assign (v := (.slice none 0 0)) rfl rfl) ?_
    refine wla rfl rfl (q_assign (v := (i64 1)) rfl rfl) ?_
    refine wl_nil ?_
    refine W_th ?_
    refine W_ret ?_
    refine bk_r ?_
    refine th_r ?_
    obtain rfl := Option.some.inj H
    refine rt2 (.slice none 0 0) (i64 1) rfl rfl rfl rfl rfl rfl ?_
    exact ⟨(.slice none 0 0), rfl, hE, Nw.nil _, (OwK.nil _ _ _ _)⟩
  · replace H := (if_neg (ne_true_of_eq_false hb1)).symm.trans H
    refine W_seq ?_
    refine W_reg (by kernel_rfl) ?_
    refine wla rfl rfl (q_move (v := p1) rfl rfl) ?_
    refine wla rfl rfl (q_len rfl T22.sl rfl (hp1.lift (Lift.ext hE _))) ?_
    refine wla rfl rfl (q_gtI rfl rfl rfl) ?_
    refine wla rfl rfl (q_assign (v := (.bool ((decide (255 < (a1xs.length : Int)))))) rfl rfl) ?_
    refine wl_nil ?_
    refine W_th ?_
    refine W_cond _ rfl rfl (fun hb2 => ?_) (fun hb2 => ?_)
    · replace H := (if_pos (of_decide_eq_true hb2)).symm.trans H
      refine W_seq ?_
      refine W_reg (by kernel_rfl) ?_
      refine wla rfl rfl (q_assign (v := (.slice none 0 0)) rfl rfl) ?_
      refine wla rfl rfl (q_assign (v := (i64 4)) rfl rfl) ?_
      refine wl_nil ?_
      refine W_th ?_
      refine W_ret ?_
      refine bk_r ?_
      refine th_r ?_
      obtain rfl := Option.some.inj H
      refine rt2 (.slice none 0 0) (i64 4) rfl rfl rfl rfl rfl rfl ?_
      exact ⟨(.slice none 0 0), rfl, hE, Nw.nil _, (OwK.nil _ _ _ _)⟩
    · replace H := (if_neg (of_decide_eq_false hb2)).symm.trans H
      refine W_skip ?_
      refine bk_n ?_
      refine W_th ?_
      refine W_seq ?_
      refine W_reg (by kernel_rfl) ?_
      refine wls rfl rfl (stp_lit (L := []) (R := (Sc u8)) [(u8 1)] ([(1 : UInt8)] : List UInt8) rfl T22 rfl (by exact ⟨rfl, (cst8 (1 : UInt8) rfl), trivial⟩) rfl (litC u8 (oneC_u8) (us := [(u8 1)]) (l := ([(1 : UInt8)] : List UInt8)) rfl) rfl (litS u8 (us := [(u8 1)]) (l := ([(1 : UInt8)] : List UInt8)) rfl) ?_)
      intro v3 w3 o3 n3 g3 l3
      have x3 := grown_ext g3
      have n5 := Nw.ext hE n3
      have e4 := hE.trans x3
      refine wla rfl rfl (q_assign (v := v3) rfl rfl) ?_
      refine wl_nil ?_
      refine W_th ?_
      refine W_seq ?_
      refine W_seq ?_
      refine W_reg (by kernel_rfl) ?_
      refine wla rfl rfl (q_move (v := p1) rfl rfl) ?_
      refine wla rfl rfl (q_len rfl T22.sl rfl (hp1.lift (Lift.ext e4 _))) ?_
      refine wla rfl rfl (q_move (v := (i64 0)) rfl rfl) ?_
      refine wl_nil ?_
      refine W_th ?_
      obtain ⟨x6, G6, H⟩ := Option.bind_eq_some_iff.1 H
      refine W_mid (fun f w => ∃ v6_18 : Value, f 6 = v6_18 ∧ f 33 = undef ∧ Ext w0 w ∧ OwK (Sc u8) w [v6_18] 5 v6_18 x6 ∧ Nw w0 v6_18) ?_ ?_
      · refine W_block ?_
        refine W_loop (fun s6 f w => ∃ v6_16 : Value, f 0 = p0 ∧ f 6 = v6_16 ∧ f 17 = p1 ∧ f 18 = (i64 ((a1xs.length : Int))) ∧ f 19 = (i64 s6.2) ∧ f 33 = undef ∧ Ext w0 w ∧ OwK (Sc u8) w [v6_16] 5 v6_16 s6.1 ∧ Nw w0 v6_16) G6 ?_ ?_
        · exact ⟨v3, rfl, rfl, rfl, rfl, rfl, rfl, e4, o3, n5⟩
        · rintro s6 _ _ w7 ⟨v6_7, s0_7, s6_7, s17_7, s18_7, s19_7, s33_7, hE7, o0_7, n0_7⟩ H6 hr6
          refine W_seq ?_
          refine W_reg (by kernel_rfl) ?_
          refine wla rfl rfl (q_ltI rfl s19_7 s18_7) ?_
          refine wl_nil ?_
          refine W_th ?_
          refine W_seq ?_
          refine W_cond _ rfl rfl (fun hb8 => ?_) (fun hb8 => ?_)
          · replace H6 := (if_pos (of_decide_eq_true hb8)).symm.trans H6
            refine W_skip ?_
            refine W_th ?_
            refine W_seq ?_
            refine W_block ?_
            refine W_seq ?_
            refine W_reg (by kernel_rfl) ?_
            obtain ⟨c9, hc9, H6⟩ := Option.bind_eq_some_iff.1 H6
            refine wla rfl rfl (q_adr rfl T22 s17_7 s19_7 (hp1.lift (Lift.ext hE7 _)) hc9) ?_
            refine wlq rfl rfl (q_loadS rfl T22 rfl (hp1.lift (Lift.ext hE7 _)) hc9) ?_
            refine wla rfl rfl (q_assign (v := (u8 c9)) rfl rfl) ?_
            refine wl_nil ?_
            refine W_th ?_
            refine W_reg (by kernel_rfl) ?_
            refine wla rfl rfl (q_move (v := p0) rfl s0_7) ?_
            refine wla rfl rfl (q_move (v := v6_7) rfl s6_7) ?_
            refine wla rfl rfl (q_move (v := (u8 c9)) rfl rfl) ?_
            refine wls rfl rfl (stp_lit (L := [v6_7]) (R := (Sc u8)) [(u8 c9), (u8 1)] ([c9, (1 : UInt8)] : List UInt8) rfl T22 rfl (by exact ⟨rfl, rfl, rfl, (cst8 (1 : UInt8) rfl), trivial⟩) rfl (litC u8 (oneC_u8) (us := [(u8 c9), (u8 1)]) (l := ([c9, (1 : UInt8)] : List UInt8)) rfl) rfl (litS u8 (us := [(u8 c9), (u8 1)]) (l := ([c9, (1 : UInt8)] : List UInt8)) rfl) ?_)
            intro v10 w10 o10 n10 g10 l10
            have x10 := grown_ext g10
            have i10 : By w10 [v6_7] v10 (([c9, (1 : UInt8)] : List UInt8)) := OwK.slk (Sc.stab _) _ o10 (fun k hk => (Old.cons (Old.nil _) o0_7.lt) k (n10 k hk)) (fun _ h => h.2)
            replace o0_7 := o0_7.extL (Sc.stab _) x10 (Lift.ext x10 _)
            have e11 := hE7.trans x10
            obtain ⟨r12, hr12, H6⟩ := Option.bind_eq_some_iff.1 H6
            refine wls rfl rfl (stp_call (vs := [p0, v6_7, v10]) Try.func69 rfl rfl rfl (ar3 rfl rfl rfl) (poly_Mul_calls a0f s6.1 ([c9, (1 : UInt8)] : List UInt8) p0 v6_7 v10 r12 _ (hp0.lift (Lift.ext e11 _)) (o0_7.rd (Sc.stab _)) (i10.lift (Lift.sub (fun _ _ => trivial))) hr12) ?_)
            rintro _ w12 ⟨v12_0, rfl, x12, n12_0, o12_0⟩
            refine ⟨_, rfl, ?_⟩
            have o12 : OwK (Sc u8) w12 (v12_0 :: [v6_7]) 5 v12_0 r12.1 := OwK.scal o12_0 _
            have q13 : Nq v6_7 v12_0 := o0_7.nq n12_0
            replace i10 := i10.lift (Lift.call _ x12 n12_0)
            replace o0_7 := o0_7.extL (Sc.stab _) x12 (Lift.call _ x12 n12_0)
            have n15 := Nw.ext e11 n12_0
            have e14 := e11.trans x12
            refine wla rfl rfl (q_move (v := (.tuple #[v12_0, (i64 r12.2)])) rfl rfl) ?_
            refine wla rfl rfl (q_extract rfl rfl rfl) ?_
            refine wla rfl rfl (q_extract rfl rfl rfl) ?_
            refine wla rfl rfl (q_assign (v := v12_0) rfl rfl) ?_
            refine wl_nil ?_
            refine bk_n ?_
            refine W_th ?_
            refine W_reg (by kernel_rfl) ?_
            refine wla rfl rfl (q_addI rfl s19_7 rfl) ?_
            refine wla rfl rfl (q_move (v := (i64 ((wI (s6.2 + 1))))) rfl rfl) ?_
            refine wl_nil ?_
            obtain rfl := Option.some.inj H6
            exact ⟨_, rfl, v12_0, s0_7, rfl, s17_7, s18_7, rfl, s33_7, e14, (o12.weak (Sc.stab _) (fun _ h => ⟨h.1, trivial⟩)), n15⟩
          · replace H6 := (if_neg (of_decide_eq_false hb8)).symm.trans H6
            refine W_exit ?_
            refine th_x ?_
            obtain rfl := Option.some.inj H6
            obtain rfl := hr6 _ rfl
            refine th_x ?_
            refine bk_x ?_
            exact ⟨v6_7, s6_7, s33_7, hE7, o0_7, n0_7⟩
      · rintro _ w17 ⟨v6_17, s6_17, s33_17, hE17, o0_17, n0_17⟩
        refine W_th ?_
        refine W_seq ?_
        refine W_reg (by kernel_rfl) ?_
        refine wla rfl rfl (q_move (v := v6_17) rfl s6_17) ?_
        refine wla rfl rfl (q_assign (v := v6_17) rfl rfl) ?_
        refine wla rfl rfl (q_assign (v := (i64 0)) rfl rfl) ?_
        refine wl_nil ?_
        refine W_th ?_
        refine W_ret ?_
        obtain rfl := Option.some.inj H
        refine rt2 v6_17 (i64 0) rfl rfl rfl rfl rfl s33_17 ?_
        exact ⟨v6_17, rfl, hE17, n0_17, (o0_17.weak (Sc.stab _) (fun _ _ => trivial))⟩

/-! largesse/poly.Eval -/
noncomputable def poly_Eval (a0f : Bool) (a1p : List UInt8) (a2x : UInt8) : Option UInt8 :=
((lim a1p.length).bind fun lim19 =>
((rangeL (fun (s19 : UInt8) (y19 : (Int × UInt8)) =>
((field_Mul a0f s19 a2x).bind fun r22 =>
((field_Add r22 y19.2).bind fun r25 => some r25))) (revI a1p) (0 : UInt8)).bind fun x19 =>
(if (!a0f) = true then some (0 : UInt8)
else some x19)))
set_option maxRecDepth 100000 in
set_option maxHeartbeats 8000000 in
theorem poly_Eval_calls (a0f : Bool) (a1p : List UInt8) (a2x : UInt8) (p0 : Value) (p1 : Value) (r : UInt8) (w0 : World) (hp0 : Fd w0 [] p0 a0f) (hp1 : By w0 [] p1 a1p) (H : poly_Eval a0f a1p a2x = some r) :
    Calls Try.prog 17 [p0, p1, (u8 a2x)].toArray w0 (fun e w' => e = .returned (u8 r) ∧ Ext w0 w') := by
  have hE : Ext w0 w0 := Ext.refl w0
  unfold poly_Eval at H
  refine calls_W (n := 23) Try.func17 rfl rfl rfl ?_
  refine W_seq ?_
  refine W_reg (by kernel_rfl) ?_
  refine wls rfl rfl (stp_boxL (v := p0) (cs := #[p0]) [] rfl rfl (cells_fd (hp0.lift (Lift.ext hE _))) ?_)
  intro g1 w1 o1 n1 g1r l1
  have x1 := grown_ext g1r
  have n3 := Nw.ext hE n1
  have e2 := hE.trans x1
  refine wls rfl rfl (stp_boxL (v := (u8 a2x)) (cs := #[(u8 a2x)]) [(bp g1)] rfl rfl rfl ?_)
  intro g4 w4 o4 n4 g4r l4
  have x4 := grown_ext g4r
  have q5 : Nq (bp g1) (bp g4) := o1.nq n4
  replace o1 := o1.ext x4
  have n7 := Nw.ext e2 n4
  have e6 := e2.trans x4
  refine wla rfl rfl (q_assign (v := (u8 0)) rfl (cst8 (0 : UInt8) rfl)) ?_
  refine wl_nil ?_
  refine W_th ?_
  refine W_seq ?_
  refine W_reg (by kernel_rfl) ?_
  refine wls rfl rfl (stp_allocL (z := (u8 0)) (cs := #[(u8 0)]) [(bp g4), (bp g1)] rfl Try.zeroValue5 rfl ?_)
  intro g8 w8 o8 n8 g8r l8
  have x8 := grown_ext g8r
  have q9 : Nq (bp g4) (bp g8) := o4.nq n8
  have q10 : Nq (bp g1) (bp g8) := o1.nq n8
  replace o4 := o4.ext x8
  replace o1 := o1.ext x8
  have n12 := Nw.ext e6 n8
  have e11 := e6.trans x8
  refine wl_nil ?_
  refine W_th ?_
  refine W_seq ?_
  refine W_seq ?_
  refine W_reg (by kernel_rfl) ?_
  refine wla rfl rfl (q_move (v := p1) rfl rfl) ?_
  refine wls rfl rfl (stp_call (vs := [p1]) Try.func41 rfl rfl rfl (ar1 rfl) (Backward_callsG _ (cells_sl _ _ (hp1.lift (Lift.ext e11 _))) _) ?_)
  rintro _ w13 ⟨g13, rfl, n13, o13, x13⟩
  refine ⟨_, rfl, ?_⟩
  have q14 : Nq (bp g8) (bp g13) := o8.nq n13
  have q15 : Nq (bp g4) (bp g13) := o4.nq n13
  have q16 : Nq (bp g1) (bp g13) := o1.nq n13
  replace o8 := o8.ext x13
  replace o4 := o4.ext x13
  replace o1 := o1.ext x13
  have n18 := Nw.ext e11 n13
  have e17 := e11.trans x13
  refine wl_nil ?_
  refine W_th ?_
  refine W_block ?_
  obtain ⟨lim19, hl19, H⟩ := Option.bind_eq_some_iff.1 H
  obtain ⟨x19, G19, H⟩ := Option.bind_eq_some_iff.1 H
  refine W_rangeS (π := fun x : BwEl (· = a1p) => x.1) (xs := (revI a1p)) (ea := fun x => i64 x.1.1) (eb := fun x => u8 x.1.2) (Rd := RdB (· = a1p) g13 p1) (gf := 75) (lb := #[(bp g13)]) G19 rfl rfl rfl (enters Try.func75 rfl rfl) ((revI_len _).symm) (backward_gen (· = a1p) _ (fun l h => congrArg List.length h) p1 g13 _ ⟨o13, _, rfl, (hp1.lift (Lift.ext e17 _))⟩ (lim_lt hl19)) (fun ys h => bw_exact h) bw_mem (fun _ _ t h => h.tn t) rfl rfl (fun s19 w => Ext w0 w ∧ Blk w g1 27 #[p0] ∧ Nw w0 (bp g1) ∧ Blk w g4 5 #[(u8 a2x)] ∧ Nw w0 (bp g4) ∧ Blk w g8 5 #[(u8 s19)] ∧ Nw w0 (bp g8) ∧ Blk w g13 22 #[p1] ∧ Nw w0 (bp g13) ∧ Nq (bp g1) (bp g4) ∧ Nq (bp g1) (bp g8) ∧ Nq (bp g1) (bp g13) ∧ Nq (bp g4) (bp g8) ∧ Nq (bp g4) (bp g13) ∧ Nq (bp g8) (bp g13)) ?_ ⟨e17, o1, n3, o4, n7, o8, n12, o13, n18, q5, q10, q16, q9, q15, q14⟩ (fun x f => upd (f) 9 (u8 x.1.2)) ?_ ?_ ?_
  · rintro s19 W W' t ⟨hE20, o0_20, n0_20, o1_20, n1_20, o2_20, n2_20, o3_20, n3_20, q0_1_20, q0_2_20, q0_3_20, q1_2_20, q1_3_20, q2_3_20⟩
    exact ⟨(hE20.tn t e17.size), (o0_20.tn t), n0_20, (o1_20.tn t), n1_20, (o2_20.tn t), n2_20, (o3_20.tn t), n3_20, q0_1_20, q0_2_20, q0_3_20, q1_2_20, q1_3_20, q2_3_20⟩
  · intro l x W1 K hK
    refine W_reg (by kernel_rfl) ?_
    refine wla rfl rfl (q_assign (v := u8 x.1.2) rfl rfl) ?_
    refine wl_nil ?_
    exact hK
  · rintro l ⟨y19, hy19⟩ s19 sp19 w21 ⟨hE21, o0_21, n0_21, o1_21, n1_21, o2_21, n2_21, o3_21, n3_21, q0_1_21, q0_2_21, q0_3_21, q1_2_21, q1_3_21, q2_3_21⟩ H19
    have kf19 := KeepsFrom.refl w13.heap.size w21
    refine W_block ?_
    refine W_reg (by kernel_rfl) ?_
    refine wlq rfl rfl (q_loadB (u := p0) rfl Try.isAgg27 rfl o0_21 rfl) ?_
    refine wlq rfl rfl (q_loadB (u := (u8 s19)) rfl Try.isAgg5 rfl o2_21 rfl) ?_
    refine wlq rfl rfl (q_loadB (u := (u8 a2x)) rfl Try.isAgg5 rfl o1_21 rfl) ?_
    obtain ⟨r22, hr22, H19⟩ := Option.bind_eq_some_iff.1 H19
    refine wls rfl rfl (stp_call (vs := [p0, (u8 s19), (u8 a2x)]) Try.func43 rfl rfl rfl (ar3 rfl rfl rfl) (field_Mul_calls a0f s19 a2x p0 r22 _ (hp0.lift (Lift.ext hE21 _)) hr22) ?_)
    rintro _ w22 ⟨rfl, x22⟩
    refine ⟨_, rfl, ?_⟩
    replace o0_21 := o0_21.ext x22
    replace o1_21 := o1_21.ext x22
    replace o2_21 := o2_21.ext x22
    replace o3_21 := o3_21.ext x22
    have k23 := kf19.ext x22
    have e24 := hE21.trans x22
    refine wla rfl rfl (q_move (v := (u8 y19.2)) rfl rfl) ?_
    obtain ⟨r25, hr25, H19⟩ := Option.bind_eq_some_iff.1 H19
    refine wls rfl rfl (stp_call (vs := [(u8 r22), (u8 y19.2)]) Try.func42 rfl rfl rfl (ar2 rfl rfl) (field_Add_calls r22 y19.2  r25 _  hr25) ?_)
    rintro _ w25 ⟨rfl, x25⟩
    refine ⟨_, rfl, ?_⟩
    replace o0_21 := o0_21.ext x25
    replace o1_21 := o1_21.ext x25
    replace o2_21 := o2_21.ext x25
    replace o3_21 := o3_21.ext x25
    have k26 := k23.ext x25
    have e27 := e24.trans x25
    refine wln rfl rfl (stp_storeL (u := (u8 r25)) [(bp g1), (bp g4)] [(bp g13)] rfl Try.sizeOf5 rfl rfl o2_21 rfl ?_)
    intro w28 o28 g28 l28
    have k29 := k26.own g28 o2_21.cl
    replace o0_21 := o0_21.other g28 q0_2_21
    replace o1_21 := o1_21.other g28 q1_2_21
    replace o3_21 := o3_21.other g28 q2_3_21.symm
    have e30 := e27.grown g28 n2_21
    refine wl_nil ?_
    refine bk_n ?_
    obtain rfl := Option.some.inj H19
    exact ⟨k29, ⟨o3_21, _, rfl, (hp1.lift (Lift.ext e30 _))⟩, e30, o0_21, n0_21, o1_21, n1_21, o28, n2_21, o3_21, n3_21, q0_1_21, q0_2_21, q0_3_21, q1_2_21, q1_3_21, q2_3_21⟩
  · intro D19 w31 hD19 ⟨hE31, o0_31, n0_31, o1_31, n1_31, o2_31, n2_31, o3_31, n3_31, q0_1_31, q0_2_31, q0_3_31, q1_2_31, q1_3_31, q2_3_31⟩ hK19
    have hd19 := Nat.le_trans e17.size hD19
    have kd19 := KeepsFrom.refl 0 w31
    refine bk_n ?_
    refine W_th ?_
    refine W_seq ?_
    refine W_seq ?_
    refine W_reg (by kernel_rfl) ?_
    refine wlq rfl rfl (q_loadB (u := p0) rfl Try.isAgg27 rfl o0_31 rfl) ?_
    refine wla rfl rfl (q_eqF rfl rfl rfl rfl (hp0.lift (Lift.ext hE31 _))) ?_
    refine wl_nil ?_
    refine W_th ?_
    refine W_cond _ rfl rfl (fun hb32 => ?_) (fun hb32 => ?_)
    · replace H := (if_pos hb32).symm.trans H
      refine W_seq ?_
      refine W_reg (by kernel_rfl) ?_
      refine wla rfl rfl (q_assign (v := (u8 0)) rfl (cst8 (0 : UInt8) rfl)) ?_
      refine wl_nil ?_
      refine W_th ?_
      refine W_ret ?_
      refine th_r ?_
      obtain rfl := Option.some.inj H
      have hk33 := kd19.same D19 _ (Nat.zero_le _) hK19 rfl
      have t33 := Tn.put hk33 hd19 (.deferred none)
      refine rtm1 (u8 0) rfl rfl rfl rfl hk33 ?_
      exact ⟨rfl, (hE31.tn t33 (Nat.le_refl _))⟩
    · replace H := (if_neg (ne_true_of_eq_false hb32)).symm.trans H
      refine W_skip ?_
      refine W_th ?_
      refine W_seq ?_
      refine W_reg (by kernel_rfl) ?_
      refine wlq rfl rfl (q_loadB (u := (u8 x19)) rfl Try.isAgg5 rfl o2_31 rfl) ?_
      refine wla rfl rfl (q_assign (v := (u8 x19)) rfl rfl) ?_
      refine wl_nil ?_
      refine W_th ?_
      refine W_ret ?_
      obtain rfl := Option.some.inj H
      have hk34 := kd19.same D19 _ (Nat.zero_le _) hK19 rfl
      have t34 := Tn.put hk34 hd19 (.deferred none)
      refine rtm1 (u8 x19) rfl rfl rfl rfl hk34 ?_
      exact ⟨rfl, (hE31.tn t34 (Nat.le_refl _))⟩

end Gk

/- Maps from bytes to bools: made, written, read, counted. No condition. -/


set_option linter.unusedVariables false
set_option linter.unusedSimpArgs false
namespace Gk
open Go Go.RowKit

def mput (m : List (UInt8 × Bool)) (k : UInt8) (v : Bool) : List (UInt8 × Bool) := if k ∈ m.map (·.1) then m.map (fun p => if p.1 = k then (p.1, v) else p) else m ++ [(k, v)]
def mget (m : List (UInt8 × Bool)) (k : UInt8) : Bool := ((m.find? (fun p => p.1 == k)).map (·.2)).getD false
abbrev mp (g : Nat) : Value := .map (some g)
/-- In w, block g is a map with these entries. -/
def Mp (w : World) (g : Nat) (m : List (UInt8 × Bool)) : Prop :=
  ∃ es clock, w.heap[g]? = some (.map es clock) ∧ es.toList.map (fun e => (e.key, e.val)) = m.map (fun p => (u8 p.1, Value.bool p.2)) ∧ (m.map (·.1)).Nodup
theorem Mp.lt {w : World} {g : Nat} {m : List (UInt8 × Bool)} (h : Mp w g m) : g < w.heap.size := by
  obtain ⟨es, c, h, _⟩ := h; exact lt_of_get h
theorem Mp.ltB {w : World} {g : Nat} {m : List (UInt8 × Bool)} (h : Mp w g m) : ∀ k, Hs (mp g) k → k < w.heap.size := fun k e => by
  have e' : g = k := Option.some.inj (hs_map e)
  subst e'; exact h.lt
theorem Mp.ext {w w' : World} {g : Nat} {m : List (UInt8 × Bool)} (h : Mp w g m) (x : Ext w w') : Mp w' g m := by
  have hl := h.lt
  obtain ⟨es, c, h1, h2⟩ := h
  exact ⟨es, c, (x.blk g hl).trans h1, h2⟩
theorem Mp.nq {w : World} {g : Nat} {m : List (UInt8 × Bool)} {v : Value} (h : Mp w g m) (hn : Nw w v) : Nq (mp g) v := fun k hu hv => by
  have := h.ltB k hu; have := hn k hv; omega
theorem Mp.nxt {w : World} {g : Nat} {m : List (UInt8 × Bool)} {v v' : Value} (h : Mp w g m) (hq : Nq (mp g) v) (hn : Nx w v v') : Nq (mp g) v' := fun k hu hv => by
  rcases hn k hv with h1 | h1
  · exact hq k hu h1
  · have := h.ltB k hu; omega
theorem Mp.other {w w' : World} {g : Nat} {m : List (UInt8 × Bool)} {v : Value} (h : Mp w g m) (hg : Gr w w' v) (hq : Nq (mp g) v) : Mp w' g m := by
  have hl := h.lt
  obtain ⟨es, c, h1, h2⟩ := h
  exact ⟨es, c, (hg.block hl (hq g (.inl rfl))).trans h1, h2⟩
theorem Nw.mp (w : World) : Nw w (mp w.heap.size) := fun k e => by
  have e' : w.heap.size = k := Option.some.inj (hs_map e)
  omega
theorem Mp.keys {w : World} {g : Nat} {m : List (UInt8 × Bool)} {es : Array MapEntry} (h : es.toList.map (fun e => (e.key, e.val)) = m.map (fun p => (u8 p.1, Value.bool p.2))) : ∀ x ∈ es.toList, ∃ p ∈ m, x.key = u8 p.1 ∧ x.val = .bool p.2 := by
  intro x hx
  have h1 : (x.key, x.val) ∈ es.toList.map (fun e => (e.key, e.val)) := List.mem_map.2 ⟨x, hx, rfl⟩
  rw [h] at h1
  obtain ⟨p, hp, e⟩ := List.mem_map.1 h1
  simp only [Prod.mk.injEq] at e
  exact ⟨p, hp, e.1.symm, e.2.symm⟩
theorem u8_inj {a b : UInt8} (h : u8 a = u8 b) : a = b := by
  simp only [u8, Value.int.injEq, true_and] at h
  exact UInt8.toNat_inj.1 (by omega)
theorem isKey_u8 (a : UInt8) : MapKept.IsKey (.int .u8) (u8 a) := rfl
/-- The entry at a key. -/
theorem Mp.find {m : List (UInt8 × Bool)} {es : Array MapEntry} (h : es.toList.map (fun e => (e.key, e.val)) = m.map (fun p => (u8 p.1, Value.bool p.2))) (k : UInt8) :
    (Instr.findNow (.int .u8) (u8 k) es.toList 0 = some none ∧ k ∉ m.map (·.1)) ∨ ∃ j e p, Instr.findNow (.int .u8) (u8 k) es.toList 0 = some (some (j, .bool p.2)) ∧ es[j]? = some e ∧ e.key = u8 k ∧ m[j]? = some p ∧ p.1 = k := by
  have hks : ∀ x ∈ es.toList, MapKept.IsKey (.int .u8) x.key := fun x hx => by
    obtain ⟨p, _, e, _⟩ := Mp.keys (w := default) (g := 0) h x hx
    rw [e]; rfl
  rcases MapKept.findNow_spec (isKey_u8 k) es.toList 0 hks with ⟨h1, h2⟩ | ⟨j, e, h1, h2, h3⟩
  · refine .inl ⟨h1, fun hk => ?_⟩
    obtain ⟨p, hp, rfl⟩ := List.mem_map.1 hk
    have h4 : (u8 p.1, Value.bool p.2) ∈ es.toList.map (fun e => (e.key, e.val)) := by rw [h]; exact List.mem_map.2 ⟨p, hp, rfl⟩
    obtain ⟨x, hx, e⟩ := List.mem_map.1 h4
    simp only [Prod.mk.injEq] at e
    exact h2 x hx e.1
  · have h4 := congrArg (·[j]?) h
    simp only [List.getElem?_map, h2, Option.map_some] at h4
    cases hm : m[j]? with
    | none => rw [hm] at h4; cases h4
    | some p =>
      rw [hm] at h4
      simp only [Option.map_some, Option.some.injEq, Prod.mk.injEq] at h4
      refine .inr ⟨j, e, p, ?_, by simpa using h2, h3, hm, ?_⟩
      · rw [h1, h4.2, Nat.zero_add]
      · exact u8_inj (h4.1.symm.trans h3)
theorem nd_inj {m : List (UInt8 × Bool)} (hn : (m.map (·.1)).Nodup) {i j : Nat} {p q : UInt8 × Bool} (hi : m[i]? = some p) (hj : m[j]? = some q) (e : p.1 = q.1) : i = j := by
  obtain ⟨hil, hip⟩ := List.getElem?_eq_some_iff.1 hi
  obtain ⟨hjl, hjq⟩ := List.getElem?_eq_some_iff.1 hj
  have h := List.pairwise_iff_getElem.1 hn
  rcases Nat.lt_trichotomy i j with h1 | h1 | h1
  · exact (h i j (by simpa using hil) (by simpa using hjl) h1 (by simp [hip, hjq, e])).elim
  · exact h1
  · exact (h j i (by simpa using hjl) (by simpa using hil) h1 (by simp [hip, hjq, e])).elim
theorem mput_at {m : List (UInt8 × Bool)} (hn : (m.map (·.1)).Nodup) {j : Nat} {p : UInt8 × Bool} (hj : m[j]? = some p) (v : Bool) : m.map (fun q => if q.1 = p.1 then (q.1, v) else q) = m.set j (p.1, v) := by
  apply List.ext_getElem?
  intro i
  obtain ⟨hjl, hjp⟩ := List.getElem?_eq_some_iff.1 hj
  rw [List.getElem?_map, List.getElem?_set]
  by_cases hij : j = i
  · subst hij
    rw [hj, if_pos rfl, if_pos hjl]; simp
  · rw [if_neg hij]
    cases hi : m[i]? with
    | none => rfl
    | some q =>
      obtain ⟨hil, hiq⟩ := List.getElem?_eq_some_iff.1 hi
      have : q.1 ≠ p.1 := fun e => hij (nd_inj hn hj hi e.symm)
      simp [this]
theorem mput_nodup {m : List (UInt8 × Bool)} (hn : (m.map (·.1)).Nodup) (k : UInt8) (v : Bool) : ((mput m k v).map (·.1)).Nodup := by
  unfold mput
  split
  · rw [List.map_map]
    have : ((fun x : UInt8 × Bool => x.1) ∘ fun p => if p.1 = k then (p.1, v) else p) = (fun x => x.1) := by
      funext p; simp only [Function.comp]; split <;> rfl
    rw [this]; exact hn
  · rename_i hk
    rw [List.map_append, List.nodup_append]
    refine ⟨hn, by simp, ?_⟩
    intro a ha b hb e
    simp only [List.map_cons, List.map_nil, List.mem_singleton] at hb
    subst hb; subst e; exact hk ha

section
variable {P : Program} {f : Nat → Value} {w : World} {o : Oper} {x y z : Operand} {t kt et : TypeId} {g : Nat} {m : List (UInt8 × Bool)} {k : UInt8} {b : Bool}
theorem stp_makeMap (L : List Value) (ho : o.op = .makeMap t none) {K : Value → World → Prop}
    (hk : ∀ g w', Mp w' g [] → Nw w (mp g) → w.grownBy w' none → Lift w w' L (mp g :: L) → K (mp g) w') : Stp P o f w K := by
  have hg := World.grownBy_alloc w (.map #[] 0) none
  refine stp_of_run (w' := w.alloc (.map #[] 0)) (v := mp w.heap.size) ?_ (hk _ _ ⟨#[], 0, alloc_new w _, by simp, by simp⟩ (Nw.mp w) hg (Lift.new L hg (Nw.mp w)))
  simp [execOp, ho, Instr.makeMap, newObj, Sem.run]
theorem putObj_eq {w : World} {r : Nat} {o o' : Obj} (hb : w.heap[r]? = some o) : ({ w with heap := w.heap.setIfInBounds r o' } : World) = w.putObj r o' := rfl
theorem stp_mapUpdate (L1 L2 : List Value) (ho : o.op = .mapUpdate t x y z ∨ o.op = .insert t x y z) (ht : P.underlying t = some (.map kt et)) (hkt : P.underlying kt = some (.int .u8)) (hx : ev f x = mp g) (hy : ev f y = u8 k) (hz : ev f z = .bool b) (h : Mp w g m)
    {K : Value → World → Prop} (hk : ∀ w', Mp w' g (mput m k b) → Gr w w' (mp g) → Lift w w' (L1 ++ mp g :: L2) (L1 ++ mp g :: L2) → K undef w') : Stp P o f w K := by
  obtain ⟨es, c, hb, he, hn⟩ := h
  have key : ∀ es' c', es'.toList.map (fun e => (e.key, e.val)) = (mput m k b).map (fun p => (u8 p.1, Value.bool p.2)) → (Instr.mapUpdate t (mp g) (u8 k) (.bool b)).run P w = .ok () (w.putObj g (.map es' c')) → Stp P o f w K := by
    intro es' c' he' hr
    have hg := grownBy_putObj' w g (.map es' c')
    refine stp_of_skip (w' := w.putObj g (.map es' c')) ?_ (hk _ ⟨es', c', World.putObj_heap_same (lt_of_get hb), he', mput_nodup hn k b⟩ (Gr.of hg) (Lift.own L1 L2 (Gr.of hg) (Nx.refl _ _)))
    rcases ho with ho | ho
    · simp only [execOp, ho, hx, hy, hz, Sem.run_bind, hr, Result.andThen_ok]
      rfl
    · simp only [execOp, ho, hx, hy, hz, Sem.run_bind, hr, Result.andThen_ok]
      rfl
  rcases Mp.find he k with ⟨h1, h2⟩ | ⟨j, e, p, h1, h2, h3, h4, h5⟩
  · refine key (es.push { key := u8 k, val := .bool b, born := c }) (c + 1) ?_ ?_
    · unfold mput
      rw [if_neg h2]
      simp only [Array.toList_push, List.map_append, he, List.map_cons, List.map_nil]
    · simp [Instr.mapUpdate, run_underlying ht, MapKept.run_getObj_map hb, MapKept.run_checkKey hkt (isKey_u8 k), MapKept.run_findKey hkt h1, MapKept.run_setObj_map _ hb, Result.andThen, World.putObj]
  · subst h5
    refine key (es.modify j fun e => { e with key := u8 p.1, val := .bool b }) c ?_ ?_
    · unfold mput
      rw [if_pos (List.mem_map.2 ⟨p, List.mem_of_getElem? h4, rfl⟩), mput_at hn h4]
      apply List.ext_getElem?
      intro i
      have hi := congrArg (·[i]?) he
      simp only [List.getElem?_map, Array.getElem?_toList] at hi
      simp only [List.getElem?_map, Array.getElem?_toList, Array.getElem?_modify, List.getElem?_set]
      by_cases hij : j = i
      · subst hij
        obtain ⟨hl, _⟩ := List.getElem?_eq_some_iff.1 h4
        simp [h2, hl]
      · simp only [if_neg hij]; exact hi
    · simp [Instr.mapUpdate, run_underlying ht, MapKept.run_getObj_map hb, MapKept.run_checkKey hkt (isKey_u8 p.1), MapKept.run_findKey hkt h1, h2, h3, MapKept.run_keyThatStays (isKey_u8 p.1), MapKept.run_setObj_map _ hb, Result.andThen, World.putObj]
theorem q_lenMap (ho : o.op = .call ⟨.builtin .len, #[x], #[t]⟩) (ht : P.underlying t = some (.map kt et)) (hx : ev f x = mp g) (h : Mp w g m) : Qt P o f w (i64 (m.length : Int)) := by
  intro w' hE
  obtain ⟨es, c, hb, he, _⟩ := h.ext hE
  have hl : es.size = m.length := by have := congrArg List.length he; simpa using this
  rw [exec_builtin _ ho]
  simp [builtin, Builtin.len_, run_underlying ht, hx, MapKept.run_getObj_map hb, Result.andThen, goInt, hl, i64]
theorem q_lookup (ho : o.op = .lookup t x y false) (ht : P.underlying t = some (.map kt et)) (hkt : P.underlying kt = some (.int .u8)) (hz : ∀ w, (zeroValue et).run P w = .ok (.bool false) w) (hx : ev f x = mp g) (hy : ev f y = u8 k) (h : Mp w g m) : Qt P o f w (.bool (mget m k)) := by
  intro w' hE
  obtain ⟨es, c, hb, he, hn⟩ := h.ext hE
  rcases Mp.find he k with ⟨h1, h2⟩ | ⟨j, e, p, h1, h2, h3, h4, h5⟩
  · have : mget m k = false := by
      unfold mget
      rw [List.find?_eq_none.2 (fun q hq e => h2 (List.mem_map.2 ⟨q, hq, by simpa using e⟩))]; rfl
    rw [this]
    simp [execOp, ho, hx, hy, Instr.lookup, run_underlying ht, MapKept.run_getObj_map hb, MapKept.run_checkKey hkt (isKey_u8 k), MapKept.run_findKey hkt h1, hz, Result.andThen]
  · subst h5
    have : mget m p.1 = p.2 := by
      unfold mget
      have hex : ∃ q ∈ m, (q.1 == p.1) = true := ⟨p, List.mem_of_getElem? h4, by simp⟩
      cases hf : m.find? (fun q => q.1 == p.1) with
      | none => exact absurd hf (by rw [List.find?_eq_none]; intro hh; exact hh p (List.mem_of_getElem? h4) (by simp))
      | some q =>
        have hq1 : q.1 = p.1 := by simpa using List.find?_some hf
        have hqm := List.mem_of_find?_eq_some hf
        obtain ⟨i, hi⟩ := List.getElem?_of_mem hqm
        have : q = p := by
          by_cases hij : i = j
          · subst hij; rw [h4] at hi; exact (Option.some.inj hi).symm
          · exact absurd (nd_inj hn hi h4 hq1) hij
        rw [this]; rfl
    rw [this]
    simp [execOp, ho, hx, hy, Instr.lookup, run_underlying ht, MapKept.run_getObj_map hb, MapKept.run_checkKey hkt (isKey_u8 p.1), MapKept.run_findKey hkt h1, Result.andThen]
end
end Gk

/- Printed by gen.py: for each Go function a pure function, and that the Go code comes to it. No condition beside the equation that says what the pure function gives. -/


set_option linter.unusedVariables false
set_option linter.unusedSimpArgs false
namespace Gk
open Go Go.Proofs

/-! largesse/poly.DivMod -/
noncomputable def poly_DivMod (a0f : Bool) (a1p : List UInt8) (a2q : List UInt8) : Option (List UInt8 × List UInt8 × Int) :=
((poly_Trim a2q).bind fun r8 =>
(if (!a0f) = true then some (([] : List UInt8), ([] : List UInt8), 1)
else
(if (r8.length : Int) = 0 then some (([] : List UInt8), ([] : List UInt8), 7)
else
((((idx r8 ((wI ((r8.length : Int) - 1)))).bind fun c17 =>
((field_Inv a0f c17).bind fun r18 => some r18.1))).bind fun x14 =>
((slices_Clone_sbytebyte a1p).bind fun r28 =>
((makeL ((if 0 < (wI ((wI ((a1p.length : Int) - (r8.length : Int))) + 1)) then (wI ((wI ((a1p.length : Int) - (r8.length : Int))) + 1)) else 0)) (0 : UInt8)).bind fun c43 =>
((lim c43.length).bind fun lim72 =>
((rangeL (fun (s72 : List UInt8 × List UInt8) (y72 : Int) =>
((idx s72.1 ((wI ((wI (y72 + (r8.length : Int))) - 1)))).bind fun c78 =>
((field_Mul a0f c78 x14).bind fun r79 =>
((idx s72.2 y72).bind fun c82 =>
((subL s72.1 y72 ((s72.1.length : Int))).bind fun c89 =>
((subL s72.1 y72 ((wI (y72 + (r8.length : Int))))).bind fun c90 =>
((field_Sum a0f c90 r79 r8).bind fun r91 => some ((copyL s72.1 y72 r91), (s72.2.set (y72 : Int).toNat r79))))))))) (revN c43.length) (r28, c43)).bind fun x72 =>
((poly_Trim x72.2).bind fun r101 =>
((poly_Trim x72.1).bind fun r113 => some (r101, r113, 0)))))))))))
set_option maxRecDepth 100000 in
set_option maxHeartbeats 8000000 in
theorem poly_DivMod_calls (a0f : Bool) (a1p : List UInt8) (a2q : List UInt8) (p0 : Value) (p1 : Value) (p2 : Value) (r : List UInt8 × List UInt8 × Int) (w0 : World) (hp0 : Fd w0 [] p0 a0f) (hp1 : By w0 [] p1 a1p) (hp2 : By w0 [] p2 a2q) (H : poly_DivMod a0f a1p a2q = some r) :
    Calls Try.prog 85 [p0, p1, p2].toArray w0 (fun e w' => ∃ u0 u1 : Value, e = .returned (.tuple #[u0, u1, (i64 r.2.2)]) ∧ Ext w0 w' ∧ Nw w0 u0 ∧ OwK (Sc u8) w' [] 5 u0 r.1 ∧ Nw w0 u1 ∧ OwK (Sc u8) w' [] 5 u1 r.2.1) := by
  have hE : Ext w0 w0 := Ext.refl w0
  unfold poly_DivMod at H
  refine calls_W (n := 81) Try.func85 rfl rfl rfl ?_
  refine W_seq ?_
  refine W_reg (by kernel_rfl) ?_
  refine wls rfl rfl (stp_boxL (v := p0) (cs := #[p0]) [] rfl rfl (cells_fd (hp0.lift (Lift.ext hE _))) ?_)
  intro g1 w1 o1 n1 g1r l1
  have x1 := grown_ext g1r
  have n3 := Nw.ext hE n1
  have e2 := hE.trans x1
  refine wls rfl rfl (stp_boxL (v := p2) (cs := #[p2]) [(bp g1)] rfl rfl (cells_sl _ _ (hp2.lift (Lift.ext e2 _))) ?_)
  intro g4 w4 o4 n4 g4r l4
  have x4 := grown_ext g4r
  have q5 : Nq (bp g1) (bp g4) := o1.nq n4
  replace o1 := o1.ext x4
  have n7 := Nw.ext e2 n4
  have e6 := e2.trans x4
  refine wla rfl rfl (q_assign (v := (.slice none 0 0)) rfl rfl) ?_
  refine wla rfl rfl (q_assign (v := (.slice none 0 0)) rfl rfl) ?_
  refine wla rfl rfl (q_assign (v := (i64 0)) rfl rfl) ?_
  refine wl_nil ?_
  refine W_th ?_
  refine W_seq ?_
  refine W_reg (by kernel_rfl) ?_
  refine wlq rfl rfl (q_loadB (u := p2) rfl Try.isAgg22 rfl o4 rfl) ?_
  obtain ⟨r8, hr8, H⟩ := Option.bind_eq_some_iff.1 H
  refine wls rfl rfl (stp_call (vs := [p2]) Try.func16 rfl rfl rfl (ar1 rfl) (poly_Trim_calls a2q p2 r8 _ (hp2.lift (Lift.ext e6 _)) hr8) ?_)
  rintro _ w8 ⟨v8, rfl, x8, n8_0, o8_0⟩
  refine ⟨_, rfl, ?_⟩
  have i8_0 : By w8 [(bp g4), (bp g1)] v8 r8 := OwK.slk (Sc.stab _) _ (OwK.scal o8_0 (v8 :: [(bp g4), (bp g1)])) (fun k hk => (Old.cons (Old.cons (Old.nil _) o1.ltB) o4.ltB) k (n8_0 k hk)) (fun _ h => h.2)
  replace o4 := o4.ext x8
  replace o1 := o1.ext x8
  have e9 := e6.trans x8
  refine wln rfl rfl (stp_storeL (u := v8) [] [(bp g1)] rfl Try.sizeOf22 rfl rfl o4 (oc_sl _ _ _ _ i8_0) ?_)
  intro w10 o10 g10 l10
  replace i8_0 := i8_0.lift l10
  replace o1 := o1.other g10 q5
  have e11 := e9.grown g10 n7
  refine wl_nil ?_
  refine W_th ?_
  refine W_seq ?_
  refine W_seq ?_
  refine W_reg (by kernel_rfl) ?_
  refine wlq rfl rfl (q_loadB (u := p0) rfl Try.isAgg27 rfl o1 rfl) ?_
  refine wla rfl rfl (q_eqF rfl rfl rfl rfl (hp0.lift (Lift.ext e11 _))) ?_
  refine wl_nil ?_
  refine W_th ?_
  refine W_cond _ rfl rfl (fun hb12 => ?_) (fun hb12 => ?_)
  · replace H := (if_pos hb12).symm.trans H
    refine W_seq ?_
    refine W_reg (by kernel_rfl) ?_
    refine wla rfl rfl (q_assign (v := (.slice none 0 0)) rfl rfl) ?_
    refine wla rfl rfl (q_assign (v := (.slice none 0 0)) rfl rfl) ?_
    refine wla rfl rfl (q_assign (v := (i64 1)) rfl rfl) ?_
    refine wl_nil ?_
    refine W_th ?_
    refine W_ret ?_
    refine th_r ?_
    obtain rfl := Option.some.inj H
    refine rt3 (.slice none 0 0) (.slice none 0 0) (i64 1) rfl rfl rfl rfl rfl rfl rfl rfl ?_
    exact ⟨(.slice none 0 0), (.slice none 0 0), rfl, e11, Nw.nil _, (OwK.nil _ _ _ _), Nw.nil _, (OwK.nil _ _ _ _)⟩
  · replace H := (if_neg (ne_true_of_eq_false hb12)).symm.trans H
    refine W_skip ?_
    refine W_th ?_
    refine W_seq ?_
    refine W_seq ?_
    refine W_reg (by kernel_rfl) ?_
    refine wlq rfl rfl (q_loadB (u := v8) rfl Try.isAgg22 rfl o10 rfl) ?_
    refine wla rfl rfl (q_len rfl T22.sl rfl i8_0) ?_
    refine wla rfl rfl (q_eqI rfl rfl rfl) ?_
    refine wl_nil ?_
    refine W_th ?_
    refine W_cond _ rfl rfl (fun hb13 => ?_) (fun hb13 => ?_)
    · replace H := (if_pos (of_decide_eq_true hb13)).symm.trans H
      refine W_seq ?_
      refine W_reg (by kernel_rfl) ?_
      refine wla rfl rfl (q_assign (v := (.slice none 0 0)) rfl rfl) ?_
      refine wla rfl rfl (q_assign (v := (.slice none 0 0)) rfl rfl) ?_
      refine wla rfl rfl (q_assign (v := (i64 7)) rfl rfl) ?_
      refine wl_nil ?_
      refine W_th ?_
      refine W_ret ?_
      refine th_r ?_
      obtain rfl := Option.some.inj H
      refine rt3 (.slice none 0 0) (.slice none 0 0) (i64 7) rfl rfl rfl rfl rfl rfl rfl rfl ?_
      exact ⟨(.slice none 0 0), (.slice none 0 0), rfl, e11, Nw.nil _, (OwK.nil _ _ _ _), Nw.nil _, (OwK.nil _ _ _ _)⟩
    · replace H := (if_neg (of_decide_eq_false hb13)).symm.trans H
      refine W_skip ?_
      refine W_th ?_
      refine W_seq ?_
      obtain ⟨x14, H14, H⟩ := Option.bind_eq_some_iff.1 H
      refine W_mid (fun f w => ∃ g9_128 : Nat, f 1 = p1 ∧ f 3 = (bp g1) ∧ f 5 = (bp g4) ∧ f 9 = (bp g9_128) ∧ f 81 = undef ∧ Ext w0 w ∧ Blk w g1 27 #[p0] ∧ Nw w0 (bp g1) ∧ Blk w g4 22 #[v8] ∧ Nw w0 (bp g4) ∧ Blk w g9_128 5 #[(u8 x14)] ∧ Nw w0 (bp g9_128) ∧ Nq (bp g1) (bp g4) ∧ Nq (bp g1) (bp g9_128) ∧ Nq (bp g4) (bp g9_128) ∧ By w [(bp g1), (bp g4), (bp g9_128)] v8 r8) ?_ ?_
      · refine W_draw2 [0, 1, 2, 6] [(0, 1), (1, 1), (2, 1), (3, 0), (4, 0), (5, 0), (6, 1)] 7 11 [(8, 0), (9, 0), (10, 0), (11, 2), (12, 2), (13, 0)] [(7, 2), (8, 0), (9, 0), (10, 0), (12, 2), (13, 0)] mixed (by kernel_rfl) (by kernel_rfl) (by kernel_rfl) (by kernel_rfl) ?_
        have x15 := Ext.drew w10
        replace i8_0 := i8_0.lift (Lift.ext x15 _)
        replace o10 := o10.ext x15
        replace o1 := o1.ext x15
        have e16 := e11.trans x15
        refine wsq rfl rfl rfl (q_loadB (u := p0) rfl Try.isAgg27 rfl o1 rfl) ?_
        refine wsq rfl rfl rfl (q_loadB (u := v8) rfl Try.isAgg22 rfl o10 rfl) ?_
        refine wsq rfl rfl rfl (q_loadB (u := v8) rfl Try.isAgg22 rfl o10 rfl) ?_
        refine wsa rfl rfl rfl (q_len rfl T22.sl rfl i8_0) ?_
        refine wsa rfl rfl rfl (q_subI rfl rfl rfl) ?_
        obtain ⟨c17, hc17, H14⟩ := Option.bind_eq_some_iff.1 H14
        refine wsa rfl rfl rfl (q_adr rfl T22 rfl rfl i8_0 hc17) ?_
        refine wsq rfl rfl rfl (q_loadS rfl T22 rfl i8_0 hc17) ?_
        refine ws_nil ⟨?_, ?_⟩
        · obtain ⟨r18, hr18, H14⟩ := Option.bind_eq_some_iff.1 H14
          refine wsc rfl (by kernel_rfl) rfl rfl (stp_call (vs := [p0, (u8 c17)]) Try.func66 rfl rfl rfl (ar2 rfl rfl) (field_Inv_calls a0f c17 p0 r18 _ (hp0.lift (Lift.ext e16 _)) hr18) ?_)
          rintro _ w18 ⟨rfl, x18⟩
          refine ⟨_, rfl, ?_⟩
          replace i8_0 := i8_0.lift (Lift.ext x18 _)
          replace o10 := o10.ext x18
          replace o1 := o1.ext x18
          have e19 := e16.trans x18
          refine wsa rfl rfl rfl (q_move (v := (.tuple #[(u8 r18.1), (i64 r18.2)])) rfl rfl) ?_
          refine wsa rfl rfl rfl (q_extract rfl rfl rfl) ?_
          refine wsa rfl rfl rfl (q_extract rfl rfl rfl) ?_
          refine wss rfl rfl rfl (stp_allocL (z := (u8 0)) (cs := #[(u8 0)]) [(bp g4), (bp g1)] rfl Try.zeroValue5 rfl ?_)
          intro g20 w20 o20 n20 g20r l20
          refine ⟨grown_ext g20r, ?_⟩
          have x20 := grown_ext g20r
          have q21 : Nq (bp g4) (bp g20) := o10.nq n20
          have q22 : Nq (bp g1) (bp g20) := o1.nq n20
          replace i8_0 := i8_0.lift (Lift.call _ x20 n20)
          replace o10 := o10.ext x20
          replace o1 := o1.ext x20
          have n24 := Nw.ext e19 n20
          have e23 := e19.trans x20
          refine wsn rfl (by kernel_rfl) rfl rfl (stp_storeL (u := (u8 r18.1)) [] [(bp g4), (bp g1)] rfl Try.sizeOf5 rfl rfl o20 rfl ?_)
          intro w25 o25 g25 l25
          replace i8_0 := i8_0.lift l25
          replace o10 := o10.other g25 q21
          replace o1 := o1.other g25 q22
          have e26 := e23.grown g25 n24
          refine wsa rfl rfl rfl (q_assign (v := (i64 r18.2)) rfl rfl) ?_
          refine ws_nil ?_
          obtain rfl := Option.some.inj H14
          exact ⟨g20, rfl, rfl, rfl, rfl, rfl, e26, o1, n3, o10, n7, o25, n24, q5, q22, q21, (i8_0.lift (Lift.sub (fun _ h => ⟨h.2.2.1, h.2.1, h.1, trivial⟩)))⟩
        · refine wss rfl rfl rfl (stp_allocL (z := (u8 0)) (cs := #[(u8 0)]) [(bp g4), (bp g1)] rfl Try.zeroValue5 rfl ?_)
          intro g18 w18 o18 n18 g18r l18
          refine ⟨grown_ext g18r, ?_⟩
          have x18 := grown_ext g18r
          have q19 : Nq (bp g4) (bp g18) := o10.nq n18
          have q20 : Nq (bp g1) (bp g18) := o1.nq n18
          replace i8_0 := i8_0.lift (Lift.call _ x18 n18)
          replace o10 := o10.ext x18
          replace o1 := o1.ext x18
          have n22 := Nw.ext e16 n18
          have e21 := e16.trans x18
          obtain ⟨r23, hr23, H14⟩ := Option.bind_eq_some_iff.1 H14
          refine wsc rfl (by kernel_rfl) rfl rfl (stp_call (vs := [p0, (u8 c17)]) Try.func66 rfl rfl rfl (ar2 rfl rfl) (field_Inv_calls a0f c17 p0 r23 _ (hp0.lift (Lift.ext e21 _)) hr23) ?_)
          rintro _ w23 ⟨rfl, x23⟩
          refine ⟨_, rfl, ?_⟩
          replace i8_0 := i8_0.lift (Lift.ext x23 _)
          replace o18 := o18.ext x23
          replace o10 := o10.ext x23
          replace o1 := o1.ext x23
          have e24 := e21.trans x23
          refine wsa rfl rfl rfl (q_move (v := (.tuple #[(u8 r23.1), (i64 r23.2)])) rfl rfl) ?_
          refine wsa rfl rfl rfl (q_extract rfl rfl rfl) ?_
          refine wsa rfl rfl rfl (q_extract rfl rfl rfl) ?_
          refine wsn rfl (by kernel_rfl) rfl rfl (stp_storeL (u := (u8 r23.1)) [] [(bp g4), (bp g1)] rfl Try.sizeOf5 rfl rfl o18 rfl ?_)
          intro w25 o25 g25 l25
          replace i8_0 := i8_0.lift l25
          replace o10 := o10.other g25 q19
          replace o1 := o1.other g25 q20
          have e26 := e24.grown g25 n22
          refine wsa rfl rfl rfl (q_assign (v := (i64 r23.2)) rfl rfl) ?_
          refine ws_nil ?_
          obtain rfl := Option.some.inj H14
          exact ⟨g18, rfl, rfl, rfl, rfl, rfl, e26, o1, n3, o10, n7, o25, n22, q5, q20, q19, (i8_0.lift (Lift.sub (fun _ h => ⟨h.2.2.1, h.2.1, h.1, trivial⟩)))⟩
      · rintro _ w27 ⟨g9_27, s1_27, s3_27, s5_27, s9_27, s81_27, hE27, o0_27, n0_27, o1_27, n1_27, o2_27, n2_27, q0_1_27, q0_2_27, q1_2_27, i0_27⟩
        refine W_th ?_
        refine W_seq ?_
        refine W_reg (by kernel_rfl) ?_
        refine wla rfl rfl (q_move (v := p1) rfl s1_27) ?_
        obtain ⟨r28, hr28, H⟩ := Option.bind_eq_some_iff.1 H
        refine wls rfl rfl (stp_call (vs := [p1]) Try.func39 rfl rfl rfl (ar1 rfl) (slices_Clone_sbytebyte_calls a1p p1 r28 _ (hp1.lift (Lift.ext hE27 _)) hr28) ?_)
        rintro _ w28 ⟨v28, rfl, x28, n28_0, o28_0⟩
        refine ⟨_, rfl, ?_⟩
        have o28 : OwK (Sc u8) w28 (v28 :: [(bp g1), (bp g4), (bp g9_27)]) 5 v28 r28 := OwK.scal o28_0 _
        have q29 : Nq (bp g1) v28 := o0_27.nq n28_0
        have q30 : Nq (bp g4) v28 := o1_27.nq n28_0
        have q31 : Nq (bp g9_27) v28 := o2_27.nq n28_0
        replace i0_27 := i0_27.lift (Lift.call _ x28 n28_0)
        replace o0_27 := o0_27.ext x28
        replace o1_27 := o1_27.ext x28
        replace o2_27 := o2_27.ext x28
        have n33 := Nw.ext hE27 n28_0
        have e32 := hE27.trans x28
        refine wls rfl rfl (stp_allocL (z := (.slice none 0 0)) (cs := #[(.slice none 0 0)]) [v28, (bp g1), (bp g4), (bp g9_27)] rfl Try.zeroValue22 rfl ?_)
        intro g34 w34 o34 n34 g34r l34
        have x34 := grown_ext g34r
        have q35 : Nq v28 (bp g34) := o28.nq n34
        have q36 : Nq (bp g1) (bp g34) := o0_27.nq n34
        have q37 : Nq (bp g4) (bp g34) := o1_27.nq n34
        have q38 : Nq (bp g9_27) (bp g34) := o2_27.nq n34
        replace i0_27 := i0_27.lift (Lift.call _ x34 n34)
        replace o28 := o28.extL (Sc.stab _) x34 (Lift.call _ x34 n34)
        replace o0_27 := o0_27.ext x34
        replace o1_27 := o1_27.ext x34
        replace o2_27 := o2_27.ext x34
        have n40 := Nw.ext e32 n34
        have e39 := e32.trans x34
        refine wln rfl rfl (stp_storeL (u := v28) [] [v28, (bp g1), (bp g4), (bp g9_27)] rfl Try.sizeOf22 rfl rfl o34 (oc_own o28) ?_)
        intro w41 o41 g41 l41
        replace i0_27 := i0_27.lift l41
        replace o28 := o28.other (Sc.stab _) g41 q35 l41
        replace o0_27 := o0_27.other g41 q36
        replace o1_27 := o1_27.other g41 q37
        replace o2_27 := o2_27.other g41 q38
        have e42 := e39.grown g41 n40
        refine wl_nil ?_
        refine W_th ?_
        refine W_seq ?_
        refine W_reg (by kernel_rfl) ?_
        refine wla rfl rfl (q_move (v := p1) rfl s1_27) ?_
        refine wla rfl rfl (q_len rfl T22.sl rfl (hp1.lift (Lift.ext e42 _))) ?_
        refine wlq rfl rfl (q_loadB (u := v8) rfl Try.isAgg22 s5_27 o1_27 rfl) ?_
        refine wla rfl rfl (q_len rfl T22.sl rfl i0_27) ?_
        refine wla rfl rfl (q_subI rfl rfl rfl) ?_
        refine wla rfl rfl (q_addI rfl rfl rfl) ?_
        refine wla rfl rfl (q_maxI rfl rfl rfl) ?_
        obtain ⟨c43, hc43, H⟩ := Option.bind_eq_some_iff.1 H
        refine wls rfl rfl (stp_make (L := [(bp g34), v28, (bp g1), (bp g4), (bp g9_27)]) (R := (Sc u8)) rfl T22 rfl rfl hc43 (fun _ _ => rfl) ?_)
        intro v43 w43 o43 n43 g43 l43
        have x43 := grown_ext g43
        have q44 : Nq (bp g34) v43 := o41.nq n43
        have q45 : Nq v28 v43 := o28.nq n43
        have q46 : Nq (bp g1) v43 := o0_27.nq n43
        have q47 : Nq (bp g4) v43 := o1_27.nq n43
        have q48 : Nq (bp g9_27) v43 := o2_27.nq n43
        replace i0_27 := i0_27.lift (Lift.call _ x43 n43)
        replace o41 := o41.ext x43
        replace o28 := o28.extL (Sc.stab _) x43 (Lift.call _ x43 n43)
        replace o0_27 := o0_27.ext x43
        replace o1_27 := o1_27.ext x43
        replace o2_27 := o2_27.ext x43
        have n50 := Nw.ext e42 n43
        have e49 := e42.trans x43
        refine wls rfl rfl (stp_allocL (z := (.slice none 0 0)) (cs := #[(.slice none 0 0)]) [v43, (bp g34), v28, (bp g1), (bp g4), (bp g9_27)] rfl Try.zeroValue22 rfl ?_)
        intro g51 w51 o51 n51 g51r l51
        have x51 := grown_ext g51r
        have q52 : Nq v43 (bp g51) := o43.nq n51
        have q53 : Nq (bp g34) (bp g51) := o41.nq n51
        have q54 : Nq v28 (bp g51) := o28.nq n51
        have q55 : Nq (bp g1) (bp g51) := o0_27.nq n51
        have q56 : Nq (bp g4) (bp g51) := o1_27.nq n51
        have q57 : Nq (bp g9_27) (bp g51) := o2_27.nq n51
        replace i0_27 := i0_27.lift (Lift.call _ x51 n51)
        replace o43 := o43.extL (Sc.stab _) x51 (Lift.call _ x51 n51)
        replace o41 := o41.ext x51
        replace o28 := o28.extL (Sc.stab _) x51 (Lift.call _ x51 n51)
        replace o0_27 := o0_27.ext x51
        replace o1_27 := o1_27.ext x51
        replace o2_27 := o2_27.ext x51
        have n59 := Nw.ext e49 n51
        have e58 := e49.trans x51
        refine wln rfl rfl (stp_storeL (u := v43) [] [v43, (bp g34), v28, (bp g1), (bp g4), (bp g9_27)] rfl Try.sizeOf22 rfl rfl o51 (oc_own o43) ?_)
        intro w60 o60 g60 l60
        replace i0_27 := i0_27.lift l60
        replace o43 := o43.other (Sc.stab _) g60 q52 l60
        replace o41 := o41.other g60 q53
        replace o28 := o28.other (Sc.stab _) g60 q54 l60
        replace o0_27 := o0_27.other g60 q55
        replace o1_27 := o1_27.other g60 q56
        replace o2_27 := o2_27.other g60 q57
        have e61 := e58.grown g60 n59
        refine wl_nil ?_
        refine W_th ?_
        refine W_seq ?_
        refine W_seq ?_
        refine W_reg (by kernel_rfl) ?_
        refine wlq rfl rfl (q_loadB (u := v43) rfl Try.isAgg22 rfl o60 rfl) ?_
        refine wls rfl rfl (stp_call (vs := [v43]) Try.func41 rfl rfl rfl (ar1 rfl) (Backward_callsG _ (cells_own o43) _) ?_)
        rintro _ w62 ⟨g62, rfl, n62, o62, x62⟩
        refine ⟨_, rfl, ?_⟩
        have q63 : Nq (bp g51) (bp g62) := o60.nq n62
        have q64 : Nq v43 (bp g62) := o43.nq n62
        have q65 : Nq (bp g34) (bp g62) := o41.nq n62
        have q66 : Nq v28 (bp g62) := o28.nq n62
        have q67 : Nq (bp g1) (bp g62) := o0_27.nq n62
        have q68 : Nq (bp g4) (bp g62) := o1_27.nq n62
        have q69 : Nq (bp g9_27) (bp g62) := o2_27.nq n62
        replace i0_27 := i0_27.lift (Lift.call _ x62 n62)
        replace o60 := o60.ext x62
        replace o43 := o43.extL (Sc.stab _) x62 (Lift.call _ x62 n62)
        replace o41 := o41.ext x62
        replace o28 := o28.extL (Sc.stab _) x62 (Lift.call _ x62 n62)
        replace o0_27 := o0_27.ext x62
        replace o1_27 := o1_27.ext x62
        replace o2_27 := o2_27.ext x62
        have n71 := Nw.ext e61 n62
        have e70 := e61.trans x62
        refine wl_nil ?_
        refine W_th ?_
        refine W_block ?_
        obtain ⟨lim72, hl72, H⟩ := Option.bind_eq_some_iff.1 H
        obtain ⟨x72, G72, H⟩ := Option.bind_eq_some_iff.1 H
        refine W_rangeS (π := fun x : BwEl (fun l => l.length = c43.length) => x.1.1) (xs := (revN c43.length)) (ea := fun x => i64 x.1.1) (eb := fun x => u8 x.1.2) (Rd := RdB (fun l => l.length = c43.length) g62 v43) (gf := 75) (lb := #[(bp g62)]) G72 s81_27 rfl rfl (enters Try.func75 rfl rfl) ((revN_len _).symm) (backward_gen (fun l => l.length = c43.length) _ (fun _ h => h) v43 g62 _ ⟨o62, _, rfl, (o43.rd (Sc.stab _))⟩ (lim_lt hl72)) (fun ys h => h) bw_memN (fun _ _ t h => h.tn t) rfl rfl (fun s72 w => Ext w0 w ∧ OwK (Sc u8) w [v28, v43, (bp g1), (bp g4), (bp g9_27), (bp g34), (bp g51), (bp g62)] 5 v28 s72.1 ∧ Nw w0 v28 ∧ OwK (Sc u8) w [v28, v43, (bp g1), (bp g4), (bp g9_27), (bp g34), (bp g51), (bp g62)] 5 v43 s72.2 ∧ Nw w0 v43 ∧ Blk w g1 27 #[p0] ∧ Nw w0 (bp g1) ∧ Blk w g4 22 #[v8] ∧ Nw w0 (bp g4) ∧ Blk w g9_27 5 #[(u8 x14)] ∧ Nw w0 (bp g9_27) ∧ Blk w g34 22 #[v28] ∧ Nw w0 (bp g34) ∧ Blk w g51 22 #[v43] ∧ Nw w0 (bp g51) ∧ Blk w g62 22 #[v43] ∧ Nw w0 (bp g62) ∧ Nq v28 v43 ∧ Nq v28 (bp g1) ∧ Nq v28 (bp g4) ∧ Nq v28 (bp g9_27) ∧ Nq v28 (bp g34) ∧ Nq v28 (bp g51) ∧ Nq v28 (bp g62) ∧ Nq v43 (bp g1) ∧ Nq v43 (bp g4) ∧ Nq v43 (bp g9_27) ∧ Nq v43 (bp g34) ∧ Nq v43 (bp g51) ∧ Nq v43 (bp g62) ∧ Nq (bp g1) (bp g4) ∧ Nq (bp g1) (bp g9_27) ∧ Nq (bp g1) (bp g34) ∧ Nq (bp g1) (bp g51) ∧ Nq (bp g1) (bp g62) ∧ Nq (bp g4) (bp g9_27) ∧ Nq (bp g4) (bp g34) ∧ Nq (bp g4) (bp g51) ∧ Nq (bp g4) (bp g62) ∧ Nq (bp g9_27) (bp g34) ∧ Nq (bp g9_27) (bp g51) ∧ Nq (bp g9_27) (bp g62) ∧ Nq (bp g34) (bp g51) ∧ Nq (bp g34) (bp g62) ∧ Nq (bp g51) (bp g62) ∧ By w [v28, v43, (bp g1), (bp g4), (bp g9_27), (bp g34), (bp g51), (bp g62)] v8 r8 ∧ (s72.2).length = c43.length) ?_ ⟨e70, (o28.weak (Sc.stab _) (fun _ h => ⟨h.2.2.2.2.1, h.2.2.1, h.2.2.2.2.2.1, h.2.2.2.2.2.2.1, h.2.2.2.2.2.2.2.1, h.2.2.2.1, h.2.1, h.1, trivial⟩)), n33, (o43.weak (Sc.stab _) (fun _ h => ⟨h.2.2.2.2.1, h.2.2.1, h.2.2.2.2.2.1, h.2.2.2.2.2.2.1, h.2.2.2.2.2.2.2.1, h.2.2.2.1, h.2.1, h.1, trivial⟩)), n50, o0_27, n0_27, o1_27, n1_27, o2_27, n2_27, o41, n40, o60, n59, o62, n71, q45, q29.symm, q30.symm, q31.symm, q35, q54, q66, q46.symm, q47.symm, q48.symm, q44.symm, q52, q64, q0_1_27, q0_2_27, q36, q55, q67, q1_2_27, q37, q56, q68, q38, q57, q69, q53, q65, q63, (i0_27.lift (Lift.sub (fun _ h => ⟨h.2.2.2.2.1, h.2.2.1, h.2.2.2.2.2.1, h.2.2.2.2.2.2.1, h.2.2.2.2.2.2.2.1, h.2.2.2.1, h.2.1, h.1, trivial⟩))), rfl⟩ (fun x f => upd (f) 13 (i64 x.1.1)) ?_ ?_ ?_
        · rintro s72 W W' t ⟨hE73, o0_73, n0_73, o1_73, n1_73, o2_73, n2_73, o3_73, n3_73, o4_73, n4_73, o5_73, n5_73, o6_73, n6_73, o7_73, n7_73, q0_1_73, q0_2_73, q0_3_73, q0_4_73, q0_5_73, q0_6_73, q0_7_73, q1_2_73, q1_3_73, q1_4_73, q1_5_73, q1_6_73, q1_7_73, q2_3_73, q2_4_73, q2_5_73, q2_6_73, q2_7_73, q3_4_73, q3_5_73, q3_6_73, q3_7_73, q4_5_73, q4_6_73, q4_7_73, q5_6_73, q5_7_73, q6_7_73, i0_73, xt0_73⟩
          exact ⟨(hE73.tn t e70.size), (o0_73.tn (Sc.stab _) t), n0_73, (o1_73.tn (Sc.stab _) t), n1_73, (o2_73.tn t), n2_73, (o3_73.tn t), n3_73, (o4_73.tn t), n4_73, (o5_73.tn t), n5_73, (o6_73.tn t), n6_73, (o7_73.tn t), n7_73, q0_1_73, q0_2_73, q0_3_73, q0_4_73, q0_5_73, q0_6_73, q0_7_73, q1_2_73, q1_3_73, q1_4_73, q1_5_73, q1_6_73, q1_7_73, q2_3_73, q2_4_73, q2_5_73, q2_6_73, q2_7_73, q3_4_73, q3_5_73, q3_6_73, q3_7_73, q4_5_73, q4_6_73, q4_7_73, q5_6_73, q5_7_73, q6_7_73, (i0_73.lift (t.lift _)), xt0_73⟩
        · intro l x W1 K hK
          refine W_reg (by kernel_rfl) ?_
          refine wla rfl rfl (q_assign (v := i64 x.1.1) rfl rfl) ?_
          refine wl_nil ?_
          exact hK
        · rintro l ⟨⟨y72, z72⟩, hy72⟩ s72 sp72 w74 ⟨hE74, o0_74, n0_74, o1_74, n1_74, o2_74, n2_74, o3_74, n3_74, o4_74, n4_74, o5_74, n5_74, o6_74, n6_74, o7_74, n7_74, q0_1_74, q0_2_74, q0_3_74, q0_4_74, q0_5_74, q0_6_74, q0_7_74, q1_2_74, q1_3_74, q1_4_74, q1_5_74, q1_6_74, q1_7_74, q2_3_74, q2_4_74, q2_5_74, q2_6_74, q2_7_74, q3_4_74, q3_5_74, q3_6_74, q3_7_74, q4_5_74, q4_6_74, q4_7_74, q5_6_74, q5_7_74, q6_7_74, i0_74, xt0_74⟩ H72
          have kf72 := KeepsFrom.refl w62.heap.size w74
          refine W_block ?_
          refine W_seq ?_
          refine W_draw [0, 1, 3, 8, 9] [(0, 1), (1, 1), (2, 0), (3, 1), (4, 0), (5, 0), (6, 0), (7, 0), (8, 1), (9, 1), (10, 2), (11, 0)] mixed (by kernel_rfl) (by kernel_rfl) (by kernel_rfl) (by kernel_rfl) ?_
          have x75 := Ext.drew w74
          replace i0_74 := i0_74.lift (Lift.ext x75 _)
          replace o0_74 := o0_74.extL (Sc.stab _) x75 (Lift.ext x75 _)
          replace o1_74 := o1_74.extL (Sc.stab _) x75 (Lift.ext x75 _)
          replace o2_74 := o2_74.ext x75
          replace o3_74 := o3_74.ext x75
          replace o4_74 := o4_74.ext x75
          replace o5_74 := o5_74.ext x75
          replace o6_74 := o6_74.ext x75
          replace o7_74 := o7_74.ext x75
          have k76 := kf72.ext x75
          have e77 := hE74.trans x75
          refine wsq rfl rfl rfl (q_loadB (u := p0) rfl Try.isAgg27 s3_27 o2_74 rfl) ?_
          refine wsq rfl rfl rfl (q_loadB (u := v28) rfl Try.isAgg22 rfl o5_74 rfl) ?_
          refine wsa rfl rfl rfl (q_move (v := (i64 y72)) rfl rfl) ?_
          refine wsq rfl rfl rfl (q_loadB (u := v8) rfl Try.isAgg22 s5_27 o3_74 rfl) ?_
          refine wsa rfl rfl rfl (q_len rfl T22.sl rfl i0_74) ?_
          refine wsa rfl rfl rfl (q_addI rfl rfl rfl) ?_
          refine wsa rfl rfl rfl (q_subI rfl rfl rfl) ?_
          obtain ⟨c78, hc78, H72⟩ := Option.bind_eq_some_iff.1 H72
          refine wsa rfl rfl rfl (q_adr rfl T22 rfl rfl (o0_74.rd (Sc.stab _)) hc78) ?_
          refine wsq rfl rfl rfl (q_loadS rfl T22 rfl (o0_74.rd (Sc.stab _)) hc78) ?_
          refine wsq rfl rfl rfl (q_loadB (u := (u8 x14)) rfl Try.isAgg5 s9_27 o4_74 rfl) ?_
          obtain ⟨r79, hr79, H72⟩ := Option.bind_eq_some_iff.1 H72
          refine wsc rfl (by kernel_rfl) rfl rfl (stp_call (vs := [p0, (u8 c78), (u8 x14)]) Try.func43 rfl rfl rfl (ar3 rfl rfl rfl) (field_Mul_calls a0f c78 x14 p0 r79 _ (hp0.lift (Lift.ext e77 _)) hr79) ?_)
          rintro _ w79 ⟨rfl, x79⟩
          refine ⟨_, rfl, ?_⟩
          replace i0_74 := i0_74.lift (Lift.ext x79 _)
          replace o0_74 := o0_74.extL (Sc.stab _) x79 (Lift.ext x79 _)
          replace o1_74 := o1_74.extL (Sc.stab _) x79 (Lift.ext x79 _)
          replace o2_74 := o2_74.ext x79
          replace o3_74 := o3_74.ext x79
          replace o4_74 := o4_74.ext x79
          replace o5_74 := o5_74.ext x79
          replace o6_74 := o6_74.ext x79
          replace o7_74 := o7_74.ext x79
          have k80 := k76.ext x79
          have e81 := e77.trans x79
          refine wsa rfl rfl rfl (q_assign (v := (u8 r79)) rfl rfl) ?_
          refine ws_nil ?_
          refine W_th ?_
          refine W_seq ?_
          refine W_reg (by kernel_rfl) ?_
          refine wlq rfl rfl (q_loadB (u := v43) rfl Try.isAgg22 rfl o6_74 rfl) ?_
          refine wla rfl rfl (q_move (v := (i64 y72)) rfl rfl) ?_
          refine wla rfl rfl (q_move (v := (u8 r79)) rfl rfl) ?_
          obtain ⟨c82, hc82, H72⟩ := Option.bind_eq_some_iff.1 H72
          refine wla rfl rfl (q_adr rfl T22 rfl rfl (o1_74.rd (Sc.stab _)) hc82) ?_
          refine wln rfl rfl (stp_store (R := (Sc u8)) (u := (u8 r79)) (Sc.stab _) [v28] [(bp g1), (bp g4), (bp g9_27), (bp g34), (bp g51), (bp g62)] rfl T22 rfl rfl o1_74 (put_of r79 hc82) rfl rfl ?_)
          intro w83 o83 g83 l83
          have k84 := k80.own g83 o1_74.cl
          replace i0_74 := i0_74.lift l83
          replace o0_74 := o0_74.other (Sc.stab _) g83 q0_1_74 l83
          replace o2_74 := o2_74.other g83 q1_2_74.symm
          replace o3_74 := o3_74.other g83 q1_3_74.symm
          replace o4_74 := o4_74.other g83 q1_4_74.symm
          replace o5_74 := o5_74.other g83 q1_5_74.symm
          replace o6_74 := o6_74.other g83 q1_6_74.symm
          replace o7_74 := o7_74.other g83 q1_7_74.symm
          have e85 := e81.grown g83 n1_74
          refine wl_nil ?_
          refine W_th ?_
          refine W_draw [0, 3, 4, 7, 12] [(0, 1), (1, 0), (2, 0), (3, 1), (4, 1), (5, 0), (6, 0), (7, 1), (8, 0), (9, 0), (10, 0), (11, 0), (12, 1), (13, 2), (14, 2)] mixed (by kernel_rfl) (by kernel_rfl) (by kernel_rfl) (by kernel_rfl) ?_
          have x86 := Ext.drew w83
          replace i0_74 := i0_74.lift (Lift.ext x86 _)
          replace o0_74 := o0_74.extL (Sc.stab _) x86 (Lift.ext x86 _)
          replace o83 := o83.extL (Sc.stab _) x86 (Lift.ext x86 _)
          replace o2_74 := o2_74.ext x86
          replace o3_74 := o3_74.ext x86
          replace o4_74 := o4_74.ext x86
          replace o5_74 := o5_74.ext x86
          replace o6_74 := o6_74.ext x86
          replace o7_74 := o7_74.ext x86
          have k87 := k84.ext x86
          have e88 := e85.trans x86
          refine wsq rfl rfl rfl (q_loadB (u := v28) rfl Try.isAgg22 rfl o5_74 rfl) ?_
          refine wsa rfl rfl rfl (q_move (v := (i64 y72)) rfl rfl) ?_
          obtain ⟨c89, hc89, H72⟩ := Option.bind_eq_some_iff.1 H72
          refine wsa rfl rfl rfl (q_slice (a := y72) (b := (s72.1.length : Int)) rfl T22 rfl (o0_74.rd (Sc.stab _)) rfl rfl hc89) ?_
          refine wsq rfl rfl rfl (q_loadB (u := p0) rfl Try.isAgg27 s3_27 o2_74 rfl) ?_
          refine wsq rfl rfl rfl (q_loadB (u := v28) rfl Try.isAgg22 rfl o5_74 rfl) ?_
          refine wsa rfl rfl rfl (q_move (v := (i64 y72)) rfl rfl) ?_
          refine wsa rfl rfl rfl (q_move (v := (i64 y72)) rfl rfl) ?_
          refine wsq rfl rfl rfl (q_loadB (u := v8) rfl Try.isAgg22 s5_27 o3_74 rfl) ?_
          refine wsa rfl rfl rfl (q_len rfl T22.sl rfl i0_74) ?_
          refine wsa rfl rfl rfl (q_addI rfl rfl rfl) ?_
          obtain ⟨c90, hc90, H72⟩ := Option.bind_eq_some_iff.1 H72
          refine wsa rfl rfl rfl (q_slice (a := y72) (b := (wI (y72 + (r8.length : Int)))) rfl T22 rfl (o0_74.rd (Sc.stab _)) rfl rfl hc90) ?_
          refine wsa rfl rfl rfl (q_move (v := (u8 r79)) rfl rfl) ?_
          refine wsq rfl rfl rfl (q_loadB (u := v8) rfl Try.isAgg22 s5_27 o3_74 rfl) ?_
          obtain ⟨r91, hr91, H72⟩ := Option.bind_eq_some_iff.1 H72
          refine wss rfl rfl rfl (stp_call (vs := [p0, (subV v28 (y72 : Int).toNat ((wI (y72 + (r8.length : Int))) : Int).toNat), (u8 r79), v8]) Try.func50 rfl rfl rfl (ar4 rfl rfl rfl rfl) (field_Sum_calls a0f c90 r79 r8 p0 (subV v28 (y72 : Int).toNat ((wI (y72 + (r8.length : Int))) : Int).toNat) v8 r91 _ (hp0.lift (Lift.ext e88 _)) (SlK.cut (L := []) (o0_74.rd (Sc.stab _)) hc90) (i0_74.lift (Lift.sub (fun _ _ => trivial))) hr91) ?_)
          rintro _ w91 ⟨v91, rfl, x91, n91_0, o91_0⟩
          refine ⟨_, rfl, x91, ?_⟩
          have i91_0 : By w91 [v28, v43, (bp g1), (bp g4), (bp g9_27), (bp g34), (bp g51), (bp g62)] v91 r91 := OwK.slk (Sc.stab _) _ (OwK.scal o91_0 (v91 :: [v28, v43, (bp g1), (bp g4), (bp g9_27), (bp g34), (bp g51), (bp g62)])) (fun k hk => (Old.cons (Old.cons (Old.cons (Old.cons (Old.cons (Old.cons (Old.cons (Old.cons (Old.nil _) o7_74.ltB) o6_74.ltB) o5_74.ltB) o4_74.ltB) o3_74.ltB) o2_74.ltB) o83.lt) o0_74.lt) k (n91_0 k hk)) (fun _ h => h.2)
          replace i0_74 := i0_74.lift (Lift.ext x91 _)
          replace o0_74 := o0_74.extL (Sc.stab _) x91 (Lift.ext x91 _)
          replace o83 := o83.extL (Sc.stab _) x91 (Lift.ext x91 _)
          replace o2_74 := o2_74.ext x91
          replace o3_74 := o3_74.ext x91
          replace o4_74 := o4_74.ext x91
          replace o5_74 := o5_74.ext x91
          replace o6_74 := o6_74.ext x91
          replace o7_74 := o7_74.ext x91
          have k92 := k87.ext x91
          have e93 := e88.trans x91
          refine wsc rfl (by kernel_rfl) rfl rfl (stp_copy (R := (Sc u8)) (off := y72) (dv := (subV v28 (y72 : Int).toNat ((s72.1.length : Int) : Int).toNat)) (u := v91) (Sc.stab _) [] [v43, (bp g1), (bp g4), (bp g9_27), (bp g34), (bp g51), (bp g62)] rfl T22 rfl rfl o0_74 rfl (subL_some.1 hc89).1.1 (subL_lo hc89) i91_0 (fun _ _ h => h) oc_u8 ?_)
          intro w94 o94 g94 l94
          have k95 := k92.own g94 o0_74.cl
          replace i0_74 := i0_74.lift l94
          replace i91_0 := i91_0.lift l94
          replace o83 := o83.other (Sc.stab _) g94 q0_1_74.symm l94
          replace o2_74 := o2_74.other g94 q0_2_74.symm
          replace o3_74 := o3_74.other g94 q0_3_74.symm
          replace o4_74 := o4_74.other g94 q0_4_74.symm
          replace o5_74 := o5_74.other g94 q0_5_74.symm
          replace o6_74 := o6_74.other g94 q0_6_74.symm
          replace o7_74 := o7_74.other g94 q0_7_74.symm
          have e96 := e93.grown g94 n0_74
          refine ws_nil ?_
          refine bk_n ?_
          obtain rfl := Option.some.inj H72
          exact ⟨k95, ⟨o7_74, _, (by simpa using xt0_74), (o83.rd (Sc.stab _))⟩, e96, o94, n0_74, o83, n1_74, o2_74, n2_74, o3_74, n3_74, o4_74, n4_74, o5_74, n5_74, o6_74, n6_74, o7_74, n7_74, q0_1_74, q0_2_74, q0_3_74, q0_4_74, q0_5_74, q0_6_74, q0_7_74, q1_2_74, q1_3_74, q1_4_74, q1_5_74, q1_6_74, q1_7_74, q2_3_74, q2_4_74, q2_5_74, q2_6_74, q2_7_74, q3_4_74, q3_5_74, q3_6_74, q3_7_74, q4_5_74, q4_6_74, q4_7_74, q5_6_74, q5_7_74, q6_7_74, i0_74, (by simpa using xt0_74)⟩
        · intro D72 w97 hD72 ⟨hE97, o0_97, n0_97, o1_97, n1_97, o2_97, n2_97, o3_97, n3_97, o4_97, n4_97, o5_97, n5_97, o6_97, n6_97, o7_97, n7_97, q0_1_97, q0_2_97, q0_3_97, q0_4_97, q0_5_97, q0_6_97, q0_7_97, q1_2_97, q1_3_97, q1_4_97, q1_5_97, q1_6_97, q1_7_97, q2_3_97, q2_4_97, q2_5_97, q2_6_97, q2_7_97, q3_4_97, q3_5_97, q3_6_97, q3_7_97, q4_5_97, q4_6_97, q4_7_97, q5_6_97, q5_7_97, q6_7_97, i0_97, xt0_97⟩ hK72
          have hd72 := Nat.le_trans e70.size hD72
          have kd72 := KeepsFrom.refl 0 w97
          refine bk_n ?_
          refine W_th ?_
          refine W_seq ?_
          refine W_draw [0, 2] [(0, 1), (2, 1), (1, 2), (3, 2), (4, 0), (5, 0), (6, 0)] mixed (by kernel_rfl) (by kernel_rfl) (by kernel_rfl) (by kernel_rfl) ?_
          have x98 := Ext.drew w97
          replace i0_97 := i0_97.lift (Lift.ext x98 _)
          replace o0_97 := o0_97.extL (Sc.stab _) x98 (Lift.ext x98 _)
          replace o1_97 := o1_97.extL (Sc.stab _) x98 (Lift.ext x98 _)
          replace o2_97 := o2_97.ext x98
          replace o3_97 := o3_97.ext x98
          replace o4_97 := o4_97.ext x98
          replace o5_97 := o5_97.ext x98
          replace o6_97 := o6_97.ext x98
          replace o7_97 := o7_97.ext x98
          have k99 := kd72.ext x98
          have e100 := hE97.trans x98
          refine wsq rfl rfl rfl (q_loadB (u := v43) rfl Try.isAgg22 rfl o6_97 rfl) ?_
          refine wsq rfl rfl rfl (q_loadB (u := v28) rfl Try.isAgg22 rfl o5_97 rfl) ?_
          obtain ⟨r101, hr101, H⟩ := Option.bind_eq_some_iff.1 H
          refine wss rfl rfl rfl (stp_call (vs := [v43]) Try.func16 rfl rfl rfl (ar1 rfl) (poly_Trim_calls x72.2 v43 r101 _ (o1_97.rd (Sc.stab _)) hr101) ?_)
          rintro _ w101 ⟨v101, rfl, x101, n101_0, o101_0⟩
          refine ⟨_, rfl, x101, ?_⟩
          have o101 : OwK (Sc u8) w101 (v101 :: [v28, v43, (bp g1), (bp g4), (bp g9_27), (bp g34), (bp g51), (bp g62)]) 5 v101 r101 := OwK.scal o101_0 _
          have q102 : Nq v28 v101 := o0_97.nq n101_0
          have q103 : Nq v43 v101 := o1_97.nq n101_0
          have q104 : Nq (bp g1) v101 := o2_97.nq n101_0
          have q105 : Nq (bp g4) v101 := o3_97.nq n101_0
          have q106 : Nq (bp g9_27) v101 := o4_97.nq n101_0
          have q107 : Nq (bp g34) v101 := o5_97.nq n101_0
          have q108 : Nq (bp g51) v101 := o6_97.nq n101_0
          have q109 : Nq (bp g62) v101 := o7_97.nq n101_0
          replace i0_97 := i0_97.lift (Lift.call _ x101 n101_0)
          replace o0_97 := o0_97.extL (Sc.stab _) x101 (Lift.call _ x101 n101_0)
          replace o1_97 := o1_97.extL (Sc.stab _) x101 (Lift.call _ x101 n101_0)
          replace o2_97 := o2_97.ext x101
          replace o3_97 := o3_97.ext x101
          replace o4_97 := o4_97.ext x101
          replace o5_97 := o5_97.ext x101
          replace o6_97 := o6_97.ext x101
          replace o7_97 := o7_97.ext x101
          have k110 := k99.ext x101
          have n112 := Nw.ext e100 n101_0
          have e111 := e100.trans x101
          obtain ⟨r113, hr113, H⟩ := Option.bind_eq_some_iff.1 H
          refine wsc rfl (by kernel_rfl) rfl rfl (stp_call (vs := [v28]) Try.func16 rfl rfl rfl (ar1 rfl) (poly_Trim_calls x72.1 v28 r113 _ (o0_97.rd (Sc.stab _)) hr113) ?_)
          rintro _ w113 ⟨v113, rfl, x113, n113_0, o113_0⟩
          refine ⟨_, rfl, ?_⟩
          have o113 : OwK (Sc u8) w113 (v113 :: [v101, v28, v43, (bp g1), (bp g4), (bp g9_27), (bp g34), (bp g51), (bp g62)]) 5 v113 r113 := OwK.scal o113_0 _
          have q114 : Nq v101 v113 := o101.nq n113_0
          have q115 : Nq v28 v113 := o0_97.nq n113_0
          have q116 : Nq v43 v113 := o1_97.nq n113_0
          have q117 : Nq (bp g1) v113 := o2_97.nq n113_0
          have q118 : Nq (bp g4) v113 := o3_97.nq n113_0
          have q119 : Nq (bp g9_27) v113 := o4_97.nq n113_0
          have q120 : Nq (bp g34) v113 := o5_97.nq n113_0
          have q121 : Nq (bp g51) v113 := o6_97.nq n113_0
          have q122 : Nq (bp g62) v113 := o7_97.nq n113_0
          replace i0_97 := i0_97.lift (Lift.call _ x113 n113_0)
          replace o101 := o101.extL (Sc.stab _) x113 (Lift.call _ x113 n113_0)
          replace o0_97 := o0_97.extL (Sc.stab _) x113 (Lift.call _ x113 n113_0)
          replace o1_97 := o1_97.extL (Sc.stab _) x113 (Lift.call _ x113 n113_0)
          replace o2_97 := o2_97.ext x113
          replace o3_97 := o3_97.ext x113
          replace o4_97 := o4_97.ext x113
          replace o5_97 := o5_97.ext x113
          replace o6_97 := o6_97.ext x113
          replace o7_97 := o7_97.ext x113
          have k123 := k110.ext x113
          have n125 := Nw.ext e111 n113_0
          have e124 := e111.trans x113
          refine wsa rfl rfl rfl (q_assign (v := v101) rfl rfl) ?_
          refine wsa rfl rfl rfl (q_assign (v := v113) rfl rfl) ?_
          refine wsa rfl rfl rfl (q_assign (v := (i64 0)) rfl rfl) ?_
          refine ws_nil ?_
          refine W_th ?_
          refine W_ret ?_
          obtain rfl := Option.some.inj H
          have hk126 := k123.same D72 _ (Nat.zero_le _) hK72 rfl
          have t126 := Tn.put hk126 hd72 (.deferred none)
          refine rtm3 v101 v113 (i64 0) rfl rfl rfl rfl rfl rfl rfl rfl hk126 ?_
          exact ⟨v101, v113, rfl, (e124.tn t126 (Nat.le_refl _)), n112, ((o101.tn (Sc.stab _) t126).weak (Sc.stab _) (fun _ _ => trivial)), n125, ((o113.tn (Sc.stab _) t126).weak (Sc.stab _) (fun _ _ => trivial))⟩

/-! largesse/poly.check -/
noncomputable def poly_check (a0f : Bool) (a1xs : List UInt8) : Option Int :=
((iterC (fun s4 : (List (UInt8 × Bool)) × Int =>
(if s4.2 < (a1xs.length : Int) then
((idx a1xs s4.2).bind fun c7 => some (.inl ((mput s4.1 c7 true), (wI (s4.2 + 1)))))
else some (.inr s4.1))) (([] : List (UInt8 × Bool)), 0)).bind fun x4 =>
(if (!a0f) = true then some 1
else
(if (a1xs.length : Int) = 0 then some 5
else
(if 255 < (a1xs.length : Int) then some 4
else
(if (x4.length : Int) = (a1xs.length : Int) then some 0
else some 6)))))
set_option maxRecDepth 100000 in
set_option maxHeartbeats 8000000 in
theorem poly_check_calls (a0f : Bool) (a1xs : List UInt8) (p0 : Value) (p1 : Value) (r : Int) (w0 : World) (hp0 : Fd w0 [] p0 a0f) (hp1 : By w0 [] p1 a1xs) (H : poly_check a0f a1xs = some r) :
    Calls Try.prog 77 [p0, p1].toArray w0 (fun e w' => e = .returned (i64 r) ∧ Ext w0 w') := by
  have hE : Ext w0 w0 := Ext.refl w0
  unfold poly_check at H
  refine calls_W (n := 35) Try.func77 rfl rfl rfl ?_
  refine W_seq ?_
  refine W_reg (by kernel_rfl) ?_
  refine wla rfl rfl (q_assign (v := (i64 0)) rfl rfl) ?_
  refine wl_nil ?_
  refine W_th ?_
  refine W_seq ?_
  refine W_reg (by kernel_rfl) ?_
  refine wls rfl rfl (stp_makeMap [] rfl ?_)
  intro g1 w1 o1 n1 g1r l1
  have x1 := grown_ext g1r
  have n3 := Nw.ext hE n1
  have e2 := hE.trans x1
  refine wla rfl rfl (q_assign (v := (mp g1)) rfl rfl) ?_
  refine wl_nil ?_
  refine W_th ?_
  refine W_seq ?_
  refine W_seq ?_
  refine W_reg (by kernel_rfl) ?_
  refine wla rfl rfl (q_move (v := p1) rfl rfl) ?_
  refine wla rfl rfl (q_len rfl T22.sl rfl (hp1.lift (Lift.ext e2 _))) ?_
  refine wla rfl rfl (q_move (v := (i64 0)) rfl rfl) ?_
  refine wl_nil ?_
  refine W_th ?_
  obtain ⟨x4, G4, H⟩ := Option.bind_eq_some_iff.1 H
  refine W_mid (fun f w => f 0 = p0 ∧ f 1 = p1 ∧ f 5 = (mp g1) ∧ f 35 = undef ∧ Ext w0 w ∧ Mp w g1 x4 ∧ Nw w0 (mp g1)) ?_ ?_
  · refine W_block ?_
    refine W_loop (fun s4 f w => f 0 = p0 ∧ f 1 = p1 ∧ f 5 = (mp g1) ∧ f 9 = p1 ∧ f 10 = (i64 ((a1xs.length : Int))) ∧ f 11 = (i64 s4.2) ∧ f 35 = undef ∧ Ext w0 w ∧ Mp w g1 s4.1 ∧ Nw w0 (mp g1)) G4 ?_ ?_
    · exact ⟨rfl, rfl, rfl, rfl, rfl, rfl, rfl, e2, o1, n3⟩
    · rintro s4 _ _ w5 ⟨s0_5, s1_5, s5_5, s9_5, s10_5, s11_5, s35_5, hE5, o0_5, n0_5⟩ H4 hr4
      refine W_seq ?_
      refine W_reg (by kernel_rfl) ?_
      refine wla rfl rfl (q_ltI rfl s11_5 s10_5) ?_
      refine wl_nil ?_
      refine W_th ?_
      refine W_seq ?_
      refine W_cond _ rfl rfl (fun hb6 => ?_) (fun hb6 => ?_)
      · replace H4 := (if_pos (of_decide_eq_true hb6)).symm.trans H4
        refine W_skip ?_
        refine W_th ?_
        refine W_seq ?_
        refine W_block ?_
        refine W_seq ?_
        refine W_reg (by kernel_rfl) ?_
        obtain ⟨c7, hc7, H4⟩ := Option.bind_eq_some_iff.1 H4
        refine wla rfl rfl (q_adr rfl T22 s9_5 s11_5 (hp1.lift (Lift.ext hE5 _)) hc7) ?_
        refine wlq rfl rfl (q_loadS rfl T22 rfl (hp1.lift (Lift.ext hE5 _)) hc7) ?_
        refine wla rfl rfl (q_assign (v := (u8 c7)) rfl rfl) ?_
        refine wl_nil ?_
        refine W_th ?_
        refine W_reg (by kernel_rfl) ?_
        refine wla rfl rfl (q_move (v := (mp g1)) rfl s5_5) ?_
        refine wla rfl rfl (q_move (v := (u8 c7)) rfl rfl) ?_
        refine wln rfl rfl (stp_mapUpdate [] [] (.inl rfl) Try.underlying72 Try.underlying5 rfl rfl rfl o0_5 ?_)
        intro w8 o8 g8 l8
        have e9 := hE5.grown g8 n0_5
        refine wl_nil ?_
        refine bk_n ?_
        refine W_th ?_
        refine W_reg (by kernel_rfl) ?_
        refine wla rfl rfl (q_addI rfl s11_5 rfl) ?_
        refine wla rfl rfl (q_move (v := (i64 ((wI (s4.2 + 1))))) rfl rfl) ?_
        refine wl_nil ?_
        obtain rfl := Option.some.inj H4
        exact ⟨_, rfl, s0_5, s1_5, s5_5, s9_5, s10_5, rfl, s35_5, e9, o8, n0_5⟩
      · replace H4 := (if_neg (of_decide_eq_false hb6)).symm.trans H4
        refine W_exit ?_
        refine th_x ?_
        obtain rfl := Option.some.inj H4
        obtain rfl := hr4 _ rfl
        refine th_x ?_
        refine bk_x ?_
        exact ⟨s0_5, s1_5, s5_5, s35_5, hE5, o0_5, n0_5⟩
  · rintro _ w11 ⟨s0_11, s1_11, s5_11, s35_11, hE11, o0_11, n0_11⟩
    refine W_th ?_
    refine W_seq ?_
    refine W_block ?_
    refine W_seq ?_
    refine W_reg (by kernel_rfl) ?_
    refine wla rfl rfl (q_move (v := p0) rfl s0_11) ?_
    refine wla rfl rfl (q_eqF rfl rfl rfl rfl (hp0.lift (Lift.ext hE11 _))) ?_
    refine wla rfl rfl (q_assign (v := (.bool ((!a0f)))) rfl rfl) ?_
    refine wl_nil ?_
    refine W_th ?_
    refine W_cond _ rfl rfl (fun hb12 => ?_) (fun hb12 => ?_)
    · replace H := (if_pos hb12).symm.trans H
      refine W_seq ?_
      refine W_reg (by kernel_rfl) ?_
      refine wla rfl rfl (q_assign (v := (i64 1)) rfl rfl) ?_
      refine wl_nil ?_
      refine W_th ?_
      refine W_ret ?_
      refine bk_r ?_
      refine th_r ?_
      obtain rfl := Option.some.inj H
      refine rt1 (i64 1) rfl rfl rfl s35_11 ?_
      exact ⟨rfl, hE11⟩
    · replace H := (if_neg (ne_true_of_eq_false hb12)).symm.trans H
      refine W_seq ?_
      refine W_reg (by kernel_rfl) ?_
      refine wla rfl rfl (q_move (v := p1) rfl s1_11) ?_
      refine wla rfl rfl (q_len rfl T22.sl rfl (hp1.lift (Lift.ext hE11 _))) ?_
      refine wla rfl rfl (q_eqI rfl rfl rfl) ?_
      refine wla rfl rfl (q_assign (v := (.bool ((decide ((a1xs.length : Int) = 0))))) rfl rfl) ?_
      refine wl_nil ?_
      refine W_th ?_
      refine W_cond _ rfl rfl (fun hb13 => ?_) (fun hb13 => ?_)
      · replace H := (if_pos (of_decide_eq_true hb13)).symm.trans H
        refine W_seq ?_
        refine W_reg (by kernel_rfl) ?_
        refine wla rfl rfl (q_assign (v := (i64 5)) rfl rfl) ?_
        refine wl_nil ?_
        refine W_th ?_
        refine W_ret ?_
        refine bk_r ?_
        refine th_r ?_
        obtain rfl := Option.some.inj H
        refine rt1 (i64 5) rfl rfl rfl s35_11 ?_
        exact ⟨rfl, hE11⟩
      · replace H := (if_neg (of_decide_eq_false hb13)).symm.trans H
        refine W_seq ?_
        refine W_reg (by kernel_rfl) ?_
        refine wla rfl rfl (q_move (v := p1) rfl s1_11) ?_
        refine wla rfl rfl (q_len rfl T22.sl rfl (hp1.lift (Lift.ext hE11 _))) ?_
        refine wla rfl rfl (q_gtI rfl rfl rfl) ?_
        refine wla rfl rfl (q_assign (v := (.bool ((decide (255 < (a1xs.length : Int)))))) rfl rfl) ?_
        refine wl_nil ?_
        refine W_th ?_
        refine W_cond _ rfl rfl (fun hb14 => ?_) (fun hb14 => ?_)
        · replace H := (if_pos (of_decide_eq_true hb14)).symm.trans H
          refine W_seq ?_
          refine W_reg (by kernel_rfl) ?_
          refine wla rfl rfl (q_assign (v := (i64 4)) rfl rfl) ?_
          refine wl_nil ?_
          refine W_th ?_
          refine W_ret ?_
          refine bk_r ?_
          refine th_r ?_
          obtain rfl := Option.some.inj H
          refine rt1 (i64 4) rfl rfl rfl s35_11 ?_
          exact ⟨rfl, hE11⟩
        · replace H := (if_neg (of_decide_eq_false hb14)).symm.trans H
          refine W_seq ?_
          refine W_reg (by kernel_rfl) ?_
          refine wla rfl rfl (q_move (v := (mp g1)) rfl s5_11) ?_
          refine wlq rfl rfl (q_lenMap rfl Try.underlying72 rfl o0_11) ?_
          refine wla rfl rfl (q_move (v := p1) rfl s1_11) ?_
          refine wla rfl rfl (q_len rfl T22.sl rfl (hp1.lift (Lift.ext hE11 _))) ?_
          refine wla rfl rfl (q_neI rfl rfl rfl) ?_
          refine wla rfl rfl (q_assign (v := (.bool ((!decide ((x4.length : Int) = (a1xs.length : Int)))))) rfl rfl) ?_
          refine wl_nil ?_
          refine W_th ?_
          refine W_cond _ rfl rfl (fun hb15 => ?_) (fun hb15 => ?_)
          · replace H := (if_neg (ndec_t hb15)).symm.trans H
            refine W_seq ?_
            refine W_reg (by kernel_rfl) ?_
            refine wla rfl rfl (q_assign (v := (i64 6)) rfl rfl) ?_
            refine wl_nil ?_
            refine W_th ?_
            refine W_ret ?_
            refine bk_r ?_
            refine th_r ?_
            obtain rfl := Option.some.inj H
            refine rt1 (i64 6) rfl rfl rfl s35_11 ?_
            exact ⟨rfl, hE11⟩
          · replace H := (if_pos (ndec_f hb15)).symm.trans H
            refine W_skip ?_
            refine bk_n ?_
            refine W_th ?_
            refine W_seq ?_
            refine W_reg (by kernel_rfl) ?_
            refine wla rfl rfl (q_assign (v := (i64 0)) rfl rfl) ?_
            refine wl_nil ?_
            refine W_th ?_
            refine W_ret ?_
            obtain rfl := Option.some.inj H
            refine rt1 (i64 0) rfl rfl rfl s35_11 ?_
            exact ⟨rfl, hE11⟩

/-! largesse/poly.Weights -/
noncomputable def poly_Weights (a0f : Bool) (a1xs : List UInt8) (a2x : UInt8) : Option (List UInt8 × Int) :=
((poly_check a0f a1xs).bind fun r1 =>
(if r1 = 0 then
((makeL ((a1xs.length : Int)) (0 : UInt8)).bind fun c4 =>
((iterC (fun s7 : List UInt8 × Int =>
(if s7.2 < (a1xs.length : Int) then
((idx a1xs s7.2).bind fun c10 =>
((iterC (fun s11 : UInt8 × UInt8 × Int =>
(if s11.2.2 < (a1xs.length : Int) then
((idx a1xs s11.2.2).bind fun c14 =>
(if s11.2.2 = s7.2 then some (.inl (s11.1, s11.2.1, (wI (s11.2.2 + 1))))
else
((field_Add a2x c14).bind fun r16 =>
((field_Mul a0f s11.1 r16).bind fun r18 =>
((field_Add c10 c14).bind fun r20 =>
((field_Mul a0f s11.2.1 r20).bind fun r22 => some (.inl (r18, r22, (wI (s11.2.2 + 1))))))))))
else some (.inr (s11.1, s11.2.1)))) ((1 : UInt8), (1 : UInt8), 0)).bind fun x11 =>
((field_Div a0f x11.1 x11.2).bind fun r26 =>
((idx s7.1 s7.2).bind fun c28 => some (.inl ((s7.1.set (s7.2 : Int).toNat r26.1), (wI (s7.2 + 1))))))))
else some (.inr s7.1))) (c4, 0)).bind fun x7 => some (x7, 0)))
else some (([] : List UInt8), r1)))
set_option maxRecDepth 100000 in
set_option maxHeartbeats 8000000 in
theorem poly_Weights_calls (a0f : Bool) (a1xs : List UInt8) (a2x : UInt8) (p0 : Value) (p1 : Value) (r : List UInt8 × Int) (w0 : World) (hp0 : Fd w0 [] p0 a0f) (hp1 : By w0 [] p1 a1xs) (H : poly_Weights a0f a1xs a2x = some r) :
    Calls Try.prog 49 [p0, p1, (u8 a2x)].toArray w0 (fun e w' => ∃ u0 : Value, e = .returned (.tuple #[u0, (i64 r.2)]) ∧ Ext w0 w' ∧ Nw w0 u0 ∧ OwK (Sc u8) w' [] 5 u0 r.1) := by
  have hE : Ext w0 w0 := Ext.refl w0
  unfold poly_Weights at H
  refine calls_W (n := 67) Try.func49 rfl rfl rfl ?_
  refine W_seq ?_
  refine W_reg (by kernel_rfl) ?_
  refine wla rfl rfl (q_assign (v := (.slice none 0 0)) rfl rfl) ?_
  refine wla rfl rfl (q_assign (v := (i64 0)) rfl rfl) ?_
  refine wl_nil ?_
  refine W_th ?_
  refine W_seq ?_
  refine W_seq ?_
  refine W_reg (by kernel_rfl) ?_
  refine wla rfl rfl (q_move (v := p0) rfl rfl) ?_
  refine wla rfl rfl (q_move (v := p1) rfl rfl) ?_
  obtain ⟨r1, hr1, H⟩ := Option.bind_eq_some_iff.1 H
  refine wls rfl rfl (stp_call (vs := [p0, p1]) Try.func77 rfl rfl rfl (ar2 rfl rfl) (poly_check_calls a0f a1xs p0 p1 r1 _ (hp0.lift (Lift.ext hE _)) (hp1.lift (Lift.ext hE _)) hr1) ?_)
  rintro _ w1 ⟨rfl, x1⟩
  refine ⟨_, rfl, ?_⟩
  have e2 := hE.trans x1
  refine wla rfl rfl (q_assign (v := (i64 r1)) rfl rfl) ?_
  refine wl_nil ?_
  refine W_th ?_
  refine W_seq ?_
  refine W_reg (by kernel_rfl) ?_
  refine wla rfl rfl (q_move (v := (i64 r1)) rfl rfl) ?_
  refine wla rfl rfl (q_neI rfl rfl rfl) ?_
  refine wl_nil ?_
  refine W_th ?_
  refine W_cond _ rfl rfl (fun hb3 => ?_) (fun hb3 => ?_)
  · replace H := (if_neg (ndec_t hb3)).symm.trans H
    refine W_seq ?_
    refine W_reg (by kernel_rfl) ?_
    refine wla rfl rfl (q_move (v := (i64 r1)) rfl rfl) ?_
    refine wla rfl rfl (q_assign (v := (.slice none 0 0)) rfl rfl) ?_
    refine wla rfl rfl (q_assign (v := (i64 r1)) rfl rfl) ?_
    refine wl_nil ?_
    refine W_th ?_
    refine W_ret ?_
    refine th_r ?_
    obtain rfl := Option.some.inj H
    refine rt2 (.slice none 0 0) (i64 r1) rfl rfl rfl rfl rfl rfl ?_
    exact ⟨(.slice none 0 0), rfl, e2, Nw.nil _, (OwK.nil _ _ _ _)⟩
  · replace H := (if_pos (ndec_f hb3)).symm.trans H
    refine W_skip ?_
    refine W_th ?_
    refine W_seq ?_
    refine W_reg (by kernel_rfl) ?_
    refine wla rfl rfl (q_move (v := p1) rfl rfl) ?_
    refine wla rfl rfl (q_len rfl T22.sl rfl (hp1.lift (Lift.ext e2 _))) ?_
    obtain ⟨c4, hc4, H⟩ := Option.bind_eq_some_iff.1 H
    refine wls rfl rfl (stp_make (L := []) (R := (Sc u8)) rfl T22 rfl rfl hc4 (fun _ _ => rfl) ?_)
    intro v4 w4 o4 n4 g4 l4
    have x4 := grown_ext g4
    have n6 := Nw.ext e2 n4
    have e5 := e2.trans x4
    refine wla rfl rfl (q_assign (v := v4) rfl rfl) ?_
    refine wl_nil ?_
    refine W_th ?_
    refine W_seq ?_
    refine W_seq ?_
    refine W_reg (by kernel_rfl) ?_
    refine wla rfl rfl (q_move (v := p1) rfl rfl) ?_
    refine wla rfl rfl (q_len rfl T22.sl rfl (hp1.lift (Lift.ext e5 _))) ?_
    refine wla rfl rfl (q_move (v := (i64 0)) rfl rfl) ?_
    refine wl_nil ?_
    refine W_th ?_
    obtain ⟨x7, G7, H⟩ := Option.bind_eq_some_iff.1 H
    refine W_mid (fun f w => f 9 = v4 ∧ f 67 = undef ∧ Ext w0 w ∧ OwK (Sc u8) w [v4] 5 v4 x7 ∧ Nw w0 v4) ?_ ?_
    · refine W_block ?_
      refine W_loop (fun s7 f w => f 0 = p0 ∧ f 1 = p1 ∧ f 2 = (u8 a2x) ∧ f 9 = v4 ∧ f 25 = p1 ∧ f 26 = (i64 ((a1xs.length : Int))) ∧ f 27 = (i64 s7.2) ∧ f 67 = undef ∧ Ext w0 w ∧ OwK (Sc u8) w [v4] 5 v4 s7.1 ∧ Nw w0 v4) G7 ?_ ?_
      · exact ⟨rfl, rfl, rfl, rfl, rfl, rfl, rfl, rfl, e5, o4, n6⟩
      · rintro s7 _ _ w8 ⟨s0_8, s1_8, s2_8, s9_8, s25_8, s26_8, s27_8, s67_8, hE8, o0_8, n0_8⟩ H7 hr7
        refine W_seq ?_
        refine W_reg (by kernel_rfl) ?_
        refine wla rfl rfl (q_ltI rfl s27_8 s26_8) ?_
        refine wl_nil ?_
        refine W_th ?_
        refine W_seq ?_
        refine W_cond _ rfl rfl (fun hb9 => ?_) (fun hb9 => ?_)
        · replace H7 := (if_pos (of_decide_eq_true hb9)).symm.trans H7
          refine W_skip ?_
          refine W_th ?_
          refine W_seq ?_
          refine W_block ?_
          refine W_seq ?_
          refine W_reg (by kernel_rfl) ?_
          refine wla rfl rfl (q_move (v := (i64 s7.2)) rfl s27_8) ?_
          obtain ⟨c10, hc10, H7⟩ := Option.bind_eq_some_iff.1 H7
          refine wla rfl rfl (q_adr rfl T22 s25_8 s27_8 (hp1.lift (Lift.ext hE8 _)) hc10) ?_
          refine wlq rfl rfl (q_loadS rfl T22 rfl (hp1.lift (Lift.ext hE8 _)) hc10) ?_
          refine wla rfl rfl (q_assign (v := (i64 s7.2)) rfl rfl) ?_
          refine wla rfl rfl (q_assign (v := (u8 c10)) rfl rfl) ?_
          refine wl_nil ?_
          refine W_th ?_
          refine W_seq ?_
          refine W_reg (by kernel_rfl) ?_
          refine wla rfl rfl (q_assign (v := (u8 1)) rfl (cst8 (1 : UInt8) rfl)) ?_
          refine wla rfl rfl (q_assign (v := (u8 1)) rfl (cst8 (1 : UInt8) rfl)) ?_
          refine wl_nil ?_
          refine W_th ?_
          refine W_seq ?_
          refine W_seq ?_
          refine W_reg (by kernel_rfl) ?_
          refine wla rfl rfl (q_move (v := p1) rfl s1_8) ?_
          refine wla rfl rfl (q_len rfl T22.sl rfl (hp1.lift (Lift.ext hE8 _))) ?_
          refine wla rfl rfl (q_move (v := (i64 0)) rfl rfl) ?_
          refine wl_nil ?_
          refine W_th ?_
          obtain ⟨x11, G11, H7⟩ := Option.bind_eq_some_iff.1 H7
          refine W_mid (fun f w => f 0 = p0 ∧ f 1 = p1 ∧ f 2 = (u8 a2x) ∧ f 9 = v4 ∧ f 10 = (i64 s7.2) ∧ f 12 = (u8 x11.1) ∧ f 13 = (u8 x11.2) ∧ f 25 = p1 ∧ f 26 = (i64 ((a1xs.length : Int))) ∧ f 27 = (i64 s7.2) ∧ f 67 = undef ∧ Ext w0 w ∧ OwK (Sc u8) w [v4] 5 v4 s7.1 ∧ Nw w0 v4) ?_ ?_
          · refine W_block ?_
            refine W_loop (fun s11 f w => f 0 = p0 ∧ f 1 = p1 ∧ f 2 = (u8 a2x) ∧ f 9 = v4 ∧ f 10 = (i64 s7.2) ∧ f 11 = (u8 c10) ∧ f 12 = (u8 s11.1) ∧ f 13 = (u8 s11.2.1) ∧ f 25 = p1 ∧ f 26 = (i64 ((a1xs.length : Int))) ∧ f 27 = (i64 s7.2) ∧ f 32 = p1 ∧ f 33 = (i64 ((a1xs.length : Int))) ∧ f 34 = (i64 s11.2.2) ∧ f 67 = undef ∧ Ext w0 w ∧ OwK (Sc u8) w [v4] 5 v4 s7.1 ∧ Nw w0 v4) G11 ?_ ?_
            · exact ⟨s0_8, s1_8, s2_8, s9_8, rfl, rfl, rfl, rfl, s25_8, s26_8, s27_8, rfl, rfl, rfl, s67_8, hE8, o0_8, n0_8⟩
            · rintro s11 _ _ w12 ⟨s0_12, s1_12, s2_12, s9_12, s10_12, s11_12, s12_12, s13_12, s25_12, s26_12, s27_12, s32_12, s33_12, s34_12, s67_12, hE12, o0_12, n0_12⟩ H11 hr11
              refine W_seq ?_
              refine W_reg (by kernel_rfl) ?_
              refine wla rfl rfl (q_ltI rfl s34_12 s33_12) ?_
              refine wl_nil ?_
              refine W_th ?_
              refine W_seq ?_
              refine W_cond _ rfl rfl (fun hb13 => ?_) (fun hb13 => ?_)
              · replace H11 := (if_pos (of_decide_eq_true hb13)).symm.trans H11
                refine W_skip ?_
                refine W_th ?_
                refine W_seq ?_
                refine W_block ?_
                refine W_seq ?_
                refine W_reg (by kernel_rfl) ?_
                refine wla rfl rfl (q_move (v := (i64 s11.2.2)) rfl s34_12) ?_
                obtain ⟨c14, hc14, H11⟩ := Option.bind_eq_some_iff.1 H11
                refine wla rfl rfl (q_adr rfl T22 s32_12 s34_12 (hp1.lift (Lift.ext hE12 _)) hc14) ?_
                refine wlq rfl rfl (q_loadS rfl T22 rfl (hp1.lift (Lift.ext hE12 _)) hc14) ?_
                refine wla rfl rfl (q_assign (v := (i64 s11.2.2)) rfl rfl) ?_
                refine wla rfl rfl (q_assign (v := (u8 c14)) rfl rfl) ?_
                refine wl_nil ?_
                refine W_th ?_
                refine W_seq ?_
                refine W_reg (by kernel_rfl) ?_
                refine wla rfl rfl (q_move (v := (i64 s11.2.2)) rfl rfl) ?_
                refine wla rfl rfl (q_move (v := (i64 s7.2)) rfl s10_12) ?_
                refine wla rfl rfl (q_neI rfl rfl rfl) ?_
                refine wl_nil ?_
                refine W_th ?_
                refine W_cond _ rfl rfl (fun hb15 => ?_) (fun hb15 => ?_)
                · replace H11 := (if_neg (ndec_t hb15)).symm.trans H11
                  refine W_reg (by kernel_rfl) ?_
                  refine wla rfl rfl (q_move (v := p0) rfl s0_12) ?_
                  refine wla rfl rfl (q_move (v := (u8 s11.1)) rfl s12_12) ?_
                  refine wla rfl rfl (q_move (v := (u8 a2x)) rfl s2_12) ?_
                  refine wla rfl rfl (q_move (v := (u8 c14)) rfl rfl) ?_
                  obtain ⟨r16, hr16, H11⟩ := Option.bind_eq_some_iff.1 H11
                  refine wls rfl rfl (stp_call (vs := [(u8 a2x), (u8 c14)]) Try.func42 rfl rfl rfl (ar2 rfl rfl) (field_Add_calls a2x c14  r16 _  hr16) ?_)
                  rintro _ w16 ⟨rfl, x16⟩
                  refine ⟨_, rfl, ?_⟩
                  replace o0_12 := o0_12.extL (Sc.stab _) x16 (Lift.ext x16 _)
                  have e17 := hE12.trans x16
                  obtain ⟨r18, hr18, H11⟩ := Option.bind_eq_some_iff.1 H11
                  refine wls rfl rfl (stp_call (vs := [p0, (u8 s11.1), (u8 r16)]) Try.func43 rfl rfl rfl (ar3 rfl rfl rfl) (field_Mul_calls a0f s11.1 r16 p0 r18 _ (hp0.lift (Lift.ext e17 _)) hr18) ?_)
                  rintro _ w18 ⟨rfl, x18⟩
                  refine ⟨_, rfl, ?_⟩
                  replace o0_12 := o0_12.extL (Sc.stab _) x18 (Lift.ext x18 _)
                  have e19 := e17.trans x18
                  refine wla rfl rfl (q_move (v := p0) rfl s0_12) ?_
                  refine wla rfl rfl (q_move (v := (u8 s11.2.1)) rfl s13_12) ?_
                  refine wla rfl rfl (q_move (v := (u8 c10)) rfl s11_12) ?_
                  refine wla rfl rfl (q_move (v := (u8 c14)) rfl rfl) ?_
                  obtain ⟨r20, hr20, H11⟩ := Option.bind_eq_some_iff.1 H11
                  refine wls rfl rfl (stp_call (vs := [(u8 c10), (u8 c14)]) Try.func42 rfl rfl rfl (ar2 rfl rfl) (field_Add_calls c10 c14  r20 _  hr20) ?_)
                  rintro _ w20 ⟨rfl, x20⟩
                  refine ⟨_, rfl, ?_⟩
                  replace o0_12 := o0_12.extL (Sc.stab _) x20 (Lift.ext x20 _)
                  have e21 := e19.trans x20
                  obtain ⟨r22, hr22, H11⟩ := Option.bind_eq_some_iff.1 H11
                  refine wls rfl rfl (stp_call (vs := [p0, (u8 s11.2.1), (u8 r20)]) Try.func43 rfl rfl rfl (ar3 rfl rfl rfl) (field_Mul_calls a0f s11.2.1 r20 p0 r22 _ (hp0.lift (Lift.ext e21 _)) hr22) ?_)
                  rintro _ w22 ⟨rfl, x22⟩
                  refine ⟨_, rfl, ?_⟩
                  replace o0_12 := o0_12.extL (Sc.stab _) x22 (Lift.ext x22 _)
                  have e23 := e21.trans x22
                  refine wla rfl rfl (q_assign (v := (u8 r18)) rfl rfl) ?_
                  refine wla rfl rfl (q_assign (v := (u8 r22)) rfl rfl) ?_
                  refine wl_nil ?_
                  refine bk_n ?_
                  refine W_th ?_
                  refine W_reg (by kernel_rfl) ?_
                  refine wla rfl rfl (q_addI rfl s34_12 rfl) ?_
                  refine wla rfl rfl (q_move (v := (i64 ((wI (s11.2.2 + 1))))) rfl rfl) ?_
                  refine wl_nil ?_
                  obtain rfl := Option.some.inj H11
                  exact ⟨_, rfl, s0_12, s1_12, s2_12, s9_12, s10_12, s11_12, rfl, rfl, s25_12, s26_12, s27_12, s32_12, s33_12, rfl, s67_12, e23, o0_12, n0_12⟩
                · replace H11 := (if_pos (ndec_f hb15)).symm.trans H11
                  refine W_skip ?_
                  refine bk_n ?_
                  refine W_th ?_
                  refine W_reg (by kernel_rfl) ?_
                  refine wla rfl rfl (q_addI rfl s34_12 rfl) ?_
                  refine wla rfl rfl (q_move (v := (i64 ((wI (s11.2.2 + 1))))) rfl rfl) ?_
                  refine wl_nil ?_
                  obtain rfl := Option.some.inj H11
                  exact ⟨_, rfl, s0_12, s1_12, s2_12, s9_12, s10_12, s11_12, s12_12, s13_12, s25_12, s26_12, s27_12, s32_12, s33_12, rfl, s67_12, hE12, o0_12, n0_12⟩
              · replace H11 := (if_neg (of_decide_eq_false hb13)).symm.trans H11
                refine W_exit ?_
                refine th_x ?_
                obtain rfl := Option.some.inj H11
                obtain rfl := hr11 _ rfl
                refine th_x ?_
                refine bk_x ?_
                exact ⟨s0_12, s1_12, s2_12, s9_12, s10_12, s12_12, s13_12, s25_12, s26_12, s27_12, s67_12, hE12, o0_12, n0_12⟩
          · rintro _ w25 ⟨s0_25, s1_25, s2_25, s9_25, s10_25, s12_25, s13_25, s25_25, s26_25, s27_25, s67_25, hE25, o0_25, n0_25⟩
            refine W_th ?_
            refine W_reg (by kernel_rfl) ?_
            refine wla rfl rfl (q_move (v := v4) rfl s9_25) ?_
            refine wla rfl rfl (q_move (v := (i64 s7.2)) rfl s10_25) ?_
            refine wla rfl rfl (q_move (v := p0) rfl s0_25) ?_
            refine wla rfl rfl (q_move (v := (u8 x11.1)) rfl s12_25) ?_
            refine wla rfl rfl (q_move (v := (u8 x11.2)) rfl s13_25) ?_
            obtain ⟨r26, hr26, H7⟩ := Option.bind_eq_some_iff.1 H7
            refine wls rfl rfl (stp_call (vs := [p0, (u8 x11.1), (u8 x11.2)]) Try.func62 rfl rfl rfl (ar3 rfl rfl rfl) (field_Div_calls a0f x11.1 x11.2 p0 r26 _ (hp0.lift (Lift.ext hE25 _)) hr26) ?_)
            rintro _ w26 ⟨rfl, x26⟩
            refine ⟨_, rfl, ?_⟩
            replace o0_25 := o0_25.extL (Sc.stab _) x26 (Lift.ext x26 _)
            have e27 := hE25.trans x26
            refine wla rfl rfl (q_move (v := (.tuple #[(u8 r26.1), (i64 r26.2)])) rfl rfl) ?_
            refine wla rfl rfl (q_extract rfl rfl rfl) ?_
            refine wla rfl rfl (q_extract rfl rfl rfl) ?_
            obtain ⟨c28, hc28, H7⟩ := Option.bind_eq_some_iff.1 H7
            refine wla rfl rfl (q_adr rfl T22 rfl rfl (o0_25.rd (Sc.stab _)) hc28) ?_
            refine wln rfl rfl (stp_store (R := (Sc u8)) (u := (u8 r26.1)) (Sc.stab _) [] [] rfl T22 rfl rfl o0_25 (put_of r26.1 hc28) rfl rfl ?_)
            intro w29 o29 g29 l29
            have e30 := e27.grown g29 n0_25
            refine wl_nil ?_
            refine bk_n ?_
            refine W_th ?_
            refine W_reg (by kernel_rfl) ?_
            refine wla rfl rfl (q_addI rfl s27_25 rfl) ?_
            refine wla rfl rfl (q_move (v := (i64 ((wI (s7.2 + 1))))) rfl rfl) ?_
            refine wl_nil ?_
            obtain rfl := Option.some.inj H7
            exact ⟨_, rfl, s0_25, s1_25, s2_25, s9_25, s25_25, s26_25, rfl, s67_25, e30, o29, n0_25⟩
        · replace H7 := (if_neg (of_decide_eq_false hb9)).symm.trans H7
          refine W_exit ?_
          refine th_x ?_
          obtain rfl := Option.some.inj H7
          obtain rfl := hr7 _ rfl
          refine th_x ?_
          refine bk_x ?_
          exact ⟨s9_8, s67_8, hE8, o0_8, n0_8⟩
    · rintro _ w33 ⟨s9_33, s67_33, hE33, o0_33, n0_33⟩
      refine W_th ?_
      refine W_seq ?_
      refine W_reg (by kernel_rfl) ?_
      refine wla rfl rfl (q_move (v := v4) rfl s9_33) ?_
      refine wla rfl rfl (q_assign (v := v4) rfl rfl) ?_
      refine wla rfl rfl (q_assign (v := (i64 0)) rfl rfl) ?_
      refine wl_nil ?_
      refine W_th ?_
      refine W_ret ?_
      obtain rfl := Option.some.inj H
      refine rt2 v4 (i64 0) rfl rfl rfl rfl rfl s67_33 ?_
      exact ⟨v4, rfl, hE33, n0_33, (o0_33.weak (Sc.stab _) (fun _ _ => trivial))⟩

/-! largesse/poly.Through -/
noncomputable def poly_Through (a0f : Bool) (a1xs : List UInt8) (a2ys : List UInt8) : Option (List UInt8 × Int) :=
(if (a1xs.length : Int) = (a2ys.length : Int) then
((poly_check a0f a1xs).bind fun r9 =>
(if r9 = 0 then
((slices_Clone_sbytebyte a2ys).bind fun r12 =>
((iterC (fun s17 : List UInt8 × Int =>
(if s17.2 < (s17.1.length : Int) then
((iterC (fun s20 : List UInt8 × Int =>
(if s17.2 ≤ s20.2 then
((idx s20.1 s20.2).bind fun c25 =>
((idx s20.1 ((wI (s20.2 - 1)))).bind fun c26 =>
((idx a1xs s20.2).bind fun c27 =>
((idx a1xs ((wI (s20.2 - s17.2)))).bind fun c28 =>
((field_Add c25 c26).bind fun r29 =>
((field_Add c27 c28).bind fun r31 =>
((field_Div a0f r29 r31).bind fun r33 => some (.inl ((s20.1.set (s20.2 : Int).toNat r33.1), (wI (s20.2 - 1)))))))))))
else some (.inr s20.1))) (s17.1, (wI ((s17.1.length : Int) - 1)))).bind fun x20 => some (.inl (x20, (wI (s17.2 + 1)))))
else some (.inr s17.1))) (r12, 1)).bind fun x17 =>
((lim x17.length).bind fun lim55 =>
((rangeL (fun (s55 : List UInt8) (y55 : (Int × UInt8)) =>
((idx a1xs y55.1).bind fun c61 =>
((poly_Mul a0f s55 ([c61, (1 : UInt8)] : List UInt8)).bind fun r65 =>
((poly_Add r65.1 ([y55.2] : List UInt8)).bind fun r81 => some r81)))) (revI x17) ([] : List UInt8)).bind fun x55 => some (x55, 0)))))
else some (([] : List UInt8), r9)))
else some (([] : List UInt8), 1))
set_option maxRecDepth 100000 in
set_option maxHeartbeats 8000000 in
theorem poly_Through_calls (a0f : Bool) (a1xs : List UInt8) (a2ys : List UInt8) (p0 : Value) (p1 : Value) (p2 : Value) (r : List UInt8 × Int) (w0 : World) (hp0 : Fd w0 [] p0 a0f) (hp1 : By w0 [] p1 a1xs) (hp2 : By w0 [] p2 a2ys) (H : poly_Through a0f a1xs a2ys = some r) :
    Calls Try.prog 84 [p0, p1, p2].toArray w0 (fun e w' => ∃ u0 : Value, e = .returned (.tuple #[u0, (i64 r.2)]) ∧ Ext w0 w' ∧ Nw w0 u0 ∧ OwK (Sc u8) w' [] 5 u0 r.1) := by
  have hE : Ext w0 w0 := Ext.refl w0
  unfold poly_Through at H
  refine calls_W (n := 91) Try.func84 rfl rfl rfl ?_
  refine W_seq ?_
  refine W_reg (by kernel_rfl) ?_
  refine wls rfl rfl (stp_boxL (v := p0) (cs := #[p0]) [] rfl rfl (cells_fd (hp0.lift (Lift.ext hE _))) ?_)
  intro g1 w1 o1 n1 g1r l1
  have x1 := grown_ext g1r
  have n3 := Nw.ext hE n1
  have e2 := hE.trans x1
  refine wls rfl rfl (stp_boxL (v := p1) (cs := #[p1]) [(bp g1)] rfl rfl (cells_sl _ _ (hp1.lift (Lift.ext e2 _))) ?_)
  intro g4 w4 o4 n4 g4r l4
  have x4 := grown_ext g4r
  have q5 : Nq (bp g1) (bp g4) := o1.nq n4
  replace o1 := o1.ext x4
  have n7 := Nw.ext e2 n4
  have e6 := e2.trans x4
  refine wla rfl rfl (q_assign (v := (.slice none 0 0)) rfl rfl) ?_
  refine wla rfl rfl (q_assign (v := (i64 0)) rfl rfl) ?_
  refine wl_nil ?_
  refine W_th ?_
  refine W_seq ?_
  refine W_seq ?_
  refine W_reg (by kernel_rfl) ?_
  refine wlq rfl rfl (q_loadB (u := p1) rfl Try.isAgg22 rfl o4 rfl) ?_
  refine wla rfl rfl (q_len rfl T22.sl rfl (hp1.lift (Lift.ext e6 _))) ?_
  refine wla rfl rfl (q_move (v := p2) rfl rfl) ?_
  refine wla rfl rfl (q_len rfl T22.sl rfl (hp2.lift (Lift.ext e6 _))) ?_
  refine wla rfl rfl (q_neI rfl rfl rfl) ?_
  refine wl_nil ?_
  refine W_th ?_
  refine W_cond _ rfl rfl (fun hb8 => ?_) (fun hb8 => ?_)
  · replace H := (if_neg (ndec_t hb8)).symm.trans H
    refine W_seq ?_
    refine W_reg (by kernel_rfl) ?_
    refine wla rfl rfl (q_assign (v := (.slice none 0 0)) rfl rfl) ?_
    refine wla rfl rfl (q_assign (v := (i64 1)) rfl rfl) ?_
    refine wl_nil ?_
    refine W_th ?_
    refine W_ret ?_
    refine th_r ?_
    obtain rfl := Option.some.inj H
    refine rt2 (.slice none 0 0) (i64 1) rfl rfl rfl rfl rfl rfl ?_
    exact ⟨(.slice none 0 0), rfl, e6, Nw.nil _, (OwK.nil _ _ _ _)⟩
  · replace H := (if_pos (ndec_f hb8)).symm.trans H
    refine W_skip ?_
    refine W_th ?_
    refine W_seq ?_
    refine W_seq ?_
    refine W_reg (by kernel_rfl) ?_
    refine wlq rfl rfl (q_loadB (u := p0) rfl Try.isAgg27 rfl o1 rfl) ?_
    refine wlq rfl rfl (q_loadB (u := p1) rfl Try.isAgg22 rfl o4 rfl) ?_
    obtain ⟨r9, hr9, H⟩ := Option.bind_eq_some_iff.1 H
    refine wls rfl rfl (stp_call (vs := [p0, p1]) Try.func77 rfl rfl rfl (ar2 rfl rfl) (poly_check_calls a0f a1xs p0 p1 r9 _ (hp0.lift (Lift.ext e6 _)) (hp1.lift (Lift.ext e6 _)) hr9) ?_)
    rintro _ w9 ⟨rfl, x9⟩
    refine ⟨_, rfl, ?_⟩
    replace o4 := o4.ext x9
    replace o1 := o1.ext x9
    have e10 := e6.trans x9
    refine wla rfl rfl (q_assign (v := (i64 r9)) rfl rfl) ?_
    refine wl_nil ?_
    refine W_th ?_
    refine W_seq ?_
    refine W_reg (by kernel_rfl) ?_
    refine wla rfl rfl (q_move (v := (i64 r9)) rfl rfl) ?_
    refine wla rfl rfl (q_neI rfl rfl rfl) ?_
    refine wl_nil ?_
    refine W_th ?_
    refine W_cond _ rfl rfl (fun hb11 => ?_) (fun hb11 => ?_)
    · replace H := (if_neg (ndec_t hb11)).symm.trans H
      refine W_seq ?_
      refine W_reg (by kernel_rfl) ?_
      refine wla rfl rfl (q_move (v := (i64 r9)) rfl rfl) ?_
      refine wla rfl rfl (q_assign (v := (.slice none 0 0)) rfl rfl) ?_
      refine wla rfl rfl (q_assign (v := (i64 r9)) rfl rfl) ?_
      refine wl_nil ?_
      refine W_th ?_
      refine W_ret ?_
      refine th_r ?_
      obtain rfl := Option.some.inj H
      refine rt2 (.slice none 0 0) (i64 r9) rfl rfl rfl rfl rfl rfl ?_
      exact ⟨(.slice none 0 0), rfl, e10, Nw.nil _, (OwK.nil _ _ _ _)⟩
    · replace H := (if_pos (ndec_f hb11)).symm.trans H
      refine W_skip ?_
      refine W_th ?_
      refine W_seq ?_
      refine W_reg (by kernel_rfl) ?_
      refine wla rfl rfl (q_move (v := p2) rfl rfl) ?_
      obtain ⟨r12, hr12, H⟩ := Option.bind_eq_some_iff.1 H
      refine wls rfl rfl (stp_call (vs := [p2]) Try.func39 rfl rfl rfl (ar1 rfl) (slices_Clone_sbytebyte_calls a2ys p2 r12 _ (hp2.lift (Lift.ext e10 _)) hr12) ?_)
      rintro _ w12 ⟨v12, rfl, x12, n12_0, o12_0⟩
      refine ⟨_, rfl, ?_⟩
      have o12 : OwK (Sc u8) w12 (v12 :: [(bp g4), (bp g1)]) 5 v12 r12 := OwK.scal o12_0 _
      have q13 : Nq (bp g4) v12 := o4.nq n12_0
      have q14 : Nq (bp g1) v12 := o1.nq n12_0
      replace o4 := o4.ext x12
      replace o1 := o1.ext x12
      have n16 := Nw.ext e10 n12_0
      have e15 := e10.trans x12
      refine wla rfl rfl (q_assign (v := v12) rfl rfl) ?_
      refine wl_nil ?_
      refine W_th ?_
      refine W_seq ?_
      refine W_seq ?_
      refine W_reg (by kernel_rfl) ?_
      refine wla rfl rfl (q_assign (v := (i64 1)) rfl rfl) ?_
      refine wl_nil ?_
      refine W_th ?_
      obtain ⟨x17, G17, H⟩ := Option.bind_eq_some_iff.1 H
      refine W_mid (fun f w => f 3 = (bp g1) ∧ f 4 = (bp g4) ∧ f 9 = v12 ∧ f 91 = undef ∧ Ext w0 w ∧ OwK (Sc u8) w [v12, (bp g1), (bp g4)] 5 v12 x17 ∧ Nw w0 v12 ∧ Blk w g1 27 #[p0] ∧ Nw w0 (bp g1) ∧ Blk w g4 22 #[p1] ∧ Nw w0 (bp g4) ∧ Nq v12 (bp g1) ∧ Nq v12 (bp g4) ∧ Nq (bp g1) (bp g4)) ?_ ?_
      · refine W_block ?_
        refine W_loop (fun s17 f w => f 3 = (bp g1) ∧ f 4 = (bp g4) ∧ f 9 = v12 ∧ f 10 = (i64 s17.2) ∧ f 91 = undef ∧ Ext w0 w ∧ OwK (Sc u8) w [v12, (bp g1), (bp g4)] 5 v12 s17.1 ∧ Nw w0 v12 ∧ Blk w g1 27 #[p0] ∧ Nw w0 (bp g1) ∧ Blk w g4 22 #[p1] ∧ Nw w0 (bp g4) ∧ Nq v12 (bp g1) ∧ Nq v12 (bp g4) ∧ Nq (bp g1) (bp g4)) G17 ?_ ?_
        · exact ⟨rfl, rfl, rfl, rfl, rfl, e15, (o12.weak (Sc.stab _) (fun _ h => ⟨h.1, h.2.2.1, h.2.1, trivial⟩)), n16, o1, n3, o4, n7, q14.symm, q13.symm, q5⟩
        · rintro s17 _ _ w18 ⟨s3_18, s4_18, s9_18, s10_18, s91_18, hE18, o0_18, n0_18, o1_18, n1_18, o2_18, n2_18, q0_1_18, q0_2_18, q1_2_18⟩ H17 hr17
          refine W_seq ?_
          refine W_seq ?_
          refine W_reg (by kernel_rfl) ?_
          refine wla rfl rfl (q_move (v := (i64 s17.2)) rfl s10_18) ?_
          refine wla rfl rfl (q_move (v := v12) rfl s9_18) ?_
          refine wla rfl rfl (q_len rfl T22.sl rfl (o0_18.rd (Sc.stab _))) ?_
          refine wla rfl rfl (q_ltI rfl rfl rfl) ?_
          refine wl_nil ?_
          refine W_th ?_
          refine W_cond _ rfl rfl (fun hb19 => ?_) (fun hb19 => ?_)
          · replace H17 := (if_pos (of_decide_eq_true hb19)).symm.trans H17
            refine W_skip ?_
            refine W_th ?_
            refine W_seq ?_
            refine W_block ?_
            refine W_seq ?_
            refine W_reg (by kernel_rfl) ?_
            refine wla rfl rfl (q_move (v := v12) rfl s9_18) ?_
            refine wla rfl rfl (q_len rfl T22.sl rfl (o0_18.rd (Sc.stab _))) ?_
            refine wla rfl rfl (q_subI rfl rfl rfl) ?_
            refine wla rfl rfl (q_assign (v := (i64 ((wI ((s17.1.length : Int) - 1))))) rfl rfl) ?_
            refine wl_nil ?_
            refine W_th ?_
            obtain ⟨x20, G20, H17⟩ := Option.bind_eq_some_iff.1 H17
            refine W_mid (fun f w => f 3 = (bp g1) ∧ f 4 = (bp g4) ∧ f 9 = v12 ∧ f 10 = (i64 s17.2) ∧ f 91 = undef ∧ Ext w0 w ∧ OwK (Sc u8) w [v12, (bp g1), (bp g4)] 5 v12 x20 ∧ Nw w0 v12 ∧ Blk w g1 27 #[p0] ∧ Nw w0 (bp g1) ∧ Blk w g4 22 #[p1] ∧ Nw w0 (bp g4) ∧ Nq v12 (bp g1) ∧ Nq v12 (bp g4) ∧ Nq (bp g1) (bp g4)) ?_ ?_
            · refine W_block ?_
              refine W_loop (fun s20 f w => f 3 = (bp g1) ∧ f 4 = (bp g4) ∧ f 9 = v12 ∧ f 10 = (i64 s17.2) ∧ f 11 = (i64 s20.2) ∧ f 91 = undef ∧ Ext w0 w ∧ OwK (Sc u8) w [v12, (bp g1), (bp g4)] 5 v12 s20.1 ∧ Nw w0 v12 ∧ Blk w g1 27 #[p0] ∧ Nw w0 (bp g1) ∧ Blk w g4 22 #[p1] ∧ Nw w0 (bp g4) ∧ Nq v12 (bp g1) ∧ Nq v12 (bp g4) ∧ Nq (bp g1) (bp g4)) G20 ?_ ?_
              · exact ⟨s3_18, s4_18, s9_18, s10_18, rfl, s91_18, hE18, o0_18, n0_18, o1_18, n1_18, o2_18, n2_18, q0_1_18, q0_2_18, q1_2_18⟩
              · rintro s20 _ _ w21 ⟨s3_21, s4_21, s9_21, s10_21, s11_21, s91_21, hE21, o0_21, n0_21, o1_21, n1_21, o2_21, n2_21, q0_1_21, q0_2_21, q1_2_21⟩ H20 hr20
                refine W_seq ?_
                refine W_seq ?_
                refine W_reg (by kernel_rfl) ?_
                refine wla rfl rfl (q_move (v := (i64 s20.2)) rfl s11_21) ?_
                refine wla rfl rfl (q_move (v := (i64 s17.2)) rfl s10_21) ?_
                refine wla rfl rfl (q_geI rfl rfl rfl) ?_
                refine wl_nil ?_
                refine W_th ?_
                refine W_cond _ rfl rfl (fun hb22 => ?_) (fun hb22 => ?_)
                · replace H20 := (if_pos (of_decide_eq_true hb22)).symm.trans H20
                  refine W_skip ?_
                  refine W_th ?_
                  refine W_seq ?_
                  refine W_block ?_
                  refine W_draw [2, 6, 11, 13, 16, 17, 22] [(0, 0), (1, 0), (2, 1), (3, 0), (4, 0), (5, 0), (6, 1), (7, 0), (8, 0), (9, 0), (10, 0), (11, 1), (13, 1), (14, 0), (15, 0), (16, 1), (17, 1), (18, 0), (19, 0), (20, 0), (21, 0), (22, 1), (12, 2), (23, 2), (24, 2), (25, 0), (26, 0), (27, 0), (28, 0), (29, 2)] mixed (by kernel_rfl) (by kernel_rfl) (by kernel_rfl) (by kernel_rfl) ?_
                  have x23 := Ext.drew w21
                  replace o0_21 := o0_21.extL (Sc.stab _) x23 (Lift.ext x23 _)
                  replace o1_21 := o1_21.ext x23
                  replace o2_21 := o2_21.ext x23
                  have e24 := hE21.trans x23
                  refine wsa rfl rfl rfl (q_move (v := v12) rfl s9_21) ?_
                  refine wsa rfl rfl rfl (q_move (v := (i64 s20.2)) rfl s11_21) ?_
                  refine wsq rfl rfl rfl (q_loadB (u := p0) rfl Try.isAgg27 s3_21 o1_21 rfl) ?_
                  refine wsa rfl rfl rfl (q_move (v := v12) rfl s9_21) ?_
                  refine wsa rfl rfl rfl (q_move (v := (i64 s20.2)) rfl s11_21) ?_
                  obtain ⟨c25, hc25, H20⟩ := Option.bind_eq_some_iff.1 H20
                  refine wsa rfl rfl rfl (q_adr rfl T22 rfl rfl (o0_21.rd (Sc.stab _)) hc25) ?_
                  refine wsq rfl rfl rfl (q_loadS rfl T22 rfl (o0_21.rd (Sc.stab _)) hc25) ?_
                  refine wsa rfl rfl rfl (q_move (v := v12) rfl s9_21) ?_
                  refine wsa rfl rfl rfl (q_move (v := (i64 s20.2)) rfl s11_21) ?_
                  refine wsa rfl rfl rfl (q_subI rfl rfl rfl) ?_
                  obtain ⟨c26, hc26, H20⟩ := Option.bind_eq_some_iff.1 H20
                  refine wsa rfl rfl rfl (q_adr rfl T22 rfl rfl (o0_21.rd (Sc.stab _)) hc26) ?_
                  refine wsq rfl rfl rfl (q_loadS rfl T22 rfl (o0_21.rd (Sc.stab _)) hc26) ?_
                  refine wsq rfl rfl rfl (q_loadB (u := p1) rfl Try.isAgg22 s4_21 o2_21 rfl) ?_
                  refine wsa rfl rfl rfl (q_move (v := (i64 s20.2)) rfl s11_21) ?_
                  obtain ⟨c27, hc27, H20⟩ := Option.bind_eq_some_iff.1 H20
                  refine wsa rfl rfl rfl (q_adr rfl T22 rfl rfl (hp1.lift (Lift.ext e24 _)) hc27) ?_
                  refine wsq rfl rfl rfl (q_loadS rfl T22 rfl (hp1.lift (Lift.ext e24 _)) hc27) ?_
                  refine wsq rfl rfl rfl (q_loadB (u := p1) rfl Try.isAgg22 s4_21 o2_21 rfl) ?_
                  refine wsa rfl rfl rfl (q_move (v := (i64 s20.2)) rfl s11_21) ?_
                  refine wsa rfl rfl rfl (q_move (v := (i64 s17.2)) rfl s10_21) ?_
                  refine wsa rfl rfl rfl (q_subI rfl rfl rfl) ?_
                  obtain ⟨c28, hc28, H20⟩ := Option.bind_eq_some_iff.1 H20
                  refine wsa rfl rfl rfl (q_adr rfl T22 rfl rfl (hp1.lift (Lift.ext e24 _)) hc28) ?_
                  refine wsq rfl rfl rfl (q_loadS rfl T22 rfl (hp1.lift (Lift.ext e24 _)) hc28) ?_
                  obtain ⟨r29, hr29, H20⟩ := Option.bind_eq_some_iff.1 H20
                  refine wss rfl rfl rfl (stp_call (vs := [(u8 c25), (u8 c26)]) Try.func42 rfl rfl rfl (ar2 rfl rfl) (field_Add_calls c25 c26  r29 _  hr29) ?_)
                  rintro _ w29 ⟨rfl, x29⟩
                  refine ⟨_, rfl, x29, ?_⟩
                  replace o0_21 := o0_21.extL (Sc.stab _) x29 (Lift.ext x29 _)
                  replace o1_21 := o1_21.ext x29
                  replace o2_21 := o2_21.ext x29
                  have e30 := e24.trans x29
                  obtain ⟨r31, hr31, H20⟩ := Option.bind_eq_some_iff.1 H20
                  refine wss rfl rfl rfl (stp_call (vs := [(u8 c27), (u8 c28)]) Try.func42 rfl rfl rfl (ar2 rfl rfl) (field_Add_calls c27 c28  r31 _  hr31) ?_)
                  rintro _ w31 ⟨rfl, x31⟩
                  refine ⟨_, rfl, x31, ?_⟩
                  replace o0_21 := o0_21.extL (Sc.stab _) x31 (Lift.ext x31 _)
                  replace o1_21 := o1_21.ext x31
                  replace o2_21 := o2_21.ext x31
                  have e32 := e30.trans x31
                  obtain ⟨r33, hr33, H20⟩ := Option.bind_eq_some_iff.1 H20
                  refine wsc rfl (by kernel_rfl) rfl rfl (stp_call (vs := [p0, (u8 r29), (u8 r31)]) Try.func62 rfl rfl rfl (ar3 rfl rfl rfl) (field_Div_calls a0f r29 r31 p0 r33 _ (hp0.lift (Lift.ext e32 _)) hr33) ?_)
                  rintro _ w33 ⟨rfl, x33⟩
                  refine ⟨_, rfl, ?_⟩
                  replace o0_21 := o0_21.extL (Sc.stab _) x33 (Lift.ext x33 _)
                  replace o1_21 := o1_21.ext x33
                  replace o2_21 := o2_21.ext x33
                  have e34 := e32.trans x33
                  refine wsa rfl rfl rfl (q_move (v := (.tuple #[(u8 r33.1), (i64 r33.2)])) rfl rfl) ?_
                  refine wsa rfl rfl rfl (q_extract rfl rfl rfl) ?_
                  refine wsa rfl rfl rfl (q_extract rfl rfl rfl) ?_
                  refine wsa rfl rfl rfl (q_adr rfl T22 rfl rfl (o0_21.rd (Sc.stab _)) hc25) ?_
                  refine wsn rfl (by kernel_rfl) rfl rfl (stp_store (R := (Sc u8)) (u := (u8 r33.1)) (Sc.stab _) [] [(bp g1), (bp g4)] rfl T22 rfl rfl o0_21 (put_of r33.1 hc25) rfl rfl ?_)
                  intro w35 o35 g35 l35
                  replace o1_21 := o1_21.other g35 q0_1_21.symm
                  replace o2_21 := o2_21.other g35 q0_2_21.symm
                  have e36 := e34.grown g35 n0_21
                  refine ws_nil ?_
                  refine bk_n ?_
                  refine W_th ?_
                  refine W_reg (by kernel_rfl) ?_
                  refine wla rfl rfl (q_move (v := (i64 s20.2)) rfl s11_21) ?_
                  refine wla rfl rfl (q_subI rfl rfl rfl) ?_
                  refine wla rfl rfl (q_assign (v := (i64 ((wI (s20.2 - 1))))) rfl rfl) ?_
                  refine wl_nil ?_
                  obtain rfl := Option.some.inj H20
                  exact ⟨_, rfl, s3_21, s4_21, s9_21, s10_21, rfl, s91_21, e36, o35, n0_21, o1_21, n1_21, o2_21, n2_21, q0_1_21, q0_2_21, q1_2_21⟩
                · replace H20 := (if_neg (of_decide_eq_false hb22)).symm.trans H20
                  refine W_exit ?_
                  refine th_x ?_
                  obtain rfl := Option.some.inj H20
                  obtain rfl := hr20 _ rfl
                  refine th_x ?_
                  refine bk_x ?_
                  exact ⟨s3_21, s4_21, s9_21, s10_21, s91_21, hE21, o0_21, n0_21, o1_21, n1_21, o2_21, n2_21, q0_1_21, q0_2_21, q1_2_21⟩
            · rintro _ w38 ⟨s3_38, s4_38, s9_38, s10_38, s91_38, hE38, o0_38, n0_38, o1_38, n1_38, o2_38, n2_38, q0_1_38, q0_2_38, q1_2_38⟩
              refine bk_n ?_
              refine W_th ?_
              refine W_reg (by kernel_rfl) ?_
              refine wla rfl rfl (q_move (v := (i64 s17.2)) rfl s10_38) ?_
              refine wla rfl rfl (q_addI rfl rfl rfl) ?_
              refine wla rfl rfl (q_assign (v := (i64 ((wI (s17.2 + 1))))) rfl rfl) ?_
              refine wl_nil ?_
              obtain rfl := Option.some.inj H17
              exact ⟨_, rfl, s3_38, s4_38, s9_38, rfl, s91_38, hE38, o0_38, n0_38, o1_38, n1_38, o2_38, n2_38, q0_1_38, q0_2_38, q1_2_38⟩
          · replace H17 := (if_neg (of_decide_eq_false hb19)).symm.trans H17
            refine W_exit ?_
            refine th_x ?_
            obtain rfl := Option.some.inj H17
            obtain rfl := hr17 _ rfl
            refine th_x ?_
            refine bk_x ?_
            exact ⟨s3_18, s4_18, s9_18, s91_18, hE18, o0_18, n0_18, o1_18, n1_18, o2_18, n2_18, q0_1_18, q0_2_18, q1_2_18⟩
      · rintro _ w41 ⟨s3_41, s4_41, s9_41, s91_41, hE41, o0_41, n0_41, o1_41, n1_41, o2_41, n2_41, q0_1_41, q0_2_41, q1_2_41⟩
        refine W_th ?_
        refine W_seq ?_
        refine W_reg (by kernel_rfl) ?_
        refine wls rfl rfl (stp_allocL (z := (.slice none 0 0)) (cs := #[(.slice none 0 0)]) [v12, (bp g1), (bp g4)] rfl Try.zeroValue22 rfl ?_)
        intro g42 w42 o42 n42 g42r l42
        have x42 := grown_ext g42r
        have q43 : Nq v12 (bp g42) := o0_41.nq n42
        have q44 : Nq (bp g1) (bp g42) := o1_41.nq n42
        have q45 : Nq (bp g4) (bp g42) := o2_41.nq n42
        replace o0_41 := o0_41.extL (Sc.stab _) x42 (Lift.call _ x42 n42)
        replace o1_41 := o1_41.ext x42
        replace o2_41 := o2_41.ext x42
        have n47 := Nw.ext hE41 n42
        have e46 := hE41.trans x42
        refine wl_nil ?_
        refine W_th ?_
        refine W_seq ?_
        refine W_seq ?_
        refine W_reg (by kernel_rfl) ?_
        refine wla rfl rfl (q_move (v := v12) rfl s9_41) ?_
        refine wls rfl rfl (stp_call (vs := [v12]) Try.func41 rfl rfl rfl (ar1 rfl) (Backward_callsG _ (cells_own o0_41) _) ?_)
        rintro _ w48 ⟨g48, rfl, n48, o48, x48⟩
        refine ⟨_, rfl, ?_⟩
        have q49 : Nq (bp g42) (bp g48) := o42.nq n48
        have q50 : Nq v12 (bp g48) := o0_41.nq n48
        have q51 : Nq (bp g1) (bp g48) := o1_41.nq n48
        have q52 : Nq (bp g4) (bp g48) := o2_41.nq n48
        replace o42 := o42.ext x48
        replace o0_41 := o0_41.extL (Sc.stab _) x48 (Lift.call _ x48 n48)
        replace o1_41 := o1_41.ext x48
        replace o2_41 := o2_41.ext x48
        have n54 := Nw.ext e46 n48
        have e53 := e46.trans x48
        refine wl_nil ?_
        refine W_th ?_
        refine W_block ?_
        obtain ⟨lim55, hl55, H⟩ := Option.bind_eq_some_iff.1 H
        obtain ⟨x55, G55, H⟩ := Option.bind_eq_some_iff.1 H
        refine W_rangeS (π := fun x : BwEl (· = x17) => x.1) (xs := (revI x17)) (ea := fun x => i64 x.1.1) (eb := fun x => u8 x.1.2) (Rd := RdB (· = x17) g48 v12) (gf := 75) (lb := #[(bp g48)]) G55 s91_41 rfl rfl (enters Try.func75 rfl rfl) ((revI_len _).symm) (backward_gen (· = x17) _ (fun l h => congrArg List.length h) v12 g48 _ ⟨o48, _, rfl, (o0_41.rd (Sc.stab _))⟩ (lim_lt hl55)) (fun ys h => bw_exact h) bw_mem (fun _ _ t h => h.tn t) rfl rfl (fun s55 w => ∃ vbbpg42_97 : Value, Ext w0 w ∧ OwK (Sc u8) w [vbbpg42_97, v12, (bp g1), (bp g4), (bp g42), (bp g48)] 5 vbbpg42_97 s55 ∧ Nw w0 vbbpg42_97 ∧ OwK (Sc u8) w [vbbpg42_97, v12, (bp g1), (bp g4), (bp g42), (bp g48)] 5 v12 x17 ∧ Nw w0 v12 ∧ Blk w g1 27 #[p0] ∧ Nw w0 (bp g1) ∧ Blk w g4 22 #[p1] ∧ Nw w0 (bp g4) ∧ Blk w g42 22 #[vbbpg42_97] ∧ Nw w0 (bp g42) ∧ Blk w g48 22 #[v12] ∧ Nw w0 (bp g48) ∧ Nq vbbpg42_97 v12 ∧ Nq vbbpg42_97 (bp g1) ∧ Nq vbbpg42_97 (bp g4) ∧ Nq vbbpg42_97 (bp g42) ∧ Nq vbbpg42_97 (bp g48) ∧ Nq v12 (bp g1) ∧ Nq v12 (bp g4) ∧ Nq v12 (bp g42) ∧ Nq v12 (bp g48) ∧ Nq (bp g1) (bp g4) ∧ Nq (bp g1) (bp g42) ∧ Nq (bp g1) (bp g48) ∧ Nq (bp g4) (bp g42) ∧ Nq (bp g4) (bp g48) ∧ Nq (bp g42) (bp g48)) ?_ ⟨(.slice none 0 0), e53, (OwK.nil _ _ _ _), (Nw.nil _), (o0_41.weak (Sc.stab _) (fun _ h => ⟨nh_nil, h.2.2.1, h.2.2.2.1, h.2.2.2.2.1, h.2.1, h.1, trivial⟩)), n0_41, o1_41, n1_41, o2_41, n2_41, o42, n47, o48, n54, (Nq.nil _), (Nq.nil _), (Nq.nil _), (Nq.nil _), (Nq.nil _), q0_1_41, q0_2_41, q43, q50, q1_2_41, q44, q51, q45, q52, q49⟩ (fun x f => upd (upd (f) 13 (i64 x.1.1)) 14 (u8 x.1.2)) ?_ ?_ ?_
        · rintro s55 W W' t ⟨vbbpg42_56, hE56, o0_56, n0_56, o1_56, n1_56, o2_56, n2_56, o3_56, n3_56, o4_56, n4_56, o5_56, n5_56, q0_1_56, q0_2_56, q0_3_56, q0_4_56, q0_5_56, q1_2_56, q1_3_56, q1_4_56, q1_5_56, q2_3_56, q2_4_56, q2_5_56, q3_4_56, q3_5_56, q4_5_56⟩
          exact ⟨vbbpg42_56, (hE56.tn t e53.size), (o0_56.tn (Sc.stab _) t), n0_56, (o1_56.tn (Sc.stab _) t), n1_56, (o2_56.tn t), n2_56, (o3_56.tn t), n3_56, (o4_56.tn t), n4_56, (o5_56.tn t), n5_56, q0_1_56, q0_2_56, q0_3_56, q0_4_56, q0_5_56, q1_2_56, q1_3_56, q1_4_56, q1_5_56, q2_3_56, q2_4_56, q2_5_56, q3_4_56, q3_5_56, q4_5_56⟩
        · intro l x W1 K hK
          refine W_seq ?_
          refine W_reg (by kernel_rfl) ?_
          refine wla rfl rfl (q_assign (v := i64 x.1.1) rfl rfl) ?_
          refine wl_nil ?_
          refine W_th ?_
          refine W_reg (by kernel_rfl) ?_
          refine wla rfl rfl (q_assign (v := u8 x.1.2) rfl rfl) ?_
          refine wl_nil ?_
          exact hK
        · rintro l ⟨y55, hy55⟩ s55 sp55 w57 ⟨vbbpg42_57, hE57, o0_57, n0_57, o1_57, n1_57, o2_57, n2_57, o3_57, n3_57, o4_57, n4_57, o5_57, n5_57, q0_1_57, q0_2_57, q0_3_57, q0_4_57, q0_5_57, q1_2_57, q1_3_57, q1_4_57, q1_5_57, q2_3_57, q2_4_57, q2_5_57, q3_4_57, q3_5_57, q4_5_57⟩ H55
          have kf55 := KeepsFrom.refl w48.heap.size w57
          refine W_block ?_
          refine W_seq ?_
          refine W_draw [0, 1, 2, 5] [(0, 1), (1, 1), (2, 1), (3, 0), (4, 0), (5, 1), (6, 2), (7, 2), (8, 0), (9, 0), (10, 0), (11, 2)] mixed (by kernel_rfl) (by kernel_rfl) (by kernel_rfl) (by kernel_rfl) ?_
          have x58 := Ext.drew w57
          replace o0_57 := o0_57.extL (Sc.stab _) x58 (Lift.ext x58 _)
          replace o1_57 := o1_57.extL (Sc.stab _) x58 (Lift.ext x58 _)
          replace o2_57 := o2_57.ext x58
          replace o3_57 := o3_57.ext x58
          replace o4_57 := o4_57.ext x58
          replace o5_57 := o5_57.ext x58
          have k59 := kf55.ext x58
          have e60 := hE57.trans x58
          refine wsq rfl rfl rfl (q_loadB (u := p0) rfl Try.isAgg27 s3_41 o2_57 rfl) ?_
          refine wsq rfl rfl rfl (q_loadB (u := vbbpg42_57) rfl Try.isAgg22 rfl o4_57 rfl) ?_
          refine wsq rfl rfl rfl (q_loadB (u := p1) rfl Try.isAgg22 s4_41 o3_57 rfl) ?_
          refine wsa rfl rfl rfl (q_move (v := (i64 y55.1)) rfl rfl) ?_
          obtain ⟨c61, hc61, H55⟩ := Option.bind_eq_some_iff.1 H55
          refine wsa rfl rfl rfl (q_adr rfl T22 rfl rfl (hp1.lift (Lift.ext e60 _)) hc61) ?_
          refine wsq rfl rfl rfl (q_loadS rfl T22 rfl (hp1.lift (Lift.ext e60 _)) hc61) ?_
          refine wss rfl rfl rfl (stp_lit (L := [vbbpg42_57, v12, (bp g1), (bp g4), (bp g42), (bp g48)]) (R := (Sc u8)) [(u8 c61), (u8 1)] ([c61, (1 : UInt8)] : List UInt8) rfl T22 rfl (by exact ⟨rfl, rfl, rfl, (cst8 (1 : UInt8) rfl), trivial⟩) rfl (litC u8 (oneC_u8) (us := [(u8 c61), (u8 1)]) (l := ([c61, (1 : UInt8)] : List UInt8)) rfl) rfl (litS u8 (us := [(u8 c61), (u8 1)]) (l := ([c61, (1 : UInt8)] : List UInt8)) rfl) ?_)
          intro v62 w62 o62 n62 g62 l62
          refine ⟨grown_ext g62, ?_⟩
          have x62 := grown_ext g62
          have i62 : By w62 [vbbpg42_57, v12, (bp g1), (bp g4), (bp g42), (bp g48)] v62 (([c61, (1 : UInt8)] : List UInt8)) := OwK.slk (Sc.stab _) _ o62 (fun k hk => (Old.cons (Old.cons (Old.cons (Old.cons (Old.cons (Old.cons (Old.nil _) o5_57.ltB) o4_57.ltB) o3_57.ltB) o2_57.ltB) o1_57.lt) o0_57.lt) k (n62 k hk)) (fun _ h => h.2)
          replace o0_57 := o0_57.extL (Sc.stab _) x62 (Lift.ext x62 _)
          replace o1_57 := o1_57.extL (Sc.stab _) x62 (Lift.ext x62 _)
          replace o2_57 := o2_57.ext x62
          replace o3_57 := o3_57.ext x62
          replace o4_57 := o4_57.ext x62
          replace o5_57 := o5_57.ext x62
          have k63 := k59.ext x62
          have e64 := e60.trans x62
          obtain ⟨r65, hr65, H55⟩ := Option.bind_eq_some_iff.1 H55
          refine wsc rfl (by kernel_rfl) rfl rfl (stp_call (vs := [p0, vbbpg42_57, v62]) Try.func69 rfl rfl rfl (ar3 rfl rfl rfl) (poly_Mul_calls a0f s55 ([c61, (1 : UInt8)] : List UInt8) p0 vbbpg42_57 v62 r65 _ (hp0.lift (Lift.ext e64 _)) (o0_57.rd (Sc.stab _)) (i62.lift (Lift.sub (fun _ _ => trivial))) hr65) ?_)
          rintro _ w65 ⟨v65_0, rfl, x65, n65_0, o65_0⟩
          refine ⟨_, rfl, ?_⟩
          have o65 : OwK (Sc u8) w65 (v65_0 :: [vbbpg42_57, v12, (bp g1), (bp g4), (bp g42), (bp g48)]) 5 v65_0 r65.1 := OwK.scal o65_0 _
          have q66 : Nq vbbpg42_57 v65_0 := o0_57.nq n65_0
          have q67 : Nq v12 v65_0 := o1_57.nq n65_0
          have q68 : Nq (bp g1) v65_0 := o2_57.nq n65_0
          have q69 : Nq (bp g4) v65_0 := o3_57.nq n65_0
          have q70 : Nq (bp g42) v65_0 := o4_57.nq n65_0
          have q71 : Nq (bp g48) v65_0 := o5_57.nq n65_0
          replace i62 := i62.lift (Lift.call _ x65 n65_0)
          replace o0_57 := o0_57.extL (Sc.stab _) x65 (Lift.call _ x65 n65_0)
          replace o1_57 := o1_57.extL (Sc.stab _) x65 (Lift.call _ x65 n65_0)
          replace o2_57 := o2_57.ext x65
          replace o3_57 := o3_57.ext x65
          replace o4_57 := o4_57.ext x65
          replace o5_57 := o5_57.ext x65
          have k72 := k63.ext x65
          have n74 := Nw.ext e64 n65_0
          have e73 := e64.trans x65
          refine wsa rfl rfl rfl (q_move (v := (.tuple #[v65_0, (i64 r65.2)])) rfl rfl) ?_
          refine wsa rfl rfl rfl (q_extract rfl rfl rfl) ?_
          refine wsa rfl rfl rfl (q_extract rfl rfl rfl) ?_
          refine wsn rfl (by kernel_rfl) rfl rfl (stp_storeL (u := v65_0) [v65_0, vbbpg42_57, v12, (bp g1), (bp g4)] [(bp g48)] rfl Try.sizeOf22 rfl rfl o4_57 (oc_own o65) ?_)
          intro w75 o75 g75 l75
          have k76 := k72.own g75 o4_57.cl
          replace i62 := i62.lift l75
          replace o65 := o65.other (Sc.stab _) g75 q70.symm l75
          replace o0_57 := o0_57.other (Sc.stab _) g75 q0_4_57 l75
          replace o1_57 := o1_57.other (Sc.stab _) g75 q1_4_57 l75
          replace o2_57 := o2_57.other g75 q2_4_57
          replace o3_57 := o3_57.other g75 q3_4_57
          replace o5_57 := o5_57.other g75 q4_5_57.symm
          have e77 := e73.grown g75 n4_57
          refine ws_nil ?_
          refine W_th ?_
          refine W_reg (by kernel_rfl) ?_
          refine wlq rfl rfl (q_loadB (u := v65_0) rfl Try.isAgg22 rfl o75 rfl) ?_
          refine wla rfl rfl (q_move (v := (u8 y55.2)) rfl rfl) ?_
          refine wls rfl rfl (stp_lit (L := [v65_0, vbbpg42_57, v12, (bp g1), (bp g4), (bp g42), (bp g48)]) (R := (Sc u8)) [(u8 y55.2)] ([y55.2] : List UInt8) rfl T22 rfl (by exact ⟨rfl, rfl, trivial⟩) rfl (litC u8 (oneC_u8) (us := [(u8 y55.2)]) (l := ([y55.2] : List UInt8)) rfl) rfl (litS u8 (us := [(u8 y55.2)]) (l := ([y55.2] : List UInt8)) rfl) ?_)
          intro v78 w78 o78 n78 g78 l78
          have x78 := grown_ext g78
          have i78 : By w78 [v65_0, vbbpg42_57, v12, (bp g1), (bp g4), (bp g42), (bp g48)] v78 (([y55.2] : List UInt8)) := OwK.slk (Sc.stab _) _ o78 (fun k hk => (Old.cons (Old.cons (Old.cons (Old.cons (Old.cons (Old.cons (Old.cons (Old.nil _) o5_57.ltB) o75.ltB) o3_57.ltB) o2_57.ltB) o1_57.lt) o0_57.lt) o65.lt) k (n78 k hk)) (fun _ h => h.2)
          replace i62 := i62.lift (Lift.ext x78 _)
          replace o65 := o65.extL (Sc.stab _) x78 (Lift.ext x78 _)
          replace o0_57 := o0_57.extL (Sc.stab _) x78 (Lift.ext x78 _)
          replace o1_57 := o1_57.extL (Sc.stab _) x78 (Lift.ext x78 _)
          replace o2_57 := o2_57.ext x78
          replace o3_57 := o3_57.ext x78
          replace o75 := o75.ext x78
          replace o5_57 := o5_57.ext x78
          have k79 := k76.ext x78
          have e80 := e77.trans x78
          obtain ⟨r81, hr81, H55⟩ := Option.bind_eq_some_iff.1 H55
          refine wls rfl rfl (stp_call (vs := [v65_0, v78]) Try.func63 rfl rfl rfl (ar2 rfl rfl) (poly_Add_calls r65.1 ([y55.2] : List UInt8) v65_0 v78 r81 _ (o65.rd (Sc.stab _)) (i78.lift (Lift.sub (fun _ _ => trivial))) hr81) ?_)
          rintro _ w81 ⟨v81, rfl, x81, n81_0, o81_0⟩
          refine ⟨_, rfl, ?_⟩
          have o81 : OwK (Sc u8) w81 (v81 :: [v65_0, vbbpg42_57, v12, (bp g1), (bp g4), (bp g42), (bp g48)]) 5 v81 r81 := OwK.scal o81_0 _
          have q82 : Nq v65_0 v81 := o65.nq n81_0
          have q83 : Nq vbbpg42_57 v81 := o0_57.nq n81_0
          have q84 : Nq v12 v81 := o1_57.nq n81_0
          have q85 : Nq (bp g1) v81 := o2_57.nq n81_0
          have q86 : Nq (bp g4) v81 := o3_57.nq n81_0
          have q87 : Nq (bp g42) v81 := o75.nq n81_0
          have q88 : Nq (bp g48) v81 := o5_57.nq n81_0
          replace i62 := i62.lift (Lift.call _ x81 n81_0)
          replace i78 := i78.lift (Lift.call _ x81 n81_0)
          replace o65 := o65.extL (Sc.stab _) x81 (Lift.call _ x81 n81_0)
          replace o0_57 := o0_57.extL (Sc.stab _) x81 (Lift.call _ x81 n81_0)
          replace o1_57 := o1_57.extL (Sc.stab _) x81 (Lift.call _ x81 n81_0)
          replace o2_57 := o2_57.ext x81
          replace o3_57 := o3_57.ext x81
          replace o75 := o75.ext x81
          replace o5_57 := o5_57.ext x81
          have k89 := k79.ext x81
          have n91 := Nw.ext e80 n81_0
          have e90 := e80.trans x81
          refine wln rfl rfl (stp_storeL (u := v81) [v81, v65_0, vbbpg42_57, v12, (bp g1), (bp g4)] [(bp g48)] rfl Try.sizeOf22 rfl rfl o75 (oc_own o81) ?_)
          intro w92 o92 g92 l92
          have k93 := k89.own g92 o75.cl
          replace i62 := i62.lift l92
          replace i78 := i78.lift l92
          replace o81 := o81.other (Sc.stab _) g92 q87.symm l92
          replace o65 := o65.other (Sc.stab _) g92 q70.symm l92
          replace o0_57 := o0_57.other (Sc.stab _) g92 q0_4_57 l92
          replace o1_57 := o1_57.other (Sc.stab _) g92 q1_4_57 l92
          replace o2_57 := o2_57.other g92 q2_4_57
          replace o3_57 := o3_57.other g92 q3_4_57
          replace o5_57 := o5_57.other g92 q4_5_57.symm
          have e94 := e90.grown g92 n4_57
          refine wl_nil ?_
          refine bk_n ?_
          obtain rfl := Option.some.inj H55
          exact ⟨k93, ⟨o5_57, _, rfl, (o1_57.rd (Sc.stab _))⟩, v81, e94, (o81.weak (Sc.stab _) (fun _ h => ⟨h.1, h.2.2.2.1, h.2.2.2.2.1, h.2.2.2.2.2.1, h.2.2.2.2.2.2.1, h.2.2.2.2.2.2.2.1, trivial⟩)), n91, (o1_57.weak (Sc.stab _) (fun _ h => ⟨h.1, h.2.2.2.1, h.2.2.2.2.1, h.2.2.2.2.2.1, h.2.2.2.2.2.2.1, h.2.2.2.2.2.2.2.1, trivial⟩)), n1_57, o2_57, n2_57, o3_57, n3_57, o92, n4_57, o5_57, n5_57, q84.symm, q85.symm, q86.symm, q87.symm, q88.symm, q1_2_57, q1_3_57, q1_4_57, q1_5_57, q2_3_57, q2_4_57, q2_5_57, q3_4_57, q3_5_57, q4_5_57⟩
        · intro D55 w95 hD55 ⟨vbbpg42_95, hE95, o0_95, n0_95, o1_95, n1_95, o2_95, n2_95, o3_95, n3_95, o4_95, n4_95, o5_95, n5_95, q0_1_95, q0_2_95, q0_3_95, q0_4_95, q0_5_95, q1_2_95, q1_3_95, q1_4_95, q1_5_95, q2_3_95, q2_4_95, q2_5_95, q3_4_95, q3_5_95, q4_5_95⟩ hK55
          have hd55 := Nat.le_trans e53.size hD55
          have kd55 := KeepsFrom.refl 0 w95
          refine bk_n ?_
          refine W_th ?_
          refine W_seq ?_
          refine W_reg (by kernel_rfl) ?_
          refine wlq rfl rfl (q_loadB (u := vbbpg42_95) rfl Try.isAgg22 rfl o4_95 rfl) ?_
          refine wla rfl rfl (q_assign (v := vbbpg42_95) rfl rfl) ?_
          refine wla rfl rfl (q_assign (v := (i64 0)) rfl rfl) ?_
          refine wl_nil ?_
          refine W_th ?_
          refine W_ret ?_
          obtain rfl := Option.some.inj H
          have hk96 := kd55.same D55 _ (Nat.zero_le _) hK55 rfl
          have t96 := Tn.put hk96 hd55 (.deferred none)
          refine rtm2 vbbpg42_95 (i64 0) rfl rfl rfl rfl rfl rfl hk96 ?_
          exact ⟨vbbpg42_95, rfl, (hE95.tn t96 (Nat.le_refl _)), n0_95, ((o0_95.tn (Sc.stab _) t96).weak (Sc.stab _) (fun _ _ => trivial))⟩

end Gk
