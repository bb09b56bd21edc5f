/- slices.Clone walks, over bytes and over numbers. No condition but the length. -/
import Derived.Test.YtabcmfkmddlaaaaS
import Derived.Test.YtabcmfkmddlaaaaGl
set_option linter.unusedVariables false
set_option linter.unusedSimpArgs false
namespace Gk
open Go Go.Proofs

def slices_Clone_sbytebyte (a0 : List UInt8) : Option (List UInt8) := appL [] a0
set_option maxRecDepth 100000 in
set_option maxHeartbeats 8000000 in
theorem slices_Clone_sbytebyte_calls (a0 : List UInt8) (p0 : Value) (r : List UInt8) (w0 : World) (hp0 : By w0 [] p0 a0) (H : slices_Clone_sbytebyte a0 = some r) :
    Calls Try.prog 57 [p0].toArray w0 (fun e w' => ∃ u0 : Value, e = .returned u0 ∧ Ext w0 w' ∧ Nw w0 u0 ∧ OwK (Sc u8) w' [] 5 u0 r) := by
  unfold slices_Clone_sbytebyte at H
  have hE : Ext w0 w0 := Ext.refl w0
  obtain ⟨pp, cap, rfl, hcap⟩ := SlK.shape hp0
  refine calls_W (n := 8) Try.func57 rfl rfl rfl ?_
  refine W_seq ?_
  refine W_reg (by kernel_rfl) ?_
  refine wla rfl rfl (q_assign (v := .slice none 0 0) rfl rfl) ?_
  refine wl_nil ?_
  refine W_th ?_
  refine W_seq ?_
  refine W_seq ?_
  refine W_reg (by kernel_rfl) ?_
  refine wla rfl rfl (q_move (v := .slice pp a0.length cap) rfl rfl) ?_
  refine wla rfl rfl (q_eqSl rfl T22.sl rfl rfl) ?_
  refine wl_nil ?_
  refine W_th ?_
  refine W_cond _ rfl rfl (fun hb => ?_) (fun hb => ?_)
  · have h0 : a0 = [] := by
      obtain ⟨us, ⟨p, cap', hv, _, hne⟩, hl, _⟩ := hp0
      cases us with
      | nil => exact List.eq_nil_of_length_eq_zero hl.symm
      | cons u us =>
        obtain ⟨b, off, rfl, _⟩ := hne (by simp)
        simp only [Value.slice.injEq] at hv
        rw [hv.1] at hb; cases hb
    subst h0
    obtain rfl : r = [] := by simpa [appL] using H.symm
    refine W_seq ?_
    refine W_reg (by kernel_rfl) ?_
    refine wla rfl rfl (q_assign (v := .slice none 0 0) rfl rfl) ?_
    refine wl_nil ?_
    refine W_th ?_
    refine W_ret ?_
    refine rt1 (.slice none 0 0) rfl rfl rfl rfl ?_
    exact ⟨_, rfl, hE, Nw.nil _, OwK.nil _ _ _ _⟩
  · refine W_skip ?_
    refine W_th ?_
    refine W_seq ?_
    refine W_reg (by kernel_rfl) ?_
    refine wls rfl rfl (stp_lit (L := []) (R := (Sc u8)) [] ([] : List UInt8) rfl T22 rfl (by exact trivial) rfl (litC u8 oneC_u8 (us := []) (l := ([] : List UInt8)) rfl) rfl (litS u8 (us := []) (l := ([] : List UInt8)) rfl) ?_)
    intro v1 w1 o1 n1 g1 l1
    have e1 := hE.trans (grown_ext g1)
    refine wla rfl rfl (q_move (v := .slice pp a0.length cap) rfl rfl) ?_
    refine wls rfl rfl (stp_append (R := (Sc u8)) (v := v1) (u := .slice pp a0.length cap) (Sc.stab _) [] [] rfl T22 rfl rfl o1 (hp0.lift (Lift.ext e1 _)) (fun _ _ h => h) H oc_u8 ?_)
    intro v2 w2 o2 g2 nx2 l2
    refine wla rfl rfl (q_assign (v := v2) rfl rfl) ?_
    refine wl_nil ?_
    refine W_th ?_
    refine W_ret ?_
    refine rt1 v2 rfl rfl rfl rfl ?_
    exact ⟨v2, rfl, e1.grown g2 n1, Nw.nxt e1 n1 nx2, o2.weak (Sc.stab _) (fun _ _ => trivial)⟩

end Gk
