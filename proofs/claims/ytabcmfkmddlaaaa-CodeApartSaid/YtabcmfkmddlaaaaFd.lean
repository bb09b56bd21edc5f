/- poly.Degree walks: the place of the last number that is not 0. No condition but the length. -/
import Derived.Test.YtabcmfkmddlaaaaFc
set_option linter.unusedVariables false
set_option linter.unusedSimpArgs false
namespace Gk
open Go Go.Proofs Go.RowKit

/-- The first of the pairs whose number is not 0: its place; -1: there is none. -/
def firstNZ : List (Int × UInt8) → Int
  | [] => -1
  | (i, c) :: r => if c = 0 then firstNZ r else i
def degI (p : List UInt8) : Int := firstNZ (revI p)
def undefF : Nat → Value := fun _ => undef
noncomputable def poly_Degree (p : List UInt8) : Option Int := if p.length < 9223372036854775808 then some (degI p) else none

theorem firstNZ_stop : ∀ (a : List (Int × UInt8)) (i : Int) (c : UInt8) (b : List (Int × UInt8)), (∀ x ∈ a, x.2 = 0) → c ≠ 0 → firstNZ (a ++ (i, c) :: b) = i
  | [], i, c, b, _, hc => by simp [firstNZ, hc]
  | (j, d) :: a, i, c, b, h, hc => by
    have h0 : d = 0 := h (j, d) (by simp)
    simp only [List.cons_append, firstNZ, h0, if_true]
    exact firstNZ_stop a i c b (fun x hx => h x (by simp [hx])) hc
theorem firstNZ_none : ∀ (a : List (Int × UInt8)), (∀ x ∈ a, x.2 = 0) → firstNZ a = -1
  | [], _ => rfl
  | (j, d) :: a, h => by
    have h0 : d = 0 := h (j, d) (by simp)
    simp only [firstNZ, h0, if_true]
    exact firstNZ_none a (fun x hx => h x (by simp [hx]))

set_option maxRecDepth 100000 in
set_option maxHeartbeats 8000000 in
theorem poly_Degree_calls (a0p : List UInt8) (p0 : Value) (r : Int) (w0 : World) (hp0 : By w0 [] p0 a0p) (H : poly_Degree a0p = some r) :
    Calls Try.prog 71 [p0].toArray w0 (fun e w' => e = .returned (i64 r) ∧ Ext w0 w') := by
  have hE : Ext w0 w0 := Ext.refl w0
  unfold poly_Degree at H
  split at H
  case isFalse => cases H
  rename_i hlen
  obtain rfl := Option.some.inj H
  have hcells : p0.cells = #[p0] := cells_sl _ _ hp0
  refine calls_W (n := 12) Try.func71 rfl rfl rfl ?_
  refine W_seq ?_
  refine W_reg (by kernel_rfl) ?_
  refine wls rfl rfl (stp_alloc (z := i64 0) rfl Try.zeroValue3 ?_)
  intro w1 hB1 hg1
  have e1 := hE.trans (grown_ext hg1)
  generalize hgg : w0.heap.size = g at hB1
  have hB1' : Blk w1 g 3 #[i64 0] := hB1
  refine wl_nil ?_
  refine W_th ?_
  refine W_seq ?_
  refine W_seq ?_
  refine W_reg (by kernel_rfl) ?_
  refine wla rfl rfl (q_move (v := p0) rfl rfl) ?_
  refine wls rfl rfl (stp_call (vs := [p0]) Try.func72 rfl rfl rfl (ar1 rfl) (Backward_calls p0 hcells w1) ?_)
  rintro _ w2 ⟨rfl, hB2, x2⟩
  refine ⟨_, rfl, ?_⟩
  have e2 := e1.trans x2
  have hBg : Blk w2 g 3 #[i64 0] := hB1'.ext x2
  refine wl_nil ?_
  refine W_th ?_
  refine W_block ?_
  have hby : By w2 [] p0 a0p := hp0.lift (Lift.ext e2 _)
  have hB2s : w1.heap.size < w2.heap.size := hB2.lt
  have hs2 : g < w2.heap.size := hBg.lt
  refine W_range2 (α := Int × UInt8) (ea := fun x => i64 x.1) (eb := fun x => u8 x.2) rfl rfl (gf := 73) (lb := #[.pointer (some ⟨w1.heap.size, 0, none⟩)]) rfl (enters Try.func73 rfl rfl)
    (backward_stops w2.heap.size [g] p0 a0p w1.heap.size w2 hby (hp0.inB e2.size (by simp; omega)) hB2 hB2s (by have := hB1'.lt; simp; omega) (Nat.le_refl _) hlen) (fun h k => h.trans k) ?_ (Below.refl _ _) rfl rfl
    (fun xs w => (∀ x ∈ xs, x.2 = 0) ∧ Blk w g 3 #[i64 0] ∧ Ext w0 w)
    (fun xs w => ∃ a i c, xs = a ++ [(i, c)] ∧ (∀ x ∈ a, x.2 = 0) ∧ c ≠ 0 ∧ Blk w g 3 #[i64 i] ∧ Ext w0 w) ?_ ?_ ⟨by simp, hBg, e2⟩
    (fun x f => upd (upd f 3 (i64 x.1)) 4 (u8 x.2)) ?_ ?_ ?_ ?_
  · intro W l o o' hl _ _ _
    exact KpG.putObj W o' hl
  · intro xs W W' row ⟨h1, h2, h3⟩ hg hr
    exact ⟨h1, h2.grownO hg (fun k e => by have := (hr k e).1; omega), h3.grownO hg (fun k e => by have := (hr k e).1; have := e2.size; omega)⟩
  · rintro xs W W' row ⟨a, i, c, h0, h1, hc, h2, h3⟩ hg hr
    exact ⟨a, i, c, h0, h1, hc, h2.grownO hg (fun k e => by have := (hr k e).1; omega), h3.grownO hg (fun k e => by have := (hr k e).1; have := e2.size; omega)⟩
  · intro l x W1 K hK
    refine W_seq ?_
    refine W_reg (by kernel_rfl) ?_
    refine wla rfl rfl (q_assign (v := i64 x.1) rfl rfl) ?_
    refine wl_nil ?_
    refine W_th ?_
    refine W_reg (by kernel_rfl) ?_
    refine wla rfl rfl (q_assign (v := u8 x.2) rfl rfl) ?_
    refine wl_nil ?_
    exact hK
  · rintro l pre x W1 ⟨h1, h2, h3⟩ _
    refine W_block ?_
    refine W_seq ?_
    refine W_reg (by kernel_rfl) ?_
    refine wla rfl rfl (q_move (v := u8 x.2) rfl rfl) ?_
    refine wla rfl rfl (q_ne8 rfl rfl (cst8 (0 : UInt8) rfl)) ?_
    refine wl_nil ?_
    refine W_th ?_
    refine W_cond _ rfl rfl (fun hb => ?_) (fun hb => ?_)
    · have hc := ndec_t hb
      refine W_seq ?_
      refine W_reg (by kernel_rfl) ?_
      refine wla rfl rfl (q_move (v := i64 x.1) rfl rfl) ?_
      refine wln rfl rfl (stp_storeB (g := g) (m := 0) (u := i64 x.1) rfl Try.sizeOf3 (by rw [← hgg]; rfl) rfl h2 (by decide) rfl ?_)
      intro W2 hB3 hg3
      refine wl_nil ?_
      refine W_th ?_
      refine W_ret ?_
      exact ⟨KeepsFrom.of_grownBy hg3 (fun j e => by cases e; exact hs2), pre, x.1, x.2, rfl, h1, hc, hB3, h3.grownB hg3 (Nat.le_of_eq hgg)⟩
    · have hc := ndec_f hb
      refine W_skip ?_
      refine ⟨KeepsFrom.refl _ _, KpG.refl _ _ _, ?_, h2, h3⟩
      intro y hy
      rcases List.mem_append.1 hy with hy | hy
      · exact h1 y hy
      · rw [List.mem_singleton.1 hy]; exact hc
  · rintro D xs W1 hD rfl ⟨h1, h2, h3⟩ hK
    have hgD : g ≠ D := by omega
    refine bk_n ?_
    refine W_th ?_
    refine W_seq ?_
    refine W_reg (by kernel_rfl) ?_
    refine wln rfl rfl (stp_storeB (g := g) (m := 0) (u := i64 (-1)) rfl Try.sizeOf3 (by rw [← hgg]; rfl) rfl h2 (by decide) rfl ?_)
    intro W2 hB3 hg3
    refine wl_nil ?_
    refine W_th ?_
    refine W_ret ?_
    have hdeg : degI a0p = -1 := firstNZ_none _ h1
    refine rtc_mark (g := g) (u := i64 (-1)) rfl rfl (by rw [← hgg]; rfl) rfl ?_ Try.isAgg3 hB3 ?_
    · rw [hg3.block D (Array.getElem?_eq_some_iff.1 hK).1 (fun e => hgD (by cases e; rfl))]; exact hK
    · rw [hdeg]
      exact ⟨rfl, (h3.grownB hg3 (Nat.le_of_eq hgg)).putD D _ (by have := e2.size; omega)⟩
  · rintro D pre W1 hD hpre ⟨a, i, c, rfl, h1, hc, h2, h3⟩ hK
    refine bk_r ?_
    refine th_r ?_
    have hdeg : degI a0p = i := by
      obtain ⟨b, hb⟩ := hpre
      unfold degI
      rw [← hb, List.append_assoc]
      exact firstNZ_stop a i c b h1 hc
    refine rtc_mark (g := g) (u := i64 i) rfl rfl (by rw [← hgg]; rfl) rfl hK Try.isAgg3 h2 ?_
    rw [hdeg]
    exact ⟨rfl, h3.putD D _ (by have := e2.size; omega)⟩
end Gk
