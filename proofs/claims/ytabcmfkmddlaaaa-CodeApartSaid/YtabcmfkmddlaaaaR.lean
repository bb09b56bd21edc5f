/- From a statement's arguments to what the walks are told of them; and back. No condition. -/
import Derived.Test.YtabcmfkmddlaaaaGh
import Derived.ProofKit
import Derived.OpenShut
import Derived.ChangeOld
import Derived.Below
set_option linter.unusedVariables false
set_option linter.unusedSimpArgs false
namespace Gk
open Go Go.ChangeShapes Go.WideShapes Go.ChangeAt Go.RowKit

section
variable {H : Type} {enc : TypeId × Value → H} {P : Program} {W : World} {t e : TypeId} {v : Value} {d : DataW H} {p : List MemPlace} {r : Reach} {b0 : Nat}

/-- What reads as data of type e is x, by R. -/
def El {α : Type} (H : Type) (enc : TypeId × Value → H) (P : Program) (W : World) (e : TypeId) (R : World → List Value → Value → α → Prop) : Prop :=
  ∀ (fuel : Nat) (u : Value) (y : DataW H × List MemPlace), DataW.trod enc P W 0 (fun _ => true) true fuel e [u] = some y → ∃ x, R W [] u x

theorem of_wf_u8 {n : Int} (h : (Lit.int .u8 n).wf = true) : Value.int .u8 n = u8 (UInt8.ofNat n.toNat) := by
  simp [Lit.wf, IntKind.has, IntKind.min, IntKind.max, IntKind.signed, IntKind.bits] at h
  simp only [u8, Value.int.injEq, true_and]
  have : (UInt8.ofNat n.toNat).toNat = n.toNat := by simp; omega
  rw [this]; omega
theorem of_wf_u64 {n : Int} (h : (Lit.int .u64 n).wf = true) : Value.int .u64 n = u64 (UInt64.ofNat n.toNat) := by
  simp [Lit.wf, IntKind.has, IntKind.min, IntKind.max, IntKind.signed, IntKind.bits] at h
  simp only [u64, Value.int.injEq, true_and]
  have : (UInt64.ofNat n.toNat).toNat = n.toNat := by simp; omega
  rw [this]; omega
theorem of_wf_i64 {n : Int} (h : (Lit.int .i64 n).wf = true) : -9223372036854775808 ≤ n ∧ n ≤ 9223372036854775807 := by
  simp [Lit.wf, IntKind.has, IntKind.min, IntKind.max, IntKind.signed, IntKind.bits] at h
  omega

theorem el_u8 (he : P.underlying e = some (.int .u8)) : El H enc P W e (Sc u8) := by
  intro fuel u y h
  obtain ⟨n, hc, _, hw⟩ := DataW.trod_int he h
  simp at hc; subst hc
  exact ⟨_, of_wf_u8 hw⟩
theorem el_i64 (he : P.underlying e = some (.int .i64)) : El H enc P W e (Sc i64) := by
  intro fuel u y h
  obtain ⟨n, hc, _, hw⟩ := DataW.trod_int he h
  simp at hc; subst hc
  exact ⟨n, rfl⟩
theorem el_u64 (he : P.underlying e = some (.int .u64)) : El H enc P W e (Sc u64) := by
  intro fuel u y h
  obtain ⟨n, hc, _, hw⟩ := DataW.trod_int he h
  simp at hc; subst hc
  exact ⟨_, of_wf_u64 hw⟩
theorem el_bl (he : P.underlying e = some .bool) : El H enc P W e (Sc bl) := by
  intro fuel u y h
  obtain ⟨n, hc, _⟩ := DataW.trod_bool he h
  simp at hc; subst hc
  exact ⟨n, rfl⟩
theorem el_sl {α : Type} {R : World → List Value → Value → α → Prop} (ht : P.underlying t = some (.slice e)) (hc : P.cellsOf e = 1) (hR : El H enc P W e R) : El H enc P W t (SlK R) := by
  intro fuel u y h
  rcases DataW.trod_slice ht h with ⟨hcs, _⟩ | ⟨a, len, cap, elems, rest, n, _, hcs, _, _, hl, _, hlen, hel, _, _⟩
  · simp at hcs; subst hcs; exact ⟨[], SlK.nil _ _ _⟩
  · simp at hcs; subst hcs
    have each : ∀ i, i < len → ∃ c x, W.cell? (a.add i) = some c ∧ R W [] c x := by
      intro i hi
      have h1 := hel i hi
      rw [hc, Nat.mul_one] at h1
      have h2 : i < elems.length := by omega
      rw [List.getElem?_eq_getElem h2, Option.bind_eq_some_iff] at h1
      obtain ⟨cs, hcs, hy⟩ := h1
      have hl1 := World.cells?_some hcs
      match cs, hl1 with
      | [c], hl1 =>
        obtain ⟨x, hx⟩ := hR _ _ _ hy
        refine ⟨c, x, ?_, hx⟩
        have := hl1.2.2 0 (by omega)
        simpa [Addr.add] using this
      | [], hl1 => exact absurd hl1.2.1 (by simp)
      | _ :: _ :: _, hl1 => exact absurd hl1.2.1 (by simp)
    by_cases h0 : len = 0
    · subst h0
      exact ⟨[], [], ⟨some a, cap, rfl, hl, fun hn => absurd rfl hn⟩, rfl, fun i hi => by simp at hi⟩
    · obtain ⟨b, off, spot⟩ := a
      have hspot : spot = none := by
        obtain ⟨c, x, hc, _⟩ := each 0 (by omega)
        simpa [Addr.add] using World.cell?_spot hc
      subst hspot
      have each' : ∀ i, i < len → ∃ c x, W.cell? ⟨b, off + i, none⟩ = some c ∧ R W [] c x := fun i hi => by
        have := each i hi
        rwa [add_off] at this
      have hch : ∃ us : List Value, ∃ l : List α, us.length = len ∧ l.length = len ∧ ∀ i (h : i < us.length) (h' : i < l.length), W.cell? ⟨b, off + i, none⟩ = some us[i] ∧ R W [] us[i] l[i] := by
        refine ⟨(List.range len).attach.map (fun i => Classical.choose (each' i.1 (List.mem_range.1 i.2))), (List.range len).attach.map (fun i => Classical.choose (Classical.choose_spec (each' i.1 (List.mem_range.1 i.2)))), by simp, by simp, fun i h1 h2 => ?_⟩
        have hi : i < len := by simpa using h1
        have hs := Classical.choose_spec (Classical.choose_spec (each' i hi))
        simp only [List.getElem_map, List.getElem_attach, List.getElem_range]
        exact hs
      obtain ⟨us, l, hu, hll, hE⟩ := hch
      refine ⟨l, us, ⟨some ⟨b, off, none⟩, cap, by rw [hu], by omega, fun _ => ⟨b, off, rfl, trivial, fun i hi => (hE i hi (by omega)).1⟩⟩, by omega, fun i h1 h2 => (hE i h1 h2).2⟩

theorem rd_u8 (ht : P.underlying t = some (.int .u8)) (hval : Value.okWide P W r b0 t v) (h : DataW.Trod enc P W 0 (fun _ => true) true t v d p) : ∃ a, v = u8 a := by
  obtain ⟨x, rfl, _, _, wx⟩ := open_int ht hval h
  exact ⟨_, of_wf_u8 wx⟩
theorem rd_u64 (ht : P.underlying t = some (.int .u64)) (hval : Value.okWide P W r b0 t v) (h : DataW.Trod enc P W 0 (fun _ => true) true t v d p) : ∃ a, v = u64 a := by
  obtain ⟨x, rfl, _, _, wx⟩ := open_int ht hval h
  exact ⟨_, of_wf_u64 wx⟩
theorem rd_i64 (ht : P.underlying t = some (.int .i64)) (hval : Value.okWide P W r b0 t v) (h : DataW.Trod enc P W 0 (fun _ => true) true t v d p) : ∃ a, v = i64 a ∧ -9223372036854775808 ≤ a ∧ a ≤ 9223372036854775807 := by
  obtain ⟨x, rfl, _, _, wx⟩ := open_int ht hval h
  exact ⟨x, rfl, of_wf_i64 wx⟩
theorem rd_bl (ht : P.underlying t = some .bool) (hval : Value.okWide P W r b0 t v) (h : DataW.Trod enc P W 0 (fun _ => true) true t v d p) : ∃ a, v = bl a := by
  obtain ⟨x, rfl, _, _⟩ := open_bool ht hval h
  exact ⟨x, rfl⟩
theorem rd_sl {α : Type} {R : World → List Value → Value → α → Prop} (ht : P.underlying t = some (.slice e)) (hc : P.cellsOf e = 1) (hR : El H enc P W e R) (hval : Value.okWide P W r b0 t v)
    (h : DataW.Trod enc P W 0 (fun _ => true) true t v d p) : ∃ l, SlK R W [] v l := by
  obtain ⟨a0, len0, cap0, rfl⟩ := okWide_slice ht hval
  obtain ⟨fuel, hf⟩ := h
  exact el_sl ht hc hR fuel _ _ (by simpa [Value.cells] using hf)

theorem rd_slL {α : Type} {R : World → List Value → Value → α → Prop} (ht : P.underlying t = some (.slice e)) (hc : P.cellsOf e = 1) (hR : El H enc P W e R) (hval : Value.okWide P W r b0 t v)
    (h : DataW.Trod enc P W 0 (fun _ => true) true t v d p) : ∃ l, SlK R W [] v l ∧ l.length ≤ 9223372036854775807 := by
  obtain ⟨l, hl⟩ := rd_sl ht hc hR hval h
  refine ⟨l, hl, ?_⟩
  obtain ⟨p, cap, rfl, hcap⟩ := hl.shape
  simp only [Value.okWide, ht, Cell.okWide, Cell.ok] at hval
  cases p with
  | none =>
    have h0 : l.length = 0 := by
      cases hn : l.length with
      | zero => rfl
      | succ n => rw [hn] at hval; cases cap <;> exact hval.elim
    omega
  | some a =>
    have h2 : (cap : Int) ≤ IntKind.i64.max := hval.2.1
    have h3 : IntKind.i64.max = 9223372036854775807 := rfl
    rw [h3] at h2
    omega

/-! And back. -/
theorem Ext.same {W W' : World} (h : Ext W W') {q : MemPlace} (hq : q.block < W.heap.size) : W.sameAt W' q := by
  cases q with
  | cell b o => exact World.cell?_of_block (w := W) (h.blk b hq)
  | map b => exact h.blk b hq
theorem Ext.trod {W' : World} (hl : laidOutB P = true) (hr : P.readableRec t = true) (hrow : t < P.types.size) (h : DataW.Trod enc P W 0 (fun _ => true) true t v d p) (x : Ext W W') :
    DataW.Trod enc P W' 0 (fun b => decide (b < W.heap.size)) true t v d p := by
  have hlt : ∀ q ∈ p, q.block < W.heap.size := by obtain ⟨m, hm⟩ := h; exact DataW.trod_lt m _ _ _ hm
  exact WideElems.Trod_stays hl hr hrow h (fun q hq => x.same (hlt q hq)) (fun q hq => by simpa using hlt q hq)
theorem Ext.frame {W' : World} (h : Ext W W') (may : MemPlace → Prop) : W.keptBut W' may := by
  refine ⟨h.os, h.output, fun i hi => ?_⟩
  rw [h.blk i hi]
  cases hx : W.heap[i]? with
  | none => rfl
  | some o => cases o <;> simp
end
end Gk
