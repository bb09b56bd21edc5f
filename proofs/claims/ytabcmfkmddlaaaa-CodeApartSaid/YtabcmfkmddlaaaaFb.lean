/- The field is made: its tables are those of Gf. No condition. -/
import Derived.Test.YtabcmfkmddlaaaaFa
import Derived.Test.YtabcmfkmddlaaaaGi
import Derived.Test.YtabcmfkmddlaaaaMb
set_option linter.unusedVariables false
set_option linter.unusedSimpArgs false
namespace Gk
open Go Go.Proofs

/-- The cells of a field as it is made. -/
def zF : Array Value := fieldCells (List.replicate 510 0) (List.replicate 256 0)
theorem zeroF : (Try.prog.info? 69).map (fun i => i.zero) = some (some (.agg zF)) := by kernel_rfl
theorem build0 (w : World) : (Instr.build 69 #[]).run Try.prog w = .ok (.agg zF) w := by
  have h := zeroF
  cases hi : Try.prog.info? 69 with
  | none => rw [hi] at h; cases h
  | some i =>
    rw [hi] at h
    have hz : i.zero = some (.agg zF) := by simpa using h
    have hzr : (zeroValue 69).run Try.prog w = .ok (.agg zF) w := by
      simp [zeroValue, typeInfo, hi, hz]
    simp [Instr.build, hzr, Value.cells, Instr.fill]

theorem fc_pw (pw : List UInt8) (lg : List Int) (k : Nat) (c : UInt8) (h : k < pw.length) : (fieldCells pw lg).setIfInBounds k (u8 c) = fieldCells (pw.set k c) lg := by
  simp [fieldCells, List.set_append, h, List.map_set]
theorem fc_lg (pw : List UInt8) (lg : List Int) (k : Nat) (c : Int) : (fieldCells pw lg).setIfInBounds (pw.length + k) (i64 c) = fieldCells pw (lg.set k c) := by
  simp [fieldCells, List.set_append, List.map_set]
theorem fc_size (pw : List UInt8) (lg : List Int) : (fieldCells pw lg).size = pw.length + lg.length := by simp [fieldCells]

def newB (n : Nat) : Option (Nat ⊕ Unit) := if n < 255 then some (.inl (n + 1)) else some (.inr ())
theorem newB_some : iterC newB 0 = some () := iterC_count (fun n => n) 255 () rfl (fun i hi => by simp [newB, hi]) (by simp [newB])
/-- The pure function: a field. -/
def field_New : Option Bool := some true

set_option maxRecDepth 100000 in
set_option maxHeartbeats 8000000 in
theorem field_New_calls (r : Bool) (w0 : World) (L0 : List Value) (hL0 : Old w0 L0) (H : field_New = some r) :
    Calls Try.prog 14 [].toArray w0 (fun e w' => ∃ u0 : Value, e = .returned u0 ∧ Ext w0 w' ∧ Fd w' L0 u0 r) := by
  have hE : Ext w0 w0 := Ext.refl w0
  obtain rfl := Option.some.inj H
  refine calls_W (n := 32) Try.func14 rfl rfl rfl ?_
  refine W_seq ?_
  refine W_reg (by kernel_rfl) ?_
  refine wla rfl rfl (q_assign (v := .pointer none) rfl rfl) ?_
  refine wl_nil ?_
  refine W_th ?_
  refine W_seq ?_
  refine W_reg (by kernel_rfl) ?_
  refine wla rfl rfl (v := .agg zF) (fun w => by simp [execOp, build0]) ?_
  refine wls rfl rfl (stp_box (v := .agg zF) rfl rfl ?_)
  intro w1 hb hg
  have e1 := hE.trans (grown_ext hg)
  generalize hgg : w0.heap.size = g at hb
  have hgn : w0.heap.size ≤ g := Nat.le_of_eq hgg
  refine wla rfl rfl (q_assign (v := .pointer (some ⟨g, 0, none⟩)) rfl rfl) ?_
  refine wl_nil ?_
  refine W_th ?_
  refine W_seq ?_
  refine W_reg (by kernel_rfl) ?_
  refine wla rfl rfl (q_assign (v := u8 1) rfl (cst8 1 rfl)) ?_
  refine wl_nil ?_
  refine W_th ?_
  refine W_seq ?_
  refine W_seq ?_
  refine W_reg (by kernel_rfl) ?_
  refine wla rfl rfl (q_move (v := i64 0) rfl rfl) ?_
  refine wl_nil ?_
  refine W_th ?_
  refine W_mid (fun f w => f 32 = undef ∧ f 1 = .pointer (some ⟨g, 0, none⟩) ∧ Ext w0 w ∧ Blk w g 69 (fieldCells Gf.pwT Gf.lgT)) ?_ ?_
  · refine W_block ?_
    refine W_loop (fun (n : Nat) f w => f 32 = undef ∧ n ≤ 255 ∧ f 6 = i64 (n : Int) ∧ f 1 = .pointer (some ⟨g, 0, none⟩) ∧ f 2 = u8 (Gf.pw n) ∧ Ext w0 w ∧ Blk w g 69 (fieldCells (Gf.tabN n).1 (Gf.tabN n).2.1)) newB_some ?_ ?_
    · exact ⟨rfl, by decide, rfl, rfl, rfl, e1, hb⟩
    · rintro n r _ w ⟨hm, hn, s6, s1, s2, e, hB⟩ hr hx
      have hl := Gf.tab_len n
      refine W_seq ?_
      refine W_reg (by kernel_rfl) ?_
      refine wla rfl rfl (q_ltI rfl s6 rfl) ?_
      refine wl_nil ?_
      refine W_th ?_
      refine W_seq ?_
      refine W_cond _ rfl rfl (fun hb9 => ?_) (fun hb9 => ?_)
      · have hlt : n < 255 := by have := of_decide_eq_true hb9; omega
        have hr' : some (Sum.inl (n + 1)) = some r := by rw [← hr, newB, if_pos hlt]
        obtain rfl := Option.some.inj hr'
        refine W_skip ?_
        refine W_th ?_
        refine W_seq ?_
        refine W_block ?_
        refine W_seq ?_
        refine W_reg (by kernel_rfl) ?_
        refine wla rfl rfl (q_move (v := i64 (n : Int)) rfl s6) ?_
        refine wla rfl rfl (q_assign (v := i64 (n : Int)) rfl rfl) ?_
        refine wl_nil ?_
        refine W_th ?_
        refine W_seq ?_
        refine W_draw [] [(0, 0), (1, 0), (2, 0), (3, 0), (4, 0), (5, 0), (6, 0), (7, 0), (8, 0), (9, 0), (11, 0), (12, 0), (10, 2), (13, 0), (14, 2)] mixed (by kernel_rfl) (by kernel_rfl) (by kernel_rfl) (by kernel_rfl) ?_
        have x1 := Ext.drew w
        replace e := e.trans x1
        replace hB := hB.ext x1
        have ew : wI ((n : Int) + 255) = ((n + 255 : Nat) : Int) := by rw [wI_of (by omega) (by omega)]; omega
        refine wsa rfl rfl rfl (q_move (v := .pointer (some ⟨g, 0, none⟩)) rfl s1) ?_
        refine wsa rfl rfl rfl (q_move (v := i64 (n : Int)) rfl rfl) ?_
        refine wsa rfl rfl rfl (q_move (v := .pointer (some ⟨g, 0, none⟩)) rfl s1) ?_
        refine wsa rfl rfl rfl (q_move (v := i64 (n : Int)) rfl rfl) ?_
        refine wsa rfl rfl rfl (q_addI rfl rfl rfl) ?_
        rw [ew]
        refine wsa rfl rfl rfl (q_move (v := u8 (Gf.pw n)) rfl s2) ?_
        refine wsa rfl rfl rfl (q_move (v := u8 (Gf.pw n)) rfl s2) ?_
        refine wsa rfl rfl rfl (q_nilP rfl rfl) ?_
        refine wsa rfl rfl rfl (q_fldP rfl fieldAt0 rfl) ?_
        refine wsa rfl rfl rfl (q_ixP (i := n) rfl Try.underlying66 Try.sizeOf5 rfl rfl (by omega)) ?_
        refine wsa rfl rfl rfl (q_nilP rfl rfl) ?_
        refine wsa rfl rfl rfl (q_fldP rfl fieldAt0 rfl) ?_
        refine wsn rfl (by kernel_rfl) rfl rfl (stp_storeB (u := u8 (Gf.pw n)) rfl Try.sizeOf5 rfl rfl hB (by rw [fc_size, hl.1, hl.2]; omega) rfl ?_)
        intro w2 hB2 g2
        rw [show 0 + 0 + n = n by omega, fc_pw _ _ _ _ (by rw [hl.1]; omega)] at hB2
        replace e := e.grownB g2 hgn
        refine wsa rfl rfl rfl (q_ixP (i := n + 255) rfl Try.underlying66 Try.sizeOf5 rfl rfl (by omega)) ?_
        refine wsn rfl (by kernel_rfl) rfl rfl (stp_storeB (u := u8 (Gf.pw n)) rfl Try.sizeOf5 rfl rfl hB2 (by rw [fc_size, List.length_set, hl.1, hl.2]; omega) rfl ?_)
        intro w3 hB3 g3
        rw [show 0 + 0 + (n + 255) = n + 255 by omega, fc_pw _ _ _ _ (by rw [List.length_set, hl.1]; omega)] at hB3
        replace e := e.grownB g3 hgn
        refine ws_nil ?_
        refine W_th ?_
        refine W_seq ?_
        refine W_reg (by kernel_rfl) ?_
        refine wla rfl rfl (q_move (v := .pointer (some ⟨g, 0, none⟩)) rfl s1) ?_
        refine wla rfl rfl (q_move (v := u8 (Gf.pw n)) rfl s2) ?_
        refine wla rfl rfl (q_move (v := i64 (n : Int)) rfl rfl) ?_
        refine wla rfl rfl (q_nilP rfl rfl) ?_
        refine wla rfl rfl (q_fldP rfl fieldAt1 rfl) ?_
        refine wla rfl rfl (q_ixP (i := (Gf.pw n).toNat) rfl Try.underlying67 Try.sizeOf3 rfl rfl (Gf.pw n).toNat_lt) ?_
        refine wln rfl rfl (stp_storeB (u := i64 (n : Int)) rfl Try.sizeOf3 rfl rfl hB3 (by rw [fc_size, List.length_set, List.length_set, hl.1, hl.2]; have := (Gf.pw n).toNat_lt; omega) rfl ?_)
        intro w4 hB4 g4
        rw [show 0 + 510 + (Gf.pw n).toNat = (((Gf.tabN n).1.set n (Gf.pw n)).set (n + 255) (Gf.pw n)).length + (Gf.pw n).toNat by rw [List.length_set, List.length_set, hl.1], fc_lg] at hB4
        replace e := e.grownB g4 hgn
        refine wl_nil ?_
        refine W_th ?_
        refine W_reg (by kernel_rfl) ?_
        refine wla rfl rfl (q_move (v := u8 (Gf.pw n)) rfl s2) ?_
        refine wls rfl rfl (stp_call (vs := [u8 (Gf.pw n), u8 3]) Try.func41 rfl rfl rfl (ar2 rfl (cst8 3 rfl)) (field_Slow_calls (Gf.pw n) 3 _ _ (Slow_eq _ _)) ?_)
        rintro _ w5 ⟨rfl, x5⟩
        refine ⟨_, rfl, ?_⟩
        replace e := e.trans x5
        replace hB4 := hB4.ext x5
        refine wla rfl rfl (q_assign (v := u8 (Gf.mul (Gf.pw n) 3)) rfl rfl) ?_
        refine wl_nil ?_
        refine bk_n ?_
        refine W_th ?_
        refine W_reg (by kernel_rfl) ?_
        refine wla rfl rfl (q_addI rfl s6 rfl) ?_
        have ew2 : wI ((n : Int) + 1) = ((n + 1 : Nat) : Int) := by rw [wI_of (by omega) (by omega)]; omega
        rw [ew2]
        refine wla rfl rfl (q_move (v := i64 ((n + 1 : Nat) : Int)) rfl rfl) ?_
        refine wl_nil ?_
        refine ⟨_, rfl, hm, by omega, rfl, s1, rfl, e, ?_⟩
        rw [← Gf.tab_pw n] at hB4
        exact hB4
      · have hge : n = 255 := by have := of_decide_eq_false hb9; omega
        subst hge
        have hr' : some (Sum.inr ()) = some r := by rw [← hr]; rfl
        obtain rfl := Option.some.inj hr'
        refine W_exit ?_
        refine th_x ?_
        refine th_x ?_
        refine bk_x ?_
        exact ⟨hm, s1, e, hB⟩
  · rintro _ w ⟨hm, s1, e, hB⟩
    refine W_th ?_
    refine W_seq ?_
    refine W_reg (by kernel_rfl) ?_
    refine wla rfl rfl (q_move (v := .pointer (some ⟨g, 0, none⟩)) rfl s1) ?_
    refine wla rfl rfl (q_assign (v := .pointer (some ⟨g, 0, none⟩)) rfl rfl) ?_
    refine wl_nil ?_
    refine W_th ?_
    refine W_ret ?_
    refine rt1 (.pointer (some ⟨g, 0, none⟩)) rfl rfl rfl hm ?_
    exact ⟨.pointer (some ⟨g, 0, none⟩), rfl, e, .inr ⟨rfl, g, rfl, hL0 g hgn, hB⟩⟩
end Gk
