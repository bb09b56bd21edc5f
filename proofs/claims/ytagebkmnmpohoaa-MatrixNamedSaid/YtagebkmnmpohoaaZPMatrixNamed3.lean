/- Parts L4d, Mc, Md, Mp, Mv, Mz, Va, Vb, Oa, Vd, Mw, Oy, Ve, one behind the other. What is proved: said at the head of each part. No condition beside those said there. -/
import Derived.Test.YtagebkmnmpohoaaRows
import Derived.Orders
import Derived.Deep.Draws
import Derived.Laws.World
import Derived.KernelRfl
import Derived.OrdersIn
import Derived.TacticsIn
import Derived.RangeFuncCalls
import Derived.Deep.LoopGhost
import Derived.Tactics
import Derived.Sort.LoopGhostIn
import Derived.RangeFuncLeaves
import Derived.RangeFuncNested
import Derived.RangeFuncRecord
import Derived.Laws.Sem
import Derived.OwnWalk
import Derived.RangeFuncWrites
import Derived.Laws.IdiomCopy
import Derived.WalkKit
import Derived.ProofKit
import Derived.OpenShut
import Derived.ChangeOld
import Derived.Below
import Derived.Test.YtagebkmnmpohoaaProg
import Derived.MapKept
import Derived.Laws.CopyRow
import Derived.Laws.Cells
import Derived.Lib.AppendZerosOnto
import Derived.Test.YtagebkmnmpohoaaZPMatrixNamed1
import Derived.Test.YtagebkmnmpohoaaZPMatrixNamed2
/- Printed by gen.py: for each Go function a pure function, and that the Go code comes to it. No condition beside the equation that says what the pure function gives. -/
set_option linter.unusedVariables false
set_option linter.unusedSimpArgs false
namespace Gk
open Go Go.Proofs
noncomputable def law04_MatrixNamed_1 (a0l : List UInt8) : Option Bool :=
((iterC (fun s4 : (List (UInt8 × Bool)) × Int =>
(if s4.2 < (a0l.length : Int) then
((idx a0l s4.2).bind fun c7 =>
(if (mget s4.1 c7) = true then some (.inr (.inr false))
else some (.inl ((mput s4.1 c7 true), (wI (s4.2 + 1))))))
else some (.inr (.inl ())))) (([] : List (UInt8 × Bool)), 0)).bind (Sum.elim (fun y4 => some true) (fun q4 => some q4)))
set_option maxRecDepth 100000 in
set_option maxHeartbeats 8000000 in
theorem law04_MatrixNamed_1_calls (a0l : List UInt8) (p0 : Value) (r : Bool) (w0 : World) (hp0 : By w0 [] p0 a0l) (H : law04_MatrixNamed_1 a0l = some r) :
    Calls Try.prog 31 [p0].toArray w0 (fun e w' => e = .returned (.bool r) ∧ Ext w0 w') := by
  have hE : Ext w0 w0 := Ext.refl w0; unfold law04_MatrixNamed_1 at H; refine calls_W (n := 19) Try.func31 rfl rfl rfl ?_; refine W_seq ?_; refine W_reg (by kernel_rfl) ?_; refine wla rfl rfl (q_assign (v := (.bool false)) rfl rfl) ?_; refine wl_nil ?_; refine W_th ?_; refine W_seq ?_; refine W_reg (by kernel_rfl) ?_; refine wls rfl rfl (stp_makeMap [] rfl ?_); intro g1 w1 o1 n1 g1r l1; have x1 := grown_ext g1r; have n3 := Nw.ext hE n1; have e2 := hE.trans x1; refine wla rfl rfl (q_assign (v := (mp g1)) rfl rfl) ?_; refine wl_nil ?_; refine W_th ?_; refine W_seq ?_; refine W_seq ?_; refine W_reg (by kernel_rfl) ?_; refine wla rfl rfl (q_move (v := p0) rfl rfl) ?_; refine wla rfl rfl (q_len rfl T30.sl rfl (hp0.lift (Lift.ext e2 _))) ?_; refine wla rfl rfl (q_move (v := (i64 0)) rfl rfl) ?_; refine wl_nil ?_; refine W_th ?_; obtain ⟨x4, G4, H⟩ := bsi H; refine W_mid (fun f w => ∃ y4, x4 = .inl y4 ∧ f 19 = undef ∧ Ext w0 w) ?_ ?_
  · refine W_block ?_; refine W_loop (fun s4 f w => f 3 = (mp g1) ∧ f 7 = p0 ∧ f 8 = (i64 ((a0l.length : Int))) ∧ f 9 = (i64 s4.2) ∧ f 19 = undef ∧ Ext w0 w ∧ Mp w g1 s4.1 ∧ Nw w0 (mp g1)) G4 ?_ ?_
    · exact ⟨rfl, rfl, rfl, rfl, rfl, e2, o1, n3⟩
    rintro s4 _ _ w5 ⟨s3_5, s7_5, s8_5, s9_5, s19_5, hE5, o0_5, n0_5⟩ H4 hr4; refine W_seq ?_; refine W_reg (by kernel_rfl) ?_; refine wla rfl rfl (q_ltI rfl s9_5 s8_5) ?_; refine wl_nil ?_; refine W_th ?_; refine W_seq ?_; refine W_cond _ rfl rfl (fun hb6 => ?_) (fun hb6 => ?_)
    · replace H4 := (if_pos (of_decide_eq_true hb6)).symm.trans H4; refine W_skip ?_; refine W_th ?_; refine W_seq ?_; refine W_block ?_; refine W_seq ?_; refine W_reg (by kernel_rfl) ?_; obtain ⟨c7, hc7, H4⟩ := bsi H4; refine wla rfl rfl (q_adr rfl T30 s7_5 s9_5 (hp0.lift (Lift.ext hE5 _)) hc7) ?_; refine wlq rfl rfl (q_loadS rfl T30 rfl (hp0.lift (Lift.ext hE5 _)) hc7) ?_; refine wla rfl rfl (q_assign (v := (u8 c7)) rfl rfl) ?_; refine wl_nil ?_; refine W_th ?_; refine W_seq ?_; refine W_seq ?_; refine W_reg (by kernel_rfl) ?_; refine wla rfl rfl (q_move (v := (mp g1)) rfl s3_5) ?_; refine wla rfl rfl (q_move (v := (u8 c7)) rfl rfl) ?_; refine wlq rfl rfl (q_lookup rfl Try.underlying57 Try.underlying5 Try.zeroValue4 rfl rfl o0_5) ?_; refine wl_nil ?_; refine W_th ?_; refine W_cond _ rfl rfl (fun hb8 => ?_) (fun hb8 => ?_)
      · replace H4 := (if_pos hb8).symm.trans H4; refine W_seq ?_; refine W_reg (by kernel_rfl) ?_; refine wla rfl rfl (q_assign (v := (.bool false)) rfl rfl) ?_; refine wl_nil ?_; refine W_th ?_; refine W_ret ?_; refine th_r ?_; refine bk_r ?_; refine th_r ?_; obtain rfl := osi H4; obtain rfl := hr4 _ rfl; simp only [Sum.elim_inr] at H; refine th_r ?_; refine bk_r ?_; refine th_r ?_; refine th_r ?_; obtain rfl := osi H; refine rt1 (.bool false) rfl rfl rfl s19_5 ?_; exact ⟨rfl, hE5⟩
      replace H4 := (if_neg (ne_true_of_eq_false hb8)).symm.trans H4; refine W_skip ?_; refine W_th ?_; refine W_reg (by kernel_rfl) ?_; refine wla rfl rfl (q_move (v := (mp g1)) rfl s3_5) ?_; refine wla rfl rfl (q_move (v := (u8 c7)) rfl rfl) ?_; refine wln rfl rfl (stp_mapUpdate [] [] (.inl rfl) Try.underlying57 Try.underlying5 rfl rfl rfl o0_5 ?_); intro w9 o9 g9 l9; have e10 := hE5.grown g9 n0_5; refine wl_nil ?_; refine bk_n ?_; refine W_th ?_; refine W_reg (by kernel_rfl) ?_; refine wla rfl rfl (q_addI rfl s9_5 rfl) ?_; refine wla rfl rfl (q_move (v := (i64 ((wI (s4.2 + 1))))) rfl rfl) ?_; refine wl_nil ?_; obtain rfl := osi H4; exact ⟨_, rfl, s3_5, s7_5, s8_5, rfl, s19_5, e10, o9, n0_5⟩
    replace H4 := (if_neg (of_decide_eq_false hb6)).symm.trans H4; refine W_exit ?_; refine th_x ?_; obtain rfl := osi H4; obtain rfl := hr4 _ rfl; refine th_x ?_; refine bk_x ?_; exact ⟨_, rfl, s19_5, hE5⟩
  rintro _ w12 ⟨y4, rfl, s19_12, hE12⟩; simp only [Sum.elim_inl] at H; refine W_th ?_; refine W_seq ?_; refine W_reg (by kernel_rfl) ?_; refine wla rfl rfl (q_assign (v := (.bool true)) rfl rfl) ?_; refine wl_nil ?_; refine W_th ?_; refine W_ret ?_; obtain rfl := osi H; refine rt1 (.bool true) rfl rfl rfl s19_12 ?_; exact ⟨rfl, hE12⟩
noncomputable def law04_MatrixNamed (a0xs : List UInt8) (a1ys : List UInt8) (a2columns : Int) : Option Bool :=
((law04_lives ).bind fun r1 =>
(if (!r1) = true then
((law04_lives ).bind fun r4 => some r4)
else
(if 20 < (a0xs.length : Int) then
((law04_lives ).bind fun r7 => some r7)
else
(if 20 < (a1ys.length : Int) then
((law04_lives ).bind fun r10 => some r10)
else
((field_New ).bind fun r12 =>
((matrix_Vandermonde r12 a0xs (wI ((((UInt64.ofInt a2columns) % (70 : UInt64))).toNat : Int))).bind fun r14 =>
(if (a0xs.length : Int) = 0 then
(if (!(true == ((decide (r14.2 = 2))))) = true then some false
else
(if (!(true == r14.1.isNone)) = true then some false
else
((law04_rows r14.1).bind fun r19 =>
((iterC (fun s21 : Int =>
(if s21 < (r19.length : Int) then
((idx r19 s21).bind fun c24 =>
((iterC (fun s26 : Int =>
(if s26 < (c24.length : Int) then
((idx c24 s26).bind fun c31 =>
((idx a0xs s21).bind fun c32 =>
((ref02_Pow c32 s26).bind fun r33 =>
(if c31 = r33 then some (.inl (wI (s26 + 1)))
else some (.inr (.inr false))))))
else some (.inr (.inl ())))) 0).bind (Sum.elim (fun y26 => some (.inl (wI (s21 + 1)))) (fun q26 => some (.inr (.inr q26))))))
else some (.inr (.inl ())))) 0).bind (Sum.elim (fun y21 =>
(((if 0 < (a0xs.length : Int) then
((matrix_Vandermonde r12 a0xs (a0xs.length : Int)).bind fun r43 =>
((matrix_Inverse r43.1 r12).bind fun r45 =>
((law04_MatrixNamed_1 a0xs).bind fun r47 =>
(if (!(((decide (r45.2 = 0))) == r47)) = true then some (.inr false)
else some (.inl ())))))
else some (.inl ()))).bind (Sum.elim (fun s41 =>
((matrix_Cauchy r12 a0xs a1ys).bind fun r51 =>
(if (a0xs.length : Int) = 0 then
(if r51.2 = 2 then some r51.1.isNone
else some false)
else
(if (a1ys.length : Int) = 0 then
(if r51.2 = 2 then some r51.1.isNone
else some false)
else
((appL (([] : List UInt8)) a0xs).bind fun c60 =>
((appL c60 a1ys).bind fun c63 =>
((law04_MatrixNamed_1 c63).bind fun r67 =>
(if (!r67) = true then
(if r51.2 = 6 then some r51.1.isNone
else some false)
else
((law04_rows r51.1).bind fun r71 =>
((iterC (fun s73 : Int =>
(if s73 < (r71.length : Int) then
((idx r71 s73).bind fun c76 =>
((iterC (fun s78 : Int =>
(if s78 < (c76.length : Int) then
((idx c76 s78).bind fun c83 =>
((idx a0xs s73).bind fun c84 =>
((idx a1ys s78).bind fun c85 =>
((ref02_Inv (c84 ^^^ c85)).bind fun r86 =>
(if c83 = r86 then some (.inl (wI (s78 + 1)))
else some (.inr (.inr false)))))))
else some (.inr (.inl ())))) 0).bind (Sum.elim (fun y78 => some (.inl (wI (s73 + 1)))) (fun q78 => some (.inr (.inr q78))))))
else some (.inr (.inl ())))) 0).bind (Sum.elim (fun y73 =>
((matrix_Inverse r51.1 r12).bind fun r94 =>
(if r51.2 = 0 then some (((decide (r94.2 = 0))) == ((decide ((a0xs.length : Int) = (a1ys.length : Int)))))
else some false))) (fun q73 => some q73)))))))))))) (fun q41 => some q41)))) (fun q21 => some q21))))))
else
(if (wI ((((UInt64.ofInt a2columns) % (70 : UInt64))).toNat : Int)) < 1 then
(if (!(true == ((decide (r14.2 = 2))))) = true then some false
else
(if (!(true == r14.1.isNone)) = true then some false
else
((law04_rows r14.1).bind fun r103 =>
((iterC (fun s105 : Int =>
(if s105 < (r103.length : Int) then
((idx r103 s105).bind fun c108 =>
((iterC (fun s110 : Int =>
(if s110 < (c108.length : Int) then
((idx c108 s110).bind fun c115 =>
((idx a0xs s105).bind fun c116 =>
((ref02_Pow c116 s110).bind fun r117 =>
(if c115 = r117 then some (.inl (wI (s110 + 1)))
else some (.inr (.inr false))))))
else some (.inr (.inl ())))) 0).bind (Sum.elim (fun y110 => some (.inl (wI (s105 + 1)))) (fun q110 => some (.inr (.inr q110))))))
else some (.inr (.inl ())))) 0).bind (Sum.elim (fun y105 =>
(((if 0 < (a0xs.length : Int) then
((matrix_Vandermonde r12 a0xs (a0xs.length : Int)).bind fun r127 =>
((matrix_Inverse r127.1 r12).bind fun r129 =>
((law04_MatrixNamed_1 a0xs).bind fun r131 =>
(if (!(((decide (r129.2 = 0))) == r131)) = true then some (.inr false)
else some (.inl ())))))
else some (.inl ()))).bind (Sum.elim (fun s125 =>
((matrix_Cauchy r12 a0xs a1ys).bind fun r135 =>
(if (a0xs.length : Int) = 0 then
(if r135.2 = 2 then some r135.1.isNone
else some false)
else
(if (a1ys.length : Int) = 0 then
(if r135.2 = 2 then some r135.1.isNone
else some false)
else
((appL (([] : List UInt8)) a0xs).bind fun c144 =>
((appL c144 a1ys).bind fun c147 =>
((law04_MatrixNamed_1 c147).bind fun r150 =>
(if (!r150) = true then
(if r135.2 = 6 then some r135.1.isNone
else some false)
else
((law04_rows r135.1).bind fun r154 =>
((iterC (fun s156 : Int =>
(if s156 < (r154.length : Int) then
((idx r154 s156).bind fun c159 =>
((iterC (fun s161 : Int =>
(if s161 < (c159.length : Int) then
((idx c159 s161).bind fun c166 =>
((idx a0xs s156).bind fun c167 =>
((idx a1ys s161).bind fun c168 =>
((ref02_Inv (c167 ^^^ c168)).bind fun r169 =>
(if c166 = r169 then some (.inl (wI (s161 + 1)))
else some (.inr (.inr false)))))))
else some (.inr (.inl ())))) 0).bind (Sum.elim (fun y161 => some (.inl (wI (s156 + 1)))) (fun q161 => some (.inr (.inr q161))))))
else some (.inr (.inl ())))) 0).bind (Sum.elim (fun y156 =>
((matrix_Inverse r135.1 r12).bind fun r177 =>
(if r135.2 = 0 then some (((decide (r177.2 = 0))) == ((decide ((a0xs.length : Int) = (a1ys.length : Int)))))
else some false))) (fun q156 => some q156)))))))))))) (fun q125 => some q125)))) (fun q105 => some q105))))))
else
(if (!(((decide (64 < (wI ((((UInt64.ofInt a2columns) % (70 : UInt64))).toNat : Int))))) == ((decide (r14.2 = 2))))) = true then some false
else
(if (!(((decide (64 < (wI ((((UInt64.ofInt a2columns) % (70 : UInt64))).toNat : Int))))) == r14.1.isNone)) = true then some false
else
((law04_rows r14.1).bind fun r185 =>
((iterC (fun s187 : Int =>
(if s187 < (r185.length : Int) then
((idx r185 s187).bind fun c190 =>
((iterC (fun s192 : Int =>
(if s192 < (c190.length : Int) then
((idx c190 s192).bind fun c197 =>
((idx a0xs s187).bind fun c198 =>
((ref02_Pow c198 s192).bind fun r199 =>
(if c197 = r199 then some (.inl (wI (s192 + 1)))
else some (.inr (.inr false))))))
else some (.inr (.inl ())))) 0).bind (Sum.elim (fun y192 => some (.inl (wI (s187 + 1)))) (fun q192 => some (.inr (.inr q192))))))
else some (.inr (.inl ())))) 0).bind (Sum.elim (fun y187 =>
(((if 0 < (a0xs.length : Int) then
((matrix_Vandermonde r12 a0xs (a0xs.length : Int)).bind fun r209 =>
((matrix_Inverse r209.1 r12).bind fun r211 =>
((law04_MatrixNamed_1 a0xs).bind fun r213 =>
(if (!(((decide (r211.2 = 0))) == r213)) = true then some (.inr false)
else some (.inl ())))))
else some (.inl ()))).bind (Sum.elim (fun s207 =>
((matrix_Cauchy r12 a0xs a1ys).bind fun r217 =>
(if (a0xs.length : Int) = 0 then
(if r217.2 = 2 then some r217.1.isNone
else some false)
else
(if (a1ys.length : Int) = 0 then
(if r217.2 = 2 then some r217.1.isNone
else some false)
else
((appL (([] : List UInt8)) a0xs).bind fun c226 =>
((appL c226 a1ys).bind fun c229 =>
((law04_MatrixNamed_1 c229).bind fun r232 =>
(if (!r232) = true then
(if r217.2 = 6 then some r217.1.isNone
else some false)
else
((law04_rows r217.1).bind fun r236 =>
((iterC (fun s238 : Int =>
(if s238 < (r236.length : Int) then
((idx r236 s238).bind fun c241 =>
((iterC (fun s243 : Int =>
(if s243 < (c241.length : Int) then
((idx c241 s243).bind fun c248 =>
((idx a0xs s238).bind fun c249 =>
((idx a1ys s243).bind fun c250 =>
((ref02_Inv (c249 ^^^ c250)).bind fun r251 =>
(if c248 = r251 then some (.inl (wI (s243 + 1)))
else some (.inr (.inr false)))))))
else some (.inr (.inl ())))) 0).bind (Sum.elim (fun y243 => some (.inl (wI (s238 + 1)))) (fun q243 => some (.inr (.inr q243))))))
else some (.inr (.inl ())))) 0).bind (Sum.elim (fun y238 =>
((matrix_Inverse r217.1 r12).bind fun r259 =>
(if r217.2 = 0 then some (((decide (r259.2 = 0))) == ((decide ((a0xs.length : Int) = (a1ys.length : Int)))))
else some false))) (fun q238 => some q238)))))))))))) (fun q207 => some q207)))) (fun q187 => some q187))))))))))))))
set_option maxRecDepth 100000 in
set_option maxHeartbeats 8000000 in
theorem law04_MatrixNamed_calls (a0xs : List UInt8) (a1ys : List UInt8) (a2columns : Int) (p0 : Value) (p1 : Value) (r : Bool) (w0 : World) (hp0 : By w0 [] p0 a0xs) (hp1 : By w0 [] p1 a1ys) (H : law04_MatrixNamed a0xs a1ys a2columns = some r) :
    Calls Try.prog 8 [p0, p1, (i64 a2columns)].toArray w0 (fun e w' => e = .returned (.bool r) ∧ Ext w0 w') := by
  have hE : Ext w0 w0 := Ext.refl w0; unfold law04_MatrixNamed at H; refine calls_W (n := 207) Try.func8 rfl rfl rfl ?_; refine W_seq ?_; refine W_reg (by kernel_rfl) ?_; refine wla rfl rfl (q_assign (v := (.bool false)) rfl rfl) ?_; refine wl_nil ?_; refine W_th ?_; refine W_seq ?_; refine W_seq ?_; refine W_reg (by kernel_rfl) ?_; obtain ⟨r1, hr1, H⟩ := bsi H; refine wls rfl rfl (stp_call (vs := []) Try.func9 rfl rfl rfl (ar0 ) (law04_lives_calls   r1 _  hr1) ?_); rintro _ w1 ⟨rfl, x1⟩; refine ⟨_, rfl, ?_⟩; have e2 := hE.trans x1; refine wla rfl rfl (q_not rfl rfl) ?_; refine wlb rfl rfl (q_move (v := (.bool ((!r1)))) rfl rfl) (fun hb3 => ?_) (fun hb3 => ?_)
  · replace H := (if_pos hb3).symm.trans H; refine wlk rfl rfl ?_; refine wlk rfl rfl ?_; refine wlk rfl rfl ?_; refine wla rfl rfl (q_pick_t (v := (.bool true)) rfl rfl rfl) ?_; refine wla rfl rfl (q_move (v := (.bool true)) rfl rfl) ?_; refine wlk rfl rfl ?_; refine wlk rfl rfl ?_; refine wlk rfl rfl ?_; refine wla rfl rfl (q_pick_t (v := (.bool true)) rfl rfl rfl) ?_; refine wl_nil ?_; refine W_th ?_; refine W_cond true rfl rfl (fun _ => ?_) (fun hb => by cases hb); refine W_seq ?_; refine W_reg (by kernel_rfl) ?_; obtain ⟨r4, hr4, H⟩ := bsi H; refine wls rfl rfl (stp_call (vs := []) Try.func9 rfl rfl rfl (ar0 ) (law04_lives_calls   r4 _  hr4) ?_); rintro _ w4 ⟨rfl, x4⟩; refine ⟨_, rfl, ?_⟩; have e5 := e2.trans x4; refine wla rfl rfl (q_assign (v := (.bool r4)) rfl rfl) ?_; refine wl_nil ?_; refine W_th ?_; refine W_ret ?_; refine th_r ?_; obtain rfl := osi H; refine rt1 (.bool r4) rfl rfl rfl rfl ?_; exact ⟨rfl, e5⟩
  replace H := (if_neg (ne_true_of_eq_false hb3)).symm.trans H; refine wla rfl rfl (q_move (v := p0) rfl rfl) ?_; refine wla rfl rfl (q_len rfl T30.sl rfl (hp0.lift (Lift.ext e2 _))) ?_; refine wla rfl rfl (q_gtI rfl rfl rfl) ?_; refine wla rfl rfl (q_pick_f (v := (.bool ((decide (20 < (a0xs.length : Int)))))) rfl rfl rfl) ?_; refine wlb rfl rfl (q_move (v := (.bool ((decide (20 < (a0xs.length : Int)))))) rfl rfl) (fun hb6 => ?_) (fun hb6 => ?_)
  · replace H := (if_pos (of_decide_eq_true hb6)).symm.trans H; refine wlk rfl rfl ?_; refine wlk rfl rfl ?_; refine wlk rfl rfl ?_; refine wla rfl rfl (q_pick_t (v := (.bool true)) rfl rfl rfl) ?_; refine wl_nil ?_; refine W_th ?_; refine W_cond true rfl rfl (fun _ => ?_) (fun hb => by cases hb); refine W_seq ?_; refine W_reg (by kernel_rfl) ?_; obtain ⟨r7, hr7, H⟩ := bsi H; refine wls rfl rfl (stp_call (vs := []) Try.func9 rfl rfl rfl (ar0 ) (law04_lives_calls   r7 _  hr7) ?_); rintro _ w7 ⟨rfl, x7⟩; refine ⟨_, rfl, ?_⟩; have e8 := e2.trans x7; refine wla rfl rfl (q_assign (v := (.bool r7)) rfl rfl) ?_; refine wl_nil ?_; refine W_th ?_; refine W_ret ?_; refine th_r ?_; obtain rfl := osi H; refine rt1 (.bool r7) rfl rfl rfl rfl ?_; exact ⟨rfl, e8⟩
  replace H := (if_neg (of_decide_eq_false hb6)).symm.trans H; refine wla rfl rfl (q_move (v := p1) rfl rfl) ?_; refine wla rfl rfl (q_len rfl T30.sl rfl (hp1.lift (Lift.ext e2 _))) ?_; refine wla rfl rfl (q_gtI rfl rfl rfl) ?_; refine wla rfl rfl (q_pick_f (v := (.bool ((decide (20 < (a1ys.length : Int)))))) rfl rfl rfl) ?_; refine wl_nil ?_; refine W_th ?_; refine W_cond _ rfl rfl (fun hb9 => ?_) (fun hb9 => ?_)
  · replace H := (if_pos (of_decide_eq_true hb9)).symm.trans H; refine W_seq ?_; refine W_reg (by kernel_rfl) ?_; obtain ⟨r10, hr10, H⟩ := bsi H; refine wls rfl rfl (stp_call (vs := []) Try.func9 rfl rfl rfl (ar0 ) (law04_lives_calls   r10 _  hr10) ?_); rintro _ w10 ⟨rfl, x10⟩; refine ⟨_, rfl, ?_⟩; have e11 := e2.trans x10; refine wla rfl rfl (q_assign (v := (.bool r10)) rfl rfl) ?_; refine wl_nil ?_; refine W_th ?_; refine W_ret ?_; refine th_r ?_; obtain rfl := osi H; refine rt1 (.bool r10) rfl rfl rfl rfl ?_; exact ⟨rfl, e11⟩
  replace H := (if_neg (of_decide_eq_false hb9)).symm.trans H; refine W_skip ?_; refine W_th ?_; refine W_seq ?_; refine W_reg (by kernel_rfl) ?_; obtain ⟨r12, hr12, H⟩ := bsi H; refine wls rfl rfl (stp_call (vs := []) Try.func17 rfl rfl rfl (ar0 ) (field_New_calls   r12 _ [] (Old.nil _)  hr12) ?_); rintro _ w12 ⟨v12, rfl, x12, i12_0⟩; refine ⟨_, rfl, ?_⟩; have e13 := e2.trans x12; refine wla rfl rfl (q_assign (v := v12) rfl rfl) ?_; refine wl_nil ?_; refine W_th ?_; refine W_seq ?_; refine W_reg (by kernel_rfl) ?_; refine wla rfl rfl (q_move (v := (i64 a2columns)) rfl rfl) ?_; refine wla rfl rfl (q_cvt64I rfl rfl rfl rfl) ?_; refine wla rfl rfl (q_rem64 rfl rfl (cst64 (70 : UInt64) rfl) (by decide)) ?_; refine wla rfl rfl (q_cvtI64 rfl rfl rfl rfl) ?_; refine wla rfl rfl (q_assign (v := (i64 ((wI ((((UInt64.ofInt a2columns) % (70 : UInt64))).toNat : Int))))) rfl rfl) ?_; refine wl_nil ?_; refine W_th ?_; refine W_seq ?_; refine W_reg (by kernel_rfl) ?_; refine wla rfl rfl (q_move (v := v12) rfl rfl) ?_; refine wla rfl rfl (q_move (v := p0) rfl rfl) ?_; refine wla rfl rfl (q_move (v := (i64 ((wI ((((UInt64.ofInt a2columns) % (70 : UInt64))).toNat : Int))))) rfl rfl) ?_; obtain ⟨r14, hr14, H⟩ := bsi H; refine wls rfl rfl (stp_call (vs := [v12, p0, (i64 ((wI ((((UInt64.ofInt a2columns) % (70 : UInt64))).toNat : Int))))]) Try.func29 rfl rfl rfl (ar3 rfl rfl rfl) (matrix_Vandermonde_calls r12 a0xs (wI ((((UInt64.ofInt a2columns) % (70 : UInt64))).toNat : Int)) v12 p0 r14 _ [] (Old.nil _) (i12_0.lift (Lift.sub (L' := []) (fun _ _ => trivial))) (hp0.lift (Lift.ext e13 _)) hr14) ?_); rintro _ w14 ⟨v14_0, rfl, x14, i14_0⟩; refine ⟨_, rfl, ?_⟩; replace i12_0 := i12_0.lift (Lift.ext x14 _); have e15 := e13.trans x14; refine wla rfl rfl (q_move (v := (.tuple #[v14_0, (i64 r14.2)])) rfl rfl) ?_; refine wla rfl rfl (q_extract rfl rfl rfl) ?_; refine wla rfl rfl (q_extract rfl rfl rfl) ?_; refine wla rfl rfl (q_assign (v := v14_0) rfl rfl) ?_; refine wla rfl rfl (q_assign (v := (i64 r14.2)) rfl rfl) ?_; refine wl_nil ?_; refine W_th ?_; refine W_seq ?_; refine W_seq ?_; refine W_reg (by kernel_rfl) ?_; refine wla rfl rfl (q_move (v := p0) rfl rfl) ?_; refine wla rfl rfl (q_len rfl T30.sl rfl (hp0.lift (Lift.ext e15 _))) ?_; refine wla rfl rfl (q_eqI rfl rfl rfl) ?_; refine wlb rfl rfl (q_move (v := (.bool ((decide ((a0xs.length : Int) = 0))))) rfl rfl) (fun hb16 => ?_) (fun hb16 => ?_)
  · replace H := (if_pos (of_decide_eq_true hb16)).symm.trans H; refine wlk rfl rfl ?_; refine wlk rfl rfl ?_; refine wla rfl rfl (q_pick_t (v := (.bool true)) rfl rfl rfl) ?_; refine wla rfl rfl (q_move (v := (.bool true)) rfl rfl) ?_; refine wlk rfl rfl ?_; refine wlk rfl rfl ?_; refine wla rfl rfl (q_pick_t (v := (.bool true)) rfl rfl rfl) ?_; refine wla rfl rfl (q_assign (v := (.bool true)) rfl rfl) ?_; refine wl_nil ?_; refine W_th ?_; refine W_seq ?_; refine W_reg (by kernel_rfl) ?_; refine wla rfl rfl (q_move (v := (.bool true)) rfl rfl) ?_; refine wla rfl rfl (q_move (v := (i64 r14.2)) rfl rfl) ?_; refine wla rfl rfl (q_eqI rfl rfl rfl) ?_; refine wla rfl rfl (q_neB rfl (by kernel_rfl) rfl rfl) ?_; refine wlb rfl rfl (q_move (v := (.bool ((!(true == ((decide (r14.2 = 2)))))))) rfl rfl) (fun hb17 => ?_) (fun hb17 => ?_)
    · replace H := (if_pos hb17).symm.trans H; refine wlk rfl rfl ?_; refine wlk rfl rfl ?_; refine wlk rfl rfl ?_; refine wlk rfl rfl ?_; refine wla rfl rfl (q_pick_t (v := (.bool true)) rfl rfl rfl) ?_; refine wl_nil ?_; refine W_th ?_; refine W_cond true rfl rfl (fun _ => ?_) (fun hb => by cases hb); refine W_seq ?_; refine W_reg (by kernel_rfl) ?_; refine wla rfl rfl (q_assign (v := (.bool false)) rfl rfl) ?_; refine wl_nil ?_; refine W_th ?_; refine W_ret ?_; refine th_r ?_; obtain rfl := osi H; refine rt1 (.bool false) rfl rfl rfl rfl ?_; exact ⟨rfl, e15⟩
    replace H := (if_neg (ne_true_of_eq_false hb17)).symm.trans H; refine wla rfl rfl (q_move (v := (.bool true)) rfl rfl) ?_; refine wla rfl rfl (q_move (v := v14_0) rfl rfl) ?_; refine wla rfl rfl (q_eqM rfl rfl rfl rfl i14_0) ?_; refine wla rfl rfl (q_neB rfl (by kernel_rfl) rfl rfl) ?_; refine wla rfl rfl (q_pick_f (v := (.bool ((!(true == r14.1.isNone))))) rfl rfl rfl) ?_; refine wl_nil ?_; refine W_th ?_; refine W_cond _ rfl rfl (fun hb18 => ?_) (fun hb18 => ?_)
    · replace H := (if_pos hb18).symm.trans H; refine W_seq ?_; refine W_reg (by kernel_rfl) ?_; refine wla rfl rfl (q_assign (v := (.bool false)) rfl rfl) ?_; refine wl_nil ?_; refine W_th ?_; refine W_ret ?_; refine th_r ?_; obtain rfl := osi H; refine rt1 (.bool false) rfl rfl rfl rfl ?_; exact ⟨rfl, e15⟩
    replace H := (if_neg (ne_true_of_eq_false hb18)).symm.trans H; refine W_skip ?_; refine W_th ?_; refine W_seq ?_; refine W_seq ?_; refine W_reg (by kernel_rfl) ?_; refine wla rfl rfl (q_move (v := v14_0) rfl rfl) ?_; obtain ⟨r19, hr19, H⟩ := bsi H; refine wls rfl rfl (stp_call (vs := [v14_0]) Try.func15 rfl rfl rfl (ar1 rfl) (law04_rows_calls r14.1 v14_0 r19 _ [] (Old.nil _) (i14_0.lift (Lift.sub (L' := []) (fun _ _ => trivial))) hr19) ?_); rintro _ w19 ⟨v19, rfl, x19, n19_0, o19_0⟩; refine ⟨_, rfl, ?_⟩; have i19_0 : Rw w19 [] v19 r19 := OwK.slk (SlK.stab (Sc.stab _)) _ o19_0 (fun k hk => (Old.nil _) k (n19_0 k hk)) (fun _ h => h.2); replace i12_0 := i12_0.lift (Lift.ext x19 _); replace i14_0 := i14_0.lift (Lift.ext x19 _); have e20 := e15.trans x19; refine wla rfl rfl (q_len rfl T22.sl rfl i19_0) ?_; refine wla rfl rfl (q_move (v := (i64 0)) rfl rfl) ?_; refine wl_nil ?_; refine W_th ?_; obtain ⟨x21, G21, H⟩ := bsi H; refine W_mid (fun f w => ∃ y21, x21 = .inl y21 ∧ f 0 = p0 ∧ f 1 = p1 ∧ f 7 = v12 ∧ f 207 = undef ∧ Ext w0 w ∧ Fd w [] v12 r12) ?_ ?_
    · refine W_block ?_; refine W_loop (fun s21 f w => f 0 = p0 ∧ f 1 = p1 ∧ f 7 = v12 ∧ f 74 = v19 ∧ f 75 = (i64 ((r19.length : Int))) ∧ f 76 = (i64 s21) ∧ f 207 = undef ∧ Ext w0 w ∧ Fd w [] v12 r12 ∧ Rw w [] v19 r19) G21 ?_ ?_
      · exact ⟨rfl, rfl, rfl, rfl, rfl, rfl, rfl, e20, i12_0, i19_0⟩
      rintro s21 _ _ w22 ⟨s0_22, s1_22, s7_22, s74_22, s75_22, s76_22, s207_22, hE22, i0_22, i1_22⟩ H21 hr21; refine W_seq ?_; refine W_reg (by kernel_rfl) ?_; refine wla rfl rfl (q_ltI rfl s76_22 s75_22) ?_; refine wl_nil ?_; refine W_th ?_; refine W_seq ?_; refine W_cond _ rfl rfl (fun hb23 => ?_) (fun hb23 => ?_)
      · replace H21 := (if_pos (of_decide_eq_true hb23)).symm.trans H21; refine W_skip ?_; refine W_th ?_; refine W_seq ?_; refine W_block ?_; refine W_seq ?_; refine W_reg (by kernel_rfl) ?_; refine wla rfl rfl (q_move (v := (i64 s21)) rfl s76_22) ?_; obtain ⟨c24, hc24, H21⟩ := bsi H21; refine wla rfl rfl (q_adr rfl T22 s74_22 s76_22 i1_22 hc24) ?_; refine wlq_load rfl rfl rfl T22 rfl i1_22 hc24 (Ext.refl _) (fun v25 i25 => ?_); refine wla rfl rfl (q_assign (v := (i64 s21)) rfl rfl) ?_; refine wla rfl rfl (q_assign (v := v25) rfl rfl) ?_; refine wl_nil ?_; refine W_th ?_; refine W_seq ?_; refine W_reg (by kernel_rfl) ?_; refine wla rfl rfl (q_move (v := v25) rfl rfl) ?_; refine wla rfl rfl (q_len rfl T30.sl rfl i25) ?_; refine wla rfl rfl (q_move (v := (i64 0)) rfl rfl) ?_; refine wl_nil ?_; refine W_th ?_; obtain ⟨x26, G26, H21⟩ := bsi H21; refine W_mid (fun f w => ∃ y26, x26 = .inl y26 ∧ f 0 = p0 ∧ f 1 = p1 ∧ f 7 = v12 ∧ f 74 = v19 ∧ f 75 = (i64 ((r19.length : Int))) ∧ f 76 = (i64 s21) ∧ f 207 = undef ∧ Ext w0 w ∧ Fd w [] v12 r12 ∧ Rw w [] v19 r19) ?_ ?_
        · refine W_block ?_; refine W_loop (fun s26 f w => f 0 = p0 ∧ f 1 = p1 ∧ f 7 = v12 ∧ f 11 = (i64 s21) ∧ f 12 = v25 ∧ f 74 = v19 ∧ f 75 = (i64 ((r19.length : Int))) ∧ f 76 = (i64 s21) ∧ f 82 = (i64 ((c24.length : Int))) ∧ f 83 = (i64 s26) ∧ f 207 = undef ∧ Ext w0 w ∧ Fd w [] v12 r12 ∧ By w [] v25 c24 ∧ Rw w [] v19 r19) G26 ?_ ?_
          · exact ⟨s0_22, s1_22, s7_22, rfl, rfl, s74_22, s75_22, s76_22, rfl, rfl, s207_22, hE22, i0_22, i25, i1_22⟩
          rintro s26 _ _ w27 ⟨s0_27, s1_27, s7_27, s11_27, s12_27, s74_27, s75_27, s76_27, s82_27, s83_27, s207_27, hE27, i0_27, i1_27, i2_27⟩ H26 hr26; refine W_seq ?_; refine W_reg (by kernel_rfl) ?_; refine wla rfl rfl (q_ltI rfl s83_27 s82_27) ?_; refine wl_nil ?_; refine W_th ?_; refine W_seq ?_; refine W_cond _ rfl rfl (fun hb28 => ?_) (fun hb28 => ?_)
          · replace H26 := (if_pos (of_decide_eq_true hb28)).symm.trans H26; refine W_skip ?_; refine W_th ?_; refine W_seq ?_; refine W_block ?_; refine W_seq ?_; refine W_reg (by kernel_rfl) ?_; refine wla rfl rfl (q_move (v := (i64 s26)) rfl s83_27) ?_; refine wla rfl rfl (q_assign (v := (i64 s26)) rfl rfl) ?_; refine wl_nil ?_; refine W_th ?_; refine W_seq ?_; refine W_draw [3, 7] [(0, 0), (1, 0), (2, 0), (3, 1), (4, 0), (5, 0), (6, 0), (7, 1), (8, 0), (9, 2), (10, 0)] mixed (by kernel_rfl) (by kernel_rfl) (by kernel_rfl) (by kernel_rfl) ?_; have x29 := Ext.drew w27; replace i0_27 := i0_27.lift (Lift.ext x29 _); replace i1_27 := i1_27.lift (Lift.ext x29 _); replace i2_27 := i2_27.lift (Lift.ext x29 _); have e30 := hE27.trans x29; refine wsa rfl rfl rfl (q_move (v := v25) rfl s12_27) ?_; refine wsa rfl rfl rfl (q_move (v := (i64 s26)) rfl rfl) ?_; obtain ⟨c31, hc31, H26⟩ := bsi H26; refine wsa rfl rfl rfl (q_adr rfl T30 rfl rfl i1_27 hc31) ?_; refine wsq rfl rfl rfl (q_loadS rfl T30 rfl i1_27 hc31) ?_; refine wsa rfl rfl rfl (q_move (v := p0) rfl s0_27) ?_; refine wsa rfl rfl rfl (q_move (v := (i64 s21)) rfl s11_27) ?_; obtain ⟨c32, hc32, H26⟩ := bsi H26; refine wsa rfl rfl rfl (q_adr rfl T30 rfl rfl (hp0.lift (Lift.ext e30 _)) hc32) ?_; refine wsq rfl rfl rfl (q_loadS rfl T30 rfl (hp0.lift (Lift.ext e30 _)) hc32) ?_; refine wsa rfl rfl rfl (q_move (v := (i64 s26)) rfl rfl) ?_; obtain ⟨r33, hr33, H26⟩ := bsi H26; refine wss rfl rfl rfl (stp_call (vs := [(u8 c32), (i64 s26)]) Try.func30 rfl rfl rfl (ar2 rfl rfl) (ref02_Pow_calls c32 s26  r33 _  hr33) ?_); rintro _ w33 ⟨rfl, x33⟩; refine ⟨_, rfl, x33, ?_⟩; replace i0_27 := i0_27.lift (Lift.ext x33 _); replace i1_27 := i1_27.lift (Lift.ext x33 _); replace i2_27 := i2_27.lift (Lift.ext x33 _); have e34 := e30.trans x33; refine wsa rfl rfl rfl (q_ne8 rfl rfl rfl) ?_; refine ws_nil ?_; refine W_th ?_; refine W_cond _ rfl rfl (fun hb35 => ?_) (fun hb35 => ?_)
            · replace H26 := (if_neg (ndec_t hb35)).symm.trans H26; refine W_seq ?_; refine W_reg (by kernel_rfl) ?_; refine wla rfl rfl (q_assign (v := (.bool false)) rfl rfl) ?_; refine wl_nil ?_; refine W_th ?_; refine W_ret ?_; refine bk_r ?_; refine th_r ?_; obtain rfl := osi H26; obtain rfl := hr26 _ rfl; simp only [Sum.elim_inr] at H21; refine th_r ?_; refine bk_r ?_; refine th_r ?_; refine bk_r ?_; refine th_r ?_; obtain rfl := osi H21; obtain rfl := hr21 _ rfl; simp only [Sum.elim_inr] at H; refine th_r ?_; refine bk_r ?_; refine th_r ?_; refine th_r ?_; obtain rfl := osi H; refine rt1 (.bool false) rfl rfl rfl s207_27 ?_; exact ⟨rfl, e34⟩
            replace H26 := (if_pos (ndec_f hb35)).symm.trans H26; refine W_skip ?_; refine bk_n ?_; refine W_th ?_; refine W_reg (by kernel_rfl) ?_; refine wla rfl rfl (q_addI rfl s83_27 rfl) ?_; refine wla rfl rfl (q_move (v := (i64 ((wI (s26 + 1))))) rfl rfl) ?_; refine wl_nil ?_; obtain rfl := osi H26; exact ⟨_, rfl, s0_27, s1_27, s7_27, s11_27, s12_27, s74_27, s75_27, s76_27, s82_27, rfl, s207_27, e34, i0_27, i1_27, i2_27⟩
          replace H26 := (if_neg (of_decide_eq_false hb28)).symm.trans H26; refine W_exit ?_; refine th_x ?_; obtain rfl := osi H26; obtain rfl := hr26 _ rfl; refine th_x ?_; refine bk_x ?_; exact ⟨_, rfl, s0_27, s1_27, s7_27, s74_27, s75_27, s76_27, s207_27, hE27, i0_27, i2_27⟩
        rintro _ w37 ⟨y26, rfl, s0_37, s1_37, s7_37, s74_37, s75_37, s76_37, s207_37, hE37, i0_37, i1_37⟩; simp only [Sum.elim_inl] at H21; refine bk_n ?_; refine W_th ?_; refine W_reg (by kernel_rfl) ?_; refine wla rfl rfl (q_addI rfl s76_37 rfl) ?_; refine wla rfl rfl (q_move (v := (i64 ((wI (s21 + 1))))) rfl rfl) ?_; refine wl_nil ?_; obtain rfl := osi H21; exact ⟨_, rfl, s0_37, s1_37, s7_37, s74_37, s75_37, rfl, s207_37, hE37, i0_37, i1_37⟩
      replace H21 := (if_neg (of_decide_eq_false hb23)).symm.trans H21; refine W_exit ?_; refine th_x ?_; obtain rfl := osi H21; obtain rfl := hr21 _ rfl; refine th_x ?_; refine bk_x ?_; exact ⟨_, rfl, s0_22, s1_22, s7_22, s207_22, hE22, i0_22⟩
    rintro _ w40 ⟨y21, rfl, s0_40, s1_40, s7_40, s207_40, hE40, i0_40⟩; simp only [Sum.elim_inl] at H; refine W_th ?_; refine W_seq ?_; refine W_reg (by kernel_rfl) ?_; refine wla rfl rfl (q_assign (v := (.func (.func 31) #[] #[])) rfl rfl) ?_; refine wl_nil ?_; refine W_th ?_; refine W_seq ?_; obtain ⟨x41, H41, H⟩ := bsi H; refine W_mid (fun f w => ∃ s41, x41 = .inl s41 ∧ f 0 = p0 ∧ f 1 = p1 ∧ f 7 = v12 ∧ f 14 = (.func (.func 31) #[] #[]) ∧ f 207 = undef ∧ Ext w0 w ∧ Fd w [] v12 r12) ?_ ?_
    · refine W_seq ?_; refine W_reg (by kernel_rfl) ?_; refine wla rfl rfl (q_move (v := p0) rfl s0_40) ?_; refine wla rfl rfl (q_len rfl T30.sl rfl (hp0.lift (Lift.ext hE40 _))) ?_; refine wla rfl rfl (q_assign (v := (i64 ((a0xs.length : Int)))) rfl rfl) ?_; refine wl_nil ?_; refine W_th ?_; refine W_seq ?_; refine W_reg (by kernel_rfl) ?_; refine wla rfl rfl (q_move (v := (i64 ((a0xs.length : Int)))) rfl rfl) ?_; refine wla rfl rfl (q_gtI rfl rfl rfl) ?_; refine wl_nil ?_; refine W_th ?_; refine W_cond _ rfl rfl (fun hb42 => ?_) (fun hb42 => ?_)
      · replace H41 := (if_pos (of_decide_eq_true hb42)).symm.trans H41; refine W_seq ?_; refine W_reg (by kernel_rfl) ?_; refine wla rfl rfl (q_move (v := v12) rfl s7_40) ?_; refine wla rfl rfl (q_move (v := p0) rfl s0_40) ?_; refine wla rfl rfl (q_move (v := (i64 ((a0xs.length : Int)))) rfl rfl) ?_; obtain ⟨r43, hr43, H41⟩ := bsi H41; refine wls rfl rfl (stp_call (vs := [v12, p0, (i64 ((a0xs.length : Int)))]) Try.func29 rfl rfl rfl (ar3 rfl rfl rfl) (matrix_Vandermonde_calls r12 a0xs (a0xs.length : Int) v12 p0 r43 _ [] (Old.nil _) (i0_40.lift (Lift.sub (L' := []) (fun _ _ => trivial))) (hp0.lift (Lift.ext hE40 _)) hr43) ?_); rintro _ w43 ⟨v43_0, rfl, x43, i43_0⟩; refine ⟨_, rfl, ?_⟩; replace i0_40 := i0_40.lift (Lift.ext x43 _); have e44 := hE40.trans x43; refine wla rfl rfl (q_move (v := (.tuple #[v43_0, (i64 r43.2)])) rfl rfl) ?_; refine wla rfl rfl (q_extract rfl rfl rfl) ?_; refine wla rfl rfl (q_extract rfl rfl rfl) ?_; refine wla rfl rfl (q_assign (v := v43_0) rfl rfl) ?_; refine wla rfl rfl (q_assign (v := (i64 r43.2)) rfl rfl) ?_; refine wl_nil ?_; refine W_th ?_; refine W_seq ?_; refine W_reg (by kernel_rfl) ?_; refine wla rfl rfl (q_move (v := v43_0) rfl rfl) ?_; refine wla rfl rfl (q_move (v := v12) rfl s7_40) ?_; obtain ⟨r45, hr45, H41⟩ := bsi H41; refine wls rfl rfl (stp_call (vs := [v43_0, v12]) Try.func26 rfl rfl rfl (ar2 rfl rfl) (matrix_Inverse_calls r43.1 r12 v43_0 v12 r45 _ [] (Old.nil _) (i43_0.lift (Lift.sub (L' := []) (fun _ _ => trivial))) (i0_40.lift (Lift.sub (L' := []) (fun _ _ => trivial))) hr45) ?_); rintro _ w45 ⟨v45_0, rfl, x45, i45_0⟩; refine ⟨_, rfl, ?_⟩; replace i0_40 := i0_40.lift (Lift.ext x45 _); replace i43_0 := i43_0.lift (Lift.ext x45 _); have e46 := e44.trans x45; refine wla rfl rfl (q_move (v := (.tuple #[v45_0, (i64 r45.2)])) rfl rfl) ?_; refine wla rfl rfl (q_extract rfl rfl rfl) ?_; refine wla rfl rfl (q_extract rfl rfl rfl) ?_; refine wla rfl rfl (q_assign (v := v45_0) rfl rfl) ?_; refine wla rfl rfl (q_assign (v := (i64 r45.2)) rfl rfl) ?_; refine wl_nil ?_; refine W_th ?_; refine W_seq ?_; refine W_reg (by kernel_rfl) ?_; refine wla rfl rfl (q_move (v := (i64 r45.2)) rfl rfl) ?_; refine wla rfl rfl (q_eqI rfl rfl rfl) ?_; refine wla rfl rfl (q_move (v := (.func (.func 31) #[] #[])) rfl rfl) ?_; refine wla rfl rfl (q_move (v := p0) rfl s0_40) ?_; obtain ⟨r47, hr47, H41⟩ := bsi H41; refine wls rfl rfl (stp_callV rfl (vs := [p0]) Try.func31 rfl rfl rfl (ar1 rfl) (law04_MatrixNamed_1_calls a0xs p0 r47 _ (hp0.lift (Lift.ext e46 _)) hr47) ?_); rintro _ w47 ⟨rfl, x47⟩; refine ⟨_, rfl, ?_⟩; replace i0_40 := i0_40.lift (Lift.ext x47 _); replace i43_0 := i43_0.lift (Lift.ext x47 _); replace i45_0 := i45_0.lift (Lift.ext x47 _); have e48 := e46.trans x47; refine wla rfl rfl (q_neB rfl (by kernel_rfl) rfl rfl) ?_; refine wl_nil ?_; refine W_th ?_; refine W_cond _ rfl rfl (fun hb49 => ?_) (fun hb49 => ?_)
        · replace H41 := (if_pos hb49).symm.trans H41; refine W_seq ?_; refine W_reg (by kernel_rfl) ?_; refine wla rfl rfl (q_assign (v := (.bool false)) rfl rfl) ?_; refine wl_nil ?_; refine W_th ?_; refine W_ret ?_; obtain rfl := osi H41; simp only [Sum.elim_inr] at H; refine th_r ?_; refine th_r ?_; obtain rfl := osi H; refine rt1 (.bool false) rfl rfl rfl s207_40 ?_; exact ⟨rfl, e48⟩
        replace H41 := (if_neg (ne_true_of_eq_false hb49)).symm.trans H41; refine W_skip ?_; obtain rfl := osi H41; exact ⟨_, rfl, s0_40, s1_40, s7_40, rfl, s207_40, e48, i0_40⟩
      replace H41 := (if_neg (of_decide_eq_false hb42)).symm.trans H41; refine W_skip ?_; obtain rfl := osi H41; exact ⟨_, rfl, s0_40, s1_40, s7_40, rfl, s207_40, hE40, i0_40⟩
    rintro _ w50 ⟨s41, rfl, s0_50, s1_50, s7_50, s14_50, s207_50, hE50, i0_50⟩; simp only [Sum.elim_inl] at H; refine W_th ?_; refine W_seq ?_; refine W_reg (by kernel_rfl) ?_; refine wla rfl rfl (q_move (v := v12) rfl s7_50) ?_; refine wla rfl rfl (q_move (v := p0) rfl s0_50) ?_; refine wla rfl rfl (q_move (v := p1) rfl s1_50) ?_; obtain ⟨r51, hr51, H⟩ := bsi H; refine wls rfl rfl (stp_call (vs := [v12, p0, p1]) Try.func32 rfl rfl rfl (ar3 rfl rfl rfl) (matrix_Cauchy_calls r12 a0xs a1ys v12 p0 p1 r51 _ [] (Old.nil _) (i0_50.lift (Lift.sub (L' := []) (fun _ _ => trivial))) (hp0.lift (Lift.ext hE50 _)) (hp1.lift (Lift.ext hE50 _)) hr51) ?_); rintro _ w51 ⟨v51_0, rfl, x51, i51_0⟩; refine ⟨_, rfl, ?_⟩; replace i0_50 := i0_50.lift (Lift.ext x51 _); have e52 := hE50.trans x51; refine wla rfl rfl (q_move (v := (.tuple #[v51_0, (i64 r51.2)])) rfl rfl) ?_; refine wla rfl rfl (q_extract rfl rfl rfl) ?_; refine wla rfl rfl (q_extract rfl rfl rfl) ?_; refine wla rfl rfl (q_assign (v := v51_0) rfl rfl) ?_; refine wla rfl rfl (q_assign (v := (i64 r51.2)) rfl rfl) ?_; refine wl_nil ?_; refine W_th ?_; refine W_seq ?_; refine W_block ?_; refine W_seq ?_; refine W_reg (by kernel_rfl) ?_; refine wla rfl rfl (q_move (v := p0) rfl s0_50) ?_; refine wla rfl rfl (q_len rfl T30.sl rfl (hp0.lift (Lift.ext e52 _))) ?_; refine wla rfl rfl (q_eqI rfl rfl rfl) ?_; refine wlb rfl rfl (q_move (v := (.bool ((decide ((a0xs.length : Int) = 0))))) rfl rfl) (fun hb53 => ?_) (fun hb53 => ?_)
    · replace H := (if_pos (of_decide_eq_true hb53)).symm.trans H; refine wlk rfl rfl ?_; refine wlk rfl rfl ?_; refine wlk rfl rfl ?_; refine wla rfl rfl (q_pick_t (v := (.bool true)) rfl rfl rfl) ?_; refine wla rfl rfl (q_assign (v := (.bool true)) rfl rfl) ?_; refine wl_nil ?_; refine W_th ?_; refine W_cond true rfl rfl (fun _ => ?_) (fun hb => by cases hb); refine W_seq ?_; refine W_reg (by kernel_rfl) ?_; refine wla rfl rfl (q_move (v := (i64 r51.2)) rfl rfl) ?_; refine wla rfl rfl (q_eqI rfl rfl rfl) ?_; refine wlb rfl rfl (q_move (v := (.bool ((decide (r51.2 = 2))))) rfl rfl) (fun hb54 => ?_) (fun hb54 => ?_)
      · replace H := (if_pos (of_decide_eq_true hb54)).symm.trans H; refine wla rfl rfl (q_move (v := v51_0) rfl rfl) ?_; refine wla rfl rfl (q_eqM rfl rfl rfl rfl i51_0) ?_; refine wla rfl rfl (q_pick_t (v := (.bool r51.1.isNone)) rfl rfl rfl) ?_; refine wla rfl rfl (q_assign (v := (.bool r51.1.isNone)) rfl rfl) ?_; refine wl_nil ?_; refine W_th ?_; refine W_ret ?_; refine bk_r ?_; refine th_r ?_; obtain rfl := osi H; refine rt1 (.bool r51.1.isNone) rfl rfl rfl s207_50 ?_; exact ⟨rfl, e52⟩
      replace H := (if_neg (of_decide_eq_false hb54)).symm.trans H; refine wlk rfl rfl ?_; refine wlk rfl rfl ?_; refine wla rfl rfl (q_pick_f (v := (.bool false)) rfl rfl rfl) ?_; refine wla rfl rfl (q_assign (v := (.bool false)) rfl rfl) ?_; refine wl_nil ?_; refine W_th ?_; refine W_ret ?_; refine bk_r ?_; refine th_r ?_; obtain rfl := osi H; refine rt1 (.bool false) rfl rfl rfl s207_50 ?_; exact ⟨rfl, e52⟩
    replace H := (if_neg (of_decide_eq_false hb53)).symm.trans H; refine wla rfl rfl (q_move (v := p1) rfl s1_50) ?_; refine wla rfl rfl (q_len rfl T30.sl rfl (hp1.lift (Lift.ext e52 _))) ?_; refine wla rfl rfl (q_eqI rfl rfl rfl) ?_; refine wla rfl rfl (q_pick_f (v := (.bool ((decide ((a1ys.length : Int) = 0))))) rfl rfl rfl) ?_; refine wla rfl rfl (q_assign (v := (.bool ((decide ((a1ys.length : Int) = 0))))) rfl rfl) ?_; refine wl_nil ?_; refine W_th ?_; refine W_cond _ rfl rfl (fun hb55 => ?_) (fun hb55 => ?_)
    · replace H := (if_pos (of_decide_eq_true hb55)).symm.trans H; refine W_seq ?_; refine W_reg (by kernel_rfl) ?_; refine wla rfl rfl (q_move (v := (i64 r51.2)) rfl rfl) ?_; refine wla rfl rfl (q_eqI rfl rfl rfl) ?_; refine wlb rfl rfl (q_move (v := (.bool ((decide (r51.2 = 2))))) rfl rfl) (fun hb56 => ?_) (fun hb56 => ?_)
      · replace H := (if_pos (of_decide_eq_true hb56)).symm.trans H; refine wla rfl rfl (q_move (v := v51_0) rfl rfl) ?_; refine wla rfl rfl (q_eqM rfl rfl rfl rfl i51_0) ?_; refine wla rfl rfl (q_pick_t (v := (.bool r51.1.isNone)) rfl rfl rfl) ?_; refine wla rfl rfl (q_assign (v := (.bool r51.1.isNone)) rfl rfl) ?_; refine wl_nil ?_; refine W_th ?_; refine W_ret ?_; refine bk_r ?_; refine th_r ?_; obtain rfl := osi H; refine rt1 (.bool r51.1.isNone) rfl rfl rfl s207_50 ?_; exact ⟨rfl, e52⟩
      replace H := (if_neg (of_decide_eq_false hb56)).symm.trans H; refine wlk rfl rfl ?_; refine wlk rfl rfl ?_; refine wla rfl rfl (q_pick_f (v := (.bool false)) rfl rfl rfl) ?_; refine wla rfl rfl (q_assign (v := (.bool false)) rfl rfl) ?_; refine wl_nil ?_; refine W_th ?_; refine W_ret ?_; refine bk_r ?_; refine th_r ?_; obtain rfl := osi H; refine rt1 (.bool false) rfl rfl rfl s207_50 ?_; exact ⟨rfl, e52⟩
    replace H := (if_neg (of_decide_eq_false hb55)).symm.trans H; refine W_seq ?_; refine W_reg (by kernel_rfl) ?_; refine wla rfl rfl (q_move (v := (.func (.func 31) #[] #[])) rfl s14_50) ?_; refine wls rfl rfl (stp_lit (L := []) (R := (Sc u8)) [] ([] : List UInt8) rfl T30 rfl (by exact trivial) rfl (litC u8 (oneC_u8) (us := []) (l := ([] : List UInt8)) rfl) rfl (litS u8 (us := []) (l := ([] : List UInt8)) rfl) ?_); intro v57 w57 o57 n57 g57 l57; have x57 := grown_ext g57; replace i0_50 := i0_50.lift (Lift.call _ x57 n57); replace i51_0 := i51_0.lift (Lift.call _ x57 n57); have n59 := Nw.ext e52 n57; have e58 := e52.trans x57; refine wla rfl rfl (q_move (v := p0) rfl s0_50) ?_; obtain ⟨c60, hc60, H⟩ := bsi H; refine wls rfl rfl (stp_append (R := (Sc u8)) (v := v57) (u := p0) (Sc.stab _) [] [] rfl T30 rfl rfl o57 (hp0.lift (Lift.ext e58 _)) (fun _ _ h => h) hc60 oc_u8 ?_); intro v60 w60 o60 g60 nx60 l60; replace i0_50 := i0_50.lift l60; replace i51_0 := i51_0.lift l60; have e61 := e58.grown g60 n59; have n62 := Nw.nxt e58 n59 nx60; refine wla rfl rfl (q_move (v := p1) rfl s1_50) ?_; obtain ⟨c63, hc63, H⟩ := bsi H; refine wls rfl rfl (stp_append (R := (Sc u8)) (v := v60) (u := p1) (Sc.stab _) [] [] rfl T30 rfl rfl o60 (hp1.lift (Lift.ext e61 _)) (fun _ _ h => h) hc63 oc_u8 ?_); intro v63 w63 o63 g63 nx63 l63; replace i0_50 := i0_50.lift l63; replace i51_0 := i51_0.lift l63; have e65 := e61.grown g63 n62; have n66 := Nw.nxt e61 n62 nx63; obtain ⟨r67, hr67, H⟩ := bsi H; refine wls rfl rfl (stp_callV rfl (vs := [v63]) Try.func31 rfl rfl rfl (ar1 rfl) (law04_MatrixNamed_1_calls c63 v63 r67 _ (o63.rd (Sc.stab _)) hr67) ?_); rintro _ w67 ⟨rfl, x67⟩; refine ⟨_, rfl, ?_⟩; replace i0_50 := i0_50.lift (Lift.ext x67 _); replace i51_0 := i51_0.lift (Lift.ext x67 _); replace o63 := o63.extL (Sc.stab _) x67 (Lift.ext x67 _); have e68 := e65.trans x67; refine wla rfl rfl (q_not rfl rfl) ?_; refine wla rfl rfl (q_assign (v := (.bool ((!r67)))) rfl rfl) ?_; refine wl_nil ?_; refine W_th ?_; refine W_cond _ rfl rfl (fun hb69 => ?_) (fun hb69 => ?_)
    · replace H := (if_pos hb69).symm.trans H; refine W_seq ?_; refine W_reg (by kernel_rfl) ?_; refine wla rfl rfl (q_move (v := (i64 r51.2)) rfl rfl) ?_; refine wla rfl rfl (q_eqI rfl rfl rfl) ?_; refine wlb rfl rfl (q_move (v := (.bool ((decide (r51.2 = 6))))) rfl rfl) (fun hb70 => ?_) (fun hb70 => ?_)
      · replace H := (if_pos (of_decide_eq_true hb70)).symm.trans H; refine wla rfl rfl (q_move (v := v51_0) rfl rfl) ?_; refine wla rfl rfl (q_eqM rfl rfl rfl rfl i51_0) ?_; refine wla rfl rfl (q_pick_t (v := (.bool r51.1.isNone)) rfl rfl rfl) ?_; refine wla rfl rfl (q_assign (v := (.bool r51.1.isNone)) rfl rfl) ?_; refine wl_nil ?_; refine W_th ?_; refine W_ret ?_; refine bk_r ?_; refine th_r ?_; obtain rfl := osi H; refine rt1 (.bool r51.1.isNone) rfl rfl rfl s207_50 ?_; exact ⟨rfl, e68⟩
      replace H := (if_neg (of_decide_eq_false hb70)).symm.trans H; refine wlk rfl rfl ?_; refine wlk rfl rfl ?_; refine wla rfl rfl (q_pick_f (v := (.bool false)) rfl rfl rfl) ?_; refine wla rfl rfl (q_assign (v := (.bool false)) rfl rfl) ?_; refine wl_nil ?_; refine W_th ?_; refine W_ret ?_; refine bk_r ?_; refine th_r ?_; obtain rfl := osi H; refine rt1 (.bool false) rfl rfl rfl s207_50 ?_; exact ⟨rfl, e68⟩
    replace H := (if_neg (ne_true_of_eq_false hb69)).symm.trans H; refine W_skip ?_; refine bk_n ?_; refine W_th ?_; refine W_seq ?_; refine W_seq ?_; refine W_reg (by kernel_rfl) ?_; refine wla rfl rfl (q_move (v := v51_0) rfl rfl) ?_; obtain ⟨r71, hr71, H⟩ := bsi H; refine wls rfl rfl (stp_call (vs := [v51_0]) Try.func15 rfl rfl rfl (ar1 rfl) (law04_rows_calls r51.1 v51_0 r71 _ [v63] (Old.cons (Old.nil _) o63.lt) (i51_0.lift (Lift.sub (L' := []) (fun _ _ => trivial))) hr71) ?_); rintro _ w71 ⟨v71, rfl, x71, n71_0, o71_0⟩; refine ⟨_, rfl, ?_⟩; have i71_0 : Rw w71 [v63] v71 r71 := OwK.slk (SlK.stab (Sc.stab _)) _ o71_0 (fun k hk => (Old.cons (Old.nil _) o63.lt) k (n71_0 k hk)) (fun _ h => h.2); replace i0_50 := i0_50.lift (Lift.ext x71 _); replace i51_0 := i51_0.lift (Lift.ext x71 _); replace o63 := o63.extL (Sc.stab _) x71 (Lift.ext x71 _); have e72 := e68.trans x71; refine wla rfl rfl (q_len rfl T22.sl rfl i71_0) ?_; refine wla rfl rfl (q_move (v := (i64 0)) rfl rfl) ?_; refine wl_nil ?_; refine W_th ?_; obtain ⟨x73, G73, H⟩ := bsi H; refine W_mid (fun f w => ∃ y73, x73 = .inl y73 ∧ f 0 = p0 ∧ f 1 = p1 ∧ f 7 = v12 ∧ f 20 = v51_0 ∧ f 21 = (i64 r51.2) ∧ f 207 = undef ∧ Ext w0 w ∧ Fd w [] v12 r12 ∧ Mx w [] v51_0 r51.1) ?_ ?_
    · refine W_block ?_; refine W_loop (fun s73 f w => f 0 = p0 ∧ f 1 = p1 ∧ f 7 = v12 ∧ f 20 = v51_0 ∧ f 21 = (i64 r51.2) ∧ f 160 = v71 ∧ f 161 = (i64 ((r71.length : Int))) ∧ f 162 = (i64 s73) ∧ f 207 = undef ∧ Ext w0 w ∧ Fd w [] v12 r12 ∧ Mx w [] v51_0 r51.1 ∧ Rw w [] v71 r71) G73 ?_ ?_
      · exact ⟨s0_50, s1_50, s7_50, rfl, rfl, rfl, rfl, rfl, s207_50, e72, (i0_50.lift (Lift.sub (fun _ h => trivial))), (i51_0.lift (Lift.sub (fun _ h => trivial))), (i71_0.lift (Lift.sub (fun _ h => trivial)))⟩
      rintro s73 _ _ w74 ⟨s0_74, s1_74, s7_74, s20_74, s21_74, s160_74, s161_74, s162_74, s207_74, hE74, i0_74, i1_74, i2_74⟩ H73 hr73; refine W_seq ?_; refine W_reg (by kernel_rfl) ?_; refine wla rfl rfl (q_ltI rfl s162_74 s161_74) ?_; refine wl_nil ?_; refine W_th ?_; refine W_seq ?_; refine W_cond _ rfl rfl (fun hb75 => ?_) (fun hb75 => ?_)
      · replace H73 := (if_pos (of_decide_eq_true hb75)).symm.trans H73; refine W_skip ?_; refine W_th ?_; refine W_seq ?_; refine W_block ?_; refine W_seq ?_; refine W_reg (by kernel_rfl) ?_; refine wla rfl rfl (q_move (v := (i64 s73)) rfl s162_74) ?_; obtain ⟨c76, hc76, H73⟩ := bsi H73; refine wla rfl rfl (q_adr rfl T22 s160_74 s162_74 i2_74 hc76) ?_; refine wlq_load rfl rfl rfl T22 rfl i2_74 hc76 (Ext.refl _) (fun v77 i77 => ?_); refine wla rfl rfl (q_assign (v := (i64 s73)) rfl rfl) ?_; refine wla rfl rfl (q_assign (v := v77) rfl rfl) ?_; refine wl_nil ?_; refine W_th ?_; refine W_seq ?_; refine W_reg (by kernel_rfl) ?_; refine wla rfl rfl (q_move (v := v77) rfl rfl) ?_; refine wla rfl rfl (q_len rfl T30.sl rfl i77) ?_; refine wla rfl rfl (q_move (v := (i64 0)) rfl rfl) ?_; refine wl_nil ?_; refine W_th ?_; obtain ⟨x78, G78, H73⟩ := bsi H73; refine W_mid (fun f w => ∃ y78, x78 = .inl y78 ∧ f 0 = p0 ∧ f 1 = p1 ∧ f 7 = v12 ∧ f 20 = v51_0 ∧ f 21 = (i64 r51.2) ∧ f 160 = v71 ∧ f 161 = (i64 ((r71.length : Int))) ∧ f 162 = (i64 s73) ∧ f 207 = undef ∧ Ext w0 w ∧ Fd w [] v12 r12 ∧ Mx w [] v51_0 r51.1 ∧ Rw w [] v71 r71) ?_ ?_
        · refine W_block ?_; refine W_loop (fun s78 f w => f 0 = p0 ∧ f 1 = p1 ∧ f 7 = v12 ∧ f 20 = v51_0 ∧ f 21 = (i64 r51.2) ∧ f 22 = (i64 s73) ∧ f 23 = v77 ∧ f 160 = v71 ∧ f 161 = (i64 ((r71.length : Int))) ∧ f 162 = (i64 s73) ∧ f 168 = (i64 ((c76.length : Int))) ∧ f 169 = (i64 s78) ∧ f 207 = undef ∧ Ext w0 w ∧ Fd w [] v12 r12 ∧ Mx w [] v51_0 r51.1 ∧ By w [] v77 c76 ∧ Rw w [] v71 r71) G78 ?_ ?_
          · exact ⟨s0_74, s1_74, s7_74, s20_74, s21_74, rfl, rfl, s160_74, s161_74, s162_74, rfl, rfl, s207_74, hE74, i0_74, i1_74, i77, i2_74⟩
          rintro s78 _ _ w79 ⟨s0_79, s1_79, s7_79, s20_79, s21_79, s22_79, s23_79, s160_79, s161_79, s162_79, s168_79, s169_79, s207_79, hE79, i0_79, i1_79, i2_79, i3_79⟩ H78 hr78; refine W_seq ?_; refine W_reg (by kernel_rfl) ?_; refine wla rfl rfl (q_ltI rfl s169_79 s168_79) ?_; refine wl_nil ?_; refine W_th ?_; refine W_seq ?_; refine W_cond _ rfl rfl (fun hb80 => ?_) (fun hb80 => ?_)
          · replace H78 := (if_pos (of_decide_eq_true hb80)).symm.trans H78; refine W_skip ?_; refine W_th ?_; refine W_seq ?_; refine W_block ?_; refine W_seq ?_; refine W_reg (by kernel_rfl) ?_; refine wla rfl rfl (q_move (v := (i64 s78)) rfl s169_79) ?_; refine wla rfl rfl (q_assign (v := (i64 s78)) rfl rfl) ?_; refine wl_nil ?_; refine W_th ?_; refine W_seq ?_; refine W_draw [3, 7, 11] [(0, 0), (1, 0), (2, 0), (3, 1), (4, 0), (5, 0), (6, 0), (7, 1), (8, 0), (9, 0), (10, 0), (11, 1), (12, 0), (13, 2), (14, 0)] mixed (by kernel_rfl) (by kernel_rfl) (by kernel_rfl) (by kernel_rfl) ?_; have x81 := Ext.drew w79; replace i0_79 := i0_79.lift (Lift.ext x81 _); replace i1_79 := i1_79.lift (Lift.ext x81 _); replace i2_79 := i2_79.lift (Lift.ext x81 _); replace i3_79 := i3_79.lift (Lift.ext x81 _); have e82 := hE79.trans x81; refine wsa rfl rfl rfl (q_move (v := v77) rfl s23_79) ?_; refine wsa rfl rfl rfl (q_move (v := (i64 s78)) rfl rfl) ?_; obtain ⟨c83, hc83, H78⟩ := bsi H78; refine wsa rfl rfl rfl (q_adr rfl T30 rfl rfl i2_79 hc83) ?_; refine wsq rfl rfl rfl (q_loadS rfl T30 rfl i2_79 hc83) ?_; refine wsa rfl rfl rfl (q_move (v := p0) rfl s0_79) ?_; refine wsa rfl rfl rfl (q_move (v := (i64 s73)) rfl s22_79) ?_; obtain ⟨c84, hc84, H78⟩ := bsi H78; refine wsa rfl rfl rfl (q_adr rfl T30 rfl rfl (hp0.lift (Lift.ext e82 _)) hc84) ?_; refine wsq rfl rfl rfl (q_loadS rfl T30 rfl (hp0.lift (Lift.ext e82 _)) hc84) ?_; refine wsa rfl rfl rfl (q_move (v := p1) rfl s1_79) ?_; refine wsa rfl rfl rfl (q_move (v := (i64 s78)) rfl rfl) ?_; obtain ⟨c85, hc85, H78⟩ := bsi H78; refine wsa rfl rfl rfl (q_adr rfl T30 rfl rfl (hp1.lift (Lift.ext e82 _)) hc85) ?_; refine wsq rfl rfl rfl (q_loadS rfl T30 rfl (hp1.lift (Lift.ext e82 _)) hc85) ?_; refine wsa rfl rfl rfl (q_xor8 rfl rfl rfl) ?_; obtain ⟨r86, hr86, H78⟩ := bsi H78; refine wss rfl rfl rfl (stp_call (vs := [(u8 ((c84 ^^^ c85)))]) Try.func33 rfl rfl rfl (ar1 rfl) (ref02_Inv_calls (c84 ^^^ c85)  r86 _  hr86) ?_); rintro _ w86 ⟨rfl, x86⟩; refine ⟨_, rfl, x86, ?_⟩; replace i0_79 := i0_79.lift (Lift.ext x86 _); replace i1_79 := i1_79.lift (Lift.ext x86 _); replace i2_79 := i2_79.lift (Lift.ext x86 _); replace i3_79 := i3_79.lift (Lift.ext x86 _); have e87 := e82.trans x86; refine wsa rfl rfl rfl (q_ne8 rfl rfl rfl) ?_; refine ws_nil ?_; refine W_th ?_; refine W_cond _ rfl rfl (fun hb88 => ?_) (fun hb88 => ?_)
            · replace H78 := (if_neg (ndec_t hb88)).symm.trans H78; refine W_seq ?_; refine W_reg (by kernel_rfl) ?_; refine wla rfl rfl (q_assign (v := (.bool false)) rfl rfl) ?_; refine wl_nil ?_; refine W_th ?_; refine W_ret ?_; refine bk_r ?_; refine th_r ?_; obtain rfl := osi H78; obtain rfl := hr78 _ rfl; simp only [Sum.elim_inr] at H73; refine th_r ?_; refine bk_r ?_; refine th_r ?_; refine bk_r ?_; refine th_r ?_; obtain rfl := osi H73; obtain rfl := hr73 _ rfl; simp only [Sum.elim_inr] at H; refine th_r ?_; refine bk_r ?_; refine th_r ?_; refine th_r ?_; obtain rfl := osi H; refine rt1 (.bool false) rfl rfl rfl s207_79 ?_; exact ⟨rfl, e87⟩
            replace H78 := (if_pos (ndec_f hb88)).symm.trans H78; refine W_skip ?_; refine bk_n ?_; refine W_th ?_; refine W_reg (by kernel_rfl) ?_; refine wla rfl rfl (q_addI rfl s169_79 rfl) ?_; refine wla rfl rfl (q_move (v := (i64 ((wI (s78 + 1))))) rfl rfl) ?_; refine wl_nil ?_; obtain rfl := osi H78; exact ⟨_, rfl, s0_79, s1_79, s7_79, s20_79, s21_79, s22_79, s23_79, s160_79, s161_79, s162_79, s168_79, rfl, s207_79, e87, i0_79, i1_79, i2_79, i3_79⟩
          replace H78 := (if_neg (of_decide_eq_false hb80)).symm.trans H78; refine W_exit ?_; refine th_x ?_; obtain rfl := osi H78; obtain rfl := hr78 _ rfl; refine th_x ?_; refine bk_x ?_; exact ⟨_, rfl, s0_79, s1_79, s7_79, s20_79, s21_79, s160_79, s161_79, s162_79, s207_79, hE79, i0_79, i1_79, i3_79⟩
        rintro _ w90 ⟨y78, rfl, s0_90, s1_90, s7_90, s20_90, s21_90, s160_90, s161_90, s162_90, s207_90, hE90, i0_90, i1_90, i2_90⟩; simp only [Sum.elim_inl] at H73; refine bk_n ?_; refine W_th ?_; refine W_reg (by kernel_rfl) ?_; refine wla rfl rfl (q_addI rfl s162_90 rfl) ?_; refine wla rfl rfl (q_move (v := (i64 ((wI (s73 + 1))))) rfl rfl) ?_; refine wl_nil ?_; obtain rfl := osi H73; exact ⟨_, rfl, s0_90, s1_90, s7_90, s20_90, s21_90, s160_90, s161_90, rfl, s207_90, hE90, i0_90, i1_90, i2_90⟩
      replace H73 := (if_neg (of_decide_eq_false hb75)).symm.trans H73; refine W_exit ?_; refine th_x ?_; obtain rfl := osi H73; obtain rfl := hr73 _ rfl; refine th_x ?_; refine bk_x ?_; exact ⟨_, rfl, s0_74, s1_74, s7_74, s20_74, s21_74, s207_74, hE74, i0_74, i1_74⟩
    rintro _ w93 ⟨y73, rfl, s0_93, s1_93, s7_93, s20_93, s21_93, s207_93, hE93, i0_93, i1_93⟩; simp only [Sum.elim_inl] at H; refine W_th ?_; refine W_seq ?_; refine W_reg (by kernel_rfl) ?_; refine wla rfl rfl (q_move (v := v51_0) rfl s20_93) ?_; refine wla rfl rfl (q_move (v := v12) rfl s7_93) ?_; obtain ⟨r94, hr94, H⟩ := bsi H; refine wls rfl rfl (stp_call (vs := [v51_0, v12]) Try.func26 rfl rfl rfl (ar2 rfl rfl) (matrix_Inverse_calls r51.1 r12 v51_0 v12 r94 _ [] (Old.nil _) (i1_93.lift (Lift.sub (L' := []) (fun _ _ => trivial))) (i0_93.lift (Lift.sub (L' := []) (fun _ _ => trivial))) hr94) ?_); rintro _ w94 ⟨v94_0, rfl, x94, i94_0⟩; refine ⟨_, rfl, ?_⟩; replace i0_93 := i0_93.lift (Lift.ext x94 _); replace i1_93 := i1_93.lift (Lift.ext x94 _); have e95 := hE93.trans x94; refine wla rfl rfl (q_move (v := (.tuple #[v94_0, (i64 r94.2)])) rfl rfl) ?_; refine wla rfl rfl (q_extract rfl rfl rfl) ?_; refine wla rfl rfl (q_extract rfl rfl rfl) ?_; refine wla rfl rfl (q_assign (v := v94_0) rfl rfl) ?_; refine wla rfl rfl (q_assign (v := (i64 r94.2)) rfl rfl) ?_; refine wl_nil ?_; refine W_th ?_; refine W_seq ?_; refine W_reg (by kernel_rfl) ?_; refine wla rfl rfl (q_move (v := (i64 r51.2)) rfl s21_93) ?_; refine wla rfl rfl (q_eqI rfl rfl rfl) ?_; refine wlb rfl rfl (q_move (v := (.bool ((decide (r51.2 = 0))))) rfl rfl) (fun hb96 => ?_) (fun hb96 => ?_)
    · replace H := (if_pos (of_decide_eq_true hb96)).symm.trans H; refine wla rfl rfl (q_move (v := (i64 r94.2)) rfl rfl) ?_; refine wla rfl rfl (q_eqI rfl rfl rfl) ?_; refine wla rfl rfl (q_move (v := p0) rfl s0_93) ?_; refine wla rfl rfl (q_len rfl T30.sl rfl (hp0.lift (Lift.ext e95 _))) ?_; refine wla rfl rfl (q_move (v := p1) rfl s1_93) ?_; refine wla rfl rfl (q_len rfl T30.sl rfl (hp1.lift (Lift.ext e95 _))) ?_; refine wla rfl rfl (q_eqI rfl rfl rfl) ?_; refine wla rfl rfl (q_eqB rfl (by kernel_rfl) rfl rfl) ?_; refine wla rfl rfl (q_pick_t (v := (.bool ((((decide (r94.2 = 0))) == ((decide ((a0xs.length : Int) = (a1ys.length : Int)))))))) rfl rfl rfl) ?_; refine wla rfl rfl (q_assign (v := (.bool ((((decide (r94.2 = 0))) == ((decide ((a0xs.length : Int) = (a1ys.length : Int)))))))) rfl rfl) ?_; refine wl_nil ?_; refine W_th ?_; refine W_ret ?_; obtain rfl := osi H; refine rt1 (.bool ((((decide (r94.2 = 0))) == ((decide ((a0xs.length : Int) = (a1ys.length : Int))))))) rfl rfl rfl s207_93 ?_; exact ⟨rfl, e95⟩
    replace H := (if_neg (of_decide_eq_false hb96)).symm.trans H; refine wlk rfl rfl ?_; refine wlk rfl rfl ?_; refine wlk rfl rfl ?_; refine wlk rfl rfl ?_; refine wlk rfl rfl ?_; refine wlk rfl rfl ?_; refine wlk rfl rfl ?_; refine wlk rfl rfl ?_; refine wla rfl rfl (q_pick_f (v := (.bool false)) rfl rfl rfl) ?_; refine wla rfl rfl (q_assign (v := (.bool false)) rfl rfl) ?_; refine wl_nil ?_; refine W_th ?_; refine W_ret ?_; obtain rfl := osi H; refine rt1 (.bool false) rfl rfl rfl s207_93 ?_; exact ⟨rfl, e95⟩
  replace H := (if_neg (of_decide_eq_false hb16)).symm.trans H; refine wla rfl rfl (q_move (v := (i64 ((wI ((((UInt64.ofInt a2columns) % (70 : UInt64))).toNat : Int))))) rfl rfl) ?_; refine wla rfl rfl (q_ltI rfl rfl rfl) ?_; refine wla rfl rfl (q_pick_f (v := (.bool ((decide ((wI ((((UInt64.ofInt a2columns) % (70 : UInt64))).toNat : Int)) < 1))))) rfl rfl rfl) ?_; refine wlb rfl rfl (q_move (v := (.bool ((decide ((wI ((((UInt64.ofInt a2columns) % (70 : UInt64))).toNat : Int)) < 1))))) rfl rfl) (fun hb100 => ?_) (fun hb100 => ?_)
  · replace H := (if_pos (of_decide_eq_true hb100)).symm.trans H; refine wlk rfl rfl ?_; refine wlk rfl rfl ?_; refine wla rfl rfl (q_pick_t (v := (.bool true)) rfl rfl rfl) ?_; refine wla rfl rfl (q_assign (v := (.bool true)) rfl rfl) ?_; refine wl_nil ?_; refine W_th ?_; refine W_seq ?_; refine W_reg (by kernel_rfl) ?_; refine wla rfl rfl (q_move (v := (.bool true)) rfl rfl) ?_; refine wla rfl rfl (q_move (v := (i64 r14.2)) rfl rfl) ?_; refine wla rfl rfl (q_eqI rfl rfl rfl) ?_; refine wla rfl rfl (q_neB rfl (by kernel_rfl) rfl rfl) ?_; refine wlb rfl rfl (q_move (v := (.bool ((!(true == ((decide (r14.2 = 2)))))))) rfl rfl) (fun hb101 => ?_) (fun hb101 => ?_)
    · replace H := (if_pos hb101).symm.trans H; refine wlk rfl rfl ?_; refine wlk rfl rfl ?_; refine wlk rfl rfl ?_; refine wlk rfl rfl ?_; refine wla rfl rfl (q_pick_t (v := (.bool true)) rfl rfl rfl) ?_; refine wl_nil ?_; refine W_th ?_; refine W_cond true rfl rfl (fun _ => ?_) (fun hb => by cases hb); refine W_seq ?_; refine W_reg (by kernel_rfl) ?_; refine wla rfl rfl (q_assign (v := (.bool false)) rfl rfl) ?_; refine wl_nil ?_; refine W_th ?_; refine W_ret ?_; refine th_r ?_; obtain rfl := osi H; refine rt1 (.bool false) rfl rfl rfl rfl ?_; exact ⟨rfl, e15⟩
    replace H := (if_neg (ne_true_of_eq_false hb101)).symm.trans H; refine wla rfl rfl (q_move (v := (.bool true)) rfl rfl) ?_; refine wla rfl rfl (q_move (v := v14_0) rfl rfl) ?_; refine wla rfl rfl (q_eqM rfl rfl rfl rfl i14_0) ?_; refine wla rfl rfl (q_neB rfl (by kernel_rfl) rfl rfl) ?_; refine wla rfl rfl (q_pick_f (v := (.bool ((!(true == r14.1.isNone))))) rfl rfl rfl) ?_; refine wl_nil ?_; refine W_th ?_; refine W_cond _ rfl rfl (fun hb102 => ?_) (fun hb102 => ?_)
    · replace H := (if_pos hb102).symm.trans H; refine W_seq ?_; refine W_reg (by kernel_rfl) ?_; refine wla rfl rfl (q_assign (v := (.bool false)) rfl rfl) ?_; refine wl_nil ?_; refine W_th ?_; refine W_ret ?_; refine th_r ?_; obtain rfl := osi H; refine rt1 (.bool false) rfl rfl rfl rfl ?_; exact ⟨rfl, e15⟩
    replace H := (if_neg (ne_true_of_eq_false hb102)).symm.trans H; refine W_skip ?_; refine W_th ?_; refine W_seq ?_; refine W_seq ?_; refine W_reg (by kernel_rfl) ?_; refine wla rfl rfl (q_move (v := v14_0) rfl rfl) ?_; obtain ⟨r103, hr103, H⟩ := bsi H; refine wls rfl rfl (stp_call (vs := [v14_0]) Try.func15 rfl rfl rfl (ar1 rfl) (law04_rows_calls r14.1 v14_0 r103 _ [] (Old.nil _) (i14_0.lift (Lift.sub (L' := []) (fun _ _ => trivial))) hr103) ?_); rintro _ w103 ⟨v103, rfl, x103, n103_0, o103_0⟩; refine ⟨_, rfl, ?_⟩; have i103_0 : Rw w103 [] v103 r103 := OwK.slk (SlK.stab (Sc.stab _)) _ o103_0 (fun k hk => (Old.nil _) k (n103_0 k hk)) (fun _ h => h.2); replace i12_0 := i12_0.lift (Lift.ext x103 _); replace i14_0 := i14_0.lift (Lift.ext x103 _); have e104 := e15.trans x103; refine wla rfl rfl (q_len rfl T22.sl rfl i103_0) ?_; refine wla rfl rfl (q_move (v := (i64 0)) rfl rfl) ?_; refine wl_nil ?_; refine W_th ?_; obtain ⟨x105, G105, H⟩ := bsi H; refine W_mid (fun f w => ∃ y105, x105 = .inl y105 ∧ f 0 = p0 ∧ f 1 = p1 ∧ f 7 = v12 ∧ f 207 = undef ∧ Ext w0 w ∧ Fd w [] v12 r12) ?_ ?_
    · refine W_block ?_; refine W_loop (fun s105 f w => f 0 = p0 ∧ f 1 = p1 ∧ f 7 = v12 ∧ f 74 = v103 ∧ f 75 = (i64 ((r103.length : Int))) ∧ f 76 = (i64 s105) ∧ f 207 = undef ∧ Ext w0 w ∧ Fd w [] v12 r12 ∧ Rw w [] v103 r103) G105 ?_ ?_
      · exact ⟨rfl, rfl, rfl, rfl, rfl, rfl, rfl, e104, i12_0, i103_0⟩
      rintro s105 _ _ w106 ⟨s0_106, s1_106, s7_106, s74_106, s75_106, s76_106, s207_106, hE106, i0_106, i1_106⟩ H105 hr105; refine W_seq ?_; refine W_reg (by kernel_rfl) ?_; refine wla rfl rfl (q_ltI rfl s76_106 s75_106) ?_; refine wl_nil ?_; refine W_th ?_; refine W_seq ?_; refine W_cond _ rfl rfl (fun hb107 => ?_) (fun hb107 => ?_)
      · replace H105 := (if_pos (of_decide_eq_true hb107)).symm.trans H105; refine W_skip ?_; refine W_th ?_; refine W_seq ?_; refine W_block ?_; refine W_seq ?_; refine W_reg (by kernel_rfl) ?_; refine wla rfl rfl (q_move (v := (i64 s105)) rfl s76_106) ?_; obtain ⟨c108, hc108, H105⟩ := bsi H105; refine wla rfl rfl (q_adr rfl T22 s74_106 s76_106 i1_106 hc108) ?_; refine wlq_load rfl rfl rfl T22 rfl i1_106 hc108 (Ext.refl _) (fun v109 i109 => ?_); refine wla rfl rfl (q_assign (v := (i64 s105)) rfl rfl) ?_; refine wla rfl rfl (q_assign (v := v109) rfl rfl) ?_; refine wl_nil ?_; refine W_th ?_; refine W_seq ?_; refine W_reg (by kernel_rfl) ?_; refine wla rfl rfl (q_move (v := v109) rfl rfl) ?_; refine wla rfl rfl (q_len rfl T30.sl rfl i109) ?_; refine wla rfl rfl (q_move (v := (i64 0)) rfl rfl) ?_; refine wl_nil ?_; refine W_th ?_; obtain ⟨x110, G110, H105⟩ := bsi H105; refine W_mid (fun f w => ∃ y110, x110 = .inl y110 ∧ f 0 = p0 ∧ f 1 = p1 ∧ f 7 = v12 ∧ f 74 = v103 ∧ f 75 = (i64 ((r103.length : Int))) ∧ f 76 = (i64 s105) ∧ f 207 = undef ∧ Ext w0 w ∧ Fd w [] v12 r12 ∧ Rw w [] v103 r103) ?_ ?_
        · refine W_block ?_; refine W_loop (fun s110 f w => f 0 = p0 ∧ f 1 = p1 ∧ f 7 = v12 ∧ f 11 = (i64 s105) ∧ f 12 = v109 ∧ f 74 = v103 ∧ f 75 = (i64 ((r103.length : Int))) ∧ f 76 = (i64 s105) ∧ f 82 = (i64 ((c108.length : Int))) ∧ f 83 = (i64 s110) ∧ f 207 = undef ∧ Ext w0 w ∧ Fd w [] v12 r12 ∧ By w [] v109 c108 ∧ Rw w [] v103 r103) G110 ?_ ?_
          · exact ⟨s0_106, s1_106, s7_106, rfl, rfl, s74_106, s75_106, s76_106, rfl, rfl, s207_106, hE106, i0_106, i109, i1_106⟩
          rintro s110 _ _ w111 ⟨s0_111, s1_111, s7_111, s11_111, s12_111, s74_111, s75_111, s76_111, s82_111, s83_111, s207_111, hE111, i0_111, i1_111, i2_111⟩ H110 hr110; refine W_seq ?_; refine W_reg (by kernel_rfl) ?_; refine wla rfl rfl (q_ltI rfl s83_111 s82_111) ?_; refine wl_nil ?_; refine W_th ?_; refine W_seq ?_; refine W_cond _ rfl rfl (fun hb112 => ?_) (fun hb112 => ?_)
          · replace H110 := (if_pos (of_decide_eq_true hb112)).symm.trans H110; refine W_skip ?_; refine W_th ?_; refine W_seq ?_; refine W_block ?_; refine W_seq ?_; refine W_reg (by kernel_rfl) ?_; refine wla rfl rfl (q_move (v := (i64 s110)) rfl s83_111) ?_; refine wla rfl rfl (q_assign (v := (i64 s110)) rfl rfl) ?_; refine wl_nil ?_; refine W_th ?_; refine W_seq ?_; refine W_draw [3, 7] [(0, 0), (1, 0), (2, 0), (3, 1), (4, 0), (5, 0), (6, 0), (7, 1), (8, 0), (9, 2), (10, 0)] mixed (by kernel_rfl) (by kernel_rfl) (by kernel_rfl) (by kernel_rfl) ?_; have x113 := Ext.drew w111; replace i0_111 := i0_111.lift (Lift.ext x113 _); replace i1_111 := i1_111.lift (Lift.ext x113 _); replace i2_111 := i2_111.lift (Lift.ext x113 _); have e114 := hE111.trans x113; refine wsa rfl rfl rfl (q_move (v := v109) rfl s12_111) ?_; refine wsa rfl rfl rfl (q_move (v := (i64 s110)) rfl rfl) ?_; obtain ⟨c115, hc115, H110⟩ := bsi H110; refine wsa rfl rfl rfl (q_adr rfl T30 rfl rfl i1_111 hc115) ?_; refine wsq rfl rfl rfl (q_loadS rfl T30 rfl i1_111 hc115) ?_; refine wsa rfl rfl rfl (q_move (v := p0) rfl s0_111) ?_; refine wsa rfl rfl rfl (q_move (v := (i64 s105)) rfl s11_111) ?_; obtain ⟨c116, hc116, H110⟩ := bsi H110; refine wsa rfl rfl rfl (q_adr rfl T30 rfl rfl (hp0.lift (Lift.ext e114 _)) hc116) ?_; refine wsq rfl rfl rfl (q_loadS rfl T30 rfl (hp0.lift (Lift.ext e114 _)) hc116) ?_; refine wsa rfl rfl rfl (q_move (v := (i64 s110)) rfl rfl) ?_; obtain ⟨r117, hr117, H110⟩ := bsi H110; refine wss rfl rfl rfl (stp_call (vs := [(u8 c116), (i64 s110)]) Try.func30 rfl rfl rfl (ar2 rfl rfl) (ref02_Pow_calls c116 s110  r117 _  hr117) ?_); rintro _ w117 ⟨rfl, x117⟩; refine ⟨_, rfl, x117, ?_⟩; replace i0_111 := i0_111.lift (Lift.ext x117 _); replace i1_111 := i1_111.lift (Lift.ext x117 _); replace i2_111 := i2_111.lift (Lift.ext x117 _); have e118 := e114.trans x117; refine wsa rfl rfl rfl (q_ne8 rfl rfl rfl) ?_; refine ws_nil ?_; refine W_th ?_; refine W_cond _ rfl rfl (fun hb119 => ?_) (fun hb119 => ?_)
            · replace H110 := (if_neg (ndec_t hb119)).symm.trans H110; refine W_seq ?_; refine W_reg (by kernel_rfl) ?_; refine wla rfl rfl (q_assign (v := (.bool false)) rfl rfl) ?_; refine wl_nil ?_; refine W_th ?_; refine W_ret ?_; refine bk_r ?_; refine th_r ?_; obtain rfl := osi H110; obtain rfl := hr110 _ rfl; simp only [Sum.elim_inr] at H105; refine th_r ?_; refine bk_r ?_; refine th_r ?_; refine bk_r ?_; refine th_r ?_; obtain rfl := osi H105; obtain rfl := hr105 _ rfl; simp only [Sum.elim_inr] at H; refine th_r ?_; refine bk_r ?_; refine th_r ?_; refine th_r ?_; obtain rfl := osi H; refine rt1 (.bool false) rfl rfl rfl s207_111 ?_; exact ⟨rfl, e118⟩
            replace H110 := (if_pos (ndec_f hb119)).symm.trans H110; refine W_skip ?_; refine bk_n ?_; refine W_th ?_; refine W_reg (by kernel_rfl) ?_; refine wla rfl rfl (q_addI rfl s83_111 rfl) ?_; refine wla rfl rfl (q_move (v := (i64 ((wI (s110 + 1))))) rfl rfl) ?_; refine wl_nil ?_; obtain rfl := osi H110; exact ⟨_, rfl, s0_111, s1_111, s7_111, s11_111, s12_111, s74_111, s75_111, s76_111, s82_111, rfl, s207_111, e118, i0_111, i1_111, i2_111⟩
          replace H110 := (if_neg (of_decide_eq_false hb112)).symm.trans H110; refine W_exit ?_; refine th_x ?_; obtain rfl := osi H110; obtain rfl := hr110 _ rfl; refine th_x ?_; refine bk_x ?_; exact ⟨_, rfl, s0_111, s1_111, s7_111, s74_111, s75_111, s76_111, s207_111, hE111, i0_111, i2_111⟩
        rintro _ w121 ⟨y110, rfl, s0_121, s1_121, s7_121, s74_121, s75_121, s76_121, s207_121, hE121, i0_121, i1_121⟩; simp only [Sum.elim_inl] at H105; refine bk_n ?_; refine W_th ?_; refine W_reg (by kernel_rfl) ?_; refine wla rfl rfl (q_addI rfl s76_121 rfl) ?_; refine wla rfl rfl (q_move (v := (i64 ((wI (s105 + 1))))) rfl rfl) ?_; refine wl_nil ?_; obtain rfl := osi H105; exact ⟨_, rfl, s0_121, s1_121, s7_121, s74_121, s75_121, rfl, s207_121, hE121, i0_121, i1_121⟩
      replace H105 := (if_neg (of_decide_eq_false hb107)).symm.trans H105; refine W_exit ?_; refine th_x ?_; obtain rfl := osi H105; obtain rfl := hr105 _ rfl; refine th_x ?_; refine bk_x ?_; exact ⟨_, rfl, s0_106, s1_106, s7_106, s207_106, hE106, i0_106⟩
    rintro _ w124 ⟨y105, rfl, s0_124, s1_124, s7_124, s207_124, hE124, i0_124⟩; simp only [Sum.elim_inl] at H; refine W_th ?_; refine W_seq ?_; refine W_reg (by kernel_rfl) ?_; refine wla rfl rfl (q_assign (v := (.func (.func 31) #[] #[])) rfl rfl) ?_; refine wl_nil ?_; refine W_th ?_; refine W_seq ?_; obtain ⟨x125, H125, H⟩ := bsi H; refine W_mid (fun f w => ∃ s125, x125 = .inl s125 ∧ f 0 = p0 ∧ f 1 = p1 ∧ f 7 = v12 ∧ f 14 = (.func (.func 31) #[] #[]) ∧ f 207 = undef ∧ Ext w0 w ∧ Fd w [] v12 r12) ?_ ?_
    · refine W_seq ?_; refine W_reg (by kernel_rfl) ?_; refine wla rfl rfl (q_move (v := p0) rfl s0_124) ?_; refine wla rfl rfl (q_len rfl T30.sl rfl (hp0.lift (Lift.ext hE124 _))) ?_; refine wla rfl rfl (q_assign (v := (i64 ((a0xs.length : Int)))) rfl rfl) ?_; refine wl_nil ?_; refine W_th ?_; refine W_seq ?_; refine W_reg (by kernel_rfl) ?_; refine wla rfl rfl (q_move (v := (i64 ((a0xs.length : Int)))) rfl rfl) ?_; refine wla rfl rfl (q_gtI rfl rfl rfl) ?_; refine wl_nil ?_; refine W_th ?_; refine W_cond _ rfl rfl (fun hb126 => ?_) (fun hb126 => ?_)
      · replace H125 := (if_pos (of_decide_eq_true hb126)).symm.trans H125; refine W_seq ?_; refine W_reg (by kernel_rfl) ?_; refine wla rfl rfl (q_move (v := v12) rfl s7_124) ?_; refine wla rfl rfl (q_move (v := p0) rfl s0_124) ?_; refine wla rfl rfl (q_move (v := (i64 ((a0xs.length : Int)))) rfl rfl) ?_; obtain ⟨r127, hr127, H125⟩ := bsi H125; refine wls rfl rfl (stp_call (vs := [v12, p0, (i64 ((a0xs.length : Int)))]) Try.func29 rfl rfl rfl (ar3 rfl rfl rfl) (matrix_Vandermonde_calls r12 a0xs (a0xs.length : Int) v12 p0 r127 _ [] (Old.nil _) (i0_124.lift (Lift.sub (L' := []) (fun _ _ => trivial))) (hp0.lift (Lift.ext hE124 _)) hr127) ?_); rintro _ w127 ⟨v127_0, rfl, x127, i127_0⟩; refine ⟨_, rfl, ?_⟩; replace i0_124 := i0_124.lift (Lift.ext x127 _); have e128 := hE124.trans x127; refine wla rfl rfl (q_move (v := (.tuple #[v127_0, (i64 r127.2)])) rfl rfl) ?_; refine wla rfl rfl (q_extract rfl rfl rfl) ?_; refine wla rfl rfl (q_extract rfl rfl rfl) ?_; refine wla rfl rfl (q_assign (v := v127_0) rfl rfl) ?_; refine wla rfl rfl (q_assign (v := (i64 r127.2)) rfl rfl) ?_; refine wl_nil ?_; refine W_th ?_; refine W_seq ?_; refine W_reg (by kernel_rfl) ?_; refine wla rfl rfl (q_move (v := v127_0) rfl rfl) ?_; refine wla rfl rfl (q_move (v := v12) rfl s7_124) ?_; obtain ⟨r129, hr129, H125⟩ := bsi H125; refine wls rfl rfl (stp_call (vs := [v127_0, v12]) Try.func26 rfl rfl rfl (ar2 rfl rfl) (matrix_Inverse_calls r127.1 r12 v127_0 v12 r129 _ [] (Old.nil _) (i127_0.lift (Lift.sub (L' := []) (fun _ _ => trivial))) (i0_124.lift (Lift.sub (L' := []) (fun _ _ => trivial))) hr129) ?_); rintro _ w129 ⟨v129_0, rfl, x129, i129_0⟩; refine ⟨_, rfl, ?_⟩; replace i0_124 := i0_124.lift (Lift.ext x129 _); replace i127_0 := i127_0.lift (Lift.ext x129 _); have e130 := e128.trans x129; refine wla rfl rfl (q_move (v := (.tuple #[v129_0, (i64 r129.2)])) rfl rfl) ?_; refine wla rfl rfl (q_extract rfl rfl rfl) ?_; refine wla rfl rfl (q_extract rfl rfl rfl) ?_; refine wla rfl rfl (q_assign (v := v129_0) rfl rfl) ?_; refine wla rfl rfl (q_assign (v := (i64 r129.2)) rfl rfl) ?_; refine wl_nil ?_; refine W_th ?_; refine W_seq ?_; refine W_reg (by kernel_rfl) ?_; refine wla rfl rfl (q_move (v := (i64 r129.2)) rfl rfl) ?_; refine wla rfl rfl (q_eqI rfl rfl rfl) ?_; refine wla rfl rfl (q_move (v := (.func (.func 31) #[] #[])) rfl rfl) ?_; refine wla rfl rfl (q_move (v := p0) rfl s0_124) ?_; obtain ⟨r131, hr131, H125⟩ := bsi H125; refine wls rfl rfl (stp_callV rfl (vs := [p0]) Try.func31 rfl rfl rfl (ar1 rfl) (law04_MatrixNamed_1_calls a0xs p0 r131 _ (hp0.lift (Lift.ext e130 _)) hr131) ?_); rintro _ w131 ⟨rfl, x131⟩; refine ⟨_, rfl, ?_⟩; replace i0_124 := i0_124.lift (Lift.ext x131 _); replace i127_0 := i127_0.lift (Lift.ext x131 _); replace i129_0 := i129_0.lift (Lift.ext x131 _); have e132 := e130.trans x131; refine wla rfl rfl (q_neB rfl (by kernel_rfl) rfl rfl) ?_; refine wl_nil ?_; refine W_th ?_; refine W_cond _ rfl rfl (fun hb133 => ?_) (fun hb133 => ?_)
        · replace H125 := (if_pos hb133).symm.trans H125; refine W_seq ?_; refine W_reg (by kernel_rfl) ?_; refine wla rfl rfl (q_assign (v := (.bool false)) rfl rfl) ?_; refine wl_nil ?_; refine W_th ?_; refine W_ret ?_; obtain rfl := osi H125; simp only [Sum.elim_inr] at H; refine th_r ?_; refine th_r ?_; obtain rfl := osi H; refine rt1 (.bool false) rfl rfl rfl s207_124 ?_; exact ⟨rfl, e132⟩
        replace H125 := (if_neg (ne_true_of_eq_false hb133)).symm.trans H125; refine W_skip ?_; obtain rfl := osi H125; exact ⟨_, rfl, s0_124, s1_124, s7_124, rfl, s207_124, e132, i0_124⟩
      replace H125 := (if_neg (of_decide_eq_false hb126)).symm.trans H125; refine W_skip ?_; obtain rfl := osi H125; exact ⟨_, rfl, s0_124, s1_124, s7_124, rfl, s207_124, hE124, i0_124⟩
    rintro _ w134 ⟨s125, rfl, s0_134, s1_134, s7_134, s14_134, s207_134, hE134, i0_134⟩; simp only [Sum.elim_inl] at H; refine W_th ?_; refine W_seq ?_; refine W_reg (by kernel_rfl) ?_; refine wla rfl rfl (q_move (v := v12) rfl s7_134) ?_; refine wla rfl rfl (q_move (v := p0) rfl s0_134) ?_; refine wla rfl rfl (q_move (v := p1) rfl s1_134) ?_; obtain ⟨r135, hr135, H⟩ := bsi H; refine wls rfl rfl (stp_call (vs := [v12, p0, p1]) Try.func32 rfl rfl rfl (ar3 rfl rfl rfl) (matrix_Cauchy_calls r12 a0xs a1ys v12 p0 p1 r135 _ [] (Old.nil _) (i0_134.lift (Lift.sub (L' := []) (fun _ _ => trivial))) (hp0.lift (Lift.ext hE134 _)) (hp1.lift (Lift.ext hE134 _)) hr135) ?_); rintro _ w135 ⟨v135_0, rfl, x135, i135_0⟩; refine ⟨_, rfl, ?_⟩; replace i0_134 := i0_134.lift (Lift.ext x135 _); have e136 := hE134.trans x135; refine wla rfl rfl (q_move (v := (.tuple #[v135_0, (i64 r135.2)])) rfl rfl) ?_; refine wla rfl rfl (q_extract rfl rfl rfl) ?_; refine wla rfl rfl (q_extract rfl rfl rfl) ?_; refine wla rfl rfl (q_assign (v := v135_0) rfl rfl) ?_; refine wla rfl rfl (q_assign (v := (i64 r135.2)) rfl rfl) ?_; refine wl_nil ?_; refine W_th ?_; refine W_seq ?_; refine W_block ?_; refine W_seq ?_; refine W_reg (by kernel_rfl) ?_; refine wla rfl rfl (q_move (v := p0) rfl s0_134) ?_; refine wla rfl rfl (q_len rfl T30.sl rfl (hp0.lift (Lift.ext e136 _))) ?_; refine wla rfl rfl (q_eqI rfl rfl rfl) ?_; refine wlb rfl rfl (q_move (v := (.bool ((decide ((a0xs.length : Int) = 0))))) rfl rfl) (fun hb137 => ?_) (fun hb137 => ?_)
    · replace H := (if_pos (of_decide_eq_true hb137)).symm.trans H; refine wlk rfl rfl ?_; refine wlk rfl rfl ?_; refine wlk rfl rfl ?_; refine wla rfl rfl (q_pick_t (v := (.bool true)) rfl rfl rfl) ?_; refine wla rfl rfl (q_assign (v := (.bool true)) rfl rfl) ?_; refine wl_nil ?_; refine W_th ?_; refine W_cond true rfl rfl (fun _ => ?_) (fun hb => by cases hb); refine W_seq ?_; refine W_reg (by kernel_rfl) ?_; refine wla rfl rfl (q_move (v := (i64 r135.2)) rfl rfl) ?_; refine wla rfl rfl (q_eqI rfl rfl rfl) ?_; refine wlb rfl rfl (q_move (v := (.bool ((decide (r135.2 = 2))))) rfl rfl) (fun hb138 => ?_) (fun hb138 => ?_)
      · replace H := (if_pos (of_decide_eq_true hb138)).symm.trans H; refine wla rfl rfl (q_move (v := v135_0) rfl rfl) ?_; refine wla rfl rfl (q_eqM rfl rfl rfl rfl i135_0) ?_; refine wla rfl rfl (q_pick_t (v := (.bool r135.1.isNone)) rfl rfl rfl) ?_; refine wla rfl rfl (q_assign (v := (.bool r135.1.isNone)) rfl rfl) ?_; refine wl_nil ?_; refine W_th ?_; refine W_ret ?_; refine bk_r ?_; refine th_r ?_; obtain rfl := osi H; refine rt1 (.bool r135.1.isNone) rfl rfl rfl s207_134 ?_; exact ⟨rfl, e136⟩
      replace H := (if_neg (of_decide_eq_false hb138)).symm.trans H; refine wlk rfl rfl ?_; refine wlk rfl rfl ?_; refine wla rfl rfl (q_pick_f (v := (.bool false)) rfl rfl rfl) ?_; refine wla rfl rfl (q_assign (v := (.bool false)) rfl rfl) ?_; refine wl_nil ?_; refine W_th ?_; refine W_ret ?_; refine bk_r ?_; refine th_r ?_; obtain rfl := osi H; refine rt1 (.bool false) rfl rfl rfl s207_134 ?_; exact ⟨rfl, e136⟩
    replace H := (if_neg (of_decide_eq_false hb137)).symm.trans H; refine wla rfl rfl (q_move (v := p1) rfl s1_134) ?_; refine wla rfl rfl (q_len rfl T30.sl rfl (hp1.lift (Lift.ext e136 _))) ?_; refine wla rfl rfl (q_eqI rfl rfl rfl) ?_; refine wla rfl rfl (q_pick_f (v := (.bool ((decide ((a1ys.length : Int) = 0))))) rfl rfl rfl) ?_; refine wla rfl rfl (q_assign (v := (.bool ((decide ((a1ys.length : Int) = 0))))) rfl rfl) ?_; refine wl_nil ?_; refine W_th ?_; refine W_cond _ rfl rfl (fun hb139 => ?_) (fun hb139 => ?_)
    · replace H := (if_pos (of_decide_eq_true hb139)).symm.trans H; refine W_seq ?_; refine W_reg (by kernel_rfl) ?_; refine wla rfl rfl (q_move (v := (i64 r135.2)) rfl rfl) ?_; refine wla rfl rfl (q_eqI rfl rfl rfl) ?_; refine wlb rfl rfl (q_move (v := (.bool ((decide (r135.2 = 2))))) rfl rfl) (fun hb140 => ?_) (fun hb140 => ?_)
      · replace H := (if_pos (of_decide_eq_true hb140)).symm.trans H; refine wla rfl rfl (q_move (v := v135_0) rfl rfl) ?_; refine wla rfl rfl (q_eqM rfl rfl rfl rfl i135_0) ?_; refine wla rfl rfl (q_pick_t (v := (.bool r135.1.isNone)) rfl rfl rfl) ?_; refine wla rfl rfl (q_assign (v := (.bool r135.1.isNone)) rfl rfl) ?_; refine wl_nil ?_; refine W_th ?_; refine W_ret ?_; refine bk_r ?_; refine th_r ?_; obtain rfl := osi H; refine rt1 (.bool r135.1.isNone) rfl rfl rfl s207_134 ?_; exact ⟨rfl, e136⟩
      replace H := (if_neg (of_decide_eq_false hb140)).symm.trans H; refine wlk rfl rfl ?_; refine wlk rfl rfl ?_; refine wla rfl rfl (q_pick_f (v := (.bool false)) rfl rfl rfl) ?_; refine wla rfl rfl (q_assign (v := (.bool false)) rfl rfl) ?_; refine wl_nil ?_; refine W_th ?_; refine W_ret ?_; refine bk_r ?_; refine th_r ?_; obtain rfl := osi H; refine rt1 (.bool false) rfl rfl rfl s207_134 ?_; exact ⟨rfl, e136⟩
    replace H := (if_neg (of_decide_eq_false hb139)).symm.trans H; refine W_seq ?_; refine W_reg (by kernel_rfl) ?_; refine wla rfl rfl (q_move (v := (.func (.func 31) #[] #[])) rfl s14_134) ?_; refine wls rfl rfl (stp_lit (L := []) (R := (Sc u8)) [] ([] : List UInt8) rfl T30 rfl (by exact trivial) rfl (litC u8 (oneC_u8) (us := []) (l := ([] : List UInt8)) rfl) rfl (litS u8 (us := []) (l := ([] : List UInt8)) rfl) ?_); intro v141 w141 o141 n141 g141 l141; have x141 := grown_ext g141; replace i0_134 := i0_134.lift (Lift.call _ x141 n141); replace i135_0 := i135_0.lift (Lift.call _ x141 n141); have n143 := Nw.ext e136 n141; have e142 := e136.trans x141; refine wla rfl rfl (q_move (v := p0) rfl s0_134) ?_; obtain ⟨c144, hc144, H⟩ := bsi H; refine wls rfl rfl (stp_append (R := (Sc u8)) (v := v141) (u := p0) (Sc.stab _) [] [] rfl T30 rfl rfl o141 (hp0.lift (Lift.ext e142 _)) (fun _ _ h => h) hc144 oc_u8 ?_); intro v144 w144 o144 g144 nx144 l144; replace i0_134 := i0_134.lift l144; replace i135_0 := i135_0.lift l144; have e145 := e142.grown g144 n143; have n146 := Nw.nxt e142 n143 nx144; refine wla rfl rfl (q_move (v := p1) rfl s1_134) ?_; obtain ⟨c147, hc147, H⟩ := bsi H; refine wls rfl rfl (stp_append (R := (Sc u8)) (v := v144) (u := p1) (Sc.stab _) [] [] rfl T30 rfl rfl o144 (hp1.lift (Lift.ext e145 _)) (fun _ _ h => h) hc147 oc_u8 ?_); intro v147 w147 o147 g147 nx147 l147; replace i0_134 := i0_134.lift l147; replace i135_0 := i135_0.lift l147; have e148 := e145.grown g147 n146; have n149 := Nw.nxt e145 n146 nx147; obtain ⟨r150, hr150, H⟩ := bsi H; refine wls rfl rfl (stp_callV rfl (vs := [v147]) Try.func31 rfl rfl rfl (ar1 rfl) (law04_MatrixNamed_1_calls c147 v147 r150 _ (o147.rd (Sc.stab _)) hr150) ?_); rintro _ w150 ⟨rfl, x150⟩; refine ⟨_, rfl, ?_⟩; replace i0_134 := i0_134.lift (Lift.ext x150 _); replace i135_0 := i135_0.lift (Lift.ext x150 _); replace o147 := o147.extL (Sc.stab _) x150 (Lift.ext x150 _); have e151 := e148.trans x150; refine wla rfl rfl (q_not rfl rfl) ?_; refine wla rfl rfl (q_assign (v := (.bool ((!r150)))) rfl rfl) ?_; refine wl_nil ?_; refine W_th ?_; refine W_cond _ rfl rfl (fun hb152 => ?_) (fun hb152 => ?_)
    · replace H := (if_pos hb152).symm.trans H; refine W_seq ?_; refine W_reg (by kernel_rfl) ?_; refine wla rfl rfl (q_move (v := (i64 r135.2)) rfl rfl) ?_; refine wla rfl rfl (q_eqI rfl rfl rfl) ?_; refine wlb rfl rfl (q_move (v := (.bool ((decide (r135.2 = 6))))) rfl rfl) (fun hb153 => ?_) (fun hb153 => ?_)
      · replace H := (if_pos (of_decide_eq_true hb153)).symm.trans H; refine wla rfl rfl (q_move (v := v135_0) rfl rfl) ?_; refine wla rfl rfl (q_eqM rfl rfl rfl rfl i135_0) ?_; refine wla rfl rfl (q_pick_t (v := (.bool r135.1.isNone)) rfl rfl rfl) ?_; refine wla rfl rfl (q_assign (v := (.bool r135.1.isNone)) rfl rfl) ?_; refine wl_nil ?_; refine W_th ?_; refine W_ret ?_; refine bk_r ?_; refine th_r ?_; obtain rfl := osi H; refine rt1 (.bool r135.1.isNone) rfl rfl rfl s207_134 ?_; exact ⟨rfl, e151⟩
      replace H := (if_neg (of_decide_eq_false hb153)).symm.trans H; refine wlk rfl rfl ?_; refine wlk rfl rfl ?_; refine wla rfl rfl (q_pick_f (v := (.bool false)) rfl rfl rfl) ?_; refine wla rfl rfl (q_assign (v := (.bool false)) rfl rfl) ?_; refine wl_nil ?_; refine W_th ?_; refine W_ret ?_; refine bk_r ?_; refine th_r ?_; obtain rfl := osi H; refine rt1 (.bool false) rfl rfl rfl s207_134 ?_; exact ⟨rfl, e151⟩
    replace H := (if_neg (ne_true_of_eq_false hb152)).symm.trans H; refine W_skip ?_; refine bk_n ?_; refine W_th ?_; refine W_seq ?_; refine W_seq ?_; refine W_reg (by kernel_rfl) ?_; refine wla rfl rfl (q_move (v := v135_0) rfl rfl) ?_; obtain ⟨r154, hr154, H⟩ := bsi H; refine wls rfl rfl (stp_call (vs := [v135_0]) Try.func15 rfl rfl rfl (ar1 rfl) (law04_rows_calls r135.1 v135_0 r154 _ [v147] (Old.cons (Old.nil _) o147.lt) (i135_0.lift (Lift.sub (L' := []) (fun _ _ => trivial))) hr154) ?_); rintro _ w154 ⟨v154, rfl, x154, n154_0, o154_0⟩; refine ⟨_, rfl, ?_⟩; have i154_0 : Rw w154 [v147] v154 r154 := OwK.slk (SlK.stab (Sc.stab _)) _ o154_0 (fun k hk => (Old.cons (Old.nil _) o147.lt) k (n154_0 k hk)) (fun _ h => h.2); replace i0_134 := i0_134.lift (Lift.ext x154 _); replace i135_0 := i135_0.lift (Lift.ext x154 _); replace o147 := o147.extL (Sc.stab _) x154 (Lift.ext x154 _); have e155 := e151.trans x154; refine wla rfl rfl (q_len rfl T22.sl rfl i154_0) ?_; refine wla rfl rfl (q_move (v := (i64 0)) rfl rfl) ?_; refine wl_nil ?_; refine W_th ?_; obtain ⟨x156, G156, H⟩ := bsi H; refine W_mid (fun f w => ∃ y156, x156 = .inl y156 ∧ f 0 = p0 ∧ f 1 = p1 ∧ f 7 = v12 ∧ f 20 = v135_0 ∧ f 21 = (i64 r135.2) ∧ f 207 = undef ∧ Ext w0 w ∧ Fd w [] v12 r12 ∧ Mx w [] v135_0 r135.1) ?_ ?_
    · refine W_block ?_; refine W_loop (fun s156 f w => f 0 = p0 ∧ f 1 = p1 ∧ f 7 = v12 ∧ f 20 = v135_0 ∧ f 21 = (i64 r135.2) ∧ f 160 = v154 ∧ f 161 = (i64 ((r154.length : Int))) ∧ f 162 = (i64 s156) ∧ f 207 = undef ∧ Ext w0 w ∧ Fd w [] v12 r12 ∧ Mx w [] v135_0 r135.1 ∧ Rw w [] v154 r154) G156 ?_ ?_
      · exact ⟨s0_134, s1_134, s7_134, rfl, rfl, rfl, rfl, rfl, s207_134, e155, (i0_134.lift (Lift.sub (fun _ h => trivial))), (i135_0.lift (Lift.sub (fun _ h => trivial))), (i154_0.lift (Lift.sub (fun _ h => trivial)))⟩
      rintro s156 _ _ w157 ⟨s0_157, s1_157, s7_157, s20_157, s21_157, s160_157, s161_157, s162_157, s207_157, hE157, i0_157, i1_157, i2_157⟩ H156 hr156; refine W_seq ?_; refine W_reg (by kernel_rfl) ?_; refine wla rfl rfl (q_ltI rfl s162_157 s161_157) ?_; refine wl_nil ?_; refine W_th ?_; refine W_seq ?_; refine W_cond _ rfl rfl (fun hb158 => ?_) (fun hb158 => ?_)
      · replace H156 := (if_pos (of_decide_eq_true hb158)).symm.trans H156; refine W_skip ?_; refine W_th ?_; refine W_seq ?_; refine W_block ?_; refine W_seq ?_; refine W_reg (by kernel_rfl) ?_; refine wla rfl rfl (q_move (v := (i64 s156)) rfl s162_157) ?_; obtain ⟨c159, hc159, H156⟩ := bsi H156; refine wla rfl rfl (q_adr rfl T22 s160_157 s162_157 i2_157 hc159) ?_; refine wlq_load rfl rfl rfl T22 rfl i2_157 hc159 (Ext.refl _) (fun v160 i160 => ?_); refine wla rfl rfl (q_assign (v := (i64 s156)) rfl rfl) ?_; refine wla rfl rfl (q_assign (v := v160) rfl rfl) ?_; refine wl_nil ?_; refine W_th ?_; refine W_seq ?_; refine W_reg (by kernel_rfl) ?_; refine wla rfl rfl (q_move (v := v160) rfl rfl) ?_; refine wla rfl rfl (q_len rfl T30.sl rfl i160) ?_; refine wla rfl rfl (q_move (v := (i64 0)) rfl rfl) ?_; refine wl_nil ?_; refine W_th ?_; obtain ⟨x161, G161, H156⟩ := bsi H156; refine W_mid (fun f w => ∃ y161, x161 = .inl y161 ∧ f 0 = p0 ∧ f 1 = p1 ∧ f 7 = v12 ∧ f 20 = v135_0 ∧ f 21 = (i64 r135.2) ∧ f 160 = v154 ∧ f 161 = (i64 ((r154.length : Int))) ∧ f 162 = (i64 s156) ∧ f 207 = undef ∧ Ext w0 w ∧ Fd w [] v12 r12 ∧ Mx w [] v135_0 r135.1 ∧ Rw w [] v154 r154) ?_ ?_
        · refine W_block ?_; refine W_loop (fun s161 f w => f 0 = p0 ∧ f 1 = p1 ∧ f 7 = v12 ∧ f 20 = v135_0 ∧ f 21 = (i64 r135.2) ∧ f 22 = (i64 s156) ∧ f 23 = v160 ∧ f 160 = v154 ∧ f 161 = (i64 ((r154.length : Int))) ∧ f 162 = (i64 s156) ∧ f 168 = (i64 ((c159.length : Int))) ∧ f 169 = (i64 s161) ∧ f 207 = undef ∧ Ext w0 w ∧ Fd w [] v12 r12 ∧ Mx w [] v135_0 r135.1 ∧ By w [] v160 c159 ∧ Rw w [] v154 r154) G161 ?_ ?_
          · exact ⟨s0_157, s1_157, s7_157, s20_157, s21_157, rfl, rfl, s160_157, s161_157, s162_157, rfl, rfl, s207_157, hE157, i0_157, i1_157, i160, i2_157⟩
          rintro s161 _ _ w162 ⟨s0_162, s1_162, s7_162, s20_162, s21_162, s22_162, s23_162, s160_162, s161_162, s162_162, s168_162, s169_162, s207_162, hE162, i0_162, i1_162, i2_162, i3_162⟩ H161 hr161; refine W_seq ?_; refine W_reg (by kernel_rfl) ?_; refine wla rfl rfl (q_ltI rfl s169_162 s168_162) ?_; refine wl_nil ?_; refine W_th ?_; refine W_seq ?_; refine W_cond _ rfl rfl (fun hb163 => ?_) (fun hb163 => ?_)
          · replace H161 := (if_pos (of_decide_eq_true hb163)).symm.trans H161; refine W_skip ?_; refine W_th ?_; refine W_seq ?_; refine W_block ?_; refine W_seq ?_; refine W_reg (by kernel_rfl) ?_; refine wla rfl rfl (q_move (v := (i64 s161)) rfl s169_162) ?_; refine wla rfl rfl (q_assign (v := (i64 s161)) rfl rfl) ?_; refine wl_nil ?_; refine W_th ?_; refine W_seq ?_; refine W_draw [3, 7, 11] [(0, 0), (1, 0), (2, 0), (3, 1), (4, 0), (5, 0), (6, 0), (7, 1), (8, 0), (9, 0), (10, 0), (11, 1), (12, 0), (13, 2), (14, 0)] mixed (by kernel_rfl) (by kernel_rfl) (by kernel_rfl) (by kernel_rfl) ?_; have x164 := Ext.drew w162; replace i0_162 := i0_162.lift (Lift.ext x164 _); replace i1_162 := i1_162.lift (Lift.ext x164 _); replace i2_162 := i2_162.lift (Lift.ext x164 _); replace i3_162 := i3_162.lift (Lift.ext x164 _); have e165 := hE162.trans x164; refine wsa rfl rfl rfl (q_move (v := v160) rfl s23_162) ?_; refine wsa rfl rfl rfl (q_move (v := (i64 s161)) rfl rfl) ?_; obtain ⟨c166, hc166, H161⟩ := bsi H161; refine wsa rfl rfl rfl (q_adr rfl T30 rfl rfl i2_162 hc166) ?_; refine wsq rfl rfl rfl (q_loadS rfl T30 rfl i2_162 hc166) ?_; refine wsa rfl rfl rfl (q_move (v := p0) rfl s0_162) ?_; refine wsa rfl rfl rfl (q_move (v := (i64 s156)) rfl s22_162) ?_; obtain ⟨c167, hc167, H161⟩ := bsi H161; refine wsa rfl rfl rfl (q_adr rfl T30 rfl rfl (hp0.lift (Lift.ext e165 _)) hc167) ?_; refine wsq rfl rfl rfl (q_loadS rfl T30 rfl (hp0.lift (Lift.ext e165 _)) hc167) ?_; refine wsa rfl rfl rfl (q_move (v := p1) rfl s1_162) ?_; refine wsa rfl rfl rfl (q_move (v := (i64 s161)) rfl rfl) ?_; obtain ⟨c168, hc168, H161⟩ := bsi H161; refine wsa rfl rfl rfl (q_adr rfl T30 rfl rfl (hp1.lift (Lift.ext e165 _)) hc168) ?_; refine wsq rfl rfl rfl (q_loadS rfl T30 rfl (hp1.lift (Lift.ext e165 _)) hc168) ?_; refine wsa rfl rfl rfl (q_xor8 rfl rfl rfl) ?_; obtain ⟨r169, hr169, H161⟩ := bsi H161; refine wss rfl rfl rfl (stp_call (vs := [(u8 ((c167 ^^^ c168)))]) Try.func33 rfl rfl rfl (ar1 rfl) (ref02_Inv_calls (c167 ^^^ c168)  r169 _  hr169) ?_); rintro _ w169 ⟨rfl, x169⟩; refine ⟨_, rfl, x169, ?_⟩; replace i0_162 := i0_162.lift (Lift.ext x169 _); replace i1_162 := i1_162.lift (Lift.ext x169 _); replace i2_162 := i2_162.lift (Lift.ext x169 _); replace i3_162 := i3_162.lift (Lift.ext x169 _); have e170 := e165.trans x169; refine wsa rfl rfl rfl (q_ne8 rfl rfl rfl) ?_; refine ws_nil ?_; refine W_th ?_; refine W_cond _ rfl rfl (fun hb171 => ?_) (fun hb171 => ?_)
            · replace H161 := (if_neg (ndec_t hb171)).symm.trans H161; refine W_seq ?_; refine W_reg (by kernel_rfl) ?_; refine wla rfl rfl (q_assign (v := (.bool false)) rfl rfl) ?_; refine wl_nil ?_; refine W_th ?_; refine W_ret ?_; refine bk_r ?_; refine th_r ?_; obtain rfl := osi H161; obtain rfl := hr161 _ rfl; simp only [Sum.elim_inr] at H156; refine th_r ?_; refine bk_r ?_; refine th_r ?_; refine bk_r ?_; refine th_r ?_; obtain rfl := osi H156; obtain rfl := hr156 _ rfl; simp only [Sum.elim_inr] at H; refine th_r ?_; refine bk_r ?_; refine th_r ?_; refine th_r ?_; obtain rfl := osi H; refine rt1 (.bool false) rfl rfl rfl s207_162 ?_; exact ⟨rfl, e170⟩
            replace H161 := (if_pos (ndec_f hb171)).symm.trans H161; refine W_skip ?_; refine bk_n ?_; refine W_th ?_; refine W_reg (by kernel_rfl) ?_; refine wla rfl rfl (q_addI rfl s169_162 rfl) ?_; refine wla rfl rfl (q_move (v := (i64 ((wI (s161 + 1))))) rfl rfl) ?_; refine wl_nil ?_; obtain rfl := osi H161; exact ⟨_, rfl, s0_162, s1_162, s7_162, s20_162, s21_162, s22_162, s23_162, s160_162, s161_162, s162_162, s168_162, rfl, s207_162, e170, i0_162, i1_162, i2_162, i3_162⟩
          replace H161 := (if_neg (of_decide_eq_false hb163)).symm.trans H161; refine W_exit ?_; refine th_x ?_; obtain rfl := osi H161; obtain rfl := hr161 _ rfl; refine th_x ?_; refine bk_x ?_; exact ⟨_, rfl, s0_162, s1_162, s7_162, s20_162, s21_162, s160_162, s161_162, s162_162, s207_162, hE162, i0_162, i1_162, i3_162⟩
        rintro _ w173 ⟨y161, rfl, s0_173, s1_173, s7_173, s20_173, s21_173, s160_173, s161_173, s162_173, s207_173, hE173, i0_173, i1_173, i2_173⟩; simp only [Sum.elim_inl] at H156; refine bk_n ?_; refine W_th ?_; refine W_reg (by kernel_rfl) ?_; refine wla rfl rfl (q_addI rfl s162_173 rfl) ?_; refine wla rfl rfl (q_move (v := (i64 ((wI (s156 + 1))))) rfl rfl) ?_; refine wl_nil ?_; obtain rfl := osi H156; exact ⟨_, rfl, s0_173, s1_173, s7_173, s20_173, s21_173, s160_173, s161_173, rfl, s207_173, hE173, i0_173, i1_173, i2_173⟩
      replace H156 := (if_neg (of_decide_eq_false hb158)).symm.trans H156; refine W_exit ?_; refine th_x ?_; obtain rfl := osi H156; obtain rfl := hr156 _ rfl; refine th_x ?_; refine bk_x ?_; exact ⟨_, rfl, s0_157, s1_157, s7_157, s20_157, s21_157, s207_157, hE157, i0_157, i1_157⟩
    rintro _ w176 ⟨y156, rfl, s0_176, s1_176, s7_176, s20_176, s21_176, s207_176, hE176, i0_176, i1_176⟩; simp only [Sum.elim_inl] at H; refine W_th ?_; refine W_seq ?_; refine W_reg (by kernel_rfl) ?_; refine wla rfl rfl (q_move (v := v135_0) rfl s20_176) ?_; refine wla rfl rfl (q_move (v := v12) rfl s7_176) ?_; obtain ⟨r177, hr177, H⟩ := bsi H; refine wls rfl rfl (stp_call (vs := [v135_0, v12]) Try.func26 rfl rfl rfl (ar2 rfl rfl) (matrix_Inverse_calls r135.1 r12 v135_0 v12 r177 _ [] (Old.nil _) (i1_176.lift (Lift.sub (L' := []) (fun _ _ => trivial))) (i0_176.lift (Lift.sub (L' := []) (fun _ _ => trivial))) hr177) ?_); rintro _ w177 ⟨v177_0, rfl, x177, i177_0⟩; refine ⟨_, rfl, ?_⟩; replace i0_176 := i0_176.lift (Lift.ext x177 _); replace i1_176 := i1_176.lift (Lift.ext x177 _); have e178 := hE176.trans x177; refine wla rfl rfl (q_move (v := (.tuple #[v177_0, (i64 r177.2)])) rfl rfl) ?_; refine wla rfl rfl (q_extract rfl rfl rfl) ?_; refine wla rfl rfl (q_extract rfl rfl rfl) ?_; refine wla rfl rfl (q_assign (v := v177_0) rfl rfl) ?_; refine wla rfl rfl (q_assign (v := (i64 r177.2)) rfl rfl) ?_; refine wl_nil ?_; refine W_th ?_; refine W_seq ?_; refine W_reg (by kernel_rfl) ?_; refine wla rfl rfl (q_move (v := (i64 r135.2)) rfl s21_176) ?_; refine wla rfl rfl (q_eqI rfl rfl rfl) ?_; refine wlb rfl rfl (q_move (v := (.bool ((decide (r135.2 = 0))))) rfl rfl) (fun hb179 => ?_) (fun hb179 => ?_)
    · replace H := (if_pos (of_decide_eq_true hb179)).symm.trans H; refine wla rfl rfl (q_move (v := (i64 r177.2)) rfl rfl) ?_; refine wla rfl rfl (q_eqI rfl rfl rfl) ?_; refine wla rfl rfl (q_move (v := p0) rfl s0_176) ?_; refine wla rfl rfl (q_len rfl T30.sl rfl (hp0.lift (Lift.ext e178 _))) ?_; refine wla rfl rfl (q_move (v := p1) rfl s1_176) ?_; refine wla rfl rfl (q_len rfl T30.sl rfl (hp1.lift (Lift.ext e178 _))) ?_; refine wla rfl rfl (q_eqI rfl rfl rfl) ?_; refine wla rfl rfl (q_eqB rfl (by kernel_rfl) rfl rfl) ?_; refine wla rfl rfl (q_pick_t (v := (.bool ((((decide (r177.2 = 0))) == ((decide ((a0xs.length : Int) = (a1ys.length : Int)))))))) rfl rfl rfl) ?_; refine wla rfl rfl (q_assign (v := (.bool ((((decide (r177.2 = 0))) == ((decide ((a0xs.length : Int) = (a1ys.length : Int)))))))) rfl rfl) ?_; refine wl_nil ?_; refine W_th ?_; refine W_ret ?_; obtain rfl := osi H; refine rt1 (.bool ((((decide (r177.2 = 0))) == ((decide ((a0xs.length : Int) = (a1ys.length : Int))))))) rfl rfl rfl s207_176 ?_; exact ⟨rfl, e178⟩
    replace H := (if_neg (of_decide_eq_false hb179)).symm.trans H; refine wlk rfl rfl ?_; refine wlk rfl rfl ?_; refine wlk rfl rfl ?_; refine wlk rfl rfl ?_; refine wlk rfl rfl ?_; refine wlk rfl rfl ?_; refine wlk rfl rfl ?_; refine wlk rfl rfl ?_; refine wla rfl rfl (q_pick_f (v := (.bool false)) rfl rfl rfl) ?_; refine wla rfl rfl (q_assign (v := (.bool false)) rfl rfl) ?_; refine wl_nil ?_; refine W_th ?_; refine W_ret ?_; obtain rfl := osi H; refine rt1 (.bool false) rfl rfl rfl s207_176 ?_; exact ⟨rfl, e178⟩
  replace H := (if_neg (of_decide_eq_false hb100)).symm.trans H; refine wla rfl rfl (q_move (v := (i64 ((wI ((((UInt64.ofInt a2columns) % (70 : UInt64))).toNat : Int))))) rfl rfl) ?_; refine wla rfl rfl (q_gtI rfl rfl rfl) ?_; refine wla rfl rfl (q_pick_f (v := (.bool ((decide (64 < (wI ((((UInt64.ofInt a2columns) % (70 : UInt64))).toNat : Int))))))) rfl rfl rfl) ?_; refine wla rfl rfl (q_assign (v := (.bool ((decide (64 < (wI ((((UInt64.ofInt a2columns) % (70 : UInt64))).toNat : Int))))))) rfl rfl) ?_; refine wl_nil ?_; refine W_th ?_; refine W_seq ?_; refine W_reg (by kernel_rfl) ?_; refine wla rfl rfl (q_move (v := (.bool ((decide (64 < (wI ((((UInt64.ofInt a2columns) % (70 : UInt64))).toNat : Int))))))) rfl rfl) ?_; refine wla rfl rfl (q_move (v := (i64 r14.2)) rfl rfl) ?_; refine wla rfl rfl (q_eqI rfl rfl rfl) ?_; refine wla rfl rfl (q_neB rfl (by kernel_rfl) rfl rfl) ?_; refine wlb rfl rfl (q_move (v := (.bool ((!(((decide (64 < (wI ((((UInt64.ofInt a2columns) % (70 : UInt64))).toNat : Int))))) == ((decide (r14.2 = 2)))))))) rfl rfl) (fun hb183 => ?_) (fun hb183 => ?_)
  · replace H := (if_pos hb183).symm.trans H; refine wlk rfl rfl ?_; refine wlk rfl rfl ?_; refine wlk rfl rfl ?_; refine wlk rfl rfl ?_; refine wla rfl rfl (q_pick_t (v := (.bool true)) rfl rfl rfl) ?_; refine wl_nil ?_; refine W_th ?_; refine W_cond true rfl rfl (fun _ => ?_) (fun hb => by cases hb); refine W_seq ?_; refine W_reg (by kernel_rfl) ?_; refine wla rfl rfl (q_assign (v := (.bool false)) rfl rfl) ?_; refine wl_nil ?_; refine W_th ?_; refine W_ret ?_; refine th_r ?_; obtain rfl := osi H; refine rt1 (.bool false) rfl rfl rfl rfl ?_; exact ⟨rfl, e15⟩
  replace H := (if_neg (ne_true_of_eq_false hb183)).symm.trans H; refine wla rfl rfl (q_move (v := (.bool ((decide (64 < (wI ((((UInt64.ofInt a2columns) % (70 : UInt64))).toNat : Int))))))) rfl rfl) ?_; refine wla rfl rfl (q_move (v := v14_0) rfl rfl) ?_; refine wla rfl rfl (q_eqM rfl rfl rfl rfl i14_0) ?_; refine wla rfl rfl (q_neB rfl (by kernel_rfl) rfl rfl) ?_; refine wla rfl rfl (q_pick_f (v := (.bool ((!(((decide (64 < (wI ((((UInt64.ofInt a2columns) % (70 : UInt64))).toNat : Int))))) == r14.1.isNone))))) rfl rfl rfl) ?_; refine wl_nil ?_; refine W_th ?_; refine W_cond _ rfl rfl (fun hb184 => ?_) (fun hb184 => ?_)
  · replace H := (if_pos hb184).symm.trans H; refine W_seq ?_; refine W_reg (by kernel_rfl) ?_; refine wla rfl rfl (q_assign (v := (.bool false)) rfl rfl) ?_; refine wl_nil ?_; refine W_th ?_; refine W_ret ?_; refine th_r ?_; obtain rfl := osi H; refine rt1 (.bool false) rfl rfl rfl rfl ?_; exact ⟨rfl, e15⟩
  replace H := (if_neg (ne_true_of_eq_false hb184)).symm.trans H; refine W_skip ?_; refine W_th ?_; refine W_seq ?_; refine W_seq ?_; refine W_reg (by kernel_rfl) ?_; refine wla rfl rfl (q_move (v := v14_0) rfl rfl) ?_; obtain ⟨r185, hr185, H⟩ := bsi H; refine wls rfl rfl (stp_call (vs := [v14_0]) Try.func15 rfl rfl rfl (ar1 rfl) (law04_rows_calls r14.1 v14_0 r185 _ [] (Old.nil _) (i14_0.lift (Lift.sub (L' := []) (fun _ _ => trivial))) hr185) ?_); rintro _ w185 ⟨v185, rfl, x185, n185_0, o185_0⟩; refine ⟨_, rfl, ?_⟩; have i185_0 : Rw w185 [] v185 r185 := OwK.slk (SlK.stab (Sc.stab _)) _ o185_0 (fun k hk => (Old.nil _) k (n185_0 k hk)) (fun _ h => h.2); replace i12_0 := i12_0.lift (Lift.ext x185 _); replace i14_0 := i14_0.lift (Lift.ext x185 _); have e186 := e15.trans x185; refine wla rfl rfl (q_len rfl T22.sl rfl i185_0) ?_; refine wla rfl rfl (q_move (v := (i64 0)) rfl rfl) ?_; refine wl_nil ?_; refine W_th ?_; obtain ⟨x187, G187, H⟩ := bsi H; refine W_mid (fun f w => ∃ y187, x187 = .inl y187 ∧ f 0 = p0 ∧ f 1 = p1 ∧ f 7 = v12 ∧ f 207 = undef ∧ Ext w0 w ∧ Fd w [] v12 r12) ?_ ?_
  · refine W_block ?_; refine W_loop (fun s187 f w => f 0 = p0 ∧ f 1 = p1 ∧ f 7 = v12 ∧ f 74 = v185 ∧ f 75 = (i64 ((r185.length : Int))) ∧ f 76 = (i64 s187) ∧ f 207 = undef ∧ Ext w0 w ∧ Fd w [] v12 r12 ∧ Rw w [] v185 r185) G187 ?_ ?_
    · exact ⟨rfl, rfl, rfl, rfl, rfl, rfl, rfl, e186, i12_0, i185_0⟩
    rintro s187 _ _ w188 ⟨s0_188, s1_188, s7_188, s74_188, s75_188, s76_188, s207_188, hE188, i0_188, i1_188⟩ H187 hr187; refine W_seq ?_; refine W_reg (by kernel_rfl) ?_; refine wla rfl rfl (q_ltI rfl s76_188 s75_188) ?_; refine wl_nil ?_; refine W_th ?_; refine W_seq ?_; refine W_cond _ rfl rfl (fun hb189 => ?_) (fun hb189 => ?_)
    · replace H187 := (if_pos (of_decide_eq_true hb189)).symm.trans H187; refine W_skip ?_; refine W_th ?_; refine W_seq ?_; refine W_block ?_; refine W_seq ?_; refine W_reg (by kernel_rfl) ?_; refine wla rfl rfl (q_move (v := (i64 s187)) rfl s76_188) ?_; obtain ⟨c190, hc190, H187⟩ := bsi H187; refine wla rfl rfl (q_adr rfl T22 s74_188 s76_188 i1_188 hc190) ?_; refine wlq_load rfl rfl rfl T22 rfl i1_188 hc190 (Ext.refl _) (fun v191 i191 => ?_); refine wla rfl rfl (q_assign (v := (i64 s187)) rfl rfl) ?_; refine wla rfl rfl (q_assign (v := v191) rfl rfl) ?_; refine wl_nil ?_; refine W_th ?_; refine W_seq ?_; refine W_reg (by kernel_rfl) ?_; refine wla rfl rfl (q_move (v := v191) rfl rfl) ?_; refine wla rfl rfl (q_len rfl T30.sl rfl i191) ?_; refine wla rfl rfl (q_move (v := (i64 0)) rfl rfl) ?_; refine wl_nil ?_; refine W_th ?_; obtain ⟨x192, G192, H187⟩ := bsi H187; refine W_mid (fun f w => ∃ y192, x192 = .inl y192 ∧ f 0 = p0 ∧ f 1 = p1 ∧ f 7 = v12 ∧ f 74 = v185 ∧ f 75 = (i64 ((r185.length : Int))) ∧ f 76 = (i64 s187) ∧ f 207 = undef ∧ Ext w0 w ∧ Fd w [] v12 r12 ∧ Rw w [] v185 r185) ?_ ?_
      · refine W_block ?_; refine W_loop (fun s192 f w => f 0 = p0 ∧ f 1 = p1 ∧ f 7 = v12 ∧ f 11 = (i64 s187) ∧ f 12 = v191 ∧ f 74 = v185 ∧ f 75 = (i64 ((r185.length : Int))) ∧ f 76 = (i64 s187) ∧ f 82 = (i64 ((c190.length : Int))) ∧ f 83 = (i64 s192) ∧ f 207 = undef ∧ Ext w0 w ∧ Fd w [] v12 r12 ∧ By w [] v191 c190 ∧ Rw w [] v185 r185) G192 ?_ ?_
        · exact ⟨s0_188, s1_188, s7_188, rfl, rfl, s74_188, s75_188, s76_188, rfl, rfl, s207_188, hE188, i0_188, i191, i1_188⟩
        rintro s192 _ _ w193 ⟨s0_193, s1_193, s7_193, s11_193, s12_193, s74_193, s75_193, s76_193, s82_193, s83_193, s207_193, hE193, i0_193, i1_193, i2_193⟩ H192 hr192; refine W_seq ?_; refine W_reg (by kernel_rfl) ?_; refine wla rfl rfl (q_ltI rfl s83_193 s82_193) ?_; refine wl_nil ?_; refine W_th ?_; refine W_seq ?_; refine W_cond _ rfl rfl (fun hb194 => ?_) (fun hb194 => ?_)
        · replace H192 := (if_pos (of_decide_eq_true hb194)).symm.trans H192; refine W_skip ?_; refine W_th ?_; refine W_seq ?_; refine W_block ?_; refine W_seq ?_; refine W_reg (by kernel_rfl) ?_; refine wla rfl rfl (q_move (v := (i64 s192)) rfl s83_193) ?_; refine wla rfl rfl (q_assign (v := (i64 s192)) rfl rfl) ?_; refine wl_nil ?_; refine W_th ?_; refine W_seq ?_; refine W_draw [3, 7] [(0, 0), (1, 0), (2, 0), (3, 1), (4, 0), (5, 0), (6, 0), (7, 1), (8, 0), (9, 2), (10, 0)] mixed (by kernel_rfl) (by kernel_rfl) (by kernel_rfl) (by kernel_rfl) ?_; have x195 := Ext.drew w193; replace i0_193 := i0_193.lift (Lift.ext x195 _); replace i1_193 := i1_193.lift (Lift.ext x195 _); replace i2_193 := i2_193.lift (Lift.ext x195 _); have e196 := hE193.trans x195; refine wsa rfl rfl rfl (q_move (v := v191) rfl s12_193) ?_; refine wsa rfl rfl rfl (q_move (v := (i64 s192)) rfl rfl) ?_; obtain ⟨c197, hc197, H192⟩ := bsi H192; refine wsa rfl rfl rfl (q_adr rfl T30 rfl rfl i1_193 hc197) ?_; refine wsq rfl rfl rfl (q_loadS rfl T30 rfl i1_193 hc197) ?_; refine wsa rfl rfl rfl (q_move (v := p0) rfl s0_193) ?_; refine wsa rfl rfl rfl (q_move (v := (i64 s187)) rfl s11_193) ?_; obtain ⟨c198, hc198, H192⟩ := bsi H192; refine wsa rfl rfl rfl (q_adr rfl T30 rfl rfl (hp0.lift (Lift.ext e196 _)) hc198) ?_; refine wsq rfl rfl rfl (q_loadS rfl T30 rfl (hp0.lift (Lift.ext e196 _)) hc198) ?_; refine wsa rfl rfl rfl (q_move (v := (i64 s192)) rfl rfl) ?_; obtain ⟨r199, hr199, H192⟩ := bsi H192; refine wss rfl rfl rfl (stp_call (vs := [(u8 c198), (i64 s192)]) Try.func30 rfl rfl rfl (ar2 rfl rfl) (ref02_Pow_calls c198 s192  r199 _  hr199) ?_); rintro _ w199 ⟨rfl, x199⟩; refine ⟨_, rfl, x199, ?_⟩; replace i0_193 := i0_193.lift (Lift.ext x199 _); replace i1_193 := i1_193.lift (Lift.ext x199 _); replace i2_193 := i2_193.lift (Lift.ext x199 _); have e200 := e196.trans x199; refine wsa rfl rfl rfl (q_ne8 rfl rfl rfl) ?_; refine ws_nil ?_; refine W_th ?_; refine W_cond _ rfl rfl (fun hb201 => ?_) (fun hb201 => ?_)
          · replace H192 := (if_neg (ndec_t hb201)).symm.trans H192; refine W_seq ?_; refine W_reg (by kernel_rfl) ?_; refine wla rfl rfl (q_assign (v := (.bool false)) rfl rfl) ?_; refine wl_nil ?_; refine W_th ?_; refine W_ret ?_; refine bk_r ?_; refine th_r ?_; obtain rfl := osi H192; obtain rfl := hr192 _ rfl; simp only [Sum.elim_inr] at H187; refine th_r ?_; refine bk_r ?_; refine th_r ?_; refine bk_r ?_; refine th_r ?_; obtain rfl := osi H187; obtain rfl := hr187 _ rfl; simp only [Sum.elim_inr] at H; refine th_r ?_; refine bk_r ?_; refine th_r ?_; refine th_r ?_; obtain rfl := osi H; refine rt1 (.bool false) rfl rfl rfl s207_193 ?_; exact ⟨rfl, e200⟩
          replace H192 := (if_pos (ndec_f hb201)).symm.trans H192; refine W_skip ?_; refine bk_n ?_; refine W_th ?_; refine W_reg (by kernel_rfl) ?_; refine wla rfl rfl (q_addI rfl s83_193 rfl) ?_; refine wla rfl rfl (q_move (v := (i64 ((wI (s192 + 1))))) rfl rfl) ?_; refine wl_nil ?_; obtain rfl := osi H192; exact ⟨_, rfl, s0_193, s1_193, s7_193, s11_193, s12_193, s74_193, s75_193, s76_193, s82_193, rfl, s207_193, e200, i0_193, i1_193, i2_193⟩
        replace H192 := (if_neg (of_decide_eq_false hb194)).symm.trans H192; refine W_exit ?_; refine th_x ?_; obtain rfl := osi H192; obtain rfl := hr192 _ rfl; refine th_x ?_; refine bk_x ?_; exact ⟨_, rfl, s0_193, s1_193, s7_193, s74_193, s75_193, s76_193, s207_193, hE193, i0_193, i2_193⟩
      rintro _ w203 ⟨y192, rfl, s0_203, s1_203, s7_203, s74_203, s75_203, s76_203, s207_203, hE203, i0_203, i1_203⟩; simp only [Sum.elim_inl] at H187; refine bk_n ?_; refine W_th ?_; refine W_reg (by kernel_rfl) ?_; refine wla rfl rfl (q_addI rfl s76_203 rfl) ?_; refine wla rfl rfl (q_move (v := (i64 ((wI (s187 + 1))))) rfl rfl) ?_; refine wl_nil ?_; obtain rfl := osi H187; exact ⟨_, rfl, s0_203, s1_203, s7_203, s74_203, s75_203, rfl, s207_203, hE203, i0_203, i1_203⟩
    replace H187 := (if_neg (of_decide_eq_false hb189)).symm.trans H187; refine W_exit ?_; refine th_x ?_; obtain rfl := osi H187; obtain rfl := hr187 _ rfl; refine th_x ?_; refine bk_x ?_; exact ⟨_, rfl, s0_188, s1_188, s7_188, s207_188, hE188, i0_188⟩
  rintro _ w206 ⟨y187, rfl, s0_206, s1_206, s7_206, s207_206, hE206, i0_206⟩; simp only [Sum.elim_inl] at H; refine W_th ?_; refine W_seq ?_; refine W_reg (by kernel_rfl) ?_; refine wla rfl rfl (q_assign (v := (.func (.func 31) #[] #[])) rfl rfl) ?_; refine wl_nil ?_; refine W_th ?_; refine W_seq ?_; obtain ⟨x207, H207, H⟩ := bsi H; refine W_mid (fun f w => ∃ s207, x207 = .inl s207 ∧ f 0 = p0 ∧ f 1 = p1 ∧ f 7 = v12 ∧ f 14 = (.func (.func 31) #[] #[]) ∧ f 207 = undef ∧ Ext w0 w ∧ Fd w [] v12 r12) ?_ ?_
  · refine W_seq ?_; refine W_reg (by kernel_rfl) ?_; refine wla rfl rfl (q_move (v := p0) rfl s0_206) ?_; refine wla rfl rfl (q_len rfl T30.sl rfl (hp0.lift (Lift.ext hE206 _))) ?_; refine wla rfl rfl (q_assign (v := (i64 ((a0xs.length : Int)))) rfl rfl) ?_; refine wl_nil ?_; refine W_th ?_; refine W_seq ?_; refine W_reg (by kernel_rfl) ?_; refine wla rfl rfl (q_move (v := (i64 ((a0xs.length : Int)))) rfl rfl) ?_; refine wla rfl rfl (q_gtI rfl rfl rfl) ?_; refine wl_nil ?_; refine W_th ?_; refine W_cond _ rfl rfl (fun hb208 => ?_) (fun hb208 => ?_)
    · replace H207 := (if_pos (of_decide_eq_true hb208)).symm.trans H207; refine W_seq ?_; refine W_reg (by kernel_rfl) ?_; refine wla rfl rfl (q_move (v := v12) rfl s7_206) ?_; refine wla rfl rfl (q_move (v := p0) rfl s0_206) ?_; refine wla rfl rfl (q_move (v := (i64 ((a0xs.length : Int)))) rfl rfl) ?_; obtain ⟨r209, hr209, H207⟩ := bsi H207; refine wls rfl rfl (stp_call (vs := [v12, p0, (i64 ((a0xs.length : Int)))]) Try.func29 rfl rfl rfl (ar3 rfl rfl rfl) (matrix_Vandermonde_calls r12 a0xs (a0xs.length : Int) v12 p0 r209 _ [] (Old.nil _) (i0_206.lift (Lift.sub (L' := []) (fun _ _ => trivial))) (hp0.lift (Lift.ext hE206 _)) hr209) ?_); rintro _ w209 ⟨v209_0, rfl, x209, i209_0⟩; refine ⟨_, rfl, ?_⟩; replace i0_206 := i0_206.lift (Lift.ext x209 _); have e210 := hE206.trans x209; refine wla rfl rfl (q_move (v := (.tuple #[v209_0, (i64 r209.2)])) rfl rfl) ?_; refine wla rfl rfl (q_extract rfl rfl rfl) ?_; refine wla rfl rfl (q_extract rfl rfl rfl) ?_; refine wla rfl rfl (q_assign (v := v209_0) rfl rfl) ?_; refine wla rfl rfl (q_assign (v := (i64 r209.2)) rfl rfl) ?_; refine wl_nil ?_; refine W_th ?_; refine W_seq ?_; refine W_reg (by kernel_rfl) ?_; refine wla rfl rfl (q_move (v := v209_0) rfl rfl) ?_; refine wla rfl rfl (q_move (v := v12) rfl s7_206) ?_; obtain ⟨r211, hr211, H207⟩ := bsi H207; refine wls rfl rfl (stp_call (vs := [v209_0, v12]) Try.func26 rfl rfl rfl (ar2 rfl rfl) (matrix_Inverse_calls r209.1 r12 v209_0 v12 r211 _ [] (Old.nil _) (i209_0.lift (Lift.sub (L' := []) (fun _ _ => trivial))) (i0_206.lift (Lift.sub (L' := []) (fun _ _ => trivial))) hr211) ?_); rintro _ w211 ⟨v211_0, rfl, x211, i211_0⟩; refine ⟨_, rfl, ?_⟩; replace i0_206 := i0_206.lift (Lift.ext x211 _); replace i209_0 := i209_0.lift (Lift.ext x211 _); have e212 := e210.trans x211; refine wla rfl rfl (q_move (v := (.tuple #[v211_0, (i64 r211.2)])) rfl rfl) ?_; refine wla rfl rfl (q_extract rfl rfl rfl) ?_; refine wla rfl rfl (q_extract rfl rfl rfl) ?_; refine wla rfl rfl (q_assign (v := v211_0) rfl rfl) ?_; refine wla rfl rfl (q_assign (v := (i64 r211.2)) rfl rfl) ?_; refine wl_nil ?_; refine W_th ?_; refine W_seq ?_; refine W_reg (by kernel_rfl) ?_; refine wla rfl rfl (q_move (v := (i64 r211.2)) rfl rfl) ?_; refine wla rfl rfl (q_eqI rfl rfl rfl) ?_; refine wla rfl rfl (q_move (v := (.func (.func 31) #[] #[])) rfl rfl) ?_; refine wla rfl rfl (q_move (v := p0) rfl s0_206) ?_; obtain ⟨r213, hr213, H207⟩ := bsi H207; refine wls rfl rfl (stp_callV rfl (vs := [p0]) Try.func31 rfl rfl rfl (ar1 rfl) (law04_MatrixNamed_1_calls a0xs p0 r213 _ (hp0.lift (Lift.ext e212 _)) hr213) ?_); rintro _ w213 ⟨rfl, x213⟩; refine ⟨_, rfl, ?_⟩; replace i0_206 := i0_206.lift (Lift.ext x213 _); replace i209_0 := i209_0.lift (Lift.ext x213 _); replace i211_0 := i211_0.lift (Lift.ext x213 _); have e214 := e212.trans x213; refine wla rfl rfl (q_neB rfl (by kernel_rfl) rfl rfl) ?_; refine wl_nil ?_; refine W_th ?_; refine W_cond _ rfl rfl (fun hb215 => ?_) (fun hb215 => ?_)
      · replace H207 := (if_pos hb215).symm.trans H207; refine W_seq ?_; refine W_reg (by kernel_rfl) ?_; refine wla rfl rfl (q_assign (v := (.bool false)) rfl rfl) ?_; refine wl_nil ?_; refine W_th ?_; refine W_ret ?_; obtain rfl := osi H207; simp only [Sum.elim_inr] at H; refine th_r ?_; refine th_r ?_; obtain rfl := osi H; refine rt1 (.bool false) rfl rfl rfl s207_206 ?_; exact ⟨rfl, e214⟩
      replace H207 := (if_neg (ne_true_of_eq_false hb215)).symm.trans H207; refine W_skip ?_; obtain rfl := osi H207; exact ⟨_, rfl, s0_206, s1_206, s7_206, rfl, s207_206, e214, i0_206⟩
    replace H207 := (if_neg (of_decide_eq_false hb208)).symm.trans H207; refine W_skip ?_; obtain rfl := osi H207; exact ⟨_, rfl, s0_206, s1_206, s7_206, rfl, s207_206, hE206, i0_206⟩
  rintro _ w216 ⟨s207, rfl, s0_216, s1_216, s7_216, s14_216, s207_216, hE216, i0_216⟩; simp only [Sum.elim_inl] at H; refine W_th ?_; refine W_seq ?_; refine W_reg (by kernel_rfl) ?_; refine wla rfl rfl (q_move (v := v12) rfl s7_216) ?_; refine wla rfl rfl (q_move (v := p0) rfl s0_216) ?_; refine wla rfl rfl (q_move (v := p1) rfl s1_216) ?_; obtain ⟨r217, hr217, H⟩ := bsi H; refine wls rfl rfl (stp_call (vs := [v12, p0, p1]) Try.func32 rfl rfl rfl (ar3 rfl rfl rfl) (matrix_Cauchy_calls r12 a0xs a1ys v12 p0 p1 r217 _ [] (Old.nil _) (i0_216.lift (Lift.sub (L' := []) (fun _ _ => trivial))) (hp0.lift (Lift.ext hE216 _)) (hp1.lift (Lift.ext hE216 _)) hr217) ?_); rintro _ w217 ⟨v217_0, rfl, x217, i217_0⟩; refine ⟨_, rfl, ?_⟩; replace i0_216 := i0_216.lift (Lift.ext x217 _); have e218 := hE216.trans x217; refine wla rfl rfl (q_move (v := (.tuple #[v217_0, (i64 r217.2)])) rfl rfl) ?_; refine wla rfl rfl (q_extract rfl rfl rfl) ?_; refine wla rfl rfl (q_extract rfl rfl rfl) ?_; refine wla rfl rfl (q_assign (v := v217_0) rfl rfl) ?_; refine wla rfl rfl (q_assign (v := (i64 r217.2)) rfl rfl) ?_; refine wl_nil ?_; refine W_th ?_; refine W_seq ?_; refine W_block ?_; refine W_seq ?_; refine W_reg (by kernel_rfl) ?_; refine wla rfl rfl (q_move (v := p0) rfl s0_216) ?_; refine wla rfl rfl (q_len rfl T30.sl rfl (hp0.lift (Lift.ext e218 _))) ?_; refine wla rfl rfl (q_eqI rfl rfl rfl) ?_; refine wlb rfl rfl (q_move (v := (.bool ((decide ((a0xs.length : Int) = 0))))) rfl rfl) (fun hb219 => ?_) (fun hb219 => ?_)
  · replace H := (if_pos (of_decide_eq_true hb219)).symm.trans H; refine wlk rfl rfl ?_; refine wlk rfl rfl ?_; refine wlk rfl rfl ?_; refine wla rfl rfl (q_pick_t (v := (.bool true)) rfl rfl rfl) ?_; refine wla rfl rfl (q_assign (v := (.bool true)) rfl rfl) ?_; refine wl_nil ?_; refine W_th ?_; refine W_cond true rfl rfl (fun _ => ?_) (fun hb => by cases hb); refine W_seq ?_; refine W_reg (by kernel_rfl) ?_; refine wla rfl rfl (q_move (v := (i64 r217.2)) rfl rfl) ?_; refine wla rfl rfl (q_eqI rfl rfl rfl) ?_; refine wlb rfl rfl (q_move (v := (.bool ((decide (r217.2 = 2))))) rfl rfl) (fun hb220 => ?_) (fun hb220 => ?_)
    · replace H := (if_pos (of_decide_eq_true hb220)).symm.trans H; refine wla rfl rfl (q_move (v := v217_0) rfl rfl) ?_; refine wla rfl rfl (q_eqM rfl rfl rfl rfl i217_0) ?_; refine wla rfl rfl (q_pick_t (v := (.bool r217.1.isNone)) rfl rfl rfl) ?_; refine wla rfl rfl (q_assign (v := (.bool r217.1.isNone)) rfl rfl) ?_; refine wl_nil ?_; refine W_th ?_; refine W_ret ?_; refine bk_r ?_; refine th_r ?_; obtain rfl := osi H; refine rt1 (.bool r217.1.isNone) rfl rfl rfl s207_216 ?_; exact ⟨rfl, e218⟩
    replace H := (if_neg (of_decide_eq_false hb220)).symm.trans H; refine wlk rfl rfl ?_; refine wlk rfl rfl ?_; refine wla rfl rfl (q_pick_f (v := (.bool false)) rfl rfl rfl) ?_; refine wla rfl rfl (q_assign (v := (.bool false)) rfl rfl) ?_; refine wl_nil ?_; refine W_th ?_; refine W_ret ?_; refine bk_r ?_; refine th_r ?_; obtain rfl := osi H; refine rt1 (.bool false) rfl rfl rfl s207_216 ?_; exact ⟨rfl, e218⟩
  replace H := (if_neg (of_decide_eq_false hb219)).symm.trans H; refine wla rfl rfl (q_move (v := p1) rfl s1_216) ?_; refine wla rfl rfl (q_len rfl T30.sl rfl (hp1.lift (Lift.ext e218 _))) ?_; refine wla rfl rfl (q_eqI rfl rfl rfl) ?_; refine wla rfl rfl (q_pick_f (v := (.bool ((decide ((a1ys.length : Int) = 0))))) rfl rfl rfl) ?_; refine wla rfl rfl (q_assign (v := (.bool ((decide ((a1ys.length : Int) = 0))))) rfl rfl) ?_; refine wl_nil ?_; refine W_th ?_; refine W_cond _ rfl rfl (fun hb221 => ?_) (fun hb221 => ?_)
  · replace H := (if_pos (of_decide_eq_true hb221)).symm.trans H; refine W_seq ?_; refine W_reg (by kernel_rfl) ?_; refine wla rfl rfl (q_move (v := (i64 r217.2)) rfl rfl) ?_; refine wla rfl rfl (q_eqI rfl rfl rfl) ?_; refine wlb rfl rfl (q_move (v := (.bool ((decide (r217.2 = 2))))) rfl rfl) (fun hb222 => ?_) (fun hb222 => ?_)
    · replace H := (if_pos (of_decide_eq_true hb222)).symm.trans H; refine wla rfl rfl (q_move (v := v217_0) rfl rfl) ?_; refine wla rfl rfl (q_eqM rfl rfl rfl rfl i217_0) ?_; refine wla rfl rfl (q_pick_t (v := (.bool r217.1.isNone)) rfl rfl rfl) ?_; refine wla rfl rfl (q_assign (v := (.bool r217.1.isNone)) rfl rfl) ?_; refine wl_nil ?_; refine W_th ?_; refine W_ret ?_; refine bk_r ?_; refine th_r ?_; obtain rfl := osi H; refine rt1 (.bool r217.1.isNone) rfl rfl rfl s207_216 ?_; exact ⟨rfl, e218⟩
    replace H := (if_neg (of_decide_eq_false hb222)).symm.trans H; refine wlk rfl rfl ?_; refine wlk rfl rfl ?_; refine wla rfl rfl (q_pick_f (v := (.bool false)) rfl rfl rfl) ?_; refine wla rfl rfl (q_assign (v := (.bool false)) rfl rfl) ?_; refine wl_nil ?_; refine W_th ?_; refine W_ret ?_; refine bk_r ?_; refine th_r ?_; obtain rfl := osi H; refine rt1 (.bool false) rfl rfl rfl s207_216 ?_; exact ⟨rfl, e218⟩
  replace H := (if_neg (of_decide_eq_false hb221)).symm.trans H; refine W_seq ?_; refine W_reg (by kernel_rfl) ?_; refine wla rfl rfl (q_move (v := (.func (.func 31) #[] #[])) rfl s14_216) ?_; refine wls rfl rfl (stp_lit (L := []) (R := (Sc u8)) [] ([] : List UInt8) rfl T30 rfl (by exact trivial) rfl (litC u8 (oneC_u8) (us := []) (l := ([] : List UInt8)) rfl) rfl (litS u8 (us := []) (l := ([] : List UInt8)) rfl) ?_); intro v223 w223 o223 n223 g223 l223; have x223 := grown_ext g223; replace i0_216 := i0_216.lift (Lift.call _ x223 n223); replace i217_0 := i217_0.lift (Lift.call _ x223 n223); have n225 := Nw.ext e218 n223; have e224 := e218.trans x223; refine wla rfl rfl (q_move (v := p0) rfl s0_216) ?_; obtain ⟨c226, hc226, H⟩ := bsi H; refine wls rfl rfl (stp_append (R := (Sc u8)) (v := v223) (u := p0) (Sc.stab _) [] [] rfl T30 rfl rfl o223 (hp0.lift (Lift.ext e224 _)) (fun _ _ h => h) hc226 oc_u8 ?_); intro v226 w226 o226 g226 nx226 l226; replace i0_216 := i0_216.lift l226; replace i217_0 := i217_0.lift l226; have e227 := e224.grown g226 n225; have n228 := Nw.nxt e224 n225 nx226; refine wla rfl rfl (q_move (v := p1) rfl s1_216) ?_; obtain ⟨c229, hc229, H⟩ := bsi H; refine wls rfl rfl (stp_append (R := (Sc u8)) (v := v226) (u := p1) (Sc.stab _) [] [] rfl T30 rfl rfl o226 (hp1.lift (Lift.ext e227 _)) (fun _ _ h => h) hc229 oc_u8 ?_); intro v229 w229 o229 g229 nx229 l229; replace i0_216 := i0_216.lift l229; replace i217_0 := i217_0.lift l229; have e230 := e227.grown g229 n228; have n231 := Nw.nxt e227 n228 nx229; obtain ⟨r232, hr232, H⟩ := bsi H; refine wls rfl rfl (stp_callV rfl (vs := [v229]) Try.func31 rfl rfl rfl (ar1 rfl) (law04_MatrixNamed_1_calls c229 v229 r232 _ (o229.rd (Sc.stab _)) hr232) ?_); rintro _ w232 ⟨rfl, x232⟩; refine ⟨_, rfl, ?_⟩; replace i0_216 := i0_216.lift (Lift.ext x232 _); replace i217_0 := i217_0.lift (Lift.ext x232 _); replace o229 := o229.extL (Sc.stab _) x232 (Lift.ext x232 _); have e233 := e230.trans x232; refine wla rfl rfl (q_not rfl rfl) ?_; refine wla rfl rfl (q_assign (v := (.bool ((!r232)))) rfl rfl) ?_; refine wl_nil ?_; refine W_th ?_; refine W_cond _ rfl rfl (fun hb234 => ?_) (fun hb234 => ?_)
  · replace H := (if_pos hb234).symm.trans H; refine W_seq ?_; refine W_reg (by kernel_rfl) ?_; refine wla rfl rfl (q_move (v := (i64 r217.2)) rfl rfl) ?_; refine wla rfl rfl (q_eqI rfl rfl rfl) ?_; refine wlb rfl rfl (q_move (v := (.bool ((decide (r217.2 = 6))))) rfl rfl) (fun hb235 => ?_) (fun hb235 => ?_)
    · replace H := (if_pos (of_decide_eq_true hb235)).symm.trans H; refine wla rfl rfl (q_move (v := v217_0) rfl rfl) ?_; refine wla rfl rfl (q_eqM rfl rfl rfl rfl i217_0) ?_; refine wla rfl rfl (q_pick_t (v := (.bool r217.1.isNone)) rfl rfl rfl) ?_; refine wla rfl rfl (q_assign (v := (.bool r217.1.isNone)) rfl rfl) ?_; refine wl_nil ?_; refine W_th ?_; refine W_ret ?_; refine bk_r ?_; refine th_r ?_; obtain rfl := osi H; refine rt1 (.bool r217.1.isNone) rfl rfl rfl s207_216 ?_; exact ⟨rfl, e233⟩
    replace H := (if_neg (of_decide_eq_false hb235)).symm.trans H; refine wlk rfl rfl ?_; refine wlk rfl rfl ?_; refine wla rfl rfl (q_pick_f (v := (.bool false)) rfl rfl rfl) ?_; refine wla rfl rfl (q_assign (v := (.bool false)) rfl rfl) ?_; refine wl_nil ?_; refine W_th ?_; refine W_ret ?_; refine bk_r ?_; refine th_r ?_; obtain rfl := osi H; refine rt1 (.bool false) rfl rfl rfl s207_216 ?_; exact ⟨rfl, e233⟩
  replace H := (if_neg (ne_true_of_eq_false hb234)).symm.trans H; refine W_skip ?_; refine bk_n ?_; refine W_th ?_; refine W_seq ?_; refine W_seq ?_; refine W_reg (by kernel_rfl) ?_; refine wla rfl rfl (q_move (v := v217_0) rfl rfl) ?_; obtain ⟨r236, hr236, H⟩ := bsi H; refine wls rfl rfl (stp_call (vs := [v217_0]) Try.func15 rfl rfl rfl (ar1 rfl) (law04_rows_calls r217.1 v217_0 r236 _ [v229] (Old.cons (Old.nil _) o229.lt) (i217_0.lift (Lift.sub (L' := []) (fun _ _ => trivial))) hr236) ?_); rintro _ w236 ⟨v236, rfl, x236, n236_0, o236_0⟩; refine ⟨_, rfl, ?_⟩; have i236_0 : Rw w236 [v229] v236 r236 := OwK.slk (SlK.stab (Sc.stab _)) _ o236_0 (fun k hk => (Old.cons (Old.nil _) o229.lt) k (n236_0 k hk)) (fun _ h => h.2); replace i0_216 := i0_216.lift (Lift.ext x236 _); replace i217_0 := i217_0.lift (Lift.ext x236 _); replace o229 := o229.extL (Sc.stab _) x236 (Lift.ext x236 _); have e237 := e233.trans x236; refine wla rfl rfl (q_len rfl T22.sl rfl i236_0) ?_; refine wla rfl rfl (q_move (v := (i64 0)) rfl rfl) ?_; refine wl_nil ?_; refine W_th ?_; obtain ⟨x238, G238, H⟩ := bsi H; refine W_mid (fun f w => ∃ y238, x238 = .inl y238 ∧ f 0 = p0 ∧ f 1 = p1 ∧ f 7 = v12 ∧ f 20 = v217_0 ∧ f 21 = (i64 r217.2) ∧ f 207 = undef ∧ Ext w0 w ∧ Fd w [] v12 r12 ∧ Mx w [] v217_0 r217.1) ?_ ?_
  · refine W_block ?_; refine W_loop (fun s238 f w => f 0 = p0 ∧ f 1 = p1 ∧ f 7 = v12 ∧ f 20 = v217_0 ∧ f 21 = (i64 r217.2) ∧ f 160 = v236 ∧ f 161 = (i64 ((r236.length : Int))) ∧ f 162 = (i64 s238) ∧ f 207 = undef ∧ Ext w0 w ∧ Fd w [] v12 r12 ∧ Mx w [] v217_0 r217.1 ∧ Rw w [] v236 r236) G238 ?_ ?_
    · exact ⟨s0_216, s1_216, s7_216, rfl, rfl, rfl, rfl, rfl, s207_216, e237, (i0_216.lift (Lift.sub (fun _ h => trivial))), (i217_0.lift (Lift.sub (fun _ h => trivial))), (i236_0.lift (Lift.sub (fun _ h => trivial)))⟩
    rintro s238 _ _ w239 ⟨s0_239, s1_239, s7_239, s20_239, s21_239, s160_239, s161_239, s162_239, s207_239, hE239, i0_239, i1_239, i2_239⟩ H238 hr238; refine W_seq ?_; refine W_reg (by kernel_rfl) ?_; refine wla rfl rfl (q_ltI rfl s162_239 s161_239) ?_; refine wl_nil ?_; refine W_th ?_; refine W_seq ?_; refine W_cond _ rfl rfl (fun hb240 => ?_) (fun hb240 => ?_)
    · replace H238 := (if_pos (of_decide_eq_true hb240)).symm.trans H238; refine W_skip ?_; refine W_th ?_; refine W_seq ?_; refine W_block ?_; refine W_seq ?_; refine W_reg (by kernel_rfl) ?_; refine wla rfl rfl (q_move (v := (i64 s238)) rfl s162_239) ?_; obtain ⟨c241, hc241, H238⟩ := bsi H238; refine wla rfl rfl (q_adr rfl T22 s160_239 s162_239 i2_239 hc241) ?_; refine wlq_load rfl rfl rfl T22 rfl i2_239 hc241 (Ext.refl _) (fun v242 i242 => ?_); refine wla rfl rfl (q_assign (v := (i64 s238)) rfl rfl) ?_; refine wla rfl rfl (q_assign (v := v242) rfl rfl) ?_; refine wl_nil ?_; refine W_th ?_; refine W_seq ?_; refine W_reg (by kernel_rfl) ?_; refine wla rfl rfl (q_move (v := v242) rfl rfl) ?_; refine wla rfl rfl (q_len rfl T30.sl rfl i242) ?_; refine wla rfl rfl (q_move (v := (i64 0)) rfl rfl) ?_; refine wl_nil ?_; refine W_th ?_; obtain ⟨x243, G243, H238⟩ := bsi H238; refine W_mid (fun f w => ∃ y243, x243 = .inl y243 ∧ f 0 = p0 ∧ f 1 = p1 ∧ f 7 = v12 ∧ f 20 = v217_0 ∧ f 21 = (i64 r217.2) ∧ f 160 = v236 ∧ f 161 = (i64 ((r236.length : Int))) ∧ f 162 = (i64 s238) ∧ f 207 = undef ∧ Ext w0 w ∧ Fd w [] v12 r12 ∧ Mx w [] v217_0 r217.1 ∧ Rw w [] v236 r236) ?_ ?_
      · refine W_block ?_; refine W_loop (fun s243 f w => f 0 = p0 ∧ f 1 = p1 ∧ f 7 = v12 ∧ f 20 = v217_0 ∧ f 21 = (i64 r217.2) ∧ f 22 = (i64 s238) ∧ f 23 = v242 ∧ f 160 = v236 ∧ f 161 = (i64 ((r236.length : Int))) ∧ f 162 = (i64 s238) ∧ f 168 = (i64 ((c241.length : Int))) ∧ f 169 = (i64 s243) ∧ f 207 = undef ∧ Ext w0 w ∧ Fd w [] v12 r12 ∧ Mx w [] v217_0 r217.1 ∧ By w [] v242 c241 ∧ Rw w [] v236 r236) G243 ?_ ?_
        · exact ⟨s0_239, s1_239, s7_239, s20_239, s21_239, rfl, rfl, s160_239, s161_239, s162_239, rfl, rfl, s207_239, hE239, i0_239, i1_239, i242, i2_239⟩
        rintro s243 _ _ w244 ⟨s0_244, s1_244, s7_244, s20_244, s21_244, s22_244, s23_244, s160_244, s161_244, s162_244, s168_244, s169_244, s207_244, hE244, i0_244, i1_244, i2_244, i3_244⟩ H243 hr243; refine W_seq ?_; refine W_reg (by kernel_rfl) ?_; refine wla rfl rfl (q_ltI rfl s169_244 s168_244) ?_; refine wl_nil ?_; refine W_th ?_; refine W_seq ?_; refine W_cond _ rfl rfl (fun hb245 => ?_) (fun hb245 => ?_)
        · replace H243 := (if_pos (of_decide_eq_true hb245)).symm.trans H243; refine W_skip ?_; refine W_th ?_; refine W_seq ?_; refine W_block ?_; refine W_seq ?_; refine W_reg (by kernel_rfl) ?_; refine wla rfl rfl (q_move (v := (i64 s243)) rfl s169_244) ?_; refine wla rfl rfl (q_assign (v := (i64 s243)) rfl rfl) ?_; refine wl_nil ?_; refine W_th ?_; refine W_seq ?_; refine W_draw [3, 7, 11] [(0, 0), (1, 0), (2, 0), (3, 1), (4, 0), (5, 0), (6, 0), (7, 1), (8, 0), (9, 0), (10, 0), (11, 1), (12, 0), (13, 2), (14, 0)] mixed (by kernel_rfl) (by kernel_rfl) (by kernel_rfl) (by kernel_rfl) ?_; have x246 := Ext.drew w244; replace i0_244 := i0_244.lift (Lift.ext x246 _); replace i1_244 := i1_244.lift (Lift.ext x246 _); replace i2_244 := i2_244.lift (Lift.ext x246 _); replace i3_244 := i3_244.lift (Lift.ext x246 _); have e247 := hE244.trans x246; refine wsa rfl rfl rfl (q_move (v := v242) rfl s23_244) ?_; refine wsa rfl rfl rfl (q_move (v := (i64 s243)) rfl rfl) ?_; obtain ⟨c248, hc248, H243⟩ := bsi H243; refine wsa rfl rfl rfl (q_adr rfl T30 rfl rfl i2_244 hc248) ?_; refine wsq rfl rfl rfl (q_loadS rfl T30 rfl i2_244 hc248) ?_; refine wsa rfl rfl rfl (q_move (v := p0) rfl s0_244) ?_; refine wsa rfl rfl rfl (q_move (v := (i64 s238)) rfl s22_244) ?_; obtain ⟨c249, hc249, H243⟩ := bsi H243; refine wsa rfl rfl rfl (q_adr rfl T30 rfl rfl (hp0.lift (Lift.ext e247 _)) hc249) ?_; refine wsq rfl rfl rfl (q_loadS rfl T30 rfl (hp0.lift (Lift.ext e247 _)) hc249) ?_; refine wsa rfl rfl rfl (q_move (v := p1) rfl s1_244) ?_; refine wsa rfl rfl rfl (q_move (v := (i64 s243)) rfl rfl) ?_; obtain ⟨c250, hc250, H243⟩ := bsi H243; refine wsa rfl rfl rfl (q_adr rfl T30 rfl rfl (hp1.lift (Lift.ext e247 _)) hc250) ?_; refine wsq rfl rfl rfl (q_loadS rfl T30 rfl (hp1.lift (Lift.ext e247 _)) hc250) ?_; refine wsa rfl rfl rfl (q_xor8 rfl rfl rfl) ?_; obtain ⟨r251, hr251, H243⟩ := bsi H243; refine wss rfl rfl rfl (stp_call (vs := [(u8 ((c249 ^^^ c250)))]) Try.func33 rfl rfl rfl (ar1 rfl) (ref02_Inv_calls (c249 ^^^ c250)  r251 _  hr251) ?_); rintro _ w251 ⟨rfl, x251⟩; refine ⟨_, rfl, x251, ?_⟩; replace i0_244 := i0_244.lift (Lift.ext x251 _); replace i1_244 := i1_244.lift (Lift.ext x251 _); replace i2_244 := i2_244.lift (Lift.ext x251 _); replace i3_244 := i3_244.lift (Lift.ext x251 _); have e252 := e247.trans x251; refine wsa rfl rfl rfl (q_ne8 rfl rfl rfl) ?_; refine ws_nil ?_; refine W_th ?_; refine W_cond _ rfl rfl (fun hb253 => ?_) (fun hb253 => ?_)
          · replace H243 := (if_neg (ndec_t hb253)).symm.trans H243; refine W_seq ?_; refine W_reg (by kernel_rfl) ?_; refine wla rfl rfl (q_assign (v := (.bool false)) rfl rfl) ?_; refine wl_nil ?_; refine W_th ?_; refine W_ret ?_; refine bk_r ?_; refine th_r ?_; obtain rfl := osi H243; obtain rfl := hr243 _ rfl; simp only [Sum.elim_inr] at H238; refine th_r ?_; refine bk_r ?_; refine th_r ?_; refine bk_r ?_; refine th_r ?_; obtain rfl := osi H238; obtain rfl := hr238 _ rfl; simp only [Sum.elim_inr] at H; refine th_r ?_; refine bk_r ?_; refine th_r ?_; refine th_r ?_; obtain rfl := osi H; refine rt1 (.bool false) rfl rfl rfl s207_244 ?_; exact ⟨rfl, e252⟩
          replace H243 := (if_pos (ndec_f hb253)).symm.trans H243; refine W_skip ?_; refine bk_n ?_; refine W_th ?_; refine W_reg (by kernel_rfl) ?_; refine wla rfl rfl (q_addI rfl s169_244 rfl) ?_; refine wla rfl rfl (q_move (v := (i64 ((wI (s243 + 1))))) rfl rfl) ?_; refine wl_nil ?_; obtain rfl := osi H243; exact ⟨_, rfl, s0_244, s1_244, s7_244, s20_244, s21_244, s22_244, s23_244, s160_244, s161_244, s162_244, s168_244, rfl, s207_244, e252, i0_244, i1_244, i2_244, i3_244⟩
        replace H243 := (if_neg (of_decide_eq_false hb245)).symm.trans H243; refine W_exit ?_; refine th_x ?_; obtain rfl := osi H243; obtain rfl := hr243 _ rfl; refine th_x ?_; refine bk_x ?_; exact ⟨_, rfl, s0_244, s1_244, s7_244, s20_244, s21_244, s160_244, s161_244, s162_244, s207_244, hE244, i0_244, i1_244, i3_244⟩
      rintro _ w255 ⟨y243, rfl, s0_255, s1_255, s7_255, s20_255, s21_255, s160_255, s161_255, s162_255, s207_255, hE255, i0_255, i1_255, i2_255⟩; simp only [Sum.elim_inl] at H238; refine bk_n ?_; refine W_th ?_; refine W_reg (by kernel_rfl) ?_; refine wla rfl rfl (q_addI rfl s162_255 rfl) ?_; refine wla rfl rfl (q_move (v := (i64 ((wI (s238 + 1))))) rfl rfl) ?_; refine wl_nil ?_; obtain rfl := osi H238; exact ⟨_, rfl, s0_255, s1_255, s7_255, s20_255, s21_255, s160_255, s161_255, rfl, s207_255, hE255, i0_255, i1_255, i2_255⟩
    replace H238 := (if_neg (of_decide_eq_false hb240)).symm.trans H238; refine W_exit ?_; refine th_x ?_; obtain rfl := osi H238; obtain rfl := hr238 _ rfl; refine th_x ?_; refine bk_x ?_; exact ⟨_, rfl, s0_239, s1_239, s7_239, s20_239, s21_239, s207_239, hE239, i0_239, i1_239⟩
  rintro _ w258 ⟨y238, rfl, s0_258, s1_258, s7_258, s20_258, s21_258, s207_258, hE258, i0_258, i1_258⟩; simp only [Sum.elim_inl] at H; refine W_th ?_; refine W_seq ?_; refine W_reg (by kernel_rfl) ?_; refine wla rfl rfl (q_move (v := v217_0) rfl s20_258) ?_; refine wla rfl rfl (q_move (v := v12) rfl s7_258) ?_; obtain ⟨r259, hr259, H⟩ := bsi H; refine wls rfl rfl (stp_call (vs := [v217_0, v12]) Try.func26 rfl rfl rfl (ar2 rfl rfl) (matrix_Inverse_calls r217.1 r12 v217_0 v12 r259 _ [] (Old.nil _) (i1_258.lift (Lift.sub (L' := []) (fun _ _ => trivial))) (i0_258.lift (Lift.sub (L' := []) (fun _ _ => trivial))) hr259) ?_); rintro _ w259 ⟨v259_0, rfl, x259, i259_0⟩; refine ⟨_, rfl, ?_⟩; replace i0_258 := i0_258.lift (Lift.ext x259 _); replace i1_258 := i1_258.lift (Lift.ext x259 _); have e260 := hE258.trans x259; refine wla rfl rfl (q_move (v := (.tuple #[v259_0, (i64 r259.2)])) rfl rfl) ?_; refine wla rfl rfl (q_extract rfl rfl rfl) ?_; refine wla rfl rfl (q_extract rfl rfl rfl) ?_; refine wla rfl rfl (q_assign (v := v259_0) rfl rfl) ?_; refine wla rfl rfl (q_assign (v := (i64 r259.2)) rfl rfl) ?_; refine wl_nil ?_; refine W_th ?_; refine W_seq ?_; refine W_reg (by kernel_rfl) ?_; refine wla rfl rfl (q_move (v := (i64 r217.2)) rfl s21_258) ?_; refine wla rfl rfl (q_eqI rfl rfl rfl) ?_; refine wlb rfl rfl (q_move (v := (.bool ((decide (r217.2 = 0))))) rfl rfl) (fun hb261 => ?_) (fun hb261 => ?_)
  · replace H := (if_pos (of_decide_eq_true hb261)).symm.trans H; refine wla rfl rfl (q_move (v := (i64 r259.2)) rfl rfl) ?_; refine wla rfl rfl (q_eqI rfl rfl rfl) ?_; refine wla rfl rfl (q_move (v := p0) rfl s0_258) ?_; refine wla rfl rfl (q_len rfl T30.sl rfl (hp0.lift (Lift.ext e260 _))) ?_; refine wla rfl rfl (q_move (v := p1) rfl s1_258) ?_; refine wla rfl rfl (q_len rfl T30.sl rfl (hp1.lift (Lift.ext e260 _))) ?_; refine wla rfl rfl (q_eqI rfl rfl rfl) ?_; refine wla rfl rfl (q_eqB rfl (by kernel_rfl) rfl rfl) ?_; refine wla rfl rfl (q_pick_t (v := (.bool ((((decide (r259.2 = 0))) == ((decide ((a0xs.length : Int) = (a1ys.length : Int)))))))) rfl rfl rfl) ?_; refine wla rfl rfl (q_assign (v := (.bool ((((decide (r259.2 = 0))) == ((decide ((a0xs.length : Int) = (a1ys.length : Int)))))))) rfl rfl) ?_; refine wl_nil ?_; refine W_th ?_; refine W_ret ?_; obtain rfl := osi H; refine rt1 (.bool ((((decide (r259.2 = 0))) == ((decide ((a0xs.length : Int) = (a1ys.length : Int))))))) rfl rfl rfl s207_258 ?_; exact ⟨rfl, e260⟩
  replace H := (if_neg (of_decide_eq_false hb261)).symm.trans H; refine wlk rfl rfl ?_; refine wlk rfl rfl ?_; refine wlk rfl rfl ?_; refine wlk rfl rfl ?_; refine wlk rfl rfl ?_; refine wlk rfl rfl ?_; refine wlk rfl rfl ?_; refine wlk rfl rfl ?_; refine wla rfl rfl (q_pick_f (v := (.bool false)) rfl rfl rfl) ?_; refine wla rfl rfl (q_assign (v := (.bool false)) rfl rfl) ?_; refine wl_nil ?_; refine W_th ?_; refine W_ret ?_; obtain rfl := osi H; refine rt1 (.bool false) rfl rfl rfl s207_258 ?_; exact ⟨rfl, e260⟩
end Gk

/- What the field's functions come to, in plain Lean. No condition but lengths. -/
set_option linter.unusedSimpArgs false
namespace Gk
open Gf
theorem idx_nat {α : Type} (l : List α) (n : Nat) : idx l (n : Int) = l[n]? := by simp [idx]
theorem idx_lg (a : UInt8) : idx lgT (a.toNat : Int) = some (lg a : Int) := by rw [idx_nat, lgT_get]
theorem idx_pw (n : Nat) (h : n < 510) : idx pwT (n : Int) = some (pw n) := by rw [idx_nat, pwT_get n h]
theorem Mul_eq (a b : UInt8) : field_Mul true a b = some (mul a b) := by
  unfold field_Mul
  rw [if_neg (by simp)]
  by_cases ha : a = 0
  · rw [if_pos ha, ha, zero_mul]
  · by_cases hb : b = 0
    · rw [if_neg ha, if_pos hb, hb, mul_zero]
    · have h1 := lg_lt a
      have h2 := lg_lt b
      have e : wI ((lg a : Int) + (lg b : Int)) = ((lg a + lg b : Nat) : Int) := by rw [wI_of (by omega) (by omega)]; omega
      rw [if_neg ha, if_neg hb]
      simp only [grd, idx_lg, Option.bind_some, e, idx_pw _ (show lg a + lg b < 510 by omega), mul_pw ha hb, if_true]
theorem Inv_eq (a : UInt8) : field_Inv true a = some (if a = 0 then (0, 7) else (inv a, 0)) := by
  unfold field_Inv
  rw [if_neg (by simp)]
  by_cases ha : a = 0
  · rw [if_pos ha, if_pos ha]
  · have h1 := lg_lt a
    have e : wI (255 - (lg a : Int)) = ((255 - lg a : Nat) : Int) := by rw [wI_of (by omega) (by omega)]; omega
    rw [if_neg ha, if_neg ha]
    simp only [grd, idx_lg, Option.bind_some, e, idx_pw _ (show 255 - lg a < 510 by omega), if_true, inv, if_neg ha]
def powZ (a : UInt8) (n : Int) : UInt8 := if n = 0 then 1 else if a = 0 then 0 else pw (lg a * (n % 255).toNat)
theorem Pow_eq (a : UInt8) (n : Int) : field_Pow true a n = some (powZ a n) := by
  unfold field_Pow powZ
  by_cases hn : n = 0
  · simp [hn]
  · by_cases ha : a = 0
    · simp [hn, ha]
    · have h1 := lg_lt a
      have e1 : remI n 255 = some (n.tmod 255) := by simp [remI]
      have b1 : -255 < n.tmod 255 ∧ n.tmod 255 < 255 := ⟨by have := Int.lt_tmod_of_pos n (b := 255) (by decide); omega, Int.tmod_lt_of_pos n (by decide)⟩
      have e2 : wI (n.tmod 255 + 255) = n.tmod 255 + 255 := wI_of (by omega) (by omega)
      have e3 : (n.tmod 255 + 255).tmod 255 = ((n % 255).toNat : Int) := by
        rw [Int.tmod_eq_emod_of_nonneg (by omega)]
        have := Int.mul_tdiv_add_tmod n 255
        omega
      have e4 : remI (n.tmod 255 + 255) 255 = some ((n % 255).toNat : Int) := by simp [remI, e3]
      have hk : (n % 255).toNat < 255 := by omega
      generalize (n % 255).toNat = k at hk e4
      have hm : lg a * k < 65025 := Nat.mul_lt_mul'' h1 hk
      have e5 : wI ((lg a : Int) * (k : Int)) = ((lg a * k : Nat) : Int) := by rw [← Int.natCast_mul, wI_nat (by omega)]
      have e6 : remI ((lg a * k : Nat) : Int) 255 = some (((lg a * k) % 255 : Nat) : Int) := remI_nat _ 255 (by decide)
      rw [if_neg (by simp), if_neg hn, if_neg ha, if_neg hn, if_neg ha]
      simp only [e1, Option.bind_some, e2, e4, grd, if_true, idx_lg, e5, e6]
      rw [idx_pw _ (by omega)]
      simp [pw_mod]
end Gk

/- Rows of bytes, sums of rows, the document's inverses and powers, in plain Lean. No condition. -/
set_option linter.unusedSimpArgs false
set_option linter.unusedVariables false
namespace Gk
open Gf
theorem makeL_nat {α : Type} (n : Nat) (z : α) (h : n ≤ most) : makeL (n : Int) z = some (List.replicate n z) := by
  unfold makeL; rw [if_pos ⟨by omega, by omega⟩]; simp
theorem copyL_all {α : Type} (z : α) (a : List α) : copyL (List.replicate a.length z) 0 a = a := by
  unfold copyL; simp
def sumL (a : List UInt8) (c : UInt8) (b : List UInt8) : List UInt8 := a.mapIdx fun j x => x ^^^ mul c (b.getD j 0)
def sumTo (a : List UInt8) (c : UInt8) (b : List UInt8) (i : Nat) : List UInt8 := a.mapIdx fun j x => if j < i then x ^^^ mul c (b.getD j 0) else x
theorem sumL_len (a : List UInt8) (c : UInt8) (b : List UInt8) : (sumL a c b).length = a.length := by simp [sumL]
theorem sumTo_set (a : List UInt8) (c : UInt8) (b : List UInt8) (i : Nat) (x : UInt8) (h : a[i]? = some x) (y : UInt8) (hb : b[i]? = some y) : (sumTo a c b i).set i (x ^^^ mul c y) = sumTo a c b (i + 1) := by
  apply List.ext_getElem?
  intro j
  simp only [sumTo, List.getElem?_set, List.getElem?_mapIdx, List.length_mapIdx]
  have hi := (List.getElem?_eq_some_iff.1 h).1
  by_cases hj : i = j
  · subst hj
    simp [hi, List.getD, hb]
    rw [(List.getElem?_eq_some_iff.1 h).2]
  · rw [if_neg hj]
    have : j < i + 1 ↔ j < i := by omega
    simp [this]
theorem sumTo_get (a : List UInt8) (c : UInt8) (b : List UInt8) (i : Nat) (x : UInt8) (h : a[i]? = some x) : (sumTo a c b i)[i]? = some x := by
  simp [sumTo, List.getElem?_mapIdx, h]
theorem sumTo_end (a : List UInt8) (c : UInt8) (b : List UInt8) (i : Nat) (h : b.length ≤ i ∨ a.length ≤ i) : sumTo a c b i = sumL a c b := by
  apply List.ext_getElem?
  intro j
  simp only [sumTo, sumL, List.getElem?_mapIdx]
  by_cases hj : j < i
  · simp [hj]
  · rcases h with h | h
    · have : b.getD j 0 = 0 := by simp [List.getD, List.getElem?_eq_none (show b.length ≤ j by omega)]
      simp only [hj, this, mul_zero, xor_zero, if_false]
    · simp [List.getElem?_eq_none (show a.length ≤ j by omega)]
theorem minI (a b : Nat) : (if (b : Int) < (a : Int) then (b : Int) else (a : Int)) = ((min a b : Nat) : Int) := by split <;> omega
theorem wI_succ (i : Nat) (h : i < 9223372036854775807) : wI ((i : Int) + 1) = ((i + 1 : Nat) : Int) := by rw [wI_of (by omega) (by omega)]; omega
theorem most_lt : most < 9223372036854775807 := by decide
theorem Sum_eq (a : List UInt8) (c : UInt8) (b : List UInt8) (h : a.length ≤ most) : field_Sum true a c b = some (sumL a c b) := by
  unfold field_Sum
  rw [if_neg (by simp), makeL_nat _ _ h]
  simp only [Option.bind_some, minI, copyL_all]
  have hm := most_lt
  refine bind_of (x := sumL a c b) (iterC_count (fun i => (sumTo a c b i, (i : Int))) (min a.length b.length) (sumL a c b) ?_ ?_ ?_) rfl
  · refine Prod.ext ?_ rfl
    apply List.ext_getElem?
    intro j
    simp [sumTo, List.getElem?_mapIdx]
  · intro i hi
    have h1 : i < a.length := by omega
    have h2 : i < b.length := by omega
    have e1 : a[i]? = some a[i] := by simp [h1]
    have e2 : b[i]? = some b[i] := by simp [h2]
    rw [if_pos (by omega)]
    simp only [idx_nat, sumTo_get a c b i _ e1, e2, Option.bind_some, Mul_eq, wI_succ i (by omega), Int.toNat_natCast]
    rw [sumTo_set a c b i _ e1 _ e2]
  · rw [if_neg (by omega)]
    simp only [sumTo_end a c b _ (show b.length ≤ min a.length b.length ∨ a.length ≤ min a.length b.length by omega)]
theorem Scale_eq (c : UInt8) (b : List UInt8) (h : b.length ≤ most) : field_Scale true c b = some (b.map (mul c)) := by
  unfold field_Scale
  rw [if_neg (by simp), makeL_nat _ _ h]
  simp only [Option.bind_some]
  rw [Sum_eq _ _ _ (by simpa using h)]
  simp only [Option.bind_some, Option.some.injEq]
  apply List.ext_getElem?
  intro j
  simp only [sumL, List.getElem?_mapIdx, List.getElem?_map, List.getElem?_replicate]
  by_cases hj : j < b.length
  · simp [hj, zero_xor]
  · simp [hj, List.getElem?_eq_none (show b.length ≤ j by omega)]
theorem Add_eq (a b : UInt8) : field_Add a b = some (a ^^^ b) := rfl
theorem refInv_eq (a : UInt8) : ref02_Inv a = some (inv a) := by
  unfold ref02_Inv
  simp only [refMul_eq, Option.bind_some]
  have e : ∀ k : Nat, k < 256 → UInt8.ofInt (k : Int) = UInt8.ofNat k := by
    intro k hk
    have : (UInt8.ofNat k).toNat = k := by simp; omega
    rw [← this, ofInt_nat, this]
  by_cases ha : a = 0
  · refine bind_of (x := (Sum.inl () : Unit ⊕ UInt8)) (iterC_count (fun i => (1 + (i : Int))) 255 (Sum.inl ()) (by simp) ?_ ?_) ?_
    · intro i hi
      rw [if_pos (by omega)]
      rw [ha]
      simp only [zero_mul]
      rw [if_neg (by decide)]
      have : wI (1 + (i : Int) + 1) = 1 + ((i + 1 : Nat) : Int) := by rw [wI_of (by omega) (by omega)]; omega
      rw [this]
    · rw [if_neg (by omega)]
    · simp [ha, inv_zero]
  · have hn := inv_ne ha
    have hlt := (inv a).toNat_lt
    have hpos : 0 < (inv a).toNat := Nat.pos_of_ne_zero (fun e => hn (UInt8.toNat_inj.1 (by simpa using e)))
    refine bind_of (x := (Sum.inr (inv a) : Unit ⊕ UInt8)) (iterC_count (fun i => (1 + (i : Int))) ((inv a).toNat - 1) (Sum.inr (inv a)) (by simp) ?_ ?_) rfl
    · intro i hi
      rw [if_pos (by omega)]
      have e1 : (1 + (i : Int)) = ((i + 1 : Nat) : Int) := by omega
      have hne : mul a (UInt8.ofInt (1 + (i : Int))) ≠ 1 := by
        intro h
        have h2 := inv_uniq h
        rw [e1, e _ (by omega)] at h2
        have h3 := congrArg UInt8.toNat h2
        simp at h3
        omega
      rw [if_neg hne]
      have : wI (1 + (i : Int) + 1) = 1 + ((i + 1 : Nat) : Int) := by rw [wI_of (by omega) (by omega)]; omega
      rw [this]
    · rw [if_pos (by omega)]
      have e1 : (1 + (((inv a).toNat - 1 : Nat) : Int)) = ((inv a).toNat : Int) := by omega
      rw [e1, ofInt_nat, mul_inv ha, if_pos rfl]
theorem refPow_loop (a : UInt8) (n : Int) (m : Nat) (h : remI n 255 = some (m : Int)) (hm : m < 255) :
    iterC (fun s9 : UInt8 × Int => ((remI n 255).bind fun c11 => (if s9.2 < c11 then ((ref02_Mul s9.1 a).bind fun r13 => some (.inl (r13, (wI (s9.2 + 1))))) else some (.inr s9.1)))) ((1 : UInt8), 0) = some (pow a m) := by
  simp only [h, Option.bind_some, refMul_eq]
  refine iterC_count (fun i => (pow a i, (i : Int))) m _ rfl ?_ ?_
  · intro i hi
    rw [if_pos (by omega), wI_succ i (by omega)]
    rfl
  · rw [if_neg (by omega)]
theorem pow_inv {a : UInt8} (ha : a ≠ 0) (m : Nat) (hm : m < 255) : pow (inv a) m = pw (lg a * ((255 - m) % 255)) := by
  have h1 := lg_lt a
  have e : inv a = pw (255 - lg a) := by simp [inv, ha]
  rw [e, pow_pw]
  have hz : mul (pw (lg a * m)) (pw ((255 - lg a) * m)) = 1 := by
    rw [← pw_add, ← Nat.add_mul, show lg a + (255 - lg a) = 255 by omega, ← pw_mod, Nat.mul_mod_right]; rfl
  have hz2 : mul (pw (lg a * m)) (pw (lg a * ((255 - m) % 255))) = 1 := by
    rw [← pw_add, ← Nat.mul_add, ← pw_mod, Nat.mul_mod]
    have : (m + (255 - m) % 255) % 255 = 0 := by omega
    rw [this]; simp [pw]
  exact mul_cancel (pw_ne _) (hz.trans hz2.symm)
theorem refPow_eq (a : UInt8) (n : Int) : ref02_Pow a n = some (powZ a n) := by
  unfold ref02_Pow powZ
  by_cases hn : n = 0
  · simp [hn]
  · by_cases ha : a = 0
    · simp [hn, ha]
    · rw [if_neg hn, if_neg ha, if_neg hn, if_neg ha]
      have hq := Int.mul_tdiv_add_tmod n 255
      have b1 : -255 < n.tmod 255 := by have := Int.lt_tmod_of_pos n (b := 255) (by decide); omega
      have b2 : n.tmod 255 < 255 := Int.tmod_lt_of_pos n (by decide)
      by_cases h0 : n < 0
      · have hs : n.tmod 255 ≤ 0 := by
          have h := Int.neg_tmod (-n) 255
          rw [Int.neg_neg] at h
          have := Int.tmod_nonneg 255 (show 0 ≤ -n by omega)
          omega
        obtain ⟨m, hm⟩ : ∃ m : Nat, n.tmod 255 = -(m : Int) := ⟨(-(n.tmod 255)).toNat, by omega⟩
        have e2 : wI (0 - n.tmod 255) = (m : Int) := by rw [wI_of (by omega) (by omega)]; omega
        have e3 : remI n 255 = some (n.tmod 255) := by simp [remI]
        rw [if_pos h0]
        simp only [refInv_eq, Option.bind_some, e3, e2]
        have e4 := remI_nat m 255 (by decide)
        rw [Nat.mod_eq_of_lt (by omega)] at e4
        rw [refPow_loop (inv a) m m e4 (by omega)]
        simp only [Option.bind_some, Option.some.injEq]
        rw [pow_inv ha m (by omega)]
        congr 2
        omega
      · obtain ⟨k, rfl⟩ := Int.eq_ofNat_of_zero_le (show 0 ≤ n by omega)
        rw [if_neg h0]
        simp only [Option.bind_some]
        rw [refPow_loop a _ (k % 255) (remI_nat k 255 (by decide)) (by omega)]
        simp only [Option.bind_some, Option.some.injEq]
        have : pow a (k % 255) = pw (lg a * (k % 255)) := by rw [← pow_pw, pw_lg ha]
        rw [this]
        congr 2
theorem appL_nil {α : Type} (a : List α) (h : a.length ≤ most) : appL [] a = some a := by
  unfold appL; rw [if_pos (by simpa using h)]; simp
end Gk

/- Polynomials over GF(256), as lists of numbers, the lowest first. Plain. No condition. -/
set_option linter.unusedSimpArgs false
namespace Gf
def co (p : List UInt8) (i : Nat) : UInt8 := p.getD i 0
theorem co_nil (i : Nat) : co [] i = 0 := by simp [co]
theorem co_zero (c : UInt8) (p : List UInt8) : co (c :: p) 0 = c := rfl
theorem co_succ (c : UInt8) (p : List UInt8) (i : Nat) : co (c :: p) (i + 1) = co p i := by simp [co]
theorem co_ge {p : List UInt8} {i : Nat} (h : p.length ≤ i) : co p i = 0 := by simp [co, List.getD_eq_getElem?_getD, List.getElem?_eq_none h]
theorem co_lt {p : List UInt8} {i : Nat} (h : i < p.length) : co p i = p[i] := by simp [co, List.getD_eq_getElem?_getD, h]
theorem co_get {p : List UInt8} {i : Nat} (h : i < p.length) : p[i]? = some (co p i) := by rw [co_lt h]; simp [h]
theorem co_rep (n i : Nat) : co (List.replicate n 0) i = 0 := by
  simp only [co, List.getD_eq_getElem?_getD, List.getElem?_replicate]; split <;> rfl
theorem co_map (c : UInt8) (p : List UInt8) (i : Nat) : co (p.map (mul c)) i = mul c (co p i) := by
  simp only [co, List.getD_eq_getElem?_getD, List.getElem?_map]
  cases p[i]? <;> simp [mul_zero]
theorem co_set {p : List UInt8} {j : Nat} (h : j < p.length) (c : UInt8) (i : Nat) : co (p.set j c) i = if i = j then c else co p i := by
  simp only [co, List.getD_eq_getElem?_getD, List.getElem?_set]
  by_cases hij : j = i
  · subst hij; simp [h]
  · simp [hij, Ne.symm hij]
def Sim (p q : List UInt8) : Prop := ∀ i, co p i = co q i
theorem Sim.refl (p : List UInt8) : Sim p p := fun _ => rfl
theorem Sim.trans {p q r : List UInt8} (h : Sim p q) (k : Sim q r) : Sim p r := fun i => (h i).trans (k i)
def trim : List UInt8 → List UInt8
  | [] => []
  | c :: p => if trim p = [] ∧ c = 0 then [] else c :: trim p
theorem co_trim : ∀ (p : List UInt8) (i : Nat), co (trim p) i = co p i
  | [], i => rfl
  | c :: p, i => by
    unfold trim
    split
    · rename_i h
      rw [co_nil]
      cases i with
      | zero => rw [co_zero, h.2]
      | succ i => rw [co_succ, ← co_trim p i, h.1, co_nil]
    · cases i with
      | zero => rfl
      | succ i => rw [co_succ, co_succ, co_trim p i]
theorem trim_sim (p : List UInt8) : Sim (trim p) p := co_trim p
theorem trim_le : ∀ (p : List UInt8), (trim p).length ≤ p.length
  | [] => Nat.le_refl _
  | c :: p => by
    unfold trim
    split
    · exact Nat.zero_le _
    · have := trim_le p; simp only [List.length_cons]; omega
theorem trim_last : ∀ (p : List UInt8), trim p ≠ [] → co p ((trim p).length - 1) ≠ 0
  | [], h => absurd rfl h
  | c :: p, h => by
    unfold trim at h ⊢
    split
    · rename_i h'; rw [if_pos h'] at h; exact absurd rfl h
    · rename_i h'
      simp only [List.length_cons, Nat.add_sub_cancel]
      cases ht : trim p with
      | nil =>
        rw [List.length_nil, co_zero]
        exact fun e => h' ⟨ht, e⟩
      | cons d q =>
        have := trim_last p (by rw [ht]; simp)
        rw [ht] at this
        simp only [List.length_cons, Nat.add_sub_cancel] at this ⊢
        rwa [co_succ]
theorem trim_bound (p : List UInt8) (n : Nat) : (trim p).length ≤ n ↔ ∀ i, n ≤ i → co p i = 0 := by
  constructor
  · intro h i hi
    rw [← co_trim]; exact co_ge (Nat.le_trans h hi)
  · intro h
    refine Nat.le_of_not_lt fun hlt => ?_
    have hne : trim p ≠ [] := fun e => by rw [e] at hlt; simp at hlt
    exact trim_last p hne (h _ (by omega))
def evp : List UInt8 → UInt8 → UInt8
  | [], _ => 0
  | c :: p, x => c ^^^ mul (evp p x) x
theorem ev_zero : ∀ (p : List UInt8) (x : UInt8), (∀ i, co p i = 0) → evp p x = 0
  | [], _, _ => rfl
  | c :: p, x, h => by
    have h0 : c = 0 := by rw [← co_zero c p]; exact h 0
    unfold evp
    rw [h0, ev_zero p x (fun i => by rw [← co_succ c p i]; exact h (i + 1)), zero_mul, zero_xor]
def pplus : List UInt8 → List UInt8 → List UInt8
  | [], q => q
  | p, [] => p
  | a :: p, b :: q => (a ^^^ b) :: pplus p q
theorem co_pplus : ∀ (p q : List UInt8) (i : Nat), co (pplus p q) i = co p i ^^^ co q i
  | [], q, i => by rw [co_nil, zero_xor]; rfl
  | a :: p, [], i => by rw [co_nil, xor_zero]; rfl
  | a :: p, b :: q, 0 => rfl
  | a :: p, b :: q, i + 1 => by
    show co ((a ^^^ b) :: pplus p q) (i + 1) = _
    rw [co_succ, co_succ, co_succ]; exact co_pplus p q i
theorem ev_pplus : ∀ (p q : List UInt8) (x : UInt8), evp (pplus p q) x = evp p x ^^^ evp q x
  | [], q, x => by show evp q x = 0 ^^^ evp q x; rw [zero_xor]
  | a :: p, [], x => by show evp (a :: p) x = evp (a :: p) x ^^^ 0; rw [xor_zero]
  | a :: p, b :: q, x => by
    show (a ^^^ b) ^^^ mul (evp (pplus p q) x) x = (a ^^^ mul (evp p x) x) ^^^ (b ^^^ mul (evp q x) x)
    rw [ev_pplus p q x, add_mul, xor_xor_swap]
theorem ev_map (c : UInt8) : ∀ (p : List UInt8) (x : UInt8), evp (p.map (mul c)) x = mul c (evp p x)
  | [], x => (mul_zero c).symm
  | a :: p, x => by
    show mul c a ^^^ mul (evp (p.map (mul c)) x) x = mul c (a ^^^ mul (evp p x) x)
    rw [ev_map c p x, mul_add, mul_assoc]
def pmul : List UInt8 → List UInt8 → List UInt8
  | [], _ => []
  | c :: p, q => pplus (q.map (mul c)) (0 :: pmul p q)
theorem co_pmul_zero (c : UInt8) (p q : List UInt8) : co (pmul (c :: p) q) 0 = mul c (co q 0) := by
  unfold pmul; rw [co_pplus, co_map, co_zero, xor_zero]
theorem co_pmul_succ (c : UInt8) (p q : List UInt8) (i : Nat) : co (pmul (c :: p) q) (i + 1) = mul c (co q (i + 1)) ^^^ co (pmul p q) i := by
  show co (pplus (q.map (mul c)) (0 :: pmul p q)) (i + 1) = _
  rw [co_pplus, co_map, co_succ]
theorem ev_pmul : ∀ (p q : List UInt8) (x : UInt8), evp (pmul p q) x = mul (evp p x) (evp q x)
  | [], q, x => (zero_mul _).symm
  | c :: p, q, x => by
    show evp (pplus (q.map (mul c)) (0 :: pmul p q)) x = mul (c ^^^ mul (evp p x) x) (evp q x)
    rw [ev_pplus, ev_map, add_mul]
    show mul c (evp q x) ^^^ (0 ^^^ mul (evp (pmul p q) x) x) = _
    rw [zero_xor, ev_pmul p q x, mul_assoc, mul_assoc, mul_comm (evp q x) x]
theorem pmul_simL : ∀ (p p' q : List UInt8), Sim p p' → Sim (pmul p q) (pmul p' q)
  | [], [], q, _ => Sim.refl _
  | [], d :: p', q, h => by
    have h0 : d = 0 := by have := h 0; rw [co_nil, co_zero] at this; exact this.symm
    have h1 := pmul_simL [] p' q (fun i => by have := h (i + 1); rwa [co_nil, co_succ] at this)
    intro i
    cases i with
    | zero => rw [co_pmul_zero, h0, zero_mul]; rfl
    | succ i => rw [co_pmul_succ, h0, zero_mul, zero_xor, ← h1 i]; rfl
  | c :: p, [], q, h => by
    have h0 : c = 0 := by have := h 0; rwa [co_nil, co_zero] at this
    have h1 := pmul_simL p [] q (fun i => by have := h (i + 1); rwa [co_nil, co_succ] at this)
    intro i
    cases i with
    | zero => rw [co_pmul_zero, h0, zero_mul]; rfl
    | succ i => rw [co_pmul_succ, h0, zero_mul, zero_xor, h1 i]; rfl
  | c :: p, d :: p', q, h => by
    have h0 : c = d := by have := h 0; rwa [co_zero, co_zero] at this
    have h1 := pmul_simL p p' q (fun i => by have := h (i + 1); rwa [co_succ, co_succ] at this)
    intro i
    cases i with
    | zero => rw [co_pmul_zero, co_pmul_zero, h0]
    | succ i => rw [co_pmul_succ, co_pmul_succ, h0, h1 i]
theorem pmul_simR : ∀ (p q q' : List UInt8), Sim q q' → Sim (pmul p q) (pmul p q')
  | [], q, q', _ => Sim.refl _
  | c :: p, q, q', h => by
    have h1 := pmul_simR p q q' h
    intro i
    cases i with
    | zero => rw [co_pmul_zero, co_pmul_zero, h 0]
    | succ i => rw [co_pmul_succ, co_pmul_succ, h (i + 1), h1 i]
theorem pmul_sim {p p' q q' : List UInt8} (h : Sim p p') (k : Sim q q') : Sim (pmul p q) (pmul p' q') := (pmul_simL p p' q h).trans (pmul_simR p' q q' k)
theorem co_pmul_top : ∀ (p q : List UInt8) (m : Nat), p ≠ [] → (∀ i, m < i → co q i = 0) → co (pmul p q) (p.length - 1 + m) = mul (co p (p.length - 1)) (co q m)
  | [], q, m, h, _ => absurd rfl h
  | [c], q, m, _, hq => by
    simp only [List.length_cons, List.length_nil, Nat.zero_add, Nat.sub_self, co_zero]
    cases m with
    | zero => rw [co_pmul_zero]
    | succ m => rw [co_pmul_succ]; simp [pmul, co_nil, xor_zero]
  | c :: d :: p, q, m, _, hq => by
    have h1 := co_pmul_top (d :: p) q m (by simp) hq
    simp only [List.length_cons, Nat.add_sub_cancel] at h1 ⊢
    rw [show p.length + 1 + m = (p.length + m) + 1 by omega, co_pmul_succ, hq (p.length + m + 1) (by omega), mul_zero, zero_xor, co_succ]
    exact h1
theorem pmul_trim_len {p q : List UInt8} (hp : trim p = p) (hq : trim q = q) (hp0 : p ≠ []) (hq0 : q ≠ []) : (trim (pmul p q)).length = p.length + q.length - 1 := by
  have lp := List.length_pos_iff.2 hp0
  have lq := List.length_pos_iff.2 hq0
  have t1 : co p (p.length - 1) ≠ 0 := by have := trim_last p (by rw [hp]; exact hp0); rwa [hp] at this
  have t2 : co q (q.length - 1) ≠ 0 := by have := trim_last q (by rw [hq]; exact hq0); rwa [hq] at this
  have top := co_pmul_top p q (q.length - 1) hp0 (fun i hi => co_ge (by omega))
  have hle : (trim (pmul p q)).length ≤ p.length + q.length - 1 := by
    refine (trim_bound _ _).2 fun i hi => ?_
    exact go p q i (by omega)
  refine Nat.le_antisymm hle (Nat.le_of_not_lt fun hlt => ?_)
  have := (trim_bound (pmul p q) (p.length + q.length - 2)).1 (by omega) (p.length - 1 + (q.length - 1)) (by omega)
  rw [top] at this
  exact mul_ne t1 t2 this
where
  go : ∀ (p q : List UInt8) (i : Nat), p.length + q.length ≤ i + 1 → co (pmul p q) i = 0
  | [], q, i, _ => co_nil i
  | c :: p, q, i, h => by
    simp only [List.length_cons] at h
    cases i with
    | zero => rw [co_pmul_zero, co_ge (by omega), mul_zero]
    | succ i => rw [co_pmul_succ, co_ge (by omega), mul_zero, zero_xor]; exact go p q i (by omega)
theorem co_pmul_ge {p q : List UInt8} {i : Nat} (h : p.length + q.length ≤ i + 1) : co (pmul p q) i = 0 := pmul_trim_len.go p q i h
end Gf

/- Interpolation over GF(256): roots, Lagrange's and Newton's way. Plain. No condition. -/
set_option linter.unusedSimpArgs false
set_option linter.unusedVariables false
namespace Gf
def dg (p : List UInt8) : Nat := (trim p).length
theorem dg_le {p : List UInt8} {n : Nat} : dg p ≤ n ↔ ∀ i, n ≤ i → co p i = 0 := trim_bound p n
theorem dg_len (p : List UInt8) : dg p ≤ p.length := trim_le p
theorem dg_pplus {p q : List UInt8} {n : Nat} (hp : dg p ≤ n) (hq : dg q ≤ n) : dg (pplus p q) ≤ n :=
  dg_le.2 fun i hi => by rw [co_pplus, dg_le.1 hp i hi, dg_le.1 hq i hi, xor_zero]
theorem dg_map {p : List UInt8} {n : Nat} (c : UInt8) (hp : dg p ≤ n) : dg (p.map (mul c)) ≤ n :=
  dg_le.2 fun i hi => by rw [co_map, dg_le.1 hp i hi, mul_zero]
theorem dg_pmul {p q : List UInt8} {a b : Nat} (hp : dg p ≤ a) (hq : dg q ≤ b) : dg (pmul p q) ≤ a + b - 1 :=
  dg_le.2 fun i hi => by
    rw [← pmul_sim (trim_sim p) (trim_sim q) i]
    exact co_pmul_ge (by unfold dg at hp hq; omega)
theorem dg_lin (a : UInt8) : dg [a, 1] ≤ 2 := dg_len _
theorem ev_lin (a x : UInt8) : evp [a, 1] x = x ^^^ a := by
  show a ^^^ mul (1 ^^^ mul 0 x) x = x ^^^ a
  rw [zero_mul, xor_zero, one_mul, xor_comm]
def syn : List UInt8 → UInt8 → List UInt8
  | [], _ => []
  | _ :: p, a => evp p a :: syn p a
theorem co_syn : ∀ (p : List UInt8) (a : UInt8) (i : Nat), co (syn p a) i = evp (p.drop (i + 1)) a
  | [], a, i => by simp [syn, co_nil, evp]
  | c :: p, a, 0 => by simp [syn, co_zero]
  | c :: p, a, i + 1 => by
    show co (evp p a :: syn p a) (i + 1) = _
    rw [co_succ, co_syn p a i]; rfl
theorem ev_drop : ∀ (p : List UInt8) (a : UInt8) (i : Nat), evp (p.drop i) a = co p i ^^^ mul (evp (p.drop (i + 1)) a) a
  | [], a, i => by simp [co_nil, evp, zero_mul]
  | c :: p, a, 0 => by simp [co_zero, evp]
  | c :: p, a, i + 1 => by rw [List.drop_succ_cons, List.drop_succ_cons, co_succ]; exact ev_drop p a i
theorem ev_syn : ∀ (p : List UInt8) (a x : UInt8), evp p x = mul (x ^^^ a) (evp (syn p a) x) ^^^ evp p a
  | [], a, x => by simp [syn, evp, mul_zero]
  | c :: p, a, x => by
    show c ^^^ mul (evp p x) x = mul (x ^^^ a) (evp p a ^^^ mul (evp (syn p a) x) x) ^^^ (c ^^^ mul (evp p a) a)
    rw [ev_syn p a x, mul_add, add_mul, add_mul x a (evp p a), mul_assoc, mul_comm x (evp p a), mul_comm a (evp p a)]
    generalize mul (x ^^^ a) (mul (evp (syn p a) x) x) = A
    generalize mul (evp p a) x = B
    generalize mul (evp p a) a = C
    simp only [xor_comm, xor_left_comm, xor_assoc]
    rw [xor_self, xor_zero]
theorem roots : ∀ (xs : List UInt8), xs.Nodup → ∀ p : List UInt8, dg p ≤ xs.length → (∀ a ∈ xs, evp p a = 0) → ∀ i, co p i = 0
  | [], _, p, hd, _, i => dg_le.1 hd i (Nat.zero_le _)
  | a :: xs, hn, p, hd, hz, i => by
    rw [List.nodup_cons] at hn
    have ha := hz a (by simp)
    have hs : ∀ i, co (syn p a) i = 0 := by
      refine roots xs hn.2 (syn p a) (dg_le.2 fun i hi => ?_) (fun b hb => ?_)
      · rw [co_syn]
        refine ev_zero _ a fun j => ?_
        have : co (p.drop (i + 1)) j = co p (i + 1 + j) := by simp [co, List.getD_eq_getElem?_getD]
        rw [this]
        exact dg_le.1 hd _ (by simp only [List.length_cons]; omega)
      · have h1 := ev_syn p a b
        rw [hz b (by simp [hb]), ha, xor_zero] at h1
        rcases mul_eq_zero h1.symm with h | h
        · exact absurd (xor_eq_zero h) (fun e => hn.1 (e ▸ hb))
        · exact h
    have h2 := ev_drop p a i
    rw [← co_syn, hs i, zero_mul, xor_zero] at h2
    rw [← h2]
    cases i with
    | zero => rw [List.drop_zero]; exact ha
    | succ i => rw [← co_syn]; exact hs i
def pe (xs : List UInt8) (i : Nat) (x : UInt8) : Nat → UInt8
  | 0 => 1
  | n + 1 => if n = i then pe xs i x n else mul (pe xs i x n) (x ^^^ co xs n)
def pep (xs : List UInt8) (i : Nat) : Nat → List UInt8
  | 0 => [1]
  | n + 1 => if n = i then pep xs i n else pmul (pep xs i n) [co xs n, 1]
theorem ev_pep (xs : List UInt8) (i : Nat) (x : UInt8) : ∀ n, evp (pep xs i n) x = pe xs i x n
  | 0 => by show 1 ^^^ mul 0 x = 1; rw [zero_mul, xor_zero]
  | n + 1 => by
    unfold pep pe
    split
    · exact ev_pep xs i x n
    · rw [ev_pmul, ev_pep xs i x n, ev_lin]
theorem dg_pep (xs : List UInt8) (i : Nat) : ∀ n, dg (pep xs i n) ≤ n + 1 ∧ (i < n → dg (pep xs i n) ≤ n)
  | 0 => ⟨dg_len _, fun h => by omega⟩
  | n + 1 => by
    obtain ⟨h1, h2⟩ := dg_pep xs i n
    unfold pep
    split
    · rename_i h; exact ⟨by omega, fun _ => h1⟩
    · rename_i h
      refine ⟨?_, fun hi => ?_⟩
      · have := dg_pmul h1 (dg_lin (co xs n)); omega
      · have := dg_pmul (h2 (by omega)) (dg_lin (co xs n)); omega
theorem pe_zero (xs : List UInt8) (i j : Nat) (hij : j ≠ i) : ∀ n, j < n → pe xs i (co xs j) n = 0
  | n + 1, h => by
    unfold pe
    by_cases hj : j = n
    · subst hj; rw [if_neg hij, xor_self, mul_zero]
    · have := pe_zero xs i j hij n (by omega)
      split
      · exact this
      · rw [this, zero_mul]
theorem co_inj {xs : List UInt8} (hn : xs.Nodup) {i j : Nat} (hi : i < xs.length) (hj : j < xs.length) (h : co xs i = co xs j) : i = j := by
  rw [co_lt hi, co_lt hj] at h
  rcases Nat.lt_trichotomy i j with h1 | h1 | h1
  · exact absurd h (List.pairwise_iff_getElem.1 hn i j hi hj h1)
  · exact h1
  · exact absurd h.symm (List.pairwise_iff_getElem.1 hn j i hj hi h1)
theorem pe_ne {xs : List UInt8} (hn : xs.Nodup) {i : Nat} (hi : i < xs.length) : ∀ n, n ≤ xs.length → pe xs i (co xs i) n ≠ 0
  | 0, _ => by show (1 : UInt8) ≠ 0; decide
  | n + 1, h => by
    unfold pe
    have := pe_ne hn hi n (by omega)
    split
    · exact this
    · rename_i hne
      exact mul_ne this (fun e => hne (co_inj hn (by omega) hi (xor_eq_zero e).symm))
def sm (f : Nat → UInt8) : Nat → UInt8
  | 0 => 0
  | n + 1 => sm f n ^^^ f n
theorem sm_one (f : Nat → UInt8) (j : Nat) : ∀ n, (∀ i, i < n → i ≠ j → f i = 0) → sm f n = if j < n then f j else 0
  | 0, _ => rfl
  | n + 1, h => by
    unfold sm
    rw [sm_one f j n (fun i hi => h i (by omega))]
    by_cases hj : j < n
    · rw [if_pos hj, if_pos (by omega), h n (by omega) (by omega), xor_zero]
    · rw [if_neg hj, zero_xor]
      by_cases hn : n = j
      · subst hn; rw [if_pos (by omega)]
      · rw [if_neg (by omega)]; exact h n (by omega) hn
theorem sm_congr {f g : Nat → UInt8} : ∀ n, (∀ i, i < n → f i = g i) → sm f n = sm g n
  | 0, _ => rfl
  | n + 1, h => by unfold sm; rw [sm_congr n (fun i hi => h i (by omega)), h n (by omega)]
def lag (xs : List UInt8) (f : Nat → UInt8) : Nat → List UInt8
  | 0 => []
  | m + 1 => pplus (lag xs f m) ((pep xs m xs.length).map (mul (f m)))
theorem ev_lag (xs : List UInt8) (f : Nat → UInt8) (x : UInt8) : ∀ m, evp (lag xs f m) x = sm (fun i => mul (f i) (pe xs i x xs.length)) m
  | 0 => rfl
  | m + 1 => by
    unfold lag sm
    rw [ev_pplus, ev_lag xs f x m, ev_map, ev_pep]
theorem dg_lag (xs : List UInt8) (f : Nat → UInt8) : ∀ m, m ≤ xs.length → dg (lag xs f m) ≤ xs.length
  | 0, _ => Nat.zero_le _
  | m + 1, h => dg_pplus (dg_lag xs f m (by omega)) (dg_map _ ((dg_pep xs m xs.length).2 (by omega)))
theorem mem_co {xs : List UInt8} {a : UInt8} (h : a ∈ xs) : ∃ j, j < xs.length ∧ a = co xs j := by
  obtain ⟨j, hj, rfl⟩ := List.getElem_of_mem h
  exact ⟨j, hj, (co_lt hj).symm⟩
theorem co_mem {xs : List UInt8} {j : Nat} (h : j < xs.length) : co xs j ∈ xs := by rw [co_lt h]; exact List.getElem_mem h
end Gf

/- Small laws of lists, rows and numbers. No condition but lengths. -/
set_option linter.unusedSimpArgs false
set_option linter.unusedVariables false
namespace Gk
open Gf
theorem idx_co {p : List UInt8} {i : Nat} (h : i < p.length) : idx p (i : Int) = some (co p i) := by rw [idx_nat, co_get h]
theorem subL_nat {α : Type} (l : List α) (a b : Nat) (h1 : a ≤ b) (h2 : b ≤ l.length) : subL l (a : Int) (b : Int) = some ((l.take b).drop a) := by
  unfold subL; rw [if_pos ⟨by omega, by omega, by omega⟩]; simp
theorem wI_add (a b : Nat) (h : a + b < 9223372036854775808) : wI ((a : Int) + (b : Int)) = ((a + b : Nat) : Int) := by rw [wI_of (by omega) (by omega)]; omega
theorem h257 : (257 : Nat) ≤ most := by decide
theorem most_lt' : most < 9223372036854775000 := by decide
theorem eq_of_co {p q : List UInt8} (hl : p.length = q.length) (h : ∀ i, co p i = co q i) : p = q := by
  apply List.ext_getElem hl
  intro i h1 h2
  have := h i
  rwa [co_lt h1, co_lt h2] at this
theorem co_sumL (a : List UInt8) (c : UInt8) (b : List UInt8) (i : Nat) : co (sumL a c b) i = if i < a.length then co a i ^^^ mul c (co b i) else 0 := by
  simp only [co, sumL, List.getD_eq_getElem?_getD, List.getElem?_mapIdx]
  by_cases h : i < a.length
  · simp [h]
  · simp [h, List.getElem?_eq_none (show a.length ≤ i by omega)]
theorem co_drop (p : List UInt8) (n i : Nat) : co (p.drop n) i = co p (n + i) := by
  simp only [co, List.getD_eq_getElem?_getD, List.getElem?_drop]
theorem co_tab (n : Nat) (f : Nat → UInt8) (i : Nat) : co ((List.range n).map f) i = if i < n then f i else 0 := by
  simp only [co, List.getD_eq_getElem?_getD, List.getElem?_map]
  by_cases h : i < n
  · simp [h]
  · rw [List.getElem?_eq_none (by simpa using h), if_neg h]; rfl
theorem getD_get {l : List (List UInt8)} {k : Nat} (h : k < l.length) : l[k]? = some (l.getD k []) := by simp [List.getD_eq_getElem?_getD, h]
theorem idx_getD {l : List (List UInt8)} {k : Nat} (h : k < l.length) : idx l (k : Int) = some (l.getD k []) := by rw [idx_nat, getD_get h]
theorem getD_set {l : List (List UInt8)} {j : Nat} (h : j < l.length) (r : List UInt8) (i : Nat) : (l.set j r).getD i [] = if i = j then r else l.getD i [] := by
  simp only [List.getD_eq_getElem?_getD, List.getElem?_set]
  by_cases hij : j = i
  · subst hij; simp [h]
  · simp [hij, Ne.symm hij]
theorem getD_rep {n i : Nat} (r : List UInt8) (h : i < n) : (List.replicate n r).getD i [] = r := by simp [List.getD_eq_getElem?_getD, h]
theorem getD_tab (n : Nat) (f : Nat → List UInt8) (i : Nat) (h : i < n) : ((List.range n).map f).getD i [] = f i := by simp [List.getD_eq_getElem?_getD, h]
theorem rows_ext {a b : List (List UInt8)} (hl : a.length = b.length) (h : ∀ i, i < a.length → a.getD i [] = b.getD i []) : a = b := by
  apply List.ext_getElem hl
  intro i h1 h2
  have := h i h1
  simpa [List.getD_eq_getElem?_getD, h1, h2] using this
theorem idx_0 {l : List (List UInt8)} (h : 0 < l.length) : idx l 0 = some (l.getD 0 []) := by
  have := idx_getD (l := l) (k := 0) h
  rwa [show ((0 : Nat) : Int) = 0 from rfl] at this
theorem rows_snoc {l : List (List UInt8)} {i : Nat} (h : i < l.length) : l.take (i + 1) = l.take i ++ [l.getD i []] := by
  rw [List.take_add_one, getD_get h]; rfl
theorem appL_ok {α : Type} (a b : List α) (h : a.length + b.length ≤ most) (hb : b.length = 1) : appL a b = some (a ++ b) := by
  unfold appL; rw [if_pos (by omega)]
def updB (row : List UInt8) (f : Nat → UInt8) (k : Nat) : List UInt8 := (List.range row.length).map fun j => if j < k then f j else co row j
theorem updB_len (row : List UInt8) (f : Nat → UInt8) (k : Nat) : (updB row f k).length = row.length := by simp [updB]
theorem co_updB (row : List UInt8) (f : Nat → UInt8) (k i : Nat) (h : i < row.length) : co (updB row f k) i = if i < k then f i else co row i := by
  unfold updB; rw [co_tab, if_pos h]
theorem updB_zero (row : List UInt8) (f : Nat → UInt8) : updB row f 0 = row := eq_of_co (updB_len _ _ _) fun i => by
  by_cases h : i < row.length
  · rw [co_updB _ _ _ _ h, if_neg (by omega)]
  · rw [co_ge (by rw [updB_len]; omega), co_ge (by omega)]
theorem updB_succ (row : List UInt8) (f : Nat → UInt8) (k : Nat) (h : k < row.length) : (updB row f k).set k (f k) = updB row f (k + 1) := eq_of_co (by simp [updB_len]) fun i => by
  rw [co_set (by rw [updB_len]; omega)]
  by_cases hi : i < row.length
  · rw [co_updB _ _ _ _ hi, co_updB _ _ _ _ hi]
    by_cases hik : i = k
    · rw [if_pos hik, if_pos (by omega), hik]
    · rw [if_neg hik]
      by_cases h2 : i < k
      · rw [if_pos h2, if_pos (by omega)]
      · rw [if_neg h2, if_neg (by omega)]
  · rw [if_neg (by omega), co_ge (by rw [updB_len]; omega), co_ge (by rw [updB_len]; omega)]
theorem updB_end (row : List UInt8) (f : Nat → UInt8) : updB row f row.length = (List.range row.length).map f := by
  unfold updB; exact List.map_congr_left fun j hj => by rw [if_pos (List.mem_range.1 hj)]
theorem idx_updB (row : List UInt8) (f : Nat → UInt8) (k i : Nat) (h : i < row.length) : idx (updB row f k) (i : Int) = some (if i < k then f i else co row i) := by
  rw [idx_co (by rw [updB_len]; exact h), co_updB _ _ _ _ h]
def updR (l : List (List UInt8)) (F : Nat → List UInt8) (i : Nat) : List (List UInt8) := (List.range l.length).map fun j => if j < i then F j else l.getD j []
theorem updR_len (l : List (List UInt8)) (F : Nat → List UInt8) (i : Nat) : (updR l F i).length = l.length := by simp [updR]
theorem getD_updR (l : List (List UInt8)) (F : Nat → List UInt8) (i j : Nat) (h : j < l.length) : (updR l F i).getD j [] = if j < i then F j else l.getD j [] := by
  unfold updR; rw [getD_tab _ _ _ h]
theorem updR_zero (l : List (List UInt8)) (F : Nat → List UInt8) : updR l F 0 = l := rows_ext (updR_len _ _ _) fun i h => by
  rw [updR_len] at h
  rw [getD_updR _ _ _ _ h, if_neg (by omega)]
theorem updR_succ (l : List (List UInt8)) (F : Nat → List UInt8) (k : Nat) (h : k < l.length) : (updR l F k).set k (F k) = updR l F (k + 1) := rows_ext (by simp [updR_len]) fun i hi => by
  rw [List.length_set, updR_len] at hi
  rw [getD_set (by rw [updR_len]; omega), getD_updR _ _ _ _ hi, getD_updR _ _ _ _ hi]
  by_cases hik : i = k
  · rw [if_pos hik, if_pos (by omega), hik]
  · rw [if_neg hik]
    by_cases h2 : i < k
    · rw [if_pos h2, if_pos (by omega)]
    · rw [if_neg h2, if_neg (by omega)]
theorem updR_end (l : List (List UInt8)) (F : Nat → List UInt8) : updR l F l.length = (List.range l.length).map F := by
  unfold updR; exact List.map_congr_left fun j hj => by rw [if_pos (List.mem_range.1 hj)]
theorem set_getD (l : List (List UInt8)) (i : Nat) : l.set i (l.getD i []) = l := by
  by_cases h : i < l.length
  · refine rows_ext (by simp) fun j hj => ?_
    rw [getD_set h]
    by_cases e : j = i
    · rw [if_pos e, e]
    · rw [if_neg e]
  · exact List.set_eq_of_length_le (by omega)
theorem idx_set {l : List (List UInt8)} {i : Nat} (h : i < l.length) (r : List UInt8) : idx (l.set i r) (i : Int) = some r := by
  rw [idx_getD (by simpa using h), getD_set h, if_pos rfl]
theorem row_loop {body : List (List UInt8) × Int → Option ((List (List UInt8) × Int) ⊕ List (List UInt8))} (l : List (List UInt8)) (i c : Nat) (h : i < l.length) (hc : (l.getD i []).length = c) (f : Nat → UInt8)
    (hs : ∀ k, k < c → body (l.set i (updB (l.getD i []) f k), (k : Int)) = some (.inl (l.set i ((updB (l.getD i []) f k).set k (f k)), ((k + 1 : Nat) : Int))))
    (he : ∀ s, body (s, (c : Int)) = some (.inr s)) : iterC body (l, 0) = some (l.set i ((List.range c).map f)) := by
  refine iterC_count (fun k => (l.set i (updB (l.getD i []) f k), (k : Int))) c _ ?_ ?_ ?_
  · rw [updB_zero, set_getD]; rfl
  · intro k hk
    rw [hs k hk, updB_succ _ _ _ (by omega)]
  · rw [he, ← hc, updB_end]
theorem rows_loop {body : List (List UInt8) × Int → Option ((List (List UInt8) × Int) ⊕ List (List UInt8))} (l : List (List UInt8)) (n : Nat) (hn : l.length = n) (F : Nat → List UInt8)
    (hs : ∀ i, i < n → body (updR l F i, (i : Int)) = some (.inl ((updR l F i).set i (F i), ((i + 1 : Nat) : Int))))
    (he : ∀ s, body (s, (n : Int)) = some (.inr s)) : iterC body (l, 0) = some ((List.range n).map F) := by
  refine iterC_count (fun i => (updR l F i, (i : Int))) n _ ?_ ?_ ?_
  · rw [updR_zero]; rfl
  · intro k hk
    rw [hs k hk, updR_succ _ _ _ (by omega)]
  · rw [he, ← hn, updR_end]
theorem flat_take_le (l : List (List UInt8)) (i : Nat) : (l.take i).flatten.length ≤ l.flatten.length := by
  have h := congrArg List.length (congrArg List.flatten (List.take_append_drop i l))
  rw [List.flatten_append, List.length_append] at h
  omega
theorem Concat_eq (l : List (List UInt8)) (h : l.flatten.length ≤ most) (hl : l.length ≤ most) : slices_Concat_sbytebyte l = some l.flatten := by
  unfold slices_Concat_sbytebyte
  have hmo := most_lt'
  refine bind_of (iterC_count (fun i => (((l.take i).flatten.length : Int), (i : Int))) l.length (l.flatten.length : Int) (by simp) ?_ (by simp)) ?_
  · intro i hi
    have h1 := flat_take_le l (i + 1)
    have e : (l.take (i + 1)).flatten.length = (l.take i).flatten.length + (l.getD i []).length := by rw [rows_snoc hi, List.flatten_append, List.length_append]; simp
    simp only
    rw [if_pos (by omega), idx_getD hi, Option.bind_some, wI_add _ _ (by omega), if_neg (by omega), wI_succ i (by omega), e]
  · unfold slices_Grow
    rw [if_pos (by omega), Option.bind_some]
    refine bind_of (iterC_count (fun i => ((l.take i).flatten, (i : Int))) l.length l.flatten (by simp) ?_ (by simp)) rfl
    intro i hi
    have h1 := flat_take_le l (i + 1)
    have e : (l.take (i + 1)).flatten = (l.take i).flatten ++ l.getD i [] := by rw [rows_snoc hi, List.flatten_append]; simp
    have e2 := congrArg List.length e
    rw [List.length_append] at e2
    simp only
    rw [if_pos (by omega), idx_getD hi, Option.bind_some]
    unfold appL
    rw [if_pos (by omega), Option.bind_some, wI_succ i (by omega), e]
end Gk

/- Linear algebra over GF(256): rows are reduced. Plain Lean. -/
set_option linter.unusedSimpArgs false
set_option linter.unusedVariables false
namespace Gk
open Gf
theorem la_add (f g : Nat → UInt8) : ∀ n, sm (fun i => f i ^^^ g i) n = sm f n ^^^ sm g n
  | 0 => (xor_self 0).symm
  | n + 1 => by unfold sm; rw [la_add f g n, xor_xor_swap]
theorem la_mul (c : UInt8) (f : Nat → UInt8) : ∀ n, sm (fun i => mul c (f i)) n = mul c (sm f n)
  | 0 => (mul_zero c).symm
  | n + 1 => by unfold sm; rw [la_mul c f n, mul_add]
def ld (r : List UInt8) (v : Nat → UInt8) (d : Nat) : UInt8 := sm (fun k => mul (co r k) (v k)) d
theorem ld_lin (r : List UInt8) (a : List UInt8) (x : UInt8) (b : List UInt8) (v : Nat → UInt8) (d : Nat) (h : ∀ i, i < d → co r i = co a i ^^^ mul x (co b i)) : ld r v d = ld a v d ^^^ mul x (ld b v d) := by
  unfold ld
  rw [← la_mul, ← la_add]
  exact sm_congr _ fun i hi => by rw [h i hi, add_mul, mul_assoc]
theorem ld_scl (r : List UInt8) (x : UInt8) (b : List UInt8) (v : Nat → UInt8) (d : Nat) (h : ∀ i, i < d → co r i = mul x (co b i)) : ld r v d = mul x (ld b v d) := by
  unfold ld
  rw [← la_mul]
  exact sm_congr _ fun i hi => by rw [h i hi, mul_assoc]
def Ker (l : List (List UInt8)) (d : Nat) (v : Nat → UInt8) : Prop := ∀ i, i < l.length → ld (l.getD i []) v d = 0
structure Red (l0 l : List (List UInt8)) (d : Nat) (ln : List Nat) (c : Nat) : Prop where
  len : l.length = l0.length
  rc : ∀ i, i < l.length → (l.getD i []).length = d
  ker : ∀ v, Ker l d v ↔ Ker l0 d v
  le : ln.length ≤ l.length
  cd : c ≤ d
  lt : ∀ i, i < ln.length → ln.getD i 0 < c
  one : ∀ i, i < ln.length → ∀ k, k < l.length → co (l.getD k []) (ln.getD i 0) = if k = i then 1 else 0
  low : ∀ k, ln.length ≤ k → k < l.length → ∀ j, j < c → co (l.getD k []) j = 0
  alt : ln = List.range c ∨ (ln.length < c ∧ ∃ v : Nat → UInt8, Ker l0 d v ∧ (∃ k, k < c ∧ v k ≠ 0) ∧ ∀ k, c ≤ k → v k = 0)
theorem Red.start (l : List (List UInt8)) (d : Nat) (hr : ∀ i, i < l.length → (l.getD i []).length = d) : Red l l d [] 0 :=
  { len := rfl, rc := hr, ker := fun _ => Iff.rfl, le := Nat.zero_le _, cd := Nat.zero_le _, lt := fun i h => absurd h (by simp), one := fun i h => absurd h (by simp), low := fun k _ _ j h => absurd h (by omega), alt := .inl rfl }
theorem getD_app0 (l : List Nat) (c i : Nat) (h : i < l.length) : (l ++ [c]).getD i 0 = l.getD i 0 := by simp [List.getD_eq_getElem?_getD, List.getElem?_append_left h]
theorem getD_app1 (l : List Nat) (c : Nat) : (l ++ [c]).getD l.length 0 = c := by simp [List.getD_eq_getElem?_getD]
theorem getD_rng (c i : Nat) (h : i < c) : (List.range c).getD i 0 = i := by simp [List.getD_eq_getElem?_getD, h]
theorem Red.skip {l0 l : List (List UInt8)} {d : Nat} {ln : List Nat} {c : Nat} (h : Red l0 l d ln c) (hc : c < d) (hz : ∀ k, ln.length ≤ k → k < l.length → co (l.getD k []) c = 0) : Red l0 l d ln (c + 1) :=
  { len := h.len, rc := h.rc, ker := h.ker, le := h.le, cd := hc, lt := fun i hi => Nat.lt_succ_of_lt (h.lt i hi), one := h.one
    low := fun k h1 h2 j hj => by
      rcases Nat.lt_succ_iff_lt_or_eq.1 hj with h3 | h3
      · exact h.low k h1 h2 j h3
      · rw [h3]; exact hz k h1 h2
    alt := by
      rcases h.alt with ha | ⟨ha, v, hv, ⟨k, hk, hk'⟩, hvz⟩
      · right
        have hlen : ln.length = c := by rw [ha]; simp
        refine ⟨by omega, fun i => if i < c then co (l.getD i []) c else if i = c then 1 else 0, (h.ker _).1 ?_, ⟨c, by omega, by simp⟩, fun k hk => by simp only; rw [if_neg (by omega), if_neg (by omega)]⟩
        intro i hi
        have hone : ∀ j, j < c → co (l.getD i []) j = if i = j then 1 else 0 := fun j hj => by
          have := h.one j (by omega) i hi
          rwa [ha, getD_rng c j hj] at this
        unfold ld
        -- the sum: up to c, at c, beyond
        have hs : ∀ n, n ≤ c → sm (fun k => mul (co (l.getD i []) k) (if k < c then co (l.getD k []) c else if k = c then 1 else 0)) n = if i < n then co (l.getD i []) c else 0 := by
          intro n hn
          rw [sm_one _ i n (fun k hk hki => by rw [hone k (by omega), if_neg (Ne.symm hki), zero_mul])]
          by_cases e : i < n
          · rw [if_pos e, if_pos e, hone i (by omega), if_pos rfl, if_pos (by omega), one_mul]
          · rw [if_neg e, if_neg e]
        have hs2 : ∀ m, sm (fun k => mul (co (l.getD i []) k) (if k < c then co (l.getD k []) c else if k = c then 1 else 0)) (c + 1 + m) = 0 := by
          intro m
          induction m with
          | zero =>
            show sm _ c ^^^ _ = 0
            rw [hs c (Nat.le_refl _)]; simp only; rw [if_neg (Nat.lt_irrefl c), if_pos trivial, mul_one]
            by_cases e : i < c
            · rw [if_pos e, xor_self]
            · rw [if_neg e, zero_xor, hz i (by omega) hi]
          | succ m ih =>
            show sm _ (c + 1 + m) ^^^ mul (co (l.getD i []) (c + 1 + m)) (if c + 1 + m < c then co (l.getD (c + 1 + m) []) c else if c + 1 + m = c then 1 else 0) = 0
            rw [ih, if_neg (by omega), if_neg (by omega), mul_zero, xor_zero]
        have := hs2 (d - (c + 1))
        rwa [show c + 1 + (d - (c + 1)) = d by omega] at this
      · exact .inr ⟨by omega, v, hv, ⟨k, by omega, hk'⟩, fun k hk => hvz k (by omega)⟩ }
theorem Red.lead {l0 l : List (List UInt8)} {d : Nat} {ln : List Nat} {c : Nat} (h : Red l0 l d ln c) (hc : c < d) (j : Nat) (hj : ln.length ≤ j) (hjl : j < l.length) (hx : co (l.getD j []) c ≠ 0)
    (l' : List (List UInt8)) (hl' : l'.length = l.length) (hr' : ∀ i, i < l'.length → (l'.getD i []).length = d)
    (ha : ∀ i, i < d → co (l'.getD ln.length []) i = mul (inv (co (l.getD j []) c)) (co (l.getD j []) i))
    (hk : ∀ k, k < l.length → k ≠ ln.length → ∀ i, i < d → co (l'.getD k []) i = co (l.getD (if k = j then ln.length else k) []) i ^^^ mul (co (l.getD (if k = j then ln.length else k) []) c) (co (l'.getD ln.length []) i)) :
    Red l0 l' d (ln ++ [c]) (c + 1) := by
  have hal : ln.length < l.length := by omega
  have hp0 : ∀ i, i < c → co (l'.getD ln.length []) i = 0 := fun i hi => by rw [ha i (by omega), h.low j hj hjl i hi, mul_zero]
  have hpc : co (l'.getD ln.length []) c = 1 := by rw [ha c hc, inv_mul hx]
  have hkc : ∀ k, k < l.length → k ≠ ln.length → co (l'.getD k []) c = 0 := fun k h1 h2 => by rw [hk k h1 h2 c hc, hpc, mul_one, xor_self]
  have hlow : ∀ k, k < l.length → k ≠ ln.length → ∀ i, i < c → co (l'.getD k []) i = co (l.getD (if k = j then ln.length else k) []) i := fun k h1 h2 i hi => by
    rw [hk k h1 h2 i (by omega), hp0 i hi, mul_zero, xor_zero]
  refine { len := hl'.trans h.len, rc := hr', ker := ?_, le := by simp; omega, cd := hc, lt := ?_, one := ?_, low := ?_, alt := ?_ }
  · intro v
    rw [← h.ker v]
    have hda : ld (l'.getD ln.length []) v d = mul (inv (co (l.getD j []) c)) (ld (l.getD j []) v d) := ld_scl _ _ _ v d ha
    have hdk : ∀ k, k < l.length → k ≠ ln.length → ld (l'.getD k []) v d = ld (l.getD (if k = j then ln.length else k) []) v d ^^^ mul (co (l.getD (if k = j then ln.length else k) []) c) (ld (l'.getD ln.length []) v d) := fun k h1 h2 => ld_lin _ _ _ _ v d (hk k h1 h2)
    constructor
    · intro hv m hm
      have h0 := hv ln.length (by omega)
      by_cases hmj : m = j
      · rw [hmj]
        rw [hda] at h0
        rcases mul_eq_zero h0 with e | e
        · exact absurd e (inv_ne hx)
        · exact e
      · by_cases hma : m = ln.length
        · have hja : j ≠ ln.length := fun e => hmj (hma.trans e.symm)
          have := hv j (by omega)
          rw [hdk j hjl hja, if_pos rfl, h0, mul_zero, xor_zero] at this
          rw [hma]; exact this
        · have := hv m (by omega)
          rw [hdk m hm hma, if_neg hmj, h0, mul_zero, xor_zero] at this
          exact this
    · intro hv m hm
      have h0 : ld (l'.getD ln.length []) v d = 0 := by rw [hda, hv j hjl, mul_zero]
      by_cases hma : m = ln.length
      · rw [hma]; exact h0
      · rw [hdk m (by omega) hma, h0, mul_zero, xor_zero]
        by_cases hmj : m = j
        · rw [if_pos hmj]; exact hv _ hal
        · rw [if_neg hmj]; exact hv m (by omega)
  · intro i hi
    rw [List.length_append] at hi
    by_cases e : i < ln.length
    · rw [getD_app0 _ _ _ e]; exact Nat.lt_succ_of_lt (h.lt i e)
    · have : i = ln.length := by simp at hi; omega
      rw [this, getD_app1]; omega
  · intro i hi k hkl
    rw [hl'] at hkl
    rw [List.length_append] at hi
    by_cases e : i < ln.length
    · rw [getD_app0 _ _ _ e]
      have hp := h.lt i e
      by_cases hka : k = ln.length
      · rw [hka, hp0 _ hp, if_neg (by omega)]
      · rw [hlow k hkl hka _ hp]
        by_cases hkj : k = j
        · rw [if_pos hkj, h.low _ (Nat.le_refl _) hal _ hp, if_neg (by omega)]
        · rw [if_neg hkj]; exact h.one i e k hkl
    · have hia : i = ln.length := by simp at hi; omega
      rw [hia, getD_app1]
      by_cases hka : k = ln.length
      · rw [hka, hpc, if_pos rfl]
      · rw [hkc k hkl hka, if_neg hka]
  · intro k h1 h2 i hi
    rw [hl'] at h2
    rw [List.length_append] at h1
    have hka : k ≠ ln.length := by simp at h1; omega
    rcases Nat.lt_succ_iff_lt_or_eq.1 hi with h3 | h3
    · rw [hlow k h2 hka i h3]
      by_cases hkj : k = j
      · rw [if_pos hkj, h.low _ (Nat.le_refl _) hal _ h3]
      · rw [if_neg hkj]; exact h.low k (by simp at h1; omega) h2 i h3
    · rw [h3]; exact hkc k h2 hka
  · rcases h.alt with e | ⟨e, v, hv, ⟨k, hk1, hk2⟩, hvz⟩
    · left; rw [e, List.range_succ]
    · exact .inr ⟨by simp; omega, v, hv, ⟨k, by omega, hk2⟩, fun k hk => hvz k (by omega)⟩
theorem Red.full {l0 l : List (List UInt8)} {d : Nat} {ln : List Nat} {c : Nat} (h : Red l0 l d ln c) (hf : ln.length = l.length) : ∀ k, c + k ≤ d → Red l0 l d ln (c + k)
  | 0, _ => h
  | k + 1, hk => (h.full hf k (by omega)).skip (by omega) (fun i h1 h2 => by omega)
end Gk

/- Chapter 4: what reduce does, in plain Lean. No condition but lengths. -/
set_option linter.unusedSimpArgs false
set_option linter.unusedVariables false
namespace Gk
open Gf
theorem find_row (c : Nat) : ∀ (m : List (List UInt8)) (k : Nat), (∀ j, j < m.length → c < (m.getD j []).length) →
    (∃ j, j < m.length ∧ findAt (fun y => matrix_reduce_1 y (c : Int)) (k : Int) m = some ((k + j : Nat) : Int) ∧ co (m.getD j []) c ≠ 0) ∨
    (findAt (fun y => matrix_reduce_1 y (c : Int)) (k : Int) m = some (-1) ∧ ∀ j, j < m.length → co (m.getD j []) c = 0)
  | [], k, _ => .inr ⟨rfl, fun j h => by simp at h⟩
  | r :: m, k, h => by
    have h0 : c < r.length := h 0 (by simp)
    have e : matrix_reduce_1 r (c : Int) = some (!decide (co r c = 0)) := by unfold matrix_reduce_1; rw [idx_co h0, Option.bind_some]
    unfold findAt
    rw [e, Option.bind_some]
    by_cases hz : co r c = 0
    · rw [if_neg (by simp [hz])]
      rcases find_row c m (k + 1) (fun j hj => by have := h (j + 1) (by simp; omega); simpa using this) with ⟨j, h1, h2, h3⟩ | ⟨h2, h3⟩
      · left
        refine ⟨j + 1, by simp; omega, ?_, by simpa using h3⟩
        rw [show ((k : Int) + 1) = ((k + 1 : Nat) : Int) by omega, h2]; congr 1; omega
      · right
        refine ⟨by rw [show ((k : Int) + 1) = ((k + 1 : Nat) : Int) by omega, h2], fun j hj => ?_⟩
        cases j with
        | zero => simpa using hz
        | succ j => simpa using h3 j (by simp at hj; omega)
    · left
      refine ⟨0, by simp, ?_, by simpa using hz⟩
      rw [if_pos (by simp [hz])]; simp
theorem loopEx {S X Y : Type} {body : S → Option (S ⊕ X)} {s0 : S} {g : X → Option Y} {post : X → Prop} {Q : Y → Prop} (h : ∃ x, iterC body s0 = some x ∧ post x) (hg : ∀ x, post x → ∃ y, g x = some y ∧ Q y) : ∃ y, (iterC body s0).bind g = some y ∧ Q y := by
  obtain ⟨x, e, hp⟩ := h
  obtain ⟨y, e2, hq⟩ := hg x hp
  exact ⟨y, by rw [e]; exact e2, hq⟩
theorem loopIn {S X Y Z : Type} {body : S → Option (S ⊕ X)} {s0 : S} {g : X → Option (Y ⊕ Z)} {post : X → Prop} {Q : Y → Prop} (h : ∃ x, iterC body s0 = some x ∧ post x) (hg : ∀ x, post x → ∃ y, g x = some (.inl y) ∧ Q y) : ∃ y, (iterC body s0).bind g = some (.inl y) ∧ Q y := by
  obtain ⟨x, e, hp⟩ := h
  obtain ⟨y, e2, hq⟩ := hg x hp
  exact ⟨y, by rw [e]; exact e2, hq⟩
theorem reduce_ok (l : List (List UInt8)) (d c : Nat) (hn : l.length ≤ 1000) (hd : d ≤ 1000) (hr : ∀ i, i < l.length → (l.getD i []).length = d) (hc : c ≤ d) :
    ∃ y, matrix_reduce true l (c : Int) = some y ∧ ∃ ln : List Nat, y.2 = ln.map (fun (n : Nat) => (n : Int)) ∧ Red l y.1 d ln c := by
  unfold matrix_reduce
  have hm : 1000 < most := by decide
  have hm2 := most_lt'
  refine loopEx (post := fun x : List (List UInt8) × List Int => ∃ ln : List Nat, x.2 = ln.map (fun (n : Nat) => (n : Int)) ∧ Red l x.1 d ln c) (iterC_inv
    (fun s => ∃ (c' : Nat) (ln : List Nat), s.2.2 = (c' : Int) ∧ s.2.1 = ln.map (fun (n : Nat) => (n : Int)) ∧ c' ≤ c ∧ Red l s.1 d ln c') (fun s => c - s.2.2.toNat)
    _ (by
      rintro ⟨s, q, _⟩ ⟨c', ln, rfl, rfl, hc', hR⟩
      simp only at hR ⊢
      have hsl : s.length = l.length := hR.len
      have hle := hR.le
      by_cases hcc : c' < c
      · rw [if_pos (by omega), List.length_map]
        by_cases ha : ln.length < s.length
        · left
          rw [if_pos (by omega), subL_nat _ _ _ (by omega) (Nat.le_refl _), Option.bind_some, lim_of (by simp; omega), Option.bind_some]
          have hsub : ∀ j, (((s.take s.length).drop ln.length).getD j []) = s.getD (ln.length + j) [] := fun j => by simp [List.getD_eq_getElem?_getD, List.getElem?_drop]
          have hsubl : ((s.take s.length).drop ln.length).length = s.length - ln.length := by simp
          rcases find_row c' ((s.take s.length).drop ln.length) 0 (fun j hj => by rw [hsub, hR.rc _ (by omega)]; omega) with ⟨j, hj, hf, hne⟩ | ⟨hf, hz⟩
          · replace hf : findAt (fun y => matrix_reduce_1 y (c' : Int)) 0 ((s.take s.length).drop ln.length) = _ := hf
            rw [hf, Option.bind_some, if_neg (by omega)]
            rw [hsub] at hne
            rw [Nat.zero_add]
            have hjl : ln.length + j < s.length := by omega
            rw [show ((ln.length : Int) + (j : Int)) = ((ln.length + j : Nat) : Int) by omega, wI_nat (by omega), idx_getD hjl, Option.bind_some, idx_getD ha, Option.bind_some, Int.toNat_natCast, Int.toNat_natCast]
            rw [idx_getD (by simp; omega), Option.bind_some, idx_getD (by simp; omega), Option.bind_some]
            have e38 : ((s.set ln.length (s.getD (ln.length + j) [])).set (ln.length + j) (s.getD ln.length [])).getD ln.length [] = s.getD (ln.length + j) [] := by
              rw [getD_set (by simp; omega)]
              by_cases h0 : ln.length = ln.length + j
              · rw [if_pos h0]; exact congrArg (fun k => s.getD k []) h0
              · rw [if_neg h0, getD_set (by omega), if_pos rfl]
            rw [e38, idx_co (by rw [hR.rc _ hjl]; omega), Option.bind_some, Inv_eq, Option.bind_some, if_neg hne, Option.bind_some]
            simp only
            rw [Scale_eq _ _ (by rw [hR.rc _ hjl]; omega), Option.bind_some]
            obtain ⟨piv, hpiv⟩ : ∃ piv, piv = (s.getD (ln.length + j) []).map (mul (inv (co (s.getD (ln.length + j) []) c'))) := ⟨_, rfl⟩
            rw [← hpiv]
            have hpl : piv.length = d := by rw [hpiv, List.length_map, hR.rc _ hjl]
            obtain ⟨s3, hs3⟩ : ∃ s3, s3 = ((s.set ln.length (s.getD (ln.length + j) [])).set (ln.length + j) (s.getD ln.length [])).set ln.length piv := ⟨_, rfl⟩
            rw [← hs3]
            have h3l : s3.length = s.length := by rw [hs3]; simp
            have h3a : s3.getD ln.length [] = piv := by rw [hs3, getD_set (by simp; omega), if_pos rfl]
            have h3k : ∀ k, k < s.length → k ≠ ln.length → s3.getD k [] = s.getD (if k = ln.length + j then ln.length else k) [] := fun k hk hka => by
              rw [hs3, getD_set (by simp; omega), if_neg hka, getD_set (by simp; omega)]
              by_cases h0 : k = ln.length + j
              · rw [if_pos h0, if_pos h0]
              · rw [if_neg h0, if_neg h0, getD_set (by omega), if_neg hka]
            rw [h3l]
            refine loopIn (iterC_up (fun i t => t.length = s.length ∧ t.getD ln.length [] = piv ∧ ∀ k, k < s.length → k ≠ ln.length → t.getD k [] = if k < i then sumL (s3.getD k []) (co (s3.getD k []) c') piv else s3.getD k []) s.length (fun t => t.length = s.length ∧ t.getD ln.length [] = piv ∧ ∀ k, k < s.length → k ≠ ln.length → t.getD k [] = sumL (s3.getD k []) (co (s3.getD k []) c') piv)
              ⟨h3l, h3a, fun k hk hka => by rw [if_neg (by omega)]⟩ (by
                intro i t hi hI
                obtain ⟨h1, h2, h3⟩ := hI
                simp only
                rw [if_pos (by omega)]
                by_cases hia : i = ln.length
                · rw [if_pos (by omega), wI_succ i (by omega)]
                  refine ⟨t, rfl, h1, h2, fun k hk hka => ?_⟩
                  rw [h3 k hk hka]
                  by_cases hki : k < i
                  · rw [if_pos hki, if_pos (by omega)]
                  · rw [if_neg hki, if_neg (by omega)]
                · rw [if_neg (by omega), idx_getD (by omega), Option.bind_some]
                  have hti := h3 i hi hia
                  rw [if_neg (by omega)] at hti
                  have hrl : (s3.getD i []).length = d := by
                    rw [h3k i hi hia]
                    exact hR.rc _ (by split <;> omega)
                  rw [hti, idx_co (by omega), Option.bind_some, idx_getD (by omega), Option.bind_some, h2, Sum_eq _ _ _ (by omega), Option.bind_some, wI_succ i (by omega), Int.toNat_natCast]
                  refine ⟨_, rfl, by simpa using h1, by rw [getD_set (by omega), if_neg (by omega), h2], fun k hk hka => ?_⟩
                  rw [getD_set (by omega)]
                  by_cases hki : k = i
                  · rw [if_pos hki, if_pos (by omega), hki]
                  · rw [if_neg hki, h3 k hk hka]
                    by_cases hlt : k < i
                    · rw [if_pos hlt, if_pos (by omega)]
                    · rw [if_neg hlt, if_neg (by omega)]) (by
                intro t hI
                obtain ⟨h1, h2, h3⟩ := hI
                refine ⟨t, by simp only; rw [if_neg (by omega)], h1, h2, fun k hk hka => ?_⟩
                rw [h3 k hk hka, if_pos hk])) ?_
            rintro s4 ⟨h4l, h4a, h4k⟩
            rw [appL_ok _ _ (by simp; omega) rfl, Option.bind_some, wI_succ c' (by omega)]
            refine ⟨_, rfl, ⟨c' + 1, ln ++ [c'], rfl, by simp, by omega, ?_⟩, by simp only [Int.toNat_natCast]; omega⟩
            refine hR.lead (by omega) (ln.length + j) (by omega) hjl hne s4 h4l (fun i hi => ?_) (fun i hi => ?_) (fun k hk hka i hi => ?_)
            · by_cases hia : i = ln.length
              · rw [hia, h4a, hpl]
              · rw [h4k i (by omega) hia, sumL_len, h3k i (by omega) hia]
                exact hR.rc _ (by split <;> omega)
            · rw [h4a, hpiv, co_map]
            · rw [h4k k hk hka, co_sumL, h4a, if_pos (by rw [h3k k hk hka, hR.rc _ (by split <;> omega)]; exact hi), h3k k hk hka]
          · replace hf : findAt (fun y => matrix_reduce_1 y (c' : Int)) 0 ((s.take s.length).drop ln.length) = _ := hf
            rw [hf, Option.bind_some, if_pos (by decide), wI_succ c' (by omega)]
            refine ⟨_, rfl, ⟨c' + 1, ln, rfl, rfl, by omega, hR.skip (by omega) fun k h1 h2 => ?_⟩, by simp only [Int.toNat_natCast]; omega⟩
            have := hz (k - ln.length) (by omega)
            rwa [hsub, show ln.length + (k - ln.length) = k by omega] at this
        · right
          rw [if_neg (by omega)]
          refine ⟨_, rfl, ln, rfl, ?_⟩
          have := hR.full (by omega) (c - c') (by omega)
          rwa [show c' + (c - c') = c by omega] at this
      · right
        rw [if_neg (by omega)]
        obtain rfl : c' = c := by omega
        exact ⟨_, rfl, ln, rfl, hR⟩) (l, [], 0) ⟨0, [], rfl, rfl, Nat.zero_le _, Red.start l d hr⟩) (fun x hx => ⟨_, rfl, hx⟩)
end Gk

/- Chapter 4 in plain Lean: what makes matrices, and products. No condition but lengths. -/
set_option linter.unusedSimpArgs false
set_option linter.unusedVariables false
namespace Gk
open Gf
theorem size_eq (n : Int) : matrix_size n = some (decide (1 ≤ n ∧ n ≤ 64)) := by
  unfold matrix_size
  by_cases h : 1 ≤ n
  · rw [if_pos h]; simp [h]
  · rw [if_neg h]; simp [h]
theorem blank_eq (n c : Nat) (hn : n ≤ most) (hc : c ≤ most) : matrix_blank (n : Int) (c : Int) = some (List.replicate n (List.replicate c 0)) := by
  unfold matrix_blank
  have hm := most_lt'
  rw [makeL_nat _ _ hn, Option.bind_some]
  refine bind_of ?_ rfl
  obtain ⟨x, e1, e2⟩ := iterC_up (s0 := List.replicate n ([] : List UInt8)) (fun i s => s.length = n ∧ ∀ j, j < i → s.getD j [] = List.replicate c 0) n (fun x : List (List UInt8) => x = List.replicate n (List.replicate c 0))
    (body := fun s9 : List (List UInt8) × Int => (if s9.2 < ((List.replicate n ([] : List UInt8)).length : Int) then ((makeL (c : Int) (0 : UInt8)).bind fun c14 => ((idx s9.1 s9.2).bind fun c19 => some (.inl ((s9.1.set (s9.2 : Int).toNat c14), (wI (s9.2 + 1)))))) else some (.inr s9.1)))
    ⟨by simp, fun j hj => absurd hj (Nat.not_lt_zero _)⟩
    (fun i s hi hI => by
      obtain ⟨hl, hs⟩ := hI
      refine ⟨s.set i (List.replicate c 0), ?_, by simpa using hl, fun j hj => ?_⟩
      · simp only
        rw [if_pos (by rw [List.length_replicate]; omega), makeL_nat _ _ hc, Option.bind_some, idx_getD (by omega), Option.bind_some, wI_succ i (by omega), Int.toNat_natCast]
      · rw [getD_set (by omega)]
        by_cases hji : j = i
        · rw [if_pos hji]
        · rw [if_neg hji]; exact hs j (by omega))
    (fun s hI => ⟨s, by simp, rows_ext (by rw [hI.1]; simp) (fun j hj => by rw [hI.2 j (by omega), getD_rep _ (by omega)])⟩)
  rw [e1, e2]
def Rec (l : List (List UInt8)) (d : Nat) : Prop := ∀ i, i < l.length → (l.getD i []).length = d
theorem New_ok (l : List (List UInt8)) (d : Nat) (h0 : 0 < l.length) (h1 : l.length ≤ 64) (d0 : 0 < d) (d1 : d ≤ 64) (hr : Rec l d) : matrix_New l = some (some l, 0) := by
  unfold matrix_New
  have hm := h257
  have hd := hr 0 h0
  rw [size_eq, Option.bind_some, if_neg (by simp; omega), idx_0 h0, Option.bind_some, hd, size_eq, Option.bind_some, if_neg (by simp; omega), Option.bind_some, hd, blank_eq _ _ (by omega) (by omega), Option.bind_some]
  obtain ⟨x, e1, e2⟩ := iterC_up (s0 := List.replicate l.length (List.replicate d (0 : UInt8))) (fun i s => s.length = l.length ∧ ∀ j, j < l.length → s.getD j [] = if j < i then l.getD j [] else List.replicate d 0) l.length (fun x : List (List UInt8) ⊕ (Option (List (List UInt8)) × Int) => x = .inl l)
    (body := fun s15 : List (List UInt8) × Int => (if s15.2 < (l.length : Int) then ((idx l s15.2).bind fun c18 => ((some (l.getD 0 [])).bind fun c20 => (if (c18.length : Int) = (c20.length : Int) then ((idx s15.1 s15.2).bind fun c23 => some (.inl ((s15.1.set (s15.2 : Int).toNat (copyL c23 0 c18)), (wI (s15.2 + 1))))) else some (.inr (.inr ((none : Option (List (List UInt8))), 1)))))) else some (.inr (.inl s15.1))))
    ⟨by simp, fun j hj => by rw [getD_rep _ hj, if_neg (by omega)]⟩
    (fun i s hi hI => by
      obtain ⟨hl, hs⟩ := hI
      refine ⟨s.set i (l.getD i []), ?_, by simpa using hl, fun j hj => ?_⟩
      · simp only
        rw [if_pos (by omega), idx_getD hi, Option.bind_some, Option.bind_some, hd, hr i hi, if_pos rfl, idx_getD (by omega), Option.bind_some, hs i hi, if_neg (by omega), wI_succ i (by omega), Int.toNat_natCast]
        rw [show copyL (List.replicate d (0 : UInt8)) 0 (l.getD i []) = l.getD i [] from by
          have := copyL_all (0 : UInt8) (l.getD i [])
          rwa [hr i hi] at this]
      · rw [getD_set (by omega)]
        by_cases hji : j = i
        · rw [if_pos hji, if_pos (by omega), hji]
        · rw [if_neg hji, hs j hj]
          by_cases h2 : j < i
          · rw [if_pos h2, if_pos (by omega)]
          · rw [if_neg h2, if_neg (by omega)])
    (fun s hI => ⟨_, by simp, congrArg Sum.inl (rows_ext hI.1 (fun j hj => by rw [hI.2 j (by omega), if_pos (by omega)]))⟩)
  rw [e1, Option.bind_some, e2, Sum.elim_inl]
theorem Size_some (l : List (List UInt8)) (h0 : 0 < l.length) : matrix_Size (some l) = some ((l.length : Int), ((l.getD 0 []).length : Int)) := by
  unfold matrix_Size
  rw [if_neg (by simp), Option.bind_some, idx_0 h0, Option.bind_some]
theorem Size_none : matrix_Size none = some (0, 0) := by
  rfl
theorem Row_ok (l : List (List UInt8)) (i : Nat) (h : i < l.length) (hm : (l.getD i []).length ≤ most) : matrix_Row (some l) (i : Int) = some (l.getD i []) := by
  unfold matrix_Row slices_Clone_sbytebyte
  rw [if_neg (by simp), if_neg (by omega), Option.bind_some, if_neg (by omega), idx_getD h, Option.bind_some, appL_nil _ hm, Option.bind_some]
theorem rows_some (l : List (List UInt8)) (h0 : 0 < l.length) (h1 : l.length ≤ most) (hm : ∀ i, i < l.length → (l.getD i []).length ≤ most) : law04_rows (some l) = some l := by
  unfold law04_rows
  have hmo := most_lt'
  rw [Size_some l h0, Option.bind_some]
  refine bind_of ?_ rfl
  refine iterC_count (fun i => (l.take i, (i : Int))) l.length _ rfl ?_ ?_
  · intro i hi
    simp only
    rw [if_pos (by omega), Row_ok l i hi (hm i hi), Option.bind_some, appL_ok _ _ (by simp; omega) rfl, Option.bind_some, wI_succ i (by omega), rows_snoc hi]
  · simp
theorem rows_none : law04_rows none = some [] := by
  unfold law04_rows
  rw [Size_none, Option.bind_some]
  refine bind_of ?_ rfl
  exact iterC_count (fun i => ([], (i : Int))) 0 _ rfl (fun i hi => absurd hi (Nat.not_lt_zero _)) (by simp)
def vdm (xs : List UInt8) (c : Nat) : List (List UInt8) := (List.range xs.length).map fun i => (List.range c).map fun (k : Nat) => powZ (co xs i) (k : Int)
theorem Vandermonde_ok (xs : List UInt8) (c : Nat) (h0 : 0 < xs.length) (h1 : xs.length ≤ 64) (c0 : 0 < c) (c1 : c ≤ 64) : matrix_Vandermonde true xs (c : Int) = some (some (vdm xs c), 0) := by
  unfold matrix_Vandermonde
  have hmo := h257
  rw [if_neg (by decide), size_eq, Option.bind_some, if_neg (by simp; omega), size_eq, Option.bind_some, if_neg (by simp; omega), blank_eq _ _ (by omega) (by omega), Option.bind_some]
  refine bind_of (x := vdm xs c) ?_ rfl
  refine rows_loop _ xs.length (by simp) _ (fun i hi => ?_) (fun s => by simp)
  simp only
  have hU := updR_len (List.replicate xs.length (List.replicate c (0 : UInt8))) (fun i => (List.range c).map fun (k : Nat) => powZ (co xs i) (k : Int)) i
  have hG := getD_updR (List.replicate xs.length (List.replicate c (0 : UInt8))) (fun i => (List.range c).map fun (k : Nat) => powZ (co xs i) (k : Int)) i i (by simpa using hi)
  rw [if_neg (by omega), getD_rep _ hi] at hG
  rw [List.length_replicate] at hU
  generalize updR (List.replicate xs.length (List.replicate c (0 : UInt8))) (fun i => (List.range c).map fun (k : Nat) => powZ (co xs i) (k : Int)) i = s at hU hG ⊢
  rw [if_pos (by omega), idx_co hi, Option.bind_some]
  refine bind_of (row_loop s i c (by omega) (by rw [hG]; simp) (fun (k : Nat) => powZ (co xs i) (k : Int)) (fun k hk => ?_) (fun s => by simp)) (by rw [wI_succ i (by omega)])
  simp only
  rw [if_pos (by omega), idx_set (by omega), Option.bind_some, Pow_eq, Option.bind_some, idx_updB _ _ _ _ (by rw [hG]; simpa using hk), Option.bind_some, wI_succ k (by omega), Int.toNat_natCast, Int.toNat_natCast, List.set_set]
theorem lives4 : law04_lives = some true := by
  unfold law04_lives
  rw [field_New, Option.bind_some]
  have e := Vandermonde_ok [1, 2] 2 (by decide) (by decide) (by decide) (by decide)
  rw [show ((2 : Nat) : Int) = 2 from rfl] at e
  have hv : vdm [1, 2] 2 = [[1, 1], [1, 2]] := by decide +kernel
  rw [e, Option.bind_some, if_pos rfl, hv]
  have e2 := Row_ok [[1, 1], [1, 2]] 1 (by decide) (by decide)
  rw [show ((1 : Nat) : Int) = 1 from rfl] at e2
  rw [e2]
  decide +kernel
end Gk

/- Chapter 4: inverses, in plain Lean. No condition but lengths. -/
set_option linter.unusedSimpArgs false
set_option linter.unusedVariables false
namespace Gk
open Gf
theorem la_split (f : Nat → UInt8) (a : Nat) : ∀ b, sm f (a + b) = sm f a ^^^ sm (fun k => f (a + k)) b
  | 0 => (xor_zero _).symm
  | b + 1 => by
    show sm f (a + b) ^^^ f (a + b) = sm f a ^^^ (sm (fun k => f (a + k)) b ^^^ f (a + b))
    rw [la_split f a b, xor_assoc]
def wth (a b : List (List UInt8)) : List (List UInt8) := (List.range a.length).map fun i => a.getD i [] ++ b.getD i []
theorem wth_len (a b : List (List UInt8)) : (wth a b).length = a.length := by simp [wth]
theorem getD_wth (a b : List (List UInt8)) (i : Nat) (h : i < a.length) : (wth a b).getD i [] = a.getD i [] ++ b.getD i [] := by unfold wth; rw [getD_tab _ _ _ h]
theorem with_ok (a b : List (List UInt8)) (d1 d2 : Nat) (hn : a.length ≤ 1000) (h1 : d1 ≤ 1000) (h2 : d2 ≤ 1000) (hl : b.length = a.length) (hra : ∀ i, i < a.length → (a.getD i []).length = d1) (hrb : ∀ i, i < b.length → (b.getD i []).length = d2) : matrix_with a b = some (wth a b) := by
  unfold matrix_with
  have hm : 3000 < most := by decide
  have hm2 := most_lt'
  refine bind_of (x := wth a b) ?_ rfl
  refine iterC_count (fun i => ((wth a b).take i, (i : Int))) a.length (wth a b) (by simp) (fun i hi => ?_) ?_
  · simp only
    rw [if_pos (by omega), idx_getD hi, Option.bind_some, idx_getD (by omega), Option.bind_some, Concat_eq _ (by have := hra i hi; have := hrb i (by omega); simp only [List.flatten_cons, List.flatten_nil, List.append_nil, List.length_append]; omega) (by simp; omega), Option.bind_some, appL_ok _ _ (by simp [wth_len]; omega) rfl, Option.bind_some, wI_succ i (by omega), rows_snoc (by rw [wth_len]; exact hi), getD_wth _ _ _ hi]
    simp
  · simp only
    rw [if_neg (by omega), List.take_of_length_le (by rw [wth_len]; omega)]
def idm (n : Nat) : List (List UInt8) := (List.range n).map fun i => (List.range n).map fun j => if j = i then 1 else 0
theorem idm_len (n : Nat) : (idm n).length = n := by simp [idm]
theorem getD_idm (n i : Nat) (h : i < n) : (idm n).getD i [] = (List.range n).map fun j => if j = i then 1 else 0 := by unfold idm; rw [getD_tab _ _ _ h]
theorem idm_rec (n : Nat) : Rec (idm n) n := fun i hi => by rw [idm_len] at hi; rw [getD_idm _ _ hi]; simp
theorem Identity_ok (n : Nat) (h0 : 0 < n) (h1 : n ≤ 64) : matrix_Identity (n : Int) = some (some (idm n), 0) := by
  unfold matrix_Identity
  have hm : 1000 < most := by decide
  rw [size_eq, Option.bind_some, if_neg (by simp; omega), blank_eq _ _ (by omega) (by omega), Option.bind_some]
  refine bind_of (x := idm n) ?_ rfl
  refine rows_loop _ n (by simp) (fun i => (List.range n).map fun j => if j = i then 1 else 0) (fun i hi => ?_) (fun s => by simp)
  simp only
  have hU := updR_len (List.replicate n (List.replicate n (0 : UInt8))) (fun i => (List.range n).map fun j => if j = i then (1 : UInt8) else 0) i
  have hG := getD_updR (List.replicate n (List.replicate n (0 : UInt8))) (fun i => (List.range n).map fun j => if j = i then (1 : UInt8) else 0) i i (by simpa using hi)
  rw [if_neg (by omega), getD_rep _ hi] at hG
  rw [List.length_replicate] at hU
  generalize updR (List.replicate n (List.replicate n (0 : UInt8))) (fun i => (List.range n).map fun j => if j = i then (1 : UInt8) else 0) i = s at hU hG ⊢
  rw [if_pos (by omega), idx_getD (by omega), Option.bind_some, hG, idx_co (by simpa using hi), Option.bind_some, wI_succ i (by have := most_lt'; omega), Int.toNat_natCast]
  congr 4
  refine eq_of_co (by simp) fun j => ?_
  rw [co_set (by simpa using hi), co_tab, co_rep]
  by_cases e : j = i
  · rw [if_pos e, if_pos (by omega)]
  · rw [if_neg e]; split <;> rfl
def dropR (l : List (List UInt8)) (n : Nat) : List (List UInt8) := (List.range l.length).map fun i => (l.getD i []).drop n
theorem co_appR (a b : List UInt8) (n i : Nat) (h : a.length = n) : co (a ++ b) (n + i) = co b i := by
  subst h; simp [co, List.getD_eq_getElem?_getD, List.getElem?_append_right]
theorem co_appL (a b : List UInt8) (n i : Nat) (h : a.length = n) (hi : i < n) : co (a ++ b) i = co a i := by
  subst h; simp [co, List.getD_eq_getElem?_getD, List.getElem?_append_left hi]
theorem ld_wth (a b : List UInt8) (v : Nat → UInt8) (n m : Nat) (ha : a.length = n) : ld (a ++ b) v (n + m) = ld a v n ^^^ ld b (fun k => v (n + k)) m := by
  unfold ld
  rw [la_split]
  congr 1
  · exact sm_congr n fun i hi => by rw [co_appL a b n i ha hi]
  · exact sm_congr m fun i hi => by rw [co_appR a b n i ha]
theorem ld_id (n i : Nat) (v : Nat → UInt8) (h : i < n) : ld ((List.range n).map fun j => if j = i then 1 else 0) v n = v i := by
  unfold ld
  rw [sm_one _ i n (fun k hk hki => by rw [co_tab, if_pos hk, if_neg hki, zero_mul]), if_pos h, co_tab, if_pos h, if_pos rfl, one_mul]
theorem Inverse_ok (m : List (List UInt8)) (n : Nat) (h0 : 0 < n) (h1 : n ≤ 64) (hl : m.length = n) (hr : Rec m n) :
    (∃ B, matrix_Inverse (some m) true = some (some B, 0) ∧ B.length = n ∧ Rec B n ∧ (∀ i j, i < n → j < n → ld (m.getD i []) (fun k => co (B.getD k []) j) n = if i = j then 1 else 0) ∧ (∀ i j, i < n → j < n → ld (B.getD i []) (fun k => co (m.getD k []) j) n = if i = j then 1 else 0)) ∨
    (matrix_Inverse (some m) true = some (none, 7) ∧ ∃ v : Nat → UInt8, Ker m n v ∧ ∃ k, k < n ∧ v k ≠ 0) := by
  have hm : 3000 < most := by decide
  have hm2 := most_lt'
  have hla : (wth m (idm n)).length = n := by rw [wth_len, hl]
  have hga : ∀ i, i < n → (wth m (idm n)).getD i [] = m.getD i [] ++ (List.range n).map fun j => if j = i then 1 else 0 := fun i hi => by rw [getD_wth _ _ _ (by omega), getD_idm _ _ hi]
  have hld : ∀ (v : Nat → UInt8) i, i < n → ld ((wth m (idm n)).getD i []) v (n + n) = ld (m.getD i []) v n ^^^ v (n + i) := fun v i hi => by
    rw [hga i hi, ld_wth _ _ _ _ _ (hr i (by omega)), ld_id n i _ hi]
  obtain ⟨y, e, ln, e2, hR⟩ := reduce_ok (wth m (idm n)) (n + n) n (by omega) (by omega) (fun i hi => by rw [hla] at hi; rw [hga i hi, List.length_append, hr i (by omega)]; simp) (by omega)
  have hyl : y.1.length = n := hR.len.trans hla
  have hInv : ∀ {r}, (if ((y.2.length : Int)) < (n : Int) then some ((none : Option (List (List UInt8))), (7 : Int)) else ((iterC (fun s18 : List (List UInt8) × Int =>
      (if s18.2 < (y.1.length : Int) then ((idx s18.1 s18.2).bind fun c21 => ((subL c21 (n : Int) ((c21.length : Int))).bind fun c23 => some (.inl ((s18.1.set (s18.2 : Int).toNat c23), (wI (s18.2 + 1)))))) else some (.inr s18.1))) (y.1, 0)).bind fun x18 => ((matrix_New x18).bind fun r28 => some (r28.1, r28.2)))) = r → matrix_Inverse (some m) true = r := by
    intro r hr2
    unfold matrix_Inverse
    rw [Size_some m (by omega), Option.bind_some, if_neg (by simp), if_neg (by simp)]
    simp only
    rw [hr 0 (by omega), hl, if_pos rfl, Identity_ok n h0 h1, Option.bind_some, Option.bind_some, Option.bind_some, with_ok m (idm n) n n (by omega) (by omega) (by omega) (by rw [idm_len, hl]) hr (idm_rec n), Option.bind_some, e, Option.bind_some]
    exact hr2
  have hln : y.2.length = ln.length := by rw [e2]; simp
  rcases hR.alt with ha | ⟨ha, v, hv, ⟨k, hk, hk'⟩, hvz⟩
  · left
    have hlen : ln.length = n := by rw [ha]; simp
    have hone : ∀ i j, i < n → j < n → co (y.1.getD i []) j = if i = j then 1 else 0 := fun i j hi hj => by
      have := hR.one j (by omega) i (by omega)
      rwa [ha, getD_rng n j hj] at this
    refine ⟨dropR y.1 n, hInv ?_, by simp [dropR, hyl], ?_, ?_, ?_⟩
    · rw [if_neg (by omega)]
      refine bind_of (x := dropR y.1 n) (rows_loop y.1 y.1.length rfl (fun i => (y.1.getD i []).drop n) (fun i hi => ?_) (fun s => by simp)) ?_
      · simp only
        have hU := updR_len y.1 (fun i => (y.1.getD i []).drop n) i
        have hG := getD_updR y.1 (fun i => (y.1.getD i []).drop n) i i hi
        rw [if_neg (by omega)] at hG
        generalize updR y.1 (fun i => (y.1.getD i []).drop n) i = s at hU hG ⊢
        have hrc := hR.rc i hi
        rw [if_pos (by omega), idx_getD (by omega), Option.bind_some, hG, subL_nat _ _ _ (by omega) (Nat.le_refl _), Option.bind_some, wI_succ i (by omega), Int.toNat_natCast, List.take_of_length_le (Nat.le_refl _)]
      · have hd : Rec (dropR y.1 n) n := fun i hi => by
          have hi' : i < y.1.length := by simpa [dropR] using hi
          unfold dropR; rw [getD_tab _ _ _ hi', List.length_drop, hR.rc i hi']; omega
        rw [New_ok (dropR y.1 n) n (by simp [dropR]; omega) (by simp [dropR]; omega) h0 h1 hd]; rfl
    · intro i hi
      have hi' : i < y.1.length := by simpa [dropR] using hi
      unfold dropR; rw [getD_tab _ _ _ hi', List.length_drop, hR.rc i hi']; omega
    · intro i j hi hj
      have hB : ∀ k, k < n → ∀ j, co ((dropR y.1 n).getD k []) j = co (y.1.getD k []) (n + j) := fun k hk j => by unfold dropR; rw [getD_tab _ _ _ (by omega), co_drop]
      have hK := (hR.ker (fun k => if k < n then co (y.1.getD k []) (n + j) else if k = n + j then 1 else 0)).1 (fun q hq => by
        unfold ld
        rw [la_split]
        have s1 : sm (fun k => mul (co (y.1.getD q []) k) (if k < n then co (y.1.getD k []) (n + j) else if k = n + j then 1 else 0)) n = co (y.1.getD q []) (n + j) := by
          rw [sm_one _ q n (fun k hk hkq => by rw [hone q k (by omega) hk, if_neg (Ne.symm hkq), zero_mul]), if_pos (by omega), hone q q (by omega) (by omega), if_pos rfl, one_mul, if_pos (by omega)]
        have s2 : sm (fun k => mul (co (y.1.getD q []) (n + k)) (if n + k < n then co (y.1.getD (n + k) []) (n + j) else if n + k = n + j then 1 else 0)) n = co (y.1.getD q []) (n + j) := by
          rw [sm_one _ j n (fun k hk hkq => by rw [if_neg (by omega), if_neg (by omega), mul_zero]), if_pos hj, if_neg (by omega), if_pos rfl, mul_one]
        rw [s1, s2, xor_self]) i (by omega)
      rw [hld _ i hi] at hK
      have := xor_eq_zero hK
      rw [if_neg (by omega)] at this
      have h2 : ld (m.getD i []) (fun k => co ((dropR y.1 n).getD k []) j) n = ld (m.getD i []) (fun k => if k < n then co (y.1.getD k []) (n + j) else if k = n + j then 1 else 0) n := by
        unfold ld
        exact sm_congr n fun k hk => by simp only; rw [hB k hk, if_pos hk]
      rw [h2, this]
      by_cases e3 : i = j
      · rw [if_pos (by omega), if_pos e3]
      · rw [if_neg (by omega), if_neg e3]
    · intro i j hi hj
      have hB : ∀ k, k < n → ∀ j, co ((dropR y.1 n).getD k []) j = co (y.1.getD k []) (n + j) := fun k hk j => by unfold dropR; rw [getD_tab _ _ _ (by omega), co_drop]
      have hK := (hR.ker (fun k => if k < n then (if k = j then 1 else 0) else co (m.getD (k - n) []) j)).2 (fun q hq => by
        rw [hld _ q (by omega)]
        rw [if_neg (by omega), show n + q - n = q by omega]
        have : ld (m.getD q []) (fun k => if k < n then (if k = j then (1 : UInt8) else 0) else co (m.getD (k - n) []) j) n = co (m.getD q []) j := by
          unfold ld
          rw [sm_one _ j n (fun k hk hkq => by simp only; rw [if_pos hk, if_neg hkq, mul_zero]), if_pos hj]; simp only; rw [if_pos hj, if_pos trivial, mul_one]
        rw [this, xor_self]) i (by omega)
      unfold ld at hK
      rw [la_split] at hK
      have s1 : sm (fun k => mul (co (y.1.getD i []) k) (if k < n then (if k = j then (1 : UInt8) else 0) else co (m.getD (k - n) []) j)) n = if i = j then 1 else 0 := by
        rw [sm_one _ i n (fun k hk hkq => by rw [hone i k hi hk, if_neg (Ne.symm hkq), zero_mul]), if_pos hi, hone i i hi hi, if_pos rfl, one_mul, if_pos hi]
      have s2 : sm (fun k => mul (co (y.1.getD i []) (n + k)) (if n + k < n then (if n + k = j then (1 : UInt8) else 0) else co (m.getD (n + k - n) []) j)) n = ld ((dropR y.1 n).getD i []) (fun k => co (m.getD k []) j) n := by
        unfold ld
        exact sm_congr n fun k hk => by rw [if_neg (by omega), hB i hi, show n + k - n = k by omega]
      rw [s1, s2] at hK
      exact (xor_eq_zero hK).symm
  · right
    refine ⟨hInv (by rw [if_pos (by omega)]), v, fun i hi => ?_, k, hk, hk'⟩
    have := hv i (by omega)
    rw [hld v i (by omega), hvz (n + i) (by omega), xor_zero] at this
    exact this
theorem Inverse_bad (m : List (List UInt8)) (d : Nat) (h0 : 0 < m.length) (hr : Rec m d) (hd : m.length ≠ d) (b : Bool) : matrix_Inverse (some m) b = some (none, 1) := by
  unfold matrix_Inverse
  rw [Size_some m h0, Option.bind_some, if_neg (by simp)]
  cases b
  · rw [if_pos (by simp)]
  · rw [if_neg (by simp)]
    simp only
    rw [hr 0 h0, if_neg (by omega)]
end Gk

/- Newton's divided differences give the polynomial through places and values. Plain. No condition. -/
set_option linter.unusedSimpArgs false
set_option linter.unusedVariables false
namespace Gf
def hn (xs c : Nat → UInt8) (x : UInt8) (n : Nat) : Nat → UInt8
  | 0 => 0
  | k + 1 => c (n - (k + 1)) ^^^ mul (hn xs c x n k) (x ^^^ xs (n - (k + 1)))
end Gf

/- Syndromes over GF(256), in plain Lean. No condition. -/
set_option linter.unusedSimpArgs false
set_option linter.unusedVariables false
namespace Gf
theorem pow_succ (a : UInt8) (n : Nat) : pow a (n + 1) = mul (pow a n) a := rfl
theorem powZ_nat (a : UInt8) (n : Nat) : Gk.powZ a (n : Int) = pow a n := by
  unfold Gk.powZ
  by_cases h0 : n = 0
  · subst h0; rfl
  · rw [if_neg (by omega)]
    by_cases ha : a = 0
    · rw [if_pos ha, ha, pow_zero_base n (by omega)]
    · rw [if_neg ha]
      have e : ((n : Int) % 255).toNat = n % 255 := by omega
      rw [e]
      conv => rhs; rw [← pw_lg ha, pow_pw]
      rw [← pw_mod (lg a * (n % 255)), ← pw_mod (lg a * n), Nat.mul_mod_mod]
end Gf

/- Chapter 4: Vandermonde's and Cauchy's, in plain Lean; the law MatrixNamed. No condition but lengths. -/
set_option linter.unusedSimpArgs false
set_option linter.unusedVariables false
namespace Gk
open Gf
theorem mget_mputV (m : List (UInt8 × Bool)) (k a : UInt8) : mget (mput m k true) a = (decide (a = k) || mget m a) := by
  unfold mput
  split
  · rename_i hk
    unfold mget
    rw [List.find?_map]
    have hf : ((fun p : UInt8 × Bool => p.1 == a) ∘ fun p => if p.1 = k then (p.1, true) else p) = (fun p => p.1 == a) := by
      funext p; simp only [Function.comp]; split <;> rfl
    rw [hf]
    cases hm : m.find? (fun p => p.1 == a) with
    | none =>
      by_cases hak : a = k
      · subst hak
        obtain ⟨p, hp, e⟩ := List.mem_map.1 hk
        have := List.find?_eq_none.1 hm p hp
        simp [e] at this
      · simp [hak]
    | some p =>
      have hp : p.1 = a := by simpa using List.find?_some hm
      by_cases hak : a = k
      · subst hak; simp [hp]
      · have : p.1 ≠ k := fun e => hak (hp.symm.trans e)
        simp [hak, this]
  · rename_i hk
    unfold mget
    rw [List.find?_append]
    cases hm : m.find? (fun p => p.1 == a) with
    | none =>
      by_cases hak : a = k
      · subst hak; simp
      · simp [hak, Ne.symm hak]
    | some p =>
      have hp : p.1 = a := by simpa using List.find?_some hm
      have : a ≠ k := fun e => hk (List.mem_map.2 ⟨p, List.mem_of_find?_eq_some hm, hp.trans e⟩)
      simp [this]
theorem la_front (f : Nat → UInt8) : ∀ n, sm f (n + 1) = f 0 ^^^ sm (fun i => f (i + 1)) n
  | 0 => by show 0 ^^^ f 0 = f 0 ^^^ 0; rw [xor_comm]
  | n + 1 => by
    show sm f (n + 1) ^^^ f (n + 1) = f 0 ^^^ (sm (fun i => f (i + 1)) n ^^^ f (n + 1))
    rw [la_front f n, xor_assoc]
theorem evp_sum : ∀ (p : List UInt8) (x : UInt8), evp p x = sm (fun k => mul (pow x k) (co p k)) p.length
  | [], x => rfl
  | c :: p, x => by
    show c ^^^ mul (evp p x) x = sm _ (p.length + 1)
    rw [la_front, evp_sum p x, mul_comm, ← la_mul]
    congr 1
    · exact (one_mul c).symm
    · exact sm_congr _ fun k _ => by
        rw [co_succ, pow_succ, mul_left_comm, ← mul_assoc]
theorem getD_vdm (xs : List UInt8) (c i : Nat) (h : i < xs.length) : (vdm xs c).getD i [] = (List.range c).map fun (k : Nat) => powZ (co xs i) (k : Int) := by unfold vdm; rw [getD_tab _ _ _ h]
theorem vdm_len (xs : List UInt8) (c : Nat) : (vdm xs c).length = xs.length := by simp [vdm]
theorem vdm_rec (xs : List UInt8) (c : Nat) : Rec (vdm xs c) c := fun i hi => by rw [vdm_len] at hi; rw [getD_vdm _ _ _ hi]; simp
theorem vdm_ker (xs : List UInt8) (hn : xs.Nodup) (v : Nat → UInt8) (h : Ker (vdm xs xs.length) xs.length v) (k : Nat) (hk : k < xs.length) : v k = 0 := by
  have := roots xs hn ((List.range xs.length).map v) (by have := dg_len ((List.range xs.length).map v); simpa using this) (fun a ha => by
    obtain ⟨j, hj, rfl⟩ := mem_co ha
    have := h j (by rw [vdm_len]; exact hj)
    rw [getD_vdm _ _ _ hj] at this
    rw [evp_sum, List.length_map, List.length_range]
    refine Eq.trans (sm_congr _ fun i hi => ?_) this
    rw [co_tab, if_pos hi, co_tab, if_pos hi, powZ_nat]) k
  rwa [co_tab, if_pos hk] at this
theorem not_nodup {xs : List UInt8} (h : ¬ xs.Nodup) : ∃ i j, i < j ∧ j < xs.length ∧ co xs i = co xs j := by
  refine Classical.byContradiction fun hn => h ?_
  rw [List.Nodup, List.pairwise_iff_getElem]
  intro i j hi hj hij e
  exact hn ⟨i, j, hij, hj, by rw [co_lt hi, co_lt hj]; exact e⟩
theorem vdm_inv (xs : List UInt8) (h0 : 0 < xs.length) (h1 : xs.length ≤ 64) : (xs.Nodup → ∃ B, matrix_Inverse (some (vdm xs xs.length)) true = some (some B, 0)) ∧ (¬ xs.Nodup → matrix_Inverse (some (vdm xs xs.length)) true = some (none, 7)) := by
  rcases Inverse_ok (vdm xs xs.length) xs.length h0 h1 (vdm_len _ _) (vdm_rec _ _) with ⟨B, e, _, _, hB, _⟩ | ⟨e, v, hv, k, hk, hk'⟩
  · refine ⟨fun _ => ⟨B, e⟩, fun hn => ?_⟩
    obtain ⟨i, j, hij, hj, hx⟩ := not_nodup hn
    have h1 := hB i i (by omega) (by omega)
    have h2 := hB j i hj (by omega)
    rw [getD_vdm _ _ _ (by omega)] at h1 h2
    rw [← hx, h1, if_pos rfl, if_neg (by omega)] at h2
    exact absurd h2 (by decide)
  · exact ⟨fun hn => absurd (vdm_ker xs hn v hv k hk) hk', fun _ => e⟩
theorem Vandermonde_range (xs : List UInt8) (c : Nat) (h : xs.length = 0 ∨ c = 0 ∨ 64 < c) (h1 : xs.length ≤ 64) : matrix_Vandermonde true xs (c : Int) = some (none, 2) := by
  unfold matrix_Vandermonde
  rw [if_neg (by decide), size_eq, Option.bind_some]
  by_cases h0 : xs.length = 0
  · rw [if_pos (by simp; omega)]
  · rw [if_neg (by simp; omega), size_eq, Option.bind_some, if_pos (by simp; omega)]
def cau (xs ys : List UInt8) : List (List UInt8) := (List.range xs.length).map fun i => (List.range ys.length).map fun j => inv (co xs i ^^^ co ys j)
theorem getD_cau (xs ys : List UInt8) (i : Nat) (h : i < xs.length) : (cau xs ys).getD i [] = (List.range ys.length).map fun j => inv (co xs i ^^^ co ys j) := by unfold cau; rw [getD_tab _ _ _ h]
theorem cau_len (xs ys : List UInt8) : (cau xs ys).length = xs.length := by simp [cau]
theorem cau_rec (xs ys : List UInt8) : Rec (cau xs ys) ys.length := fun i hi => by rw [cau_len] at hi; rw [getD_cau _ _ _ hi]; simp
theorem pe_ge (ys : List UInt8) (x : UInt8) (k N : Nat) : ∀ m, m ≤ k → m ≤ N → pe ys k x m = pe ys N x m
  | 0, _, _ => rfl
  | m + 1, h1, h2 => by
    unfold pe
    rw [if_neg (by omega), if_neg (by omega), pe_ge ys x k N m (by omega) (by omega)]
theorem pe_full (ys : List UInt8) (x : UInt8) (k N : Nat) : ∀ m, k < m → m ≤ N → mul (pe ys k x m) (x ^^^ co ys k) = pe ys N x m
  | 0, h, _ => by omega
  | m + 1, h1, h2 => by
    unfold pe
    rw [if_neg (show ¬ m = N by omega)]
    by_cases e : m = k
    · rw [if_pos e, pe_ge ys x k N m (by omega) (by omega), e]
    · rw [if_neg e, mul_assoc, mul_comm (x ^^^ co ys m), ← mul_assoc, pe_full ys x k N m (by omega) (by omega)]
theorem nodup_app {xs ys : List UInt8} (h : (xs ++ ys).Nodup) : xs.Nodup ∧ ys.Nodup ∧ ∀ i j, i < xs.length → j < ys.length → co xs i ^^^ co ys j ≠ 0 := by
  rw [List.nodup_append] at h
  exact ⟨h.1, h.2.1, fun i j hi hj e => h.2.2 _ (co_mem hi) _ (co_mem hj) (xor_eq_zero e)⟩
theorem cau_ker (xs ys : List UInt8) (hn : (xs ++ ys).Nodup) (hl : xs.length = ys.length) (v : Nat → UInt8) (h : Ker (cau xs ys) ys.length v) (k : Nat) (hk : k < ys.length) : v k = 0 := by
  obtain ⟨hx, hy, hne⟩ := nodup_app hn
  have hz := roots xs hx (lag ys v ys.length) (by rw [hl]; exact dg_lag ys v _ (Nat.le_refl _)) (fun a ha => by
    obtain ⟨i, hi, rfl⟩ := mem_co ha
    have h1 := h i (by rw [cau_len]; exact hi)
    rw [getD_cau _ _ _ hi] at h1
    rw [ev_lag]
    have h2 : sm (fun j => mul (v j) (pe ys j (co xs i) ys.length)) ys.length = mul (pe ys ys.length (co xs i) ys.length) (ld ((List.range ys.length).map fun j => inv (co xs i ^^^ co ys j)) v ys.length) := by
      unfold ld
      rw [← la_mul]
      refine sm_congr _ fun j hj => ?_
      rw [co_tab, if_pos hj, ← pe_full ys (co xs i) j ys.length ys.length hj (Nat.le_refl _), mul_assoc, ← mul_assoc (co xs i ^^^ co ys j), mul_inv (hne i j hi hj), one_mul, mul_comm]
    rw [h2, h1, mul_zero])
  have h3 := ev_lag ys v (co ys k) ys.length
  rw [ev_zero _ _ hz, sm_one _ k ys.length (fun i hi hik => by rw [pe_zero ys i k (Ne.symm hik) _ hk, mul_zero]), if_pos hk] at h3
  rcases mul_eq_zero h3.symm with e | e
  · exact e
  · exact absurd e (pe_ne hy hk _ (Nat.le_refl _))
theorem seen_loop {Z : Type} (l : List UInt8) (hl : l.length ≤ most) (bad : Z) : ∃ x : Unit ⊕ Z, iterC (fun s : (List (UInt8 × Bool)) × Int => ((if s.2 < (l.length : Int) then ((idx l s.2).bind fun c => (if mget s.1 c = true then some (.inr (.inr bad)) else some (.inl ((mput s.1 c true), (wI (s.2 + 1)))))) else some (.inr (.inl ()))) : Option (((List (UInt8 × Bool)) × Int) ⊕ (Unit ⊕ Z)))) (([] : List (UInt8 × Bool)), 0) = some x ∧ (l.Nodup → x = .inl ()) ∧ (¬ l.Nodup → x = .inr bad) := by
  have hm := most_lt'
  refine iterC_inv (fun s => ∃ i : Nat, s.2 = (i : Int) ∧ i ≤ l.length ∧ (∀ a, mget s.1 a = true ↔ a ∈ l.take i) ∧ (l.take i).Nodup) (fun s => l.length - s.2.toNat) (fun x : Unit ⊕ Z => (l.Nodup → x = .inl ()) ∧ (¬ l.Nodup → x = .inr bad)) ?_ _ ⟨0, rfl, Nat.zero_le _, fun a => by simp [mget], by simp⟩
  rintro ⟨s, _⟩ ⟨i, rfl, hi, hs, hn⟩
  simp only at hs ⊢
  by_cases h : i < l.length
  · rw [if_pos (by omega), idx_co h, Option.bind_some]
    have ht : l.take (i + 1) = l.take i ++ [co l i] := by rw [List.take_add_one, co_get h]; rfl
    by_cases hm2 : mget s (co l i) = true
    · right
      rw [if_pos hm2]
      have hnn : ¬ l.Nodup := fun hN => by
        have h1 : (l.take (i + 1)).Nodup := hN.sublist (List.take_sublist _ _)
        rw [ht, List.nodup_append] at h1
        exact h1.2.2 _ ((hs _).1 hm2) _ (by simp) rfl
      exact ⟨_, rfl, fun hN => absurd hN hnn, fun _ => rfl⟩
    · left
      rw [if_neg hm2]
      refine ⟨_, rfl, ⟨i + 1, wI_succ i (by omega), by omega, fun a => ?_, ?_⟩, by simp only; rw [wI_succ i (by omega)]; omega⟩
      · simp only
        rw [mget_mputV, ht, List.mem_append, ← hs a]
        simp [or_comm]
      · rw [ht, List.nodup_append]
        exact ⟨hn, by simp, fun a ha b hb e => by
          rw [List.mem_singleton] at hb
          exact hm2 ((hs _).2 (by rw [← hb, ← e]; exact ha))⟩
  · right
    rw [if_neg (by omega)]
    rw [List.take_of_length_le (by omega)] at hn
    exact ⟨_, rfl, fun _ => rfl, fun hN => absurd hn hN⟩
theorem Named_1_eq (l : List UInt8) (hl : l.length ≤ most) : ∃ b, law04_MatrixNamed_1 l = some b ∧ (b = true ↔ l.Nodup) := by
  unfold law04_MatrixNamed_1
  obtain ⟨x, e, h1, h2⟩ := seen_loop l hl false
  rw [e, Option.bind_some]
  by_cases h : l.Nodup
  · rw [h1 h]; exact ⟨true, rfl, by simp [h]⟩
  · rw [h2 h]; exact ⟨false, rfl, by simp [h]⟩
theorem Cauchy_range (xs ys : List UInt8) (h1 : xs.length ≤ 64) (h : xs.length = 0 ∨ ys.length = 0) : matrix_Cauchy true xs ys = some (none, 2) := by
  unfold matrix_Cauchy
  rw [if_neg (by decide), size_eq, Option.bind_some]
  by_cases h0 : xs.length = 0
  · rw [if_pos (by simp; omega)]
  · rw [if_neg (by simp; omega), size_eq, Option.bind_some, if_pos (by simp; omega)]
theorem inv_fst (a : UInt8) : (if a = 0 then ((0 : UInt8), (7 : Int)) else (inv a, 0)).1 = inv a := by
  by_cases h : a = 0
  · rw [if_pos h, h, inv_zero]
  · rw [if_neg h]
theorem Cauchy_ok (xs ys : List UInt8) (h0 : 0 < xs.length) (h1 : xs.length ≤ 64) (c0 : 0 < ys.length) (c1 : ys.length ≤ 64) : ((xs ++ ys).Nodup → matrix_Cauchy true xs ys = some (some (cau xs ys), 0)) ∧ (¬ (xs ++ ys).Nodup → matrix_Cauchy true xs ys = some (none, 6)) := by
  unfold matrix_Cauchy
  have hmo := h257
  have hm2 := most_lt'
  rw [if_neg (by decide), size_eq, Option.bind_some, if_neg (by simp; omega), size_eq, Option.bind_some, if_neg (by simp; omega), Concat_eq _ (by simp; omega) (by simp; omega), Option.bind_some, show [xs, ys].flatten = xs ++ ys from by simp]
  obtain ⟨x, e, e1, e2⟩ := seen_loop (xs ++ ys) (by simp; omega) ((none : Option (List (List UInt8))), (6 : Int))
  rw [e, Option.bind_some]
  refine ⟨fun hn => ?_, fun hn => by rw [e2 hn]; rfl⟩
  rw [e1 hn, Sum.elim_inl, blank_eq _ _ (by omega) (by omega), Option.bind_some]
  refine bind_of (x := cau xs ys) ?_ rfl
  refine rows_loop _ xs.length (by simp) _ (fun i hi => ?_) (fun s => by simp)
  simp only
  have hU := updR_len (List.replicate xs.length (List.replicate ys.length (0 : UInt8))) (fun i => (List.range ys.length).map fun j => inv (co xs i ^^^ co ys j)) i
  have hG := getD_updR (List.replicate xs.length (List.replicate ys.length (0 : UInt8))) (fun i => (List.range ys.length).map fun j => inv (co xs i ^^^ co ys j)) i i (by simpa using hi)
  rw [if_neg (by omega), getD_rep _ hi] at hG
  rw [List.length_replicate] at hU
  generalize updR (List.replicate xs.length (List.replicate ys.length (0 : UInt8))) (fun i => (List.range ys.length).map fun j => inv (co xs i ^^^ co ys j)) i = s at hU hG ⊢
  rw [if_pos (by omega), idx_co hi, Option.bind_some]
  refine bind_of (row_loop s i ys.length (by omega) (by rw [hG]; simp) (fun j => inv (co xs i ^^^ co ys j)) (fun k hk => ?_) (fun s => by simp)) (by rw [wI_succ i (by omega)])
  simp only
  rw [if_pos (by omega), idx_co hk, Option.bind_some, idx_set (by omega), Option.bind_some, Add_eq, Option.bind_some, Inv_eq, Option.bind_some, idx_updB _ _ _ _ (by rw [hG]; simpa using hk), Option.bind_some, wI_succ k (by omega), Int.toNat_natCast, Int.toNat_natCast, List.set_set, inv_fst]
theorem cau_inv (xs ys : List UInt8) (h0 : 0 < xs.length) (h1 : xs.length ≤ 64) (hn : (xs ++ ys).Nodup) : ∃ r, matrix_Inverse (some (cau xs ys)) true = some r ∧ (decide (r.2 = 0) == decide ((xs.length : Int) = (ys.length : Int))) = true := by
  by_cases hl : xs.length = ys.length
  · rcases Inverse_ok (cau xs ys) xs.length h0 h1 (cau_len _ _) (by rw [hl]; exact cau_rec _ _) with ⟨B, e, _⟩ | ⟨e, v, hv, k, hk, hk'⟩
    · exact ⟨_, e, by simp [hl]⟩
    · exact absurd (cau_ker xs ys hn hl v (by rw [← hl]; exact hv) k (by omega)) hk'
  · refine ⟨_, Inverse_bad (cau xs ys) ys.length (by rw [cau_len]; exact h0) (cau_rec xs ys) (by rw [cau_len]; exact hl) true, ?_⟩
    have : ¬ (xs.length : Int) = (ys.length : Int) := by omega
    simp [this]
noncomputable def named2 (xs ys : List UInt8) : Option Bool :=
(((if 0 < (xs.length : Int) then
((matrix_Vandermonde true xs (xs.length : Int)).bind fun r43 =>
((matrix_Inverse r43.1 true).bind fun r45 =>
((law04_MatrixNamed_1 xs).bind fun r47 =>
(if (!(((decide (r45.2 = 0))) == r47)) = true then some (.inr false)
else some (.inl ())))))
else some (.inl ()))).bind (Sum.elim (fun s41 =>
((matrix_Cauchy true xs ys).bind fun r51 =>
(if (xs.length : Int) = 0 then
(if r51.2 = 2 then some r51.1.isNone
else some false)
else
(if (ys.length : Int) = 0 then
(if r51.2 = 2 then some r51.1.isNone
else some false)
else
((appL (([] : List UInt8)) xs).bind fun c60 =>
((appL c60 ys).bind fun c63 =>
((law04_MatrixNamed_1 c63).bind fun r67 =>
(if (!r67) = true then
(if r51.2 = 6 then some r51.1.isNone
else some false)
else
((law04_rows r51.1).bind fun r71 =>
((iterC (fun s73 : Int =>
(if s73 < (r71.length : Int) then
((idx r71 s73).bind fun c76 =>
((iterC (fun s78 : Int =>
(if s78 < (c76.length : Int) then
((idx c76 s78).bind fun c83 =>
((idx xs s73).bind fun c84 =>
((idx ys s78).bind fun c85 =>
((ref02_Inv (c84 ^^^ c85)).bind fun r86 =>
(if c83 = r86 then some (.inl (wI (s78 + 1)))
else some (.inr (.inr false)))))))
else some (.inr (.inl ())))) 0).bind (Sum.elim (fun y78 => some (.inl (wI (s73 + 1)))) (fun q78 => some (.inr (.inr q78))))))
else some (.inr (.inl ())))) 0).bind (Sum.elim (fun y73 =>
((matrix_Inverse r51.1 true).bind fun r94 =>
(if r51.2 = 0 then some (((decide (r94.2 = 0))) == ((decide ((xs.length : Int) = (ys.length : Int)))))
else some false))) (fun q73 => some q73)))))))))))) (fun q41 => some q41)))
theorem named2_ok (xs ys : List UInt8) (h1 : xs.length ≤ 20) (h2 : ys.length ≤ 20) : named2 xs ys = some true := by
  unfold named2
  have hmo := h257
  have hm2 := most_lt'
  refine bind_of (x := .inl ()) ?_ ?_
  · by_cases h0 : 0 < xs.length
    · rw [if_pos (by omega), Vandermonde_ok xs xs.length h0 (by omega) h0 (by omega), Option.bind_some]
      simp only
      obtain ⟨b, e, hb⟩ := Named_1_eq xs (by omega)
      have hv := vdm_inv xs h0 (by omega)
      by_cases hn : xs.Nodup
      · obtain ⟨B, eB⟩ := hv.1 hn
        have : b = true := hb.2 hn
        rw [eB, Option.bind_some, e, Option.bind_some, this]; rfl
      · have : b = false := by cases b with | false => rfl | true => exact absurd (hb.1 rfl) hn
        rw [hv.2 hn, Option.bind_some, e, Option.bind_some, this]; rfl
    · rw [if_neg (by omega)]
  · rw [Sum.elim_inl]
    by_cases hx0 : xs.length = 0
    · rw [Cauchy_range xs ys (by omega) (.inl hx0), Option.bind_some, if_pos (by omega)]; rfl
    · by_cases hy0 : ys.length = 0
      · rw [Cauchy_range xs ys (by omega) (.inr hy0), Option.bind_some, if_neg (by omega), if_pos (by omega)]; rfl
      · have hc := Cauchy_ok xs ys (by omega) (by omega) (by omega) (by omega)
        obtain ⟨b, e, hb⟩ := Named_1_eq (xs ++ ys) (by rw [List.length_append]; omega)
        have ap : appL ([] : List UInt8) xs = some xs := appL_nil xs (by omega)
        have ap2 : appL xs ys = some (xs ++ ys) := by unfold appL; rw [if_pos (by omega)]
        by_cases hn : (xs ++ ys).Nodup
        · have hbt : b = true := hb.2 hn
          rw [hc.1 hn, Option.bind_some, if_neg (by omega), if_neg (by omega), ap, Option.bind_some, ap2, Option.bind_some, e, Option.bind_some, hbt, if_neg (by decide)]
          simp only
          rw [rows_some _ (by rw [cau_len]; omega) (by rw [cau_len]; omega) (fun i hi => by rw [cau_rec xs ys i hi]; omega), Option.bind_some, cau_len]
          refine bind_of (iterC_count (fun i => (i : Int)) xs.length (.inl ()) rfl (fun i hi => ?_) (by simp)) ?_
          · rw [if_pos (by omega), idx_getD (by rw [cau_len]; exact hi), Option.bind_some, getD_cau _ _ _ hi]
            refine bind_of (iterC_count (fun i => (i : Int)) ys.length (.inl ()) rfl (fun j hj => ?_) (by simp)) ?_
            · rw [if_pos (by simp; omega), idx_co (by simpa using hj), Option.bind_some, idx_co hi, Option.bind_some, idx_co hj, Option.bind_some, refInv_eq, Option.bind_some, co_tab, if_pos hj, if_pos rfl, wI_succ j (by omega)]
            · rw [Sum.elim_inl, wI_succ i (by omega)]
          · rw [Sum.elim_inl]
            obtain ⟨r, er, hr⟩ := cau_inv xs ys (by omega) (by omega) hn
            rw [er, Option.bind_some, if_pos trivial, hr]
        · have hbf : b = false := by cases b with | false => rfl | true => exact absurd (hb.1 rfl) hn
          rw [hc.2 hn, Option.bind_some, if_neg (by omega), if_neg (by omega), ap, Option.bind_some, ap2, Option.bind_some, e, Option.bind_some, hbf, if_pos (by decide)]; rfl
theorem mod70 (n : Int) : ∃ k : Nat, k < 70 ∧ wI (((UInt64.ofInt n % (70 : UInt64)).toNat : Nat) : Int) = (k : Int) := by
  have h : (UInt64.ofInt n % (70 : UInt64)).toNat < 70 := by
    rw [UInt64.toNat_mod]; exact Nat.mod_lt _ (by decide)
  exact ⟨_, h, wI_nat (by omega)⟩
theorem law04_MatrixNamed_true (xs ys : List UInt8) (columns : Int) (lo2 : -9223372036854775808 ≤ columns) (hi2 : columns ≤ 9223372036854775807) : law04_MatrixNamed xs ys columns = some true := by
  unfold law04_MatrixNamed
  have hmo := h257
  have hm2 := most_lt'
  rw [lives4, Option.bind_some, if_neg (by decide)]
  by_cases hx : 20 < xs.length
  · rw [if_pos (by omega), Option.bind_some]
  rw [if_neg (by omega)]
  by_cases hy : 20 < ys.length
  · rw [if_pos (by omega), Option.bind_some]
  rw [if_neg (by omega), field_New, Option.bind_some]
  obtain ⟨k, hk, ek⟩ := mod70 columns
  simp only [ek]
  have hN := named2_ok xs ys (by omega) (by omega)
  have hnone : ∀ {body : Int → Option (Int ⊕ (Unit ⊕ Bool))}, body 0 = some (Sum.inr (Sum.inl ())) → iterC body 0 = some (Sum.inl () : Unit ⊕ Bool) := fun {body} h => iterC_count (fun i => (i : Int)) 0 (Sum.inl () : Unit ⊕ Bool) rfl (fun i hi => absurd hi (by omega)) h
  by_cases hx0 : xs.length = 0
  · rw [Vandermonde_range xs k (.inl hx0) (by omega), Option.bind_some, if_pos (by omega), if_neg (by decide), if_neg (by simp), rows_none, Option.bind_some, hnone (by simp), Option.bind_some, Sum.elim_inl]
    exact hN
  by_cases hk0 : k = 0
  · rw [Vandermonde_range xs k (.inr (.inl hk0)) (by omega), Option.bind_some, if_neg (by omega), if_pos (by omega), if_neg (by decide), if_neg (by simp), rows_none, Option.bind_some, hnone (by simp), Option.bind_some, Sum.elim_inl]
    exact hN
  by_cases hk1 : 64 < k
  · rw [Vandermonde_range xs k (.inr (.inr hk1)) (by omega), Option.bind_some, if_neg (by omega), if_neg (by omega), if_neg (by simp; omega), if_neg (by simp; omega), rows_none, Option.bind_some, hnone (by simp), Option.bind_some, Sum.elim_inl]
    exact hN
  · rw [Vandermonde_ok xs k (by omega) (by omega) (by omega) (by omega), Option.bind_some, if_neg (by omega), if_neg (by omega), if_neg (by simp; omega), if_neg (by simp; omega), rows_some _ (by rw [vdm_len]; omega) (by rw [vdm_len]; omega) (fun i hi => by rw [vdm_rec xs k i hi]; omega), Option.bind_some, vdm_len]
    refine bind_of (iterC_count (fun i => (i : Int)) xs.length (.inl ()) rfl (fun i hi => ?_) (by simp)) ?_
    · rw [if_pos (by omega), idx_getD (by rw [vdm_len]; exact hi), Option.bind_some, getD_vdm _ _ _ hi]
      refine bind_of (iterC_count (fun i => (i : Int)) k (.inl ()) rfl (fun j hj => ?_) (by simp)) ?_
      · rw [if_pos (by simp; omega), idx_co (by simpa using hj), Option.bind_some, idx_co hi, Option.bind_some, refPow_eq, Option.bind_some, co_tab, if_pos hj, if_pos rfl, wI_succ j (by omega)]
      · rw [Sum.elim_inl, wI_succ i (by omega)]
    · rw [Sum.elim_inl]; exact hN
end Gk
